/- A part of the proof: what the program's functions answer.
Conditions: none beyond each theorem's own. -/
import Derived.Test.YtdljfalidkpfoaaDoorW1
/-
The walks of Go functions in the logic AL: what each of them answers.
Conditions: those of each theorem.
-/
set_option linter.unusedVariables false
set_option linter.unusedSimpArgs false
namespace Go.Proofs.YtdljfalidkpfoaaDoor
open Go.AL Go.NumSpec

set_option maxRecDepth 100000 in
/-- provost/provostref06.at -/
theorem ref06_at_ok (name : List UInt8) (hn : name.length ≤ 1000000) (i : Int) (hi : fits i) : PCalls Tryd.prog 45 [.S name, .int .i64 i] (.S (atT name i)) := by
  intro st
  refine ACalls_of (N := 11) Tryd.func45 (by kernel_rfl) rfl rfl rfl ?_
  have ht := textL_len hi
  refine AC_seq ?_
  refine AC_region ?_
  refine AL_p rfl rfl (S_assign rfl (AEv.S _)) ?_
  refine AL_nil ?_
  refine AC_seq ?_
  refine AC_region ?_
  refine AL_p rfl rfl (S_move rfl (.tmp rfl)) ?_
  refine AL_p rfl rfl (S_cat rfl (.tmp rfl) (AEv.S _) (by first | omega | (simp only [List.length_append, List.length_cons, List.length_nil]; omega))) ?_
  refine AL_p rfl rfl (S_move rfl (.tmp rfl)) ?_
  refine AL_p rfl rfl (S_pcall rfl (AEvs.cons (.tmp rfl) AEvs.nil) (ref_Text_ok i hi)) ?_
  refine AL_p rfl rfl (S_cat rfl (.tmp rfl) (.tmp rfl) (by first | omega | (simp only [List.length_append, List.length_cons, List.length_nil]; omega))) ?_
  refine AL_p rfl rfl (S_cat rfl (.tmp rfl) (AEv.S _) (by first | omega | (simp only [List.length_append, List.length_cons, List.length_nil]; omega))) ?_
  refine AL_p rfl rfl (S_assign rfl (.tmp rfl)) ?_
  refine AL_nil ?_
  refine AC_ret ?_
  refine ret_tmp st rfl rfl (Sub.l (List.Sublist.refl _)) (Conv.refl (Sub.l (List.Sublist.refl _)) _) ⟨rfl, rfl⟩ (.inl rfl)

set_option maxRecDepth 100000 in
/-- provost/provostref06.Labels -/
theorem ref06_Labels_ok (name : List UInt8) (hn : name.length ≤ 1000000) (l : List Lab) (hls : ∀ x ∈ l, x.1.length ≤ 9223372036854775807 ∧ x.2.length ≤ 9223372036854775807) : PCalls Tryd.prog 31 [.S name, .sl (labsV l)] (cpAV (labelsE name l)) := by
  intro st
  refine ACalls_of (N := 59) Tryd.func31 (by kernel_rfl) rfl rfl rfl ?_
  refine AC_seq ?_
  refine AC_region ?_
  refine AL_p rfl rfl (S_assign rfl (AEv.const _)) ?_
  refine AL_p rfl rfl (S_assign rfl (AEv.S _)) ?_
  refine AL_nil ?_
  refine AC_seq ?_
  refine AC_seq ?_
  refine AC_region ?_
  refine AL_p rfl rfl (S_move rfl (.tmp rfl)) ?_
  refine AL_p rfl rfl (by first | exact S_lenM (e := 52) rfl (.tmp rfl) (by kernel_rfl) | exact S_len (e := 52) rfl (.tmp rfl) (by kernel_rfl)) ?_
  refine AL_p rfl rfl (S_gtr rfl (.tmp rfl) (AEv.const _)) ?_
  refine AL_nil ?_
  refine AC_cond (.tmp rfl) (fun hb1 => ?_) (fun hb1 => ?_)
  · try simp only [zA, zO, zN, zM, zP, zQ, zD, zF, gd] at hb1
    have hbad : (labelsE name l) = some (2, [name]) := by rw [labelsE_bad (by unfold atMostE; rw [if_pos (by omega)]; simp)]; unfold atMostE; rw [if_pos (by omega)]
    refine AC_seq ?_
    refine AC_region ?_
    refine AL_p rfl rfl (S_move rfl (.tmp rfl)) ?_
    refine AL_p rfl rfl (S_assign rfl (AEv.const _)) ?_
    refine AL_p rfl rfl (S_assign rfl (.tmp rfl)) ?_
    refine AL_nil ?_
    refine AC_ret ?_
    refine ret_tmps (ts := [4, 5]) st rfl (by decide) rfl (Sub.l (List.Sublist.refl _)) (Conv.refl (Sub.l (List.Sublist.refl _)) _) ⟨cp_some hbad (Lib.join_one _ _).symm, rfl⟩ (.inl rfl)
  try simp only [zA, zO, zN, zM, zP, zQ, zD, zF, gd] at hb1
  have hgood : (labelsE name l) = eachE l.length (labelE name l) := labelsE_good (by unfold atMostE; rw [if_neg (by omega)])
  refine AC_skip ?_
  refine AC_seq ?_
  refine AC_seq ?_
  refine AC_region ?_
  refine AL_p rfl rfl (S_assign rfl (AEv.const _)) ?_
  refine AL_nil ?_
  refine AC_block ?_
  refine AC_loopK (G := Nat) [(0, _), (1, _)] (fun g => g ≤ l.length ∧ ∀ j, j < g → labelE name l j = none) (fun g => [(6, .int .i64 (g : Int))]) (fun g => st) (fun g => l.length - g) (0) (⟨Nat.zero_le _, fun j h => absurd h (Nat.not_lt_zero _)⟩) (Sub.l (List.Sublist.refl _)) (.cons rfl (Le.refl _) (.cons rfl (Le.refl _) .nil)) (.cons rfl (by first | exact Le.refl _ | exact Le.nils | exact Le.row _ _ _ _ | exact Le.of_eq (by first | rfl | (simp; done) | (push_cast; rfl) | (simp; omega))) .nil) ?_
  rintro i ⟨hi, hall⟩
  try dsimp only
  simp only [List.cons_append, List.nil_append]
  refine AC_seq ?_
  refine AC_seq ?_
  refine AC_region ?_
  refine AL_p rfl rfl (S_move rfl (.tmp rfl)) ?_
  refine AL_p rfl rfl (S_move rfl (.tmp rfl)) ?_
  refine AL_p rfl rfl (by first | exact S_lenM (e := 52) rfl (.tmp rfl) (by kernel_rfl) | exact S_len (e := 52) rfl (.tmp rfl) (by kernel_rfl)) ?_
  refine AL_p rfl rfl (S_lss rfl (.tmp rfl) (.tmp rfl)) ?_
  refine AL_nil ?_
  refine AC_cond (.tmp rfl) (fun hb2 => ?_) (fun hb2 => ?_)
  · try simp only [zA, zO, zN, zM, zP, zQ, zD, zF, gd] at hb2
    have hil : i < l.length := by omega
    have him : i - 1 < l.length := by omega
    have hif : fits (i : Int) := by unfold fits; omega
    have hm := hls _ (List.getElem_mem hil)
    have hatl : (atT name (i : Int)).length ≤ 1000100 := atT_len hn hif
    refine AC_skip ?_
    refine AC_seq ?_
    refine AC_block ?_
    refine AC_seq ?_
    refine AC_seq ?_
    refine AC_region ?_
    refine AL_p rfl rfl (S_move rfl (.tmp rfl)) ?_
    refine AL_p rfl rfl (S_move rfl (.tmp rfl)) ?_
    refine AL_p rfl rfl (S_elemN (e := 52) 2 rfl (.tmp rfl) (.tmp rfl) (by kernel_rfl) (by kernel_rfl) (by omega) (fun _ => rfl)) ?_
    refine AL_p rfl rfl (S_fieldP 0 rfl (.tmp rfl) (by kernel_rfl)) ?_
    refine AL_p rfl rfl (S_loadP rfl (.tmp rfl) rfl (by kernel_rfl)) ?_
    refine AL_p rfl rfl (S_pcall rfl (AEvs.cons (.tmp rfl) AEvs.nil) (ref03_Key_ok (l[i]'hil).1 (by omega))) ?_
    refine AL_p rfl rfl (S_not rfl (.tmp rfl)) ?_
    refine AL_nil ?_
    refine AC_cond (.tmp rfl) (fun hb3 => ?_) (fun hb3 => ?_)
    · try simp only [zA, zO, zN, zM, zP, zQ, zD, zF, gd] at hb3
      have hx : (labelsE name l) = some (31, [atT name (i : Int), [107, 101, 121]]) := by rw [hgood, eachE_at hil (label_key hil hb3) hall]
      refine AC_seq ?_
      refine AC_region ?_
      refine AL_p rfl rfl (S_move rfl (.tmp rfl)) ?_
      refine AL_p rfl rfl (S_move rfl (.tmp rfl)) ?_
      refine AL_p rfl rfl (S_pcall rfl (AEvs.cons (.tmp rfl) (AEvs.cons (.tmp rfl) AEvs.nil)) (ref06_at_ok name hn (i : Int) hif)) ?_
      refine AL_p rfl rfl (S_cat rfl (.tmp rfl) (AEv.S _) (by first | omega | (simp only [List.length_append, List.length_cons, List.length_nil]; omega))) ?_
      refine AL_p rfl rfl (S_assign rfl (AEv.const _)) ?_
      refine AL_p rfl rfl (S_assign rfl (.tmp rfl)) ?_
      refine AL_nil ?_
      refine AC_ret ?_
      refine ret_tmps (ts := [4, 5]) st rfl (by decide) rfl (Sub.l (List.Sublist.refl _)) (Conv.refl (Sub.l (List.Sublist.refl _)) _) ⟨cp_some hx (by rw [join_two, List.append_assoc]; rfl), rfl⟩ (.inl rfl)
    try simp only [zA, zO, zN, zM, zP, zQ, zD, zF, gd] at hb3
    have hk1 : namesR 2 (l[i]'hil).1 = true := hb3
    refine AC_skip ?_
    refine AC_seq ?_
    refine AC_seq ?_
    refine AC_draw (by kernel_rfl) (by kernel_rfl) (.cons rfl (Q_p rfl (S_move rfl (.tmp rfl))) <|
        .cons rfl (Q_p rfl (S_gtr rfl (.tmp rfl) (AEv.const _))) <|
        .cons rfl (Q_p rfl (S_move rfl (.tmp rfl))) <|
        .cons rfl (Q_g rfl rfl (.tmp rfl) (fun hg4 => S_move rfl (.tmp rfl))) <|
        .cons rfl (Q_g rfl rfl (.tmp rfl) (fun hg7 => S_move rfl (.tmp rfl))) <|
        .cons rfl (Q_g rfl rfl (.tmp rfl) (fun hg10 => S_subI rfl (AEv.cond (.tmp rfl) (by first | assumption | exact gdAnd (by assumption) (by assumption))) (AEv.const _) (by (try simp only [gd, Bool.and_eq_true, Bool.or_eq_true, Bool.not_eq_true', Bool.not_eq_false', decide_eq_true_eq, decide_eq_false_iff_not, Bool.or_eq_false_iff, Bool.and_eq_false_iff] at *); omega) (by (try simp only [gd, Bool.and_eq_true, Bool.or_eq_true, Bool.not_eq_true', Bool.not_eq_false', decide_eq_true_eq, decide_eq_false_iff_not, Bool.or_eq_false_iff, Bool.and_eq_false_iff] at *); omega))) <|
        .cons rfl (Q_g rfl rfl (.tmp rfl) (fun hg13 => S_elemN (e := 52) (i := i - 1) (f := labAV) (l := l) 2 rfl (AEv.cond (.tmp rfl) (by first | assumption | exact gdAnd (by assumption) (by assumption))) ((AEv.cond (.tmp rfl) (by first | assumption | exact gdAnd (by assumption) (by assumption))).le (Le.of_eq (congrArg (AV.int _) (by (try simp only [gd, Bool.and_eq_true, Bool.or_eq_true, Bool.not_eq_true', Bool.not_eq_false', decide_eq_true_eq, decide_eq_false_iff_not, Bool.or_eq_false_iff, Bool.and_eq_false_iff] at *); omega)))) (by kernel_rfl) (by kernel_rfl) him (fun _ => rfl))) <|
        .cons rfl (Q_g rfl rfl (.tmp rfl) (fun hg16 => S_fieldP 0 rfl (AEv.cond (.tmp rfl) (by first | assumption | exact gdAnd (by assumption) (by assumption))) (by kernel_rfl))) <|
        .cons rfl (Q_g rfl rfl (.tmp rfl) (fun hg19 => S_loadP rfl (AEv.cond (.tmp rfl) (by first | assumption | exact gdAnd (by assumption) (by assumption))) rfl (by kernel_rfl))) <|
        .cons rfl (Q_g rfl rfl (.tmp rfl) (fun hg22 => S_move rfl (.tmp rfl))) <|
        .cons rfl (Q_g rfl rfl (.tmp rfl) (fun hg25 => S_move rfl (.tmp rfl))) <|
        .cons rfl (Q_g rfl rfl (.tmp rfl) (fun hg28 => S_elemN (e := 52) (f := labAV) (l := l) 2 rfl (AEv.cond (.tmp rfl) (by first | assumption | exact gdAnd (by assumption) (by assumption))) (AEv.cond (.tmp rfl) (by first | assumption | exact gdAnd (by assumption) (by assumption))) (by kernel_rfl) (by kernel_rfl) hil (fun _ => rfl))) <|
        .cons rfl (Q_g rfl rfl (.tmp rfl) (fun hg31 => S_fieldP 0 rfl (AEv.cond (.tmp rfl) (by first | assumption | exact gdAnd (by assumption) (by assumption))) (by kernel_rfl))) <|
        .cons rfl (Q_g rfl rfl (.tmp rfl) (fun hg34 => S_loadP rfl (AEv.cond (.tmp rfl) (by first | assumption | exact gdAnd (by assumption) (by assumption))) rfl (by kernel_rfl))) <|
        .cons rfl (Q_g rfl rfl (.tmp rfl) (fun hg37 => S_geS rfl (AEv.cond (.tmp rfl) (by first | assumption | exact gdAnd (by assumption) (by assumption))) (AEv.cond (.tmp rfl) (by first | assumption | exact gdAnd (by assumption) (by assumption))))) <|
        .cons rfl (Q_p rfl (S_and rfl (.tmp rfl) (fun hp40 => (AEv.cond (.tmp rfl) (by first | assumption | exact gdT hp40 | exact gdF hp40 | exact gdAnd (by assumption) (gdT hp40) | exact gdAnd (by assumption) (gdF hp40)))))) <|
        .nil) ?_
    refine AC_cond (.tmp rfl) (fun hb41 => ?_) (fun hb41 => ?_)
    · try simp only [zA, zO, zN, zM, zP, zQ, zD, zF, gd] at hb41
      have hx : (labelsE name l) = some (4, [atT name (i : Int), [107, 101, 121]]) := by rw [hgood, eachE_at hil (label_order hil hk1 (by omega) (by simpa using hb41.2)) hall]
      refine AC_seq ?_
      refine AC_region ?_
      refine AL_p rfl rfl (S_move rfl (.tmp rfl)) ?_
      refine AL_p rfl rfl (S_move rfl (.tmp rfl)) ?_
      refine AL_p rfl rfl (S_pcall rfl (AEvs.cons (.tmp rfl) (AEvs.cons (.tmp rfl) AEvs.nil)) (ref06_at_ok name hn (i : Int) hif)) ?_
      refine AL_p rfl rfl (S_cat rfl (.tmp rfl) (AEv.S _) (by first | omega | (simp only [List.length_append, List.length_cons, List.length_nil]; omega))) ?_
      refine AL_p rfl rfl (S_assign rfl (AEv.const _)) ?_
      refine AL_p rfl rfl (S_assign rfl (.tmp rfl)) ?_
      refine AL_nil ?_
      refine AC_ret ?_
      refine ret_tmps (ts := [4, 5]) st rfl (by decide) rfl (Sub.l (List.Sublist.refl _)) (Conv.refl (Sub.l (List.Sublist.refl _)) _) ⟨cp_some hx (by rw [join_two, List.append_assoc]; rfl), rfl⟩ (.inl rfl)
    try simp only [zA, zO, zN, zM, zP, zQ, zD, zF, gd] at hb41
    have hk2 : ∀ h : 0 < i, Op.bytesLess (l[i - 1]'(by omega)).1 (l[i]'hil).1 = true := fun h => by
      rcases hb41 with h' | h'
      · omega
      · simpa using h'
    refine AC_skip ?_
    refine AC_seq ?_
    refine AC_region ?_
    refine AL_p rfl rfl (S_move rfl (.tmp rfl)) ?_
    refine AL_p rfl rfl (S_move rfl (.tmp rfl)) ?_
    refine AL_p rfl rfl (S_elemN (e := 52) 2 rfl (.tmp rfl) (.tmp rfl) (by kernel_rfl) (by kernel_rfl) (by omega) (fun _ => rfl)) ?_
    refine AL_p rfl rfl (S_fieldP 1 rfl (.tmp rfl) (by kernel_rfl)) ?_
    refine AL_p rfl rfl (S_loadP rfl (.tmp rfl) rfl (by kernel_rfl)) ?_
    refine AL_p rfl rfl (S_pcall rfl (AEvs.cons (.tmp rfl) AEvs.nil) (ref03_Val_ok (l[i]'hil).2 (by omega))) ?_
    refine AL_p rfl rfl (S_not rfl (.tmp rfl)) ?_
    refine AL_nil ?_
    refine AC_cond (.tmp rfl) (fun hb42 => ?_) (fun hb42 => ?_)
    · try simp only [zA, zO, zN, zM, zP, zQ, zD, zF, gd] at hb42
      have hx : (labelsE name l) = some (32, [atT name (i : Int), [118, 97, 108]]) := by rw [hgood, eachE_at hil (label_val hil hk1 hk2 hb42) hall]
      refine AC_seq ?_
      refine AC_region ?_
      refine AL_p rfl rfl (S_move rfl (.tmp rfl)) ?_
      refine AL_p rfl rfl (S_move rfl (.tmp rfl)) ?_
      refine AL_p rfl rfl (S_pcall rfl (AEvs.cons (.tmp rfl) (AEvs.cons (.tmp rfl) AEvs.nil)) (ref06_at_ok name hn (i : Int) hif)) ?_
      refine AL_p rfl rfl (S_cat rfl (.tmp rfl) (AEv.S _) (by first | omega | (simp only [List.length_append, List.length_cons, List.length_nil]; omega))) ?_
      refine AL_p rfl rfl (S_assign rfl (AEv.const _)) ?_
      refine AL_p rfl rfl (S_assign rfl (.tmp rfl)) ?_
      refine AL_nil ?_
      refine AC_ret ?_
      refine ret_tmps (ts := [4, 5]) st rfl (by decide) rfl (Sub.l (List.Sublist.refl _)) (Conv.refl (Sub.l (List.Sublist.refl _)) _) ⟨cp_some hx (by rw [join_two, List.append_assoc]; rfl), rfl⟩ (.inl rfl)
    try simp only [zA, zO, zN, zM, zP, zQ, zD, zF, gd] at hb42
    have hk3 : valV (l[i]'hil).2 = true := hb42
    refine AC_skip ?_
    refine AC_region ?_
    refine AL_p rfl rfl (S_move rfl (.tmp rfl)) ?_
    refine AL_p rfl rfl (S_addI rfl (.tmp rfl) (AEv.const _) (by omega) (by omega)) ?_
    refine AL_p rfl rfl (S_assign rfl (.tmp rfl)) ?_
    refine AL_nil ?_
    refine ⟨i + 1, ⟨by omega, fun j h => ?_⟩, by omega, (Sub.l (List.Sublist.refl _)), (.cons rfl (by first | exact Le.refl _ | exact Le.nils | exact Le.row _ _ _ _ | exact Le.of_eq (by first | rfl | (simp; done) | (push_cast; rfl) | (simp; omega))) .nil), (.cons rfl (Le.refl _) (.cons rfl (Le.refl _) .nil))⟩
    rcases Nat.lt_or_ge j i with h' | h'
    · exact hall j h'
    · have : j = i := by omega
      subst this
      exact label_ok hil hk1 hk2 hk3
  try simp only [zA, zO, zN, zM, zP, zQ, zD, zF, gd] at hb2
  have hend : (labelsE name l) = none := by rw [hgood, eachE_all fun j hj => hall j (by omega)]
  refine AC_exit ?_
  refine AC_seq ?_
  refine AC_region ?_
  refine AL_p rfl rfl (S_assign rfl (AEv.const _)) ?_
  refine AL_p rfl rfl (S_assign rfl (AEv.S _)) ?_
  refine AL_nil ?_
  refine AC_ret ?_
  refine ret_tmps (ts := [4, 5]) st rfl (by decide) rfl (Sub.l (List.Sublist.refl _)) (Conv.refl (Sub.l (List.Sublist.refl _)) _) ⟨cp_none hend, rfl⟩ (.inl rfl)

set_option maxRecDepth 100000 in
/-- provost/provostbook.SameInts -/
theorem book_SameInts_ok (a b : List (Int)) (ha : a.length ≤ 1000000) (hb : b.length ≤ 1000000) : PCalls Tryd.prog 51 [.sl (intsV a), .sl (intsV b)] (.bool (decide (a = b))) := by
  intro st
  refine ACalls_of (N := 37) Tryd.func51 (by kernel_rfl) rfl rfl rfl ?_
  refine AC_seq ?_
  refine AC_region ?_
  refine AL_p rfl rfl (S_assign rfl (AEv.const _)) ?_
  refine AL_nil ?_
  refine AC_seq ?_
  refine AC_region ?_
  refine AL_p rfl rfl (S_move rfl (.tmp rfl)) ?_
  refine AL_p rfl rfl (by first | exact S_lenM (e := 3) rfl (.tmp rfl) (by kernel_rfl) | exact S_len (e := 3) rfl (.tmp rfl) (by kernel_rfl)) ?_
  refine AL_p rfl rfl (S_move rfl (.tmp rfl)) ?_
  refine AL_p rfl rfl (by first | exact S_lenM (e := 3) rfl (.tmp rfl) (by kernel_rfl) | exact S_len (e := 3) rfl (.tmp rfl) (by kernel_rfl)) ?_
  refine AL_p rfl rfl (S_eql rfl (.tmp rfl) (.tmp rfl)) ?_
  refine AL_p rfl rfl (S_assign rfl (.tmp rfl)) ?_
  refine AL_nil ?_
  refine AC_seq ?_
  refine AC_seq ?_
  refine AC_region ?_
  refine AL_p rfl rfl (S_assign rfl (AEv.const _)) ?_
  refine AL_nil ?_
  refine AC_block ?_
  refine AC_loopK (G := Nat) [(0, _), (1, _), (4, _)] (fun i => i ≤ a.length) (fun g => [(5, .bool (sameP (fun a b => decide (a = b)) a b g)), (6, .int .i64 (g : Int))]) (fun g => st) (fun g => a.length - g) (0) (Nat.zero_le _) (Sub.l (List.Sublist.refl _)) (.cons rfl (Le.refl _) (.cons rfl (Le.refl _) (.cons rfl (Le.refl _) .nil))) (.cons rfl (Le.of_eq (congrArg AV.bool (by rw [sameP_zero]; exact decide_eq_decide.2 (by omega)))) (.cons rfl (by first | exact Le.refl _ | exact Le.nils | exact Le.row _ _ _ _ | exact Le.of_eq (by first | rfl | (simp; done) | (push_cast; rfl) | (simp; omega))) .nil)) ?_
  rintro i hi
  try dsimp only
  simp only [List.cons_append, List.nil_append]
  refine AC_seq ?_
  refine AC_seq ?_
  refine AC_region ?_
  refine AL_p rfl rfl (S_move rfl (.tmp rfl)) ?_
  refine AL_p rfl rfl (S_move rfl (.tmp rfl)) ?_
  refine AL_g rfl rfl (.tmp rfl) rfl (fun hg1 => S_move rfl (.tmp rfl)) ?_
  refine AL_g rfl rfl (.tmp rfl) rfl (fun hg4 => S_move rfl (.tmp rfl)) ?_
  refine AL_g rfl rfl (.tmp rfl) rfl (fun hg7 => by first | exact S_lenM (e := 3) rfl (AEv.cond (.tmp rfl) (by first | assumption | exact gdAnd (by assumption) (by assumption))) (by kernel_rfl) | exact S_len (e := 3) rfl (AEv.cond (.tmp rfl) (by first | assumption | exact gdAnd (by assumption) (by assumption))) (by kernel_rfl)) ?_
  refine AL_g rfl rfl (.tmp rfl) rfl (fun hg10 => S_lss rfl (AEv.cond (.tmp rfl) (by first | assumption | exact gdAnd (by assumption) (by assumption))) (AEv.cond (.tmp rfl) (by first | assumption | exact gdAnd (by assumption) (by assumption)))) ?_
  refine AL_p rfl rfl (S_and rfl (.tmp rfl) (fun hp13 => (AEv.cond (.tmp rfl) (by first | assumption | exact gdT hp13 | exact gdF hp13 | exact gdAnd (by assumption) (gdT hp13) | exact gdAnd (by assumption) (gdF hp13))))) ?_
  refine AL_p rfl rfl (S_move rfl (.tmp rfl)) ?_
  refine AL_g rfl rfl (.tmp rfl) rfl (fun hg14 => S_move rfl (.tmp rfl)) ?_
  refine AL_g rfl rfl (.tmp rfl) rfl (fun hg17 => S_move rfl (.tmp rfl)) ?_
  refine AL_g rfl rfl (.tmp rfl) rfl (fun hg20 => by first | exact S_lenM (e := 3) rfl (AEv.cond (.tmp rfl) (by first | assumption | exact gdAnd (by assumption) (by assumption))) (by kernel_rfl) | exact S_len (e := 3) rfl (AEv.cond (.tmp rfl) (by first | assumption | exact gdAnd (by assumption) (by assumption))) (by kernel_rfl)) ?_
  refine AL_g rfl rfl (.tmp rfl) rfl (fun hg23 => S_lss rfl (AEv.cond (.tmp rfl) (by first | assumption | exact gdAnd (by assumption) (by assumption))) (AEv.cond (.tmp rfl) (by first | assumption | exact gdAnd (by assumption) (by assumption)))) ?_
  refine AL_p rfl rfl (S_and rfl (.tmp rfl) (fun hp26 => (AEv.cond (.tmp rfl) (by first | assumption | exact gdT hp26 | exact gdF hp26 | exact gdAnd (by assumption) (gdT hp26) | exact gdAnd (by assumption) (gdF hp26))))) ?_
  refine AL_nil ?_
  refine AC_cond (.tmp rfl) (fun hb27 => ?_) (fun hb27 => ?_)
  · try simp only [zA, zO, zN, zM, zP, zQ, zD, zF, gd] at hb27
    have hs : sameP (fun a b => decide (a = b)) a b i = true := hb27.1.1
    have hia : i < a.length := by have := hb27.1.2; omega
    have hib : i < b.length := by have := hb27.2; omega
    refine AC_skip ?_
    refine AC_seq ?_
    refine AC_block ?_
    refine AC_draw (by kernel_rfl) (by kernel_rfl) (.cons rfl (Q_p rfl (S_move rfl (.tmp rfl))) <|
        .cons rfl (Q_p rfl (S_move rfl (.tmp rfl))) <|
        .cons rfl (Q_p rfl (S_elemN (e := 3) 1 rfl (.tmp rfl) (.tmp rfl) (by kernel_rfl) (by kernel_rfl) (by omega) (fun _ => rfl))) <|
        .cons rfl (Q_p rfl (S_loadP rfl (.tmp rfl) rfl (by kernel_rfl))) <|
        .cons rfl (Q_p rfl (S_move rfl (.tmp rfl))) <|
        .cons rfl (Q_p rfl (S_move rfl (.tmp rfl))) <|
        .cons rfl (Q_p rfl (S_elemN (e := 3) 1 rfl (.tmp rfl) (.tmp rfl) (by kernel_rfl) (by kernel_rfl) (by omega) (fun _ => rfl))) <|
        .cons rfl (Q_p rfl (S_loadP rfl (.tmp rfl) rfl (by kernel_rfl))) <|
        .cons rfl (Q_p rfl (S_eql rfl (.tmp rfl) (.tmp rfl))) <|
        .cons rfl (Q_p rfl (S_assign rfl (.tmp rfl))) <|
        .nil) ?_
    refine AC_region ?_
    refine AL_p rfl rfl (S_move rfl (.tmp rfl)) ?_
    refine AL_p rfl rfl (S_addI rfl (.tmp rfl) (AEv.const _) (by omega) (by omega)) ?_
    refine AL_p rfl rfl (S_assign rfl (.tmp rfl)) ?_
    refine AL_nil ?_
    exact ⟨i + 1, by omega, by omega, (Sub.l (List.Sublist.refl _)), (.cons rfl (Le.of_eq (congrArg AV.bool (sameP_next hs hia hib).symm)) (.cons rfl (by first | exact Le.refl _ | exact Le.nils | exact Le.row _ _ _ _ | exact Le.of_eq (by first | rfl | (simp; done) | (push_cast; rfl) | (simp; omega))) .nil)), (.cons rfl (Le.refl _) (.cons rfl (Le.refl _) (.cons rfl (Le.refl _) .nil)))⟩
  try simp only [zA, zO, zN, zM, zP, zQ, zD, zF, gd] at hb27
  have hend := sameP_end (f := (fun a b => decide (a = b))) (a := a) (b := b) (i := i) (by
    rcases hb27 with (h | h) | h
    · exact .inl h
    · exact .inr (.inl (by omega))
    · exact .inr (.inr (by omega)))
  refine AC_exit ?_
  refine AC_seq ?_
  refine AC_region ?_
  refine AL_p rfl rfl (S_move rfl (.tmp rfl)) ?_
  refine AL_p rfl rfl (S_assign rfl (.tmp rfl)) ?_
  refine AL_nil ?_
  refine AC_ret ?_
  refine ret_tmp st rfl rfl (Sub.l (List.Sublist.refl _)) (Conv.refl (Sub.l (List.Sublist.refl _)) _) ⟨congrArg AV.bool (hend.trans sameL_eq), rfl⟩ (.inl rfl)

set_option maxRecDepth 100000 in
/-- provost/provostbook.SameLabels -/
theorem book_SameLabels_ok (a b : List (Lab)) (ha : a.length ≤ 1000000) (hb : b.length ≤ 1000000) : PCalls Tryd.prog 15 [.sl (labsV a), .sl (labsV b)] (.bool (decide (a = b))) := by
  intro st
  refine ACalls_of (N := 37) Tryd.func15 (by kernel_rfl) rfl rfl rfl ?_
  refine AC_seq ?_
  refine AC_region ?_
  refine AL_p rfl rfl (S_assign rfl (AEv.const _)) ?_
  refine AL_nil ?_
  refine AC_seq ?_
  refine AC_region ?_
  refine AL_p rfl rfl (S_move rfl (.tmp rfl)) ?_
  refine AL_p rfl rfl (by first | exact S_lenM (e := 52) rfl (.tmp rfl) (by kernel_rfl) | exact S_len (e := 52) rfl (.tmp rfl) (by kernel_rfl)) ?_
  refine AL_p rfl rfl (S_move rfl (.tmp rfl)) ?_
  refine AL_p rfl rfl (by first | exact S_lenM (e := 52) rfl (.tmp rfl) (by kernel_rfl) | exact S_len (e := 52) rfl (.tmp rfl) (by kernel_rfl)) ?_
  refine AL_p rfl rfl (S_eql rfl (.tmp rfl) (.tmp rfl)) ?_
  refine AL_p rfl rfl (S_assign rfl (.tmp rfl)) ?_
  refine AL_nil ?_
  refine AC_seq ?_
  refine AC_seq ?_
  refine AC_region ?_
  refine AL_p rfl rfl (S_assign rfl (AEv.const _)) ?_
  refine AL_nil ?_
  refine AC_block ?_
  refine AC_loopK (G := Nat) [(0, _), (1, _), (4, _)] (fun i => i ≤ a.length) (fun g => [(5, .bool (sameP (fun a b => decide (a = b)) a b g)), (6, .int .i64 (g : Int))]) (fun g => st) (fun g => a.length - g) (0) (Nat.zero_le _) (Sub.l (List.Sublist.refl _)) (.cons rfl (Le.refl _) (.cons rfl (Le.refl _) (.cons rfl (Le.refl _) .nil))) (.cons rfl (Le.of_eq (congrArg AV.bool (by rw [sameP_zero]; exact decide_eq_decide.2 (by omega)))) (.cons rfl (by first | exact Le.refl _ | exact Le.nils | exact Le.row _ _ _ _ | exact Le.of_eq (by first | rfl | (simp; done) | (push_cast; rfl) | (simp; omega))) .nil)) ?_
  rintro i hi
  try dsimp only
  simp only [List.cons_append, List.nil_append]
  refine AC_seq ?_
  refine AC_seq ?_
  refine AC_region ?_
  refine AL_p rfl rfl (S_move rfl (.tmp rfl)) ?_
  refine AL_p rfl rfl (S_move rfl (.tmp rfl)) ?_
  refine AL_g rfl rfl (.tmp rfl) rfl (fun hg1 => S_move rfl (.tmp rfl)) ?_
  refine AL_g rfl rfl (.tmp rfl) rfl (fun hg4 => S_move rfl (.tmp rfl)) ?_
  refine AL_g rfl rfl (.tmp rfl) rfl (fun hg7 => by first | exact S_lenM (e := 52) rfl (AEv.cond (.tmp rfl) (by first | assumption | exact gdAnd (by assumption) (by assumption))) (by kernel_rfl) | exact S_len (e := 52) rfl (AEv.cond (.tmp rfl) (by first | assumption | exact gdAnd (by assumption) (by assumption))) (by kernel_rfl)) ?_
  refine AL_g rfl rfl (.tmp rfl) rfl (fun hg10 => S_lss rfl (AEv.cond (.tmp rfl) (by first | assumption | exact gdAnd (by assumption) (by assumption))) (AEv.cond (.tmp rfl) (by first | assumption | exact gdAnd (by assumption) (by assumption)))) ?_
  refine AL_p rfl rfl (S_and rfl (.tmp rfl) (fun hp13 => (AEv.cond (.tmp rfl) (by first | assumption | exact gdT hp13 | exact gdF hp13 | exact gdAnd (by assumption) (gdT hp13) | exact gdAnd (by assumption) (gdF hp13))))) ?_
  refine AL_p rfl rfl (S_move rfl (.tmp rfl)) ?_
  refine AL_g rfl rfl (.tmp rfl) rfl (fun hg14 => S_move rfl (.tmp rfl)) ?_
  refine AL_g rfl rfl (.tmp rfl) rfl (fun hg17 => S_move rfl (.tmp rfl)) ?_
  refine AL_g rfl rfl (.tmp rfl) rfl (fun hg20 => by first | exact S_lenM (e := 52) rfl (AEv.cond (.tmp rfl) (by first | assumption | exact gdAnd (by assumption) (by assumption))) (by kernel_rfl) | exact S_len (e := 52) rfl (AEv.cond (.tmp rfl) (by first | assumption | exact gdAnd (by assumption) (by assumption))) (by kernel_rfl)) ?_
  refine AL_g rfl rfl (.tmp rfl) rfl (fun hg23 => S_lss rfl (AEv.cond (.tmp rfl) (by first | assumption | exact gdAnd (by assumption) (by assumption))) (AEv.cond (.tmp rfl) (by first | assumption | exact gdAnd (by assumption) (by assumption)))) ?_
  refine AL_p rfl rfl (S_and rfl (.tmp rfl) (fun hp26 => (AEv.cond (.tmp rfl) (by first | assumption | exact gdT hp26 | exact gdF hp26 | exact gdAnd (by assumption) (gdT hp26) | exact gdAnd (by assumption) (gdF hp26))))) ?_
  refine AL_nil ?_
  refine AC_cond (.tmp rfl) (fun hb27 => ?_) (fun hb27 => ?_)
  · try simp only [zA, zO, zN, zM, zP, zQ, zD, zF, gd] at hb27
    have hs : sameP (fun a b => decide (a = b)) a b i = true := hb27.1.1
    have hia : i < a.length := by have := hb27.1.2; omega
    have hib : i < b.length := by have := hb27.2; omega
    refine AC_skip ?_
    refine AC_seq ?_
    refine AC_block ?_
    refine AC_draw (by kernel_rfl) (by kernel_rfl) (.cons rfl (Q_p rfl (S_move rfl (.tmp rfl))) <|
        .cons rfl (Q_p rfl (S_move rfl (.tmp rfl))) <|
        .cons rfl (Q_p rfl (S_elemN (e := 52) 2 rfl (.tmp rfl) (.tmp rfl) (by kernel_rfl) (by kernel_rfl) (by omega) (fun _ => rfl))) <|
        .cons rfl (Q_p rfl (S_loadPN (m := 2) rfl (.tmp rfl) (by kernel_rfl) (by first | exact Nat.le_of_ble_eq_true rfl | (simp; omega) | simp))) <|
        .cons rfl (Q_p rfl (S_move rfl (.tmp rfl))) <|
        .cons rfl (Q_p rfl (S_move rfl (.tmp rfl))) <|
        .cons rfl (Q_p rfl (S_elemN (e := 52) 2 rfl (.tmp rfl) (.tmp rfl) (by kernel_rfl) (by kernel_rfl) (by omega) (fun _ => rfl))) <|
        .cons rfl (Q_p rfl (S_loadPN (m := 2) rfl (.tmp rfl) (by kernel_rfl) (by first | exact Nat.le_of_ble_eq_true rfl | (simp; omega) | simp))) <|
        .cons rfl (Q_p rfl ((S_eqlAgg rfl (.tmp rfl) (.tmp rfl) (by kernel_rfl) (EqAV.struct Tryd.underlying52 (by kernel_rfl) (EqFs.flat (by kernel_rfl) (by kernel_rfl) rfl rfl (EqAV.S (by kernel_rfl)) (EqFs.flat (by kernel_rfl) (by kernel_rfl) rfl rfl (EqAV.S (by kernel_rfl)) EqFs.nil)))).ofV (V' := .bool (decide ((a[i]'hia) = (b[i]'hib)))) (congrArg AV.bool lab_eqB))) <|
        .cons rfl (Q_p rfl (S_assign rfl (.tmp rfl))) <|
        .nil) ?_
    refine AC_region ?_
    refine AL_p rfl rfl (S_move rfl (.tmp rfl)) ?_
    refine AL_p rfl rfl (S_addI rfl (.tmp rfl) (AEv.const _) (by omega) (by omega)) ?_
    refine AL_p rfl rfl (S_assign rfl (.tmp rfl)) ?_
    refine AL_nil ?_
    exact ⟨i + 1, by omega, by omega, (Sub.l (List.Sublist.refl _)), (.cons rfl (Le.of_eq (congrArg AV.bool (sameP_next hs hia hib).symm)) (.cons rfl (by first | exact Le.refl _ | exact Le.nils | exact Le.row _ _ _ _ | exact Le.of_eq (by first | rfl | (simp; done) | (push_cast; rfl) | (simp; omega))) .nil)), (.cons rfl (Le.refl _) (.cons rfl (Le.refl _) (.cons rfl (Le.refl _) .nil)))⟩
  try simp only [zA, zO, zN, zM, zP, zQ, zD, zF, gd] at hb27
  have hend := sameP_end (f := (fun a b => decide (a = b))) (a := a) (b := b) (i := i) (by
    rcases hb27 with (h | h) | h
    · exact .inl h
    · exact .inr (.inl (by omega))
    · exact .inr (.inr (by omega)))
  refine AC_exit ?_
  refine AC_seq ?_
  refine AC_region ?_
  refine AL_p rfl rfl (S_move rfl (.tmp rfl)) ?_
  refine AL_p rfl rfl (S_assign rfl (.tmp rfl)) ?_
  refine AL_nil ?_
  refine AC_ret ?_
  refine ret_tmp st rfl rfl (Sub.l (List.Sublist.refl _)) (Conv.refl (Sub.l (List.Sublist.refl _)) _) ⟨congrArg AV.bool (hend.trans sameL_eq), rfl⟩ (.inl rfl)

set_option maxRecDepth 100000 in
/-- provost/provostbook.SameContainers -/
theorem book_SameContainers_ok (a b : List (Ctr)) (ha : a.length ≤ 1000000) (hb : b.length ≤ 1000000) (hap : ∀ c ∈ a, c.ports.length ≤ 1000000) (hbp : ∀ c ∈ b, c.ports.length ≤ 1000000) : PCalls Tryd.prog 72 [.sl (ctrsV a), .sl (ctrsV b)] (.bool (sameL exactC a b)) := by
  intro st
  refine ACalls_of (N := 78) Tryd.func72 (by kernel_rfl) rfl rfl rfl ?_
  refine AC_seq ?_
  refine AC_region ?_
  refine AL_p rfl rfl (S_assign rfl (AEv.const _)) ?_
  refine AL_nil ?_
  refine AC_seq ?_
  refine AC_region ?_
  refine AL_p rfl rfl (S_move rfl (.tmp rfl)) ?_
  refine AL_p rfl rfl (by first | exact S_lenM (e := 89) rfl (.tmp rfl) (by kernel_rfl) | exact S_len (e := 89) rfl (.tmp rfl) (by kernel_rfl)) ?_
  refine AL_p rfl rfl (S_move rfl (.tmp rfl)) ?_
  refine AL_p rfl rfl (by first | exact S_lenM (e := 89) rfl (.tmp rfl) (by kernel_rfl) | exact S_len (e := 89) rfl (.tmp rfl) (by kernel_rfl)) ?_
  refine AL_p rfl rfl (S_eql rfl (.tmp rfl) (.tmp rfl)) ?_
  refine AL_p rfl rfl (S_assign rfl (.tmp rfl)) ?_
  refine AL_nil ?_
  refine AC_seq ?_
  refine AC_seq ?_
  refine AC_region ?_
  refine AL_p rfl rfl (S_assign rfl (AEv.const _)) ?_
  refine AL_nil ?_
  refine AC_block ?_
  refine AC_loopK (G := Nat) [(0, _), (1, _), (4, _)] (fun i => i ≤ a.length) (fun g => [(5, .bool (sameP exactC a b g)), (6, .int .i64 (g : Int))]) (fun g => st) (fun g => a.length - g) (0) (Nat.zero_le _) (Sub.l (List.Sublist.refl _)) (.cons rfl (Le.refl _) (.cons rfl (Le.refl _) (.cons rfl (Le.refl _) .nil))) (.cons rfl (Le.of_eq (congrArg AV.bool (by rw [sameP_zero]; exact decide_eq_decide.2 (by omega)))) (.cons rfl (by first | exact Le.refl _ | exact Le.nils | exact Le.row _ _ _ _ | exact Le.of_eq (by first | rfl | (simp; done) | (push_cast; rfl) | (simp; omega))) .nil)) ?_
  rintro i hi
  try dsimp only
  simp only [List.cons_append, List.nil_append]
  refine AC_seq ?_
  refine AC_seq ?_
  refine AC_region ?_
  refine AL_p rfl rfl (S_move rfl (.tmp rfl)) ?_
  refine AL_p rfl rfl (S_move rfl (.tmp rfl)) ?_
  refine AL_g rfl rfl (.tmp rfl) rfl (fun hg1 => S_move rfl (.tmp rfl)) ?_
  refine AL_g rfl rfl (.tmp rfl) rfl (fun hg4 => S_move rfl (.tmp rfl)) ?_
  refine AL_g rfl rfl (.tmp rfl) rfl (fun hg7 => by first | exact S_lenM (e := 89) rfl (AEv.cond (.tmp rfl) (by first | assumption | exact gdAnd (by assumption) (by assumption))) (by kernel_rfl) | exact S_len (e := 89) rfl (AEv.cond (.tmp rfl) (by first | assumption | exact gdAnd (by assumption) (by assumption))) (by kernel_rfl)) ?_
  refine AL_g rfl rfl (.tmp rfl) rfl (fun hg10 => S_lss rfl (AEv.cond (.tmp rfl) (by first | assumption | exact gdAnd (by assumption) (by assumption))) (AEv.cond (.tmp rfl) (by first | assumption | exact gdAnd (by assumption) (by assumption)))) ?_
  refine AL_p rfl rfl (S_and rfl (.tmp rfl) (fun hp13 => (AEv.cond (.tmp rfl) (by first | assumption | exact gdT hp13 | exact gdF hp13 | exact gdAnd (by assumption) (gdT hp13) | exact gdAnd (by assumption) (gdF hp13))))) ?_
  refine AL_p rfl rfl (S_move rfl (.tmp rfl)) ?_
  refine AL_g rfl rfl (.tmp rfl) rfl (fun hg14 => S_move rfl (.tmp rfl)) ?_
  refine AL_g rfl rfl (.tmp rfl) rfl (fun hg17 => S_move rfl (.tmp rfl)) ?_
  refine AL_g rfl rfl (.tmp rfl) rfl (fun hg20 => by first | exact S_lenM (e := 89) rfl (AEv.cond (.tmp rfl) (by first | assumption | exact gdAnd (by assumption) (by assumption))) (by kernel_rfl) | exact S_len (e := 89) rfl (AEv.cond (.tmp rfl) (by first | assumption | exact gdAnd (by assumption) (by assumption))) (by kernel_rfl)) ?_
  refine AL_g rfl rfl (.tmp rfl) rfl (fun hg23 => S_lss rfl (AEv.cond (.tmp rfl) (by first | assumption | exact gdAnd (by assumption) (by assumption))) (AEv.cond (.tmp rfl) (by first | assumption | exact gdAnd (by assumption) (by assumption)))) ?_
  refine AL_p rfl rfl (S_and rfl (.tmp rfl) (fun hp26 => (AEv.cond (.tmp rfl) (by first | assumption | exact gdT hp26 | exact gdF hp26 | exact gdAnd (by assumption) (gdT hp26) | exact gdAnd (by assumption) (gdF hp26))))) ?_
  refine AL_nil ?_
  refine AC_cond (.tmp rfl) (fun hb27 => ?_) (fun hb27 => ?_)
  · try simp only [zA, zO, zN, zM, zP, zQ, zD, zF, gd] at hb27
    have hs : sameP exactC a b i = true := hb27.1.1
    have hia : i < a.length := by have := hb27.1.2; omega
    have hib : i < b.length := by have := hb27.2; omega
    refine AC_skip ?_
    refine AC_seq ?_
    refine AC_block ?_
    refine AC_seq ?_
    refine AC_region ?_
    refine AL_p rfl rfl (S_move rfl (.tmp rfl)) ?_
    refine AL_p rfl rfl (S_move rfl (.tmp rfl)) ?_
    refine AL_p rfl rfl (S_elemN (e := 89) 11 rfl (.tmp rfl) (.tmp rfl) (by kernel_rfl) (by kernel_rfl) (by omega) (fun _ => rfl)) ?_
    refine AL_p rfl rfl (S_loadPN (m := 11) rfl (.tmp rfl) (by kernel_rfl) (by first | exact Nat.le_of_ble_eq_true rfl | (simp; omega) | simp)) ?_
    refine AL_step rfl rfl (S_alloc [.string ⟨#[]⟩, .string ⟨#[]⟩, .int .i64 0, .int .i64 0, .int .i64 0, .int .i64 0, .int .i64 0, .int .i64 0, .slice none 0 0, .int .i64 0, .int .i64 0] rfl (by kernel_rfl)) ?_
    rintro _ _ ⟨b7, rfl, rfl⟩
    refine AL_step rfl rfl (S_storeW 0 rfl (.tmp rfl) (.tmp rfl) rfl rfl rfl (by kernel_rfl)) ?_
    rintro _ _ ⟨rfl, rfl⟩
    refine AL_nil ?_
    refine AC_seq ?_
    refine AC_region ?_
    refine AL_p rfl rfl (S_move rfl (.tmp rfl)) ?_
    refine AL_p rfl rfl (S_move rfl (.tmp rfl)) ?_
    refine AL_p rfl rfl (S_elemN (e := 89) 11 rfl (.tmp rfl) (.tmp rfl) (by kernel_rfl) (by kernel_rfl) (by omega) (fun _ => rfl)) ?_
    refine AL_p rfl rfl (S_loadPN (m := 11) rfl (.tmp rfl) (by kernel_rfl) (by first | exact Nat.le_of_ble_eq_true rfl | (simp; omega) | simp)) ?_
    refine AL_step rfl rfl (S_alloc [.string ⟨#[]⟩, .string ⟨#[]⟩, .int .i64 0, .int .i64 0, .int .i64 0, .int .i64 0, .int .i64 0, .int .i64 0, .slice none 0 0, .int .i64 0, .int .i64 0] rfl (by kernel_rfl)) ?_
    rintro _ _ ⟨b8, rfl, rfl⟩
    refine AL_step rfl rfl (S_storeW 0 rfl (.tmp rfl) (.tmp rfl) rfl rfl rfl (by kernel_rfl)) ?_
    rintro _ _ ⟨rfl, rfl⟩
    refine AL_nil ?_
    refine AC_region ?_
    refine AL_p rfl rfl (S_field 0 rfl (.tmp rfl) (by kernel_rfl)) ?_
    refine AL_p rfl rfl (S_load 1 rfl (.tmp rfl) rfl rfl (by kernel_rfl)) ?_
    refine AL_p rfl rfl (S_field 0 rfl (.tmp rfl) (by kernel_rfl)) ?_
    refine AL_p rfl rfl (S_load 0 rfl (.tmp rfl) rfl rfl (by kernel_rfl)) ?_
    refine AL_p rfl rfl (S_eqS rfl (.tmp rfl) (.tmp rfl)) ?_
    refine AL_p rfl rfl (S_move rfl (.tmp rfl)) ?_
    refine AL_g rfl rfl (.tmp rfl) rfl (fun hg30 => S_field 1 rfl (.tmp rfl) (by kernel_rfl)) ?_
    refine AL_g rfl rfl (.tmp rfl) rfl (fun hg33 => S_load 1 rfl (AEv.cond (.tmp rfl) (by first | assumption | exact gdAnd (by assumption) (by assumption))) rfl rfl (by kernel_rfl)) ?_
    refine AL_g rfl rfl (.tmp rfl) rfl (fun hg36 => S_field 1 rfl (.tmp rfl) (by kernel_rfl)) ?_
    refine AL_g rfl rfl (.tmp rfl) rfl (fun hg39 => S_load 0 rfl (AEv.cond (.tmp rfl) (by first | assumption | exact gdAnd (by assumption) (by assumption))) rfl rfl (by kernel_rfl)) ?_
    refine AL_g rfl rfl (.tmp rfl) rfl (fun hg42 => S_eqS rfl (AEv.cond (.tmp rfl) (by first | assumption | exact gdAnd (by assumption) (by assumption))) (AEv.cond (.tmp rfl) (by first | assumption | exact gdAnd (by assumption) (by assumption)))) ?_
    refine AL_p rfl rfl (S_and rfl (.tmp rfl) (fun hp45 => (AEv.cond (.tmp rfl) (by first | assumption | exact gdT hp45 | exact gdF hp45 | exact gdAnd (by assumption) (gdT hp45) | exact gdAnd (by assumption) (gdF hp45))))) ?_
    refine AL_p rfl rfl (S_move rfl (.tmp rfl)) ?_
    refine AL_g rfl rfl (.tmp rfl) rfl (fun hg46 => S_field 2 rfl (.tmp rfl) (by kernel_rfl)) ?_
    refine AL_g rfl rfl (.tmp rfl) rfl (fun hg49 => S_loadN (m := 3) 1 rfl (AEv.cond (.tmp rfl) (by first | assumption | exact gdAnd (by assumption) (by assumption))) rfl (by kernel_rfl) (by first | exact Nat.le_of_ble_eq_true rfl | (simp; omega) | simp)) ?_
    refine AL_g rfl rfl (.tmp rfl) rfl (fun hg52 => S_field 2 rfl (.tmp rfl) (by kernel_rfl)) ?_
    refine AL_g rfl rfl (.tmp rfl) rfl (fun hg55 => S_loadN (m := 3) 0 rfl (AEv.cond (.tmp rfl) (by first | assumption | exact gdAnd (by assumption) (by assumption))) rfl (by kernel_rfl) (by first | exact Nat.le_of_ble_eq_true rfl | (simp; omega) | simp)) ?_
    refine AL_g rfl rfl (.tmp rfl) rfl (fun hg58 => S_eqlAgg rfl (AEv.cond (.tmp rfl) (by first | assumption | exact gdAnd (by assumption) (by assumption))) (AEv.cond (.tmp rfl) (by first | assumption | exact gdAnd (by assumption) (by assumption))) (by kernel_rfl) (EqAV.struct Tryd.underlying85 (by kernel_rfl) (EqFs.flat (by kernel_rfl) (by kernel_rfl) rfl rfl (EqAV.int (k' := .i64) (by kernel_rfl)) (EqFs.flat (by kernel_rfl) (by kernel_rfl) rfl rfl (EqAV.int (k' := .i64) (by kernel_rfl)) (EqFs.flat (by kernel_rfl) (by kernel_rfl) rfl rfl (EqAV.int (k' := .i64) (by kernel_rfl)) EqFs.nil))))) ?_
    refine AL_p rfl rfl (S_and rfl (.tmp rfl) (fun hp61 => (AEv.cond (.tmp rfl) (by first | assumption | exact gdT hp61 | exact gdF hp61 | exact gdAnd (by assumption) (gdT hp61) | exact gdAnd (by assumption) (gdF hp61))))) ?_
    refine AL_p rfl rfl (S_move rfl (.tmp rfl)) ?_
    refine AL_g rfl rfl (.tmp rfl) rfl (fun hg62 => S_field 5 rfl (.tmp rfl) (by kernel_rfl)) ?_
    refine AL_g rfl rfl (.tmp rfl) rfl (fun hg65 => S_loadN (m := 3) 1 rfl (AEv.cond (.tmp rfl) (by first | assumption | exact gdAnd (by assumption) (by assumption))) rfl (by kernel_rfl) (by first | exact Nat.le_of_ble_eq_true rfl | (simp; omega) | simp)) ?_
    refine AL_g rfl rfl (.tmp rfl) rfl (fun hg68 => S_field 5 rfl (.tmp rfl) (by kernel_rfl)) ?_
    refine AL_g rfl rfl (.tmp rfl) rfl (fun hg71 => S_loadN (m := 3) 0 rfl (AEv.cond (.tmp rfl) (by first | assumption | exact gdAnd (by assumption) (by assumption))) rfl (by kernel_rfl) (by first | exact Nat.le_of_ble_eq_true rfl | (simp; omega) | simp)) ?_
    refine AL_g rfl rfl (.tmp rfl) rfl (fun hg74 => S_eqlAgg rfl (AEv.cond (.tmp rfl) (by first | assumption | exact gdAnd (by assumption) (by assumption))) (AEv.cond (.tmp rfl) (by first | assumption | exact gdAnd (by assumption) (by assumption))) (by kernel_rfl) (EqAV.struct Tryd.underlying85 (by kernel_rfl) (EqFs.flat (by kernel_rfl) (by kernel_rfl) rfl rfl (EqAV.int (k' := .i64) (by kernel_rfl)) (EqFs.flat (by kernel_rfl) (by kernel_rfl) rfl rfl (EqAV.int (k' := .i64) (by kernel_rfl)) (EqFs.flat (by kernel_rfl) (by kernel_rfl) rfl rfl (EqAV.int (k' := .i64) (by kernel_rfl)) EqFs.nil))))) ?_
    refine AL_p rfl rfl (S_and rfl (.tmp rfl) (fun hp77 => (AEv.cond (.tmp rfl) (by first | assumption | exact gdT hp77 | exact gdF hp77 | exact gdAnd (by assumption) (gdT hp77) | exact gdAnd (by assumption) (gdF hp77))))) ?_
    refine AL_p rfl rfl (S_move rfl (.tmp rfl)) ?_
    refine AL_g rfl rfl (.tmp rfl) rfl (fun hg78 => S_field 8 rfl (.tmp rfl) (by kernel_rfl)) ?_
    refine AL_g rfl rfl (.tmp rfl) rfl (fun hg81 => S_load 1 rfl (AEv.cond (.tmp rfl) (by first | assumption | exact gdAnd (by assumption) (by assumption))) rfl rfl (by kernel_rfl)) ?_
    refine AL_g rfl rfl (.tmp rfl) rfl (fun hg84 => S_field 8 rfl (.tmp rfl) (by kernel_rfl)) ?_
    refine AL_g rfl rfl (.tmp rfl) rfl (fun hg87 => S_load 0 rfl (AEv.cond (.tmp rfl) (by first | assumption | exact gdAnd (by assumption) (by assumption))) rfl rfl (by kernel_rfl)) ?_
    refine AL_g rfl rfl (.tmp rfl) rfl (fun hg90 => S_pcall rfl (AEvs.cons (AEv.cond (.tmp rfl) (by first | assumption | exact gdAnd (by assumption) (by assumption))) (AEvs.cons (AEv.cond (.tmp rfl) (by first | assumption | exact gdAnd (by assumption) (by assumption))) AEvs.nil)) (book_SameInts_ok (a[i]'hia).ports (b[i]'hib).ports (hap _ (List.getElem_mem _)) (hbp _ (List.getElem_mem _)))) ?_
    refine AL_p rfl rfl (S_and rfl (.tmp rfl) (fun hp93 => (AEv.cond (.tmp rfl) (by first | assumption | exact gdT hp93 | exact gdF hp93 | exact gdAnd (by assumption) (gdT hp93) | exact gdAnd (by assumption) (gdF hp93))))) ?_
    refine AL_p rfl rfl (S_move rfl (.tmp rfl)) ?_
    refine AL_g rfl rfl (.tmp rfl) rfl (fun hg94 => S_field 9 rfl (.tmp rfl) (by kernel_rfl)) ?_
    refine AL_g rfl rfl (.tmp rfl) rfl (fun hg97 => S_loadN (m := 2) 1 rfl (AEv.cond (.tmp rfl) (by first | assumption | exact gdAnd (by assumption) (by assumption))) rfl (by kernel_rfl) (by first | exact Nat.le_of_ble_eq_true rfl | (simp; omega) | simp)) ?_
    refine AL_g rfl rfl (.tmp rfl) rfl (fun hg100 => S_field 9 rfl (.tmp rfl) (by kernel_rfl)) ?_
    refine AL_g rfl rfl (.tmp rfl) rfl (fun hg103 => S_loadN (m := 2) 0 rfl (AEv.cond (.tmp rfl) (by first | assumption | exact gdAnd (by assumption) (by assumption))) rfl (by kernel_rfl) (by first | exact Nat.le_of_ble_eq_true rfl | (simp; omega) | simp)) ?_
    refine AL_g rfl rfl (.tmp rfl) rfl (fun hg106 => S_eqlAgg rfl (AEv.cond (.tmp rfl) (by first | assumption | exact gdAnd (by assumption) (by assumption))) (AEv.cond (.tmp rfl) (by first | assumption | exact gdAnd (by assumption) (by assumption))) (by kernel_rfl) (EqAV.struct Tryd.underlying87 (by kernel_rfl) (EqFs.flat (by kernel_rfl) (by kernel_rfl) rfl rfl (EqAV.int (k' := .i64) (by kernel_rfl)) (EqFs.flat (by kernel_rfl) (by kernel_rfl) rfl rfl (EqAV.int (k' := .i64) (by kernel_rfl)) EqFs.nil)))) ?_
    refine AL_p rfl rfl (S_and rfl (.tmp rfl) (fun hp109 => (AEv.cond (.tmp rfl) (by first | assumption | exact gdT hp109 | exact gdF hp109 | exact gdAnd (by assumption) (gdT hp109) | exact gdAnd (by assumption) (gdF hp109))))) ?_
    refine AL_p rfl rfl (S_assign rfl (.tmp rfl)) ?_
    refine AL_nil ?_
    refine AC_region ?_
    refine AL_p rfl rfl (S_move rfl (.tmp rfl)) ?_
    refine AL_p rfl rfl (S_addI rfl (.tmp rfl) (AEv.const _) (by omega) (by omega)) ?_
    refine AL_p rfl rfl (S_assign rfl (.tmp rfl)) ?_
    refine AL_nil ?_
    exact ⟨i + 1, by omega, by omega, (Sub.l (List.Sublist.cons _ (List.Sublist.cons _ (List.Sublist.refl _)))), (.cons rfl (Le.of_eq (congrArg AV.bool (by rw [sameP_next hs hia hib, ← exactC_order, res_eqB, res_eqB, probe_eqB]))) (.cons rfl (by first | exact Le.refl _ | exact Le.nils | exact Le.row _ _ _ _ | exact Le.of_eq (by first | rfl | (simp; done) | (push_cast; rfl) | (simp; omega))) .nil)), (.cons rfl (Le.refl _) (.cons rfl (Le.refl _) (.cons rfl (Le.refl _) .nil)))⟩
  try simp only [zA, zO, zN, zM, zP, zQ, zD, zF, gd] at hb27
  have hend := sameP_end (f := exactC) (a := a) (b := b) (i := i) (by
    rcases hb27 with (h | h) | h
    · exact .inl h
    · exact .inr (.inl (by omega))
    · exact .inr (.inr (by omega)))
  refine AC_exit ?_
  refine AC_seq ?_
  refine AC_region ?_
  refine AL_p rfl rfl (S_move rfl (.tmp rfl)) ?_
  refine AL_p rfl rfl (S_assign rfl (.tmp rfl)) ?_
  refine AL_nil ?_
  refine AC_ret ?_
  refine ret_tmp st rfl rfl (Sub.l (List.Sublist.refl _)) (Conv.refl (Sub.l (List.Sublist.refl _)) _) ⟨congrArg AV.bool (hend.trans rfl), rfl⟩ (.inl rfl)

set_option maxRecDepth 100000 in
/-- provost/provostbook.SameSpec -/
theorem book_SameSpec_ok (a b : Spc) (ha : shortS a) (hb : shortS b) : PCalls Tryd.prog 50 [spcAV a, spcAV b] (.bool (sameS a b)) := by
  intro st
  refine ACalls_of (N := 52) Tryd.func50 (by kernel_rfl) rfl rfl rfl ?_
  obtain ⟨a1, a2, a3, a4, a5⟩ := ha
  obtain ⟨b1', b2', b3', b4', b5'⟩ := hb
  refine AC_seq ?_
  refine AC_region ?_
  refine AL_step rfl rfl (S_box rfl (.tmp rfl)) ?_
  rintro _ _ ⟨b1, rfl, rfl⟩
  refine AL_step rfl rfl (S_box rfl (.tmp rfl)) ?_
  rintro _ _ ⟨b2, rfl, rfl⟩
  refine AL_p rfl rfl (S_assign rfl (AEv.const _)) ?_
  refine AL_nil ?_
  refine AC_seq ?_
  refine AC_region ?_
  refine AL_p rfl rfl (S_field 0 rfl (.tmp rfl) (by kernel_rfl)) ?_
  refine AL_p rfl rfl (S_load 1 rfl (.tmp rfl) rfl rfl (by kernel_rfl)) ?_
  refine AL_p rfl rfl (S_field 0 rfl (.tmp rfl) (by kernel_rfl)) ?_
  refine AL_p rfl rfl (S_load 0 rfl (.tmp rfl) rfl rfl (by kernel_rfl)) ?_
  refine AL_p rfl rfl (S_eqS rfl (.tmp rfl) (.tmp rfl)) ?_
  refine AL_p rfl rfl (S_move rfl (.tmp rfl)) ?_
  refine AL_g rfl rfl (.tmp rfl) rfl (fun hg3 => S_field 1 rfl (.tmp rfl) (by kernel_rfl)) ?_
  refine AL_g rfl rfl (.tmp rfl) rfl (fun hg6 => S_load 1 rfl (AEv.cond (.tmp rfl) (by first | assumption | exact gdAnd (by assumption) (by assumption))) rfl rfl (by kernel_rfl)) ?_
  refine AL_g rfl rfl (.tmp rfl) rfl (fun hg9 => S_field 1 rfl (.tmp rfl) (by kernel_rfl)) ?_
  refine AL_g rfl rfl (.tmp rfl) rfl (fun hg12 => S_load 0 rfl (AEv.cond (.tmp rfl) (by first | assumption | exact gdAnd (by assumption) (by assumption))) rfl rfl (by kernel_rfl)) ?_
  refine AL_g rfl rfl (.tmp rfl) rfl (fun hg15 => S_pcall rfl (AEvs.cons (AEv.cond (.tmp rfl) (by first | assumption | exact gdAnd (by assumption) (by assumption))) (AEvs.cons (AEv.cond (.tmp rfl) (by first | assumption | exact gdAnd (by assumption) (by assumption))) AEvs.nil)) (book_SameLabels_ok a.labels b.labels a1 b1')) ?_
  refine AL_p rfl rfl (S_and rfl (.tmp rfl) (fun hp18 => (AEv.cond (.tmp rfl) (by first | assumption | exact gdT hp18 | exact gdF hp18 | exact gdAnd (by assumption) (gdT hp18) | exact gdAnd (by assumption) (gdF hp18))))) ?_
  refine AL_p rfl rfl (S_move rfl (.tmp rfl)) ?_
  refine AL_g rfl rfl (.tmp rfl) rfl (fun hg19 => S_field 2 rfl (.tmp rfl) (by kernel_rfl)) ?_
  refine AL_g rfl rfl (.tmp rfl) rfl (fun hg22 => S_load 1 rfl (AEv.cond (.tmp rfl) (by first | assumption | exact gdAnd (by assumption) (by assumption))) rfl rfl (by kernel_rfl)) ?_
  refine AL_g rfl rfl (.tmp rfl) rfl (fun hg25 => S_field 2 rfl (.tmp rfl) (by kernel_rfl)) ?_
  refine AL_g rfl rfl (.tmp rfl) rfl (fun hg28 => S_load 0 rfl (AEv.cond (.tmp rfl) (by first | assumption | exact gdAnd (by assumption) (by assumption))) rfl rfl (by kernel_rfl)) ?_
  refine AL_g rfl rfl (.tmp rfl) rfl (fun hg31 => S_pcall rfl (AEvs.cons (AEv.cond (.tmp rfl) (by first | assumption | exact gdAnd (by assumption) (by assumption))) (AEvs.cons (AEv.cond (.tmp rfl) (by first | assumption | exact gdAnd (by assumption) (by assumption))) AEvs.nil)) (book_SameContainers_ok a.init b.init a2 b2' a4 b4')) ?_
  refine AL_p rfl rfl (S_and rfl (.tmp rfl) (fun hp34 => (AEv.cond (.tmp rfl) (by first | assumption | exact gdT hp34 | exact gdF hp34 | exact gdAnd (by assumption) (gdT hp34) | exact gdAnd (by assumption) (gdF hp34))))) ?_
  refine AL_p rfl rfl (S_move rfl (.tmp rfl)) ?_
  refine AL_g rfl rfl (.tmp rfl) rfl (fun hg35 => S_field 3 rfl (.tmp rfl) (by kernel_rfl)) ?_
  refine AL_g rfl rfl (.tmp rfl) rfl (fun hg38 => S_load 1 rfl (AEv.cond (.tmp rfl) (by first | assumption | exact gdAnd (by assumption) (by assumption))) rfl rfl (by kernel_rfl)) ?_
  refine AL_g rfl rfl (.tmp rfl) rfl (fun hg41 => S_field 3 rfl (.tmp rfl) (by kernel_rfl)) ?_
  refine AL_g rfl rfl (.tmp rfl) rfl (fun hg44 => S_load 0 rfl (AEv.cond (.tmp rfl) (by first | assumption | exact gdAnd (by assumption) (by assumption))) rfl rfl (by kernel_rfl)) ?_
  refine AL_g rfl rfl (.tmp rfl) rfl (fun hg47 => S_pcall rfl (AEvs.cons (AEv.cond (.tmp rfl) (by first | assumption | exact gdAnd (by assumption) (by assumption))) (AEvs.cons (AEv.cond (.tmp rfl) (by first | assumption | exact gdAnd (by assumption) (by assumption))) AEvs.nil)) (book_SameContainers_ok a.main b.main a3 b3' a5 b5')) ?_
  refine AL_p rfl rfl (S_and rfl (.tmp rfl) (fun hp50 => (AEv.cond (.tmp rfl) (by first | assumption | exact gdT hp50 | exact gdF hp50 | exact gdAnd (by assumption) (gdT hp50) | exact gdAnd (by assumption) (gdF hp50))))) ?_
  refine AL_p rfl rfl (S_move rfl (.tmp rfl)) ?_
  refine AL_g rfl rfl (.tmp rfl) rfl (fun hg51 => S_field 4 rfl (.tmp rfl) (by kernel_rfl)) ?_
  refine AL_g rfl rfl (.tmp rfl) rfl (fun hg54 => S_load 1 rfl (AEv.cond (.tmp rfl) (by first | assumption | exact gdAnd (by assumption) (by assumption))) rfl rfl (by kernel_rfl)) ?_
  refine AL_g rfl rfl (.tmp rfl) rfl (fun hg57 => S_field 4 rfl (.tmp rfl) (by kernel_rfl)) ?_
  refine AL_g rfl rfl (.tmp rfl) rfl (fun hg60 => S_load 0 rfl (AEv.cond (.tmp rfl) (by first | assumption | exact gdAnd (by assumption) (by assumption))) rfl rfl (by kernel_rfl)) ?_
  refine AL_g rfl rfl (.tmp rfl) rfl (fun hg63 => S_eql rfl (AEv.cond (.tmp rfl) (by first | assumption | exact gdAnd (by assumption) (by assumption))) (AEv.cond (.tmp rfl) (by first | assumption | exact gdAnd (by assumption) (by assumption)))) ?_
  refine AL_p rfl rfl (S_and rfl (.tmp rfl) (fun hp66 => (AEv.cond (.tmp rfl) (by first | assumption | exact gdT hp66 | exact gdF hp66 | exact gdAnd (by assumption) (gdT hp66) | exact gdAnd (by assumption) (gdF hp66))))) ?_
  refine AL_p rfl rfl (S_move rfl (.tmp rfl)) ?_
  refine AL_g rfl rfl (.tmp rfl) rfl (fun hg67 => S_field 5 rfl (.tmp rfl) (by kernel_rfl)) ?_
  refine AL_g rfl rfl (.tmp rfl) rfl (fun hg70 => S_load 1 rfl (AEv.cond (.tmp rfl) (by first | assumption | exact gdAnd (by assumption) (by assumption))) rfl rfl (by kernel_rfl)) ?_
  refine AL_g rfl rfl (.tmp rfl) rfl (fun hg73 => S_field 5 rfl (.tmp rfl) (by kernel_rfl)) ?_
  refine AL_g rfl rfl (.tmp rfl) rfl (fun hg76 => S_load 0 rfl (AEv.cond (.tmp rfl) (by first | assumption | exact gdAnd (by assumption) (by assumption))) rfl rfl (by kernel_rfl)) ?_
  refine AL_g rfl rfl (.tmp rfl) rfl (fun hg79 => S_eql rfl (AEv.cond (.tmp rfl) (by first | assumption | exact gdAnd (by assumption) (by assumption))) (AEv.cond (.tmp rfl) (by first | assumption | exact gdAnd (by assumption) (by assumption)))) ?_
  refine AL_p rfl rfl (S_and rfl (.tmp rfl) (fun hp82 => (AEv.cond (.tmp rfl) (by first | assumption | exact gdT hp82 | exact gdF hp82 | exact gdAnd (by assumption) (gdT hp82) | exact gdAnd (by assumption) (gdF hp82))))) ?_
  refine AL_p rfl rfl (S_move rfl (.tmp rfl)) ?_
  refine AL_g rfl rfl (.tmp rfl) rfl (fun hg83 => S_field 6 rfl (.tmp rfl) (by kernel_rfl)) ?_
  refine AL_g rfl rfl (.tmp rfl) rfl (fun hg86 => S_load 1 rfl (AEv.cond (.tmp rfl) (by first | assumption | exact gdAnd (by assumption) (by assumption))) rfl rfl (by kernel_rfl)) ?_
  refine AL_g rfl rfl (.tmp rfl) rfl (fun hg89 => S_field 6 rfl (.tmp rfl) (by kernel_rfl)) ?_
  refine AL_g rfl rfl (.tmp rfl) rfl (fun hg92 => S_load 0 rfl (AEv.cond (.tmp rfl) (by first | assumption | exact gdAnd (by assumption) (by assumption))) rfl rfl (by kernel_rfl)) ?_
  refine AL_g rfl rfl (.tmp rfl) rfl (fun hg95 => S_eql rfl (AEv.cond (.tmp rfl) (by first | assumption | exact gdAnd (by assumption) (by assumption))) (AEv.cond (.tmp rfl) (by first | assumption | exact gdAnd (by assumption) (by assumption)))) ?_
  refine AL_p rfl rfl (S_and rfl (.tmp rfl) (fun hp98 => (AEv.cond (.tmp rfl) (by first | assumption | exact gdT hp98 | exact gdF hp98 | exact gdAnd (by assumption) (gdT hp98) | exact gdAnd (by assumption) (gdF hp98))))) ?_
  refine AL_p rfl rfl (S_assign rfl (.tmp rfl)) ?_
  refine AL_nil ?_
  refine AC_ret ?_
  refine ret_tmp st rfl rfl (Sub.l (List.Sublist.cons _ (List.Sublist.cons _ (List.Sublist.refl _)))) (Conv.refl (Sub.l (List.Sublist.cons _ (List.Sublist.cons _ (List.Sublist.refl _)))) _) ⟨rfl, rfl⟩ (.inl rfl)

end Go.Proofs.YtdljfalidkpfoaaDoor

/-
The walks of Go functions in the logic AL: what each of them answers.
Conditions: those of each theorem.
-/
set_option linter.unusedVariables false
set_option linter.unusedSimpArgs false
namespace Go.Proofs.YtdljfalidkpfoaaDoor
open Go.AL Go.NumSpec

theorem x_count : ExtOf Tryd.prog 75 Extern.BytealgCount.count := ⟨_, Tryd.func75, by kernel_rfl, by kernel_rfl, by kernel_rfl, by kernel_rfl⟩

set_option maxRecDepth 100000 in
/-- strings.Index -/
theorem strings_Index_ok (s : List UInt8) (c : UInt8) : PCalls Tryd.prog 55 [.S s, .S [c]] (.int .i64 (idxV s c)) := by
  intro st
  refine ACalls_of (N := 8) Tryd.func55 (by kernel_rfl) rfl rfl rfl ?_
  refine AC_seq ?_
  refine AC_region ?_
  refine AL_p rfl rfl (S_assign rfl (AEv.const _)) ?_
  refine AL_nil ?_
  refine AC_seq ?_
  refine AC_region ?_
  refine AL_p rfl rfl (S_move rfl (.tmp rfl)) ?_
  refine AL_p rfl rfl (S_move rfl (.tmp rfl)) ?_
  refine AL_p rfl rfl (S_pcall rfl (AEvs.cons (.tmp rfl) (AEvs.cons (.tmp rfl) AEvs.nil)) (lite_Index_ok s c)) ?_
  refine AL_p rfl rfl (S_assign rfl (.tmp rfl)) ?_
  refine AL_nil ?_
  refine AC_ret ?_
  refine ret_tmp st rfl rfl (Sub.l (List.Sublist.refl _)) (Conv.refl (Sub.l (List.Sublist.refl _)) _) ⟨rfl, rfl⟩ (.inl rfl)

set_option maxRecDepth 100000 in
/-- strings.Count -/
theorem strings_Count_ok (s : List UInt8) (c : UInt8) : PCalls Tryd.prog 54 [.S s, .S [c]] (.int .i64 ((s.count c : Nat) : Int)) := by
  intro st
  refine ACalls_of (N := 34) Tryd.func54 (by kernel_rfl) rfl rfl rfl ?_
  refine AC_seq ?_
  refine AC_region ?_
  refine AL_p rfl rfl (S_assign rfl (AEv.const _)) ?_
  refine AL_nil ?_
  refine AC_seq ?_
  refine AC_seq ?_
  refine AC_region ?_
  refine AL_p rfl rfl (S_move rfl (.tmp rfl)) ?_
  refine AL_p rfl rfl (S_lenS (ts := #[]) rfl (.tmp rfl) (by kernel_rfl)) ?_
  refine AL_p rfl rfl (S_eql rfl (.tmp rfl) (AEv.const _)) ?_
  refine AL_nil ?_
  refine AC_cond (.tmp rfl) (fun hb1 => ?_) (fun hb1 => ?_)
  · simp at hb1; done
  try simp only [zA, zO, zN, zM, zP, zQ, zD, zF, gd] at hb1
  refine AC_skip ?_
  refine AC_seq ?_
  refine AC_seq ?_
  refine AC_region ?_
  refine AL_p rfl rfl (S_move rfl (.tmp rfl)) ?_
  refine AL_p rfl rfl (S_lenS (ts := #[]) rfl (.tmp rfl) (by kernel_rfl)) ?_
  refine AL_p rfl rfl (S_eql rfl (.tmp rfl) (AEv.const _)) ?_
  refine AL_nil ?_
  refine AC_cond (.tmp rfl) (fun hb2 => ?_) (fun hb2 => ?_)
  · try simp only [zA, zO, zN, zM, zP, zQ, zD, zF, gd] at hb2
    refine AC_seq ?_
    refine AC_region ?_
    refine AL_p rfl rfl (S_move rfl (.tmp rfl)) ?_
    refine AL_p rfl rfl (S_move rfl (.tmp rfl)) ?_
    refine AL_p rfl rfl (S_index rfl (.tmp rfl) (AEv.const _) (by kernel_rfl) (by omega) (by omega)) ?_
    refine AL_p rfl rfl (S_extL (vals := [.string ⟨s.toArray⟩, .int .u8 (c.toNat : Int)]) rfl (AEvs.cons (.tmp rfl) (AEvs.cons (.tmp rfl) AEvs.nil)) x_count (fun w => run_count w)) ?_
    refine AL_p rfl rfl (S_assign rfl (.tmp rfl)) ?_
    refine AL_nil ?_
    refine AC_ret ?_
    refine ret_tmp st rfl rfl (Sub.l (List.Sublist.refl _)) (Conv.refl (Sub.l (List.Sublist.refl _)) _) ⟨rfl, rfl⟩ (.inl rfl)
  simp at hb2; done

set_option maxRecDepth 100000 in
/-- strings.genSplit -/
theorem strings_genSplit_ok (s : List UInt8) (c : UInt8) (hs : s.length ≤ 1000000) : PCalls Tryd.prog 39 [.S s, .S [c], .int .i64 0, .int .i64 (-1)] (.sl (strsV (partsB c s))) := by
  intro st
  refine ACalls_of (N := 66) Tryd.func39 (by kernel_rfl) rfl rfl rfl ?_
  have hcl : s.count c ≤ s.length := List.count_le_length
  have hc1 : ([c] : List UInt8).length = 1 := rfl
  refine AC_seq ?_
  refine AC_region ?_
  refine AL_p rfl rfl (S_assign rfl (AEv.const _)) ?_
  refine AL_nil ?_
  refine AC_seq ?_
  refine AC_seq ?_
  refine AC_region ?_
  refine AL_p rfl rfl (S_move rfl (.tmp rfl)) ?_
  refine AL_p rfl rfl (S_eql rfl (.tmp rfl) (AEv.const _)) ?_
  refine AL_nil ?_
  refine AC_cond (.tmp rfl) (fun hb1 => ?_) (fun hb1 => ?_)
  · simp at hb1; done
  try simp only [zA, zO, zN, zM, zP, zQ, zD, zF, gd] at hb1
  refine AC_skip ?_
  refine AC_seq ?_
  refine AC_seq ?_
  refine AC_region ?_
  refine AL_p rfl rfl (S_move rfl (.tmp rfl)) ?_
  refine AL_p rfl rfl (S_eqS rfl (.tmp rfl) (AEv.S _)) ?_
  refine AL_nil ?_
  refine AC_cond (.tmp rfl) (fun hb2 => ?_) (fun hb2 => ?_)
  · simp at hb2; done
  try simp only [zA, zO, zN, zM, zP, zQ, zD, zF, gd] at hb2
  refine AC_skip ?_
  refine AC_joinK (G := Unit) [(0, _), (1, _), (2, _), (8, _)] (fun _ => True) (fun _ => [(3, .int .i64 (((s.count c + 1) : Nat) : Int))]) (fun _ => st) (.cons rfl (Le.refl _) (.cons rfl (Le.refl _) (.cons rfl (Le.refl _) (.cons rfl (Le.refl _) .nil)))) ?_ ?_
  · refine AC_seq ?_
    refine AC_region ?_
    refine AL_p rfl rfl (S_move rfl (.tmp rfl)) ?_
    refine AL_p rfl rfl (S_lss rfl (.tmp rfl) (AEv.const _)) ?_
    refine AL_nil ?_
    refine AC_cond (.tmp rfl) (fun hb3 => ?_) (fun hb3 => ?_)
    · try simp only [zA, zO, zN, zM, zP, zQ, zD, zF, gd] at hb3
      refine AC_region ?_
      refine AL_p rfl rfl (S_move rfl (.tmp rfl)) ?_
      refine AL_p rfl rfl (S_move rfl (.tmp rfl)) ?_
      refine AL_p rfl rfl (S_pcall rfl (AEvs.cons (.tmp rfl) (AEvs.cons (.tmp rfl) AEvs.nil)) (strings_Count_ok s c)) ?_
      refine AL_p rfl rfl (S_addI rfl (.tmp rfl) (AEv.const _) (by omega) (by omega)) ?_
      refine AL_p rfl rfl (S_assign rfl (.tmp rfl)) ?_
      refine AL_nil ?_
      exact ⟨(), trivial, Sub.l (List.Sublist.refl _), (.cons rfl (by first | exact Le.refl _ | exact Le.nils | exact Le.row _ _ _ _ | exact Le.of_eq (by first | rfl | (simp; done) | (push_cast; rfl) | (simp; omega))) .nil), (.cons rfl (Le.refl _) (.cons rfl (Le.refl _) (.cons rfl (Le.refl _) (.cons rfl (Le.refl _) .nil))))⟩
    simp at hb3; done
  rintro _ _
  try dsimp only
  simp only [List.cons_append, List.nil_append]
  refine AC_seq ?_
  refine AC_region ?_
  refine AL_p rfl rfl (S_move rfl (.tmp rfl)) ?_
  refine AL_p rfl rfl (S_move rfl (.tmp rfl)) ?_
  refine AL_p rfl rfl (S_lenS (ts := #[]) rfl (.tmp rfl) (by kernel_rfl)) ?_
  refine AL_p rfl rfl (S_addI rfl (.tmp rfl) (AEv.const _) (by omega) (by omega)) ?_
  refine AL_p rfl rfl ((S_min rfl (.tmp rfl) (.tmp rfl)).ofV (V' := .int .i64 (((s.count c + 1) : Nat) : Int)) (congrArg (AV.int .i64) (by omega))) ?_
  refine AL_p rfl rfl (S_assign rfl (.tmp rfl)) ?_
  refine AL_nil ?_
  refine AC_seq ?_
  refine AC_region ?_
  refine AL_p rfl rfl (S_move rfl (.tmp rfl)) ?_
  refine AL_step rfl rfl (S_make1 (e := 9) (bytes := 16) (n := (s.count c + 1)) (z := .string ⟨#[]⟩) rfl (.tmp rfl) (by kernel_rfl) (by kernel_rfl) rfl (by omega) (by omega)) ?_
  rintro _ _ ⟨b9, rfl, rfl⟩
  refine AL_p rfl rfl (S_assign rfl (.tmp rfl)) ?_
  refine AL_nil ?_
  refine AC_seq ?_
  refine AC_region ?_
  refine AL_p rfl rfl (S_move rfl (.tmp rfl)) ?_
  refine AL_p rfl rfl (S_subI rfl (.tmp rfl) (AEv.const _) (by omega) (by omega)) ?_
  refine AL_p rfl rfl (S_assign rfl (.tmp rfl)) ?_
  refine AL_nil ?_
  refine AC_seq ?_
  refine AC_region ?_
  refine AL_p rfl rfl (S_assign rfl (AEv.const _)) ?_
  refine AL_nil ?_
  refine AC_seq ?_
  refine AC_block ?_
  refine AC_loopK (G := List (List UInt8) × List UInt8) [(1, _), (2, _), (3, _), (8, _), (9, _)] (fun g => partsB c s = g.1 ++ partsB c g.2 ∧ g.2.length ≤ s.length) (fun g => [(0, .S g.2), (10, .int .i64 ((g.1.length : Nat) : Int))]) (fun g => (b9, .cells (filling (s.count c + 1) g.1)) :: st) (fun g => g.2.length) (([], s)) (⟨rfl, Nat.le_refl _⟩) (by rw [filling_zero]; exact Sub.l (List.Sublist.refl _)) (.cons rfl (Le.refl _) (.cons rfl (Le.refl _) (.cons rfl (Le.refl _) (.cons rfl (Le.refl _) (.cons rfl (Le.refl _) .nil))))) (.cons rfl (by first | exact Le.refl _ | exact Le.nils | exact Le.row _ _ _ _ | exact Le.of_eq (by first | rfl | (simp; done) | (push_cast; rfl) | (simp; omega))) (.cons rfl (by first | exact Le.refl _ | exact Le.nils | exact Le.row _ _ _ _ | exact Le.of_eq (by first | rfl | (simp; done) | (push_cast; rfl) | (simp; omega))) .nil)) ?_
  rintro ⟨d, r⟩ ⟨hsp, hrl⟩
  try dsimp only
  simp only [List.cons_append, List.nil_append]
  dsimp only at hsp hrl
  refine AC_seq ?_
  refine AC_seq ?_
  refine AC_region ?_
  refine AL_p rfl rfl (S_move rfl (.tmp rfl)) ?_
  refine AL_p rfl rfl (S_move rfl (.tmp rfl)) ?_
  refine AL_p rfl rfl (S_lss rfl (.tmp rfl) (.tmp rfl)) ?_
  refine AL_nil ?_
  refine AC_cond (.tmp rfl) (fun hb4 => ?_) (fun hb4 => ?_)
  · try simp only [zA, zO, zN, zM, zP, zQ, zD, zF, gd] at hb4
    have hdl : d.length < s.count c := by omega
    refine AC_skip ?_
    refine AC_block ?_
    refine AC_seq ?_
    refine AC_region ?_
    refine AL_p rfl rfl (S_move rfl (.tmp rfl)) ?_
    refine AL_p rfl rfl (S_move rfl (.tmp rfl)) ?_
    refine AL_p rfl rfl (S_pcall rfl (AEvs.cons (.tmp rfl) (AEvs.cons (.tmp rfl) AEvs.nil)) (strings_Index_ok r c)) ?_
    refine AL_p rfl rfl (S_assign rfl (.tmp rfl)) ?_
    refine AL_nil ?_
    refine AC_seq ?_
    refine AC_seq ?_
    refine AC_region ?_
    refine AL_p rfl rfl (S_move rfl (.tmp rfl)) ?_
    refine AL_p rfl rfl (S_lss rfl (.tmp rfl) (AEv.const _)) ?_
    refine AL_nil ?_
    refine AC_cond (.tmp rfl) (fun hb5 => ?_) (fun hb5 => ?_)
    · try simp only [zA, zO, zN, zM, zP, zQ, zD, zF, gd] at hb5
      have hno : c ∉ r := idxV_neg.1 hb5
      have hd : d.length = s.count c := by
        have h1 := parts_count c s
        rw [hsp, List.length_append, split_none hno] at h1
        simp only [List.length_cons, List.length_nil] at h1
        omega
      rw [split_none hno] at hsp
      refine AC_exit ?_
      refine AC_seq ?_
      refine AC_region ?_
      refine AL_p rfl rfl (S_move rfl (.tmp rfl)) ?_
      refine AL_p rfl rfl (S_move rfl (.tmp rfl)) ?_
      refine AL_p rfl rfl (S_move rfl (.tmp rfl)) ?_
      refine AL_p rfl rfl (S_elemO (e := 9) 1 rfl (.tmp rfl) (.tmp rfl) (by kernel_rfl) (by kernel_rfl) (by omega) (by omega)) ?_
      refine AL_step rfl rfl (S_store (c := .S r) 0 rfl (.tmp rfl) (.tmp rfl) rfl (by rw [filling_len (by omega)]; omega) rfl (by kernel_rfl)) ?_
      rintro _ _ ⟨rfl, rfl⟩
      refine AL_nil ?_
      refine AC_seq ?_
      refine AC_region ?_
      refine AL_p rfl rfl (S_move rfl (.tmp rfl)) ?_
      refine AL_p rfl rfl (S_move rfl (.tmp rfl)) ?_
      refine AL_p rfl rfl (S_addI rfl (.tmp rfl) (AEv.const _) (by omega) (by omega)) ?_
      refine AL_p rfl rfl (S_cutOH (e := 9) (j := d.length + 1) 1 rfl (.tmp rfl) ((AEv.tmp rfl).le (Le.of_eq (congrArg (AV.int _) (by omega)))) (by kernel_rfl) (by kernel_rfl) (by omega)) ?_
      refine AL_p rfl rfl (S_assign rfl (.tmp rfl)) ?_
      refine AL_nil ?_
      refine AC_ret ?_
      refine ret_tmp st rfl rfl (Sub.l (List.Sublist.cons _ (List.Sublist.refl _))) (y := .sl (strsV (d ++ [r]))) ?_ ⟨by rw [hsp], rfl⟩ (.inl rfl)
      refine Conv.nd fun hnd => ?_
      have hfl : (filling (s.count c + 1) d).set (0 + ((d.length : Nat) : Int).toNat * 1) (.S r) = vec1C (s.count c + 1) (strsV (d ++ [r])) := by rw [filling_set (by omega), filling_full (by simp [hd])]
      have hv := Conv.vec1 (st := (b9, Ob.cells (vec1C (s.count c + 1) (strsV (d ++ [r])))) :: st) (st' := st) (b := b9) (cap := (s.count c + 1)) (xs := strsV (d ++ [r])) (Sub.l (List.Sublist.cons _ (List.Sublist.refl _))) (by simp [strsV, hd]) (fun x hx => by obtain ⟨y, _, rfl⟩ := List.mem_map.1 hx; rfl) List.mem_cons_self (fun o ho => by
        simp only [List.set_cons_zero, List.map_cons, List.nodup_cons] at hnd
        exact hnd.1 (List.mem_map_of_mem (f := Prod.fst) ho))
      rw [← hfl] at hv
      rw [show d.length + 1 = (strsV (d ++ [r])).length by simp [strsV]]
      exact hv
    try simp only [zA, zO, zN, zM, zP, zQ, zD, zF, gd] at hb5
    have hin : c ∈ r := Classical.byContradiction fun h => hb5 (idxV_neg.2 h)
    have hix := idxV_hit hin
    have hlt := head_lt hin
    refine AC_skip ?_
    refine AC_seq ?_
    refine AC_region ?_
    refine AL_p rfl rfl (S_move rfl (.tmp rfl)) ?_
    refine AL_p rfl rfl (S_move rfl (.tmp rfl)) ?_
    refine AL_p rfl rfl (S_move rfl (.tmp rfl)) ?_
    refine AL_p rfl rfl (S_move rfl (.tmp rfl)) ?_
    refine AL_p rfl rfl (S_move rfl (.tmp rfl)) ?_
    refine AL_p rfl rfl (S_addI rfl (.tmp rfl) (.tmp rfl) (by omega) (by omega)) ?_
    refine AL_p rfl rfl ((S_sliceH rfl (.tmp rfl) (.tmp rfl) (by kernel_rfl) (by omega) (by omega)).ofV (V' := .S (headB c r)) (congrArg AV.S (by rw [show (idxV r c + 0).toNat = (headB c r).length by rw [idxV_hit hin]; omega]; exact take_head))) ?_
    refine AL_p rfl rfl (S_elemO (e := 9) 1 rfl (.tmp rfl) (.tmp rfl) (by kernel_rfl) (by kernel_rfl) (by omega) (by omega)) ?_
    refine AL_step rfl rfl (S_store (c := .S (headB c r)) 0 rfl (.tmp rfl) (.tmp rfl) rfl (by rw [filling_len (by omega)]; omega) rfl (by kernel_rfl)) ?_
    rintro _ _ ⟨rfl, rfl⟩
    refine AL_nil ?_
    refine AC_seq ?_
    refine AC_region ?_
    refine AL_p rfl rfl (S_move rfl (.tmp rfl)) ?_
    refine AL_p rfl rfl (S_move rfl (.tmp rfl)) ?_
    refine AL_p rfl rfl (S_move rfl (.tmp rfl)) ?_
    refine AL_p rfl rfl (S_lenS (ts := #[]) rfl (.tmp rfl) (by kernel_rfl)) ?_
    refine AL_p rfl rfl (S_addI rfl (.tmp rfl) (.tmp rfl) (by omega) (by omega)) ?_
    refine AL_p rfl rfl ((S_sliceL rfl (.tmp rfl) (.tmp rfl) (by kernel_rfl) (by simp; omega) (by simp; omega)).ofV (V' := .S (restB c r)) (congrArg AV.S (by rw [show (idxV r c + ((([c] : List UInt8).length : Nat) : Int)).toNat = (headB c r).length + 1 by rw [idxV_hit hin]; simp]))) ?_
    refine AL_p rfl rfl (S_assign rfl (.tmp rfl)) ?_
    refine AL_nil ?_
    refine AC_region ?_
    refine AL_p rfl rfl (S_move rfl (.tmp rfl)) ?_
    refine AL_p rfl rfl (S_addI rfl (.tmp rfl) (AEv.const _) (by omega) (by omega)) ?_
    refine AL_p rfl rfl (S_assign rfl (.tmp rfl)) ?_
    refine AL_nil ?_
    rw [split_hit hin] at hsp
    have hlt := head_lt hin
    refine ⟨(d ++ [headB c r], restB c r), ⟨by dsimp only; rw [hsp]; simp, by dsimp only; rw [List.length_drop]; omega⟩, by dsimp only; rw [List.length_drop]; omega, ?_, (.cons rfl (Le.of_eq (congrArg AV.S (by simp [restB]))) (.cons rfl (Le.of_eq (congrArg (AV.int .i64) (by simp))) .nil)), (.cons rfl (Le.refl _) (.cons rfl (Le.refl _) (.cons rfl (Le.refl _) (.cons rfl (Le.refl _) (.cons rfl (Le.refl _) .nil)))))⟩
    dsimp only
    rw [← filling_set (by omega)]
    exact Sub.l (List.Sublist.refl _)
  try simp only [zA, zO, zN, zM, zP, zQ, zD, zF, gd] at hb4
  have hno : c ∉ r := by
    have h1 := parts_count c s
    have h2 := parts_count c r
    rw [hsp, List.length_append] at h1
    exact count_none (by omega)
  have hd : d.length = s.count c := by
    have h1 := parts_count c s
    rw [hsp, List.length_append, split_none hno] at h1
    simp only [List.length_cons, List.length_nil] at h1
    omega
  rw [split_none hno] at hsp
  refine AC_exit ?_
  refine AC_seq ?_
  refine AC_region ?_
  refine AL_p rfl rfl (S_move rfl (.tmp rfl)) ?_
  refine AL_p rfl rfl (S_move rfl (.tmp rfl)) ?_
  refine AL_p rfl rfl (S_move rfl (.tmp rfl)) ?_
  refine AL_p rfl rfl (S_elemO (e := 9) 1 rfl (.tmp rfl) (.tmp rfl) (by kernel_rfl) (by kernel_rfl) (by omega) (by omega)) ?_
  refine AL_step rfl rfl (S_store (c := .S r) 0 rfl (.tmp rfl) (.tmp rfl) rfl (by rw [filling_len (by omega)]; omega) rfl (by kernel_rfl)) ?_
  rintro _ _ ⟨rfl, rfl⟩
  refine AL_nil ?_
  refine AC_seq ?_
  refine AC_region ?_
  refine AL_p rfl rfl (S_move rfl (.tmp rfl)) ?_
  refine AL_p rfl rfl (S_move rfl (.tmp rfl)) ?_
  refine AL_p rfl rfl (S_addI rfl (.tmp rfl) (AEv.const _) (by omega) (by omega)) ?_
  refine AL_p rfl rfl (S_cutOH (e := 9) (j := d.length + 1) 1 rfl (.tmp rfl) ((AEv.tmp rfl).le (Le.of_eq (congrArg (AV.int _) (by omega)))) (by kernel_rfl) (by kernel_rfl) (by omega)) ?_
  refine AL_p rfl rfl (S_assign rfl (.tmp rfl)) ?_
  refine AL_nil ?_
  refine AC_ret ?_
  refine ret_tmp st rfl rfl (Sub.l (List.Sublist.cons _ (List.Sublist.refl _))) (y := .sl (strsV (d ++ [r]))) ?_ ⟨by rw [hsp], rfl⟩ (.inl rfl)
  refine Conv.nd fun hnd => ?_
  have hfl : (filling (s.count c + 1) d).set (0 + ((d.length : Nat) : Int).toNat * 1) (.S r) = vec1C (s.count c + 1) (strsV (d ++ [r])) := by rw [filling_set (by omega), filling_full (by simp [hd])]
  have hv := Conv.vec1 (st := (b9, Ob.cells (vec1C (s.count c + 1) (strsV (d ++ [r])))) :: st) (st' := st) (b := b9) (cap := (s.count c + 1)) (xs := strsV (d ++ [r])) (Sub.l (List.Sublist.cons _ (List.Sublist.refl _))) (by simp [strsV, hd]) (fun x hx => by obtain ⟨y, _, rfl⟩ := List.mem_map.1 hx; rfl) List.mem_cons_self (fun o ho => by
    simp only [List.set_cons_zero, List.map_cons, List.nodup_cons] at hnd
    exact hnd.1 (List.mem_map_of_mem (f := Prod.fst) ho))
  rw [← hfl] at hv
  rw [show d.length + 1 = (strsV (d ++ [r])).length by simp [strsV]]
  exact hv

set_option maxRecDepth 100000 in
/-- strings.Split -/
theorem strings_Split_ok (s : List UInt8) (c : UInt8) (hs : s.length ≤ 1000000) : PCalls Tryd.prog 27 [.S s, .S [c]] (.sl (strsV (partsB c s))) := by
  intro st
  refine ACalls_of (N := 8) Tryd.func27 (by kernel_rfl) rfl rfl rfl ?_
  refine AC_seq ?_
  refine AC_region ?_
  refine AL_p rfl rfl (S_assign rfl (AEv.const _)) ?_
  refine AL_nil ?_
  refine AC_seq ?_
  refine AC_region ?_
  refine AL_p rfl rfl (S_move rfl (.tmp rfl)) ?_
  refine AL_p rfl rfl (S_move rfl (.tmp rfl)) ?_
  refine AL_p rfl rfl (S_pcall rfl (AEvs.cons (.tmp rfl) (AEvs.cons (.tmp rfl) (AEvs.cons (AEv.const _) (AEvs.cons (AEv.const _) AEvs.nil)))) (strings_genSplit_ok s c hs)) ?_
  refine AL_p rfl rfl (S_assign rfl (.tmp rfl)) ?_
  refine AL_nil ?_
  refine AC_ret ?_
  refine ret_tmp st rfl rfl (Sub.l (List.Sublist.refl _)) (Conv.refl (Sub.l (List.Sublist.refl _)) _) ⟨rfl, rfl⟩ (.inl rfl)

end Go.Proofs.YtdljfalidkpfoaaDoor

/-
The walks of Go functions in the logic AL: what each of them answers.
Conditions: those of each theorem.
-/
set_option linter.unusedVariables false
set_option linter.unusedSimpArgs false
namespace Go.Proofs.YtdljfalidkpfoaaDoor
open Go.AL Go.NumSpec

set_option maxRecDepth 100000 in
/-- slices.Index[[]provost/api.Label,provost/api.Label] -/
theorem slices_IndexL_ok (l : List Lab) (s : Lab) (hl : l.length ≤ 1000000) : PCalls Tryd.prog 52 [.sl (labsV l), labAV s] (.int .i64 (idxG l s)) := by
  intro st
  refine ACalls_of (N := 19) Tryd.func52 (by kernel_rfl) rfl rfl rfl ?_
  refine AC_seq ?_
  refine AC_region ?_
  refine AL_step rfl rfl (S_box rfl (.tmp rfl)) ?_
  rintro _ _ ⟨b3, rfl, rfl⟩
  refine AL_p rfl rfl (S_assign rfl (AEv.const _)) ?_
  refine AL_nil ?_
  refine AC_seq ?_
  refine AC_seq ?_
  refine AC_region ?_
  refine AL_p rfl rfl (S_move rfl (.tmp rfl)) ?_
  refine AL_p rfl rfl (by first | exact S_lenM (e := 52) rfl (.tmp rfl) (by kernel_rfl) | exact S_len (e := 52) rfl (.tmp rfl) (by kernel_rfl)) ?_
  refine AL_p rfl rfl (S_move rfl (AEv.const _)) ?_
  refine AL_nil ?_
  refine AC_block ?_
  refine AC_loopK (G := Nat) [(0, _), (3, _), (7, _)] (fun g => g ≤ l.length ∧ ∀ j (hj : j < l.length), j < g → l[j] ≠ s) (fun g => [(8, .int .i64 (g : Int))]) (fun g => (b3, .cells [.S s.1, .S s.2]) :: st) (fun g => l.length - g) (0) (⟨Nat.zero_le _, fun j _ h => absurd h (Nat.not_lt_zero _)⟩) (Sub.l (List.Sublist.refl _)) (.cons rfl (Le.refl _) (.cons rfl (Le.refl _) (.cons rfl (Le.refl _) .nil))) (.cons rfl (by first | exact Le.refl _ | exact Le.nils | exact Le.row _ _ _ _ | exact Le.of_eq (by first | rfl | (simp; done) | (push_cast; rfl) | (simp; omega))) .nil) ?_
  rintro i ⟨hi, hall⟩
  try dsimp only
  simp only [List.cons_append, List.nil_append]
  refine AC_seq ?_
  refine AC_region ?_
  refine AL_p rfl rfl (S_lss rfl (.tmp rfl) (.tmp rfl)) ?_
  refine AL_nil ?_
  refine AC_seq ?_
  refine AC_cond (.tmp rfl) (fun hb2 => ?_) (fun hb2 => ?_)
  · try simp only [zA, zO, zN, zM, zP, zQ, zD, zF, gd] at hb2
    have hil : i < l.length := by omega
    refine AC_skip ?_
    refine AC_seq ?_
    refine AC_block ?_
    refine AC_seq ?_
    refine AC_region ?_
    refine AL_p rfl rfl (S_move rfl (.tmp rfl)) ?_
    refine AL_p rfl rfl (S_assign rfl (.tmp rfl)) ?_
    refine AL_nil ?_
    refine AC_seq ?_
    refine AC_draw (by kernel_rfl) (by kernel_rfl) (.cons rfl (Q_p rfl (S_loadN (m := 2) 0 rfl (.tmp rfl) rfl (by kernel_rfl) (by first | exact Nat.le_of_ble_eq_true rfl | (simp; omega) | simp))) <|
        .cons rfl (Q_p rfl (S_move rfl (.tmp rfl))) <|
        .cons rfl (Q_p rfl (S_move rfl (.tmp rfl))) <|
        .cons rfl (Q_p rfl (S_elemN (e := 52) 2 rfl (.tmp rfl) (.tmp rfl) (by kernel_rfl) (by kernel_rfl) (by omega) (fun _ => rfl))) <|
        .cons rfl (Q_p rfl (S_loadPN (m := 2) rfl (.tmp rfl) (by kernel_rfl) (by first | exact Nat.le_of_ble_eq_true rfl | (simp; omega) | simp))) <|
        .cons rfl (Q_p rfl ((S_eqlAgg rfl (.tmp rfl) (.tmp rfl) (by kernel_rfl) (EqAV.struct Tryd.underlying52 (by kernel_rfl) (EqFs.flat (by kernel_rfl) (by kernel_rfl) rfl rfl (EqAV.S (by kernel_rfl)) (EqFs.flat (by kernel_rfl) (by kernel_rfl) rfl rfl (EqAV.S (by kernel_rfl)) EqFs.nil)))).ofV (V' := .bool (decide (s = (l[i]'hil)))) (congrArg AV.bool lab_eqB))) <|
        .nil) ?_
    refine AC_cond (.tmp rfl) (fun hb3 => ?_) (fun hb3 => ?_)
    · try simp only [zA, zO, zN, zM, zP, zQ, zD, zF, gd] at hb3
      have he : (l[i]'hil) = s := hb3.symm
      refine AC_seq ?_
      refine AC_region ?_
      refine AL_p rfl rfl (S_move rfl (.tmp rfl)) ?_
      refine AL_p rfl rfl (S_assign rfl (.tmp rfl)) ?_
      refine AL_nil ?_
      refine AC_ret ?_
      refine ret_tmp st rfl rfl (Sub.l (List.Sublist.cons _ (List.Sublist.refl _))) (Conv.refl (Sub.l (List.Sublist.cons _ (List.Sublist.refl _))) _) ⟨by rw [idxG_hit hil he fun j hj => hall j (by omega) hj], rfl⟩ (.inl rfl)
    try simp only [zA, zO, zN, zM, zP, zQ, zD, zF, gd] at hb3
    have hne : (l[i]'hil) ≠ s := fun e => hb3 e.symm
    refine AC_skip ?_
    refine AC_region ?_
    refine AL_p rfl rfl (S_addI rfl (.tmp rfl) (AEv.const _) (by omega) (by omega)) ?_
    refine AL_p rfl rfl (S_move rfl (.tmp rfl)) ?_
    refine AL_nil ?_
    refine ⟨i + 1, ⟨by omega, fun j hj h => ?_⟩, by omega, (Sub.l (List.Sublist.refl _)), (.cons rfl (by first | exact Le.refl _ | exact Le.nils | exact Le.row _ _ _ _ | exact Le.of_eq (by first | rfl | (simp; done) | (push_cast; rfl) | (simp; omega))) .nil), (.cons rfl (Le.refl _) (.cons rfl (Le.refl _) (.cons rfl (Le.refl _) .nil)))⟩
    rcases Nat.lt_or_ge j i with h' | h'
    · exact hall j hj h'
    · have : j = i := by omega
      subst this
      exact hne
  try simp only [zA, zO, zN, zM, zP, zQ, zD, zF, gd] at hb2
  refine AC_exit ?_
  refine AC_seq ?_
  refine AC_region ?_
  refine AL_p rfl rfl (S_assign rfl (AEv.const _)) ?_
  refine AL_nil ?_
  refine AC_ret ?_
  refine ret_tmp st rfl rfl (Sub.l (List.Sublist.cons _ (List.Sublist.refl _))) (Conv.refl (Sub.l (List.Sublist.cons _ (List.Sublist.refl _))) _) ⟨by rw [idxG_none fun j hj => hall j hj (by omega)], rfl⟩ (.inl rfl)

set_option maxRecDepth 100000 in
/-- slices.Contains[[]provost/api.Label,provost/api.Label] -/
theorem slices_ContainsL_ok (l : List Lab) (s : Lab) (hl : l.length ≤ 1000000) : PCalls Tryd.prog 38 [.sl (labsV l), labAV s] (.bool (decide (s ∈ l))) := by
  intro st
  refine ACalls_of (N := 9) Tryd.func38 (by kernel_rfl) rfl rfl rfl ?_
  refine AC_seq ?_
  refine AC_region ?_
  refine AL_step rfl rfl (S_box rfl (.tmp rfl)) ?_
  rintro _ _ ⟨b1, rfl, rfl⟩
  refine AL_p rfl rfl (S_assign rfl (AEv.const _)) ?_
  refine AL_nil ?_
  refine AC_seq ?_
  refine AC_region ?_
  refine AL_p rfl rfl (S_move rfl (.tmp rfl)) ?_
  refine AL_p rfl rfl (S_loadN (m := 2) 0 rfl (.tmp rfl) rfl (by kernel_rfl) (by first | exact Nat.le_of_ble_eq_true rfl | (simp; omega) | simp)) ?_
  refine AL_p rfl rfl (S_pcall rfl (AEvs.cons (.tmp rfl) (AEvs.cons (y := labAV s) (.tmp rfl) AEvs.nil)) (slices_IndexL_ok l s hl)) ?_
  refine AL_p rfl rfl (S_geq rfl (.tmp rfl) (AEv.const _)) ?_
  refine AL_p rfl rfl (S_assign rfl (.tmp rfl)) ?_
  refine AL_nil ?_
  refine AC_ret ?_
  refine ret_tmp st rfl rfl (Sub.l (List.Sublist.cons _ (List.Sublist.refl _))) (Conv.refl (Sub.l (List.Sublist.cons _ (List.Sublist.refl _))) _) ⟨by rw [show decide (s ∈ l) = decide (0 ≤ idxG l s) from decide_eq_decide.2 (idxG_mem s l).symm], rfl⟩ (.inl rfl)

set_option maxRecDepth 100000 in
/-- provost/sel.Covers -/
theorem sel_Covers_ok (l b : List Lab) (hl : l.length ≤ 1000000) (hb : b.length ≤ 1000000) : PCalls Tryd.prog 24 [.sl (labsV l), .sl (labsV b)] (.bool (coversL l b)) := by
  intro st
  refine ACalls_of (N := 18) Tryd.func24 (by kernel_rfl) rfl rfl rfl ?_
  refine AC_seq ?_
  refine AC_region ?_
  refine AL_p rfl rfl (S_assign rfl (AEv.const _)) ?_
  refine AL_nil ?_
  refine AC_seq ?_
  refine AC_seq ?_
  refine AC_region ?_
  refine AL_p rfl rfl (S_move rfl (.tmp rfl)) ?_
  refine AL_p rfl rfl (by first | exact S_lenM (e := 52) rfl (.tmp rfl) (by kernel_rfl) | exact S_len (e := 52) rfl (.tmp rfl) (by kernel_rfl)) ?_
  refine AL_p rfl rfl (S_move rfl (AEv.const _)) ?_
  refine AL_nil ?_
  refine AC_block ?_
  refine AC_loopK (G := Nat) [(1, _), (7, _), (8, _)] (fun g => g ≤ l.length ∧ ∀ j (hj : j < l.length), j < g → l[j] ∈ b) (fun g => [(9, .int .i64 (g : Int))]) (fun g => st) (fun g => l.length - g) (0) (⟨Nat.zero_le _, fun j _ h => absurd h (Nat.not_lt_zero _)⟩) (Sub.l (List.Sublist.refl _)) (.cons rfl (Le.refl _) (.cons rfl (Le.refl _) (.cons rfl (Le.refl _) .nil))) (.cons rfl (by first | exact Le.refl _ | exact Le.nils | exact Le.row _ _ _ _ | exact Le.of_eq (by first | rfl | (simp; done) | (push_cast; rfl) | (simp; omega))) .nil) ?_
  rintro i ⟨hi, hall⟩
  try dsimp only
  simp only [List.cons_append, List.nil_append]
  refine AC_seq ?_
  refine AC_region ?_
  refine AL_p rfl rfl (S_lss rfl (.tmp rfl) (.tmp rfl)) ?_
  refine AL_nil ?_
  refine AC_seq ?_
  refine AC_cond (.tmp rfl) (fun hb1 => ?_) (fun hb1 => ?_)
  · try simp only [zA, zO, zN, zM, zP, zQ, zD, zF, gd] at hb1
    have hil : i < l.length := by omega
    refine AC_skip ?_
    refine AC_seq ?_
    refine AC_block ?_
    refine AC_seq ?_
    refine AC_region ?_
    refine AL_p rfl rfl (S_elemN (e := 52) 2 rfl (.tmp rfl) (.tmp rfl) (by kernel_rfl) (by kernel_rfl) (by omega) (fun _ => rfl)) ?_
    refine AL_p rfl rfl (S_loadPN (m := 2) rfl (.tmp rfl) (by kernel_rfl) (by first | exact Nat.le_of_ble_eq_true rfl | (simp; omega) | simp)) ?_
    refine AL_step rfl rfl (S_alloc [.string ⟨#[]⟩, .string ⟨#[]⟩] rfl (by kernel_rfl)) ?_
    rintro _ _ ⟨b6, rfl, rfl⟩
    refine AL_step rfl rfl (S_storeW 0 rfl (.tmp rfl) (.tmp rfl) rfl rfl rfl (by kernel_rfl)) ?_
    rintro _ _ ⟨rfl, rfl⟩
    refine AL_nil ?_
    refine AC_seq ?_
    refine AC_region ?_
    refine AL_p rfl rfl (S_move rfl (.tmp rfl)) ?_
    refine AL_p rfl rfl (S_loadN (m := 2) 0 rfl (.tmp rfl) rfl (by kernel_rfl) (by first | exact Nat.le_of_ble_eq_true rfl | (simp; omega) | simp)) ?_
    refine AL_p rfl rfl (S_pcall rfl (AEvs.cons (.tmp rfl) (AEvs.cons (y := labAV (l[i]'hil)) (.tmp rfl) AEvs.nil)) (slices_ContainsL_ok b (l[i]'hil) hb)) ?_
    refine AL_p rfl rfl (S_not rfl (.tmp rfl)) ?_
    refine AL_nil ?_
    refine AC_cond (.tmp rfl) (fun hb3 => ?_) (fun hb3 => ?_)
    · try simp only [zA, zO, zN, zM, zP, zQ, zD, zF, gd] at hb3
      have hbad : coversL l b = false := covers_bad hil (by simpa using hb3)
      refine AC_seq ?_
      refine AC_region ?_
      refine AL_p rfl rfl (S_assign rfl (AEv.const _)) ?_
      refine AL_nil ?_
      refine AC_ret ?_
      refine ret_tmp st rfl rfl (Sub.l (List.Sublist.cons _ (List.Sublist.refl _))) (Conv.refl (Sub.l (List.Sublist.cons _ (List.Sublist.refl _))) _) ⟨by rw [hbad], rfl⟩ (.inl rfl)
    try simp only [zA, zO, zN, zM, zP, zQ, zD, zF, gd] at hb3
    have hin : (l[i]'hil) ∈ b := by simpa using hb3
    refine AC_skip ?_
    refine AC_region ?_
    refine AL_p rfl rfl (S_addI rfl (.tmp rfl) (AEv.const _) (by omega) (by omega)) ?_
    refine AL_p rfl rfl (S_move rfl (.tmp rfl)) ?_
    refine AL_nil ?_
    refine ⟨i + 1, ⟨by omega, fun j hj h => ?_⟩, by omega, (Sub.l (List.Sublist.cons _ (List.Sublist.refl _))), (.cons rfl (by first | exact Le.refl _ | exact Le.nils | exact Le.row _ _ _ _ | exact Le.of_eq (by first | rfl | (simp; done) | (push_cast; rfl) | (simp; omega))) .nil), (.cons rfl (Le.refl _) (.cons rfl (Le.refl _) (.cons rfl (Le.refl _) .nil)))⟩
    rcases Nat.lt_or_ge j i with h' | h'
    · exact hall j hj h'
    · have : j = i := by omega
      subst this
      exact hin
  try simp only [zA, zO, zN, zM, zP, zQ, zD, zF, gd] at hb1
  have hgood : coversL l b = true := covers_all fun j hj => hall j hj (by omega)
  refine AC_exit ?_
  refine AC_seq ?_
  refine AC_region ?_
  refine AL_p rfl rfl (S_assign rfl (AEv.const _)) ?_
  refine AL_nil ?_
  refine AC_ret ?_
  refine ret_tmp st rfl rfl (Sub.l (List.Sublist.refl _)) (Conv.refl (Sub.l (List.Sublist.refl _)) _) ⟨by rw [hgood], rfl⟩ (.inl rfl)

set_option maxRecDepth 100000 in
/-- provost/sel.Fits -/
theorem sel_Fits_ok (l b : List Lab) (hl : l.length ≤ 1000000) (hb : b.length ≤ 1000000) : PCalls Tryd.prog 23 [.sl (labsV l), .sl (labsV b)] (.bool (coversL l b)) := by
  intro st
  refine ACalls_of (N := 8) Tryd.func23 (by kernel_rfl) rfl rfl rfl ?_
  refine AC_seq ?_
  refine AC_region ?_
  refine AL_p rfl rfl (S_assign rfl (AEv.const _)) ?_
  refine AL_nil ?_
  refine AC_seq ?_
  refine AC_region ?_
  refine AL_p rfl rfl (S_move rfl (.tmp rfl)) ?_
  refine AL_p rfl rfl (S_move rfl (.tmp rfl)) ?_
  refine AL_p rfl rfl (S_pcall rfl (AEvs.cons (.tmp rfl) (AEvs.cons (.tmp rfl) AEvs.nil)) (sel_Covers_ok l b hl hb)) ?_
  refine AL_p rfl rfl (S_assign rfl (.tmp rfl)) ?_
  refine AL_nil ?_
  refine AC_ret ?_
  refine ret_tmp st rfl rfl (Sub.l (List.Sublist.refl _)) (Conv.refl (Sub.l (List.Sublist.refl _)) _) ⟨rfl, rfl⟩ (.inl rfl)

set_option maxRecDepth 100000 in
/-- provost/provostref11.has -/
theorem ref11_has_ok (l : List Lab) (s : Lab) (hl : l.length ≤ 1000000) : PCalls Tryd.prog 34 [.sl (labsV l), labAV s] (.bool (decide (s ∈ l))) := by
  intro st
  refine ACalls_of (N := 18) Tryd.func34 (by kernel_rfl) rfl rfl rfl ?_
  refine AC_seq ?_
  refine AC_region ?_
  refine AL_step rfl rfl (S_box rfl (.tmp rfl)) ?_
  rintro _ _ ⟨b3, rfl, rfl⟩
  refine AL_p rfl rfl (S_assign rfl (AEv.const _)) ?_
  refine AL_nil ?_
  refine AC_seq ?_
  refine AC_seq ?_
  refine AC_region ?_
  refine AL_p rfl rfl (S_assign rfl (AEv.const _)) ?_
  refine AL_nil ?_
  refine AC_block ?_
  refine AC_loopK (G := Nat) [(0, _), (3, _)] (fun g => g ≤ l.length ∧ ∀ j (hj : j < l.length), j < g → l[j] ≠ s) (fun g => [(5, .int .i64 (g : Int))]) (fun g => (b3, .cells [.S s.1, .S s.2]) :: st) (fun g => l.length - g) (0) (⟨Nat.zero_le _, fun j _ h => absurd h (Nat.not_lt_zero _)⟩) (Sub.l (List.Sublist.refl _)) (.cons rfl (Le.refl _) (.cons rfl (Le.refl _) .nil)) (.cons rfl (by first | exact Le.refl _ | exact Le.nils | exact Le.row _ _ _ _ | exact Le.of_eq (by first | rfl | (simp; done) | (push_cast; rfl) | (simp; omega))) .nil) ?_
  rintro i ⟨hi, hall⟩
  try dsimp only
  simp only [List.cons_append, List.nil_append]
  refine AC_seq ?_
  refine AC_seq ?_
  refine AC_region ?_
  refine AL_p rfl rfl (S_move rfl (.tmp rfl)) ?_
  refine AL_p rfl rfl (S_move rfl (.tmp rfl)) ?_
  refine AL_p rfl rfl (by first | exact S_lenM (e := 52) rfl (.tmp rfl) (by kernel_rfl) | exact S_len (e := 52) rfl (.tmp rfl) (by kernel_rfl)) ?_
  refine AL_p rfl rfl (S_lss rfl (.tmp rfl) (.tmp rfl)) ?_
  refine AL_nil ?_
  refine AC_cond (.tmp rfl) (fun hb2 => ?_) (fun hb2 => ?_)
  · try simp only [zA, zO, zN, zM, zP, zQ, zD, zF, gd] at hb2
    have hil : i < l.length := by omega
    refine AC_skip ?_
    refine AC_seq ?_
    refine AC_block ?_
    refine AC_seq ?_
    refine AC_draw (by kernel_rfl) (by kernel_rfl) (.cons rfl (Q_p rfl (S_move rfl (.tmp rfl))) <|
        .cons rfl (Q_p rfl (S_move rfl (.tmp rfl))) <|
        .cons rfl (Q_p rfl (S_elemN (e := 52) 2 rfl (.tmp rfl) (.tmp rfl) (by kernel_rfl) (by kernel_rfl) (by omega) (fun _ => rfl))) <|
        .cons rfl (Q_p rfl (S_loadPN (m := 2) rfl (.tmp rfl) (by kernel_rfl) (by first | exact Nat.le_of_ble_eq_true rfl | (simp; omega) | simp))) <|
        .cons rfl (Q_p rfl (S_loadN (m := 2) 0 rfl (.tmp rfl) rfl (by kernel_rfl) (by first | exact Nat.le_of_ble_eq_true rfl | (simp; omega) | simp))) <|
        .cons rfl (Q_p rfl ((S_eqlAgg rfl (.tmp rfl) (.tmp rfl) (by kernel_rfl) (EqAV.struct Tryd.underlying52 (by kernel_rfl) (EqFs.flat (by kernel_rfl) (by kernel_rfl) rfl rfl (EqAV.S (by kernel_rfl)) (EqFs.flat (by kernel_rfl) (by kernel_rfl) rfl rfl (EqAV.S (by kernel_rfl)) EqFs.nil)))).ofV (V' := .bool (decide ((l[i]'hil) = s))) (congrArg AV.bool lab_eqB))) <|
        .nil) ?_
    refine AC_cond (.tmp rfl) (fun hb3 => ?_) (fun hb3 => ?_)
    · try simp only [zA, zO, zN, zM, zP, zQ, zD, zF, gd] at hb3
      have hin : s ∈ l := by have := hb3; rw [← this]; exact List.getElem_mem hil
      refine AC_seq ?_
      refine AC_region ?_
      refine AL_p rfl rfl (S_assign rfl (AEv.const _)) ?_
      refine AL_nil ?_
      refine AC_ret ?_
      refine ret_tmp st rfl rfl (Sub.l (List.Sublist.cons _ (List.Sublist.refl _))) (Conv.refl (Sub.l (List.Sublist.cons _ (List.Sublist.refl _))) _) ⟨by rw [decide_eq_true hin], rfl⟩ (.inl rfl)
    try simp only [zA, zO, zN, zM, zP, zQ, zD, zF, gd] at hb3
    have hne : (l[i]'hil) ≠ s := hb3
    refine AC_skip ?_
    refine AC_region ?_
    refine AL_p rfl rfl (S_move rfl (.tmp rfl)) ?_
    refine AL_p rfl rfl (S_addI rfl (.tmp rfl) (AEv.const _) (by omega) (by omega)) ?_
    refine AL_p rfl rfl (S_assign rfl (.tmp rfl)) ?_
    refine AL_nil ?_
    refine ⟨i + 1, ⟨by omega, fun j hj h => ?_⟩, by omega, (Sub.l (List.Sublist.refl _)), (.cons rfl (by first | exact Le.refl _ | exact Le.nils | exact Le.row _ _ _ _ | exact Le.of_eq (by first | rfl | (simp; done) | (push_cast; rfl) | (simp; omega))) .nil), (.cons rfl (Le.refl _) (.cons rfl (Le.refl _) .nil))⟩
    rcases Nat.lt_or_ge j i with h' | h'
    · exact hall j hj h'
    · have : j = i := by omega
      subst this
      exact hne
  try simp only [zA, zO, zN, zM, zP, zQ, zD, zF, gd] at hb2
  have hno : s ∉ l := fun h => by
    obtain ⟨j, hj, e⟩ := List.mem_iff_getElem.1 h
    exact hall j hj (by omega) e
  refine AC_exit ?_
  refine AC_seq ?_
  refine AC_region ?_
  refine AL_p rfl rfl (S_assign rfl (AEv.const _)) ?_
  refine AL_nil ?_
  refine AC_ret ?_
  refine ret_tmp st rfl rfl (Sub.l (List.Sublist.cons _ (List.Sublist.refl _))) (Conv.refl (Sub.l (List.Sublist.cons _ (List.Sublist.refl _))) _) ⟨by rw [decide_eq_false hno], rfl⟩ (.inl rfl)

set_option maxRecDepth 100000 in
/-- provost/provostref11.Fits -/
theorem ref11_Fits_ok (l b : List Lab) (hl : l.length ≤ 1000000) (hb : b.length ≤ 1000000) : PCalls Tryd.prog 18 [.sl (labsV l), .sl (labsV b)] (.bool (coversL l b)) := by
  intro st
  refine ACalls_of (N := 19) Tryd.func18 (by kernel_rfl) rfl rfl rfl ?_
  refine AC_seq ?_
  refine AC_region ?_
  refine AL_p rfl rfl (S_assign rfl (AEv.const _)) ?_
  refine AL_nil ?_
  refine AC_seq ?_
  refine AC_seq ?_
  refine AC_region ?_
  refine AL_p rfl rfl (S_assign rfl (AEv.const _)) ?_
  refine AL_nil ?_
  refine AC_block ?_
  refine AC_loopK (G := Nat) [(0, _), (1, _)] (fun g => g ≤ l.length ∧ ∀ j (hj : j < l.length), j < g → l[j] ∈ b) (fun g => [(5, .int .i64 (g : Int))]) (fun g => st) (fun g => l.length - g) (0) (⟨Nat.zero_le _, fun j _ h => absurd h (Nat.not_lt_zero _)⟩) (Sub.l (List.Sublist.refl _)) (.cons rfl (Le.refl _) (.cons rfl (Le.refl _) .nil)) (.cons rfl (by first | exact Le.refl _ | exact Le.nils | exact Le.row _ _ _ _ | exact Le.of_eq (by first | rfl | (simp; done) | (push_cast; rfl) | (simp; omega))) .nil) ?_
  rintro i ⟨hi, hall⟩
  try dsimp only
  simp only [List.cons_append, List.nil_append]
  refine AC_seq ?_
  refine AC_seq ?_
  refine AC_region ?_
  refine AL_p rfl rfl (S_move rfl (.tmp rfl)) ?_
  refine AL_p rfl rfl (S_move rfl (.tmp rfl)) ?_
  refine AL_p rfl rfl (by first | exact S_lenM (e := 52) rfl (.tmp rfl) (by kernel_rfl) | exact S_len (e := 52) rfl (.tmp rfl) (by kernel_rfl)) ?_
  refine AL_p rfl rfl (S_lss rfl (.tmp rfl) (.tmp rfl)) ?_
  refine AL_nil ?_
  refine AC_cond (.tmp rfl) (fun hb1 => ?_) (fun hb1 => ?_)
  · try simp only [zA, zO, zN, zM, zP, zQ, zD, zF, gd] at hb1
    have hil : i < l.length := by omega
    refine AC_skip ?_
    refine AC_seq ?_
    refine AC_block ?_
    refine AC_seq ?_
    refine AC_region ?_
    refine AL_p rfl rfl (S_move rfl (.tmp rfl)) ?_
    refine AL_p rfl rfl (S_move rfl (.tmp rfl)) ?_
    refine AL_p rfl rfl (S_move rfl (.tmp rfl)) ?_
    refine AL_p rfl rfl (S_elemN (e := 52) 2 rfl (.tmp rfl) (.tmp rfl) (by kernel_rfl) (by kernel_rfl) (by omega) (fun _ => rfl)) ?_
    refine AL_p rfl rfl (S_loadPN (m := 2) rfl (.tmp rfl) (by kernel_rfl) (by first | exact Nat.le_of_ble_eq_true rfl | (simp; omega) | simp)) ?_
    refine AL_p rfl rfl (S_pcall rfl (AEvs.cons (.tmp rfl) (AEvs.cons (y := labAV (l[i]'hil)) (.tmp rfl) AEvs.nil)) (ref11_has_ok b (l[i]'hil) hb)) ?_
    refine AL_p rfl rfl (S_not rfl (.tmp rfl)) ?_
    refine AL_nil ?_
    refine AC_cond (.tmp rfl) (fun hb2 => ?_) (fun hb2 => ?_)
    · try simp only [zA, zO, zN, zM, zP, zQ, zD, zF, gd] at hb2
      have hbad : coversL l b = false := covers_bad hil (by simpa using hb2)
      refine AC_seq ?_
      refine AC_region ?_
      refine AL_p rfl rfl (S_assign rfl (AEv.const _)) ?_
      refine AL_nil ?_
      refine AC_ret ?_
      refine ret_tmp st rfl rfl (Sub.l (List.Sublist.refl _)) (Conv.refl (Sub.l (List.Sublist.refl _)) _) ⟨by rw [hbad], rfl⟩ (.inl rfl)
    try simp only [zA, zO, zN, zM, zP, zQ, zD, zF, gd] at hb2
    have hin : (l[i]'hil) ∈ b := by simpa using hb2
    refine AC_skip ?_
    refine AC_region ?_
    refine AL_p rfl rfl (S_move rfl (.tmp rfl)) ?_
    refine AL_p rfl rfl (S_addI rfl (.tmp rfl) (AEv.const _) (by omega) (by omega)) ?_
    refine AL_p rfl rfl (S_assign rfl (.tmp rfl)) ?_
    refine AL_nil ?_
    refine ⟨i + 1, ⟨by omega, fun j hj h => ?_⟩, by omega, (Sub.l (List.Sublist.refl _)), (.cons rfl (by first | exact Le.refl _ | exact Le.nils | exact Le.row _ _ _ _ | exact Le.of_eq (by first | rfl | (simp; done) | (push_cast; rfl) | (simp; omega))) .nil), (.cons rfl (Le.refl _) (.cons rfl (Le.refl _) .nil))⟩
    rcases Nat.lt_or_ge j i with h' | h'
    · exact hall j hj h'
    · have : j = i := by omega
      subst this
      exact hin
  try simp only [zA, zO, zN, zM, zP, zQ, zD, zF, gd] at hb1
  have hgood : coversL l b = true := covers_all fun j hj => hall j hj (by omega)
  refine AC_exit ?_
  refine AC_seq ?_
  refine AC_region ?_
  refine AL_p rfl rfl (S_assign rfl (AEv.const _)) ?_
  refine AL_nil ?_
  refine AC_ret ?_
  refine ret_tmp st rfl rfl (Sub.l (List.Sublist.refl _)) (Conv.refl (Sub.l (List.Sublist.refl _)) _) ⟨by rw [hgood], rfl⟩ (.inl rfl)

set_option maxRecDepth 100000 in
/-- provost/sel.Get$1 -/
theorem sel_Get1_ok (x : Lab) (k : List UInt8) (b : Nat) (st : St) (hb : (b, Ob.cells [.S k]) ∈ st) : ACalls Tryd.prog 37 [labAV x, .ptr b 0] st (fun y st' => y = .bool (decide (x.1 = k)) ∧ st' = st) := by
  refine ACalls_of (N := 8) Tryd.func37 (by kernel_rfl) rfl rfl rfl ?_
  refine AC_seq ?_
  refine AC_region ?_
  refine AL_step rfl rfl (S_box rfl (.tmp rfl)) ?_
  rintro _ _ ⟨b2, rfl, rfl⟩
  refine AL_p rfl rfl (S_assign rfl (AEv.const _)) ?_
  refine AL_nil ?_
  refine AC_seq ?_
  refine AC_region ?_
  refine AL_p rfl rfl (S_field 0 rfl (.tmp rfl) (by kernel_rfl)) ?_
  refine AL_p rfl rfl (S_load 0 rfl (.tmp rfl) rfl rfl (by kernel_rfl)) ?_
  refine AL_p rfl rfl (S_loadM rfl (.tmp rfl) (List.mem_cons_of_mem _ hb) rfl (by kernel_rfl)) ?_
  refine AL_p rfl rfl (S_eqS rfl (.tmp rfl) (.tmp rfl)) ?_
  refine AL_p rfl rfl (S_assign rfl (.tmp rfl)) ?_
  refine AL_nil ?_
  refine AC_ret ?_
  refine ret_tmp st rfl rfl (Sub.l (List.Sublist.cons _ (List.Sublist.refl _))) (Conv.refl (Sub.l (List.Sublist.cons _ (List.Sublist.refl _))) _) ⟨rfl, rfl⟩ (.inl rfl)

set_option maxRecDepth 100000 in
/-- slices.IndexFunc[[]provost/api.Label,provost/api.Label] -/
theorem slices_IndexFunc_ok (l : List Lab) (k : List UInt8) (b : Nat) (hl : l.length ≤ 1000000) (st : St) (hb : (b, Ob.cells [.S k]) ∈ st) : ACalls Tryd.prog 36 [.sl (labsV l), .fn 37 [.pointer (some ⟨b, 0, none⟩)]] st (fun y st' => y = .int .i64 (keyI l k) ∧ st' = st) := by
  refine ACalls_of (N := 19) Tryd.func36 (by kernel_rfl) rfl rfl rfl ?_
  refine AC_seq ?_
  refine AC_region ?_
  refine AL_p rfl rfl (S_assign rfl (AEv.const _)) ?_
  refine AL_nil ?_
  refine AC_seq ?_
  refine AC_seq ?_
  refine AC_region ?_
  refine AL_p rfl rfl (S_move rfl (.tmp rfl)) ?_
  refine AL_p rfl rfl (by first | exact S_lenM (e := 52) rfl (.tmp rfl) (by kernel_rfl) | exact S_len (e := 52) rfl (.tmp rfl) (by kernel_rfl)) ?_
  refine AL_p rfl rfl (S_move rfl (AEv.const _)) ?_
  refine AL_nil ?_
  refine AC_block ?_
  refine AC_loopK (G := Nat) [(0, _), (1, _), (7, _)] (fun g => g ≤ l.length ∧ ∀ j (hj : j < l.length), j < g → l[j].1 ≠ k) (fun g => [(8, .int .i64 (g : Int))]) (fun g => st) (fun g => l.length - g) (0) (⟨Nat.zero_le _, fun j _ h => absurd h (Nat.not_lt_zero _)⟩) (Sub.l (List.Sublist.refl _)) (.cons rfl (Le.refl _) (.cons rfl (Le.refl _) (.cons rfl (Le.refl _) .nil))) (.cons rfl (by first | exact Le.refl _ | exact Le.nils | exact Le.row _ _ _ _ | exact Le.of_eq (by first | rfl | (simp; done) | (push_cast; rfl) | (simp; omega))) .nil) ?_
  rintro i ⟨hi, hall⟩
  try dsimp only
  simp only [List.cons_append, List.nil_append]
  refine AC_seq ?_
  refine AC_region ?_
  refine AL_p rfl rfl (S_lss rfl (.tmp rfl) (.tmp rfl)) ?_
  refine AL_nil ?_
  refine AC_seq ?_
  refine AC_cond (.tmp rfl) (fun hb1 => ?_) (fun hb1 => ?_)
  · try simp only [zA, zO, zN, zM, zP, zQ, zD, zF, gd] at hb1
    have hil : i < l.length := by omega
    refine AC_skip ?_
    refine AC_seq ?_
    refine AC_block ?_
    refine AC_seq ?_
    refine AC_region ?_
    refine AL_p rfl rfl (S_move rfl (.tmp rfl)) ?_
    refine AL_p rfl rfl (S_assign rfl (.tmp rfl)) ?_
    refine AL_nil ?_
    refine AC_seq ?_
    refine AC_region ?_
    refine AL_p rfl rfl (S_move rfl (.tmp rfl)) ?_
    refine AL_p rfl rfl (S_move rfl (.tmp rfl)) ?_
    refine AL_p rfl rfl (S_move rfl (.tmp rfl)) ?_
    refine AL_p rfl rfl (S_elemN (e := 52) 2 rfl (.tmp rfl) (.tmp rfl) (by kernel_rfl) (by kernel_rfl) (by omega) (fun _ => rfl)) ?_
    refine AL_p rfl rfl (S_loadPN (m := 2) rfl (.tmp rfl) (by kernel_rfl) (by first | exact Nat.le_of_ble_eq_true rfl | (simp; omega) | simp)) ?_
    refine AL_step rfl rfl (S_callF (caps := [.pointer (some ⟨b, 0, none⟩)]) rfl (.tmp rfl) (AEvs.cons (y := labAV (l[i]'hil)) (.tmp rfl) AEvs.nil) (sel_Get1_ok (l[i]'hil) k b _ hb)) ?_
    rintro _ st9 ⟨rfl, h9⟩
    rw [h9]
    clear h9 st9
    refine AL_nil ?_
    refine AC_cond (.tmp rfl) (fun hb2 => ?_) (fun hb2 => ?_)
    · try simp only [zA, zO, zN, zM, zP, zQ, zD, zF, gd] at hb2
      have hx := (keyI_hit hil hb2 fun j hj => hall j (by omega) hj).1
      refine AC_seq ?_
      refine AC_region ?_
      refine AL_p rfl rfl (S_move rfl (.tmp rfl)) ?_
      refine AL_p rfl rfl (S_assign rfl (.tmp rfl)) ?_
      refine AL_nil ?_
      refine AC_ret ?_
      refine ret_tmp st rfl rfl (Sub.l (List.Sublist.refl _)) (Conv.refl (Sub.l (List.Sublist.refl _)) _) ⟨by rw [hx], rfl⟩ (.inl rfl)
    try simp only [zA, zO, zN, zM, zP, zQ, zD, zF, gd] at hb2
    have hne : (l[i]'hil).1 ≠ k := hb2
    refine AC_skip ?_
    refine AC_region ?_
    refine AL_p rfl rfl (S_addI rfl (.tmp rfl) (AEv.const _) (by omega) (by omega)) ?_
    refine AL_p rfl rfl (S_move rfl (.tmp rfl)) ?_
    refine AL_nil ?_
    refine ⟨i + 1, ⟨by omega, fun j hj h => ?_⟩, by omega, (Sub.l (List.Sublist.refl _)), (.cons rfl (by first | exact Le.refl _ | exact Le.nils | exact Le.row _ _ _ _ | exact Le.of_eq (by first | rfl | (simp; done) | (push_cast; rfl) | (simp; omega))) .nil), (.cons rfl (Le.refl _) (.cons rfl (Le.refl _) (.cons rfl (Le.refl _) .nil)))⟩
    rcases Nat.lt_or_ge j i with h' | h'
    · exact hall j hj h'
    · have : j = i := by omega
      subst this
      exact hne
  try simp only [zA, zO, zN, zM, zP, zQ, zD, zF, gd] at hb1
  have hx := (keyI_none fun j hj => hall j hj (by omega)).1
  refine AC_exit ?_
  refine AC_seq ?_
  refine AC_region ?_
  refine AL_p rfl rfl (S_assign rfl (AEv.const _)) ?_
  refine AL_nil ?_
  refine AC_ret ?_
  refine ret_tmp st rfl rfl (Sub.l (List.Sublist.refl _)) (Conv.refl (Sub.l (List.Sublist.refl _)) _) ⟨by rw [hx], rfl⟩ (.inl rfl)

set_option maxRecDepth 100000 in
/-- provost/sel.Get -/
theorem sel_Get_ok (l : List Lab) (k : List UInt8) (hl : l.length ≤ 1000000) : PCalls Tryd.prog 21 [.sl (labsV l), .S k] (.tup [.S (getL l k).1, .bool (getL l k).2]) := by
  intro st
  refine ACalls_of (N := 19) Tryd.func21 (by kernel_rfl) rfl rfl rfl ?_
  refine AC_seq ?_
  refine AC_region ?_
  refine AL_step rfl rfl (S_box1 rfl (.tmp rfl) rfl) ?_
  rintro _ _ ⟨b3, rfl, rfl⟩
  refine AL_p rfl rfl (S_assign rfl (AEv.S _)) ?_
  refine AL_p rfl rfl (S_assign rfl (AEv.const _)) ?_
  refine AL_nil ?_
  refine AC_seq ?_
  refine AC_region ?_
  refine AL_p rfl rfl (S_move rfl (.tmp rfl)) ?_
  refine AL_p rfl rfl (S_makeFunc (caps := [_]) rfl (AEvs.cons (.tmp rfl) AEvs.nil)) ?_
  refine AL_step rfl rfl (S_call rfl (AEvs.cons (.tmp rfl) (AEvs.cons (.tmp rfl) AEvs.nil)) (slices_IndexFunc_ok l k b3 hl _ List.mem_cons_self)) ?_
  rintro _ _ ⟨rfl, rfl⟩
  refine AL_p rfl rfl (S_assign rfl (.tmp rfl)) ?_
  refine AL_nil ?_
  refine AC_seq ?_
  refine AC_seq ?_
  refine AC_region ?_
  refine AL_p rfl rfl (S_move rfl (.tmp rfl)) ?_
  refine AL_p rfl rfl (S_lss rfl (.tmp rfl) (AEv.const _)) ?_
  refine AL_nil ?_
  refine AC_cond (.tmp rfl) (fun hb2 => ?_) (fun hb2 => ?_)
  · try simp only [zA, zO, zN, zM, zP, zQ, zD, zF, gd] at hb2
    have hx : getL l k = ([], false) := by
      rcases keyI_spec l k with ⟨h1, h2⟩ | ⟨i, hi, h1, h2⟩
      · exact h2
      · omega
    refine AC_seq ?_
    refine AC_region ?_
    refine AL_p rfl rfl (S_move rfl (.tmp rfl)) ?_
    refine AL_p rfl rfl (S_move rfl (.tmp rfl)) ?_
    refine AL_p rfl rfl (S_assign rfl (.tmp rfl)) ?_
    refine AL_p rfl rfl (S_assign rfl (.tmp rfl)) ?_
    refine AL_nil ?_
    refine AC_ret ?_
    refine ret_tmps (ts := [4, 5]) st rfl (by decide) rfl (Sub.l (List.Sublist.cons _ (List.Sublist.refl _))) (Conv.refl (Sub.l (List.Sublist.cons _ (List.Sublist.refl _))) _) ⟨by rw [hx], rfl⟩ (.inl rfl)
  try simp only [zA, zO, zN, zM, zP, zQ, zD, zF, gd] at hb2
  obtain ⟨i, hil, h1, hx⟩ : ∃ i, ∃ h : i < l.length, keyI l k = (i : Int) ∧ getL l k = ((l[i]'h).2, true) := by
    rcases keyI_spec l k with ⟨h1, h2⟩ | h
    · omega
    · exact h
  refine AC_skip ?_
  refine AC_seq ?_
  refine AC_region ?_
  refine AL_p rfl rfl (S_move rfl (.tmp rfl)) ?_
  refine AL_p rfl rfl (S_move rfl (.tmp rfl)) ?_
  refine AL_p rfl rfl (S_elemN (e := 52) (i := i) 2 rfl (.tmp rfl) ((AEv.tmp rfl).le (Le.of_eq (congrArg (AV.int _) (by omega)))) (by kernel_rfl) (by kernel_rfl) (by omega) (fun _ => rfl)) ?_
  refine AL_p rfl rfl (S_fieldP 1 rfl (.tmp rfl) (by kernel_rfl)) ?_
  refine AL_p rfl rfl (S_loadP rfl (.tmp rfl) rfl (by kernel_rfl)) ?_
  refine AL_p rfl rfl (S_assign rfl (.tmp rfl)) ?_
  refine AL_p rfl rfl (S_assign rfl (AEv.const _)) ?_
  refine AL_nil ?_
  refine AC_ret ?_
  refine ret_tmps (ts := [4, 5]) st rfl (by decide) rfl (Sub.l (List.Sublist.cons _ (List.Sublist.refl _))) (Conv.refl (Sub.l (List.Sublist.cons _ (List.Sublist.refl _))) _) ⟨by rw [hx], rfl⟩ (.inl rfl)

set_option maxRecDepth 100000 in
/-- provost/provostref11.Get -/
theorem ref11_Get_ok (l : List Lab) (k : List UInt8) (hl : l.length ≤ 1000000) : PCalls Tryd.prog 22 [.sl (labsV l), .S k] (.tup [.S (getL l k).1, .bool (getL l k).2]) := by
  intro st
  refine ACalls_of (N := 25) Tryd.func22 (by kernel_rfl) rfl rfl rfl ?_
  refine AC_seq ?_
  refine AC_region ?_
  refine AL_p rfl rfl (S_assign rfl (AEv.S _)) ?_
  refine AL_p rfl rfl (S_assign rfl (AEv.const _)) ?_
  refine AL_nil ?_
  refine AC_seq ?_
  refine AC_seq ?_
  refine AC_region ?_
  refine AL_p rfl rfl (S_assign rfl (AEv.const _)) ?_
  refine AL_nil ?_
  refine AC_block ?_
  refine AC_loopK (G := Nat) [(0, _), (1, _)] (fun g => g ≤ l.length ∧ ∀ j (hj : j < l.length), j < g → l[j].1 ≠ k) (fun g => [(6, .int .i64 (g : Int))]) (fun g => st) (fun g => l.length - g) (0) (⟨Nat.zero_le _, fun j _ h => absurd h (Nat.not_lt_zero _)⟩) (Sub.l (List.Sublist.refl _)) (.cons rfl (Le.refl _) (.cons rfl (Le.refl _) .nil)) (.cons rfl (by first | exact Le.refl _ | exact Le.nils | exact Le.row _ _ _ _ | exact Le.of_eq (by first | rfl | (simp; done) | (push_cast; rfl) | (simp; omega))) .nil) ?_
  rintro i ⟨hi, hall⟩
  try dsimp only
  simp only [List.cons_append, List.nil_append]
  refine AC_seq ?_
  refine AC_seq ?_
  refine AC_region ?_
  refine AL_p rfl rfl (S_move rfl (.tmp rfl)) ?_
  refine AL_p rfl rfl (S_move rfl (.tmp rfl)) ?_
  refine AL_p rfl rfl (by first | exact S_lenM (e := 52) rfl (.tmp rfl) (by kernel_rfl) | exact S_len (e := 52) rfl (.tmp rfl) (by kernel_rfl)) ?_
  refine AL_p rfl rfl (S_lss rfl (.tmp rfl) (.tmp rfl)) ?_
  refine AL_nil ?_
  refine AC_cond (.tmp rfl) (fun hb1 => ?_) (fun hb1 => ?_)
  · try simp only [zA, zO, zN, zM, zP, zQ, zD, zF, gd] at hb1
    have hil : i < l.length := by omega
    refine AC_skip ?_
    refine AC_seq ?_
    refine AC_block ?_
    refine AC_seq ?_
    refine AC_region ?_
    refine AL_p rfl rfl (S_move rfl (.tmp rfl)) ?_
    refine AL_p rfl rfl (S_move rfl (.tmp rfl)) ?_
    refine AL_p rfl rfl (S_elemN (e := 52) 2 rfl (.tmp rfl) (.tmp rfl) (by kernel_rfl) (by kernel_rfl) (by omega) (fun _ => rfl)) ?_
    refine AL_p rfl rfl (S_fieldP 0 rfl (.tmp rfl) (by kernel_rfl)) ?_
    refine AL_p rfl rfl (S_loadP rfl (.tmp rfl) rfl (by kernel_rfl)) ?_
    refine AL_p rfl rfl (S_move rfl (.tmp rfl)) ?_
    refine AL_p rfl rfl (S_eqS rfl (.tmp rfl) (.tmp rfl)) ?_
    refine AL_nil ?_
    refine AC_cond (.tmp rfl) (fun hb2 => ?_) (fun hb2 => ?_)
    · try simp only [zA, zO, zN, zM, zP, zQ, zD, zF, gd] at hb2
      have hx := (keyI_hit hil hb2 fun j hj => hall j (by omega) hj).2
      refine AC_seq ?_
      refine AC_region ?_
      refine AL_p rfl rfl (S_move rfl (.tmp rfl)) ?_
      refine AL_p rfl rfl (S_move rfl (.tmp rfl)) ?_
      refine AL_p rfl rfl (S_elemN (e := 52) 2 rfl (.tmp rfl) (.tmp rfl) (by kernel_rfl) (by kernel_rfl) (by omega) (fun _ => rfl)) ?_
      refine AL_p rfl rfl (S_fieldP 1 rfl (.tmp rfl) (by kernel_rfl)) ?_
      refine AL_p rfl rfl (S_loadP rfl (.tmp rfl) rfl (by kernel_rfl)) ?_
      refine AL_p rfl rfl (S_assign rfl (.tmp rfl)) ?_
      refine AL_p rfl rfl (S_assign rfl (AEv.const _)) ?_
      refine AL_nil ?_
      refine AC_ret ?_
      refine ret_tmps (ts := [4, 5]) st rfl (by decide) rfl (Sub.l (List.Sublist.refl _)) (Conv.refl (Sub.l (List.Sublist.refl _)) _) ⟨by rw [hx], rfl⟩ (.inl rfl)
    try simp only [zA, zO, zN, zM, zP, zQ, zD, zF, gd] at hb2
    have hne : (l[i]'hil).1 ≠ k := hb2
    refine AC_skip ?_
    refine AC_region ?_
    refine AL_p rfl rfl (S_move rfl (.tmp rfl)) ?_
    refine AL_p rfl rfl (S_addI rfl (.tmp rfl) (AEv.const _) (by omega) (by omega)) ?_
    refine AL_p rfl rfl (S_assign rfl (.tmp rfl)) ?_
    refine AL_nil ?_
    refine ⟨i + 1, ⟨by omega, fun j hj h => ?_⟩, by omega, (Sub.l (List.Sublist.refl _)), (.cons rfl (by first | exact Le.refl _ | exact Le.nils | exact Le.row _ _ _ _ | exact Le.of_eq (by first | rfl | (simp; done) | (push_cast; rfl) | (simp; omega))) .nil), (.cons rfl (Le.refl _) (.cons rfl (Le.refl _) .nil))⟩
    rcases Nat.lt_or_ge j i with h' | h'
    · exact hall j hj h'
    · have : j = i := by omega
      subst this
      exact hne
  try simp only [zA, zO, zN, zM, zP, zQ, zD, zF, gd] at hb1
  have hx := (keyI_none fun j hj => hall j hj (by omega)).2
  refine AC_exit ?_
  refine AC_seq ?_
  refine AC_region ?_
  refine AL_p rfl rfl (S_assign rfl (AEv.S _)) ?_
  refine AL_p rfl rfl (S_assign rfl (AEv.const _)) ?_
  refine AL_nil ?_
  refine AC_ret ?_
  refine ret_tmps (ts := [4, 5]) st rfl (by decide) rfl (Sub.l (List.Sublist.refl _)) (Conv.refl (Sub.l (List.Sublist.refl _)) _) ⟨by rw [hx], rfl⟩ (.inl rfl)

set_option maxRecDepth 100000 in
/-- provost/provostlaw11.light -/
theorem law_light_ok (l : List Lab) : PCalls Tryd.prog 9 [.sl (labsV l)] (.bool (lightS (onlyL l))) := by
  intro st
  refine ACalls_of (N := 6) Tryd.func9 (by kernel_rfl) rfl rfl rfl ?_
  refine AC_seq ?_
  refine AC_region ?_
  refine AL_p rfl rfl (S_assign rfl (AEv.const _)) ?_
  refine AL_nil ?_
  refine AC_seq ?_
  refine AC_region ?_
  refine AL_p rfl rfl (S_move rfl (.tmp rfl)) ?_
  refine AL_p rfl rfl (S_build (t := 38) (pl := [(0, 1), (1, 1), (2, 1), (3, 1), (4, 1), (5, 1), (6, 1)]) (zs := [.string ⟨#[]⟩, .slice none 0 0, .slice none 0 0, .slice none 0 0, .int .i64 0, .int .i64 0, .int .i64 0]) rfl (AEvs.cons (.tmp rfl) AEvs.nil) (by kernel_rfl) rfl) ?_
  refine AL_p rfl rfl (S_pcall rfl (AEvs.cons (y := spcAV (onlyL l)) ((AEv.tmp rfl).le (Les.agg (.cons (Le.refl _) (.cons (Le.refl _) (.cons Le.nils (.cons Le.nils (.cons (Le.refl _) (.cons (Le.refl _) (.cons (Le.refl _) .nil))))))))) AEvs.nil) (book_LightSpec_ok _)) ?_
  refine AL_p rfl rfl (S_assign rfl (.tmp rfl)) ?_
  refine AL_nil ?_
  refine AC_ret ?_
  refine ret_tmp st rfl rfl (Sub.l (List.Sublist.refl _)) (Conv.refl (Sub.l (List.Sublist.refl _)) _) ⟨rfl, rfl⟩ (.inl rfl)

set_option maxRecDepth 100000 in
/-- provost/provostlaw11.right -/
theorem law_right_ok (l : List Lab) (hls : ∀ x ∈ l, x.1.length ≤ 9223372036854775807 ∧ x.2.length ≤ 9223372036854775807) : PCalls Tryd.prog 16 [.sl (labsV l)] (.bool (decide (erCode (labelsE selN l) = 0))) := by
  intro st
  refine ACalls_of (N := 12) Tryd.func16 (by kernel_rfl) rfl rfl rfl ?_
  refine AC_seq ?_
  refine AC_region ?_
  refine AL_p rfl rfl (S_assign rfl (AEv.const _)) ?_
  refine AL_nil ?_
  refine AC_seq ?_
  refine AC_region ?_
  refine AL_p rfl rfl (S_move rfl (.tmp rfl)) ?_
  refine AL_p rfl rfl (S_pcall rfl (AEvs.cons (AEv.S _) (AEvs.cons (.tmp rfl) AEvs.nil)) (ref06_Labels_ok selN (by decide) l hls)) ?_
  refine AL_p rfl rfl (S_move rfl (.tmp rfl)) ?_
  refine AL_p rfl rfl (S_extract 0 rfl (.tmp rfl) rfl) ?_
  refine AL_p rfl rfl (S_extract 1 rfl (.tmp rfl) rfl) ?_
  refine AL_p rfl rfl (S_assign rfl (.tmp rfl)) ?_
  refine AL_p rfl rfl (S_assign rfl (.tmp rfl)) ?_
  refine AL_nil ?_
  refine AC_seq ?_
  refine AC_region ?_
  refine AL_p rfl rfl (S_move rfl (.tmp rfl)) ?_
  refine AL_p rfl rfl (S_eql rfl (.tmp rfl) (AEv.const _)) ?_
  refine AL_p rfl rfl (S_assign rfl (.tmp rfl)) ?_
  refine AL_nil ?_
  refine AC_ret ?_
  refine ret_tmp st rfl rfl (Sub.l (List.Sublist.refl _)) (Conv.refl (Sub.l (List.Sublist.refl _)) _) ⟨rfl, rfl⟩ (.inl rfl)

end Go.Proofs.YtdljfalidkpfoaaDoor

/-
The walks of Go functions in the logic AL: what each of them answers.
Conditions: those of each theorem.
-/
set_option linter.unusedVariables false
set_option linter.unusedSimpArgs false
namespace Go.Proofs.YtdljfalidkpfoaaDoor
open Go.AL Go.NumSpec

set_option maxRecDepth 100000 in
/-- provost/sel.Text -/
theorem sel_Text_ok (l : List Lab) (hl : l.length ≤ 1000000) (hls : ∀ x ∈ l, x.1.length ≤ 1000000 ∧ x.2.length ≤ 1000000) : PCalls Tryd.prog 13 [.sl (labsV l)] (.S (selT l)) := by
  intro st
  refine ACalls_of (N := 24) Tryd.func13 (by kernel_rfl) rfl rfl rfl ?_
  refine AC_seq ?_
  refine AC_region ?_
  refine AL_p rfl rfl (S_assign rfl (AEv.S _)) ?_
  refine AL_nil ?_
  refine AC_seq ?_
  refine AC_region ?_
  refine AL_p rfl rfl (S_assign rfl (AEv.const _)) ?_
  refine AL_nil ?_
  refine AC_seq ?_
  refine AC_seq ?_
  refine AC_region ?_
  refine AL_p rfl rfl (S_move rfl (.tmp rfl)) ?_
  refine AL_p rfl rfl (by first | exact S_lenM (e := 52) rfl (.tmp rfl) (by kernel_rfl) | exact S_len (e := 52) rfl (.tmp rfl) (by kernel_rfl)) ?_
  refine AL_p rfl rfl (S_move rfl (AEv.const _)) ?_
  refine AL_nil ?_
  refine AC_block ?_
  refine AC_loopK (G := Nat × Own) [(2, _), (6, _), (7, _)] (fun g => g.1 ≤ l.length ∧ g.2.ok ((l.take g.1).map (fun x : Lab => AV.S (labT x)))) (fun g => [(3, ownAV g.2 1 ((l.take g.1).map (fun x : Lab => AV.S (labT x)))), (8, .int .i64 (g.1 : Int))]) (fun g => ownSt g.2 9 1 ((l.take g.1).map (fun x : Lab => AV.S (labT x))) ++ st) (fun g => l.length - g.1) ((0, .nil)) (⟨Nat.zero_le _, by simp [Own.ok]⟩) (Sub.l (List.Sublist.refl _)) (.cons rfl (Le.refl _) (.cons rfl (Le.refl _) (.cons rfl (Le.refl _) .nil))) (.cons rfl (by first | exact Le.refl _ | exact Le.nils | exact Le.row _ _ _ _ | exact Le.of_eq (by first | rfl | (simp; done) | (push_cast; rfl) | (simp; omega))) (.cons rfl (by first | exact Le.refl _ | exact Le.nils | exact Le.row _ _ _ _ | exact Le.of_eq (by first | rfl | (simp; done) | (push_cast; rfl) | (simp; omega))) .nil)) ?_
  rintro ⟨i, p⟩ ⟨hi, hq⟩
  try dsimp only
  simp only [List.cons_append, List.nil_append]
  dsimp only at hi hq
  refine AC_seq ?_
  refine AC_region ?_
  refine AL_p rfl rfl (S_lss rfl (.tmp rfl) (.tmp rfl)) ?_
  refine AL_nil ?_
  refine AC_seq ?_
  refine AC_cond (.tmp rfl) (fun hb1 => ?_) (fun hb1 => ?_)
  · try simp only [zA, zO, zN, zM, zP, zQ, zD, zF, gd] at hb1
    have hil : i < l.length := by omega
    have hlx := hls _ (List.getElem_mem hil)
    refine AC_skip ?_
    refine AC_seq ?_
    refine AC_block ?_
    refine AC_seq ?_
    refine AC_region ?_
    refine AL_p rfl rfl (S_elemN (e := 52) 2 rfl (.tmp rfl) (.tmp rfl) (by kernel_rfl) (by kernel_rfl) (by omega) (fun _ => rfl)) ?_
    refine AL_p rfl rfl (S_loadPN (m := 2) rfl (.tmp rfl) (by kernel_rfl) (by first | exact Nat.le_of_ble_eq_true rfl | (simp; omega) | simp)) ?_
    refine AL_step rfl rfl (S_alloc [.string ⟨#[]⟩, .string ⟨#[]⟩] rfl (by kernel_rfl)) ?_
    rintro _ _ ⟨b5, rfl, rfl⟩
    refine AL_step rfl rfl (S_storeW 0 rfl (.tmp rfl) (.tmp rfl) rfl rfl rfl (by kernel_rfl)) ?_
    rintro _ _ ⟨rfl, rfl⟩
    refine AL_nil ?_
    refine AC_region ?_
    refine AL_p rfl rfl (S_move rfl (.tmp rfl)) ?_
    refine AL_p rfl rfl (S_field 0 rfl (.tmp rfl) (by kernel_rfl)) ?_
    refine AL_p rfl rfl (S_load 0 rfl (.tmp rfl) rfl rfl (by kernel_rfl)) ?_
    refine AL_p rfl rfl (S_cat rfl (.tmp rfl) (AEv.S _) (by first | omega | (simp only [List.length_append, List.length_cons, List.length_nil]; omega))) ?_
    refine AL_p rfl rfl (S_field 1 rfl (.tmp rfl) (by kernel_rfl)) ?_
    refine AL_p rfl rfl (S_load 0 rfl (.tmp rfl) rfl rfl (by kernel_rfl)) ?_
    refine AL_p rfl rfl (S_cat rfl (.tmp rfl) (.tmp rfl) (by first | omega | (simp only [List.length_append, List.length_cons, List.length_nil]; omega))) ?_
    refine AL_p rfl rfl (S_buildSlice (e := 9) 1 rfl (AEvs.cons (.tmp rfl) AEvs.nil) rfl (by kernel_rfl) (by kernel_rfl) (by intro y hy; simp only [List.mem_cons, List.not_mem_nil, or_false] at hy; rcases hy with rfl <;> exact ⟨rfl, rfl⟩) (by decide) (by decide) (by decide)) ?_
    refine AL_step rfl rfl (S_appendT (f := (fun x : Lab => AV.S (labT x))) (l := l) (i := i) (e := 9) (size := 1) (bytes := 16) (p := p) (by omega) ([_]) (st) rfl (.tmp rfl) (.tmp rfl) rfl hq (by kernel_rfl) (fun _ => ⟨rfl, rfl⟩) (by omega) (by omega)) ?_
    rintro _ _ ⟨b8, k8, cap8, hx8, rfl, rfl⟩
    refine AL_p rfl rfl (S_assign rfl (.tmp rfl)) ?_
    refine AL_nil ?_
    refine AC_region ?_
    refine AL_p rfl rfl (S_addI rfl (.tmp rfl) (AEv.const _) (by omega) (by omega)) ?_
    refine AL_p rfl rfl (S_move rfl (.tmp rfl)) ?_
    refine AL_nil ?_
    exact ⟨(i + 1, .row b8 k8 cap8), ⟨by dsimp only; omega, hx8⟩, by dsimp only; omega, (Sub.l (List.Sublist.cons _ (List.Sublist.refl _))), (.cons rfl (by first | exact Le.refl _ | exact Le.nils | exact Le.row _ _ _ _ | exact Le.of_eq (by first | rfl | (simp; done) | (push_cast; rfl) | (simp; omega))) (.cons rfl (by first | exact Le.refl _ | exact Le.nils | exact Le.row _ _ _ _ | exact Le.of_eq (by first | rfl | (simp; done) | (push_cast; rfl) | (simp; omega))) .nil)), (.cons rfl (Le.refl _) (.cons rfl (Le.refl _) (.cons rfl (Le.refl _) .nil)))⟩
  try simp only [zA, zO, zN, zM, zP, zQ, zD, zF, gd] at hb1
  have hlm : l.length * 2000002 ≤ 2000002000000 := by omega
  refine AC_exit ?_
  refine AC_seq ?_
  rw [List.take_of_length_le (by omega), map_labT] at hq ⊢
  refine AC_region ?_
  refine AL_p rfl rfl (S_move rfl (.tmp rfl)) ?_
  refine AL_p rfl rfl (S_pcall rfl (AEvs.cons ((AEv.tmp rfl).le (Le_own hq)) (AEvs.cons (AEv.S _) AEvs.nil)) (join_ok (l.map labT) [44] (by rw [List.length_map]; omega) (by have := selT_len hls; unfold selT at this; omega))) ?_
  refine AL_p rfl rfl (S_assign rfl (.tmp rfl)) ?_
  refine AL_nil ?_
  refine AC_ret ?_
  refine ret_tmp st rfl rfl (Sub.l (List.sublist_append_right _ _)) (Conv.refl (Sub.l (List.sublist_append_right _ _)) _) ⟨rfl, rfl⟩ (.inl rfl)

set_option maxRecDepth 100000 in
/-- provost/sel.Parse -/
theorem sel_Parse_ok (s : List UInt8) (hs : s.length ≤ 100000) : GCalls Tryd.prog tabs 11 [.S s] (parseAV (parseS s)) := by
  intro st hG
  refine ACalls_of (N := 40) Tryd.func11 (by kernel_rfl) rfl rfl rfl ?_
  have hpl := parts_few 44 s
  have hcl := cutL_len (s := s) (n := 1000000) (by omega)
  refine AC_seq ?_
  refine AC_region ?_
  refine AL_p rfl rfl (S_assign rfl (AEv.const _)) ?_
  refine AL_p rfl rfl (S_assign rfl (AEv.const _)) ?_
  refine AL_nil ?_
  refine AC_seq ?_
  refine AC_seq ?_
  refine AC_region ?_
  refine AL_p rfl rfl (S_move rfl (.tmp rfl)) ?_
  refine AL_p rfl rfl (S_eqS rfl (.tmp rfl) (AEv.S _)) ?_
  refine AL_nil ?_
  refine AC_cond (.tmp rfl) (fun hb1 => ?_) (fun hb1 => ?_)
  · try simp only [zA, zO, zN, zM, zP, zQ, zD, zF, gd] at hb1
    have hx := parse_nil hb1
    refine AC_seq ?_
    refine AC_region ?_
    refine AL_p rfl rfl (S_assign rfl (AEv.const _)) ?_
    refine AL_p rfl rfl (S_assign rfl (AEv.const _)) ?_
    refine AL_nil ?_
    refine AC_ret ?_
    refine ret_tmps (ts := [2, 3]) st rfl (by decide) rfl (Sub.l (List.Sublist.refl _)) (Conv.le (Sub.l (List.Sublist.refl _)) (Les.tup (.cons Le.nils (.cons (Le.refl _) .nil)))) ⟨by rw [hx]; rfl, rfl⟩ (.inl rfl)
  try simp only [zA, zO, zN, zM, zP, zQ, zD, zF, gd] at hb1
  have hne : s ≠ [] := hb1
  refine AC_skip ?_
  refine AC_seq ?_
  refine AC_seq ?_
  refine AC_region ?_
  refine AL_p rfl rfl (S_move rfl (.tmp rfl)) ?_
  refine AL_p rfl rfl (S_pcall rfl (AEvs.cons (.tmp rfl) (AEvs.cons (AEv.S _) AEvs.nil)) (strings_Split_ok s 44 (by omega))) ?_
  refine AL_p rfl rfl (by first | exact S_lenM (e := 9) rfl (.tmp rfl) (by kernel_rfl) | exact S_len (e := 9) rfl (.tmp rfl) (by kernel_rfl)) ?_
  refine AL_p rfl rfl (S_move rfl (AEv.const _)) ?_
  refine AL_nil ?_
  refine AC_block ?_
  refine AC_loopK (G := Nat × Own) [(12, _), (13, _)] (fun g => g.1 ≤ (partsB 44 s).length ∧ g.2.ok (((partsB 44 s).take g.1).map (fun q : List UInt8 => labAV (cutL q))) ∧ ∀ j (hj : j < (partsB 44 s).length), j < g.1 → (cutV 61 (partsB 44 s)[j]).2.2 = true) (fun g => [(2, ownAV g.2 2 (((partsB 44 s).take g.1).map (fun q : List UInt8 => labAV (cutL q)))), (14, .int .i64 (g.1 : Int))]) (fun g => ownSt g.2 52 2 (((partsB 44 s).take g.1).map (fun q : List UInt8 => labAV (cutL q))) ++ st) (fun g => (partsB 44 s).length - g.1) ((0, .nil)) (⟨Nat.zero_le _, by simp [Own.ok], fun j _ h => absurd h (Nat.not_lt_zero _)⟩) (Sub.l (List.Sublist.refl _)) (.cons rfl (Le.refl _) (.cons rfl (Le.refl _) .nil)) (.cons rfl (by first | exact Le.refl _ | exact Le.nils | exact Le.row _ _ _ _ | exact Le.of_eq (by first | rfl | (simp; done) | (push_cast; rfl) | (simp; omega))) (.cons rfl (by first | exact Le.refl _ | exact Le.nils | exact Le.row _ _ _ _ | exact Le.of_eq (by first | rfl | (simp; done) | (push_cast; rfl) | (simp; omega))) .nil)) ?_
  rintro ⟨i, p⟩ ⟨hi, hq, hall⟩
  try dsimp only
  simp only [List.cons_append, List.nil_append]
  dsimp only at hi hq hall
  refine AC_seq ?_
  refine AC_region ?_
  refine AL_p rfl rfl (S_lss rfl (.tmp rfl) (.tmp rfl)) ?_
  refine AL_nil ?_
  refine AC_seq ?_
  refine AC_cond (.tmp rfl) (fun hb2 => ?_) (fun hb2 => ?_)
  · try simp only [zA, zO, zN, zM, zP, zQ, zD, zF, gd] at hb2
    have hil : i < (partsB 44 s).length := by omega
    refine AC_skip ?_
    refine AC_seq ?_
    refine AC_block ?_
    refine AC_seq ?_
    refine AC_region ?_
    refine AL_p rfl rfl (S_elemN (e := 9) 1 rfl (.tmp rfl) (.tmp rfl) (by kernel_rfl) (by kernel_rfl) (by omega) (fun _ => rfl)) ?_
    refine AL_p rfl rfl (S_loadP rfl (.tmp rfl) rfl (by kernel_rfl)) ?_
    refine AL_p rfl rfl (S_assign rfl (.tmp rfl)) ?_
    refine AL_nil ?_
    refine AC_seq ?_
    refine AC_region ?_
    refine AL_p rfl rfl (S_move rfl (.tmp rfl)) ?_
    refine AL_p rfl rfl (S_pcall rfl (AEvs.cons (.tmp rfl) (AEvs.cons (AEv.S _) AEvs.nil)) (strings_Cut_ok ((partsB 44 s)[i]'hil) 61 (by have := partsB_le 44 s _ (List.getElem_mem hil); omega))) ?_
    refine AL_p rfl rfl (S_move rfl (.tmp rfl)) ?_
    refine AL_p rfl rfl (S_extract 0 rfl (.tmp rfl) rfl) ?_
    refine AL_p rfl rfl (S_extract 1 rfl (.tmp rfl) rfl) ?_
    refine AL_p rfl rfl (S_extract 2 rfl (.tmp rfl) rfl) ?_
    refine AL_p rfl rfl (S_assign rfl (.tmp rfl)) ?_
    refine AL_p rfl rfl (S_assign rfl (.tmp rfl)) ?_
    refine AL_p rfl rfl (S_assign rfl (.tmp rfl)) ?_
    refine AL_nil ?_
    refine AC_seq ?_
    refine AC_seq ?_
    refine AC_region ?_
    refine AL_p rfl rfl (S_move rfl (.tmp rfl)) ?_
    refine AL_p rfl rfl (S_not rfl (.tmp rfl)) ?_
    refine AL_nil ?_
    refine AC_cond (.tmp rfl) (fun hb3 => ?_) (fun hb3 => ?_)
    · try simp only [zA, zO, zN, zM, zP, zQ, zD, zF, gd] at hb3
      have hx := parse_bad hne hil hb3
      refine AC_seq ?_
      refine AC_region ?_
      refine AL_p rfl rfl (S_assign rfl (AEv.const _)) ?_
      refine AL_p rfl rfl (S_assign rfl (AEv.const _)) ?_
      refine AL_nil ?_
      refine AC_ret ?_
      refine ret_tmps (ts := [2, 3]) st rfl (by decide) rfl (Sub.l (List.sublist_append_right _ _)) (Conv.le (Sub.l (List.sublist_append_right _ _)) (Les.tup (.cons Le.nils (.cons (Le.refl _) .nil)))) ⟨by rw [hx]; rfl, rfl⟩ (.inl rfl)
    try simp only [zA, zO, zN, zM, zP, zQ, zD, zF, gd] at hb3
    have hck : (cutV 61 ((partsB 44 s)[i]'hil)).2.2 = true := hb3
    refine AC_skip ?_
    refine AC_region ?_
    refine AL_p rfl rfl (S_move rfl (.tmp rfl)) ?_
    refine AL_p rfl rfl (S_move rfl (.tmp rfl)) ?_
    refine AL_p rfl rfl (S_move rfl (.tmp rfl)) ?_
    refine AL_p rfl rfl (S_build (t := 52) (pl := [(0, 1), (1, 1)]) (zs := [.string ⟨#[]⟩, .string ⟨#[]⟩]) rfl (AEvs.cons (.tmp rfl) (AEvs.cons (.tmp rfl) AEvs.nil)) (by kernel_rfl) rfl) ?_
    refine AL_p rfl rfl (S_buildSlice (e := 52) 2 rfl (AEvs.cons (.tmp rfl) AEvs.nil) rfl (by kernel_rfl) (by kernel_rfl) (by intro y hy; simp only [List.mem_cons, List.not_mem_nil, or_false] at hy; rcases hy with rfl <;> exact ⟨rfl, rfl⟩) (by decide) (by decide) (by decide)) ?_
    refine AL_step rfl rfl (S_appendT (f := (fun q : List UInt8 => labAV (cutL q))) (l := (partsB 44 s)) (i := i) (e := 52) (size := 2) (bytes := 32) (p := p) (by omega) ([]) (st) rfl (.tmp rfl) (.tmp rfl) rfl hq (by kernel_rfl) (fun _ => ⟨rfl, rfl⟩) (by omega) (by omega)) ?_
    rintro _ _ ⟨b8, k8, cap8, hx8, rfl, rfl⟩
    refine AL_p rfl rfl (S_assign rfl (.tmp rfl)) ?_
    refine AL_nil ?_
    refine AC_region ?_
    refine AL_p rfl rfl (S_addI rfl (.tmp rfl) (AEv.const _) (by omega) (by omega)) ?_
    refine AL_p rfl rfl (S_move rfl (.tmp rfl)) ?_
    refine AL_nil ?_
    refine ⟨(i + 1, .row b8 k8 cap8), ⟨by dsimp only; omega, hx8, fun j hj h => ?_⟩, by dsimp only; omega, (Sub.l (List.Sublist.refl _)), (.cons rfl (by first | exact Le.refl _ | exact Le.nils | exact Le.row _ _ _ _ | exact Le.of_eq (by first | rfl | (simp; done) | (push_cast; rfl) | (simp; omega))) (.cons rfl (by first | exact Le.refl _ | exact Le.nils | exact Le.row _ _ _ _ | exact Le.of_eq (by first | rfl | (simp; done) | (push_cast; rfl) | (simp; omega))) .nil)), (.cons rfl (Le.refl _) (.cons rfl (Le.refl _) .nil))⟩
    rcases Nat.lt_or_ge j i with h' | h'
    · exact hall j hj h'
    · have : j = i := by dsimp only at h; omega
      subst this
      exact hck
  try simp only [zA, zO, zN, zM, zP, zQ, zD, zF, gd] at hb2
  have hall2 := parse_all hne fun j hj => hall j hj (by omega)
  refine AC_exit ?_
  refine AC_seq ?_
  refine AC_seq ?_
  rw [List.take_of_length_le (by omega), map_cutL] at hq ⊢
  refine AC_region ?_
  refine AL_p rfl rfl (S_move rfl (.tmp rfl)) ?_
  refine AL_p rfl rfl (S_gcall rfl (AEvs.cons (AEv.S _) (AEvs.cons ((AEv.tmp rfl).le (Le_own hq)) AEvs.nil)) ((spec_Labels_ok selN (by decide) ((partsB 44 s).map cutL) (by rw [List.length_map]; omega) hcl) _ (fun p hp => List.mem_append_right _ (hG p hp)))) ?_
  refine AL_p rfl rfl (S_gcall rfl (AEvs.cons (.tmp rfl) AEvs.nil) ((fail_Code_ok (labelsE selN ((partsB 44 s).map cutL))) _ (fun p hp => List.mem_append_right _ (hG p hp)))) ?_
  refine AL_p rfl rfl (S_assign rfl (.tmp rfl)) ?_
  refine AL_nil ?_
  refine AC_seq ?_
  refine AC_region ?_
  refine AL_p rfl rfl (S_move rfl (.tmp rfl)) ?_
  refine AL_p rfl rfl (S_neq rfl (.tmp rfl) (AEv.const _)) ?_
  refine AL_nil ?_
  refine AC_cond (.tmp rfl) (fun hb6 => ?_) (fun hb6 => ?_)
  · try simp only [zA, zO, zN, zM, zP, zQ, zD, zF, gd] at hb6
    have hx : parseS s = ([], erCode (labelsE selN ((partsB 44 s).map cutL))) := by rw [hall2, if_neg hb6]
    refine AC_seq ?_
    refine AC_region ?_
    refine AL_p rfl rfl (S_move rfl (.tmp rfl)) ?_
    refine AL_p rfl rfl (S_assign rfl (AEv.const _)) ?_
    refine AL_p rfl rfl (S_assign rfl (.tmp rfl)) ?_
    refine AL_nil ?_
    refine AC_ret ?_
    refine ret_tmps (ts := [2, 3]) st rfl (by decide) rfl (Sub.l (List.sublist_append_right _ _)) (Conv.le (Sub.l (List.sublist_append_right _ _)) (Les.tup (.cons Le.nils (.cons (Le.refl _) .nil)))) ⟨by rw [hx]; rfl, rfl⟩ (.inl rfl)
  try simp only [zA, zO, zN, zM, zP, zQ, zD, zF, gd] at hb6
  have hx : parseS s = (((partsB 44 s).map cutL), 0) := by rw [hall2, if_pos (by simpa using hb6)]
  refine AC_skip ?_
  refine AC_seq ?_
  refine AC_region ?_
  refine AL_p rfl rfl (S_move rfl (.tmp rfl)) ?_
  refine AL_p rfl rfl (S_assign rfl (.tmp rfl)) ?_
  refine AL_p rfl rfl (S_assign rfl (AEv.const _)) ?_
  refine AL_nil ?_
  refine AC_ret ?_
  refine ret_tmps (ts := [2, 3]) st rfl (by decide) rfl (Sub.l (List.sublist_append_right _ _)) (Conv.le (Sub.l (List.sublist_append_right _ _)) (Les.tup (.cons (Le_own hq) (.cons (Le.refl _) .nil)))) ⟨by rw [hx], rfl⟩ (.inl rfl)

end Go.Proofs.YtdljfalidkpfoaaDoor

/-
The walks of Go functions in the logic AL: what each of them answers.
Conditions: those of each theorem.
-/
set_option linter.unusedVariables false
set_option linter.unusedSimpArgs false
namespace Go.Proofs.YtdljfalidkpfoaaDoor
open Go.AL Go.NumSpec

set_option maxRecDepth 100000 in
/-- provost/sel.Merge -/
theorem sel_Merge_ok (a b : List Lab) (ha : a.length ≤ 1000000) (hb : b.length ≤ 1000000) : PCalls Tryd.prog 25 [.sl (labsV a), .sl (labsV b)] (mergeAV (mergeL a b)) := by
  intro st
  refine ACalls_of (N := 86) Tryd.func25 (by kernel_rfl) rfl rfl rfl ?_
  refine AC_seq ?_
  refine AC_region ?_
  refine AL_p rfl rfl (S_assign rfl (AEv.const _)) ?_
  refine AL_p rfl rfl (S_assign rfl (AEv.const _)) ?_
  refine AL_nil ?_
  refine AC_seq ?_
  refine AC_block ?_
  refine AC_loopK (G := List Lab × List Lab × List Lab × Own) [] (fun g => mergeL a b = (mergeL g.1 g.2.1).map (g.2.2.1 ++ ·) ∧ g.2.2.2.ok (g.2.2.1.map labAV) ∧ g.1.length ≤ 1000000 ∧ g.2.1.length ≤ 1000000 ∧ g.2.2.1.length + g.1.length + g.2.1.length ≤ 2000000) (fun g => [(0, .sl (labsV g.1)), (1, .sl (labsV g.2.1)), (4, ownAV g.2.2.2 2 (g.2.2.1.map labAV))]) (fun g => ownSt g.2.2.2 52 2 (g.2.2.1.map labAV) ++ st) (fun g => g.1.length + g.2.1.length) ((a, b, [], .nil)) (⟨by cases mergeL a b <;> simp, rfl, ha, hb, by simp only [List.length_nil]; omega⟩) (Sub.l (List.Sublist.refl _)) .nil (.cons rfl (by first | exact Le.refl _ | exact Le.nils | exact Le.row _ _ _ _ | exact Le.of_eq (by first | rfl | (simp; done) | (push_cast; rfl) | (simp; omega))) (.cons rfl (by first | exact Le.refl _ | exact Le.nils | exact Le.row _ _ _ _ | exact Le.of_eq (by first | rfl | (simp; done) | (push_cast; rfl) | (simp; omega))) (.cons rfl (by first | exact Le.refl _ | exact Le.nils | exact Le.row _ _ _ _ | exact Le.of_eq (by first | rfl | (simp; done) | (push_cast; rfl) | (simp; omega))) .nil))) ?_
  rintro ⟨a1, b1, o1, p⟩ ⟨hm, hq, hal, hbl, hol⟩
  try dsimp only
  simp only [List.cons_append, List.nil_append]
  dsimp only at hm hq hal hbl hol
  refine AC_seq ?_
  refine AC_seq ?_
  refine AC_region ?_
  refine AL_p rfl rfl (S_move rfl (.tmp rfl)) ?_
  refine AL_p rfl rfl (by first | exact S_lenM (e := 52) rfl (.tmp rfl) (by kernel_rfl) | exact S_len (e := 52) rfl (.tmp rfl) (by kernel_rfl)) ?_
  refine AL_p rfl rfl (S_gtr rfl (.tmp rfl) (AEv.const _)) ?_
  refine AL_p rfl rfl (S_move rfl (.tmp rfl)) ?_
  refine AL_g rfl rfl (.tmp rfl) rfl (fun hg1 => S_move rfl (.tmp rfl)) ?_
  refine AL_g rfl rfl (.tmp rfl) rfl (fun hg4 => by first | exact S_lenM (e := 52) rfl (AEv.cond (.tmp rfl) (by first | assumption | exact gdAnd (by assumption) (by assumption))) (by kernel_rfl) | exact S_len (e := 52) rfl (AEv.cond (.tmp rfl) (by first | assumption | exact gdAnd (by assumption) (by assumption))) (by kernel_rfl)) ?_
  refine AL_g rfl rfl (.tmp rfl) rfl (fun hg7 => S_gtr rfl (AEv.cond (.tmp rfl) (by first | assumption | exact gdAnd (by assumption) (by assumption))) (AEv.const _)) ?_
  refine AL_p rfl rfl (S_or rfl (.tmp rfl) (fun hp10 => (AEv.cond (.tmp rfl) (by first | assumption | exact gdT hp10 | exact gdF hp10 | exact gdAnd (by assumption) (gdT hp10) | exact gdAnd (by assumption) (gdF hp10))))) ?_
  refine AL_nil ?_
  refine AC_cond (.tmp rfl) (fun hb11 => ?_) (fun hb11 => ?_)
  · try simp only [zA, zO, zN, zM, zP, zQ, zD, zF, gd] at hb11
    have hne : a1.length ≠ 0 ∨ b1.length ≠ 0 := by omega
    refine AC_skip ?_
    refine AC_block ?_
    refine AC_block ?_
    refine AC_seq ?_
    refine AC_draw (by kernel_rfl) (by kernel_rfl) (.cons rfl (Q_p rfl (S_move rfl (.tmp rfl))) <|
        .cons rfl (Q_p rfl (by first | exact S_lenM (e := 52) rfl (.tmp rfl) (by kernel_rfl) | exact S_len (e := 52) rfl (.tmp rfl) (by kernel_rfl))) <|
        .cons rfl (Q_p rfl (S_eql rfl (.tmp rfl) (AEv.const _))) <|
        .cons rfl (Q_p rfl (S_move rfl (.tmp rfl))) <|
        .cons rfl (Q_g rfl rfl (.tmp rfl) (fun hg12 => S_move rfl (.tmp rfl))) <|
        .cons rfl (Q_g rfl rfl (.tmp rfl) (fun hg15 => by first | exact S_lenM (e := 52) rfl (AEv.cond (.tmp rfl) (by first | assumption | exact gdAnd (by assumption) (by assumption))) (by kernel_rfl) | exact S_len (e := 52) rfl (AEv.cond (.tmp rfl) (by first | assumption | exact gdAnd (by assumption) (by assumption))) (by kernel_rfl))) <|
        .cons rfl (Q_g rfl rfl (.tmp rfl) (fun hg18 => S_gtr rfl (AEv.cond (.tmp rfl) (by first | assumption | exact gdAnd (by assumption) (by assumption))) (AEv.const _))) <|
        .cons rfl (Q_g rfl rfl (.tmp rfl) (fun hg21 => S_move rfl (AEv.cond (.tmp rfl) (by first | assumption | exact gdAnd (by assumption) (by assumption))))) <|
        .cons rfl (Q_gg rfl rfl (.tmp rfl) (fun hg24 hg25 hg26 => S_move rfl (.tmp rfl))) <|
        .cons rfl (Q_gg rfl rfl (.tmp rfl) (fun hg27 hg28 hg29 => S_elemD (e := 52) (i := 0) d0 2 rfl (AEv.cond (.tmp rfl) (by first | assumption | exact gdAnd (by assumption) (by assumption))) (AEv.const _) (by kernel_rfl) (by kernel_rfl) (by (try simp only [gd, Bool.and_eq_true, Bool.or_eq_true, Bool.not_eq_true', Bool.not_eq_false', decide_eq_true_eq, decide_eq_false_iff_not, Bool.or_eq_false_iff, Bool.and_eq_false_iff] at *); omega) (fun _ => rfl))) <|
        .cons rfl (Q_gg rfl rfl (.tmp rfl) (fun hg30 hg31 hg32 => S_fieldP 0 rfl (AEv.cond (.tmp rfl) (by first | assumption | exact gdAnd (by assumption) (by assumption))) (by kernel_rfl))) <|
        .cons rfl (Q_gg rfl rfl (.tmp rfl) (fun hg33 hg34 hg35 => S_loadP rfl (AEv.cond (.tmp rfl) (by first | assumption | exact gdAnd (by assumption) (by assumption))) rfl (by kernel_rfl))) <|
        .cons rfl (Q_gg rfl rfl (.tmp rfl) (fun hg36 hg37 hg38 => S_move rfl (.tmp rfl))) <|
        .cons rfl (Q_gg rfl rfl (.tmp rfl) (fun hg39 hg40 hg41 => S_elemD (e := 52) (i := 0) d0 2 rfl (AEv.cond (.tmp rfl) (by first | assumption | exact gdAnd (by assumption) (by assumption))) (AEv.const _) (by kernel_rfl) (by kernel_rfl) (by (try simp only [gd, Bool.and_eq_true, Bool.or_eq_true, Bool.not_eq_true', Bool.not_eq_false', decide_eq_true_eq, decide_eq_false_iff_not, Bool.or_eq_false_iff, Bool.and_eq_false_iff] at *); omega) (fun _ => rfl))) <|
        .cons rfl (Q_gg rfl rfl (.tmp rfl) (fun hg42 hg43 hg44 => S_fieldP 0 rfl (AEv.cond (.tmp rfl) (by first | assumption | exact gdAnd (by assumption) (by assumption))) (by kernel_rfl))) <|
        .cons rfl (Q_gg rfl rfl (.tmp rfl) (fun hg45 hg46 hg47 => S_loadP rfl (AEv.cond (.tmp rfl) (by first | assumption | exact gdAnd (by assumption) (by assumption))) rfl (by kernel_rfl))) <|
        .cons rfl (Q_gg rfl rfl (.tmp rfl) (fun hg48 hg49 hg50 => S_ltS rfl (AEv.cond (.tmp rfl) (by first | assumption | exact gdAnd (by assumption) (by assumption))) (AEv.cond (.tmp rfl) (by first | assumption | exact gdAnd (by assumption) (by assumption))))) <|
        .cons rfl (Q_g rfl rfl (.tmp rfl) (fun hg51 => S_and rfl (AEv.cond (.tmp rfl) (by first | assumption | exact gdAnd (by assumption) (by assumption))) (fun hp54 => (AEv.cond (.tmp rfl) (by first | assumption | exact gdT hp54 | exact gdF hp54 | exact gdAnd (by assumption) (gdT hp54) | exact gdAnd (by assumption) (gdF hp54)))))) <|
        .cons rfl (Q_p rfl (S_or rfl (.tmp rfl) (fun hp55 => (AEv.cond (.tmp rfl) (by first | assumption | exact gdT hp55 | exact gdF hp55 | exact gdAnd (by assumption) (gdT hp55) | exact gdAnd (by assumption) (gdF hp55)))))) <|
        .cons rfl (Q_p rfl (S_assign rfl (.tmp rfl))) <|
        .nil) ?_
    refine AC_cond (.tmp rfl) (fun hb56 => ?_) (fun hb56 => ?_)
    · try simp only [zA, zO, zN, zM, zP, zQ, zD, zF, gd] at hb56
      have HT : b1 = [] ∨ lessK (a1.getD 0 d0) (b1.getD 0 d0) = true := hb56.elim (fun h => .inl (List.length_eq_zero_iff.1 (by omega))) (fun h => .inr h.2)
      have hane : a1 ≠ [] := fun e => by
        have h0 : a1.length = 0 := by rw [e]; rfl
        rcases hb56 with h | h
        · omega
        · omega
      have hal1 : 0 < a1.length := List.length_pos_iff.2 hane
      refine AC_plan (σ := [(0, 0), (1, 0), (2, 0), (3, 0), (4, 0), (6, 0), (7, 0), (5, 1), (8, 0), (9, 0)]) (by kernel_rfl) [] (by kernel_rfl) (fun r hr => absurd hr List.not_mem_nil) ?_
      refine AG.f rfl rfl (fun st' hst => Q_p rfl (S_move rfl (.tmp rfl))) ?_
      refine AG.f rfl rfl (fun st' hst => Q_p rfl (S_move rfl (.tmp rfl))) ?_
      refine AG.f rfl rfl (fun st' hst => Q_p rfl (S_elemD (e := 52) (i := 0) d0 2 rfl (.tmp rfl) (AEv.const _) (by kernel_rfl) (by kernel_rfl) (by omega) (fun _ => rfl))) ?_
      refine AG.f rfl rfl (fun st' hst => Q_p rfl (S_loadPN (m := 2) rfl (.tmp rfl) (by kernel_rfl) (by first | exact Nat.le_of_ble_eq_true rfl | (simp; omega) | simp))) ?_
      refine AG.f rfl rfl (fun st' hst => Q_p rfl (S_buildSlice (e := 52) 2 rfl (AEvs.cons (.tmp rfl) AEvs.nil) rfl (by kernel_rfl) (by kernel_rfl) (by intro y hy; simp only [List.mem_cons, List.not_mem_nil, or_false] at hy; rcases hy with rfl <;> exact ⟨rfl, rfl⟩) (by decide) (by decide) (by decide))) ?_
      refine AG.f rfl rfl (fun st' hst => Q_p rfl (S_move rfl (.tmp rfl))) ?_
      refine AG.f rfl rfl (fun st' hst => Q_p rfl (S_cutLM (e := 52) (i := 1) 2 rfl (.tmp rfl) (AEv.const _) (by kernel_rfl) (by kernel_rfl) (fun _ => rfl) (by omega))) ?_
      refine AG.s rfl rfl rfl (S_appendM (f := labAV) (l := o1) (l2 := [(a1.getD 0 d0)]) (e := 52) (size := 2) (bytes := 32) (p := p) ([]) (st) rfl (.tmp rfl) (.tmp rfl) rfl hq (by kernel_rfl) (by simp) (fun _ => ⟨rfl, rfl⟩) (by simp only [List.length_singleton]; omega) (by simp only [List.length_singleton]; omega)) ?_ ?_
      · rintro _ _ ⟨b8, k8, cap8, hx8, rfl, rfl⟩ r hr; first | exact List.mem_append_left _ hr | exact absurd hr List.not_mem_nil
      rintro _ _ ⟨b8, k8, cap8, hx8, rfl, rfl⟩
      refine AG.f rfl rfl (fun st' hst => Q_p rfl (S_assign rfl (.tmp rfl))) ?_
      refine AG.f rfl rfl (fun st' hst => Q_p rfl (S_assign rfl (.tmp rfl))) ?_
      refine AG.nil ?_
      rw [merge_a hane (HT)] at hm
      refine ⟨(a1.drop 1, b1, o1 ++ [(a1.getD 0 d0)], .row b8 k8 cap8), ⟨by dsimp only; rw [hm, map_cons], hx8, by dsimp only; (try simp only [List.length_drop]); omega, by dsimp only; (try simp only [List.length_drop]); omega, by dsimp only; simp only [List.length_append, List.length_singleton, List.length_drop]; omega⟩, by dsimp only; simp only [List.length_drop]; omega, (Sub.l (List.Sublist.refl _)), (.cons rfl (by first | exact Le.refl _ | exact Le.nils | exact Le.row _ _ _ _ | exact Le.of_eq (by first | rfl | (simp; done) | (push_cast; rfl) | (simp; omega))) (.cons rfl (by first | exact Le.refl _ | exact Le.nils | exact Le.row _ _ _ _ | exact Le.of_eq (by first | rfl | (simp; done) | (push_cast; rfl) | (simp; omega))) (.cons rfl (by first | exact Le.refl _ | exact Le.nils | exact Le.row _ _ _ _ | exact Le.of_eq (by first | rfl | (simp; done) | (push_cast; rfl) | (simp; omega))) .nil))), .nil⟩
    try simp only [zA, zO, zN, zM, zP, zQ, zD, zF, gd] at hb56
    have hbne : b1 ≠ [] := fun e => by
      have h0 : b1.length = 0 := by rw [e]; rfl
      omega
    have hbl1 : 0 < b1.length := List.length_pos_iff.2 hbne
    have HF : ¬ (b1 = [] ∨ (a1 ≠ [] ∧ lessK (a1.getD 0 d0) (b1.getD 0 d0) = true)) := by
      rintro (h | ⟨h, k⟩)
      · exact hbne h
      · have := List.length_pos_iff.2 h
        rcases hb56.2 with h2 | h2
        · omega
        · have k' : Op.bytesLess _ _ = true := k
          rw [h2] at k'; cases k'
    refine AC_seq ?_
    refine AC_draw (by kernel_rfl) (by kernel_rfl) (.cons rfl (Q_p rfl (S_move rfl (.tmp rfl))) <|
        .cons rfl (Q_p rfl (by first | exact S_lenM (e := 52) rfl (.tmp rfl) (by kernel_rfl) | exact S_len (e := 52) rfl (.tmp rfl) (by kernel_rfl))) <|
        .cons rfl (Q_p rfl (S_eql rfl (.tmp rfl) (AEv.const _))) <|
        .cons rfl (Q_p rfl (S_move rfl (.tmp rfl))) <|
        .cons rfl (Q_g rfl rfl (.tmp rfl) (fun hg59 => S_move rfl (.tmp rfl))) <|
        .cons rfl (Q_g rfl rfl (.tmp rfl) (fun hg62 => S_elemD (e := 52) (i := 0) d0 2 rfl (AEv.cond (.tmp rfl) (by first | assumption | exact gdAnd (by assumption) (by assumption))) (AEv.const _) (by kernel_rfl) (by kernel_rfl) (by (try simp only [gd, Bool.and_eq_true, Bool.or_eq_true, Bool.not_eq_true', Bool.not_eq_false', decide_eq_true_eq, decide_eq_false_iff_not, Bool.or_eq_false_iff, Bool.and_eq_false_iff] at *); omega) (fun _ => rfl))) <|
        .cons rfl (Q_g rfl rfl (.tmp rfl) (fun hg65 => S_fieldP 0 rfl (AEv.cond (.tmp rfl) (by first | assumption | exact gdAnd (by assumption) (by assumption))) (by kernel_rfl))) <|
        .cons rfl (Q_g rfl rfl (.tmp rfl) (fun hg68 => S_loadP rfl (AEv.cond (.tmp rfl) (by first | assumption | exact gdAnd (by assumption) (by assumption))) rfl (by kernel_rfl))) <|
        .cons rfl (Q_g rfl rfl (.tmp rfl) (fun hg71 => S_move rfl (.tmp rfl))) <|
        .cons rfl (Q_g rfl rfl (.tmp rfl) (fun hg74 => S_elemD (e := 52) (i := 0) d0 2 rfl (AEv.cond (.tmp rfl) (by first | assumption | exact gdAnd (by assumption) (by assumption))) (AEv.const _) (by kernel_rfl) (by kernel_rfl) (by (try simp only [gd, Bool.and_eq_true, Bool.or_eq_true, Bool.not_eq_true', Bool.not_eq_false', decide_eq_true_eq, decide_eq_false_iff_not, Bool.or_eq_false_iff, Bool.and_eq_false_iff] at *); omega) (fun _ => rfl))) <|
        .cons rfl (Q_g rfl rfl (.tmp rfl) (fun hg77 => S_fieldP 0 rfl (AEv.cond (.tmp rfl) (by first | assumption | exact gdAnd (by assumption) (by assumption))) (by kernel_rfl))) <|
        .cons rfl (Q_g rfl rfl (.tmp rfl) (fun hg80 => S_loadP rfl (AEv.cond (.tmp rfl) (by first | assumption | exact gdAnd (by assumption) (by assumption))) rfl (by kernel_rfl))) <|
        .cons rfl (Q_g rfl rfl (.tmp rfl) (fun hg83 => S_ltS rfl (AEv.cond (.tmp rfl) (by first | assumption | exact gdAnd (by assumption) (by assumption))) (AEv.cond (.tmp rfl) (by first | assumption | exact gdAnd (by assumption) (by assumption))))) <|
        .cons rfl (Q_p rfl (S_or rfl (.tmp rfl) (fun hp86 => (AEv.cond (.tmp rfl) (by first | assumption | exact gdT hp86 | exact gdF hp86 | exact gdAnd (by assumption) (gdT hp86) | exact gdAnd (by assumption) (gdF hp86)))))) <|
        .cons rfl (Q_p rfl (S_assign rfl (.tmp rfl))) <|
        .nil) ?_
    refine AC_cond (.tmp rfl) (fun hb87 => ?_) (fun hb87 => ?_)
    · try simp only [zA, zO, zN, zM, zP, zQ, zD, zF, gd] at hb87
      have HT2 : a1 = [] ∨ lessK (b1.getD 0 d0) (a1.getD 0 d0) = true := hb87.elim (fun h => .inl (List.length_eq_zero_iff.1 (by omega))) (fun h => .inr h)
      refine AC_plan (σ := [(0, 0), (1, 0), (2, 0), (3, 0), (4, 0), (6, 0), (7, 0), (5, 1), (8, 0), (9, 0)]) (by kernel_rfl) [] (by kernel_rfl) (fun r hr => absurd hr List.not_mem_nil) ?_
      refine AG.f rfl rfl (fun st' hst => Q_p rfl (S_move rfl (.tmp rfl))) ?_
      refine AG.f rfl rfl (fun st' hst => Q_p rfl (S_move rfl (.tmp rfl))) ?_
      refine AG.f rfl rfl (fun st' hst => Q_p rfl (S_elemD (e := 52) (i := 0) d0 2 rfl (.tmp rfl) (AEv.const _) (by kernel_rfl) (by kernel_rfl) (by omega) (fun _ => rfl))) ?_
      refine AG.f rfl rfl (fun st' hst => Q_p rfl (S_loadPN (m := 2) rfl (.tmp rfl) (by kernel_rfl) (by first | exact Nat.le_of_ble_eq_true rfl | (simp; omega) | simp))) ?_
      refine AG.f rfl rfl (fun st' hst => Q_p rfl (S_buildSlice (e := 52) 2 rfl (AEvs.cons (.tmp rfl) AEvs.nil) rfl (by kernel_rfl) (by kernel_rfl) (by intro y hy; simp only [List.mem_cons, List.not_mem_nil, or_false] at hy; rcases hy with rfl <;> exact ⟨rfl, rfl⟩) (by decide) (by decide) (by decide))) ?_
      refine AG.f rfl rfl (fun st' hst => Q_p rfl (S_move rfl (.tmp rfl))) ?_
      refine AG.f rfl rfl (fun st' hst => Q_p rfl (S_cutLM (e := 52) (i := 1) 2 rfl (.tmp rfl) (AEv.const _) (by kernel_rfl) (by kernel_rfl) (fun _ => rfl) (by omega))) ?_
      refine AG.s rfl rfl rfl (S_appendM (f := labAV) (l := o1) (l2 := [(b1.getD 0 d0)]) (e := 52) (size := 2) (bytes := 32) (p := p) ([]) (st) rfl (.tmp rfl) (.tmp rfl) rfl hq (by kernel_rfl) (by simp) (fun _ => ⟨rfl, rfl⟩) (by simp only [List.length_singleton]; omega) (by simp only [List.length_singleton]; omega)) ?_ ?_
      · rintro _ _ ⟨b8, k8, cap8, hx8, rfl, rfl⟩ r hr; first | exact List.mem_append_left _ hr | exact absurd hr List.not_mem_nil
      rintro _ _ ⟨b8, k8, cap8, hx8, rfl, rfl⟩
      refine AG.f rfl rfl (fun st' hst => Q_p rfl (S_assign rfl (.tmp rfl))) ?_
      refine AG.f rfl rfl (fun st' hst => Q_p rfl (S_assign rfl (.tmp rfl))) ?_
      refine AG.nil ?_
      rw [merge_b hbne HF HT2] at hm
      refine ⟨(a1, b1.drop 1, o1 ++ [(b1.getD 0 d0)], .row b8 k8 cap8), ⟨by dsimp only; rw [hm, map_cons], hx8, by dsimp only; (try simp only [List.length_drop]); omega, by dsimp only; (try simp only [List.length_drop]); omega, by dsimp only; simp only [List.length_append, List.length_singleton, List.length_drop]; omega⟩, by dsimp only; simp only [List.length_drop]; omega, (Sub.l (List.Sublist.refl _)), (.cons rfl (by first | exact Le.refl _ | exact Le.nils | exact Le.row _ _ _ _ | exact Le.of_eq (by first | rfl | (simp; done) | (push_cast; rfl) | (simp; omega))) (.cons rfl (by first | exact Le.refl _ | exact Le.nils | exact Le.row _ _ _ _ | exact Le.of_eq (by first | rfl | (simp; done) | (push_cast; rfl) | (simp; omega))) (.cons rfl (by first | exact Le.refl _ | exact Le.nils | exact Le.row _ _ _ _ | exact Le.of_eq (by first | rfl | (simp; done) | (push_cast; rfl) | (simp; omega))) .nil))), .nil⟩
    try simp only [zA, zO, zN, zM, zP, zQ, zD, zF, gd] at hb87
    have hane : a1 ≠ [] := fun e => by
      have h0 : a1.length = 0 := by rw [e]; rfl
      omega
    have hal1 : 0 < a1.length := List.length_pos_iff.2 hane
    have HN2 : ¬ lessK (b1.getD 0 d0) (a1.getD 0 d0) = true := by have h := hb87.2; show ¬ Op.bytesLess _ _ = true; rw [h]; simp
    have HN1 : ¬ lessK (a1.getD 0 d0) (b1.getD 0 d0) = true := fun h => HF (.inr ⟨hane, h⟩)
    refine AC_seq ?_
    refine AC_draw (by kernel_rfl) (by kernel_rfl) (.cons rfl (Q_p rfl (S_move rfl (.tmp rfl))) <|
        .cons rfl (Q_p rfl (S_elemD (e := 52) (i := 0) d0 2 rfl (.tmp rfl) (AEv.const _) (by kernel_rfl) (by kernel_rfl) (by omega) (fun _ => rfl))) <|
        .cons rfl (Q_p rfl (S_fieldP 1 rfl (.tmp rfl) (by kernel_rfl))) <|
        .cons rfl (Q_p rfl (S_loadP rfl (.tmp rfl) rfl (by kernel_rfl))) <|
        .cons rfl (Q_p rfl (S_move rfl (.tmp rfl))) <|
        .cons rfl (Q_p rfl (S_elemD (e := 52) (i := 0) d0 2 rfl (.tmp rfl) (AEv.const _) (by kernel_rfl) (by kernel_rfl) (by omega) (fun _ => rfl))) <|
        .cons rfl (Q_p rfl (S_fieldP 1 rfl (.tmp rfl) (by kernel_rfl))) <|
        .cons rfl (Q_p rfl (S_loadP rfl (.tmp rfl) rfl (by kernel_rfl))) <|
        .cons rfl (Q_p rfl (S_neS rfl (.tmp rfl) (.tmp rfl))) <|
        .cons rfl (Q_p rfl (S_assign rfl (.tmp rfl))) <|
        .nil) ?_
    refine AC_cond (.tmp rfl) (fun hb90 => ?_) (fun hb90 => ?_)
    · try simp only [zA, zO, zN, zM, zP, zQ, zD, zF, gd] at hb90
      have hx : mergeL a b = none := by rw [hm, merge_both hane hbne HN1 HN2, if_pos hb90]; rfl
      refine AC_seq ?_
      refine AC_region ?_
      refine AL_p rfl rfl (S_assign rfl (AEv.const _)) ?_
      refine AL_p rfl rfl (S_assign rfl (AEv.const _)) ?_
      refine AL_nil ?_
      refine AC_ret ?_
      refine ret_tmps (ts := [4, 5]) st rfl (by decide) rfl (Sub.l (List.sublist_append_right _ _)) (Conv.le (Sub.l (List.sublist_append_right _ _)) (Les.tup (.cons Le.nils (.cons (Le.refl _) .nil)))) ⟨by rw [hx]; rfl, rfl⟩ (.inl rfl)
    try simp only [zA, zO, zN, zM, zP, zQ, zD, zF, gd] at hb90
    have HV : ¬ (a1.getD 0 d0).2 ≠ (b1.getD 0 d0).2 := fun h => h hb90
    refine AC_plan (σ := [(0, 0), (1, 0), (2, 0), (3, 0), (4, 0), (6, 0), (7, 0), (8, 0), (9, 0), (5, 1), (10, 0), (11, 0), (12, 0)]) (by kernel_rfl) [] (by kernel_rfl) (fun r hr => absurd hr List.not_mem_nil) ?_
    refine AG.f rfl rfl (fun st' hst => Q_p rfl (S_move rfl (.tmp rfl))) ?_
    refine AG.f rfl rfl (fun st' hst => Q_p rfl (S_move rfl (.tmp rfl))) ?_
    refine AG.f rfl rfl (fun st' hst => Q_p rfl (S_elemD (e := 52) (i := 0) d0 2 rfl (.tmp rfl) (AEv.const _) (by kernel_rfl) (by kernel_rfl) (by omega) (fun _ => rfl))) ?_
    refine AG.f rfl rfl (fun st' hst => Q_p rfl (S_loadPN (m := 2) rfl (.tmp rfl) (by kernel_rfl) (by first | exact Nat.le_of_ble_eq_true rfl | (simp; omega) | simp))) ?_
    refine AG.f rfl rfl (fun st' hst => Q_p rfl (S_buildSlice (e := 52) 2 rfl (AEvs.cons (.tmp rfl) AEvs.nil) rfl (by kernel_rfl) (by kernel_rfl) (by intro y hy; simp only [List.mem_cons, List.not_mem_nil, or_false] at hy; rcases hy with rfl <;> exact ⟨rfl, rfl⟩) (by decide) (by decide) (by decide))) ?_
    refine AG.f rfl rfl (fun st' hst => Q_p rfl (S_move rfl (.tmp rfl))) ?_
    refine AG.f rfl rfl (fun st' hst => Q_p rfl (S_cutLM (e := 52) (i := 1) 2 rfl (.tmp rfl) (AEv.const _) (by kernel_rfl) (by kernel_rfl) (fun _ => rfl) (by omega))) ?_
    refine AG.f rfl rfl (fun st' hst => Q_p rfl (S_move rfl (.tmp rfl))) ?_
    refine AG.f rfl rfl (fun st' hst => Q_p rfl (S_cutLM (e := 52) (i := 1) 2 rfl (.tmp rfl) (AEv.const _) (by kernel_rfl) (by kernel_rfl) (fun _ => rfl) (by omega))) ?_
    refine AG.s rfl rfl rfl (S_appendM (f := labAV) (l := o1) (l2 := [(a1.getD 0 d0)]) (e := 52) (size := 2) (bytes := 32) (p := p) ([]) (st) rfl (.tmp rfl) (.tmp rfl) rfl hq (by kernel_rfl) (by simp) (fun _ => ⟨rfl, rfl⟩) (by simp only [List.length_singleton]; omega) (by simp only [List.length_singleton]; omega)) ?_ ?_
    · rintro _ _ ⟨b8, k8, cap8, hx8, rfl, rfl⟩ r hr; first | exact List.mem_append_left _ hr | exact absurd hr List.not_mem_nil
    rintro _ _ ⟨b8, k8, cap8, hx8, rfl, rfl⟩
    refine AG.f rfl rfl (fun st' hst => Q_p rfl (S_assign rfl (.tmp rfl))) ?_
    refine AG.f rfl rfl (fun st' hst => Q_p rfl (S_assign rfl (.tmp rfl))) ?_
    refine AG.f rfl rfl (fun st' hst => Q_p rfl (S_assign rfl (.tmp rfl))) ?_
    refine AG.nil ?_
    rw [merge_both hane hbne HN1 HN2, if_neg HV] at hm
    refine ⟨(a1.drop 1, b1.drop 1, o1 ++ [(a1.getD 0 d0)], .row b8 k8 cap8), ⟨by dsimp only; rw [hm, map_cons], hx8, by dsimp only; (try simp only [List.length_drop]); omega, by dsimp only; (try simp only [List.length_drop]); omega, by dsimp only; simp only [List.length_append, List.length_singleton, List.length_drop]; omega⟩, by dsimp only; simp only [List.length_drop]; omega, (Sub.l (List.Sublist.refl _)), (.cons rfl (by first | exact Le.refl _ | exact Le.nils | exact Le.row _ _ _ _ | exact Le.of_eq (by first | rfl | (simp; done) | (push_cast; rfl) | (simp; omega))) (.cons rfl (by first | exact Le.refl _ | exact Le.nils | exact Le.row _ _ _ _ | exact Le.of_eq (by first | rfl | (simp; done) | (push_cast; rfl) | (simp; omega))) (.cons rfl (by first | exact Le.refl _ | exact Le.nils | exact Le.row _ _ _ _ | exact Le.of_eq (by first | rfl | (simp; done) | (push_cast; rfl) | (simp; omega))) .nil))), .nil⟩
  try simp only [zA, zO, zN, zM, zP, zQ, zD, zF, gd] at hb11
  have ha0 : a1 = [] := List.length_eq_zero_iff.1 (by omega)
  have hb0 : b1 = [] := List.length_eq_zero_iff.1 (by omega)
  have hx : mergeL a b = some o1 := by rw [hm, ha0, hb0]; simp [mergeL]
  refine AC_exit ?_
  refine AC_seq ?_
  refine AC_region ?_
  refine AL_p rfl rfl (S_move rfl (.tmp rfl)) ?_
  refine AL_p rfl rfl (S_assign rfl (.tmp rfl)) ?_
  refine AL_p rfl rfl (S_assign rfl (AEv.const _)) ?_
  refine AL_nil ?_
  refine AC_ret ?_
  refine ret_tmps (ts := [4, 5]) st rfl (by decide) rfl (Sub.l (List.sublist_append_right _ _)) (Conv.le (Sub.l (List.sublist_append_right _ _)) (Les.tup (.cons (Le_own hq) (.cons (Le.refl _) .nil)))) ⟨by rw [hx]; rfl, rfl⟩ (.inl rfl)

end Go.Proofs.YtdljfalidkpfoaaDoor

/-
The walks of Go functions in the logic AL: what each of them answers.
Conditions: those of each theorem.
-/
set_option linter.unusedVariables false
set_option linter.unusedSimpArgs false
namespace Go.Proofs.YtdljfalidkpfoaaDoor
open Go.AL Go.NumSpec

theorem parse_W : parseS [97, 61, 120, 44, 98, 61] = ([([97], [120]), ([98], [])], 0) := by decide +kernel
theorem parse_V : parseS [97, 61, 120, 44] = ([], 3) := by decide +kernel

set_option maxRecDepth 100000 in
/-- provost/provostlaw11.works -/
theorem law_works : GCalls Tryd.prog tabs 10 [] (.bool true) := by
  intro st hG
  refine ACalls_of (N := 44) Tryd.func10 (by kernel_rfl) rfl rfl rfl ?_
  refine AC_seq ?_
  refine AC_region ?_
  refine AL_p rfl rfl (S_assign rfl (AEv.const _)) ?_
  refine AL_nil ?_
  refine AC_seq ?_
  refine AC_region ?_
  refine AL_p rfl rfl (S_gcall rfl (AEvs.cons (AEv.S _) AEvs.nil) ((GCalls.of_eq (sel_Parse_ok [97, 61, 120, 44, 98, 61] (by decide)) (congrArg parseAV parse_W)) _ (fun p hp => by first | exact hG p hp | (simp [hG p hp]; done)))) ?_
  refine AL_p rfl rfl (S_move rfl (.tmp rfl)) ?_
  refine AL_p rfl rfl (S_extract 0 rfl (.tmp rfl) rfl) ?_
  refine AL_p rfl rfl (S_extract 1 rfl (.tmp rfl) rfl) ?_
  refine AL_p rfl rfl (S_assign rfl (.tmp rfl)) ?_
  refine AL_p rfl rfl (S_assign rfl (.tmp rfl)) ?_
  refine AL_nil ?_
  refine AC_seq ?_
  refine AC_region ?_
  refine AL_p rfl rfl (S_gcall rfl (AEvs.cons (AEv.S _) AEvs.nil) ((GCalls.of_eq (sel_Parse_ok [97, 61, 120, 44] (by decide)) (congrArg parseAV parse_V)) _ (fun p hp => by first | exact hG p hp | (simp [hG p hp]; done)))) ?_
  refine AL_p rfl rfl (S_move rfl (.tmp rfl)) ?_
  refine AL_p rfl rfl (S_extract 0 rfl (.tmp rfl) rfl) ?_
  refine AL_p rfl rfl (S_extract 1 rfl (.tmp rfl) rfl) ?_
  refine AL_p rfl rfl (S_assign rfl (.tmp rfl)) ?_
  refine AL_p rfl rfl (S_assign rfl (.tmp rfl)) ?_
  refine AL_nil ?_
  refine AC_seq ?_
  refine AC_region ?_
  refine AL_p rfl rfl (S_move rfl (.tmp rfl)) ?_
  refine AL_p rfl rfl (S_eql rfl (.tmp rfl) (AEv.const _)) ?_
  refine AL_p rfl rfl (S_move rfl (.tmp rfl)) ?_
  refine AL_g rfl rfl (.tmp rfl) rfl (fun hg1 => S_move rfl (.tmp rfl)) ?_
  refine AL_g rfl rfl (.tmp rfl) rfl (fun hg4 => by first | exact S_lenM (e := 52) rfl (AEv.cond (.tmp rfl) (by first | assumption | exact gdAnd (by assumption) (by assumption))) (by kernel_rfl) | exact S_len (e := 52) rfl (AEv.cond (.tmp rfl) (by first | assumption | exact gdAnd (by assumption) (by assumption))) (by kernel_rfl)) ?_
  refine AL_g rfl rfl (.tmp rfl) rfl (fun hg7 => S_eql rfl (AEv.cond (.tmp rfl) (by first | assumption | exact gdAnd (by assumption) (by assumption))) (AEv.const _)) ?_
  refine AL_p rfl rfl (S_and rfl (.tmp rfl) (fun hp10 => (AEv.cond (.tmp rfl) (by first | assumption | exact gdT hp10 | exact gdF hp10 | exact gdAnd (by assumption) (gdT hp10) | exact gdAnd (by assumption) (gdF hp10))))) ?_
  refine AL_p rfl rfl (S_move rfl (.tmp rfl)) ?_
  refine AL_g rfl rfl (.tmp rfl) rfl (fun hg11 => S_move rfl (.tmp rfl)) ?_
  refine AL_g rfl rfl (.tmp rfl) rfl (fun hg14 => S_elemD (e := 52) (i := 0) d0 2 rfl (AEv.cond (.tmp rfl) (by first | assumption | exact gdAnd (by assumption) (by assumption))) (AEv.const _) (by kernel_rfl) (by kernel_rfl) (by decide) (fun _ => rfl)) ?_
  refine AL_g rfl rfl (.tmp rfl) rfl (fun hg17 => S_loadPN (m := 2) rfl (AEv.cond (.tmp rfl) (by first | assumption | exact gdAnd (by assumption) (by assumption))) (by kernel_rfl) (by first | exact Nat.le_of_ble_eq_true rfl | (simp; omega) | simp)) ?_
  refine AL_g rfl rfl (.tmp rfl) rfl (fun hg20 => S_build (t := 52) (pl := [(0, 1), (1, 1)]) (zs := [.string ⟨#[]⟩, .string ⟨#[]⟩]) rfl (AEvs.cons (AEv.S _) (AEvs.cons (AEv.S _) AEvs.nil)) (by kernel_rfl) rfl) ?_
  refine AL_g rfl rfl (.tmp rfl) rfl (fun hg23 => S_eqlAgg rfl (AEv.cond (.tmp rfl) (by first | assumption | exact gdAnd (by assumption) (by assumption))) (AEv.cond (.tmp rfl) (by first | assumption | exact gdAnd (by assumption) (by assumption))) (by kernel_rfl) (EqAV.struct Tryd.underlying52 (by kernel_rfl) (EqFs.flat (by kernel_rfl) (by kernel_rfl) rfl rfl (EqAV.S (by kernel_rfl)) (EqFs.flat (by kernel_rfl) (by kernel_rfl) rfl rfl (EqAV.S (by kernel_rfl)) EqFs.nil)))) ?_
  refine AL_p rfl rfl (S_and rfl (.tmp rfl) (fun hp26 => (AEv.cond (.tmp rfl) (by first | assumption | exact gdT hp26 | exact gdF hp26 | exact gdAnd (by assumption) (gdT hp26) | exact gdAnd (by assumption) (gdF hp26))))) ?_
  refine AL_p rfl rfl (S_move rfl (.tmp rfl)) ?_
  refine AL_g rfl rfl (.tmp rfl) rfl (fun hg27 => S_move rfl (.tmp rfl)) ?_
  refine AL_g rfl rfl (.tmp rfl) rfl (fun hg30 => S_eql rfl (AEv.cond (.tmp rfl) (by first | assumption | exact gdAnd (by assumption) (by assumption))) (AEv.const _)) ?_
  refine AL_p rfl rfl (S_and rfl (.tmp rfl) (fun hp33 => (AEv.cond (.tmp rfl) (by first | assumption | exact gdT hp33 | exact gdF hp33 | exact gdAnd (by assumption) (gdT hp33) | exact gdAnd (by assumption) (gdF hp33))))) ?_
  refine AL_p rfl rfl (S_move rfl (.tmp rfl)) ?_
  refine AL_g rfl rfl (.tmp rfl) rfl (fun hg34 => S_move rfl (.tmp rfl)) ?_
  refine AL_g rfl rfl (.tmp rfl) rfl (fun hg37 => S_pcall rfl (AEvs.cons (AEv.cond (.tmp rfl) (by first | assumption | exact gdAnd (by assumption) (by assumption))) AEvs.nil) (sel_Text_ok [([97], [120]), ([98], [])] (by decide) (by decide))) ?_
  refine AL_g rfl rfl (.tmp rfl) rfl (fun hg40 => S_eqS rfl (AEv.cond (.tmp rfl) (by first | assumption | exact gdAnd (by assumption) (by assumption))) (AEv.S _)) ?_
  refine AL_p rfl rfl (S_and rfl (.tmp rfl) (fun hp43 => (AEv.cond (.tmp rfl) (by first | assumption | exact gdT hp43 | exact gdF hp43 | exact gdAnd (by assumption) (gdT hp43) | exact gdAnd (by assumption) (gdF hp43))))) ?_
  refine AL_p rfl rfl (S_move rfl (.tmp rfl)) ?_
  refine AL_g rfl rfl (.tmp rfl) rfl (fun hg44 => S_pcall rfl (AEvs.cons ((AEv.const _).le Le.nils) (AEvs.cons ((AEv.const _).le Le.nils) AEvs.nil)) (sel_Fits_ok [] [] (by decide) (by decide))) ?_
  refine AL_p rfl rfl (S_and rfl (.tmp rfl) (fun hp47 => (AEv.cond (.tmp rfl) (by first | assumption | exact gdT hp47 | exact gdF hp47 | exact gdAnd (by assumption) (gdT hp47) | exact gdAnd (by assumption) (gdF hp47))))) ?_
  refine AL_p rfl rfl (S_move rfl (.tmp rfl)) ?_
  refine AL_g rfl rfl (.tmp rfl) rfl (fun hg48 => S_move rfl (.tmp rfl)) ?_
  refine AL_g rfl rfl (.tmp rfl) rfl (fun hg51 => S_pcall rfl (AEvs.cons (AEv.cond (.tmp rfl) (by first | assumption | exact gdAnd (by assumption) (by assumption))) (AEvs.cons ((AEv.const _).le Le.nils) AEvs.nil)) (sel_Fits_ok [([97], [120]), ([98], [])] [] (by decide) (by decide))) ?_
  refine AL_g rfl rfl (.tmp rfl) rfl (fun hg54 => S_not rfl (AEv.cond (.tmp rfl) (by first | assumption | exact gdAnd (by assumption) (by assumption)))) ?_
  refine AL_p rfl rfl (S_and rfl (.tmp rfl) (fun hp57 => (AEv.cond (.tmp rfl) (by first | assumption | exact gdT hp57 | exact gdF hp57 | exact gdAnd (by assumption) (gdT hp57) | exact gdAnd (by assumption) (gdF hp57))))) ?_
  refine AL_p rfl rfl (S_assign rfl (.tmp rfl)) ?_
  refine AL_nil ?_
  refine AC_ret ?_
  refine ret_tmp st rfl rfl (Sub.l (List.Sublist.refl _)) (Conv.refl (Sub.l (List.Sublist.refl _)) _) ⟨congrArg AV.bool (by decide +kernel), rfl⟩ (.inl rfl)

set_option maxRecDepth 100000 in
/-- provost/provostlaw11.SelFits -/
theorem law_SelFits (a b : List Lab) (key : List UInt8) : GCalls Tryd.prog tabs 6 [.sl (labsV a), .sl (labsV b), .S key] (.bool true) := by
  intro st hG
  refine ACalls_of (N := 61) Tryd.func6 (by kernel_rfl) rfl rfl rfl ?_
  refine AC_seq ?_
  refine AC_region ?_
  refine AL_p rfl rfl (S_assign rfl (AEv.const _)) ?_
  refine AL_nil ?_
  refine AC_seq ?_
  refine AC_seq ?_
  refine AC_region ?_
  refine AL_p rfl rfl (S_move rfl (.tmp rfl)) ?_
  refine AL_p rfl rfl (S_pcall rfl (AEvs.cons (.tmp rfl) AEvs.nil) (law_light_ok _)) ?_
  refine AL_p rfl rfl (S_not rfl (.tmp rfl)) ?_
  refine AL_p rfl rfl (S_move rfl (.tmp rfl)) ?_
  refine AL_g rfl rfl (.tmp rfl) rfl (fun hg1 => S_move rfl (.tmp rfl)) ?_
  refine AL_g rfl rfl (.tmp rfl) rfl (fun hg4 => S_pcall rfl (AEvs.cons (AEv.cond (.tmp rfl) (by first | assumption | exact gdAnd (by assumption) (by assumption))) AEvs.nil) (law_light_ok _)) ?_
  refine AL_g rfl rfl (.tmp rfl) rfl (fun hg7 => S_not rfl (AEv.cond (.tmp rfl) (by first | assumption | exact gdAnd (by assumption) (by assumption)))) ?_
  refine AL_p rfl rfl (S_or rfl (.tmp rfl) (fun hp10 => (AEv.cond (.tmp rfl) (by first | assumption | exact gdT hp10 | exact gdF hp10 | exact gdAnd (by assumption) (gdT hp10) | exact gdAnd (by assumption) (gdF hp10))))) ?_
  refine AL_nil ?_
  refine AC_cond (.tmp rfl) (fun hb11 => ?_) (fun hb11 => ?_)
  · try simp only [zA, zO, zN, zM, zP, zQ, zD, zF, gd] at hb11
    refine AC_seq ?_
    refine AC_region ?_
    refine AL_p rfl rfl (S_gcall rfl AEvs.nil ((law_works) _ (fun p hp => by first | exact hG p hp | (simp [hG p hp]; done)))) ?_
    refine AL_p rfl rfl (S_assign rfl (.tmp rfl)) ?_
    refine AL_nil ?_
    refine AC_ret ?_
    refine ret_tmp st rfl rfl (Sub.l (List.Sublist.refl _)) (Conv.refl (Sub.l (List.Sublist.refl _)) _) ⟨rfl, rfl⟩ (.inl rfl)
  try simp only [zA, zO, zN, zM, zP, zQ, zD, zF, gd] at hb11
  have hla : lightS (onlyL a) = true := by simpa using hb11.1
  have hlb : lightS (onlyL b) = true := by simpa using hb11.2
  have hal : a.length ≤ 1000000 := by have := (onlyL_light hla).1; omega
  have hbl : b.length ≤ 1000000 := by have := (onlyL_light hlb).1; omega
  refine AC_skip ?_
  refine AC_seq ?_
  refine AC_region ?_
  refine AL_p rfl rfl (S_move rfl (.tmp rfl)) ?_
  refine AL_p rfl rfl (S_move rfl (.tmp rfl)) ?_
  refine AL_p rfl rfl (S_pcall rfl (AEvs.cons (.tmp rfl) (AEvs.cons (.tmp rfl) AEvs.nil)) (sel_Get_ok a key hal)) ?_
  refine AL_p rfl rfl (S_move rfl (.tmp rfl)) ?_
  refine AL_p rfl rfl (S_extract 0 rfl (.tmp rfl) rfl) ?_
  refine AL_p rfl rfl (S_extract 1 rfl (.tmp rfl) rfl) ?_
  refine AL_p rfl rfl (S_assign rfl (.tmp rfl)) ?_
  refine AL_p rfl rfl (S_assign rfl (.tmp rfl)) ?_
  refine AL_nil ?_
  refine AC_seq ?_
  refine AC_region ?_
  refine AL_p rfl rfl (S_move rfl (.tmp rfl)) ?_
  refine AL_p rfl rfl (S_move rfl (.tmp rfl)) ?_
  refine AL_p rfl rfl (S_pcall rfl (AEvs.cons (.tmp rfl) (AEvs.cons (.tmp rfl) AEvs.nil)) (ref11_Get_ok a key hal)) ?_
  refine AL_p rfl rfl (S_move rfl (.tmp rfl)) ?_
  refine AL_p rfl rfl (S_extract 0 rfl (.tmp rfl) rfl) ?_
  refine AL_p rfl rfl (S_extract 1 rfl (.tmp rfl) rfl) ?_
  refine AL_p rfl rfl (S_assign rfl (.tmp rfl)) ?_
  refine AL_p rfl rfl (S_assign rfl (.tmp rfl)) ?_
  refine AL_nil ?_
  refine AC_seq ?_
  refine AC_region ?_
  refine AL_p rfl rfl (S_move rfl (.tmp rfl)) ?_
  refine AL_p rfl rfl (S_move rfl (.tmp rfl)) ?_
  refine AL_p rfl rfl (S_pcall rfl (AEvs.cons (.tmp rfl) (AEvs.cons (.tmp rfl) AEvs.nil)) (sel_Fits_ok a b hal hbl)) ?_
  refine AL_p rfl rfl (S_move rfl (.tmp rfl)) ?_
  refine AL_p rfl rfl (S_move rfl (.tmp rfl)) ?_
  refine AL_p rfl rfl (S_pcall rfl (AEvs.cons (.tmp rfl) (AEvs.cons (.tmp rfl) AEvs.nil)) (ref11_Fits_ok a b hal hbl)) ?_
  refine AL_p rfl rfl (S_eqB rfl (.tmp rfl) (.tmp rfl) (by kernel_rfl)) ?_
  refine AL_p rfl rfl (S_move rfl (.tmp rfl)) ?_
  refine AL_g rfl rfl (.tmp rfl) rfl (fun hg12 => S_move rfl (.tmp rfl)) ?_
  refine AL_g rfl rfl (.tmp rfl) rfl (fun hg15 => S_move rfl (.tmp rfl)) ?_
  refine AL_g rfl rfl (.tmp rfl) rfl (fun hg18 => S_pcall rfl (AEvs.cons (AEv.cond (.tmp rfl) (by first | assumption | exact gdAnd (by assumption) (by assumption))) (AEvs.cons (AEv.cond (.tmp rfl) (by first | assumption | exact gdAnd (by assumption) (by assumption))) AEvs.nil)) (sel_Covers_ok b a hbl hal)) ?_
  refine AL_g rfl rfl (.tmp rfl) rfl (fun hg21 => S_move rfl (.tmp rfl)) ?_
  refine AL_g rfl rfl (.tmp rfl) rfl (fun hg24 => S_move rfl (.tmp rfl)) ?_
  refine AL_g rfl rfl (.tmp rfl) rfl (fun hg27 => S_pcall rfl (AEvs.cons (AEv.cond (.tmp rfl) (by first | assumption | exact gdAnd (by assumption) (by assumption))) (AEvs.cons (AEv.cond (.tmp rfl) (by first | assumption | exact gdAnd (by assumption) (by assumption))) AEvs.nil)) (ref11_Fits_ok b a hbl hal)) ?_
  refine AL_g rfl rfl (.tmp rfl) rfl (fun hg30 => S_eqB rfl (AEv.cond (.tmp rfl) (by first | assumption | exact gdAnd (by assumption) (by assumption))) (AEv.cond (.tmp rfl) (by first | assumption | exact gdAnd (by assumption) (by assumption))) (by kernel_rfl)) ?_
  refine AL_p rfl rfl (S_and rfl (.tmp rfl) (fun hp33 => (AEv.cond (.tmp rfl) (by first | assumption | exact gdT hp33 | exact gdF hp33 | exact gdAnd (by assumption) (gdT hp33) | exact gdAnd (by assumption) (gdF hp33))))) ?_
  refine AL_p rfl rfl (S_move rfl (.tmp rfl)) ?_
  refine AL_g rfl rfl (.tmp rfl) rfl (fun hg34 => S_move rfl (.tmp rfl)) ?_
  refine AL_g rfl rfl (.tmp rfl) rfl (fun hg37 => S_move rfl (.tmp rfl)) ?_
  refine AL_g rfl rfl (.tmp rfl) rfl (fun hg40 => S_eqS rfl (AEv.cond (.tmp rfl) (by first | assumption | exact gdAnd (by assumption) (by assumption))) (AEv.cond (.tmp rfl) (by first | assumption | exact gdAnd (by assumption) (by assumption)))) ?_
  refine AL_p rfl rfl (S_and rfl (.tmp rfl) (fun hp43 => (AEv.cond (.tmp rfl) (by first | assumption | exact gdT hp43 | exact gdF hp43 | exact gdAnd (by assumption) (gdT hp43) | exact gdAnd (by assumption) (gdF hp43))))) ?_
  refine AL_p rfl rfl (S_move rfl (.tmp rfl)) ?_
  refine AL_g rfl rfl (.tmp rfl) rfl (fun hg44 => S_move rfl (.tmp rfl)) ?_
  refine AL_g rfl rfl (.tmp rfl) rfl (fun hg47 => S_move rfl (.tmp rfl)) ?_
  refine AL_g rfl rfl (.tmp rfl) rfl (fun hg50 => S_eqB rfl (AEv.cond (.tmp rfl) (by first | assumption | exact gdAnd (by assumption) (by assumption))) (AEv.cond (.tmp rfl) (by first | assumption | exact gdAnd (by assumption) (by assumption))) (by kernel_rfl)) ?_
  refine AL_p rfl rfl (S_and rfl (.tmp rfl) (fun hp53 => (AEv.cond (.tmp rfl) (by first | assumption | exact gdT hp53 | exact gdF hp53 | exact gdAnd (by assumption) (gdT hp53) | exact gdAnd (by assumption) (gdF hp53))))) ?_
  refine AL_p rfl rfl (S_move rfl (.tmp rfl)) ?_
  refine AL_g rfl rfl (.tmp rfl) rfl (fun hg54 => S_gcall rfl AEvs.nil ((law_works) _ (fun p hp => by first | exact hG p hp | (simp [hG p hp]; done)))) ?_
  refine AL_p rfl rfl (S_and rfl (.tmp rfl) (fun hp57 => (AEv.cond (.tmp rfl) (by first | assumption | exact gdT hp57 | exact gdF hp57 | exact gdAnd (by assumption) (gdT hp57) | exact gdAnd (by assumption) (gdF hp57))))) ?_
  refine AL_p rfl rfl (S_assign rfl (.tmp rfl)) ?_
  refine AL_nil ?_
  refine AC_ret ?_
  refine ret_tmp st rfl rfl (Sub.l (List.Sublist.refl _)) (Conv.refl (Sub.l (List.Sublist.refl _)) _) ⟨congrArg AV.bool (by simp), rfl⟩ (.inl rfl)

set_option maxRecDepth 100000 in
/-- provost/provostlaw11.SelBoth -/
theorem law_SelBoth (a b l : List Lab) (ha : ∀ x ∈ a, x.1.length ≤ 9223372036854775807 ∧ x.2.length ≤ 9223372036854775807) (hb : ∀ x ∈ b, x.1.length ≤ 9223372036854775807 ∧ x.2.length ≤ 9223372036854775807) (hl : ∀ x ∈ l, x.1.length ≤ 9223372036854775807 ∧ x.2.length ≤ 9223372036854775807) : GCalls Tryd.prog tabs 8 [.sl (labsV a), .sl (labsV b), .sl (labsV l)] (.bool true) := by
  intro st hG
  refine ACalls_of (N := 68) Tryd.func8 (by kernel_rfl) rfl rfl rfl ?_
  refine AC_seq ?_
  refine AC_region ?_
  refine AL_p rfl rfl (S_assign rfl (AEv.const _)) ?_
  refine AL_nil ?_
  refine AC_seq ?_
  refine AC_seq ?_
  refine AC_region ?_
  refine AL_p rfl rfl (S_gcall rfl AEvs.nil ((law_works) _ (fun p hp => by first | exact hG p hp | (simp [hG p hp]; done)))) ?_
  refine AL_p rfl rfl (S_not rfl (.tmp rfl)) ?_
  refine AL_nil ?_
  refine AC_cond (.tmp rfl) (fun hb1 => ?_) (fun hb1 => ?_)
  · simp at hb1; done
  try simp only [zA, zO, zN, zM, zP, zQ, zD, zF, gd] at hb1
  refine AC_skip ?_
  refine AC_seq ?_
  refine AC_seq ?_
  refine AC_region ?_
  refine AL_p rfl rfl (S_move rfl (.tmp rfl)) ?_
  refine AL_p rfl rfl (S_pcall rfl (AEvs.cons (.tmp rfl) AEvs.nil) (law_right_ok a ha)) ?_
  refine AL_p rfl rfl (S_not rfl (.tmp rfl)) ?_
  refine AL_p rfl rfl (S_move rfl (.tmp rfl)) ?_
  refine AL_g rfl rfl (.tmp rfl) rfl (fun hg2 => S_move rfl (.tmp rfl)) ?_
  refine AL_g rfl rfl (.tmp rfl) rfl (fun hg5 => S_pcall rfl (AEvs.cons (AEv.cond (.tmp rfl) (by first | assumption | exact gdAnd (by assumption) (by assumption))) AEvs.nil) (law_right_ok b hb)) ?_
  refine AL_g rfl rfl (.tmp rfl) rfl (fun hg8 => S_not rfl (AEv.cond (.tmp rfl) (by first | assumption | exact gdAnd (by assumption) (by assumption)))) ?_
  refine AL_p rfl rfl (S_or rfl (.tmp rfl) (fun hp11 => (AEv.cond (.tmp rfl) (by first | assumption | exact gdT hp11 | exact gdF hp11 | exact gdAnd (by assumption) (gdT hp11) | exact gdAnd (by assumption) (gdF hp11))))) ?_
  refine AL_p rfl rfl (S_move rfl (.tmp rfl)) ?_
  refine AL_g rfl rfl (.tmp rfl) rfl (fun hg12 => S_move rfl (.tmp rfl)) ?_
  refine AL_g rfl rfl (.tmp rfl) rfl (fun hg15 => S_pcall rfl (AEvs.cons (AEv.cond (.tmp rfl) (by first | assumption | exact gdAnd (by assumption) (by assumption))) AEvs.nil) (law_right_ok l hl)) ?_
  refine AL_g rfl rfl (.tmp rfl) rfl (fun hg18 => S_not rfl (AEv.cond (.tmp rfl) (by first | assumption | exact gdAnd (by assumption) (by assumption)))) ?_
  refine AL_p rfl rfl (S_or rfl (.tmp rfl) (fun hp21 => (AEv.cond (.tmp rfl) (by first | assumption | exact gdT hp21 | exact gdF hp21 | exact gdAnd (by assumption) (gdT hp21) | exact gdAnd (by assumption) (gdF hp21))))) ?_
  refine AL_nil ?_
  refine AC_cond (.tmp rfl) (fun hb22 => ?_) (fun hb22 => ?_)
  · try simp only [zA, zO, zN, zM, zP, zQ, zD, zF, gd] at hb22
    refine AC_seq ?_
    refine AC_region ?_
    refine AL_p rfl rfl (S_assign rfl (AEv.const _)) ?_
    refine AL_nil ?_
    refine AC_ret ?_
    refine ret_tmp st rfl rfl (Sub.l (List.Sublist.refl _)) (Conv.refl (Sub.l (List.Sublist.refl _)) _) ⟨rfl, rfl⟩ (.inl rfl)
  try simp only [zA, zO, zN, zM, zP, zQ, zD, zF, gd] at hb22
  have hra : labelsE selN a = none := (well_labels _ _).code.1 (by simpa using hb22.1.1)
  have hrb : labelsE selN b = none := (well_labels _ _).code.1 (by simpa using hb22.1.2)
  have hrl : labelsE selN l = none := (well_labels _ _).code.1 (by simpa using hb22.2)
  have la := right_len hra
  have lb := right_len hrb
  have ll := right_len hrl
  have lm := mergeV_len a b
  refine AC_skip ?_
  refine AC_seq ?_
  refine AC_region ?_
  refine AL_p rfl rfl (S_move rfl (.tmp rfl)) ?_
  refine AL_p rfl rfl (S_move rfl (.tmp rfl)) ?_
  refine AL_p rfl rfl (S_pcall rfl (AEvs.cons (.tmp rfl) (AEvs.cons (.tmp rfl) AEvs.nil)) ((sel_Merge_ok a b (by omega) (by omega)).of_eq (mergeAV_eq a b))) ?_
  refine AL_p rfl rfl (S_move rfl (.tmp rfl)) ?_
  refine AL_p rfl rfl (S_extract 0 rfl (.tmp rfl) rfl) ?_
  refine AL_p rfl rfl (S_extract 1 rfl (.tmp rfl) rfl) ?_
  refine AL_p rfl rfl (S_assign rfl (.tmp rfl)) ?_
  refine AL_p rfl rfl (S_assign rfl (.tmp rfl)) ?_
  refine AL_nil ?_
  refine AC_seq ?_
  refine AC_region ?_
  refine AL_p rfl rfl (S_move rfl (.tmp rfl)) ?_
  refine AL_p rfl rfl (S_move rfl (.tmp rfl)) ?_
  refine AL_p rfl rfl (S_pcall rfl (AEvs.cons (.tmp rfl) (AEvs.cons (.tmp rfl) AEvs.nil)) (sel_Fits_ok a l (by omega) (by omega))) ?_
  refine AL_p rfl rfl (S_move rfl (.tmp rfl)) ?_
  refine AL_g rfl rfl (.tmp rfl) rfl (fun hg23 => S_move rfl (.tmp rfl)) ?_
  refine AL_g rfl rfl (.tmp rfl) rfl (fun hg26 => S_move rfl (.tmp rfl)) ?_
  refine AL_g rfl rfl (.tmp rfl) rfl (fun hg29 => S_pcall rfl (AEvs.cons (AEv.cond (.tmp rfl) (by first | assumption | exact gdAnd (by assumption) (by assumption))) (AEvs.cons (AEv.cond (.tmp rfl) (by first | assumption | exact gdAnd (by assumption) (by assumption))) AEvs.nil)) (sel_Fits_ok b l (by omega) (by omega))) ?_
  refine AL_p rfl rfl (S_and rfl (.tmp rfl) (fun hp32 => (AEv.cond (.tmp rfl) (by first | assumption | exact gdT hp32 | exact gdF hp32 | exact gdAnd (by assumption) (gdT hp32) | exact gdAnd (by assumption) (gdF hp32))))) ?_
  refine AL_p rfl rfl (S_assign rfl (.tmp rfl)) ?_
  refine AL_nil ?_
  refine AC_seq ?_
  refine AC_seq ?_
  refine AC_region ?_
  refine AL_p rfl rfl (S_move rfl (.tmp rfl)) ?_
  refine AL_p rfl rfl (S_not rfl (.tmp rfl)) ?_
  refine AL_nil ?_
  refine AC_cond (.tmp rfl) (fun hb33 => ?_) (fun hb33 => ?_)
  · try simp only [zA, zO, zN, zM, zP, zQ, zD, zF, gd] at hb33
    have hno := both_no (a := a) (b := b) (labels_out hrl).2.1 hb33
    refine AC_seq ?_
    refine AC_region ?_
    refine AL_p rfl rfl (S_move rfl (.tmp rfl)) ?_
    refine AL_p rfl rfl (by first | exact S_lenM (e := 52) rfl (.tmp rfl) (by kernel_rfl) | exact S_len (e := 52) rfl (.tmp rfl) (by kernel_rfl)) ?_
    refine AL_p rfl rfl (S_eql rfl (.tmp rfl) (AEv.const _)) ?_
    refine AL_p rfl rfl (S_move rfl (.tmp rfl)) ?_
    refine AL_g rfl rfl (.tmp rfl) rfl (fun hg34 => S_move rfl (.tmp rfl)) ?_
    refine AL_g rfl rfl (.tmp rfl) rfl (fun hg37 => S_not rfl (AEv.cond (.tmp rfl) (by first | assumption | exact gdAnd (by assumption) (by assumption)))) ?_
    refine AL_p rfl rfl (S_and rfl (.tmp rfl) (fun hp40 => (AEv.cond (.tmp rfl) (by first | assumption | exact gdT hp40 | exact gdF hp40 | exact gdAnd (by assumption) (gdT hp40) | exact gdAnd (by assumption) (gdF hp40))))) ?_
    refine AL_p rfl rfl (S_assign rfl (.tmp rfl)) ?_
    refine AL_nil ?_
    refine AC_ret ?_
    refine ret_tmp st rfl rfl (Sub.l (List.Sublist.refl _)) (Conv.refl (Sub.l (List.Sublist.refl _)) _) ⟨congrArg AV.bool hno, rfl⟩ (.inl rfl)
  try simp only [zA, zO, zN, zM, zP, zQ, zD, zF, gd] at hb33
  obtain ⟨y1, y2, y3⟩ := both_yes (l := l) (a := a) (b := b) hb33
  refine AC_skip ?_
  refine AC_seq ?_
  refine AC_region ?_
  refine AL_p rfl rfl (S_move rfl (.tmp rfl)) ?_
  refine AL_p rfl rfl (S_move rfl (.tmp rfl)) ?_
  refine AL_p rfl rfl (S_pcall rfl (AEvs.cons (.tmp rfl) (AEvs.cons (.tmp rfl) AEvs.nil)) (sel_Fits_ok (mergeV a b).1 l (by omega) (by omega))) ?_
  refine AL_p rfl rfl (S_move rfl (.tmp rfl)) ?_
  refine AL_p rfl rfl (S_eqB rfl (.tmp rfl) (.tmp rfl) (by kernel_rfl)) ?_
  refine AL_p rfl rfl (S_move rfl (.tmp rfl)) ?_
  refine AL_g rfl rfl (.tmp rfl) rfl (fun hg41 => S_move rfl (.tmp rfl)) ?_
  refine AL_g rfl rfl (.tmp rfl) rfl (fun hg44 => S_move rfl (.tmp rfl)) ?_
  refine AL_g rfl rfl (.tmp rfl) rfl (fun hg47 => S_pcall rfl (AEvs.cons (AEv.cond (.tmp rfl) (by first | assumption | exact gdAnd (by assumption) (by assumption))) (AEvs.cons (AEv.cond (.tmp rfl) (by first | assumption | exact gdAnd (by assumption) (by assumption))) AEvs.nil)) (sel_Fits_ok a (mergeV a b).1 (by omega) (by omega))) ?_
  refine AL_p rfl rfl (S_and rfl (.tmp rfl) (fun hp50 => (AEv.cond (.tmp rfl) (by first | assumption | exact gdT hp50 | exact gdF hp50 | exact gdAnd (by assumption) (gdT hp50) | exact gdAnd (by assumption) (gdF hp50))))) ?_
  refine AL_p rfl rfl (S_move rfl (.tmp rfl)) ?_
  refine AL_g rfl rfl (.tmp rfl) rfl (fun hg51 => S_move rfl (.tmp rfl)) ?_
  refine AL_g rfl rfl (.tmp rfl) rfl (fun hg54 => S_move rfl (.tmp rfl)) ?_
  refine AL_g rfl rfl (.tmp rfl) rfl (fun hg57 => S_pcall rfl (AEvs.cons (AEv.cond (.tmp rfl) (by first | assumption | exact gdAnd (by assumption) (by assumption))) (AEvs.cons (AEv.cond (.tmp rfl) (by first | assumption | exact gdAnd (by assumption) (by assumption))) AEvs.nil)) (sel_Fits_ok b (mergeV a b).1 (by omega) (by omega))) ?_
  refine AL_p rfl rfl (S_and rfl (.tmp rfl) (fun hp60 => (AEv.cond (.tmp rfl) (by first | assumption | exact gdT hp60 | exact gdF hp60 | exact gdAnd (by assumption) (gdT hp60) | exact gdAnd (by assumption) (gdF hp60))))) ?_
  refine AL_p rfl rfl (S_move rfl (.tmp rfl)) ?_
  refine AL_g rfl rfl (.tmp rfl) rfl (fun hg61 => S_move rfl (.tmp rfl)) ?_
  refine AL_g rfl rfl (.tmp rfl) rfl (fun hg64 => S_move rfl (.tmp rfl)) ?_
  refine AL_g rfl rfl (.tmp rfl) rfl (fun hg67 => S_pcall rfl (AEvs.cons (AEv.cond (.tmp rfl) (by first | assumption | exact gdAnd (by assumption) (by assumption))) (AEvs.cons (AEv.cond (.tmp rfl) (by first | assumption | exact gdAnd (by assumption) (by assumption))) AEvs.nil)) (sel_Covers_ok a (mergeV a b).1 (by omega) (by omega))) ?_
  refine AL_p rfl rfl (S_and rfl (.tmp rfl) (fun hp70 => (AEv.cond (.tmp rfl) (by first | assumption | exact gdT hp70 | exact gdF hp70 | exact gdAnd (by assumption) (gdT hp70) | exact gdAnd (by assumption) (gdF hp70))))) ?_
  refine AL_p rfl rfl (S_assign rfl (.tmp rfl)) ?_
  refine AL_nil ?_
  refine AC_ret ?_
  refine ret_tmp st rfl rfl (Sub.l (List.Sublist.refl _)) (Conv.refl (Sub.l (List.Sublist.refl _)) _) ⟨congrArg AV.bool (by rw [y1, y2, y3]; simp), rfl⟩ (.inl rfl)

end Go.Proofs.YtdljfalidkpfoaaDoor

/-
The walks of Go functions in the logic AL: what each of them answers.
Conditions: those of each theorem.
-/
set_option linter.unusedVariables false
set_option linter.unusedSimpArgs false
namespace Go.Proofs.YtdljfalidkpfoaaDoor
open Go.AL Go.NumSpec

set_option maxRecDepth 100000 in
/-- provost/provostlaw11.SelBack -/
theorem law_SelBack (l : List Lab) (s : List UInt8) (hl : ∀ x ∈ l, x.1.length ≤ 9223372036854775807 ∧ x.2.length ≤ 9223372036854775807) : GCalls Tryd.prog tabs 4 [.sl (labsV l), .S s] (.bool true) := by
  intro st hG
  refine ACalls_of (N := 48) Tryd.func4 (by kernel_rfl) rfl rfl rfl ?_
  refine AC_seq ?_
  refine AC_region ?_
  refine AL_p rfl rfl (S_assign rfl (AEv.const _)) ?_
  refine AL_nil ?_
  refine AC_seq ?_
  refine AC_seq ?_
  refine AC_region ?_
  refine AL_p rfl rfl (S_gcall rfl AEvs.nil ((law_works) _ (fun p hp => by first | exact hG p hp | (simp [hG p hp]; done)))) ?_
  refine AL_p rfl rfl (S_not rfl (.tmp rfl)) ?_
  refine AL_nil ?_
  refine AC_cond (.tmp rfl) (fun hb1 => ?_) (fun hb1 => ?_)
  · simp at hb1; done
  try simp only [zA, zO, zN, zM, zP, zQ, zD, zF, gd] at hb1
  refine AC_skip ?_
  refine AC_joinK (G := Unit) [(0, _), (1, _)] (fun _ => True) (fun _ => []) (fun _ => st) (.cons rfl (Le.refl _) (.cons rfl (Le.refl _) .nil)) ?_ ?_
  · refine AC_seq ?_
    refine AC_region ?_
    refine AL_p rfl rfl (S_move rfl (.tmp rfl)) ?_
    refine AL_p rfl rfl (S_pcall rfl (AEvs.cons (.tmp rfl) AEvs.nil) (law_right_ok l hl)) ?_
    refine AL_nil ?_
    refine AC_cond (.tmp rfl) (fun hb2 => ?_) (fun hb2 => ?_)
    · try simp only [zA, zO, zN, zM, zP, zQ, zD, zF, gd] at hb2
      have hr : labelsE selN l = none := (well_labels _ _).code.1 (by simpa using hb2)
      have hrl := right_len hr
      have hk := (labels_out hr).2.2
      have hls : ∀ x ∈ l, x.1.length ≤ 33 ∧ x.2.length ≤ 33 := fun x hx => ⟨key_short (hk x hx).1, by have := val_short (hk x hx).2; omega⟩
      have hst := selT_len hls
      refine AC_seq ?_
      refine AC_region ?_
      refine AL_p rfl rfl (S_move rfl (.tmp rfl)) ?_
      refine AL_p rfl rfl (S_pcall rfl (AEvs.cons (.tmp rfl) AEvs.nil) (sel_Text_ok l (by omega) (fun x hx => ⟨by have := (hls x hx).1; omega, by have := (hls x hx).2; omega⟩))) ?_
      refine AL_p rfl rfl (S_gcall rfl (AEvs.cons (.tmp rfl) AEvs.nil) ((GCalls.of_eq (sel_Parse_ok (selT l) (by omega)) (congrArg parseAV (parse_text hr))) _ (fun p hp => by first | exact hG p hp | (simp [hG p hp]; done)))) ?_
      refine AL_p rfl rfl (S_move rfl (.tmp rfl)) ?_
      refine AL_p rfl rfl (S_extract 0 rfl (.tmp rfl) rfl) ?_
      refine AL_p rfl rfl (S_extract 1 rfl (.tmp rfl) rfl) ?_
      refine AL_p rfl rfl (S_assign rfl (.tmp rfl)) ?_
      refine AL_p rfl rfl (S_assign rfl (.tmp rfl)) ?_
      refine AL_nil ?_
      refine AC_seq ?_
      refine AC_region ?_
      refine AL_p rfl rfl (S_move rfl (.tmp rfl)) ?_
      refine AL_p rfl rfl (S_neq rfl (.tmp rfl) (AEv.const _)) ?_
      refine AL_p rfl rfl (S_move rfl (.tmp rfl)) ?_
      refine AL_g rfl rfl (.tmp rfl) rfl (fun hg3 => S_move rfl (.tmp rfl)) ?_
      refine AL_g rfl rfl (.tmp rfl) rfl (fun hg6 => S_move rfl (.tmp rfl)) ?_
      refine AL_g rfl rfl (.tmp rfl) rfl (fun hg9 => S_pcall rfl (AEvs.cons (AEv.cond (.tmp rfl) (by first | assumption | exact gdAnd (by assumption) (by assumption))) (AEvs.cons (AEv.cond (.tmp rfl) (by first | assumption | exact gdAnd (by assumption) (by assumption))) AEvs.nil)) (book_SameLabels_ok l l (by omega) (by omega))) ?_
      refine AL_g rfl rfl (.tmp rfl) rfl (fun hg12 => S_not rfl (AEv.cond (.tmp rfl) (by first | assumption | exact gdAnd (by assumption) (by assumption)))) ?_
      refine AL_p rfl rfl (S_or rfl (.tmp rfl) (fun hp15 => (AEv.cond (.tmp rfl) (by first | assumption | exact gdT hp15 | exact gdF hp15 | exact gdAnd (by assumption) (gdT hp15) | exact gdAnd (by assumption) (gdF hp15))))) ?_
      refine AL_nil ?_
      refine AC_cond (.tmp rfl) (fun hb16 => ?_) (fun hb16 => ?_)
      · simp at hb16; done
      try simp only [zA, zO, zN, zM, zP, zQ, zD, zF, gd] at hb16
      refine AC_skip ?_
      exact ⟨(), trivial, (Sub.l (List.Sublist.refl _)), .nil, (.cons rfl (Le.refl _) (.cons rfl (Le.refl _) .nil))⟩
    try simp only [zA, zO, zN, zM, zP, zQ, zD, zF, gd] at hb2
    refine AC_skip ?_
    exact ⟨(), trivial, (Sub.l (List.Sublist.refl _)), .nil, (.cons rfl (Le.refl _) (.cons rfl (Le.refl _) .nil))⟩
  rintro _ _
  try dsimp only
  simp only [List.cons_append, List.nil_append]
  refine AC_seq ?_
  refine AC_seq ?_
  refine AC_region ?_
  refine AL_p rfl rfl (S_move rfl (.tmp rfl)) ?_
  refine AL_p rfl rfl (S_lenS (ts := #[]) rfl (.tmp rfl) (by kernel_rfl)) ?_
  refine AL_p rfl rfl (S_gtr rfl (.tmp rfl) (AEv.const _)) ?_
  refine AL_nil ?_
  refine AC_cond (.tmp rfl) (fun hb17 => ?_) (fun hb17 => ?_)
  · try simp only [zA, zO, zN, zM, zP, zQ, zD, zF, gd] at hb17
    refine AC_seq ?_
    refine AC_region ?_
    refine AL_p rfl rfl (S_assign rfl (AEv.const _)) ?_
    refine AL_nil ?_
    refine AC_ret ?_
    refine ret_tmp st rfl rfl (Sub.l (List.Sublist.refl _)) (Conv.refl (Sub.l (List.Sublist.refl _)) _) ⟨rfl, rfl⟩ (.inl rfl)
  try simp only [zA, zO, zN, zM, zP, zQ, zD, zF, gd] at hb17
  have hs2 : s.length ≤ 2000 := by omega
  refine AC_skip ?_
  refine AC_seq ?_
  refine AC_region ?_
  refine AL_p rfl rfl (S_move rfl (.tmp rfl)) ?_
  refine AL_p rfl rfl (S_gcall rfl (AEvs.cons (.tmp rfl) AEvs.nil) ((sel_Parse_ok s (by omega)) _ (fun p hp => by first | exact hG p hp | (simp [hG p hp]; done)))) ?_
  refine AL_p rfl rfl (S_move rfl (.tmp rfl)) ?_
  refine AL_p rfl rfl (S_extract 0 rfl (.tmp rfl) rfl) ?_
  refine AL_p rfl rfl (S_extract 1 rfl (.tmp rfl) rfl) ?_
  refine AL_p rfl rfl (S_assign rfl (.tmp rfl)) ?_
  refine AL_p rfl rfl (S_assign rfl (.tmp rfl)) ?_
  refine AL_nil ?_
  refine AC_seq ?_
  refine AC_seq ?_
  refine AC_region ?_
  refine AL_p rfl rfl (S_move rfl (.tmp rfl)) ?_
  refine AL_p rfl rfl (S_neq rfl (.tmp rfl) (AEv.const _)) ?_
  refine AL_nil ?_
  refine AC_cond (.tmp rfl) (fun hb18 => ?_) (fun hb18 => ?_)
  · try simp only [zA, zO, zN, zM, zP, zQ, zD, zF, gd] at hb18
    have hx := parse_fail (s := s) hb18
    refine AC_seq ?_
    refine AC_region ?_
    refine AL_p rfl rfl (S_move rfl (.tmp rfl)) ?_
    refine AL_p rfl rfl (by first | exact S_lenM (e := 52) rfl (.tmp rfl) (by kernel_rfl) | exact S_len (e := 52) rfl (.tmp rfl) (by kernel_rfl)) ?_
    refine AL_p rfl rfl (S_eql rfl (.tmp rfl) (AEv.const _)) ?_
    refine AL_p rfl rfl (S_assign rfl (.tmp rfl)) ?_
    refine AL_nil ?_
    refine AC_ret ?_
    refine ret_tmp st rfl rfl (Sub.l (List.Sublist.refl _)) (Conv.refl (Sub.l (List.Sublist.refl _)) _) ⟨congrArg AV.bool (by rw [hx]; rfl), rfl⟩ (.inl rfl)
  try simp only [zA, zO, zN, zM, zP, zQ, zD, zF, gd] at hb18
  have hp0 : (parseS s).2 = 0 := by simpa using hb18
  obtain ⟨hq1, hq2⟩ := text_parse hp0
  have hpl := parse_len (s := s) (n := 2000) hs2
  have hp1 := hpl.1
  refine AC_skip ?_
  refine AC_seq ?_
  refine AC_region ?_
  refine AL_p rfl rfl (S_move rfl (.tmp rfl)) ?_
  refine AL_p rfl rfl (S_pcall rfl (AEvs.cons (.tmp rfl) AEvs.nil) (law_right_ok (parseS s).1 (fun x hx => ⟨by have := (hpl.2 x hx).1; omega, by have := (hpl.2 x hx).2; omega⟩))) ?_
  refine AL_p rfl rfl (S_move rfl (.tmp rfl)) ?_
  refine AL_g rfl rfl (.tmp rfl) rfl (fun hg19 => S_move rfl (.tmp rfl)) ?_
  refine AL_g rfl rfl (.tmp rfl) rfl (fun hg22 => S_pcall rfl (AEvs.cons (AEv.cond (.tmp rfl) (by first | assumption | exact gdAnd (by assumption) (by assumption))) AEvs.nil) (sel_Text_ok (parseS s).1 (by omega) (fun x hx => ⟨by have := (hpl.2 x hx).1; omega, by have := (hpl.2 x hx).2; omega⟩))) ?_
  refine AL_g rfl rfl (.tmp rfl) rfl (fun hg25 => S_move rfl (.tmp rfl)) ?_
  refine AL_g rfl rfl (.tmp rfl) rfl (fun hg28 => S_eqS rfl (AEv.cond (.tmp rfl) (by first | assumption | exact gdAnd (by assumption) (by assumption))) (AEv.cond (.tmp rfl) (by first | assumption | exact gdAnd (by assumption) (by assumption)))) ?_
  refine AL_p rfl rfl (S_and rfl (.tmp rfl) (fun hp31 => (AEv.cond (.tmp rfl) (by first | assumption | exact gdT hp31 | exact gdF hp31 | exact gdAnd (by assumption) (gdT hp31) | exact gdAnd (by assumption) (gdF hp31))))) ?_
  refine AL_p rfl rfl (S_assign rfl (.tmp rfl)) ?_
  refine AL_nil ?_
  refine AC_ret ?_
  refine ret_tmp st rfl rfl (Sub.l (List.Sublist.refl _)) (Conv.refl (Sub.l (List.Sublist.refl _)) _) ⟨congrArg AV.bool (by rw [hq1, hq2]; simp), rfl⟩ (.inl rfl)

end Go.Proofs.YtdljfalidkpfoaaDoor

/-
The walks of Go functions in the logic AL: what each of them answers.
Conditions: those of each theorem.
-/
set_option linter.unusedVariables false
set_option linter.unusedSimpArgs false
namespace Go.Proofs.YtdljfalidkpfoaaDoor
open Go.AL Go.NumSpec

set_option maxRecDepth 100000 in
/-- provost/provostref11.Text -/
theorem ref11_Text_ok (l : List Lab) (hl : l.length ≤ 1000000) (hls : ∀ x ∈ l, x.1.length ≤ 1000000 ∧ x.2.length ≤ 1000000) : PCalls Tryd.prog 14 [.sl (labsV l)] (.S (selT l)) := by
  intro st
  refine ACalls_of (N := 30) Tryd.func14 (by kernel_rfl) rfl rfl rfl ?_
  refine AC_seq ?_
  refine AC_region ?_
  refine AL_p rfl rfl (S_assign rfl (AEv.S _)) ?_
  refine AL_nil ?_
  refine AC_seq ?_
  refine AC_region ?_
  refine AL_p rfl rfl (S_assign rfl (AEv.S _)) ?_
  refine AL_nil ?_
  refine AC_seq ?_
  refine AC_seq ?_
  refine AC_region ?_
  refine AL_p rfl rfl (S_assign rfl (AEv.const _)) ?_
  refine AL_nil ?_
  refine AC_block ?_
  refine AC_loopK (G := Nat) [(0, _), (2, _)] (fun g => g ≤ l.length) (fun g => [(3, .S (joinC (l.map labT) g)), (4, .int .i64 (g : Int))]) (fun g => st) (fun g => l.length - g) (0) (Nat.zero_le _) (Sub.l (List.Sublist.refl _)) (.cons rfl (Le.refl _) (.cons rfl (Le.refl _) .nil)) (.cons rfl (Le.of_eq (congrArg AV.S (joinC_zero _).symm)) (.cons rfl (by first | exact Le.refl _ | exact Le.nils | exact Le.row _ _ _ _ | exact Le.of_eq (by first | rfl | (simp; done) | (push_cast; rfl) | (simp; omega))) .nil)) ?_
  rintro i hi
  try dsimp only
  simp only [List.cons_append, List.nil_append]
  refine AC_seq ?_
  refine AC_seq ?_
  refine AC_region ?_
  refine AL_p rfl rfl (S_move rfl (.tmp rfl)) ?_
  refine AL_p rfl rfl (S_move rfl (.tmp rfl)) ?_
  refine AL_p rfl rfl (by first | exact S_lenM (e := 52) rfl (.tmp rfl) (by kernel_rfl) | exact S_len (e := 52) rfl (.tmp rfl) (by kernel_rfl)) ?_
  refine AL_p rfl rfl (S_lss rfl (.tmp rfl) (.tmp rfl)) ?_
  refine AL_nil ?_
  refine AC_cond (.tmp rfl) (fun hb1 => ?_) (fun hb1 => ?_)
  · try simp only [zA, zO, zN, zM, zP, zQ, zD, zF, gd] at hb1
    have hil : i < l.length := by omega
    have hj0 := joinC_len hls i
    have hlm : l.length * (2 * 1000000 + 2) ≤ 2000002000000 := by omega
    have hlx := hls _ (List.getElem_mem hil)
    refine AC_skip ?_
    refine AC_seq ?_
    refine AC_block ?_
    refine AC_seq ?_
    refine AC_seq ?_
    refine AC_region ?_
    refine AL_p rfl rfl (S_move rfl (.tmp rfl)) ?_
    refine AL_p rfl rfl (S_gtr rfl (.tmp rfl) (AEv.const _)) ?_
    refine AL_nil ?_
    refine AC_cond (.tmp rfl) (fun hb2 => ?_) (fun hb2 => ?_)
    · try simp only [zA, zO, zN, zM, zP, zQ, zD, zF, gd] at hb2
      have he := joinC_lab (l := l) (i := i) (by omega) hil
      refine AC_region ?_
      refine AL_p rfl rfl (S_move rfl (.tmp rfl)) ?_
      refine AL_p rfl rfl (S_cat rfl (.tmp rfl) (AEv.S _) (by first | omega | (simp only [List.length_append, List.length_cons, List.length_nil]; omega))) ?_
      refine AL_p rfl rfl (S_assign rfl (.tmp rfl)) ?_
      refine AL_nil ?_
      refine AC_draw (by kernel_rfl) (by kernel_rfl) (.cons rfl (Q_p rfl (S_move rfl (.tmp rfl))) <|
          .cons rfl (Q_p rfl (S_move rfl (.tmp rfl))) <|
          .cons rfl (Q_p rfl (S_move rfl (.tmp rfl))) <|
          .cons rfl (Q_p rfl (S_elemN (e := 52) 2 rfl (.tmp rfl) (.tmp rfl) (by kernel_rfl) (by kernel_rfl) (by omega) (fun _ => rfl))) <|
          .cons rfl (Q_p rfl (S_fieldP 0 rfl (.tmp rfl) (by kernel_rfl))) <|
          .cons rfl (Q_p rfl (S_loadP rfl (.tmp rfl) rfl (by kernel_rfl))) <|
          .cons rfl (Q_p rfl (S_cat rfl (.tmp rfl) (.tmp rfl) (by first | omega | (simp only [List.length_append, List.length_cons, List.length_nil]; omega)))) <|
          .cons rfl (Q_p rfl (S_cat rfl (.tmp rfl) (AEv.S _) (by first | omega | (simp only [List.length_append, List.length_cons, List.length_nil]; omega)))) <|
          .cons rfl (Q_p rfl (S_move rfl (.tmp rfl))) <|
          .cons rfl (Q_p rfl (S_move rfl (.tmp rfl))) <|
          .cons rfl (Q_p rfl (S_elemN (e := 52) 2 rfl (.tmp rfl) (.tmp rfl) (by kernel_rfl) (by kernel_rfl) (by omega) (fun _ => rfl))) <|
          .cons rfl (Q_p rfl (S_fieldP 1 rfl (.tmp rfl) (by kernel_rfl))) <|
          .cons rfl (Q_p rfl (S_loadP rfl (.tmp rfl) rfl (by kernel_rfl))) <|
          .cons rfl (Q_p rfl (S_cat rfl (.tmp rfl) (.tmp rfl) (by first | omega | (simp only [List.length_append, List.length_cons, List.length_nil]; omega)))) <|
          .cons rfl (Q_p rfl (S_assign rfl (.tmp rfl))) <|
          .nil) ?_
      refine AC_region ?_
      refine AL_p rfl rfl (S_move rfl (.tmp rfl)) ?_
      refine AL_p rfl rfl (S_addI rfl (.tmp rfl) (AEv.const _) (by omega) (by omega)) ?_
      refine AL_p rfl rfl (S_assign rfl (.tmp rfl)) ?_
      refine AL_nil ?_
      exact ⟨i + 1, by omega, by omega, (Sub.l (List.Sublist.refl _)), (.cons rfl (Le.of_eq (congrArg AV.S he.symm)) (.cons rfl (by first | exact Le.refl _ | exact Le.nils | exact Le.row _ _ _ _ | exact Le.of_eq (by first | rfl | (simp; done) | (push_cast; rfl) | (simp; omega))) .nil)), (.cons rfl (Le.refl _) (.cons rfl (Le.refl _) .nil))⟩
    try simp only [zA, zO, zN, zM, zP, zQ, zD, zF, gd] at hb2
    have he := joinC_lab0 (l := l) (i := i) (by omega) hil
    refine AC_skip ?_
    refine AC_draw (by kernel_rfl) (by kernel_rfl) (.cons rfl (Q_p rfl (S_move rfl (.tmp rfl))) <|
        .cons rfl (Q_p rfl (S_move rfl (.tmp rfl))) <|
        .cons rfl (Q_p rfl (S_move rfl (.tmp rfl))) <|
        .cons rfl (Q_p rfl (S_elemN (e := 52) 2 rfl (.tmp rfl) (.tmp rfl) (by kernel_rfl) (by kernel_rfl) (by omega) (fun _ => rfl))) <|
        .cons rfl (Q_p rfl (S_fieldP 0 rfl (.tmp rfl) (by kernel_rfl))) <|
        .cons rfl (Q_p rfl (S_loadP rfl (.tmp rfl) rfl (by kernel_rfl))) <|
        .cons rfl (Q_p rfl (S_cat rfl (.tmp rfl) (.tmp rfl) (by first | omega | (simp only [List.length_append, List.length_cons, List.length_nil]; omega)))) <|
        .cons rfl (Q_p rfl (S_cat rfl (.tmp rfl) (AEv.S _) (by first | omega | (simp only [List.length_append, List.length_cons, List.length_nil]; omega)))) <|
        .cons rfl (Q_p rfl (S_move rfl (.tmp rfl))) <|
        .cons rfl (Q_p rfl (S_move rfl (.tmp rfl))) <|
        .cons rfl (Q_p rfl (S_elemN (e := 52) 2 rfl (.tmp rfl) (.tmp rfl) (by kernel_rfl) (by kernel_rfl) (by omega) (fun _ => rfl))) <|
        .cons rfl (Q_p rfl (S_fieldP 1 rfl (.tmp rfl) (by kernel_rfl))) <|
        .cons rfl (Q_p rfl (S_loadP rfl (.tmp rfl) rfl (by kernel_rfl))) <|
        .cons rfl (Q_p rfl (S_cat rfl (.tmp rfl) (.tmp rfl) (by first | omega | (simp only [List.length_append, List.length_cons, List.length_nil]; omega)))) <|
        .cons rfl (Q_p rfl (S_assign rfl (.tmp rfl))) <|
        .nil) ?_
    refine AC_region ?_
    refine AL_p rfl rfl (S_move rfl (.tmp rfl)) ?_
    refine AL_p rfl rfl (S_addI rfl (.tmp rfl) (AEv.const _) (by omega) (by omega)) ?_
    refine AL_p rfl rfl (S_assign rfl (.tmp rfl)) ?_
    refine AL_nil ?_
    exact ⟨i + 1, by omega, by omega, (Sub.l (List.Sublist.refl _)), (.cons rfl (Le.of_eq (congrArg AV.S he.symm)) (.cons rfl (by first | exact Le.refl _ | exact Le.nils | exact Le.row _ _ _ _ | exact Le.of_eq (by first | rfl | (simp; done) | (push_cast; rfl) | (simp; omega))) .nil)), (.cons rfl (Le.refl _) (.cons rfl (Le.refl _) .nil))⟩
  try simp only [zA, zO, zN, zM, zP, zQ, zD, zF, gd] at hb1
  have hx := joinC_all (l := l) (i := i) (by omega)
  refine AC_exit ?_
  refine AC_seq ?_
  refine AC_region ?_
  refine AL_p rfl rfl (S_move rfl (.tmp rfl)) ?_
  refine AL_p rfl rfl (S_assign rfl (.tmp rfl)) ?_
  refine AL_nil ?_
  refine AC_ret ?_
  refine ret_tmp st rfl rfl (Sub.l (List.Sublist.refl _)) (Conv.refl (Sub.l (List.Sublist.refl _)) _) ⟨congrArg AV.S hx, rfl⟩ (.inl rfl)

set_option maxRecDepth 100000 in
/-- provost/provostref11.Parse -/
theorem ref11_Parse_ok (s : List UInt8) (hs : s.length ≤ 100000) : PCalls Tryd.prog 12 [.S s] (parseAV (parseS s)) := by
  intro st
  refine ACalls_of (N := 67) Tryd.func12 (by kernel_rfl) rfl rfl rfl ?_
  refine AC_seq ?_
  refine AC_region ?_
  refine AL_p rfl rfl (S_assign rfl (AEv.const _)) ?_
  refine AL_p rfl rfl (S_assign rfl (AEv.const _)) ?_
  refine AL_nil ?_
  refine AC_seq ?_
  refine AC_seq ?_
  refine AC_region ?_
  refine AL_p rfl rfl (S_move rfl (.tmp rfl)) ?_
  refine AL_p rfl rfl (S_eqS rfl (.tmp rfl) (AEv.S _)) ?_
  refine AL_nil ?_
  refine AC_cond (.tmp rfl) (fun hb1 => ?_) (fun hb1 => ?_)
  · try simp only [zA, zO, zN, zM, zP, zQ, zD, zF, gd] at hb1
    have hx := parse_nil hb1
    refine AC_seq ?_
    refine AC_region ?_
    refine AL_p rfl rfl (S_assign rfl (AEv.const _)) ?_
    refine AL_p rfl rfl (S_assign rfl (AEv.const _)) ?_
    refine AL_nil ?_
    refine AC_ret ?_
    refine ret_tmps (ts := [2, 3]) st rfl (by decide) rfl (Sub.l (List.Sublist.refl _)) (Conv.le (Sub.l (List.Sublist.refl _)) (Les.tup (.cons Le.nils (.cons (Le.refl _) .nil)))) ⟨by rw [hx]; rfl, rfl⟩ (.inl rfl)
  try simp only [zA, zO, zN, zM, zP, zQ, zD, zF, gd] at hb1
  have hne : s ≠ [] := hb1
  refine AC_skip ?_
  refine AC_seq ?_
  refine AC_region ?_
  refine AL_p rfl rfl (S_assign rfl (AEv.const _)) ?_
  refine AL_nil ?_
  refine AC_seq ?_
  refine AC_region ?_
  refine AL_p rfl rfl (S_assign rfl (AEv.S _)) ?_
  refine AL_p rfl rfl (S_assign rfl (AEv.S _)) ?_
  refine AL_p rfl rfl (S_assign rfl (AEv.const _)) ?_
  refine AL_nil ?_
  refine AC_seq ?_
  refine AC_seq ?_
  refine AC_region ?_
  refine AL_p rfl rfl (S_assign rfl (AEv.const _)) ?_
  refine AL_nil ?_
  refine AC_block ?_
  refine AC_loopK (G := Nat × List (List UInt8) × List UInt8 × Own) [(0, _)] (fun g => PI s g.1 g.2.1 g.2.2.1 ∧ g.2.2.2.ok (g.2.1.map (fun q : List UInt8 => labAV (cutL q)))) (fun g => [(4, ownAV g.2.2.2 2 (g.2.1.map (fun q : List UInt8 => labAV (cutL q)))), (5, .S (cutV 61 g.2.2.1).1), (6, .S (cutV 61 g.2.2.1).2.1), (7, .bool (cutV 61 g.2.2.1).2.2), (8, .int .i64 (g.1 : Int))]) (fun g => ownSt g.2.2.2 52 2 (g.2.1.map (fun q : List UInt8 => labAV (cutL q))) ++ st) (fun g => s.length + 1 - g.1) ((0, [], [], .nil)) (⟨pi_start s, rfl⟩) (Sub.l (List.Sublist.refl _)) (.cons rfl (Le.refl _) .nil) (.cons rfl (by first | exact Le.refl _ | exact Le.nils | exact Le.row _ _ _ _ | exact Le.of_eq (by first | rfl | (simp; done) | (push_cast; rfl) | (simp; omega))) (.cons rfl (by first | exact Le.refl _ | exact Le.nils | exact Le.row _ _ _ _ | exact Le.of_eq (by first | rfl | (simp; done) | (push_cast; rfl) | (simp; omega))) (.cons rfl (by first | exact Le.refl _ | exact Le.nils | exact Le.row _ _ _ _ | exact Le.of_eq (by first | rfl | (simp; done) | (push_cast; rfl) | (simp; omega))) (.cons rfl (by first | exact Le.refl _ | exact Le.nils | exact Le.row _ _ _ _ | exact Le.of_eq (by first | rfl | (simp; done) | (push_cast; rfl) | (simp; omega))) (.cons rfl (by first | exact Le.refl _ | exact Le.nils | exact Le.row _ _ _ _ | exact Le.of_eq (by first | rfl | (simp; done) | (push_cast; rfl) | (simp; omega))) .nil))))) ?_
  rintro ⟨i, done, cur, p⟩ ⟨hI, hq⟩
  try dsimp only
  simp only [List.cons_append, List.nil_append]
  dsimp only at hI hq
  obtain ⟨hc1, hc2, hdl, hi1⟩ := pi_cur hI
  refine AC_seq ?_
  refine AC_seq ?_
  refine AC_region ?_
  refine AL_p rfl rfl (S_move rfl (.tmp rfl)) ?_
  refine AL_p rfl rfl (S_move rfl (.tmp rfl)) ?_
  refine AL_p rfl rfl (S_lenS (ts := #[]) rfl (.tmp rfl) (by kernel_rfl)) ?_
  refine AL_p rfl rfl (S_leq rfl (.tmp rfl) (.tmp rfl)) ?_
  refine AL_nil ?_
  refine AC_cond (.tmp rfl) (fun hb2 => ?_) (fun hb2 => ?_)
  · try simp only [zA, zO, zN, zM, zP, zQ, zD, zF, gd] at hb2
    have hil2 : i ≤ s.length := by omega
    refine AC_skip ?_
    refine AC_seq ?_
    refine AC_block ?_
    refine AC_seq ?_
    refine AC_seq ?_
    refine AC_region ?_
    refine AL_p rfl rfl (S_move rfl (.tmp rfl)) ?_
    refine AL_p rfl rfl (S_move rfl (.tmp rfl)) ?_
    refine AL_p rfl rfl (S_lenS (ts := #[]) rfl (.tmp rfl) (by kernel_rfl)) ?_
    refine AL_p rfl rfl (S_lss rfl (.tmp rfl) (.tmp rfl)) ?_
    refine AL_p rfl rfl (S_move rfl (.tmp rfl)) ?_
    refine AL_g rfl rfl (.tmp rfl) rfl (fun hg3 => S_move rfl (.tmp rfl)) ?_
    refine AL_g rfl rfl (.tmp rfl) rfl (fun hg6 => S_move rfl (.tmp rfl)) ?_
    refine AL_g rfl rfl (.tmp rfl) rfl (fun hg9 => S_index rfl (AEv.cond (.tmp rfl) (by first | assumption | exact gdAnd (by assumption) (by assumption))) (AEv.cond (.tmp rfl) (by first | assumption | exact gdAnd (by assumption) (by assumption))) (by kernel_rfl) (by (try simp only [gd, Bool.and_eq_true, Bool.or_eq_true, Bool.not_eq_true', Bool.not_eq_false', decide_eq_true_eq, decide_eq_false_iff_not, Bool.or_eq_false_iff, Bool.and_eq_false_iff] at *); omega) (by (try simp only [gd, Bool.and_eq_true, Bool.or_eq_true, Bool.not_eq_true', Bool.not_eq_false', decide_eq_true_eq, decide_eq_false_iff_not, Bool.or_eq_false_iff, Bool.and_eq_false_iff] at *); omega)) ?_
    refine AL_g rfl rfl (.tmp rfl) rfl (fun hg12 => S_neq rfl (AEv.cond (.tmp rfl) (by first | assumption | exact gdAnd (by assumption) (by assumption))) (AEv.const _)) ?_
    refine AL_p rfl rfl (S_and rfl (.tmp rfl) (fun hp15 => (AEv.cond (.tmp rfl) (by first | assumption | exact gdT hp15 | exact gdF hp15 | exact gdAnd (by assumption) (gdT hp15) | exact gdAnd (by assumption) (gdF hp15))))) ?_
    refine AL_nil ?_
    refine AC_cond (.tmp rfl) (fun hb16 => ?_) (fun hb16 => ?_)
    · try simp only [zA, zO, zN, zM, zP, zQ, zD, zF, gd] at hb16
      have hil : i < s.length := by omega
      have hct : List.drop (i : Int).toNat (List.take ((i : Int) + 1).toNat s) = [(s[i]'hil)] := one_cut hil
      have hcm : (s[i]'hil) ≠ 44 := fun e => hb16.2 ((at44 hil).2 e)
      refine AC_seq ?_
      refine AC_block ?_
      refine AC_seq ?_
      refine AC_region ?_
      refine AL_p rfl rfl (S_move rfl (.tmp rfl)) ?_
      refine AL_p rfl rfl (S_assign rfl (.tmp rfl)) ?_
      refine AL_nil ?_
      refine AC_cond (.tmp rfl) (fun hb17 => ?_) (fun hb17 => ?_)
      · try simp only [zA, zO, zN, zM, zP, zQ, zD, zF, gd] at hb17
        have hsn : (cutV 61 cur).2.2 = true := hb17
        refine AC_region ?_
        refine AL_p rfl rfl (S_move rfl (.tmp rfl)) ?_
        refine AL_p rfl rfl (S_move rfl (.tmp rfl)) ?_
        refine AL_p rfl rfl (S_move rfl (.tmp rfl)) ?_
        refine AL_p rfl rfl (S_move rfl (.tmp rfl)) ?_
        refine AL_p rfl rfl (S_addI rfl (.tmp rfl) (AEv.const _) (by omega) (by omega)) ?_
        refine AL_p rfl rfl (S_sliceLH rfl (.tmp rfl) (.tmp rfl) (.tmp rfl) (by kernel_rfl) (by omega) (by omega) (by omega)) ?_
        refine AL_p rfl rfl (S_cat rfl (.tmp rfl) (.tmp rfl) (by first | omega | (rw [hct]; simp only [List.length_cons, List.length_nil]; omega))) ?_
        refine AL_p rfl rfl (S_assign rfl (.tmp rfl)) ?_
        refine AL_nil ?_
        refine AC_exit ?_
        refine AC_region ?_
        refine AL_p rfl rfl (S_move rfl (.tmp rfl)) ?_
        refine AL_p rfl rfl (S_addI rfl (.tmp rfl) (AEv.const _) (by omega) (by omega)) ?_
        refine AL_p rfl rfl (S_assign rfl (.tmp rfl)) ?_
        refine AL_nil ?_
        have he := cut_seen (s[i]'hil) hsn
        exact ⟨(i + 1, done, cur ++ [(s[i]'hil)], p), ⟨pi_char hI hil hcm, hq⟩, by dsimp only; omega, (Sub.l (List.Sublist.refl _)), (.cons rfl (by first | exact Le.refl _ | exact Le.nils | exact Le.row _ _ _ _ | exact Le.of_eq (by first | rfl | (simp; done) | (push_cast; rfl) | (simp; omega))) (.cons rfl (Le.of_eq (congrArg AV.S (by rw [he] <;> first | rfl | (rw [hct])))) (.cons rfl (Le.of_eq (congrArg AV.S (by rw [he] <;> first | rfl | (rw [hct])))) (.cons rfl (Le.of_eq (congrArg AV.bool (by rw [he] <;> first | exact hsn | (simpa using hns) | rfl))) (.cons rfl (by first | exact Le.refl _ | exact Le.nils | exact Le.row _ _ _ _ | exact Le.of_eq (by first | rfl | (simp; done) | (push_cast; rfl) | (simp; omega))) .nil))))), (.cons rfl (Le.refl _) .nil)⟩
      try simp only [zA, zO, zN, zM, zP, zQ, zD, zF, gd] at hb17
      have hns : ¬ (cutV 61 cur).2.2 = true := by simpa using hb17
      refine AC_seq ?_
      refine AC_region ?_
      refine AL_p rfl rfl (S_move rfl (.tmp rfl)) ?_
      refine AL_p rfl rfl (S_move rfl (.tmp rfl)) ?_
      refine AL_p rfl rfl (S_index rfl (.tmp rfl) (.tmp rfl) (by kernel_rfl) (by omega) (by omega)) ?_
      refine AL_p rfl rfl (S_eql rfl (.tmp rfl) (AEv.const _)) ?_
      refine AL_p rfl rfl (S_assign rfl (.tmp rfl)) ?_
      refine AL_nil ?_
      refine AC_cond (.tmp rfl) (fun hb18 => ?_) (fun hb18 => ?_)
      · try simp only [zA, zO, zN, zM, zP, zQ, zD, zF, gd] at hb18
        have hsg : (s[i]'hil) = 61 := (at61 hil).1 hb18
        refine AC_region ?_
        refine AL_p rfl rfl (S_assign rfl (AEv.const _)) ?_
        refine AL_nil ?_
        refine AC_exit ?_
        refine AC_region ?_
        refine AL_p rfl rfl (S_move rfl (.tmp rfl)) ?_
        refine AL_p rfl rfl (S_addI rfl (.tmp rfl) (AEv.const _) (by omega) (by omega)) ?_
        refine AL_p rfl rfl (S_assign rfl (.tmp rfl)) ?_
        refine AL_nil ?_
        have he := (show cutV 61 (cur ++ [(s[i]'hil)]) = ((cutV 61 cur).1, (cutV 61 cur).2.1, true) by rw [hsg]; exact cut_sign hns)
        exact ⟨(i + 1, done, cur ++ [(s[i]'hil)], p), ⟨pi_char hI hil hcm, hq⟩, by dsimp only; omega, (Sub.l (List.Sublist.refl _)), (.cons rfl (by first | exact Le.refl _ | exact Le.nils | exact Le.row _ _ _ _ | exact Le.of_eq (by first | rfl | (simp; done) | (push_cast; rfl) | (simp; omega))) (.cons rfl (Le.of_eq (congrArg AV.S (by rw [he] <;> first | rfl | (rw [hct])))) (.cons rfl (Le.of_eq (congrArg AV.S (by rw [he] <;> first | rfl | (rw [hct])))) (.cons rfl (Le.of_eq (congrArg AV.bool (by rw [he] <;> first | exact hsn | (simpa using hns) | rfl))) (.cons rfl (by first | exact Le.refl _ | exact Le.nils | exact Le.row _ _ _ _ | exact Le.of_eq (by first | rfl | (simp; done) | (push_cast; rfl) | (simp; omega))) .nil))))), (.cons rfl (Le.refl _) .nil)⟩
      try simp only [zA, zO, zN, zM, zP, zQ, zD, zF, gd] at hb18
      have hsg : (s[i]'hil) ≠ 61 := fun e => hb18 ((at61 hil).2 e)
      refine AC_region ?_
      refine AL_p rfl rfl (S_move rfl (.tmp rfl)) ?_
      refine AL_p rfl rfl (S_move rfl (.tmp rfl)) ?_
      refine AL_p rfl rfl (S_move rfl (.tmp rfl)) ?_
      refine AL_p rfl rfl (S_move rfl (.tmp rfl)) ?_
      refine AL_p rfl rfl (S_addI rfl (.tmp rfl) (AEv.const _) (by omega) (by omega)) ?_
      refine AL_p rfl rfl (S_sliceLH rfl (.tmp rfl) (.tmp rfl) (.tmp rfl) (by kernel_rfl) (by omega) (by omega) (by omega)) ?_
      refine AL_p rfl rfl (S_cat rfl (.tmp rfl) (.tmp rfl) (by first | omega | (rw [hct]; simp only [List.length_cons, List.length_nil]; omega))) ?_
      refine AL_p rfl rfl (S_assign rfl (.tmp rfl)) ?_
      refine AL_nil ?_
      refine AC_exit ?_
      refine AC_region ?_
      refine AL_p rfl rfl (S_move rfl (.tmp rfl)) ?_
      refine AL_p rfl rfl (S_addI rfl (.tmp rfl) (AEv.const _) (by omega) (by omega)) ?_
      refine AL_p rfl rfl (S_assign rfl (.tmp rfl)) ?_
      refine AL_nil ?_
      have he := cut_plain hns hsg
      exact ⟨(i + 1, done, cur ++ [(s[i]'hil)], p), ⟨pi_char hI hil hcm, hq⟩, by dsimp only; omega, (Sub.l (List.Sublist.refl _)), (.cons rfl (by first | exact Le.refl _ | exact Le.nils | exact Le.row _ _ _ _ | exact Le.of_eq (by first | rfl | (simp; done) | (push_cast; rfl) | (simp; omega))) (.cons rfl (Le.of_eq (congrArg AV.S (by rw [he] <;> first | rfl | (rw [hct])))) (.cons rfl (Le.of_eq (congrArg AV.S (by rw [he] <;> first | rfl | (rw [hct])))) (.cons rfl (Le.of_eq (congrArg AV.bool (by rw [he] <;> first | exact hsn | (simpa using hns) | rfl))) (.cons rfl (by first | exact Le.refl _ | exact Le.nils | exact Le.row _ _ _ _ | exact Le.of_eq (by first | rfl | (simp; done) | (push_cast; rfl) | (simp; omega))) .nil))))), (.cons rfl (Le.refl _) .nil)⟩
    try simp only [zA, zO, zN, zM, zP, zQ, zD, zF, gd] at hb16
    have hcm : ∀ k : i < s.length, s[i] = 44 := fun k => (at44 k).1 (hb16.resolve_left fun h => h (by omega))
    refine AC_skip ?_
    refine AC_seq ?_
    refine AC_seq ?_
    refine AC_region ?_
    refine AL_p rfl rfl (S_move rfl (.tmp rfl)) ?_
    refine AL_p rfl rfl (S_not rfl (.tmp rfl)) ?_
    refine AL_nil ?_
    refine AC_cond (.tmp rfl) (fun hb19 => ?_) (fun hb19 => ?_)
    · try simp only [zA, zO, zN, zM, zP, zQ, zD, zF, gd] at hb19
      have hx := pi_bad hI hne hil2 hcm (by simpa using hb19)
      refine AC_seq ?_
      refine AC_region ?_
      refine AL_p rfl rfl (S_assign rfl (AEv.const _)) ?_
      refine AL_p rfl rfl (S_assign rfl (AEv.const _)) ?_
      refine AL_nil ?_
      refine AC_ret ?_
      refine ret_tmps (ts := [2, 3]) st rfl (by decide) rfl (Sub.l (List.sublist_append_right _ _)) (Conv.le (Sub.l (List.sublist_append_right _ _)) (Les.tup (.cons Le.nils (.cons (Le.refl _) .nil)))) ⟨by rw [hx]; rfl, rfl⟩ (.inl rfl)
    try simp only [zA, zO, zN, zM, zP, zQ, zD, zF, gd] at hb19
    have hsn : (cutV 61 cur).2.2 = true := by simpa using hb19
    refine AC_skip ?_
    refine AC_seq ?_
    refine AC_region ?_
    refine AL_p rfl rfl (S_move rfl (.tmp rfl)) ?_
    refine AL_p rfl rfl (S_move rfl (.tmp rfl)) ?_
    refine AL_p rfl rfl (S_move rfl (.tmp rfl)) ?_
    refine AL_p rfl rfl (S_build (t := 52) (pl := [(0, 1), (1, 1)]) (zs := [.string ⟨#[]⟩, .string ⟨#[]⟩]) rfl (AEvs.cons (.tmp rfl) (AEvs.cons (.tmp rfl) AEvs.nil)) (by kernel_rfl) rfl) ?_
    refine AL_p rfl rfl (S_buildSlice (e := 52) 2 rfl (AEvs.cons (.tmp rfl) AEvs.nil) rfl (by kernel_rfl) (by kernel_rfl) (by intro y hy; simp only [List.mem_cons, List.not_mem_nil, or_false] at hy; rcases hy with rfl <;> exact ⟨rfl, rfl⟩) (by decide) (by decide) (by decide)) ?_
    refine AL_step rfl rfl (S_appendM (f := (fun q : List UInt8 => labAV (cutL q))) (l := done) (l2 := [cur]) (e := 52) (size := 2) (bytes := 32) (p := p) ([]) (st) rfl (.tmp rfl) (.tmp rfl) rfl hq (by kernel_rfl) (by simp) (fun _ => ⟨rfl, rfl⟩) (by simp only [List.length_singleton]; omega) (by simp only [List.length_singleton]; omega)) ?_
    rintro _ _ ⟨b8, k8, cap8, hx8, rfl, rfl⟩
    refine AL_p rfl rfl (S_assign rfl (.tmp rfl)) ?_
    refine AL_nil ?_
    refine AC_region ?_
    refine AL_p rfl rfl (S_assign rfl (AEv.S _)) ?_
    refine AL_p rfl rfl (S_assign rfl (AEv.S _)) ?_
    refine AL_p rfl rfl (S_assign rfl (AEv.const _)) ?_
    refine AL_nil ?_
    refine AC_region ?_
    refine AL_p rfl rfl (S_move rfl (.tmp rfl)) ?_
    refine AL_p rfl rfl (S_addI rfl (.tmp rfl) (AEv.const _) (by omega) (by omega)) ?_
    refine AL_p rfl rfl (S_assign rfl (.tmp rfl)) ?_
    refine AL_nil ?_
    have he : cutV 61 ([] : List UInt8) = ([], [], false) := by decide
    exact ⟨(i + 1, done ++ [cur], [], .row b8 k8 cap8), ⟨pi_part hI hil2 hcm hsn, hx8⟩, by dsimp only; omega, (Sub.l (List.Sublist.refl _)), (.cons rfl (by first | exact Le.refl _ | exact Le.nils | exact Le.row _ _ _ _ | exact Le.of_eq (by first | rfl | (simp; done) | (push_cast; rfl) | (simp; omega))) (.cons rfl (Le.of_eq (congrArg AV.S (by rw [he] <;> first | rfl | (rw [hct])))) (.cons rfl (Le.of_eq (congrArg AV.S (by rw [he] <;> first | rfl | (rw [hct])))) (.cons rfl (Le.of_eq (congrArg AV.bool (by rw [he] <;> first | exact hsn | (simpa using hns) | rfl))) (.cons rfl (by first | exact Le.refl _ | exact Le.nils | exact Le.row _ _ _ _ | exact Le.of_eq (by first | rfl | (simp; done) | (push_cast; rfl) | (simp; omega))) .nil))))), (.cons rfl (Le.refl _) .nil)⟩
  try simp only [zA, zO, zN, zM, zP, zQ, zD, zF, gd] at hb2
  have hix : ¬ i ≤ s.length := by omega
  have hx := pi_end hI hne hix
  have hlb := pi_labs hI hix hs
  refine AC_exit ?_
  refine AC_seq ?_
  rw [map_cutL] at hq ⊢
  refine AC_region ?_
  refine AL_p rfl rfl (S_move rfl (.tmp rfl)) ?_
  refine AL_p rfl rfl (S_pcall rfl (AEvs.cons (AEv.S _) (AEvs.cons ((AEv.tmp rfl).le (Le_own hq)) AEvs.nil)) (ref06_Labels_ok selN (by decide) (done.map cutL) (fun x hx => ⟨by have := (hlb x hx).1; omega, by have := (hlb x hx).2; omega⟩))) ?_
  refine AL_p rfl rfl (S_move rfl (.tmp rfl)) ?_
  refine AL_p rfl rfl (S_extract 0 rfl (.tmp rfl) rfl) ?_
  refine AL_p rfl rfl (S_extract 1 rfl (.tmp rfl) rfl) ?_
  refine AL_p rfl rfl (S_assign rfl (.tmp rfl)) ?_
  refine AL_p rfl rfl (S_assign rfl (.tmp rfl)) ?_
  refine AL_nil ?_
  refine AC_seq ?_
  refine AC_seq ?_
  refine AC_region ?_
  refine AL_p rfl rfl (S_move rfl (.tmp rfl)) ?_
  refine AL_p rfl rfl (S_neq rfl (.tmp rfl) (AEv.const _)) ?_
  refine AL_nil ?_
  refine AC_cond (.tmp rfl) (fun hb22 => ?_) (fun hb22 => ?_)
  · try simp only [zA, zO, zN, zM, zP, zQ, zD, zF, gd] at hb22
    have hx2 : parseS s = ([], erCode (labelsE selN (done.map cutL))) := by rw [hx, if_neg hb22]
    refine AC_seq ?_
    refine AC_region ?_
    refine AL_p rfl rfl (S_move rfl (.tmp rfl)) ?_
    refine AL_p rfl rfl (S_assign rfl (AEv.const _)) ?_
    refine AL_p rfl rfl (S_assign rfl (.tmp rfl)) ?_
    refine AL_nil ?_
    refine AC_ret ?_
    refine ret_tmps (ts := [2, 3]) st rfl (by decide) rfl (Sub.l (List.sublist_append_right _ _)) (Conv.le (Sub.l (List.sublist_append_right _ _)) (Les.tup (.cons Le.nils (.cons (Le.refl _) .nil)))) ⟨by rw [hx2]; rfl, rfl⟩ (.inl rfl)
  try simp only [zA, zO, zN, zM, zP, zQ, zD, zF, gd] at hb22
  have hx2 : parseS s = (done.map cutL, 0) := by rw [hx, if_pos (by simpa using hb22)]
  refine AC_skip ?_
  refine AC_seq ?_
  refine AC_region ?_
  refine AL_p rfl rfl (S_move rfl (.tmp rfl)) ?_
  refine AL_p rfl rfl (S_assign rfl (.tmp rfl)) ?_
  refine AL_p rfl rfl (S_assign rfl (AEv.const _)) ?_
  refine AL_nil ?_
  refine AC_ret ?_
  refine ret_tmps (ts := [2, 3]) st rfl (by decide) rfl (Sub.l (List.sublist_append_right _ _)) (Conv.le (Sub.l (List.sublist_append_right _ _)) (Les.tup (.cons (Le_own hq) (.cons (Le.refl _) .nil)))) ⟨by rw [hx2], rfl⟩ (.inl rfl)

end Go.Proofs.YtdljfalidkpfoaaDoor

/-
The walks of Go functions in the logic AL: what each of them answers.
Conditions: those of each theorem.
-/
set_option linter.unusedVariables false
set_option linter.unusedSimpArgs false
namespace Go.Proofs.YtdljfalidkpfoaaDoor
open Go.AL Go.NumSpec

set_option maxRecDepth 100000 in
/-- provost/provostlaw11.SelTexts -/
theorem law_SelTexts (l : List Lab) (s : List UInt8) : GCalls Tryd.prog tabs 3 [.sl (labsV l), .S s] (.bool true) := by
  intro st hG
  refine ACalls_of (N := 46) Tryd.func3 (by kernel_rfl) rfl rfl rfl ?_
  refine AC_seq ?_
  refine AC_region ?_
  refine AL_p rfl rfl (S_assign rfl (AEv.const _)) ?_
  refine AL_nil ?_
  refine AC_seq ?_
  refine AC_seq ?_
  refine AC_region ?_
  refine AL_p rfl rfl (S_move rfl (.tmp rfl)) ?_
  refine AL_p rfl rfl (S_pcall rfl (AEvs.cons (.tmp rfl) AEvs.nil) (law_light_ok _)) ?_
  refine AL_p rfl rfl (S_not rfl (.tmp rfl)) ?_
  refine AL_p rfl rfl (S_move rfl (.tmp rfl)) ?_
  refine AL_g rfl rfl (.tmp rfl) rfl (fun hg1 => S_move rfl (.tmp rfl)) ?_
  refine AL_g rfl rfl (.tmp rfl) rfl (fun hg4 => S_lenS (ts := #[]) rfl (AEv.cond (.tmp rfl) (by first | assumption | exact gdAnd (by assumption) (by assumption))) (by kernel_rfl)) ?_
  refine AL_g rfl rfl (.tmp rfl) rfl (fun hg7 => S_gtr rfl (AEv.cond (.tmp rfl) (by first | assumption | exact gdAnd (by assumption) (by assumption))) (AEv.const _)) ?_
  refine AL_p rfl rfl (S_or rfl (.tmp rfl) (fun hp10 => (AEv.cond (.tmp rfl) (by first | assumption | exact gdT hp10 | exact gdF hp10 | exact gdAnd (by assumption) (gdT hp10) | exact gdAnd (by assumption) (gdF hp10))))) ?_
  refine AL_nil ?_
  refine AC_cond (.tmp rfl) (fun hb11 => ?_) (fun hb11 => ?_)
  · try simp only [zA, zO, zN, zM, zP, zQ, zD, zF, gd] at hb11
    refine AC_seq ?_
    refine AC_region ?_
    refine AL_p rfl rfl (S_gcall rfl AEvs.nil ((law_works) _ (fun p hp => by first | exact hG p hp | (simp [hG p hp]; done)))) ?_
    refine AL_p rfl rfl (S_assign rfl (.tmp rfl)) ?_
    refine AL_nil ?_
    refine AC_ret ?_
    refine ret_tmp st rfl rfl (Sub.l (List.Sublist.refl _)) (Conv.refl (Sub.l (List.Sublist.refl _)) _) ⟨rfl, rfl⟩ (.inl rfl)
  try simp only [zA, zO, zN, zM, zP, zQ, zD, zF, gd] at hb11
  have hla : lightS (onlyL l) = true := by simpa using hb11.1
  have hs2 : s.length ≤ 2000 := by have := hb11.2; omega
  have hal := (onlyL_light hla).1
  have hls : ∀ x ∈ l, x.1.length ≤ 1000000 ∧ x.2.length ≤ 1000000 := fun x hx => ⟨by have := ((onlyL_light hla).2 x hx).1; omega, by have := ((onlyL_light hla).2 x hx).2; omega⟩
  have hpl := (parse_len (s := s) (n := 2000) hs2).1
  refine AC_skip ?_
  refine AC_seq ?_
  refine AC_region ?_
  refine AL_p rfl rfl (S_move rfl (.tmp rfl)) ?_
  refine AL_p rfl rfl (S_gcall rfl (AEvs.cons (.tmp rfl) AEvs.nil) ((sel_Parse_ok s (by omega)) _ (fun p hp => by first | exact hG p hp | (simp [hG p hp]; done)))) ?_
  refine AL_p rfl rfl (S_move rfl (.tmp rfl)) ?_
  refine AL_p rfl rfl (S_extract 0 rfl (.tmp rfl) rfl) ?_
  refine AL_p rfl rfl (S_extract 1 rfl (.tmp rfl) rfl) ?_
  refine AL_p rfl rfl (S_assign rfl (.tmp rfl)) ?_
  refine AL_p rfl rfl (S_assign rfl (.tmp rfl)) ?_
  refine AL_nil ?_
  refine AC_seq ?_
  refine AC_region ?_
  refine AL_p rfl rfl (S_move rfl (.tmp rfl)) ?_
  refine AL_p rfl rfl (S_pcall rfl (AEvs.cons (.tmp rfl) AEvs.nil) (ref11_Parse_ok s (by omega))) ?_
  refine AL_p rfl rfl (S_move rfl (.tmp rfl)) ?_
  refine AL_p rfl rfl (S_extract 0 rfl (.tmp rfl) rfl) ?_
  refine AL_p rfl rfl (S_extract 1 rfl (.tmp rfl) rfl) ?_
  refine AL_p rfl rfl (S_assign rfl (.tmp rfl)) ?_
  refine AL_p rfl rfl (S_assign rfl (.tmp rfl)) ?_
  refine AL_nil ?_
  refine AC_seq ?_
  refine AC_region ?_
  refine AL_p rfl rfl (S_move rfl (.tmp rfl)) ?_
  refine AL_p rfl rfl (S_pcall rfl (AEvs.cons (.tmp rfl) AEvs.nil) (sel_Text_ok l (by omega) hls)) ?_
  refine AL_p rfl rfl (S_move rfl (.tmp rfl)) ?_
  refine AL_p rfl rfl (S_pcall rfl (AEvs.cons (.tmp rfl) AEvs.nil) (ref11_Text_ok l (by omega) hls)) ?_
  refine AL_p rfl rfl (S_eqS rfl (.tmp rfl) (.tmp rfl)) ?_
  refine AL_p rfl rfl (S_move rfl (.tmp rfl)) ?_
  refine AL_g rfl rfl (.tmp rfl) rfl (fun hg12 => S_move rfl (.tmp rfl)) ?_
  refine AL_g rfl rfl (.tmp rfl) rfl (fun hg15 => S_move rfl (.tmp rfl)) ?_
  refine AL_g rfl rfl (.tmp rfl) rfl (fun hg18 => S_pcall rfl (AEvs.cons (AEv.cond (.tmp rfl) (by first | assumption | exact gdAnd (by assumption) (by assumption))) (AEvs.cons (AEv.cond (.tmp rfl) (by first | assumption | exact gdAnd (by assumption) (by assumption))) AEvs.nil)) (book_SameLabels_ok (parseS s).1 (parseS s).1 (by omega) (by omega))) ?_
  refine AL_p rfl rfl (S_and rfl (.tmp rfl) (fun hp21 => (AEv.cond (.tmp rfl) (by first | assumption | exact gdT hp21 | exact gdF hp21 | exact gdAnd (by assumption) (gdT hp21) | exact gdAnd (by assumption) (gdF hp21))))) ?_
  refine AL_p rfl rfl (S_move rfl (.tmp rfl)) ?_
  refine AL_g rfl rfl (.tmp rfl) rfl (fun hg22 => S_move rfl (.tmp rfl)) ?_
  refine AL_g rfl rfl (.tmp rfl) rfl (fun hg25 => S_move rfl (.tmp rfl)) ?_
  refine AL_g rfl rfl (.tmp rfl) rfl (fun hg28 => S_eql rfl (AEv.cond (.tmp rfl) (by first | assumption | exact gdAnd (by assumption) (by assumption))) (AEv.cond (.tmp rfl) (by first | assumption | exact gdAnd (by assumption) (by assumption)))) ?_
  refine AL_p rfl rfl (S_and rfl (.tmp rfl) (fun hp31 => (AEv.cond (.tmp rfl) (by first | assumption | exact gdT hp31 | exact gdF hp31 | exact gdAnd (by assumption) (gdT hp31) | exact gdAnd (by assumption) (gdF hp31))))) ?_
  refine AL_p rfl rfl (S_move rfl (.tmp rfl)) ?_
  refine AL_g rfl rfl (.tmp rfl) rfl (fun hg32 => S_gcall rfl AEvs.nil ((law_works) _ (fun p hp => by first | exact hG p hp | (simp [hG p hp]; done)))) ?_
  refine AL_p rfl rfl (S_and rfl (.tmp rfl) (fun hp35 => (AEv.cond (.tmp rfl) (by first | assumption | exact gdT hp35 | exact gdF hp35 | exact gdAnd (by assumption) (gdT hp35) | exact gdAnd (by assumption) (gdF hp35))))) ?_
  refine AL_p rfl rfl (S_assign rfl (.tmp rfl)) ?_
  refine AL_nil ?_
  refine AC_ret ?_
  refine ret_tmp st rfl rfl (Sub.l (List.Sublist.refl _)) (Conv.refl (Sub.l (List.Sublist.refl _)) _) ⟨congrArg AV.bool (by simp), rfl⟩ (.inl rfl)

end Go.Proofs.YtdljfalidkpfoaaDoor
