/- A part of the proof: what the program's functions answer.
Conditions: none beyond each theorem's own. -/
import Derived.Test.YtfdcadnaginnpaaGreatDoorW2
/-
The walks of Go functions in the logic AL: what each of them answers.
Conditions: those of each theorem.
-/
set_option linter.unusedVariables false
set_option linter.unusedSimpArgs false
namespace Go.Proofs.YtfdcadnaginnpaaGreatDoor
open Go.AL Go.NumSpec

set_option maxRecDepth 100000 in
/-- provost/provostref06.at -/
theorem ref06_at_ok (name : List UInt8) (hn : name.length ≤ 1000000) (i : Int) (hi : fits i) : PCalls Tryz.prog 35 [.S name, .int .i64 i] (.S (atT name i)) := by
  intro st
  refine ACalls_of (N := 11) Tryz.func35 (by kernel_rfl) rfl rfl rfl ?_
  have ht := textL_len hi
  refine AC_seq ?_
  refine AC_region ?_
  refine AL_p rfl rfl (S_assign rfl (AEv.S _)) ?_
  refine AL_nil ?_
  refine AC_seq ?_
  refine AC_region ?_
  refine AL_p rfl rfl (S_move rfl (AEv.tmp rfl)) ?_
  refine AL_p rfl rfl (S_cat rfl (AEv.tmp rfl) (AEv.S _) (by first | omega | (simp only [List.length_append, List.length_cons, List.length_nil]; omega))) ?_
  refine AL_p rfl rfl (S_move rfl (AEv.tmp rfl)) ?_
  refine AL_p rfl rfl (S_pcall rfl (AEvs.cons (AEv.tmp rfl) AEvs.nil) (ref_Text_ok i hi)) ?_
  refine AL_p rfl rfl (S_cat rfl (AEv.tmp rfl) (AEv.tmp rfl) (by first | omega | (simp only [List.length_append, List.length_cons, List.length_nil]; omega))) ?_
  refine AL_p rfl rfl (S_cat rfl (AEv.tmp rfl) (AEv.S _) (by first | omega | (simp only [List.length_append, List.length_cons, List.length_nil]; omega))) ?_
  refine AL_p rfl rfl (S_assign rfl (AEv.tmp rfl)) ?_
  refine AL_nil ?_
  refine AC_ret ?_
  refine ret_tmp st rfl rfl (Sub.l (List.Sublist.refl _)) (Conv.refl (Sub.l (List.Sublist.refl _)) _) ⟨rfl, rfl⟩ (.inl rfl)

set_option maxRecDepth 100000 in
/-- provost/provostref06.Labels -/
theorem ref06_Labels_ok (name : List UInt8) (hn : name.length ≤ 1000000) (l : List Lab) (hl : l.length ≤ 1000000) (hls : ∀ x ∈ l, x.1.length ≤ 1000000 ∧ x.2.length ≤ 1000000) : PCalls Tryz.prog 14 [.S name, .sl (labsV l)] (cpAV (labelsE name l)) := by
  intro st
  refine ACalls_of (N := 59) Tryz.func14 (by kernel_rfl) rfl rfl rfl ?_
  refine AC_seq ?_
  refine AC_region ?_
  refine AL_p rfl rfl (S_assign rfl (AEv.const _)) ?_
  refine AL_p rfl rfl (S_assign rfl (AEv.S _)) ?_
  refine AL_nil ?_
  refine AC_seq ?_
  refine AC_seq ?_
  refine AC_region ?_
  refine AL_p rfl rfl (S_move rfl (AEv.tmp rfl)) ?_
  refine AL_p rfl rfl (by first | exact S_lenM (e := 56) rfl (AEv.tmp rfl) (by kernel_rfl) | exact S_len (e := 56) rfl (AEv.tmp rfl) (by kernel_rfl)) ?_
  refine AL_p rfl rfl (S_gtr rfl (AEv.tmp rfl) (AEv.const _)) ?_
  refine AL_nil ?_
  refine AC_cond (AEv.tmp rfl) (fun hb1 => ?_) (fun hb1 => ?_)
  · try simp only [Bool.and_eq_true, Bool.or_eq_true, Bool.not_eq_true', Bool.not_eq_false', Bool.and_eq_false_iff, Bool.or_eq_false_iff, decide_eq_true_eq, decide_eq_false_iff_not, gd] at hb1
    have hbad : (labelsE name l) = some (2, [name]) := by rw [labelsE_bad (by unfold atMostE; rw [if_pos (by omega)]; simp)]; unfold atMostE; rw [if_pos (by omega)]
    refine AC_seq ?_
    refine AC_region ?_
    refine AL_p rfl rfl (S_move rfl (AEv.tmp rfl)) ?_
    refine AL_p rfl rfl (S_assign rfl (AEv.const _)) ?_
    refine AL_p rfl rfl (S_assign rfl (AEv.tmp rfl)) ?_
    refine AL_nil ?_
    refine AC_ret ?_
    refine ret_tmps (ts := [4, 5]) st rfl (by decide) rfl (Sub.l (List.Sublist.refl _)) (Conv.refl (Sub.l (List.Sublist.refl _)) _) ⟨cp_some hbad (Lib.join_one _ _).symm, rfl⟩ (.inl rfl)
  · try simp only [Bool.and_eq_true, Bool.or_eq_true, Bool.not_eq_true', Bool.not_eq_false', Bool.and_eq_false_iff, Bool.or_eq_false_iff, decide_eq_true_eq, decide_eq_false_iff_not, gd] at hb1
    have hgood : (labelsE name l) = eachE l.length (labelE name l) := labelsE_good (by unfold atMostE; rw [if_neg (by omega)])
    refine AC_skip ?_
    refine AC_seq ?_
    refine AC_seq ?_
    refine AC_region ?_
    refine AL_p rfl rfl (S_assign rfl (AEv.const _)) ?_
    refine AL_nil ?_
    refine AC_block ?_
    refine AC_loopK (G := Nat) [(0, _), (1, _)] (fun g => g ≤ l.length ∧ ∀ j, j < g → labelE name l j = none) (fun g => [(6, .int .i64 (g : Int))]) (fun g => st) (fun g => l.length - g) (0) (⟨Nat.zero_le _, fun j h => absurd h (Nat.not_lt_zero _)⟩) (Sub.l (List.Sublist.refl _)) (.cons rfl (Le.refl _) (.cons rfl (Le.refl _) .nil)) (.cons rfl (by first | exact Le.refl _ | exact Le.nils | exact Le.row _ _ _ _ | exact Le.of_eq (by first | rfl | (simp; done) | (push_cast; rfl) | (simp; omega))) .nil) ?_
    · rintro i ⟨hi, hall⟩
      try dsimp only
      simp only [List.cons_append, List.nil_append]
      refine AC_seq ?_
      refine AC_seq ?_
      refine AC_region ?_
      refine AL_p rfl rfl (S_move rfl (AEv.tmp rfl)) ?_
      refine AL_p rfl rfl (S_move rfl (AEv.tmp rfl)) ?_
      refine AL_p rfl rfl (by first | exact S_lenM (e := 56) rfl (AEv.tmp rfl) (by kernel_rfl) | exact S_len (e := 56) rfl (AEv.tmp rfl) (by kernel_rfl)) ?_
      refine AL_p rfl rfl (S_lss rfl (AEv.tmp rfl) (AEv.tmp rfl)) ?_
      refine AL_nil ?_
      refine AC_cond (AEv.tmp rfl) (fun hb2 => ?_) (fun hb2 => ?_)
      · try simp only [Bool.and_eq_true, Bool.or_eq_true, Bool.not_eq_true', Bool.not_eq_false', Bool.and_eq_false_iff, Bool.or_eq_false_iff, decide_eq_true_eq, decide_eq_false_iff_not, gd] at hb2
        have hil : i < l.length := by omega
        have him : i - 1 < l.length := by omega
        have hif : fits (i : Int) := by unfold fits; omega
        have hm := hls _ (List.getElem_mem hil)
        have hatl : (atT name (i : Int)).length ≤ 1000100 := atT_len hn hif
        refine AC_skip ?_
        refine AC_seq ?_
        refine AC_block ?_
        refine AC_seq ?_
        refine AC_seq ?_
        refine AC_region ?_
        refine AL_p rfl rfl (S_move rfl (AEv.tmp rfl)) ?_
        refine AL_p rfl rfl (S_move rfl (AEv.tmp rfl)) ?_
        refine AL_p rfl rfl (S_elemN (e := 56) 2 rfl (AEv.tmp rfl) (AEv.tmp rfl) (by kernel_rfl) (by kernel_rfl) (by omega) (fun _ => rfl)) ?_
        refine AL_p rfl rfl (S_fieldP 0 rfl (AEv.tmp rfl) (by kernel_rfl)) ?_
        refine AL_p rfl rfl (S_loadP rfl (AEv.tmp rfl) rfl (by kernel_rfl)) ?_
        refine AL_p rfl rfl (S_pcall rfl (AEvs.cons (AEv.tmp rfl) AEvs.nil) (ref03_Key_ok (l[i]'hil).1 (by omega))) ?_
        refine AL_p rfl rfl (S_not rfl (AEv.tmp rfl)) ?_
        refine AL_nil ?_
        refine AC_cond (AEv.tmp rfl) (fun hb3 => ?_) (fun hb3 => ?_)
        · try simp only [Bool.and_eq_true, Bool.or_eq_true, Bool.not_eq_true', Bool.not_eq_false', Bool.and_eq_false_iff, Bool.or_eq_false_iff, decide_eq_true_eq, decide_eq_false_iff_not, gd] at hb3
          have hx : (labelsE name l) = some (31, [atT name (i : Int), [107, 101, 121]]) := by rw [hgood, eachE_at hil (label_key hil hb3) hall]
          refine AC_seq ?_
          refine AC_region ?_
          refine AL_p rfl rfl (S_move rfl (AEv.tmp rfl)) ?_
          refine AL_p rfl rfl (S_move rfl (AEv.tmp rfl)) ?_
          refine AL_p rfl rfl (S_pcall rfl (AEvs.cons (AEv.tmp rfl) (AEvs.cons (AEv.tmp rfl) AEvs.nil)) (ref06_at_ok name hn (i : Int) hif)) ?_
          refine AL_p rfl rfl (S_cat rfl (AEv.tmp rfl) (AEv.S _) (by first | omega | (simp only [List.length_append, List.length_cons, List.length_nil]; omega))) ?_
          refine AL_p rfl rfl (S_assign rfl (AEv.const _)) ?_
          refine AL_p rfl rfl (S_assign rfl (AEv.tmp rfl)) ?_
          refine AL_nil ?_
          refine AC_ret ?_
          refine ret_tmps (ts := [4, 5]) st rfl (by decide) rfl (Sub.l (List.Sublist.refl _)) (Conv.refl (Sub.l (List.Sublist.refl _)) _) ⟨cp_some hx (by rw [join_two, List.append_assoc]; rfl), rfl⟩ (.inl rfl)
        · try simp only [Bool.and_eq_true, Bool.or_eq_true, Bool.not_eq_true', Bool.not_eq_false', Bool.and_eq_false_iff, Bool.or_eq_false_iff, decide_eq_true_eq, decide_eq_false_iff_not, gd] at hb3
          have hk1 : namesR 2 (l[i]'hil).1 = true := hb3
          refine AC_skip ?_
          refine AC_seq ?_
          refine AC_seq ?_
          refine AC_draw (by kernel_rfl) (by kernel_rfl) (.cons rfl (Q_p rfl (S_move rfl (AEv.tmp rfl))) <|
              .cons rfl (Q_p rfl (S_gtr rfl (AEv.tmp rfl) (AEv.const _))) <|
              .cons rfl (Q_p rfl (S_move rfl (AEv.tmp rfl))) <|
              .cons rfl (Q_g rfl rfl (AEv.tmp rfl) (fun hg4 => S_move rfl (AEv.tmp rfl))) <|
              .cons rfl (Q_g rfl rfl (AEv.tmp rfl) (fun hg7 => S_move rfl (AEv.tmp rfl))) <|
              .cons rfl (Q_g rfl rfl (AEv.tmp rfl) (fun hg10 => S_subI rfl (AEv.cond (AEv.tmp rfl) (by first | assumption | exact gdAnd (by assumption) (by assumption))) (AEv.const _) (by (try simp only [gd, Bool.and_eq_true, Bool.or_eq_true, Bool.not_eq_true', Bool.not_eq_false', decide_eq_true_eq, decide_eq_false_iff_not, Bool.or_eq_false_iff, Bool.and_eq_false_iff] at *); omega) (by (try simp only [gd, Bool.and_eq_true, Bool.or_eq_true, Bool.not_eq_true', Bool.not_eq_false', decide_eq_true_eq, decide_eq_false_iff_not, Bool.or_eq_false_iff, Bool.and_eq_false_iff] at *); omega))) <|
              .cons rfl (Q_g rfl rfl (AEv.tmp rfl) (fun hg13 => S_elemN (e := 56) (i := i - 1) (f := labAV) (l := l) 2 rfl (AEv.cond (AEv.tmp rfl) (by first | assumption | exact gdAnd (by assumption) (by assumption))) ((AEv.cond (AEv.tmp rfl) (by first | assumption | exact gdAnd (by assumption) (by assumption))).le (Le.of_eq (congrArg (AV.int _) (by (try simp only [gd, Bool.and_eq_true, Bool.or_eq_true, Bool.not_eq_true', Bool.not_eq_false', decide_eq_true_eq, decide_eq_false_iff_not, Bool.or_eq_false_iff, Bool.and_eq_false_iff] at *); omega)))) (by kernel_rfl) (by kernel_rfl) him (fun _ => rfl))) <|
              .cons rfl (Q_g rfl rfl (AEv.tmp rfl) (fun hg16 => S_fieldP 0 rfl (AEv.cond (AEv.tmp rfl) (by first | assumption | exact gdAnd (by assumption) (by assumption))) (by kernel_rfl))) <|
              .cons rfl (Q_g rfl rfl (AEv.tmp rfl) (fun hg19 => S_loadP rfl (AEv.cond (AEv.tmp rfl) (by first | assumption | exact gdAnd (by assumption) (by assumption))) rfl (by kernel_rfl))) <|
              .cons rfl (Q_g rfl rfl (AEv.tmp rfl) (fun hg22 => S_move rfl (AEv.tmp rfl))) <|
              .cons rfl (Q_g rfl rfl (AEv.tmp rfl) (fun hg25 => S_move rfl (AEv.tmp rfl))) <|
              .cons rfl (Q_g rfl rfl (AEv.tmp rfl) (fun hg28 => S_elemN (e := 56) (f := labAV) (l := l) 2 rfl (AEv.cond (AEv.tmp rfl) (by first | assumption | exact gdAnd (by assumption) (by assumption))) (AEv.cond (AEv.tmp rfl) (by first | assumption | exact gdAnd (by assumption) (by assumption))) (by kernel_rfl) (by kernel_rfl) hil (fun _ => rfl))) <|
              .cons rfl (Q_g rfl rfl (AEv.tmp rfl) (fun hg31 => S_fieldP 0 rfl (AEv.cond (AEv.tmp rfl) (by first | assumption | exact gdAnd (by assumption) (by assumption))) (by kernel_rfl))) <|
              .cons rfl (Q_g rfl rfl (AEv.tmp rfl) (fun hg34 => S_loadP rfl (AEv.cond (AEv.tmp rfl) (by first | assumption | exact gdAnd (by assumption) (by assumption))) rfl (by kernel_rfl))) <|
              .cons rfl (Q_g rfl rfl (AEv.tmp rfl) (fun hg37 => S_geS rfl (AEv.cond (AEv.tmp rfl) (by first | assumption | exact gdAnd (by assumption) (by assumption))) (AEv.cond (AEv.tmp rfl) (by first | assumption | exact gdAnd (by assumption) (by assumption))))) <|
              .cons rfl (Q_p rfl (S_and rfl (AEv.tmp rfl) (fun hp40 => (AEv.cond (AEv.tmp rfl) (by first | assumption | exact gdT hp40 | exact gdF hp40 | exact gdAnd (by assumption) (gdT hp40) | exact gdAnd (by assumption) (gdF hp40)))))) <|
              .nil) ?_
          refine AC_cond (AEv.tmp rfl) (fun hb41 => ?_) (fun hb41 => ?_)
          · try simp only [Bool.and_eq_true, Bool.or_eq_true, Bool.not_eq_true', Bool.not_eq_false', Bool.and_eq_false_iff, Bool.or_eq_false_iff, decide_eq_true_eq, decide_eq_false_iff_not, gd] at hb41
            have hx : (labelsE name l) = some (4, [atT name (i : Int), [107, 101, 121]]) := by rw [hgood, eachE_at hil (label_order hil hk1 (by omega) (by simpa using hb41.2)) hall]
            refine AC_seq ?_
            refine AC_region ?_
            refine AL_p rfl rfl (S_move rfl (AEv.tmp rfl)) ?_
            refine AL_p rfl rfl (S_move rfl (AEv.tmp rfl)) ?_
            refine AL_p rfl rfl (S_pcall rfl (AEvs.cons (AEv.tmp rfl) (AEvs.cons (AEv.tmp rfl) AEvs.nil)) (ref06_at_ok name hn (i : Int) hif)) ?_
            refine AL_p rfl rfl (S_cat rfl (AEv.tmp rfl) (AEv.S _) (by first | omega | (simp only [List.length_append, List.length_cons, List.length_nil]; omega))) ?_
            refine AL_p rfl rfl (S_assign rfl (AEv.const _)) ?_
            refine AL_p rfl rfl (S_assign rfl (AEv.tmp rfl)) ?_
            refine AL_nil ?_
            refine AC_ret ?_
            refine ret_tmps (ts := [4, 5]) st rfl (by decide) rfl (Sub.l (List.Sublist.refl _)) (Conv.refl (Sub.l (List.Sublist.refl _)) _) ⟨cp_some hx (by rw [join_two, List.append_assoc]; rfl), rfl⟩ (.inl rfl)
          · try simp only [Bool.and_eq_true, Bool.or_eq_true, Bool.not_eq_true', Bool.not_eq_false', Bool.and_eq_false_iff, Bool.or_eq_false_iff, decide_eq_true_eq, decide_eq_false_iff_not, gd] at hb41
            have hk2 : ∀ h : 0 < i, Op.bytesLess (l[i - 1]'(by omega)).1 (l[i]'hil).1 = true := fun h => by
              rcases hb41 with h' | h'
              · omega
              · simpa using h'
            refine AC_skip ?_
            refine AC_seq ?_
            refine AC_region ?_
            refine AL_p rfl rfl (S_move rfl (AEv.tmp rfl)) ?_
            refine AL_p rfl rfl (S_move rfl (AEv.tmp rfl)) ?_
            refine AL_p rfl rfl (S_elemN (e := 56) 2 rfl (AEv.tmp rfl) (AEv.tmp rfl) (by kernel_rfl) (by kernel_rfl) (by omega) (fun _ => rfl)) ?_
            refine AL_p rfl rfl (S_fieldP 1 rfl (AEv.tmp rfl) (by kernel_rfl)) ?_
            refine AL_p rfl rfl (S_loadP rfl (AEv.tmp rfl) rfl (by kernel_rfl)) ?_
            refine AL_p rfl rfl (S_pcall rfl (AEvs.cons (AEv.tmp rfl) AEvs.nil) (ref03_Val_ok (l[i]'hil).2 (by omega))) ?_
            refine AL_p rfl rfl (S_not rfl (AEv.tmp rfl)) ?_
            refine AL_nil ?_
            refine AC_cond (AEv.tmp rfl) (fun hb42 => ?_) (fun hb42 => ?_)
            · try simp only [Bool.and_eq_true, Bool.or_eq_true, Bool.not_eq_true', Bool.not_eq_false', Bool.and_eq_false_iff, Bool.or_eq_false_iff, decide_eq_true_eq, decide_eq_false_iff_not, gd] at hb42
              have hx : (labelsE name l) = some (32, [atT name (i : Int), [118, 97, 108]]) := by rw [hgood, eachE_at hil (label_val hil hk1 hk2 hb42) hall]
              refine AC_seq ?_
              refine AC_region ?_
              refine AL_p rfl rfl (S_move rfl (AEv.tmp rfl)) ?_
              refine AL_p rfl rfl (S_move rfl (AEv.tmp rfl)) ?_
              refine AL_p rfl rfl (S_pcall rfl (AEvs.cons (AEv.tmp rfl) (AEvs.cons (AEv.tmp rfl) AEvs.nil)) (ref06_at_ok name hn (i : Int) hif)) ?_
              refine AL_p rfl rfl (S_cat rfl (AEv.tmp rfl) (AEv.S _) (by first | omega | (simp only [List.length_append, List.length_cons, List.length_nil]; omega))) ?_
              refine AL_p rfl rfl (S_assign rfl (AEv.const _)) ?_
              refine AL_p rfl rfl (S_assign rfl (AEv.tmp rfl)) ?_
              refine AL_nil ?_
              refine AC_ret ?_
              refine ret_tmps (ts := [4, 5]) st rfl (by decide) rfl (Sub.l (List.Sublist.refl _)) (Conv.refl (Sub.l (List.Sublist.refl _)) _) ⟨cp_some hx (by rw [join_two, List.append_assoc]; rfl), rfl⟩ (.inl rfl)
            · try simp only [Bool.and_eq_true, Bool.or_eq_true, Bool.not_eq_true', Bool.not_eq_false', Bool.and_eq_false_iff, Bool.or_eq_false_iff, decide_eq_true_eq, decide_eq_false_iff_not, gd] at hb42
              have hk3 : valV (l[i]'hil).2 = true := hb42
              refine AC_skip ?_
              refine AC_region ?_
              refine AL_p rfl rfl (S_move rfl (AEv.tmp rfl)) ?_
              refine AL_p rfl rfl (S_addI rfl (AEv.tmp rfl) (AEv.const _) (by omega) (by omega)) ?_
              refine AL_p rfl rfl (S_assign rfl (AEv.tmp rfl)) ?_
              refine AL_nil ?_
              refine ⟨i + 1, ⟨by omega, fun j h => ?_⟩, by omega, (Sub.l (List.Sublist.refl _)), (.cons rfl (by first | exact Le.refl _ | exact Le.nils | exact Le.row _ _ _ _ | exact Le.of_eq (by first | rfl | (simp; done) | (push_cast; rfl) | (simp; omega))) .nil), (.cons rfl (Le.refl _) (.cons rfl (Le.refl _) .nil))⟩
              rcases Nat.lt_or_ge j i with h' | h'
              · exact hall j h'
              · have : j = i := by omega
                subst this
                exact label_ok hil hk1 hk2 hk3
      · try simp only [Bool.and_eq_true, Bool.or_eq_true, Bool.not_eq_true', Bool.not_eq_false', Bool.and_eq_false_iff, Bool.or_eq_false_iff, decide_eq_true_eq, decide_eq_false_iff_not, gd] at hb2
        have hend : (labelsE name l) = none := by rw [hgood, eachE_all fun j hj => hall j (by omega)]
        refine AC_exit ?_
        refine AC_seq ?_
        refine AC_region ?_
        refine AL_p rfl rfl (S_assign rfl (AEv.const _)) ?_
        refine AL_p rfl rfl (S_assign rfl (AEv.S _)) ?_
        refine AL_nil ?_
        refine AC_ret ?_
        refine ret_tmps (ts := [4, 5]) st rfl (by decide) rfl (Sub.l (List.Sublist.refl _)) (Conv.refl (Sub.l (List.Sublist.refl _)) _) ⟨cp_none hend, rfl⟩ (.inl rfl)

set_option maxRecDepth 100000 in
/-- provost/provostref06.three -/
theorem ref06_three_ok (r : Tri) : PCalls Tryz.prog 60 [resAV r] (resAV r) := by
  intro st
  refine ACalls_of (N := 10) Tryz.func60 (by kernel_rfl) rfl rfl rfl ?_
  refine AC_seq ?_
  refine AC_region ?_
  refine AL_step rfl rfl (S_box rfl (AEv.tmp rfl)) ?_
  rintro _ _ ⟨b1, rfl, rfl⟩
  refine AL_step rfl rfl (S_alloc [.int .i64 0, .int .i64 0, .int .i64 0] rfl (by kernel_rfl)) ?_
  rintro _ _ ⟨b2, rfl, rfl⟩
  refine AL_nil ?_
  refine AC_seq ?_
  refine AC_region ?_
  refine AL_p rfl rfl (S_field 0 rfl (AEv.tmp rfl) (by kernel_rfl)) ?_
  refine AL_p rfl rfl (S_load 1 rfl (AEv.tmp rfl) rfl rfl (by kernel_rfl)) ?_
  refine AL_p rfl rfl (S_field 1 rfl (AEv.tmp rfl) (by kernel_rfl)) ?_
  refine AL_p rfl rfl (S_load 1 rfl (AEv.tmp rfl) rfl rfl (by kernel_rfl)) ?_
  refine AL_p rfl rfl (S_field 2 rfl (AEv.tmp rfl) (by kernel_rfl)) ?_
  refine AL_p rfl rfl (S_load 1 rfl (AEv.tmp rfl) rfl rfl (by kernel_rfl)) ?_
  refine AL_p rfl rfl (S_build (t := 92) (pl := [(0, 1), (1, 1), (2, 1)]) (zs := [.int .i64 0, .int .i64 0, .int .i64 0]) rfl (AEvs.cons (AEv.tmp rfl) (AEvs.cons (AEv.tmp rfl) (AEvs.cons (AEv.tmp rfl) AEvs.nil))) (by kernel_rfl) rfl) ?_
  refine AL_step rfl rfl (S_storeW 0 rfl (AEv.tmp rfl) (AEv.tmp rfl) rfl rfl rfl (by kernel_rfl)) ?_
  rintro _ _ ⟨rfl, rfl⟩
  refine AL_nil ?_
  refine AC_ret ?_
  refine ret_cell 0 st rfl rfl rfl (by kernel_rfl) (Sub.l (List.Sublist.cons _ (List.Sublist.cons _ (List.Sublist.refl _)))) (Conv.refl (Sub.l (List.Sublist.cons _ (List.Sublist.cons _ (List.Sublist.refl _)))) _) ⟨rfl, rfl⟩ (.inl rfl)

set_option maxRecDepth 100000 in
/-- provost/provostref06.numbers -/
theorem ref06_numbers_ok (n lo : Tri) (free : Bool) : PCalls Tryz.prog 59 [resAV n, resAV lo, .bool free] (.int .i64 (numsI n lo free)) := by
  intro st
  refine ACalls_of (N := 36) Tryz.func59 (by kernel_rfl) rfl rfl rfl ?_
  refine AC_seq ?_
  refine AC_region ?_
  refine AL_step rfl rfl (S_box rfl (AEv.tmp rfl)) ?_
  rintro _ _ ⟨b3, rfl, rfl⟩
  refine AL_step rfl rfl (S_box rfl (AEv.tmp rfl)) ?_
  rintro _ _ ⟨b4, rfl, rfl⟩
  refine AL_p rfl rfl (S_assign rfl (AEv.const _)) ?_
  refine AL_nil ?_
  refine AC_seq ?_
  refine AC_seq ?_
  refine AC_region ?_
  refine AL_p rfl rfl (S_assign rfl (AEv.const _)) ?_
  refine AL_nil ?_
  refine AC_block ?_
  refine AC_loopK (G := Nat) [(2, _), (3, _), (4, _)] (fun k => k ≤ 3 ∧ ∀ j, j < k → badN (at3 n j) (at3 lo j) free = false) (fun g => [(7, .int .i64 (g : Int))]) (fun g => (b4, .cells (resL lo)) :: (b3, .cells (resL n)) :: st) (fun g => 3 - g) (0) (⟨by omega, fun j h => absurd h (Nat.not_lt_zero _)⟩) (Sub.l (List.Sublist.refl _)) (.cons rfl (Le.refl _) (.cons rfl (Le.refl _) (.cons rfl (Le.refl _) .nil))) (.cons rfl (by first | exact Le.refl _ | exact Le.nils | exact Le.row _ _ _ _ | exact Le.of_eq (by first | rfl | (simp; done) | (push_cast; rfl) | (simp; omega))) .nil) ?_
  · rintro k ⟨hk, hall⟩
    try dsimp only
    simp only [List.cons_append, List.nil_append]
    refine AC_seq ?_
    refine AC_seq ?_
    refine AC_region ?_
    refine AL_p rfl rfl (S_move rfl (AEv.tmp rfl)) ?_
    refine AL_p rfl rfl (S_lss rfl (AEv.tmp rfl) (AEv.const _)) ?_
    refine AL_nil ?_
    refine AC_cond (AEv.tmp rfl) (fun hb3 => ?_) (fun hb3 => ?_)
    · try simp only [Bool.and_eq_true, Bool.or_eq_true, Bool.not_eq_true', Bool.not_eq_false', Bool.and_eq_false_iff, Bool.or_eq_false_iff, decide_eq_true_eq, decide_eq_false_iff_not, gd] at hb3
      have hk3 : k < 3 := by omega
      refine AC_skip ?_
      refine AC_seq ?_
      refine AC_block ?_
      refine AC_seq ?_
      refine AC_draw (by kernel_rfl) (by kernel_rfl) (.cons rfl (Q_p rfl (S_move rfl (AEv.tmp rfl))) <|
          .cons rfl (Q_p rfl (S_not rfl (AEv.tmp rfl))) <|
          .cons rfl (Q_p rfl (S_move rfl (AEv.tmp rfl))) <|
          .cons rfl (Q_g rfl rfl (AEv.tmp rfl) (fun hg4 => S_move rfl (AEv.tmp rfl))) <|
          .cons rfl (Q_g rfl rfl (AEv.tmp rfl) (fun hg7 => S_elemA (e := 3) (len := 3) 1 rfl (AEv.tmp rfl) (AEv.cond (AEv.tmp rfl) (by first | assumption | exact gdAnd (by assumption) (by assumption))) (by kernel_rfl) (by kernel_rfl) (by (try simp only [gd, Bool.and_eq_true, Bool.or_eq_true, Bool.not_eq_true', Bool.not_eq_false', decide_eq_true_eq, decide_eq_false_iff_not, Bool.or_eq_false_iff, Bool.and_eq_false_iff] at *); omega) (by (try simp only [gd, Bool.and_eq_true, Bool.or_eq_true, Bool.not_eq_true', Bool.not_eq_false', decide_eq_true_eq, decide_eq_false_iff_not, Bool.or_eq_false_iff, Bool.and_eq_false_iff] at *); omega))) <|
          .cons rfl (Q_g rfl rfl (AEv.tmp rfl) (fun hg10 => S_load 1 rfl (AEv.cond (AEv.tmp rfl) (by first | assumption | exact gdAnd (by assumption) (by assumption))) rfl (c := .int .i64 (at3 n k)) (by rw [res_at (by assumption)]) (by kernel_rfl))) <|
          .cons rfl (Q_g rfl rfl (AEv.tmp rfl) (fun hg13 => S_neq rfl (AEv.cond (AEv.tmp rfl) (by first | assumption | exact gdAnd (by assumption) (by assumption))) (AEv.const _))) <|
          .cons rfl (Q_p rfl (S_or rfl (AEv.tmp rfl) (fun hp16 => (AEv.cond (AEv.tmp rfl) (by first | assumption | exact gdT hp16 | exact gdF hp16 | exact gdAnd (by assumption) (gdT hp16) | exact gdAnd (by assumption) (gdF hp16)))))) <|
          .cons rfl (Q_p rfl (S_move rfl (AEv.tmp rfl))) <|
          .cons rfl (Q_g rfl rfl (AEv.tmp rfl) (fun hg17 => S_move rfl (AEv.tmp rfl))) <|
          .cons rfl (Q_g rfl rfl (AEv.tmp rfl) (fun hg20 => S_elemA (e := 3) (len := 3) 1 rfl (AEv.tmp rfl) (AEv.cond (AEv.tmp rfl) (by first | assumption | exact gdAnd (by assumption) (by assumption))) (by kernel_rfl) (by kernel_rfl) (by (try simp only [gd, Bool.and_eq_true, Bool.or_eq_true, Bool.not_eq_true', Bool.not_eq_false', decide_eq_true_eq, decide_eq_false_iff_not, Bool.or_eq_false_iff, Bool.and_eq_false_iff] at *); omega) (by (try simp only [gd, Bool.and_eq_true, Bool.or_eq_true, Bool.not_eq_true', Bool.not_eq_false', decide_eq_true_eq, decide_eq_false_iff_not, Bool.or_eq_false_iff, Bool.and_eq_false_iff] at *); omega))) <|
          .cons rfl (Q_g rfl rfl (AEv.tmp rfl) (fun hg23 => S_load 1 rfl (AEv.cond (AEv.tmp rfl) (by first | assumption | exact gdAnd (by assumption) (by assumption))) rfl (c := .int .i64 (at3 n k)) (by rw [res_at (by assumption)]) (by kernel_rfl))) <|
          .cons rfl (Q_g rfl rfl (AEv.tmp rfl) (fun hg26 => S_move rfl (AEv.tmp rfl))) <|
          .cons rfl (Q_g rfl rfl (AEv.tmp rfl) (fun hg29 => S_elemA (e := 3) (len := 3) 1 rfl (AEv.tmp rfl) (AEv.cond (AEv.tmp rfl) (by first | assumption | exact gdAnd (by assumption) (by assumption))) (by kernel_rfl) (by kernel_rfl) (by (try simp only [gd, Bool.and_eq_true, Bool.or_eq_true, Bool.not_eq_true', Bool.not_eq_false', decide_eq_true_eq, decide_eq_false_iff_not, Bool.or_eq_false_iff, Bool.and_eq_false_iff] at *); omega) (by (try simp only [gd, Bool.and_eq_true, Bool.or_eq_true, Bool.not_eq_true', Bool.not_eq_false', decide_eq_true_eq, decide_eq_false_iff_not, Bool.or_eq_false_iff, Bool.and_eq_false_iff] at *); omega))) <|
          .cons rfl (Q_g rfl rfl (AEv.tmp rfl) (fun hg32 => S_load 0 rfl (AEv.cond (AEv.tmp rfl) (by first | assumption | exact gdAnd (by assumption) (by assumption))) rfl (c := .int .i64 (at3 lo k)) (by rw [res_at (by assumption)]) (by kernel_rfl))) <|
          .cons rfl (Q_g rfl rfl (AEv.tmp rfl) (fun hg35 => S_lss rfl (AEv.cond (AEv.tmp rfl) (by first | assumption | exact gdAnd (by assumption) (by assumption))) (AEv.cond (AEv.tmp rfl) (by first | assumption | exact gdAnd (by assumption) (by assumption))))) <|
          .cons rfl (Q_g rfl rfl (AEv.tmp rfl) (fun hg38 => S_move rfl (AEv.cond (AEv.tmp rfl) (by first | assumption | exact gdAnd (by assumption) (by assumption))))) <|
          .cons rfl (Q_gg rfl rfl (AEv.tmp rfl) (fun hg41 hg42 hg43 => S_move rfl (AEv.tmp rfl))) <|
          .cons rfl (Q_gg rfl rfl (AEv.tmp rfl) (fun hg44 hg45 hg46 => S_elemA (e := 3) (len := 3) 1 rfl (AEv.tmp rfl) (AEv.cond (AEv.tmp rfl) (by first | assumption | exact gdAnd (by assumption) (by assumption))) (by kernel_rfl) (by kernel_rfl) (by (try simp only [gd, Bool.and_eq_true, Bool.or_eq_true, Bool.not_eq_true', Bool.not_eq_false', decide_eq_true_eq, decide_eq_false_iff_not, Bool.or_eq_false_iff, Bool.and_eq_false_iff] at *); omega) (by (try simp only [gd, Bool.and_eq_true, Bool.or_eq_true, Bool.not_eq_true', Bool.not_eq_false', decide_eq_true_eq, decide_eq_false_iff_not, Bool.or_eq_false_iff, Bool.and_eq_false_iff] at *); omega))) <|
          .cons rfl (Q_gg rfl rfl (AEv.tmp rfl) (fun hg47 hg48 hg49 => S_load 1 rfl (AEv.cond (AEv.tmp rfl) (by first | assumption | exact gdAnd (by assumption) (by assumption))) rfl (c := .int .i64 (at3 n k)) (by rw [res_at (by assumption)]) (by kernel_rfl))) <|
          .cons rfl (Q_gg rfl rfl (AEv.tmp rfl) (fun hg50 hg51 hg52 => S_gtr rfl (AEv.cond (AEv.tmp rfl) (by first | assumption | exact gdAnd (by assumption) (by assumption))) (AEv.const _))) <|
          .cons rfl (Q_g rfl rfl (AEv.tmp rfl) (fun hg53 => S_or rfl (AEv.cond (AEv.tmp rfl) (by first | assumption | exact gdAnd (by assumption) (by assumption))) (fun hp56 => (AEv.cond (AEv.tmp rfl) (by first | assumption | exact gdT hp56 | exact gdF hp56 | exact gdAnd (by assumption) (gdT hp56) | exact gdAnd (by assumption) (gdF hp56)))))) <|
          .cons rfl (Q_p rfl (S_and rfl (AEv.tmp rfl) (fun hp57 => (AEv.cond (AEv.tmp rfl) (by first | assumption | exact gdT hp57 | exact gdF hp57 | exact gdAnd (by assumption) (gdT hp57) | exact gdAnd (by assumption) (gdF hp57)))))) <|
          .nil) ?_
      refine AC_cond (AEv.tmp rfl) (fun hb58 => ?_) (fun hb58 => ?_)
      · try simp only [Bool.and_eq_true, Bool.or_eq_true, Bool.not_eq_true', Bool.not_eq_false', Bool.and_eq_false_iff, Bool.or_eq_false_iff, decide_eq_true_eq, decide_eq_false_iff_not, gd] at hb58
        have hbn : badN (at3 n k) (at3 lo k) free = true := by
          unfold badN
          simp only [Bool.and_eq_true, Bool.or_eq_true, Bool.not_eq_true', decide_eq_true_eq, decide_eq_false_iff_not] at hb58 ⊢
          exact hb58
        refine AC_seq ?_
        refine AC_region ?_
        refine AL_p rfl rfl (S_move rfl (AEv.tmp rfl)) ?_
        refine AL_p rfl rfl (S_assign rfl (AEv.tmp rfl)) ?_
        refine AL_nil ?_
        refine AC_ret ?_
        refine ret_tmp st rfl rfl (Sub.l (List.Sublist.cons _ (List.Sublist.cons _ (List.Sublist.refl _)))) (Conv.refl (Sub.l (List.Sublist.cons _ (List.Sublist.cons _ (List.Sublist.refl _)))) _) ⟨by rw [nums_at hk3 hbn hall], rfl⟩ (.inl rfl)
      · try simp only [Bool.and_eq_true, Bool.or_eq_true, Bool.not_eq_true', Bool.not_eq_false', Bool.and_eq_false_iff, Bool.or_eq_false_iff, decide_eq_true_eq, decide_eq_false_iff_not, gd] at hb58
        have hbn : badN (at3 n k) (at3 lo k) free = false := by
          unfold badN
          simp only [Bool.and_eq_false_iff, Bool.or_eq_false_iff, Bool.not_eq_false', decide_eq_true_eq, decide_eq_false_iff_not] at hb58 ⊢
          exact hb58
        refine AC_skip ?_
        refine AC_region ?_
        refine AL_p rfl rfl (S_move rfl (AEv.tmp rfl)) ?_
        refine AL_p rfl rfl (S_addI rfl (AEv.tmp rfl) (AEv.const _) (by omega) (by omega)) ?_
        refine AL_p rfl rfl (S_assign rfl (AEv.tmp rfl)) ?_
        refine AL_nil ?_
        refine ⟨k + 1, ⟨by omega, fun j h => ?_⟩, by omega, (Sub.l (List.Sublist.refl _)), (.cons rfl (by first | exact Le.refl _ | exact Le.nils | exact Le.row _ _ _ _ | exact Le.of_eq (by first | rfl | (simp; done) | (push_cast; rfl) | (simp; omega))) .nil), (.cons rfl (Le.refl _) (.cons rfl (Le.refl _) (.cons rfl (Le.refl _) .nil)))⟩
        rcases Nat.lt_or_ge j k with h' | h'
        · exact hall j h'
        · have : j = k := by omega
          subst this
          exact hbn
    · try simp only [Bool.and_eq_true, Bool.or_eq_true, Bool.not_eq_true', Bool.not_eq_false', Bool.and_eq_false_iff, Bool.or_eq_false_iff, decide_eq_true_eq, decide_eq_false_iff_not, gd] at hb3
      have hk3 : ¬ k < 3 := by omega
      refine AC_exit ?_
      refine AC_seq ?_
      refine AC_region ?_
      refine AL_p rfl rfl (S_assign rfl (AEv.const _)) ?_
      refine AL_nil ?_
      refine AC_ret ?_
      refine ret_tmp st rfl rfl (Sub.l (List.Sublist.cons _ (List.Sublist.cons _ (List.Sublist.refl _)))) (Conv.refl (Sub.l (List.Sublist.cons _ (List.Sublist.cons _ (List.Sublist.refl _)))) _) ⟨by rw [nums_none fun j hj => hall j (by omega)], rfl⟩ (.inl rfl)

set_option maxRecDepth 100000 in
/-- provost/provostref06.Has -/
theorem ref06_Has_ok (l : List Ctr) (n : Int) (hl : l.length ≤ 1000000) (hp : ∀ c ∈ l, c.ports.length ≤ 1000000) : PCalls Tryz.prog 61 [.sl (ctrsV l), .int .i64 n] (.bool (decide (n ∈ l.flatMap Ctr.ports))) := by
  intro st
  refine ACalls_of (N := 33) Tryz.func61 (by kernel_rfl) rfl rfl rfl ?_
  refine AC_seq ?_
  refine AC_region ?_
  refine AL_p rfl rfl (S_assign rfl (AEv.const _)) ?_
  refine AL_nil ?_
  refine AC_seq ?_
  refine AC_seq ?_
  refine AC_region ?_
  refine AL_p rfl rfl (S_assign rfl (AEv.const _)) ?_
  refine AL_nil ?_
  refine AC_block ?_
  refine AC_loopK (G := Nat) [(0, _), (1, _)] (fun g => g ≤ l.length ∧ n ∉ (l.take g).flatMap Ctr.ports) (fun g => [(5, .int .i64 (g : Int))]) (fun g => st) (fun g => l.length - g) (0) (⟨Nat.zero_le _, by simp⟩) (Sub.l (List.Sublist.refl _)) (.cons rfl (Le.refl _) (.cons rfl (Le.refl _) .nil)) (.cons rfl (by first | exact Le.refl _ | exact Le.nils | exact Le.row _ _ _ _ | exact Le.of_eq (by first | rfl | (simp; done) | (push_cast; rfl) | (simp; omega))) .nil) ?_
  · rintro i ⟨hi, hno⟩
    try dsimp only
    simp only [List.cons_append, List.nil_append]
    refine AC_seq ?_
    refine AC_seq ?_
    refine AC_region ?_
    refine AL_p rfl rfl (S_move rfl (AEv.tmp rfl)) ?_
    refine AL_p rfl rfl (S_move rfl (AEv.tmp rfl)) ?_
    refine AL_p rfl rfl (by first | exact S_lenM (e := 52) rfl (AEv.tmp rfl) (by kernel_rfl) | exact S_len (e := 52) rfl (AEv.tmp rfl) (by kernel_rfl)) ?_
    refine AL_p rfl rfl (S_lss rfl (AEv.tmp rfl) (AEv.tmp rfl)) ?_
    refine AL_nil ?_
    refine AC_cond (AEv.tmp rfl) (fun hb1 => ?_) (fun hb1 => ?_)
    · try simp only [Bool.and_eq_true, Bool.or_eq_true, Bool.not_eq_true', Bool.not_eq_false', Bool.and_eq_false_iff, Bool.or_eq_false_iff, decide_eq_true_eq, decide_eq_false_iff_not, gd] at hb1
      have hil : i < l.length := by omega
      have hpl := hp _ (List.getElem_mem hil)
      refine AC_skip ?_
      refine AC_seq ?_
      refine AC_block ?_
      refine AC_seq ?_
      refine AC_region ?_
      refine AL_p rfl rfl (S_assign rfl (AEv.const _)) ?_
      refine AL_nil ?_
      refine AC_block ?_
      refine AC_loopK (G := Nat) [(0, _), (1, _), (5, _)] (fun g => g ≤ (l[i]'hil).ports.length ∧ n ∉ (l[i]'hil).ports.take g) (fun g => [(6, .int .i64 (g : Int))]) (fun g => st) (fun g => (l[i]'hil).ports.length - g) (0) (⟨Nat.zero_le _, by simp⟩) (Sub.l (List.Sublist.refl _)) (.cons rfl (Le.refl _) (.cons rfl (Le.refl _) (.cons rfl (Le.refl _) .nil))) (.cons rfl (by first | exact Le.refl _ | exact Le.nils | exact Le.row _ _ _ _ | exact Le.of_eq (by first | rfl | (simp; done) | (push_cast; rfl) | (simp; omega))) .nil) ?_
      · rintro k ⟨hk, hnk⟩
        try dsimp only
        simp only [List.cons_append, List.nil_append]
        refine AC_seq ?_
        refine AC_seq ?_
        refine AC_region ?_
        refine AL_p rfl rfl (S_move rfl (AEv.tmp rfl)) ?_
        refine AL_p rfl rfl (S_move rfl (AEv.tmp rfl)) ?_
        refine AL_p rfl rfl (S_move rfl (AEv.tmp rfl)) ?_
        refine AL_p rfl rfl (S_elemN (e := 52) 11 rfl (AEv.tmp rfl) (AEv.tmp rfl) (by kernel_rfl) (by kernel_rfl) (by omega) (fun _ => rfl)) ?_
        refine AL_p rfl rfl (S_fieldP 8 rfl (AEv.tmp rfl) (by kernel_rfl)) ?_
        refine AL_p rfl rfl (S_loadP rfl (AEv.tmp rfl) rfl (by kernel_rfl)) ?_
        refine AL_p rfl rfl (by first | exact S_lenM (e := 3) rfl (AEv.tmp rfl) (by kernel_rfl) | exact S_len (e := 3) rfl (AEv.tmp rfl) (by kernel_rfl)) ?_
        refine AL_p rfl rfl (S_lss rfl (AEv.tmp rfl) (AEv.tmp rfl)) ?_
        refine AL_nil ?_
        refine AC_cond (AEv.tmp rfl) (fun hb2 => ?_) (fun hb2 => ?_)
        · try simp only [Bool.and_eq_true, Bool.or_eq_true, Bool.not_eq_true', Bool.not_eq_false', Bool.and_eq_false_iff, Bool.or_eq_false_iff, decide_eq_true_eq, decide_eq_false_iff_not, gd] at hb2
          have hkl : k < (l[i]'hil).ports.length := by omega
          refine AC_skip ?_
          refine AC_seq ?_
          refine AC_block ?_
          refine AC_seq ?_
          refine AC_region ?_
          refine AL_p rfl rfl (S_move rfl (AEv.tmp rfl)) ?_
          refine AL_p rfl rfl (S_move rfl (AEv.tmp rfl)) ?_
          refine AL_p rfl rfl (S_elemN (e := 52) 11 rfl (AEv.tmp rfl) (AEv.tmp rfl) (by kernel_rfl) (by kernel_rfl) (by omega) (fun _ => rfl)) ?_
          refine AL_p rfl rfl (S_fieldP 8 rfl (AEv.tmp rfl) (by kernel_rfl)) ?_
          refine AL_p rfl rfl (S_loadP rfl (AEv.tmp rfl) rfl (by kernel_rfl)) ?_
          refine AL_p rfl rfl (S_move rfl (AEv.tmp rfl)) ?_
          refine AL_p rfl rfl (S_elemN (e := 3) 1 rfl (AEv.tmp rfl) (AEv.tmp rfl) (by kernel_rfl) (by kernel_rfl) (by omega) (fun _ => rfl)) ?_
          refine AL_p rfl rfl (S_loadP rfl (AEv.tmp rfl) rfl (by kernel_rfl)) ?_
          refine AL_p rfl rfl (S_move rfl (AEv.tmp rfl)) ?_
          refine AL_p rfl rfl (S_eql rfl (AEv.tmp rfl) (AEv.tmp rfl)) ?_
          refine AL_nil ?_
          refine AC_cond (AEv.tmp rfl) (fun hb3 => ?_) (fun hb3 => ?_)
          · try simp only [Bool.and_eq_true, Bool.or_eq_true, Bool.not_eq_true', Bool.not_eq_false', Bool.and_eq_false_iff, Bool.or_eq_false_iff, decide_eq_true_eq, decide_eq_false_iff_not, gd] at hb3
            have hin : n ∈ l.flatMap Ctr.ports := List.mem_flatMap.2 ⟨_, List.getElem_mem hil, by have := hb3; rw [← this]; exact List.getElem_mem hkl⟩
            refine AC_seq ?_
            refine AC_region ?_
            refine AL_p rfl rfl (S_assign rfl (AEv.const _)) ?_
            refine AL_nil ?_
            refine AC_ret ?_
            refine ret_tmp st rfl rfl (Sub.l (List.Sublist.refl _)) (Conv.refl (Sub.l (List.Sublist.refl _)) _) ⟨by rw [decide_eq_true hin], rfl⟩ (.inl rfl)
          · try simp only [Bool.and_eq_true, Bool.or_eq_true, Bool.not_eq_true', Bool.not_eq_false', Bool.and_eq_false_iff, Bool.or_eq_false_iff, decide_eq_true_eq, decide_eq_false_iff_not, gd] at hb3
            have hne : ((l[i]'hil).ports[k]'hkl) ≠ n := hb3
            refine AC_skip ?_
            refine AC_region ?_
            refine AL_p rfl rfl (S_move rfl (AEv.tmp rfl)) ?_
            refine AL_p rfl rfl (S_addI rfl (AEv.tmp rfl) (AEv.const _) (by omega) (by omega)) ?_
            refine AL_p rfl rfl (S_assign rfl (AEv.tmp rfl)) ?_
            refine AL_nil ?_
            exact ⟨k + 1, ⟨by omega, by rw [← take_snoc hkl]; exact fun h => (List.mem_append.1 h).elim hnk fun h => hne (by simpa using (List.mem_singleton.1 h).symm)⟩, by omega, (Sub.l (List.Sublist.refl _)), (.cons rfl (by first | exact Le.refl _ | exact Le.nils | exact Le.row _ _ _ _ | exact Le.of_eq (by first | rfl | (simp; done) | (push_cast; rfl) | (simp; omega))) .nil), (.cons rfl (Le.refl _) (.cons rfl (Le.refl _) (.cons rfl (Le.refl _) .nil)))⟩
        · try simp only [Bool.and_eq_true, Bool.or_eq_true, Bool.not_eq_true', Bool.not_eq_false', Bool.and_eq_false_iff, Bool.or_eq_false_iff, decide_eq_true_eq, decide_eq_false_iff_not, gd] at hb2
          have hend : n ∉ (l[i]'hil).ports := by rw [List.take_of_length_le (by omega)] at hnk; exact hnk
          refine AC_exit ?_
          refine AC_region ?_
          refine AL_p rfl rfl (S_move rfl (AEv.tmp rfl)) ?_
          refine AL_p rfl rfl (S_addI rfl (AEv.tmp rfl) (AEv.const _) (by omega) (by omega)) ?_
          refine AL_p rfl rfl (S_assign rfl (AEv.tmp rfl)) ?_
          refine AL_nil ?_
          exact ⟨i + 1, ⟨by omega, by rw [← flat_snoc hil]; exact fun h => (List.mem_append.1 h).elim hno hend⟩, by omega, (Sub.l (List.Sublist.refl _)), (.cons rfl (by first | exact Le.refl _ | exact Le.nils | exact Le.row _ _ _ _ | exact Le.of_eq (by first | rfl | (simp; done) | (push_cast; rfl) | (simp; omega))) .nil), (.cons rfl (Le.refl _) (.cons rfl (Le.refl _) .nil))⟩
    · try simp only [Bool.and_eq_true, Bool.or_eq_true, Bool.not_eq_true', Bool.not_eq_false', Bool.and_eq_false_iff, Bool.or_eq_false_iff, decide_eq_true_eq, decide_eq_false_iff_not, gd] at hb1
      have hdone : n ∉ l.flatMap Ctr.ports := by rw [List.take_of_length_le (by omega)] at hno; exact hno
      refine AC_exit ?_
      refine AC_seq ?_
      refine AC_region ?_
      refine AL_p rfl rfl (S_assign rfl (AEv.const _)) ?_
      refine AL_nil ?_
      refine AC_ret ?_
      refine ret_tmp st rfl rfl (Sub.l (List.Sublist.refl _)) (Conv.refl (Sub.l (List.Sublist.refl _)) _) ⟨by rw [decide_eq_false hdone], rfl⟩ (.inl rfl)

end Go.Proofs.YtfdcadnaginnpaaGreatDoor

/-
The walks of Go functions in the logic AL: what each of them answers.
Conditions: those of each theorem.
-/
set_option linter.unusedVariables false
set_option linter.unusedSimpArgs false
namespace Go.Proofs.YtfdcadnaginnpaaGreatDoor
open Go.AL Go.NumSpec

set_option maxRecDepth 100000 in
set_option maxHeartbeats 1000000 in
/-- provost/provostref06.one -/
theorem ref06_one_ok (c : Ctr) (ahead : List Ctr) (init : Bool) (hn : c.name.length ≤ 1000000) (him : c.image.length ≤ 1000000) (hpc : c.ports.length ≤ 1000000) (ha : ahead.length ≤ 1000000) (hap : ∀ x ∈ ahead, x.ports.length ≤ 1000000) : PCalls Tryz.prog 34 [ctrAV c, .sl (ctrsV ahead), .bool init] (cpAV (ctrE (ahead.map Ctr.name) (ahead.flatMap Ctr.ports) c (if init = true then 0 else 3) (if init = true then 0 else 1000))) := by
  intro st
  refine ACalls_of (N := 175) Tryz.func34 (by kernel_rfl) rfl rfl rfl ?_
  refine AC_seq ?_
  refine AC_region ?_
  refine AL_step rfl rfl (S_box rfl (AEv.tmp rfl)) ?_
  rintro _ _ ⟨b3, rfl, rfl⟩
  refine AL_p rfl rfl (S_assign rfl (AEv.const _)) ?_
  refine AL_p rfl rfl (S_assign rfl (AEv.S _)) ?_
  refine AL_nil ?_
  refine AC_seq ?_
  refine AC_seq ?_
  refine AC_region ?_
  refine AL_p rfl rfl (S_field 0 rfl (AEv.tmp rfl) (by kernel_rfl)) ?_
  refine AL_p rfl rfl (S_load 0 rfl (AEv.tmp rfl) rfl rfl (by kernel_rfl)) ?_
  refine AL_p rfl rfl (S_pcall rfl (AEvs.cons (AEv.tmp rfl) AEvs.nil) (ref03_Name_ok c.name (by omega))) ?_
  refine AL_p rfl rfl (S_not rfl (AEv.tmp rfl)) ?_
  refine AL_nil ?_
  refine AC_cond (AEv.tmp rfl) (fun hb2 => ?_) (fun hb2 => ?_)
  · try simp only [Bool.and_eq_true, Bool.or_eq_true, Bool.not_eq_true', Bool.not_eq_false', Bool.and_eq_false_iff, Bool.or_eq_false_iff, decide_eq_true_eq, decide_eq_false_iff_not, gd] at hb2
    have hx := one_1 (ps := (ahead.flatMap Ctr.ports)) (a := (if init = true then 0 else 3)) (b := (if init = true then 0 else 1000)) (nameE_bad (ns := (ahead.map Ctr.name)) (c := c) hb2)
    refine AC_seq ?_
    refine AC_region ?_
    refine AL_p rfl rfl (S_assign rfl (AEv.const _)) ?_
    refine AL_p rfl rfl (S_assign rfl (AEv.S _)) ?_
    refine AL_nil ?_
    refine AC_ret ?_
    refine ret_tmps (ts := [6, 7]) st rfl (by decide) rfl (Sub.l (List.Sublist.cons _ (List.Sublist.refl _))) (Conv.refl (Sub.l (List.Sublist.cons _ (List.Sublist.refl _))) _) ⟨cp_some hx rfl, rfl⟩ (.inl rfl)
  · try simp only [Bool.and_eq_true, Bool.or_eq_true, Bool.not_eq_true', Bool.not_eq_false', Bool.and_eq_false_iff, Bool.or_eq_false_iff, decide_eq_true_eq, decide_eq_false_iff_not, gd] at hb2
    have hnv : nameV c.name = true := hb2
    refine AC_skip ?_
    refine AC_seq ?_
    refine AC_seq ?_
    refine AC_region ?_
    refine AL_p rfl rfl (S_assign rfl (AEv.const _)) ?_
    refine AL_nil ?_
    refine AC_block ?_
    refine AC_loopK (G := Nat) [(1, _), (2, _), (3, _)] (fun g => g ≤ ahead.length ∧ c.name ∉ (ahead.take g).map Ctr.name) (fun g => [(8, .int .i64 (g : Int))]) (fun g => (b3, .cells (ctrL c)) :: st) (fun g => ahead.length - g) (0) (⟨Nat.zero_le _, by simp⟩) (Sub.l (List.Sublist.refl _)) (.cons rfl (Le.refl _) (.cons rfl (Le.refl _) (.cons rfl (Le.refl _) .nil))) (.cons rfl (by first | exact Le.refl _ | exact Le.nils | exact Le.row _ _ _ _ | exact Le.of_eq (by first | rfl | (simp; done) | (push_cast; rfl) | (simp; omega))) .nil) ?_
    · rintro i ⟨hi, hno⟩
      try dsimp only
      simp only [List.cons_append, List.nil_append]
      refine AC_seq ?_
      refine AC_seq ?_
      refine AC_region ?_
      refine AL_p rfl rfl (S_move rfl (AEv.tmp rfl)) ?_
      refine AL_p rfl rfl (S_move rfl (AEv.tmp rfl)) ?_
      refine AL_p rfl rfl (by first | exact S_lenM (e := 52) rfl (AEv.tmp rfl) (by kernel_rfl) | exact S_len (e := 52) rfl (AEv.tmp rfl) (by kernel_rfl)) ?_
      refine AL_p rfl rfl (S_lss rfl (AEv.tmp rfl) (AEv.tmp rfl)) ?_
      refine AL_nil ?_
      refine AC_cond (AEv.tmp rfl) (fun hb3 => ?_) (fun hb3 => ?_)
      · try simp only [Bool.and_eq_true, Bool.or_eq_true, Bool.not_eq_true', Bool.not_eq_false', Bool.and_eq_false_iff, Bool.or_eq_false_iff, decide_eq_true_eq, decide_eq_false_iff_not, gd] at hb3
        have hil : i < ahead.length := by omega
        refine AC_skip ?_
        refine AC_seq ?_
        refine AC_block ?_
        refine AC_seq ?_
        refine AC_draw (by kernel_rfl) (by kernel_rfl) (.cons rfl (Q_p rfl (S_move rfl (AEv.tmp rfl))) <|
            .cons rfl (Q_p rfl (S_move rfl (AEv.tmp rfl))) <|
            .cons rfl (Q_p rfl (S_elemN (e := 52) 11 rfl (AEv.tmp rfl) (AEv.tmp rfl) (by kernel_rfl) (by kernel_rfl) (by omega) (fun _ => rfl))) <|
            .cons rfl (Q_p rfl (S_fieldP 0 rfl (AEv.tmp rfl) (by kernel_rfl))) <|
            .cons rfl (Q_p rfl (S_loadP rfl (AEv.tmp rfl) rfl (by kernel_rfl))) <|
            .cons rfl (Q_p rfl (S_field 0 rfl (AEv.tmp rfl) (by kernel_rfl))) <|
            .cons rfl (Q_p rfl (S_load 0 rfl (AEv.tmp rfl) rfl rfl (by kernel_rfl))) <|
            .cons rfl (Q_p rfl (S_eqS rfl (AEv.tmp rfl) (AEv.tmp rfl))) <|
            .nil) ?_
        refine AC_cond (AEv.tmp rfl) (fun hb4 => ?_) (fun hb4 => ?_)
        · try simp only [Bool.and_eq_true, Bool.or_eq_true, Bool.not_eq_true', Bool.not_eq_false', Bool.and_eq_false_iff, Bool.or_eq_false_iff, decide_eq_true_eq, decide_eq_false_iff_not, gd] at hb4
          have hx := one_1 (ps := (ahead.flatMap Ctr.ports)) (a := (if init = true then 0 else 3)) (b := (if init = true then 0 else 1000)) (nameE_there (ns := (ahead.map Ctr.name)) (c := c) hnv (by have := hb4; rw [← this]; exact List.mem_map_of_mem (List.getElem_mem hil)))
          refine AC_seq ?_
          refine AC_region ?_
          refine AL_p rfl rfl (S_assign rfl (AEv.const _)) ?_
          refine AL_p rfl rfl (S_assign rfl (AEv.S _)) ?_
          refine AL_nil ?_
          refine AC_ret ?_
          refine ret_tmps (ts := [6, 7]) st rfl (by decide) rfl (Sub.l (List.Sublist.cons _ (List.Sublist.refl _))) (Conv.refl (Sub.l (List.Sublist.cons _ (List.Sublist.refl _))) _) ⟨cp_some hx rfl, rfl⟩ (.inl rfl)
        · try simp only [Bool.and_eq_true, Bool.or_eq_true, Bool.not_eq_true', Bool.not_eq_false', Bool.and_eq_false_iff, Bool.or_eq_false_iff, decide_eq_true_eq, decide_eq_false_iff_not, gd] at hb4
          have hne : (ahead[i]'hil).name ≠ c.name := hb4
          refine AC_skip ?_
          refine AC_region ?_
          refine AL_p rfl rfl (S_move rfl (AEv.tmp rfl)) ?_
          refine AL_p rfl rfl (S_addI rfl (AEv.tmp rfl) (AEv.const _) (by omega) (by omega)) ?_
          refine AL_p rfl rfl (S_assign rfl (AEv.tmp rfl)) ?_
          refine AL_nil ?_
          exact ⟨i + 1, ⟨by omega, by
            rw [List.take_succ_eq_append_getElem hil, List.map_append]
            intro h
            rcases List.mem_append.1 h with h | h
            · exact hno h
            · simp only [List.map_cons, List.map_nil, List.mem_singleton] at h; exact hne h.symm⟩, by omega, (Sub.l (List.Sublist.refl _)), (.cons rfl (by first | exact Le.refl _ | exact Le.nils | exact Le.row _ _ _ _ | exact Le.of_eq (by first | rfl | (simp; done) | (push_cast; rfl) | (simp; omega))) .nil), (.cons rfl (Le.refl _) (.cons rfl (Le.refl _) (.cons rfl (Le.refl _) .nil)))⟩
      · try simp only [Bool.and_eq_true, Bool.or_eq_true, Bool.not_eq_true', Bool.not_eq_false', Bool.and_eq_false_iff, Bool.or_eq_false_iff, decide_eq_true_eq, decide_eq_false_iff_not, gd] at hb3
        have hn0 : nameE (ahead.map Ctr.name) c.name = none := nameE_ok hnv (by rw [List.take_of_length_le (by omega)] at hno; exact hno)
        refine AC_exit ?_
        refine AC_seq ?_
        refine AC_region ?_
        refine AL_p rfl rfl (S_field 1 rfl (AEv.tmp rfl) (by kernel_rfl)) ?_
        refine AL_p rfl rfl (S_load 0 rfl (AEv.tmp rfl) rfl rfl (by kernel_rfl)) ?_
        refine AL_p rfl rfl (S_pcall rfl (AEvs.cons (AEv.tmp rfl) AEvs.nil) (ref03_Split_ok c.image (by omega))) ?_
        refine AL_p rfl rfl (S_move rfl (AEv.tmp rfl)) ?_
        refine AL_p rfl rfl (S_extract 0 rfl (AEv.tmp rfl) rfl) ?_
        refine AL_p rfl rfl (S_extract 1 rfl (AEv.tmp rfl) rfl) ?_
        refine AL_p rfl rfl (S_extract 2 rfl (AEv.tmp rfl) rfl) ?_
        refine AL_p rfl rfl (S_assign rfl (AEv.tmp rfl)) ?_
        refine AL_p rfl rfl (S_assign rfl (AEv.tmp rfl)) ?_
        refine AL_p rfl rfl (S_assign rfl (AEv.tmp rfl)) ?_
        refine AL_nil ?_
        refine AC_seq ?_
        refine AC_seq ?_
        refine AC_region ?_
        refine AL_p rfl rfl (S_move rfl (AEv.tmp rfl)) ?_
        refine AL_p rfl rfl (S_not rfl (AEv.tmp rfl)) ?_
        refine AL_nil ?_
        refine AC_cond (AEv.tmp rfl) (fun hb5 => ?_) (fun hb5 => ?_)
        · try simp only [Bool.and_eq_true, Bool.or_eq_true, Bool.not_eq_true', Bool.not_eq_false', Bool.and_eq_false_iff, Bool.or_eq_false_iff, decide_eq_true_eq, decide_eq_false_iff_not, gd] at hb5
          have hx := one_2 (ps := (ahead.flatMap Ctr.ports)) (a := (if init = true then 0 else 3)) (b := (if init = true then 0 else 1000)) hn0 (show imgE c = some (33, [[105, 109, 97, 103, 101]]) by unfold imgE; rw [hb5]; rfl)
          refine AC_seq ?_
          refine AC_region ?_
          refine AL_p rfl rfl (S_assign rfl (AEv.const _)) ?_
          refine AL_p rfl rfl (S_assign rfl (AEv.S _)) ?_
          refine AL_nil ?_
          refine AC_ret ?_
          refine ret_tmps (ts := [6, 7]) st rfl (by decide) rfl (Sub.l (List.Sublist.cons _ (List.Sublist.refl _))) (Conv.refl (Sub.l (List.Sublist.cons _ (List.Sublist.refl _))) _) ⟨cp_some hx rfl, rfl⟩ (.inl rfl)
        · try simp only [Bool.and_eq_true, Bool.or_eq_true, Bool.not_eq_true', Bool.not_eq_false', Bool.and_eq_false_iff, Bool.or_eq_false_iff, decide_eq_true_eq, decide_eq_false_iff_not, gd] at hb5
          have hi0 : imgE c = none := by unfold imgE; rw [hb5]; rfl
          refine AC_skip ?_
          refine AC_seq ?_
          refine AC_region ?_
          refine AL_p rfl rfl (S_buildSlice (e := 9) 1 rfl (AEvs.cons (AEv.S _) (AEvs.cons (AEv.S _) (AEvs.cons (AEv.S _) AEvs.nil))) rfl (by kernel_rfl) (by kernel_rfl) (by intro y hy; simp only [List.mem_cons, List.not_mem_nil, or_false] at hy; rcases hy with rfl | rfl | rfl <;> exact ⟨rfl, rfl⟩) (by decide) (by decide) (by decide)) ?_
          refine AL_p rfl rfl (S_assign rfl (AEv.tmp rfl)) ?_
          refine AL_nil ?_
          refine AC_seq ?_
          refine AC_region ?_
          refine AL_p rfl rfl (S_field 2 rfl (AEv.tmp rfl) (by kernel_rfl)) ?_
          refine AL_p rfl rfl (S_loadN (m := 3) 0 rfl (AEv.tmp rfl) rfl (by kernel_rfl) (by first | exact Nat.le_of_ble_eq_true rfl | (simp; omega) | simp)) ?_
          refine AL_p rfl rfl (S_pcall rfl (AEvs.cons (y := resAV c.req) (AEv.tmp rfl) AEvs.nil) (ref06_three_ok c.req)) ?_
          refine AL_p rfl rfl (S_build (t := 92) (pl := [(0, 1), (1, 1), (2, 1)]) (zs := [.int .i64 0, .int .i64 0, .int .i64 0]) rfl AEvs.nil (by kernel_rfl) rfl) ?_
          refine AL_p rfl rfl (S_pcall rfl (AEvs.cons (y := resAV c.req) (AEv.tmp rfl) (AEvs.cons (y := resAV (0, 0, 0)) (AEv.tmp rfl) (AEvs.cons (AEv.const _) AEvs.nil))) (ref06_numbers_ok c.req (0, 0, 0) false)) ?_
          refine AL_p rfl rfl (S_assign rfl (AEv.tmp rfl)) ?_
          refine AL_nil ?_
          refine AC_seq ?_
          refine AC_seq ?_
          refine AC_region ?_
          refine AL_p rfl rfl (S_move rfl (AEv.tmp rfl)) ?_
          refine AL_p rfl rfl (S_geq rfl (AEv.tmp rfl) (AEv.const _)) ?_
          refine AL_nil ?_
          refine AC_cond (AEv.tmp rfl) (fun hb6 => ?_) (fun hb6 => ?_)
          · try simp only [Bool.and_eq_true, Bool.or_eq_true, Bool.not_eq_true', Bool.not_eq_false', Bool.and_eq_false_iff, Bool.or_eq_false_iff, decide_eq_true_eq, decide_eq_false_iff_not, gd] at hb6
            have hx := one_3 (ps := (ahead.flatMap Ctr.ports)) (a := (if init = true then 0 else 3)) (b := (if init = true then 0 else 1000)) hn0 hi0 (show reqE c.req = _ by rw [req_nums, if_pos (by omega)])
            have hk9 : (numsI c.req (0, 0, 0) false).toNat < numN.length := by have := (numsI_range c.req (0, 0, 0) false).2; show _ < 3; omega
            have hk8 := num_len hk9
            refine AC_seq ?_
            refine AC_draw (by kernel_rfl) (by kernel_rfl) (.cons rfl (Q_p rfl (S_move rfl (AEv.tmp rfl))) <|
                .cons rfl (Q_p rfl (S_move rfl (AEv.tmp rfl))) <|
                .cons rfl (Q_p rfl (S_elemN (e := 9) (f := fun s => .S s) (l := numN) (i := (numsI c.req (0, 0, 0) false).toNat) 1 rfl (AEv.tmp rfl) ((AEv.tmp rfl).le (Le.of_eq (congrArg (AV.int _) (show (numsI c.req (0, 0, 0) false) = (((numsI c.req (0, 0, 0) false).toNat : Nat) : Int) by omega)))) (by kernel_rfl) (by kernel_rfl) (by have := (numsI_range c.req (0, 0, 0) false).2; show _ < 3; omega) (fun _ => rfl))) <|
                .cons rfl (Q_p rfl (S_loadP rfl (AEv.tmp rfl) rfl (by kernel_rfl))) <|
                .cons rfl (Q_p rfl (S_cat rfl (AEv.S _) (AEv.tmp rfl) (by first | omega | (simp only [List.length_append, List.length_cons, List.length_nil]; omega)))) <|
                .cons rfl (Q_p rfl (S_assign rfl (AEv.const _))) <|
                .cons rfl (Q_p rfl (S_assign rfl (AEv.tmp rfl))) <|
                .nil) ?_
            refine AC_ret ?_
            refine ret_tmps (ts := [6, 7]) st rfl (by decide) rfl (Sub.l (List.Sublist.cons _ (List.Sublist.refl _))) (Conv.refl (Sub.l (List.Sublist.cons _ (List.Sublist.refl _))) _) ⟨cp_some hx (by rw [join_two]; exact num_text [114, 101, 113] hk9), rfl⟩ (.inl rfl)
          · try simp only [Bool.and_eq_true, Bool.or_eq_true, Bool.not_eq_true', Bool.not_eq_false', Bool.and_eq_false_iff, Bool.or_eq_false_iff, decide_eq_true_eq, decide_eq_false_iff_not, gd] at hb6
            have hr0 : reqE c.req = none := by rw [req_nums, if_neg (by omega)]
            refine AC_skip ?_
            refine AC_seq ?_
            refine AC_draw (by kernel_rfl) (by kernel_rfl) (.cons rfl (Q_p rfl (S_field 5 rfl (AEv.tmp rfl) (by kernel_rfl))) <|
                .cons rfl (Q_p rfl (S_loadN (m := 3) 0 rfl (AEv.tmp rfl) rfl (by kernel_rfl) (by first | exact Nat.le_of_ble_eq_true rfl | (simp; omega) | simp))) <|
                .cons rfl (Q_p rfl (S_pcall rfl (AEvs.cons (y := resAV c.lim) (AEv.tmp rfl) AEvs.nil) (ref06_three_ok c.lim))) <|
                .cons rfl (Q_p rfl (S_field 2 rfl (AEv.tmp rfl) (by kernel_rfl))) <|
                .cons rfl (Q_p rfl (S_loadN (m := 3) 0 rfl (AEv.tmp rfl) rfl (by kernel_rfl) (by first | exact Nat.le_of_ble_eq_true rfl | (simp; omega) | simp))) <|
                .cons rfl (Q_p rfl (S_pcall rfl (AEvs.cons (y := resAV c.req) (AEv.tmp rfl) AEvs.nil) (ref06_three_ok c.req))) <|
                .cons rfl (Q_p rfl (S_pcall rfl (AEvs.cons (AEv.tmp rfl) (AEvs.cons (AEv.tmp rfl) (AEvs.cons (AEv.const _) AEvs.nil))) (ref06_numbers_ok c.lim c.req true))) <|
                .cons rfl (Q_p rfl (S_assign rfl (AEv.tmp rfl))) <|
                .nil) ?_
            refine AC_seq ?_
            refine AC_seq ?_
            refine AC_region ?_
            refine AL_p rfl rfl (S_move rfl (AEv.tmp rfl)) ?_
            refine AL_p rfl rfl (S_geq rfl (AEv.tmp rfl) (AEv.const _)) ?_
            refine AL_nil ?_
            refine AC_cond (AEv.tmp rfl) (fun hb7 => ?_) (fun hb7 => ?_)
            · try simp only [Bool.and_eq_true, Bool.or_eq_true, Bool.not_eq_true', Bool.not_eq_false', Bool.and_eq_false_iff, Bool.or_eq_false_iff, decide_eq_true_eq, decide_eq_false_iff_not, gd] at hb7
              have hx := one_4 (ps := (ahead.flatMap Ctr.ports)) (a := (if init = true then 0 else 3)) (b := (if init = true then 0 else 1000)) hn0 hi0 hr0 (show limE c.lim c.req = _ by rw [lim_nums, if_pos (by omega)])
              have hk9 : (numsI c.lim c.req true).toNat < numN.length := by have := (numsI_range c.lim c.req true).2; show _ < 3; omega
              have hk8 := num_len hk9
              refine AC_seq ?_
              refine AC_draw (by kernel_rfl) (by kernel_rfl) (.cons rfl (Q_p rfl (S_move rfl (AEv.tmp rfl))) <|
                  .cons rfl (Q_p rfl (S_move rfl (AEv.tmp rfl))) <|
                  .cons rfl (Q_p rfl (S_elemN (e := 9) (f := fun s => .S s) (l := numN) (i := (numsI c.lim c.req true).toNat) 1 rfl (AEv.tmp rfl) ((AEv.tmp rfl).le (Le.of_eq (congrArg (AV.int _) (show (numsI c.lim c.req true) = (((numsI c.lim c.req true).toNat : Nat) : Int) by omega)))) (by kernel_rfl) (by kernel_rfl) (by have := (numsI_range c.lim c.req true).2; show _ < 3; omega) (fun _ => rfl))) <|
                  .cons rfl (Q_p rfl (S_loadP rfl (AEv.tmp rfl) rfl (by kernel_rfl))) <|
                  .cons rfl (Q_p rfl (S_cat rfl (AEv.S _) (AEv.tmp rfl) (by first | omega | (simp only [List.length_append, List.length_cons, List.length_nil]; omega)))) <|
                  .cons rfl (Q_p rfl (S_assign rfl (AEv.const _))) <|
                  .cons rfl (Q_p rfl (S_assign rfl (AEv.tmp rfl))) <|
                  .nil) ?_
              refine AC_ret ?_
              refine ret_tmps (ts := [6, 7]) st rfl (by decide) rfl (Sub.l (List.Sublist.cons _ (List.Sublist.refl _))) (Conv.refl (Sub.l (List.Sublist.cons _ (List.Sublist.refl _))) _) ⟨cp_some hx (by rw [join_two]; exact num_text [108, 105, 109] hk9), rfl⟩ (.inl rfl)
            · try simp only [Bool.and_eq_true, Bool.or_eq_true, Bool.not_eq_true', Bool.not_eq_false', Bool.and_eq_false_iff, Bool.or_eq_false_iff, decide_eq_true_eq, decide_eq_false_iff_not, gd] at hb7
              have hl0 : limE c.lim c.req = none := by rw [lim_nums, if_neg (by omega)]
              refine AC_skip ?_
              refine AC_seq ?_
              refine AC_seq ?_
              refine AC_region ?_
              refine AL_p rfl rfl (S_field 8 rfl (AEv.tmp rfl) (by kernel_rfl)) ?_
              refine AL_p rfl rfl (S_load 0 rfl (AEv.tmp rfl) rfl rfl (by kernel_rfl)) ?_
              refine AL_p rfl rfl (by first | exact S_lenM (e := 3) rfl (AEv.tmp rfl) (by kernel_rfl) | exact S_len (e := 3) rfl (AEv.tmp rfl) (by kernel_rfl)) ?_
              refine AL_p rfl rfl (S_gtr rfl (AEv.tmp rfl) (AEv.const _)) ?_
              refine AL_p rfl rfl (S_move rfl (AEv.tmp rfl)) ?_
              refine AL_g rfl rfl (AEv.tmp rfl) rfl (fun hg8 => S_move rfl (AEv.tmp rfl)) ?_
              refine AL_g rfl rfl (AEv.tmp rfl) rfl (fun hg11 => S_move rfl (AEv.cond (AEv.tmp rfl) (by first | assumption | exact gdAnd (by assumption) (by assumption)))) ?_
              refine AL_gg rfl rfl (AEv.tmp rfl) rfl (fun hg14 hg15 hg16 => S_field 8 rfl (AEv.tmp rfl) (by kernel_rfl)) ?_
              refine AL_gg rfl rfl (AEv.tmp rfl) rfl (fun hg17 hg18 hg19 => S_load 0 rfl (AEv.cond (AEv.tmp rfl) (by first | assumption | exact gdAnd (by assumption) (by assumption))) rfl rfl (by kernel_rfl)) ?_
              refine AL_gg rfl rfl (AEv.tmp rfl) rfl (fun hg20 hg21 hg22 => by first | exact S_lenM (e := 3) rfl (AEv.cond (AEv.tmp rfl) (by first | assumption | exact gdAnd (by assumption) (by assumption))) (by kernel_rfl) | exact S_len (e := 3) rfl (AEv.cond (AEv.tmp rfl) (by first | assumption | exact gdAnd (by assumption) (by assumption))) (by kernel_rfl)) ?_
              refine AL_gg rfl rfl (AEv.tmp rfl) rfl (fun hg23 hg24 hg25 => S_gtr rfl (AEv.cond (AEv.tmp rfl) (by first | assumption | exact gdAnd (by assumption) (by assumption))) (AEv.const _)) ?_
              refine AL_g rfl rfl (AEv.tmp rfl) rfl (fun hg26 => S_and rfl (AEv.cond (AEv.tmp rfl) (by first | assumption | exact gdAnd (by assumption) (by assumption))) (fun hp29 => (AEv.cond (AEv.tmp rfl) (by first | assumption | exact gdT hp29 | exact gdF hp29 | exact gdAnd (by assumption) (gdT hp29) | exact gdAnd (by assumption) (gdF hp29))))) ?_
              refine AL_p rfl rfl (S_or rfl (AEv.tmp rfl) (fun hp30 => (AEv.cond (AEv.tmp rfl) (by first | assumption | exact gdT hp30 | exact gdF hp30 | exact gdAnd (by assumption) (gdT hp30) | exact gdAnd (by assumption) (gdF hp30))))) ?_
              refine AL_nil ?_
              refine AC_cond (AEv.tmp rfl) (fun hb31 => ?_) (fun hb31 => ?_)
              · try simp only [Bool.and_eq_true, Bool.or_eq_true, Bool.not_eq_true', Bool.not_eq_false', Bool.and_eq_false_iff, Bool.or_eq_false_iff, decide_eq_true_eq, decide_eq_false_iff_not, gd] at hb31
                have hx := one_5 (a := (if init = true then 0 else 3)) (b := (if init = true then 0 else 1000)) hn0 hi0 hr0 hl0 (port_many (ps := (ahead.flatMap Ctr.ports)) (l := c.ports) (n := (if init = true then 0 else 3)) (by cases init <;> simp only [Bool.true_eq_false, Bool.false_eq_true, false_or, or_false, true_or, or_true, false_and, and_false, true_and, and_true, if_true, if_false, reduceIte] at hb31 ⊢ <;> omega))
                refine AC_seq ?_
                refine AC_region ?_
                refine AL_p rfl rfl (S_assign rfl (AEv.const _)) ?_
                refine AL_p rfl rfl (S_assign rfl (AEv.S _)) ?_
                refine AL_nil ?_
                refine AC_ret ?_
                refine ret_tmps (ts := [6, 7]) st rfl (by decide) rfl (Sub.l (List.Sublist.cons _ (List.Sublist.refl _))) (Conv.refl (Sub.l (List.Sublist.cons _ (List.Sublist.refl _))) _) ⟨cp_some hx rfl, rfl⟩ (.inl rfl)
              · try simp only [Bool.and_eq_true, Bool.or_eq_true, Bool.not_eq_true', Bool.not_eq_false', Bool.and_eq_false_iff, Bool.or_eq_false_iff, decide_eq_true_eq, decide_eq_false_iff_not, gd] at hb31
                have hpm : atMostE portsN (c.ports.length : Int) 0 (if init = true then 0 else 3) = none := by
                  unfold atMostE; rw [if_neg]; cases init <;> simp only [Bool.true_eq_false, Bool.false_eq_true, false_or, or_false, true_or, or_true, false_and, and_false, true_and, and_true, if_true, if_false, reduceIte] at hb31 ⊢ <;> omega
                refine AC_skip ?_
                refine AC_seq ?_
                refine AC_seq ?_
                refine AC_region ?_
                refine AL_p rfl rfl (S_assign rfl (AEv.const _)) ?_
                refine AL_nil ?_
                refine AC_block ?_
                refine AC_loopK (G := Nat) [(1, _), (2, _), (3, _)] (fun g => g ≤ c.ports.length ∧ ∀ j, j < g → portAt (ahead.flatMap Ctr.ports) c.ports j = none) (fun g => [(14, .int .i64 (g : Int))]) (fun g => (b3, .cells (ctrL c)) :: st) (fun g => c.ports.length - g) (0) (⟨Nat.zero_le _, fun j h => absurd h (Nat.not_lt_zero _)⟩) (Sub.l (List.Sublist.refl _)) (.cons rfl (Le.refl _) (.cons rfl (Le.refl _) (.cons rfl (Le.refl _) .nil))) (.cons rfl (by first | exact Le.refl _ | exact Le.nils | exact Le.row _ _ _ _ | exact Le.of_eq (by first | rfl | (simp; done) | (push_cast; rfl) | (simp; omega))) .nil) ?_
                · rintro i ⟨hi, hall⟩
                  try dsimp only
                  simp only [List.cons_append, List.nil_append]
                  refine AC_seq ?_
                  refine AC_seq ?_
                  refine AC_region ?_
                  refine AL_p rfl rfl (S_move rfl (AEv.tmp rfl)) ?_
                  refine AL_p rfl rfl (S_field 8 rfl (AEv.tmp rfl) (by kernel_rfl)) ?_
                  refine AL_p rfl rfl (S_load 0 rfl (AEv.tmp rfl) rfl rfl (by kernel_rfl)) ?_
                  refine AL_p rfl rfl (by first | exact S_lenM (e := 3) rfl (AEv.tmp rfl) (by kernel_rfl) | exact S_len (e := 3) rfl (AEv.tmp rfl) (by kernel_rfl)) ?_
                  refine AL_p rfl rfl (S_lss rfl (AEv.tmp rfl) (AEv.tmp rfl)) ?_
                  refine AL_nil ?_
                  refine AC_cond (AEv.tmp rfl) (fun hb32 => ?_) (fun hb32 => ?_)
                  · try simp only [Bool.and_eq_true, Bool.or_eq_true, Bool.not_eq_true', Bool.not_eq_false', Bool.and_eq_false_iff, Bool.or_eq_false_iff, decide_eq_true_eq, decide_eq_false_iff_not, gd] at hb32
                    have hil : i < c.ports.length := by omega
                    have hif : fits (i : Int) := by unfold fits; omega
                    have hgd : c.ports.getD i 0 = c.ports[i] := by rw [List.getD_eq_getElem?_getD, List.getElem?_eq_getElem hil]; rfl
                    refine AC_skip ?_
                    refine AC_seq ?_
                    refine AC_block ?_
                    refine AC_seq ?_
                    refine AC_seq ?_
                    refine AC_region ?_
                    refine AL_p rfl rfl (S_field 8 rfl (AEv.tmp rfl) (by kernel_rfl)) ?_
                    refine AL_p rfl rfl (S_load 0 rfl (AEv.tmp rfl) rfl rfl (by kernel_rfl)) ?_
                    refine AL_p rfl rfl (S_move rfl (AEv.tmp rfl)) ?_
                    refine AL_p rfl rfl (S_elemN (e := 3) 1 rfl (AEv.tmp rfl) (AEv.tmp rfl) (by kernel_rfl) (by kernel_rfl) (by omega) (fun _ => rfl)) ?_
                    refine AL_p rfl rfl (S_loadP rfl (AEv.tmp rfl) rfl (by kernel_rfl)) ?_
                    refine AL_p rfl rfl (S_lss rfl (AEv.tmp rfl) (AEv.const _)) ?_
                    refine AL_p rfl rfl (S_move rfl (AEv.tmp rfl)) ?_
                    refine AL_g rfl rfl (AEv.tmp rfl) rfl (fun hg33 => S_field 8 rfl (AEv.tmp rfl) (by kernel_rfl)) ?_
                    refine AL_g rfl rfl (AEv.tmp rfl) rfl (fun hg36 => S_load 0 rfl (AEv.cond (AEv.tmp rfl) (by first | assumption | exact gdAnd (by assumption) (by assumption))) rfl rfl (by kernel_rfl)) ?_
                    refine AL_g rfl rfl (AEv.tmp rfl) rfl (fun hg39 => S_move rfl (AEv.tmp rfl)) ?_
                    refine AL_g rfl rfl (AEv.tmp rfl) rfl (fun hg42 => S_elemN (e := 3) 1 rfl (AEv.cond (AEv.tmp rfl) (by first | assumption | exact gdAnd (by assumption) (by assumption))) (AEv.cond (AEv.tmp rfl) (by first | assumption | exact gdAnd (by assumption) (by assumption))) (by kernel_rfl) (by kernel_rfl) (by (try simp only [gd, Bool.and_eq_true, Bool.or_eq_true, Bool.not_eq_true', Bool.not_eq_false', decide_eq_true_eq, decide_eq_false_iff_not, Bool.or_eq_false_iff, Bool.and_eq_false_iff] at *); omega) (fun _ => rfl)) ?_
                    refine AL_g rfl rfl (AEv.tmp rfl) rfl (fun hg45 => S_loadP rfl (AEv.cond (AEv.tmp rfl) (by first | assumption | exact gdAnd (by assumption) (by assumption))) rfl (by kernel_rfl)) ?_
                    refine AL_g rfl rfl (AEv.tmp rfl) rfl (fun hg48 => S_gtr rfl (AEv.cond (AEv.tmp rfl) (by first | assumption | exact gdAnd (by assumption) (by assumption))) (AEv.const _)) ?_
                    refine AL_p rfl rfl (S_or rfl (AEv.tmp rfl) (fun hp51 => (AEv.cond (AEv.tmp rfl) (by first | assumption | exact gdT hp51 | exact gdF hp51 | exact gdAnd (by assumption) (gdT hp51) | exact gdAnd (by assumption) (gdF hp51))))) ?_
                    refine AL_nil ?_
                    refine AC_cond (AEv.tmp rfl) (fun hb52 => ?_) (fun hb52 => ?_)
                    · try simp only [Bool.and_eq_true, Bool.or_eq_true, Bool.not_eq_true', Bool.not_eq_false', Bool.and_eq_false_iff, Bool.or_eq_false_iff, decide_eq_true_eq, decide_eq_false_iff_not, gd] at hb52
                      have hx := one_5 (a := (if init = true then 0 else 3)) (b := (if init = true then 0 else 1000)) hn0 hi0 hr0 hl0 (port_at hpm hil (portAt_range (ps := (ahead.flatMap Ctr.ports)) hil (by simpa using hb52)) hall)
                      refine AC_seq ?_
                      refine AC_region ?_
                      refine AL_p rfl rfl (S_move rfl (AEv.tmp rfl)) ?_
                      refine AL_p rfl rfl (S_pcall rfl (AEvs.cons (AEv.S _) (AEvs.cons (AEv.tmp rfl) AEvs.nil)) (ref06_at_ok portsN (by decide) (i : Int) hif)) ?_
                      refine AL_p rfl rfl (S_assign rfl (AEv.const _)) ?_
                      refine AL_p rfl rfl (S_assign rfl (AEv.tmp rfl)) ?_
                      refine AL_nil ?_
                      refine AC_ret ?_
                      refine ret_tmps (ts := [6, 7]) st rfl (by decide) rfl (Sub.l (List.Sublist.cons _ (List.Sublist.refl _))) (Conv.refl (Sub.l (List.Sublist.cons _ (List.Sublist.refl _))) _) ⟨cp_some hx (Lib.join_one _ _).symm, rfl⟩ (.inl rfl)
                    · try simp only [Bool.and_eq_true, Bool.or_eq_true, Bool.not_eq_true', Bool.not_eq_false', Bool.and_eq_false_iff, Bool.or_eq_false_iff, decide_eq_true_eq, decide_eq_false_iff_not, gd] at hb52
                      have hr1 : 1 ≤ (c.ports[i]'hil) ∧ (c.ports[i]'hil) ≤ 65535 := by omega
                      refine AC_skip ?_
                      refine AC_seq ?_
                      refine AC_draw (by kernel_rfl) (by kernel_rfl) (.cons rfl (Q_p rfl (S_move rfl (AEv.tmp rfl))) <|
                          .cons rfl (Q_p rfl (S_field 8 rfl (AEv.tmp rfl) (by kernel_rfl))) <|
                          .cons rfl (Q_p rfl (S_load 0 rfl (AEv.tmp rfl) rfl rfl (by kernel_rfl))) <|
                          .cons rfl (Q_p rfl (S_move rfl (AEv.tmp rfl))) <|
                          .cons rfl (Q_p rfl (S_elemN (e := 3) 1 rfl (AEv.tmp rfl) (AEv.tmp rfl) (by kernel_rfl) (by kernel_rfl) (by omega) (fun _ => rfl))) <|
                          .cons rfl (Q_p rfl (S_loadP rfl (AEv.tmp rfl) rfl (by kernel_rfl))) <|
                          .cons rfl (Q_p rfl (S_pcall rfl (AEvs.cons (AEv.tmp rfl) (AEvs.cons (AEv.tmp rfl) AEvs.nil)) (ref06_Has_ok ahead (c.ports[i]'hil) (by omega) hap))) <|
                          .cons rfl (Q_p rfl (S_move rfl (AEv.tmp rfl))) <|
                          .cons rfl (Q_g rfl rfl (AEv.tmp rfl) (fun hg53 => S_field 8 rfl (AEv.tmp rfl) (by kernel_rfl))) <|
                          .cons rfl (Q_g rfl rfl (AEv.tmp rfl) (fun hg56 => S_load 0 rfl (AEv.cond (AEv.tmp rfl) (by first | assumption | exact gdAnd (by assumption) (by assumption))) rfl rfl (by kernel_rfl))) <|
                          .cons rfl (Q_g rfl rfl (AEv.tmp rfl) (fun hg59 => S_move rfl (AEv.tmp rfl))) <|
                          .cons rfl (Q_g rfl rfl (AEv.tmp rfl) (fun hg62 => S_cutHM (e := 3) 1 rfl (AEv.cond (AEv.tmp rfl) (by first | assumption | exact gdAnd (by assumption) (by assumption))) (AEv.cond (AEv.tmp rfl) (by first | assumption | exact gdAnd (by assumption) (by assumption))) (by kernel_rfl) (by kernel_rfl) (fun _ => rfl) (by (try simp only [gd, Bool.and_eq_true, Bool.or_eq_true, Bool.not_eq_true', Bool.not_eq_false', decide_eq_true_eq, decide_eq_false_iff_not, Bool.or_eq_false_iff, Bool.and_eq_false_iff] at *); omega))) <|
                          .cons rfl (Q_g rfl rfl (AEv.tmp rfl) (fun hg65 => S_build (t := 52) (pl := [(0, 1), (1, 1), (2, 3), (5, 3), (8, 1), (9, 2)]) (zs := [.string ⟨#[]⟩, .string ⟨#[]⟩, .int .i64 0, .int .i64 0, .int .i64 0, .int .i64 0, .int .i64 0, .int .i64 0, .slice none 0 0, .int .i64 0, .int .i64 0]) rfl (AEvs.cons (AEv.cond (AEv.tmp rfl) (by first | assumption | exact gdAnd (by assumption) (by assumption))) AEvs.nil) (by kernel_rfl) rfl)) <|
                          .cons rfl (Q_g rfl rfl (AEv.tmp rfl) (fun hg68 => S_buildSlice (e := 52) 11 rfl (AEvs.cons (AEv.cond (AEv.tmp rfl) (by first | assumption | exact gdAnd (by assumption) (by assumption))) AEvs.nil) rfl (by kernel_rfl) (by kernel_rfl) (by intro y hy; simp only [List.mem_cons, List.not_mem_nil, or_false] at hy; rcases hy with rfl <;> exact ⟨rfl, rfl⟩) (by decide) (by decide) (by decide))) <|
                          .cons rfl (Q_g rfl rfl (AEv.tmp rfl) (fun hg71 => S_field 8 rfl (AEv.tmp rfl) (by kernel_rfl))) <|
                          .cons rfl (Q_g rfl rfl (AEv.tmp rfl) (fun hg74 => S_load 0 rfl (AEv.cond (AEv.tmp rfl) (by first | assumption | exact gdAnd (by assumption) (by assumption))) rfl rfl (by kernel_rfl))) <|
                          .cons rfl (Q_g rfl rfl (AEv.tmp rfl) (fun hg77 => S_move rfl (AEv.tmp rfl))) <|
                          .cons rfl (Q_g rfl rfl (AEv.tmp rfl) (fun hg80 => S_elemN (e := 3) 1 rfl (AEv.cond (AEv.tmp rfl) (by first | assumption | exact gdAnd (by assumption) (by assumption))) (AEv.cond (AEv.tmp rfl) (by first | assumption | exact gdAnd (by assumption) (by assumption))) (by kernel_rfl) (by kernel_rfl) (by (try simp only [gd, Bool.and_eq_true, Bool.or_eq_true, Bool.not_eq_true', Bool.not_eq_false', decide_eq_true_eq, decide_eq_false_iff_not, Bool.or_eq_false_iff, Bool.and_eq_false_iff] at *); omega) (fun _ => rfl))) <|
                          .cons rfl (Q_g rfl rfl (AEv.tmp rfl) (fun hg83 => S_loadP rfl (AEv.cond (AEv.tmp rfl) (by first | assumption | exact gdAnd (by assumption) (by assumption))) rfl (by kernel_rfl))) <|
                          .cons rfl (Q_g rfl rfl (AEv.tmp rfl) (fun hg86 => S_pcall rfl (AEvs.cons (y := .sl (ctrsV [⟨[], [], (0, 0, 0), (0, 0, 0), c.ports.take i, (0, 0)⟩])) (AEv.cond (AEv.tmp rfl) (by first | assumption | exact gdAnd (by assumption) (by assumption))) (AEvs.cons (AEv.cond (AEv.tmp rfl) (by first | assumption | exact gdAnd (by assumption) (by assumption))) AEvs.nil)) (ref06_Has_ok [⟨[], [], (0, 0, 0), (0, 0, 0), c.ports.take i, (0, 0)⟩] (c.ports[i]'hil) (Nat.le_of_ble_eq_true rfl) (by intro x hx; rw [List.mem_singleton.1 hx]; simp only [List.length_take]; omega)))) <|
                          .cons rfl (Q_p rfl (S_or rfl (AEv.tmp rfl) (fun hp89 => (AEv.cond (AEv.tmp rfl) (by first | assumption | exact gdT hp89 | exact gdF hp89 | exact gdAnd (by assumption) (gdT hp89) | exact gdAnd (by assumption) (gdF hp89)))))) <|
                          .nil) ?_
                      refine AC_cond (AEv.tmp rfl) (fun hb90 => ?_) (fun hb90 => ?_)
                      · try simp only [Bool.and_eq_true, Bool.or_eq_true, Bool.not_eq_true', Bool.not_eq_false', Bool.and_eq_false_iff, Bool.or_eq_false_iff, decide_eq_true_eq, decide_eq_false_iff_not, gd] at hb90
                        have hx := one_5 (a := (if init = true then 0 else 3)) (b := (if init = true then 0 else 1000)) hn0 hi0 hr0 hl0 (port_at hpm hil (portAt_there (ps := (ahead.flatMap Ctr.ports)) hil hr1 (by simpa using hb90)) hall)
                        refine AC_seq ?_
                        refine AC_region ?_
                        refine AL_p rfl rfl (S_move rfl (AEv.tmp rfl)) ?_
                        refine AL_p rfl rfl (S_pcall rfl (AEvs.cons (AEv.S _) (AEvs.cons (AEv.tmp rfl) AEvs.nil)) (ref06_at_ok portsN (by decide) (i : Int) hif)) ?_
                        refine AL_p rfl rfl (S_assign rfl (AEv.const _)) ?_
                        refine AL_p rfl rfl (S_assign rfl (AEv.tmp rfl)) ?_
                        refine AL_nil ?_
                        refine AC_ret ?_
                        refine ret_tmps (ts := [6, 7]) st rfl (by decide) rfl (Sub.l (List.Sublist.cons _ (List.Sublist.refl _))) (Conv.refl (Sub.l (List.Sublist.cons _ (List.Sublist.refl _))) _) ⟨cp_some hx (Lib.join_one _ _).symm, rfl⟩ (.inl rfl)
                      · try simp only [Bool.and_eq_true, Bool.or_eq_true, Bool.not_eq_true', Bool.not_eq_false', Bool.and_eq_false_iff, Bool.or_eq_false_iff, decide_eq_true_eq, decide_eq_false_iff_not, gd] at hb90
                        have hr2 : (c.ports[i]'hil) ∉ (ahead.flatMap Ctr.ports) ++ c.ports.take i := by simpa using hb90
                        refine AC_skip ?_
                        refine AC_region ?_
                        refine AL_p rfl rfl (S_move rfl (AEv.tmp rfl)) ?_
                        refine AL_p rfl rfl (S_addI rfl (AEv.tmp rfl) (AEv.const _) (by omega) (by omega)) ?_
                        refine AL_p rfl rfl (S_assign rfl (AEv.tmp rfl)) ?_
                        refine AL_nil ?_
                        refine ⟨i + 1, ⟨by omega, fun j h => ?_⟩, by omega, (Sub.l (List.Sublist.refl _)), (.cons rfl (by first | exact Le.refl _ | exact Le.nils | exact Le.row _ _ _ _ | exact Le.of_eq (by first | rfl | (simp; done) | (push_cast; rfl) | (simp; omega))) .nil), (.cons rfl (Le.refl _) (.cons rfl (Le.refl _) (.cons rfl (Le.refl _) .nil)))⟩
                        rcases Nat.lt_or_ge j i with h' | h'
                        · exact hall j h'
                        · have : j = i := by omega
                          subst this
                          exact portAt_ok hil hr1 hr2
                  · try simp only [Bool.and_eq_true, Bool.or_eq_true, Bool.not_eq_true', Bool.not_eq_false', Bool.and_eq_false_iff, Bool.or_eq_false_iff, decide_eq_true_eq, decide_eq_false_iff_not, gd] at hb32
                    have hp0 : portE (ahead.flatMap Ctr.ports) c.ports (if init = true then 0 else 3) = none := portE_in hpm fun j hj => hall j (by omega)
                    refine AC_exit ?_
                    refine AC_seq ?_
                    refine AC_seq ?_
                    refine AC_region ?_
                    refine AL_p rfl rfl (S_field 9 rfl (AEv.tmp rfl) (by kernel_rfl)) ?_
                    refine AL_p rfl rfl (S_field 0 rfl (AEv.tmp rfl) (by kernel_rfl)) ?_
                    refine AL_p rfl rfl (S_load 0 rfl (AEv.tmp rfl) rfl rfl (by kernel_rfl)) ?_
                    refine AL_p rfl rfl (S_lss rfl (AEv.tmp rfl) (AEv.const _)) ?_
                    refine AL_p rfl rfl (S_move rfl (AEv.tmp rfl)) ?_
                    refine AL_g rfl rfl (AEv.tmp rfl) rfl (fun hg91 => S_field 9 rfl (AEv.tmp rfl) (by kernel_rfl)) ?_
                    refine AL_g rfl rfl (AEv.tmp rfl) rfl (fun hg94 => S_field 0 rfl (AEv.cond (AEv.tmp rfl) (by first | assumption | exact gdAnd (by assumption) (by assumption))) (by kernel_rfl)) ?_
                    refine AL_g rfl rfl (AEv.tmp rfl) rfl (fun hg97 => S_load 0 rfl (AEv.cond (AEv.tmp rfl) (by first | assumption | exact gdAnd (by assumption) (by assumption))) rfl rfl (by kernel_rfl)) ?_
                    refine AL_g rfl rfl (AEv.tmp rfl) rfl (fun hg100 => S_gtr rfl (AEv.cond (AEv.tmp rfl) (by first | assumption | exact gdAnd (by assumption) (by assumption))) (AEv.const _)) ?_
                    refine AL_p rfl rfl (S_or rfl (AEv.tmp rfl) (fun hp103 => (AEv.cond (AEv.tmp rfl) (by first | assumption | exact gdT hp103 | exact gdF hp103 | exact gdAnd (by assumption) (gdT hp103) | exact gdAnd (by assumption) (gdF hp103))))) ?_
                    refine AL_p rfl rfl (S_move rfl (AEv.tmp rfl)) ?_
                    refine AL_g rfl rfl (AEv.tmp rfl) rfl (fun hg104 => S_move rfl (AEv.tmp rfl)) ?_
                    refine AL_g rfl rfl (AEv.tmp rfl) rfl (fun hg107 => S_move rfl (AEv.cond (AEv.tmp rfl) (by first | assumption | exact gdAnd (by assumption) (by assumption)))) ?_
                    refine AL_gg rfl rfl (AEv.tmp rfl) rfl (fun hg110 hg111 hg112 => S_field 9 rfl (AEv.tmp rfl) (by kernel_rfl)) ?_
                    refine AL_gg rfl rfl (AEv.tmp rfl) rfl (fun hg113 hg114 hg115 => S_field 0 rfl (AEv.cond (AEv.tmp rfl) (by first | assumption | exact gdAnd (by assumption) (by assumption))) (by kernel_rfl)) ?_
                    refine AL_gg rfl rfl (AEv.tmp rfl) rfl (fun hg116 hg117 hg118 => S_load 0 rfl (AEv.cond (AEv.tmp rfl) (by first | assumption | exact gdAnd (by assumption) (by assumption))) rfl rfl (by kernel_rfl)) ?_
                    refine AL_gg rfl rfl (AEv.tmp rfl) rfl (fun hg119 hg120 hg121 => S_gtr rfl (AEv.cond (AEv.tmp rfl) (by first | assumption | exact gdAnd (by assumption) (by assumption))) (AEv.const _)) ?_
                    refine AL_g rfl rfl (AEv.tmp rfl) rfl (fun hg122 => S_and rfl (AEv.cond (AEv.tmp rfl) (by first | assumption | exact gdAnd (by assumption) (by assumption))) (fun hp125 => (AEv.cond (AEv.tmp rfl) (by first | assumption | exact gdT hp125 | exact gdF hp125 | exact gdAnd (by assumption) (gdT hp125) | exact gdAnd (by assumption) (gdF hp125))))) ?_
                    refine AL_p rfl rfl (S_or rfl (AEv.tmp rfl) (fun hp126 => (AEv.cond (AEv.tmp rfl) (by first | assumption | exact gdT hp126 | exact gdF hp126 | exact gdAnd (by assumption) (gdT hp126) | exact gdAnd (by assumption) (gdF hp126))))) ?_
                    refine AL_nil ?_
                    refine AC_cond (AEv.tmp rfl) (fun hb127 => ?_) (fun hb127 => ?_)
                    · try simp only [Bool.and_eq_true, Bool.or_eq_true, Bool.not_eq_true', Bool.not_eq_false', Bool.and_eq_false_iff, Bool.or_eq_false_iff, decide_eq_true_eq, decide_eq_false_iff_not, gd] at hb127
                      have hpr : c.probe.1 < 0 ∨ (if init = true then 0 else 1000) < c.probe.1 := by cases init <;> simp only [Bool.true_eq_false, Bool.false_eq_true, false_or, or_false, true_or, or_true, false_and, and_false, true_and, and_true, if_true, if_false, reduceIte] at hb127 ⊢ <;> omega
                      have hx := (one_6 (a := (if init = true then 0 else 3)) (b := (if init = true then 0 else 1000)) hn0 hi0 hr0 hl0 hp0).trans (probe_every hpr)
                      refine AC_seq ?_
                      refine AC_region ?_
                      refine AL_p rfl rfl (S_assign rfl (AEv.const _)) ?_
                      refine AL_p rfl rfl (S_assign rfl (AEv.S _)) ?_
                      refine AL_nil ?_
                      refine AC_ret ?_
                      refine ret_tmps (ts := [6, 7]) st rfl (by decide) rfl (Sub.l (List.Sublist.cons _ (List.Sublist.refl _))) (Conv.refl (Sub.l (List.Sublist.cons _ (List.Sublist.refl _))) _) ⟨cp_some hx rfl, rfl⟩ (.inl rfl)
                    · try simp only [Bool.and_eq_true, Bool.or_eq_true, Bool.not_eq_true', Bool.not_eq_false', Bool.and_eq_false_iff, Bool.or_eq_false_iff, decide_eq_true_eq, decide_eq_false_iff_not, gd] at hb127
                      have hpr : ¬ (c.probe.1 < 0 ∨ (if init = true then 0 else 1000) < c.probe.1) := by cases init <;> simp only [Bool.true_eq_false, Bool.false_eq_true, false_or, or_false, true_or, or_true, false_and, and_false, true_and, and_true, if_true, if_false, reduceIte] at hb127 ⊢ <;> omega
                      refine AC_skip ?_
                      refine AC_seq ?_
                      refine AC_seq ?_
                      refine AC_region ?_
                      refine AL_p rfl rfl (S_field 9 rfl (AEv.tmp rfl) (by kernel_rfl)) ?_
                      refine AL_p rfl rfl (S_field 0 rfl (AEv.tmp rfl) (by kernel_rfl)) ?_
                      refine AL_p rfl rfl (S_load 0 rfl (AEv.tmp rfl) rfl rfl (by kernel_rfl)) ?_
                      refine AL_p rfl rfl (S_eql rfl (AEv.tmp rfl) (AEv.const _)) ?_
                      refine AL_p rfl rfl (S_move rfl (AEv.tmp rfl)) ?_
                      refine AL_g rfl rfl (AEv.tmp rfl) rfl (fun hg128 => S_field 9 rfl (AEv.tmp rfl) (by kernel_rfl)) ?_
                      refine AL_g rfl rfl (AEv.tmp rfl) rfl (fun hg131 => S_field 1 rfl (AEv.cond (AEv.tmp rfl) (by first | assumption | exact gdAnd (by assumption) (by assumption))) (by kernel_rfl)) ?_
                      refine AL_g rfl rfl (AEv.tmp rfl) rfl (fun hg134 => S_load 0 rfl (AEv.cond (AEv.tmp rfl) (by first | assumption | exact gdAnd (by assumption) (by assumption))) rfl rfl (by kernel_rfl)) ?_
                      refine AL_g rfl rfl (AEv.tmp rfl) rfl (fun hg137 => S_neq rfl (AEv.cond (AEv.tmp rfl) (by first | assumption | exact gdAnd (by assumption) (by assumption))) (AEv.const _)) ?_
                      refine AL_p rfl rfl (S_and rfl (AEv.tmp rfl) (fun hp140 => (AEv.cond (AEv.tmp rfl) (by first | assumption | exact gdT hp140 | exact gdF hp140 | exact gdAnd (by assumption) (gdT hp140) | exact gdAnd (by assumption) (gdF hp140))))) ?_
                      refine AL_p rfl rfl (S_move rfl (AEv.tmp rfl)) ?_
                      refine AL_g rfl rfl (AEv.tmp rfl) rfl (fun hg141 => S_field 9 rfl (AEv.tmp rfl) (by kernel_rfl)) ?_
                      refine AL_g rfl rfl (AEv.tmp rfl) rfl (fun hg144 => S_field 0 rfl (AEv.cond (AEv.tmp rfl) (by first | assumption | exact gdAnd (by assumption) (by assumption))) (by kernel_rfl)) ?_
                      refine AL_g rfl rfl (AEv.tmp rfl) rfl (fun hg147 => S_load 0 rfl (AEv.cond (AEv.tmp rfl) (by first | assumption | exact gdAnd (by assumption) (by assumption))) rfl rfl (by kernel_rfl)) ?_
                      refine AL_g rfl rfl (AEv.tmp rfl) rfl (fun hg150 => S_gtr rfl (AEv.cond (AEv.tmp rfl) (by first | assumption | exact gdAnd (by assumption) (by assumption))) (AEv.const _)) ?_
                      refine AL_g rfl rfl (AEv.tmp rfl) rfl (fun hg153 => S_move rfl (AEv.cond (AEv.tmp rfl) (by first | assumption | exact gdAnd (by assumption) (by assumption)))) ?_
                      refine AL_gg rfl rfl (AEv.tmp rfl) rfl (fun hg156 hg157 hg158 => S_field 9 rfl (AEv.tmp rfl) (by kernel_rfl)) ?_
                      refine AL_gg rfl rfl (AEv.tmp rfl) rfl (fun hg159 hg160 hg161 => S_field 1 rfl (AEv.cond (AEv.tmp rfl) (by first | assumption | exact gdAnd (by assumption) (by assumption))) (by kernel_rfl)) ?_
                      refine AL_gg rfl rfl (AEv.tmp rfl) rfl (fun hg162 hg163 hg164 => S_load 0 rfl (AEv.cond (AEv.tmp rfl) (by first | assumption | exact gdAnd (by assumption) (by assumption))) rfl rfl (by kernel_rfl)) ?_
                      refine AL_gg rfl rfl (AEv.tmp rfl) rfl (fun hg165 hg166 hg167 => S_lss rfl (AEv.cond (AEv.tmp rfl) (by first | assumption | exact gdAnd (by assumption) (by assumption))) (AEv.const _)) ?_
                      refine AL_gg rfl rfl (AEv.tmp rfl) rfl (fun hg168 hg169 hg170 => S_move rfl (AEv.cond (AEv.tmp rfl) (by first | assumption | exact gdAnd (by assumption) (by assumption)))) ?_
                      refine AL_gg rfl rfl (AEv.tmp rfl) rfl (fun hg171 hg172 hg173 => S_field 9 rfl (AEv.tmp rfl) (by kernel_rfl)) ?_
                      refine AL_gg rfl rfl (AEv.tmp rfl) rfl (fun hg174 hg175 hg176 => S_field 1 rfl (AEv.cond (AEv.tmp rfl) (by first | assumption | exact gdAnd (by assumption) (by assumption))) (by kernel_rfl)) ?_
                      refine AL_gg rfl rfl (AEv.tmp rfl) rfl (fun hg177 hg178 hg179 => S_load 0 rfl (AEv.cond (AEv.tmp rfl) (by first | assumption | exact gdAnd (by assumption) (by assumption))) rfl rfl (by kernel_rfl)) ?_
                      refine AL_gg rfl rfl (AEv.tmp rfl) rfl (fun hg180 hg181 hg182 => S_gtr rfl (AEv.cond (AEv.tmp rfl) (by first | assumption | exact gdAnd (by assumption) (by assumption))) (AEv.const _)) ?_
                      refine AL_gg rfl rfl (AEv.tmp rfl) rfl (fun hg183 hg184 hg185 => S_or rfl (AEv.cond (AEv.tmp rfl) (by first | assumption | exact gdAnd (by assumption) (by assumption))) (fun hp186 => (AEv.cond (AEv.tmp rfl) (by first | assumption | exact gdT hp186 | exact gdF hp186 | exact gdAnd (by assumption) (gdT hp186) | exact gdAnd (by assumption) (gdF hp186))))) ?_
                      refine AL_g rfl rfl (AEv.tmp rfl) rfl (fun hg187 => S_and rfl (AEv.cond (AEv.tmp rfl) (by first | assumption | exact gdAnd (by assumption) (by assumption))) (fun hp190 => (AEv.cond (AEv.tmp rfl) (by first | assumption | exact gdT hp190 | exact gdF hp190 | exact gdAnd (by assumption) (gdT hp190) | exact gdAnd (by assumption) (gdF hp190))))) ?_
                      refine AL_p rfl rfl (S_or rfl (AEv.tmp rfl) (fun hp191 => (AEv.cond (AEv.tmp rfl) (by first | assumption | exact gdT hp191 | exact gdF hp191 | exact gdAnd (by assumption) (gdT hp191) | exact gdAnd (by assumption) (gdF hp191))))) ?_
                      refine AL_nil ?_
                      refine AC_cond (AEv.tmp rfl) (fun hb192 => ?_) (fun hb192 => ?_)
                      · try simp only [Bool.and_eq_true, Bool.or_eq_true, Bool.not_eq_true', Bool.not_eq_false', Bool.and_eq_false_iff, Bool.or_eq_false_iff, decide_eq_true_eq, decide_eq_false_iff_not, gd] at hb192
                        have hx := (one_6 (a := (if init = true then 0 else 3)) (b := (if init = true then 0 else 1000)) hn0 hi0 hr0 hl0 hp0).trans ((probe_rest hpr).trans (if_pos (by cases init <;> simp only [Bool.true_eq_false, Bool.false_eq_true, false_or, or_false, true_or, or_true, false_and, and_false, true_and, and_true, if_true, if_false, reduceIte] at hb192 hpr ⊢ <;> omega)))
                        refine AC_seq ?_
                        refine AC_region ?_
                        refine AL_p rfl rfl (S_assign rfl (AEv.const _)) ?_
                        refine AL_p rfl rfl (S_assign rfl (AEv.S _)) ?_
                        refine AL_nil ?_
                        refine AC_ret ?_
                        refine ret_tmps (ts := [6, 7]) st rfl (by decide) rfl (Sub.l (List.Sublist.cons _ (List.Sublist.refl _))) (Conv.refl (Sub.l (List.Sublist.cons _ (List.Sublist.refl _))) _) ⟨cp_some hx rfl, rfl⟩ (.inl rfl)
                      · try simp only [Bool.and_eq_true, Bool.or_eq_true, Bool.not_eq_true', Bool.not_eq_false', Bool.and_eq_false_iff, Bool.or_eq_false_iff, decide_eq_true_eq, decide_eq_false_iff_not, gd] at hb192
                        have hx := (one_6 (a := (if init = true then 0 else 3)) (b := (if init = true then 0 else 1000)) hn0 hi0 hr0 hl0 hp0).trans ((probe_rest hpr).trans (if_neg (by cases init <;> simp only [Bool.true_eq_false, Bool.false_eq_true, false_or, or_false, true_or, or_true, false_and, and_false, true_and, and_true, if_true, if_false, reduceIte] at hb192 hpr ⊢ <;> omega)))
                        refine AC_skip ?_
                        refine AC_seq ?_
                        refine AC_region ?_
                        refine AL_p rfl rfl (S_assign rfl (AEv.const _)) ?_
                        refine AL_p rfl rfl (S_assign rfl (AEv.S _)) ?_
                        refine AL_nil ?_
                        refine AC_ret ?_
                        refine ret_tmps (ts := [6, 7]) st rfl (by decide) rfl (Sub.l (List.Sublist.cons _ (List.Sublist.refl _))) (Conv.refl (Sub.l (List.Sublist.cons _ (List.Sublist.refl _))) _) ⟨cp_none hx, rfl⟩ (.inl rfl)

end Go.Proofs.YtfdcadnaginnpaaGreatDoor

/-
The walks of Go functions in the logic AL: what each of them answers.
Conditions: those of each theorem.
-/
set_option linter.unusedVariables false
set_option linter.unusedSimpArgs false
namespace Go.Proofs.YtfdcadnaginnpaaGreatDoor
open Go.AL Go.NumSpec

set_option maxRecDepth 100000 in
set_option maxHeartbeats 1000000 in
/-- provost/provostref06.Check -/
theorem ref06_Check_ok (s : Spc) (hs : lightS s = true) : PCalls Tryz.prog 10 [spcAV s] (cpAV (checkE s)) := by
  intro st
  refine ACalls_of (N := 127) Tryz.func10 (by kernel_rfl) rfl rfl rfl ?_
  obtain ⟨h1, h2, h3, h4, h5, h6, h7⟩ := lightS_out hs
  have hpi : ∀ c ∈ s.init, c.name.length ≤ 100 ∧ c.image.length ≤ 100 ∧ c.ports.length ≤ 10 := fun c hc => of_decide_eq_true (h6 c hc)
  have hpm : ∀ c ∈ s.main, c.name.length ≤ 100 ∧ c.image.length ≤ 100 ∧ c.ports.length ≤ 10 := fun c hc => of_decide_eq_true (h7 c hc)
  refine AC_seq ?_
  refine AC_region ?_
  refine AL_step rfl rfl (S_box rfl (AEv.tmp rfl)) ?_
  rintro _ _ ⟨b1, rfl, rfl⟩
  refine AL_p rfl rfl (S_assign rfl (AEv.const _)) ?_
  refine AL_p rfl rfl (S_assign rfl (AEv.S _)) ?_
  refine AL_nil ?_
  refine AC_seq ?_
  refine AC_seq ?_
  refine AC_region ?_
  refine AL_p rfl rfl (S_field 0 rfl (AEv.tmp rfl) (by kernel_rfl)) ?_
  refine AL_p rfl rfl (S_load 0 rfl (AEv.tmp rfl) rfl rfl (by kernel_rfl)) ?_
  refine AL_p rfl rfl (S_pcall rfl (AEvs.cons (AEv.tmp rfl) AEvs.nil) (ref03_Name_ok s.name (by omega))) ?_
  refine AL_p rfl rfl (S_not rfl (AEv.tmp rfl)) ?_
  refine AL_nil ?_
  refine AC_cond (AEv.tmp rfl) (fun hb2 => ?_) (fun hb2 => ?_)
  · try simp only [Bool.and_eq_true, Bool.or_eq_true, Bool.not_eq_true', Bool.not_eq_false', Bool.and_eq_false_iff, Bool.or_eq_false_iff, decide_eq_true_eq, decide_eq_false_iff_not, gd] at hb2
    have hx : (checkE s) = some (30, [nameN]) := check_bad1 (firstE_hd (by rw [hb2]; rfl))
    refine AC_seq ?_
    refine AC_region ?_
    refine AL_p rfl rfl (S_assign rfl (AEv.const _)) ?_
    refine AL_p rfl rfl (S_assign rfl (AEv.S _)) ?_
    refine AL_nil ?_
    refine AC_ret ?_
    refine ret_tmps (ts := [2, 3]) st rfl (by decide) rfl (Sub.l (List.Sublist.cons _ (List.Sublist.refl _))) (Conv.refl (Sub.l (List.Sublist.cons _ (List.Sublist.refl _))) _) ⟨cp_some hx rfl, rfl⟩ (.inl rfl)
  · try simp only [Bool.and_eq_true, Bool.or_eq_true, Bool.not_eq_true', Bool.not_eq_false', Bool.and_eq_false_iff, Bool.or_eq_false_iff, decide_eq_true_eq, decide_eq_false_iff_not, gd] at hb2
    have hnm : erNew (saysV (nameV s.name) 30) [nameN] = none := by rw [hb2]; rfl
    refine AC_skip ?_
    refine AC_seq ?_
    refine AC_region ?_
    refine AL_p rfl rfl (S_field 1 rfl (AEv.tmp rfl) (by kernel_rfl)) ?_
    refine AL_p rfl rfl (S_load 0 rfl (AEv.tmp rfl) rfl rfl (by kernel_rfl)) ?_
    refine AL_p rfl rfl (S_pcall rfl (AEvs.cons (AEv.S _) (AEvs.cons (AEv.tmp rfl) AEvs.nil)) (ref06_Labels_ok labelsN (by decide) s.labels (by omega) h5)) ?_
    refine AL_p rfl rfl (S_move rfl (AEv.tmp rfl)) ?_
    refine AL_p rfl rfl (S_extract 0 rfl (AEv.tmp rfl) rfl) ?_
    refine AL_p rfl rfl (S_extract 1 rfl (AEv.tmp rfl) rfl) ?_
    refine AL_p rfl rfl (S_assign rfl (AEv.tmp rfl)) ?_
    refine AL_p rfl rfl (S_assign rfl (AEv.tmp rfl)) ?_
    refine AL_nil ?_
    refine AC_seq ?_
    refine AC_seq ?_
    refine AC_region ?_
    refine AL_p rfl rfl (S_move rfl (AEv.tmp rfl)) ?_
    refine AL_p rfl rfl (S_neq rfl (AEv.tmp rfl) (AEv.const _)) ?_
    refine AL_nil ?_
    refine AC_cond (AEv.tmp rfl) (fun hb3 => ?_) (fun hb3 => ?_)
    · try simp only [Bool.and_eq_true, Bool.or_eq_true, Bool.not_eq_true', Bool.not_eq_false', Bool.and_eq_false_iff, Bool.or_eq_false_iff, decide_eq_true_eq, decide_eq_false_iff_not, gd] at hb3
      have hne : labelsE labelsN s.labels ≠ none := fun h => hb3 (by rw [h]; rfl)
      obtain ⟨x, hx⟩ : ∃ x, labelsE labelsN s.labels = some x := Option.ne_none_iff_exists'.1 hne
      have hx2 : (checkE s) = some x := check_bad1 ((firstE_tl hnm).trans (firstE_hd hx))
      refine AC_seq ?_
      refine AC_region ?_
      refine AL_p rfl rfl (S_move rfl (AEv.tmp rfl)) ?_
      refine AL_p rfl rfl (S_move rfl (AEv.tmp rfl)) ?_
      refine AL_p rfl rfl (S_assign rfl (AEv.tmp rfl)) ?_
      refine AL_p rfl rfl (S_assign rfl (AEv.tmp rfl)) ?_
      refine AL_nil ?_
      refine AC_ret ?_
      refine ret_tmps (ts := [2, 3]) st rfl (by decide) rfl (Sub.l (List.Sublist.cons _ (List.Sublist.refl _))) (Conv.refl (Sub.l (List.Sublist.cons _ (List.Sublist.refl _))) _) ⟨congrArg cpAV (hx.trans hx2.symm), rfl⟩ (.inl rfl)
    · try simp only [Bool.and_eq_true, Bool.or_eq_true, Bool.not_eq_true', Bool.not_eq_false', Bool.and_eq_false_iff, Bool.or_eq_false_iff, decide_eq_true_eq, decide_eq_false_iff_not, gd] at hb3
      have hlb : labelsE labelsN s.labels = none := (well_labels _ _).code.1 (by simpa using hb3)
      refine AC_skip ?_
      refine AC_seq ?_
      refine AC_seq ?_
      refine AC_region ?_
      refine AL_p rfl rfl (S_field 2 rfl (AEv.tmp rfl) (by kernel_rfl)) ?_
      refine AL_p rfl rfl (S_load 0 rfl (AEv.tmp rfl) rfl rfl (by kernel_rfl)) ?_
      refine AL_p rfl rfl (by first | exact S_lenM (e := 52) rfl (AEv.tmp rfl) (by kernel_rfl) | exact S_len (e := 52) rfl (AEv.tmp rfl) (by kernel_rfl)) ?_
      refine AL_p rfl rfl (S_gtr rfl (AEv.tmp rfl) (AEv.const _)) ?_
      refine AL_nil ?_
      refine AC_cond (AEv.tmp rfl) (fun hb4 => ?_) (fun hb4 => ?_)
      · try simp only [Bool.and_eq_true, Bool.or_eq_true, Bool.not_eq_true', Bool.not_eq_false', Bool.and_eq_false_iff, Bool.or_eq_false_iff, decide_eq_true_eq, decide_eq_false_iff_not, gd] at hb4
        have hx : (checkE s) = some (2, [initN]) := check_bad1 ((firstE_tl hnm).trans ((firstE_tl hlb).trans (firstE_hd (by unfold atMostE; rw [if_pos (by omega)]))))
        refine AC_seq ?_
        refine AC_region ?_
        refine AL_p rfl rfl (S_assign rfl (AEv.const _)) ?_
        refine AL_p rfl rfl (S_assign rfl (AEv.S _)) ?_
        refine AL_nil ?_
        refine AC_ret ?_
        refine ret_tmps (ts := [2, 3]) st rfl (by decide) rfl (Sub.l (List.Sublist.cons _ (List.Sublist.refl _))) (Conv.refl (Sub.l (List.Sublist.cons _ (List.Sublist.refl _))) _) ⟨cp_some hx rfl, rfl⟩ (.inl rfl)
      · try simp only [Bool.and_eq_true, Bool.or_eq_true, Bool.not_eq_true', Bool.not_eq_false', Bool.and_eq_false_iff, Bool.or_eq_false_iff, decide_eq_true_eq, decide_eq_false_iff_not, gd] at hb4
        have hc1 : firstE (check1 s) = none := (firstE_tl hnm).trans ((firstE_tl hlb).trans ((firstE_tl (by unfold atMostE; rw [if_neg (by omega)])).trans rfl))
        refine AC_skip ?_
        refine AC_seq ?_
        refine AC_region ?_
        refine AL_p rfl rfl (S_assign rfl (AEv.const _)) ?_
        refine AL_nil ?_
        refine AC_seq ?_
        refine AC_seq ?_
        refine AC_region ?_
        refine AL_p rfl rfl (S_assign rfl (AEv.const _)) ?_
        refine AL_nil ?_
        refine AC_block ?_
        refine AC_loopK (G := Nat × Own) [(1, _)] (fun g => g.1 ≤ s.init.length ∧ g.2.ok ((s.init.take g.1).map ctrAV) ∧ ∀ j, j < g.1 → ctrAt [] [] s.init 0 0 j = none) (fun g => [(6, ownAV g.2 11 ((s.init.take g.1).map ctrAV)), (7, .int .i64 (g.1 : Int))]) (fun g => (b1, .cells (spcL s)) :: (ownSt g.2 52 11 ((s.init.take g.1).map ctrAV) ++ st)) (fun g => s.init.length - g.1) ((0, .nil)) (⟨Nat.zero_le _, by simp [Own.ok], fun j h => absurd h (Nat.not_lt_zero _)⟩) (Sub.l (List.Sublist.refl _)) (.cons rfl (Le.refl _) .nil) (.cons rfl (by first | exact Le.refl _ | exact Le.nils | exact Le.row _ _ _ _ | exact Le.of_eq (by first | rfl | (simp; done) | (push_cast; rfl) | (simp; omega))) (.cons rfl (by first | exact Le.refl _ | exact Le.nils | exact Le.row _ _ _ _ | exact Le.of_eq (by first | rfl | (simp; done) | (push_cast; rfl) | (simp; omega))) .nil)) ?_
        · rintro ⟨i, p⟩ ⟨hi, hq, hall⟩
          try dsimp only
          simp only [List.cons_append, List.nil_append]
          dsimp only at hi hq hall
          refine AC_seq ?_
          refine AC_seq ?_
          refine AC_region ?_
          refine AL_p rfl rfl (S_move rfl (AEv.tmp rfl)) ?_
          refine AL_p rfl rfl (S_field 2 rfl (AEv.tmp rfl) (by kernel_rfl)) ?_
          refine AL_p rfl rfl (S_load 0 rfl (AEv.tmp rfl) rfl rfl (by kernel_rfl)) ?_
          refine AL_p rfl rfl (by first | exact S_lenM (e := 52) rfl (AEv.tmp rfl) (by kernel_rfl) | exact S_len (e := 52) rfl (AEv.tmp rfl) (by kernel_rfl)) ?_
          refine AL_p rfl rfl (S_lss rfl (AEv.tmp rfl) (AEv.tmp rfl)) ?_
          refine AL_nil ?_
          refine AC_cond (AEv.tmp rfl) (fun hb5 => ?_) (fun hb5 => ?_)
          · try simp only [Bool.and_eq_true, Bool.or_eq_true, Bool.not_eq_true', Bool.not_eq_false', Bool.and_eq_false_iff, Bool.or_eq_false_iff, decide_eq_true_eq, decide_eq_false_iff_not, gd] at hb5
            have hil : i < s.init.length := by omega
            have hif : fits (i : Int) := by unfold fits; omega
            have hat := at_short (name := initN) (by decide) hil (by omega)
            have hsh := (short_ctr (ns := namesTo [] s.init i) (ps := portsTo [] s.init i) (a := 0) (b := 0) (c := s.init[i]'hil) (by have := hpi _ (List.getElem_mem hil); omega)).text
            refine AC_skip ?_
            refine AC_seq ?_
            refine AC_block ?_
            refine AC_seq ?_
            refine AC_region ?_
            refine AL_p rfl rfl (S_field 2 rfl (AEv.tmp rfl) (by kernel_rfl)) ?_
            refine AL_p rfl rfl (S_load 0 rfl (AEv.tmp rfl) rfl rfl (by kernel_rfl)) ?_
            refine AL_p rfl rfl (S_move rfl (AEv.tmp rfl)) ?_
            refine AL_p rfl rfl (S_elemN (e := 52) 11 rfl (AEv.tmp rfl) (AEv.tmp rfl) (by kernel_rfl) (by kernel_rfl) (by omega) (fun _ => rfl)) ?_
            refine AL_p rfl rfl (S_loadPN (m := 11) rfl (AEv.tmp rfl) (by kernel_rfl) (by first | exact Nat.le_of_ble_eq_true rfl | (simp; omega) | simp)) ?_
            refine AL_p rfl rfl (S_move rfl (AEv.tmp rfl)) ?_
            refine AL_p rfl rfl (S_pcall rfl (AEvs.cons (y := ctrAV (s.init[i]'hil)) (AEv.tmp rfl) (AEvs.cons ((AEv.tmp rfl).le (Le_own hq)) (AEvs.cons (AEv.const _) AEvs.nil))) ((ref06_one_ok (s.init[i]'hil) (s.init.take i) true (by have := hpi _ (List.getElem_mem hil); omega) (by have := hpi _ (List.getElem_mem hil); omega) (by have := hpi _ (List.getElem_mem hil); omega) (by rw [List.length_take]; omega) (fun x hx => by have := hpi x (List.mem_of_mem_take hx); omega)).of_eq (show _ = cpAV (ctrE (namesTo [] s.init i) (portsTo [] s.init i) (s.init[i]'hil) 0 0) from rfl))) ?_
            refine AL_p rfl rfl (S_move rfl (AEv.tmp rfl)) ?_
            refine AL_p rfl rfl (S_extract 0 rfl (AEv.tmp rfl) rfl) ?_
            refine AL_p rfl rfl (S_extract 1 rfl (AEv.tmp rfl) rfl) ?_
            refine AL_p rfl rfl (S_assign rfl (AEv.tmp rfl)) ?_
            refine AL_p rfl rfl (S_assign rfl (AEv.tmp rfl)) ?_
            refine AL_nil ?_
            refine AC_seq ?_
            refine AC_seq ?_
            refine AC_region ?_
            refine AL_p rfl rfl (S_move rfl (AEv.tmp rfl)) ?_
            refine AL_p rfl rfl (S_neq rfl (AEv.tmp rfl) (AEv.const _)) ?_
            refine AL_nil ?_
            refine AC_cond (AEv.tmp rfl) (fun hb6 => ?_) (fun hb6 => ?_)
            · try simp only [Bool.and_eq_true, Bool.or_eq_true, Bool.not_eq_true', Bool.not_eq_false', Bool.and_eq_false_iff, Bool.or_eq_false_iff, decide_eq_true_eq, decide_eq_false_iff_not, gd] at hb6
              have hne : (ctrE (namesTo [] s.init i) (portsTo [] s.init i) (s.init[i]'hil) 0 0) ≠ none := fun h => hb6 (congrArg erCode h)
              have hx : (checkE s) = erIn (ctrE (namesTo [] s.init i) (portsTo [] s.init i) (s.init[i]'hil) 0 0) (atT initN (i : Int)) := by
                obtain ⟨y, hy⟩ := Option.ne_none_iff_exists'.1 hne
                obtain ⟨z, hz⟩ : ∃ z, erIn (ctrE (namesTo [] s.init i) (portsTo [] s.init i) (s.init[i]'hil) 0 0) (atT initN (i : Int)) = some z := by rw [hy]; exact ⟨_, rfl⟩
                rw [hz]
                exact check_bad2 hc1 (firstE_hd (eachE_at hil (by rw [ctrAt_at hil, hz]) (fun j hj => by rw [hall j hj]; rfl)))
              refine AC_seq ?_
              refine AC_region ?_
              refine AL_p rfl rfl (S_move rfl (AEv.tmp rfl)) ?_
              refine AL_p rfl rfl (S_move rfl (AEv.tmp rfl)) ?_
              refine AL_p rfl rfl (S_pcall rfl (AEvs.cons (AEv.S _) (AEvs.cons (AEv.tmp rfl) AEvs.nil)) (ref06_at_ok initN (by decide) (i : Int) hif)) ?_
              refine AL_p rfl rfl (S_cat rfl (AEv.tmp rfl) (AEv.S _) (by first | omega | (simp only [List.length_append, List.length_cons, List.length_nil]; omega))) ?_
              refine AL_p rfl rfl (S_move rfl (AEv.tmp rfl)) ?_
              refine AL_p rfl rfl (S_cat rfl (AEv.tmp rfl) (AEv.tmp rfl) (by first | omega | (simp only [List.length_append, List.length_cons, List.length_nil]; omega))) ?_
              refine AL_p rfl rfl (S_assign rfl (AEv.tmp rfl)) ?_
              refine AL_p rfl rfl (S_assign rfl (AEv.tmp rfl)) ?_
              refine AL_nil ?_
              refine AC_ret ?_
              refine ret_tmps (ts := [2, 3]) st rfl (by decide) rfl (Sub.l (List.Sublist.cons _ (List.sublist_append_right _ _))) (Conv.refl (Sub.l (List.Sublist.cons _ (List.sublist_append_right _ _))) _) ⟨cp_in (well_ctr _ _ _ _ _) hne hx rfl, rfl⟩ (.inl rfl)
            · try simp only [Bool.and_eq_true, Bool.or_eq_true, Bool.not_eq_true', Bool.not_eq_false', Bool.and_eq_false_iff, Bool.or_eq_false_iff, decide_eq_true_eq, decide_eq_false_iff_not, gd] at hb6
              have hnn : (ctrE (namesTo [] s.init i) (portsTo [] s.init i) (s.init[i]'hil) 0 0) = none := (well_ctr _ _ _ _ _).code.1 hb6
              refine AC_skip ?_
              refine AC_region ?_
              refine AL_p rfl rfl (S_move rfl (AEv.tmp rfl)) ?_
              refine AL_p rfl rfl (S_field 2 rfl (AEv.tmp rfl) (by kernel_rfl)) ?_
              refine AL_p rfl rfl (S_load 0 rfl (AEv.tmp rfl) rfl rfl (by kernel_rfl)) ?_
              refine AL_p rfl rfl (S_move rfl (AEv.tmp rfl)) ?_
              refine AL_p rfl rfl (S_elemN (e := 52) 11 rfl (AEv.tmp rfl) (AEv.tmp rfl) (by kernel_rfl) (by kernel_rfl) (by omega) (fun _ => rfl)) ?_
              refine AL_p rfl rfl (S_loadPN (m := 11) rfl (AEv.tmp rfl) (by kernel_rfl) (by first | exact Nat.le_of_ble_eq_true rfl | (simp; omega) | simp)) ?_
              refine AL_p rfl rfl (S_buildSlice (e := 52) 11 rfl (AEvs.cons (AEv.tmp rfl) AEvs.nil) rfl (by kernel_rfl) (by kernel_rfl) (by intro y hy; simp only [List.mem_cons, List.not_mem_nil, or_false] at hy; rcases hy with rfl <;> exact ⟨rfl, rfl⟩) (by decide) (by decide) (by decide)) ?_
              refine AL_step rfl rfl (S_appendT (f := ctrAV) (l := s.init) (i := i) (e := 52) (size := 11) (bytes := 120) (p := p) (by omega) ([_]) (st) rfl (AEv.tmp rfl) (AEv.tmp rfl) rfl hq (by kernel_rfl) (fun _ => ⟨rfl, rfl⟩) (by omega) (by omega)) ?_
              rintro _ _ ⟨b8, k8, cap8, hx8, rfl, rfl⟩
              refine AL_p rfl rfl (S_assign rfl (AEv.tmp rfl)) ?_
              refine AL_nil ?_
              refine AC_region ?_
              refine AL_p rfl rfl (S_move rfl (AEv.tmp rfl)) ?_
              refine AL_p rfl rfl (S_addI rfl (AEv.tmp rfl) (AEv.const _) (by omega) (by omega)) ?_
              refine AL_p rfl rfl (S_assign rfl (AEv.tmp rfl)) ?_
              refine AL_nil ?_
              refine ⟨(i + 1, .row b8 k8 cap8), ⟨by dsimp only; omega, hx8, fun j h => ?_⟩, by dsimp only; omega, (Sub.l (List.Sublist.refl _)), (.cons rfl (by first | exact Le.refl _ | exact Le.nils | exact Le.row _ _ _ _ | exact Le.of_eq (by first | rfl | (simp; done) | (push_cast; rfl) | (simp; omega))) (.cons rfl (by first | exact Le.refl _ | exact Le.nils | exact Le.row _ _ _ _ | exact Le.of_eq (by first | rfl | (simp; done) | (push_cast; rfl) | (simp; omega))) .nil)), (.cons rfl (Le.refl _) .nil)⟩
              rcases Nat.lt_or_ge j i with h' | h'
              · exact hall j h'
              · have : j = i := by dsimp only at h; omega
                subst this
                rw [ctrAt_at hil]; exact hnn
          · try simp only [Bool.and_eq_true, Bool.or_eq_true, Bool.not_eq_true', Bool.not_eq_false', Bool.and_eq_false_iff, Bool.or_eq_false_iff, decide_eq_true_eq, decide_eq_false_iff_not, gd] at hb5
            obtain rfl : i = s.init.length := by omega
            rw [List.take_length] at hq ⊢
            have hci : ctrsE initN [] [] s.init 0 0 = none := eachE_all fun j hj => by rw [hall j hj]; rfl
            refine AC_exit ?_
            refine AC_seq ?_
            refine AC_seq ?_
            refine AC_region ?_
            refine AL_p rfl rfl (S_field 3 rfl (AEv.tmp rfl) (by kernel_rfl)) ?_
            refine AL_p rfl rfl (S_load 0 rfl (AEv.tmp rfl) rfl rfl (by kernel_rfl)) ?_
            refine AL_p rfl rfl (by first | exact S_lenM (e := 52) rfl (AEv.tmp rfl) (by kernel_rfl) | exact S_len (e := 52) rfl (AEv.tmp rfl) (by kernel_rfl)) ?_
            refine AL_p rfl rfl (S_lss rfl (AEv.tmp rfl) (AEv.const _)) ?_
            refine AL_p rfl rfl (S_move rfl (AEv.tmp rfl)) ?_
            refine AL_g rfl rfl (AEv.tmp rfl) rfl (fun hg9 => S_field 3 rfl (AEv.tmp rfl) (by kernel_rfl)) ?_
            refine AL_g rfl rfl (AEv.tmp rfl) rfl (fun hg12 => S_load 0 rfl (AEv.cond (AEv.tmp rfl) (by first | assumption | exact gdAnd (by assumption) (by assumption))) rfl rfl (by kernel_rfl)) ?_
            refine AL_g rfl rfl (AEv.tmp rfl) rfl (fun hg15 => by first | exact S_lenM (e := 52) rfl (AEv.cond (AEv.tmp rfl) (by first | assumption | exact gdAnd (by assumption) (by assumption))) (by kernel_rfl) | exact S_len (e := 52) rfl (AEv.cond (AEv.tmp rfl) (by first | assumption | exact gdAnd (by assumption) (by assumption))) (by kernel_rfl)) ?_
            refine AL_g rfl rfl (AEv.tmp rfl) rfl (fun hg18 => S_gtr rfl (AEv.cond (AEv.tmp rfl) (by first | assumption | exact gdAnd (by assumption) (by assumption))) (AEv.const _)) ?_
            refine AL_p rfl rfl (S_or rfl (AEv.tmp rfl) (fun hp21 => (AEv.cond (AEv.tmp rfl) (by first | assumption | exact gdT hp21 | exact gdF hp21 | exact gdAnd (by assumption) (gdT hp21) | exact gdAnd (by assumption) (gdF hp21))))) ?_
            refine AL_nil ?_
            refine AC_cond (AEv.tmp rfl) (fun hb22 => ?_) (fun hb22 => ?_)
            · try simp only [Bool.and_eq_true, Bool.or_eq_true, Bool.not_eq_true', Bool.not_eq_false', Bool.and_eq_false_iff, Bool.or_eq_false_iff, decide_eq_true_eq, decide_eq_false_iff_not, gd] at hb22
              have hx : (checkE s) = some (2, [mainN]) := check_bad2 hc1 ((firstE_tl hci).trans (firstE_hd (by unfold atMostE; rw [if_pos (by omega)])))
              refine AC_seq ?_
              refine AC_region ?_
              refine AL_p rfl rfl (S_assign rfl (AEv.const _)) ?_
              refine AL_p rfl rfl (S_assign rfl (AEv.S _)) ?_
              refine AL_nil ?_
              refine AC_ret ?_
              refine ret_tmps (ts := [2, 3]) st rfl (by decide) rfl (Sub.l (List.Sublist.cons _ (List.sublist_append_right _ _))) (Conv.refl (Sub.l (List.Sublist.cons _ (List.sublist_append_right _ _))) _) ⟨cp_some hx rfl, rfl⟩ (.inl rfl)
            · try simp only [Bool.and_eq_true, Bool.or_eq_true, Bool.not_eq_true', Bool.not_eq_false', Bool.and_eq_false_iff, Bool.or_eq_false_iff, decide_eq_true_eq, decide_eq_false_iff_not, gd] at hb22
              have hc2 : firstE (check2 s) = none := (firstE_tl hci).trans ((firstE_tl (by unfold atMostE; rw [if_neg (by omega)])).trans rfl)
              refine AC_skip ?_
              refine AC_seq ?_
              refine AC_seq ?_
              refine AC_region ?_
              refine AL_p rfl rfl (S_assign rfl (AEv.const _)) ?_
              refine AL_nil ?_
              refine AC_block ?_
              refine AC_loopK (G := Nat × Own) [(1, _)] (fun g => g.1 ≤ s.main.length ∧ g.2.ok ((s.init ++ s.main.take g.1).map ctrAV) ∧ ∀ j, j < g.1 → ctrAt (namesTo [] s.init s.init.length) (portsTo [] s.init s.init.length) s.main 3 1000 j = none) (fun g => [(6, ownAV g.2 11 ((s.init ++ s.main.take g.1).map ctrAV)), (8, .int .i64 (g.1 : Int))]) (fun g => (b1, .cells (spcL s)) :: (ownSt g.2 52 11 ((s.init ++ s.main.take g.1).map ctrAV) ++ st)) (fun g => s.main.length - g.1) ((0, p)) (⟨Nat.zero_le _, by simpa using hq, fun j h => absurd h (Nat.not_lt_zero _)⟩) (by simp only [List.take_zero, List.append_nil]; exact Sub.l (List.Sublist.refl _)) (.cons rfl (Le.refl _) .nil) (.cons rfl (by first | exact Le.refl _ | exact Le.nils | exact Le.row _ _ _ _ | exact Le.of_eq (by first | rfl | (simp; done) | (push_cast; rfl) | (simp; omega))) (.cons rfl (by first | exact Le.refl _ | exact Le.nils | exact Le.row _ _ _ _ | exact Le.of_eq (by first | rfl | (simp; done) | (push_cast; rfl) | (simp; omega))) .nil)) ?_
              · rintro ⟨i, p⟩ ⟨hi, hq, hall⟩
                try dsimp only
                simp only [List.cons_append, List.nil_append]
                dsimp only at hi hq hall
                refine AC_seq ?_
                refine AC_seq ?_
                refine AC_region ?_
                refine AL_p rfl rfl (S_move rfl (AEv.tmp rfl)) ?_
                refine AL_p rfl rfl (S_field 3 rfl (AEv.tmp rfl) (by kernel_rfl)) ?_
                refine AL_p rfl rfl (S_load 0 rfl (AEv.tmp rfl) rfl rfl (by kernel_rfl)) ?_
                refine AL_p rfl rfl (by first | exact S_lenM (e := 52) rfl (AEv.tmp rfl) (by kernel_rfl) | exact S_len (e := 52) rfl (AEv.tmp rfl) (by kernel_rfl)) ?_
                refine AL_p rfl rfl (S_lss rfl (AEv.tmp rfl) (AEv.tmp rfl)) ?_
                refine AL_nil ?_
                refine AC_cond (AEv.tmp rfl) (fun hb23 => ?_) (fun hb23 => ?_)
                · try simp only [Bool.and_eq_true, Bool.or_eq_true, Bool.not_eq_true', Bool.not_eq_false', Bool.and_eq_false_iff, Bool.or_eq_false_iff, decide_eq_true_eq, decide_eq_false_iff_not, gd] at hb23
                  have hil : i < s.main.length := by omega
                  have hif : fits (i : Int) := by unfold fits; omega
                  have hat := at_short (name := mainN) (by decide) hil (by omega)
                  have hsh := (short_ctr (ns := (s.init ++ s.main.take i).map Ctr.name) (ps := (s.init ++ s.main.take i).flatMap Ctr.ports) (a := 3) (b := 1000) (c := s.main[i]'hil) (by have := hpm _ (List.getElem_mem hil); omega)).text
                  refine AC_skip ?_
                  refine AC_seq ?_
                  refine AC_block ?_
                  refine AC_seq ?_
                  refine AC_region ?_
                  refine AL_p rfl rfl (S_field 3 rfl (AEv.tmp rfl) (by kernel_rfl)) ?_
                  refine AL_p rfl rfl (S_load 0 rfl (AEv.tmp rfl) rfl rfl (by kernel_rfl)) ?_
                  refine AL_p rfl rfl (S_move rfl (AEv.tmp rfl)) ?_
                  refine AL_p rfl rfl (S_elemN (e := 52) 11 rfl (AEv.tmp rfl) (AEv.tmp rfl) (by kernel_rfl) (by kernel_rfl) (by omega) (fun _ => rfl)) ?_
                  refine AL_p rfl rfl (S_loadPN (m := 11) rfl (AEv.tmp rfl) (by kernel_rfl) (by first | exact Nat.le_of_ble_eq_true rfl | (simp; omega) | simp)) ?_
                  refine AL_p rfl rfl (S_move rfl (AEv.tmp rfl)) ?_
                  refine AL_p rfl rfl (S_pcall rfl (AEvs.cons (y := ctrAV (s.main[i]'hil)) (AEv.tmp rfl) (AEvs.cons ((AEv.tmp rfl).le (Le_own hq)) (AEvs.cons (AEv.const _) AEvs.nil))) ((ref06_one_ok (s.main[i]'hil) (s.init ++ s.main.take i) false (by have := hpm _ (List.getElem_mem hil); omega) (by have := hpm _ (List.getElem_mem hil); omega) (by have := hpm _ (List.getElem_mem hil); omega) (by rw [List.length_append, List.length_take]; omega) (fun x hx => (List.mem_append.1 hx).elim (fun hx => by have := hpi x hx; omega) (fun hx => by have := hpm x (List.mem_of_mem_take hx); omega))).of_eq (show _ = cpAV (ctrE ((s.init ++ s.main.take i).map Ctr.name) ((s.init ++ s.main.take i).flatMap Ctr.ports) (s.main[i]'hil) 3 1000) from rfl))) ?_
                  refine AL_p rfl rfl (S_move rfl (AEv.tmp rfl)) ?_
                  refine AL_p rfl rfl (S_extract 0 rfl (AEv.tmp rfl) rfl) ?_
                  refine AL_p rfl rfl (S_extract 1 rfl (AEv.tmp rfl) rfl) ?_
                  refine AL_p rfl rfl (S_assign rfl (AEv.tmp rfl)) ?_
                  refine AL_p rfl rfl (S_assign rfl (AEv.tmp rfl)) ?_
                  refine AL_nil ?_
                  refine AC_seq ?_
                  refine AC_seq ?_
                  refine AC_region ?_
                  refine AL_p rfl rfl (S_move rfl (AEv.tmp rfl)) ?_
                  refine AL_p rfl rfl (S_neq rfl (AEv.tmp rfl) (AEv.const _)) ?_
                  refine AL_nil ?_
                  refine AC_cond (AEv.tmp rfl) (fun hb24 => ?_) (fun hb24 => ?_)
                  · try simp only [Bool.and_eq_true, Bool.or_eq_true, Bool.not_eq_true', Bool.not_eq_false', Bool.and_eq_false_iff, Bool.or_eq_false_iff, decide_eq_true_eq, decide_eq_false_iff_not, gd] at hb24
                    have hne : (ctrE ((s.init ++ s.main.take i).map Ctr.name) ((s.init ++ s.main.take i).flatMap Ctr.ports) (s.main[i]'hil) 3 1000) ≠ none := fun h => hb24 (congrArg erCode h)
                    have hx : (checkE s) = erIn (ctrE ((s.init ++ s.main.take i).map Ctr.name) ((s.init ++ s.main.take i).flatMap Ctr.ports) (s.main[i]'hil) 3 1000) (atT mainN (i : Int)) := by
                      obtain ⟨y, hy⟩ := Option.ne_none_iff_exists'.1 hne
                      obtain ⟨z, hz⟩ : ∃ z, erIn (ctrE ((s.init ++ s.main.take i).map Ctr.name) ((s.init ++ s.main.take i).flatMap Ctr.ports) (s.main[i]'hil) 3 1000) (atT mainN (i : Int)) = some z := by rw [hy]; exact ⟨_, rfl⟩
                      rw [hz]
                      exact (check_good hc1 hc2).trans (firstE_hd (eachE_at hil (by rw [ctrAt_at hil, seen_names, seen_ports, hz]) (fun j hj => by rw [hall j hj]; rfl)))
                    refine AC_seq ?_
                    refine AC_region ?_
                    refine AL_p rfl rfl (S_move rfl (AEv.tmp rfl)) ?_
                    refine AL_p rfl rfl (S_move rfl (AEv.tmp rfl)) ?_
                    refine AL_p rfl rfl (S_pcall rfl (AEvs.cons (AEv.S _) (AEvs.cons (AEv.tmp rfl) AEvs.nil)) (ref06_at_ok mainN (by decide) (i : Int) hif)) ?_
                    refine AL_p rfl rfl (S_cat rfl (AEv.tmp rfl) (AEv.S _) (by first | omega | (simp only [List.length_append, List.length_cons, List.length_nil]; omega))) ?_
                    refine AL_p rfl rfl (S_move rfl (AEv.tmp rfl)) ?_
                    refine AL_p rfl rfl (S_cat rfl (AEv.tmp rfl) (AEv.tmp rfl) (by first | omega | (simp only [List.length_append, List.length_cons, List.length_nil]; omega))) ?_
                    refine AL_p rfl rfl (S_assign rfl (AEv.tmp rfl)) ?_
                    refine AL_p rfl rfl (S_assign rfl (AEv.tmp rfl)) ?_
                    refine AL_nil ?_
                    refine AC_ret ?_
                    refine ret_tmps (ts := [2, 3]) st rfl (by decide) rfl (Sub.l (List.Sublist.cons _ (List.sublist_append_right _ _))) (Conv.refl (Sub.l (List.Sublist.cons _ (List.sublist_append_right _ _))) _) ⟨cp_in (well_ctr _ _ _ _ _) hne hx rfl, rfl⟩ (.inl rfl)
                  · try simp only [Bool.and_eq_true, Bool.or_eq_true, Bool.not_eq_true', Bool.not_eq_false', Bool.and_eq_false_iff, Bool.or_eq_false_iff, decide_eq_true_eq, decide_eq_false_iff_not, gd] at hb24
                    have hnn : (ctrE ((s.init ++ s.main.take i).map Ctr.name) ((s.init ++ s.main.take i).flatMap Ctr.ports) (s.main[i]'hil) 3 1000) = none := (well_ctr _ _ _ _ _).code.1 hb24
                    refine AC_skip ?_
                    refine AC_region ?_
                    refine AL_p rfl rfl (S_move rfl (AEv.tmp rfl)) ?_
                    refine AL_p rfl rfl (S_field 3 rfl (AEv.tmp rfl) (by kernel_rfl)) ?_
                    refine AL_p rfl rfl (S_load 0 rfl (AEv.tmp rfl) rfl rfl (by kernel_rfl)) ?_
                    refine AL_p rfl rfl (S_move rfl (AEv.tmp rfl)) ?_
                    refine AL_p rfl rfl (S_elemN (e := 52) 11 rfl (AEv.tmp rfl) (AEv.tmp rfl) (by kernel_rfl) (by kernel_rfl) (by omega) (fun _ => rfl)) ?_
                    refine AL_p rfl rfl (S_loadPN (m := 11) rfl (AEv.tmp rfl) (by kernel_rfl) (by first | exact Nat.le_of_ble_eq_true rfl | (simp; omega) | simp)) ?_
                    refine AL_p rfl rfl (S_buildSlice (e := 52) 11 rfl (AEvs.cons (AEv.tmp rfl) AEvs.nil) rfl (by kernel_rfl) (by kernel_rfl) (by intro y hy; simp only [List.mem_cons, List.not_mem_nil, or_false] at hy; rcases hy with rfl <;> exact ⟨rfl, rfl⟩) (by decide) (by decide) (by decide)) ?_
                    refine AL_step rfl rfl (S_appendM (f := ctrAV) (l := s.init ++ s.main.take i) (l2 := [(s.main[i]'hil)]) (e := 52) (size := 11) (bytes := 120) (p := p) ([_]) (st) rfl (AEv.tmp rfl) (AEv.tmp rfl) rfl hq (by kernel_rfl) (by simp) (fun _ => ⟨rfl, rfl⟩) (by simp only [List.length_append, List.length_take, List.length_singleton]; omega) (by simp only [List.length_append, List.length_take, List.length_singleton]; omega)) ?_
                    rintro _ _ ⟨b8, k8, cap8, hx8, rfl, rfl⟩
                    refine AL_p rfl rfl (S_assign rfl (AEv.tmp rfl)) ?_
                    refine AL_nil ?_
                    refine AC_region ?_
                    refine AL_p rfl rfl (S_move rfl (AEv.tmp rfl)) ?_
                    refine AL_p rfl rfl (S_addI rfl (AEv.tmp rfl) (AEv.const _) (by omega) (by omega)) ?_
                    refine AL_p rfl rfl (S_assign rfl (AEv.tmp rfl)) ?_
                    refine AL_nil ?_
                    have e9 : s.init ++ s.main.take i ++ [(s.main[i]'hil)] = s.init ++ s.main.take (i + 1) := by rw [List.append_assoc, take_snoc]
                    rw [e9] at hx8 ⊢
                    refine ⟨(i + 1, .row b8 k8 cap8), ⟨by dsimp only; omega, hx8, fun j h => ?_⟩, by dsimp only; omega, (Sub.l (List.Sublist.refl _)), (.cons rfl (by first | exact Le.refl _ | exact Le.nils | exact Le.row _ _ _ _ | exact Le.of_eq (by first | rfl | (simp; done) | (push_cast; rfl) | (simp; omega))) (.cons rfl (by first | exact Le.refl _ | exact Le.nils | exact Le.row _ _ _ _ | exact Le.of_eq (by first | rfl | (simp; done) | (push_cast; rfl) | (simp; omega))) .nil)), (.cons rfl (Le.refl _) .nil)⟩
                    rcases Nat.lt_or_ge j i with h' | h'
                    · exact hall j h'
                    · have : j = i := by dsimp only at h; omega
                      subst this
                      rw [ctrAt_at hil, seen_names, seen_ports]; exact hnn
                · try simp only [Bool.and_eq_true, Bool.or_eq_true, Bool.not_eq_true', Bool.not_eq_false', Bool.and_eq_false_iff, Bool.or_eq_false_iff, decide_eq_true_eq, decide_eq_false_iff_not, gd] at hb23
                  have hcm : ctrsE mainN (namesTo [] s.init s.init.length) (portsTo [] s.init s.init.length) s.main 3 1000 = none := eachE_all fun j hj => by rw [hall j (by omega)]; rfl
                  have hc3 := (check_good hc1 hc2).trans (firstE_tl hcm)
                  refine AC_exit ?_
                  refine AC_seq ?_
                  refine AC_seq ?_
                  refine AC_region ?_
                  refine AL_p rfl rfl (S_field 4 rfl (AEv.tmp rfl) (by kernel_rfl)) ?_
                  refine AL_p rfl rfl (S_load 0 rfl (AEv.tmp rfl) rfl rfl (by kernel_rfl)) ?_
                  refine AL_p rfl rfl (S_lss rfl (AEv.tmp rfl) (AEv.const _)) ?_
                  refine AL_p rfl rfl (S_move rfl (AEv.tmp rfl)) ?_
                  refine AL_g rfl rfl (AEv.tmp rfl) rfl (fun hg27 => S_field 4 rfl (AEv.tmp rfl) (by kernel_rfl)) ?_
                  refine AL_g rfl rfl (AEv.tmp rfl) rfl (fun hg30 => S_load 0 rfl (AEv.cond (AEv.tmp rfl) (by first | assumption | exact gdAnd (by assumption) (by assumption))) rfl rfl (by kernel_rfl)) ?_
                  refine AL_g rfl rfl (AEv.tmp rfl) rfl (fun hg33 => S_gtr rfl (AEv.cond (AEv.tmp rfl) (by first | assumption | exact gdAnd (by assumption) (by assumption))) (AEv.const _)) ?_
                  refine AL_p rfl rfl (S_or rfl (AEv.tmp rfl) (fun hp36 => (AEv.cond (AEv.tmp rfl) (by first | assumption | exact gdT hp36 | exact gdF hp36 | exact gdAnd (by assumption) (gdT hp36) | exact gdAnd (by assumption) (gdF hp36))))) ?_
                  refine AL_nil ?_
                  refine AC_cond (AEv.tmp rfl) (fun hb37 => ?_) (fun hb37 => ?_)
                  · try simp only [Bool.and_eq_true, Bool.or_eq_true, Bool.not_eq_true', Bool.not_eq_false', Bool.and_eq_false_iff, Bool.or_eq_false_iff, decide_eq_true_eq, decide_eq_false_iff_not, gd] at hb37
                    have hx : (checkE s) = some (1, [[114, 101, 115, 116, 97, 114, 116]]) := hc3.trans (firstE_hd (by unfold withinE; rw [if_pos (by omega)]))
                    refine AC_seq ?_
                    refine AC_region ?_
                    refine AL_p rfl rfl (S_assign rfl (AEv.const _)) ?_
                    refine AL_p rfl rfl (S_assign rfl (AEv.S _)) ?_
                    refine AL_nil ?_
                    refine AC_ret ?_
                    refine ret_tmps (ts := [2, 3]) st rfl (by decide) rfl (Sub.l (List.Sublist.cons _ (List.sublist_append_right _ _))) (Conv.refl (Sub.l (List.Sublist.cons _ (List.sublist_append_right _ _))) _) ⟨cp_some hx rfl, rfl⟩ (.inl rfl)
                  · try simp only [Bool.and_eq_true, Bool.or_eq_true, Bool.not_eq_true', Bool.not_eq_false', Bool.and_eq_false_iff, Bool.or_eq_false_iff, decide_eq_true_eq, decide_eq_false_iff_not, gd] at hb37
                    have hc4 := hc3.trans (firstE_tl (by unfold withinE; rw [if_neg (by omega)]))
                    refine AC_skip ?_
                    refine AC_seq ?_
                    refine AC_seq ?_
                    refine AC_region ?_
                    refine AL_p rfl rfl (S_field 5 rfl (AEv.tmp rfl) (by kernel_rfl)) ?_
                    refine AL_p rfl rfl (S_load 0 rfl (AEv.tmp rfl) rfl rfl (by kernel_rfl)) ?_
                    refine AL_p rfl rfl (S_lss rfl (AEv.tmp rfl) (AEv.const _)) ?_
                    refine AL_p rfl rfl (S_move rfl (AEv.tmp rfl)) ?_
                    refine AL_g rfl rfl (AEv.tmp rfl) rfl (fun hg38 => S_field 5 rfl (AEv.tmp rfl) (by kernel_rfl)) ?_
                    refine AL_g rfl rfl (AEv.tmp rfl) rfl (fun hg41 => S_load 0 rfl (AEv.cond (AEv.tmp rfl) (by first | assumption | exact gdAnd (by assumption) (by assumption))) rfl rfl (by kernel_rfl)) ?_
                    refine AL_g rfl rfl (AEv.tmp rfl) rfl (fun hg44 => S_gtr rfl (AEv.cond (AEv.tmp rfl) (by first | assumption | exact gdAnd (by assumption) (by assumption))) (AEv.const _)) ?_
                    refine AL_p rfl rfl (S_or rfl (AEv.tmp rfl) (fun hp47 => (AEv.cond (AEv.tmp rfl) (by first | assumption | exact gdT hp47 | exact gdF hp47 | exact gdAnd (by assumption) (gdT hp47) | exact gdAnd (by assumption) (gdF hp47))))) ?_
                    refine AL_nil ?_
                    refine AC_cond (AEv.tmp rfl) (fun hb48 => ?_) (fun hb48 => ?_)
                    · try simp only [Bool.and_eq_true, Bool.or_eq_true, Bool.not_eq_true', Bool.not_eq_false', Bool.and_eq_false_iff, Bool.or_eq_false_iff, decide_eq_true_eq, decide_eq_false_iff_not, gd] at hb48
                      have hx : (checkE s) = some (1, [[103, 114, 97, 99, 101]]) := hc4.trans (firstE_hd (by unfold withinE; rw [if_pos (by omega)]))
                      refine AC_seq ?_
                      refine AC_region ?_
                      refine AL_p rfl rfl (S_assign rfl (AEv.const _)) ?_
                      refine AL_p rfl rfl (S_assign rfl (AEv.S _)) ?_
                      refine AL_nil ?_
                      refine AC_ret ?_
                      refine ret_tmps (ts := [2, 3]) st rfl (by decide) rfl (Sub.l (List.Sublist.cons _ (List.sublist_append_right _ _))) (Conv.refl (Sub.l (List.Sublist.cons _ (List.sublist_append_right _ _))) _) ⟨cp_some hx rfl, rfl⟩ (.inl rfl)
                    · try simp only [Bool.and_eq_true, Bool.or_eq_true, Bool.not_eq_true', Bool.not_eq_false', Bool.and_eq_false_iff, Bool.or_eq_false_iff, decide_eq_true_eq, decide_eq_false_iff_not, gd] at hb48
                      have hc5 := hc4.trans (firstE_tl (by unfold withinE; rw [if_neg (by omega)]))
                      refine AC_skip ?_
                      refine AC_seq ?_
                      refine AC_seq ?_
                      refine AC_region ?_
                      refine AL_p rfl rfl (S_field 6 rfl (AEv.tmp rfl) (by kernel_rfl)) ?_
                      refine AL_p rfl rfl (S_load 0 rfl (AEv.tmp rfl) rfl rfl (by kernel_rfl)) ?_
                      refine AL_p rfl rfl (S_lss rfl (AEv.tmp rfl) (AEv.const _)) ?_
                      refine AL_p rfl rfl (S_move rfl (AEv.tmp rfl)) ?_
                      refine AL_g rfl rfl (AEv.tmp rfl) rfl (fun hg49 => S_field 6 rfl (AEv.tmp rfl) (by kernel_rfl)) ?_
                      refine AL_g rfl rfl (AEv.tmp rfl) rfl (fun hg52 => S_load 0 rfl (AEv.cond (AEv.tmp rfl) (by first | assumption | exact gdAnd (by assumption) (by assumption))) rfl rfl (by kernel_rfl)) ?_
                      refine AL_g rfl rfl (AEv.tmp rfl) rfl (fun hg55 => S_gtr rfl (AEv.cond (AEv.tmp rfl) (by first | assumption | exact gdAnd (by assumption) (by assumption))) (AEv.const _)) ?_
                      refine AL_p rfl rfl (S_or rfl (AEv.tmp rfl) (fun hp58 => (AEv.cond (AEv.tmp rfl) (by first | assumption | exact gdT hp58 | exact gdF hp58 | exact gdAnd (by assumption) (gdT hp58) | exact gdAnd (by assumption) (gdF hp58))))) ?_
                      refine AL_nil ?_
                      refine AC_cond (AEv.tmp rfl) (fun hb59 => ?_) (fun hb59 => ?_)
                      · try simp only [Bool.and_eq_true, Bool.or_eq_true, Bool.not_eq_true', Bool.not_eq_false', Bool.and_eq_false_iff, Bool.or_eq_false_iff, decide_eq_true_eq, decide_eq_false_iff_not, gd] at hb59
                        have hx : (checkE s) = some (1, [[112, 114, 105, 111]]) := hc5.trans (firstE_hd (by unfold withinE; rw [if_pos (by omega)]))
                        refine AC_seq ?_
                        refine AC_region ?_
                        refine AL_p rfl rfl (S_assign rfl (AEv.const _)) ?_
                        refine AL_p rfl rfl (S_assign rfl (AEv.S _)) ?_
                        refine AL_nil ?_
                        refine AC_ret ?_
                        refine ret_tmps (ts := [2, 3]) st rfl (by decide) rfl (Sub.l (List.Sublist.cons _ (List.sublist_append_right _ _))) (Conv.refl (Sub.l (List.Sublist.cons _ (List.sublist_append_right _ _))) _) ⟨cp_some hx rfl, rfl⟩ (.inl rfl)
                      · try simp only [Bool.and_eq_true, Bool.or_eq_true, Bool.not_eq_true', Bool.not_eq_false', Bool.and_eq_false_iff, Bool.or_eq_false_iff, decide_eq_true_eq, decide_eq_false_iff_not, gd] at hb59
                        have hx : (checkE s) = none := hc5.trans ((firstE_tl (by unfold withinE; rw [if_neg (by omega)])).trans rfl)
                        refine AC_skip ?_
                        refine AC_seq ?_
                        refine AC_region ?_
                        refine AL_p rfl rfl (S_assign rfl (AEv.const _)) ?_
                        refine AL_p rfl rfl (S_assign rfl (AEv.S _)) ?_
                        refine AL_nil ?_
                        refine AC_ret ?_
                        refine ret_tmps (ts := [2, 3]) st rfl (by decide) rfl (Sub.l (List.Sublist.cons _ (List.sublist_append_right _ _))) (Conv.refl (Sub.l (List.Sublist.cons _ (List.sublist_append_right _ _))) _) ⟨cp_none hx, rfl⟩ (.inl rfl)

end Go.Proofs.YtfdcadnaginnpaaGreatDoor

/-
The walks of Go functions in the logic AL: what each of them answers.
Conditions: those of each theorem.
-/
set_option linter.unusedVariables false
set_option linter.unusedSimpArgs false
namespace Go.Proofs.YtfdcadnaginnpaaGreatDoor
open Go.AL Go.NumSpec

set_option maxRecDepth 100000 in
/-- provost/provostlaw06.SpecChecks -/
theorem law_SpecChecks (s : Spc) : GCalls Tryz.prog tabs 3 [spcAV s] (.bool true) := by
  intro st hG
  refine ACalls_of (N := 37) Tryz.func3 (by kernel_rfl) rfl rfl rfl ?_
  refine AC_seq ?_
  refine AC_region ?_
  refine AL_step rfl rfl (S_box rfl (AEv.tmp rfl)) ?_
  rintro _ _ ⟨b1, rfl, rfl⟩
  refine AL_p rfl rfl (S_assign rfl (AEv.const _)) ?_
  refine AL_nil ?_
  refine AC_seq ?_
  refine AC_seq ?_
  refine AC_region ?_
  refine AL_p rfl rfl (S_loadN (m := 7) 0 rfl (AEv.tmp rfl) rfl (by kernel_rfl) (by first | exact Nat.le_of_ble_eq_true rfl | (simp; omega) | simp)) ?_
  refine AL_p rfl rfl (S_pcall rfl (AEvs.cons (y := spcAV s) (AEv.tmp rfl) AEvs.nil) (book_LightSpec_ok _)) ?_
  refine AL_p rfl rfl (S_not rfl (AEv.tmp rfl)) ?_
  refine AL_nil ?_
  refine AC_cond (AEv.tmp rfl) (fun hb2 => ?_) (fun hb2 => ?_)
  · try simp only [Bool.and_eq_true, Bool.or_eq_true, Bool.not_eq_true', Bool.not_eq_false', Bool.and_eq_false_iff, Bool.or_eq_false_iff, decide_eq_true_eq, decide_eq_false_iff_not, gd] at hb2
    refine AC_seq ?_
    refine AC_region ?_
    refine AL_p rfl rfl (S_gcall rfl AEvs.nil ((law_works) _ (fun p hp => by first | exact hG p hp | (simp [hG p hp]; done)))) ?_
    refine AL_p rfl rfl (S_assign rfl (AEv.tmp rfl)) ?_
    refine AL_nil ?_
    refine AC_ret ?_
    refine ret_tmp st rfl rfl (Sub.l (List.Sublist.cons _ (List.Sublist.refl _))) (Conv.refl (Sub.l (List.Sublist.cons _ (List.Sublist.refl _))) _) ⟨rfl, rfl⟩ (.inl rfl)
  · try simp only [Bool.and_eq_true, Bool.or_eq_true, Bool.not_eq_true', Bool.not_eq_false', Bool.and_eq_false_iff, Bool.or_eq_false_iff, decide_eq_true_eq, decide_eq_false_iff_not, gd] at hb2
    have hl : lightS s = true := hb2
    refine AC_skip ?_
    refine AC_seq ?_
    refine AC_region ?_
    refine AL_p rfl rfl (S_loadN (m := 7) 0 rfl (AEv.tmp rfl) rfl (by kernel_rfl) (by first | exact Nat.le_of_ble_eq_true rfl | (simp; omega) | simp)) ?_
    refine AL_p rfl rfl (S_gcall rfl (AEvs.cons (y := spcAV s) (AEv.tmp rfl) AEvs.nil) ((spec_Check_ok s hl) _ (fun p hp => by first | exact hG p hp | (simp [hG p hp]; done)))) ?_
    refine AL_p rfl rfl (S_assign rfl (AEv.tmp rfl)) ?_
    refine AL_nil ?_
    refine AC_seq ?_
    refine AC_region ?_
    refine AL_p rfl rfl (S_loadN (m := 7) 0 rfl (AEv.tmp rfl) rfl (by kernel_rfl) (by first | exact Nat.le_of_ble_eq_true rfl | (simp; omega) | simp)) ?_
    refine AL_p rfl rfl (S_pcall rfl (AEvs.cons (y := spcAV s) (AEv.tmp rfl) AEvs.nil) (ref06_Check_ok s hl)) ?_
    refine AL_p rfl rfl (S_move rfl (AEv.tmp rfl)) ?_
    refine AL_p rfl rfl (S_extract 0 rfl (AEv.tmp rfl) rfl) ?_
    refine AL_p rfl rfl (S_extract 1 rfl (AEv.tmp rfl) rfl) ?_
    refine AL_p rfl rfl (S_assign rfl (AEv.tmp rfl)) ?_
    refine AL_p rfl rfl (S_assign rfl (AEv.tmp rfl)) ?_
    refine AL_nil ?_
    refine AC_seq ?_
    refine AC_region ?_
    refine AL_p rfl rfl (S_move rfl (AEv.tmp rfl)) ?_
    refine AL_p rfl rfl (S_eqlE (er_is 33 116 (checkE s)) rfl (AEv.tmp rfl) (by kernel_rfl)) ?_
    refine AL_p rfl rfl (S_move rfl (AEv.tmp rfl)) ?_
    refine AL_p rfl rfl (S_eql rfl (AEv.tmp rfl) (AEv.const _)) ?_
    refine AL_p rfl rfl (S_eqB rfl (AEv.tmp rfl) (AEv.tmp rfl) (by kernel_rfl)) ?_
    refine AL_p rfl rfl (S_move rfl (AEv.tmp rfl)) ?_
    refine AL_g rfl rfl (AEv.tmp rfl) rfl (fun hg3 => S_move rfl (AEv.tmp rfl)) ?_
    refine AL_g rfl rfl (AEv.tmp rfl) rfl (fun hg6 => S_gcall rfl (AEvs.cons (AEv.cond (AEv.tmp rfl) (by first | assumption | exact gdAnd (by assumption) (by assumption))) AEvs.nil) ((fail_Code_ok (checkE s)) _ (fun p hp => by first | exact hG p hp | (simp [hG p hp]; done)))) ?_
    refine AL_g rfl rfl (AEv.tmp rfl) rfl (fun hg9 => S_move rfl (AEv.tmp rfl)) ?_
    refine AL_g rfl rfl (AEv.tmp rfl) rfl (fun hg12 => S_eql rfl (AEv.cond (AEv.tmp rfl) (by first | assumption | exact gdAnd (by assumption) (by assumption))) (AEv.cond (AEv.tmp rfl) (by first | assumption | exact gdAnd (by assumption) (by assumption)))) ?_
    refine AL_p rfl rfl (S_and rfl (AEv.tmp rfl) (fun hp15 => (AEv.cond (AEv.tmp rfl) (by first | assumption | exact gdT hp15 | exact gdF hp15 | exact gdAnd (by assumption) (gdT hp15) | exact gdAnd (by assumption) (gdF hp15))))) ?_
    refine AL_p rfl rfl (S_move rfl (AEv.tmp rfl)) ?_
    refine AL_g rfl rfl (AEv.tmp rfl) rfl (fun hg16 => S_move rfl (AEv.tmp rfl)) ?_
    refine AL_g rfl rfl (AEv.tmp rfl) rfl (fun hg19 => S_gcall rfl (AEvs.cons (AEv.cond (AEv.tmp rfl) (by first | assumption | exact gdAnd (by assumption) (by assumption))) AEvs.nil) ((fail_Text_ok (checkE s) (by have := (check_short hl).path; omega) (by have := (check_short hl).text; unfold erText at this; omega)) _ (fun p hp => by first | exact hG p hp | (simp [hG p hp]; done)))) ?_
    refine AL_g rfl rfl (AEv.tmp rfl) rfl (fun hg22 => S_move rfl (AEv.tmp rfl)) ?_
    refine AL_g rfl rfl (AEv.tmp rfl) rfl (fun hg25 => S_eqS rfl (AEv.cond (AEv.tmp rfl) (by first | assumption | exact gdAnd (by assumption) (by assumption))) (AEv.cond (AEv.tmp rfl) (by first | assumption | exact gdAnd (by assumption) (by assumption)))) ?_
    refine AL_p rfl rfl (S_and rfl (AEv.tmp rfl) (fun hp28 => (AEv.cond (AEv.tmp rfl) (by first | assumption | exact gdT hp28 | exact gdF hp28 | exact gdAnd (by assumption) (gdT hp28) | exact gdAnd (by assumption) (gdF hp28))))) ?_
    refine AL_p rfl rfl (S_move rfl (AEv.tmp rfl)) ?_
    refine AL_g rfl rfl (AEv.tmp rfl) rfl (fun hg29 => S_gcall rfl AEvs.nil ((law_works) _ (fun p hp => by first | exact hG p hp | (simp [hG p hp]; done)))) ?_
    refine AL_p rfl rfl (S_and rfl (AEv.tmp rfl) (fun hp32 => (AEv.cond (AEv.tmp rfl) (by first | assumption | exact gdT hp32 | exact gdF hp32 | exact gdAnd (by assumption) (gdT hp32) | exact gdAnd (by assumption) (gdF hp32))))) ?_
    refine AL_p rfl rfl (S_assign rfl (AEv.tmp rfl)) ?_
    refine AL_nil ?_
    refine AC_ret ?_
    refine ret_tmp st rfl rfl (Sub.l (List.Sublist.cons _ (List.Sublist.refl _))) (Conv.refl (Sub.l (List.Sublist.cons _ (List.Sublist.refl _))) _) ⟨congrArg AV.bool (by rw [(well_check s).isNone]; simp [erText]), rfl⟩ (.inl rfl)

set_option maxRecDepth 100000 in
/-- provost/provostlaw06.SpecLabels -/
theorem law_SpecLabels (name : List UInt8) (l : List Lab) : GCalls Tryz.prog tabs 4 [.S name, .sl (labsV l)] (.bool true) := by
  intro st hG
  refine ACalls_of (N := 66) Tryz.func4 (by kernel_rfl) rfl rfl rfl ?_
  refine AC_seq ?_
  refine AC_region ?_
  refine AL_p rfl rfl (S_assign rfl (AEv.const _)) ?_
  refine AL_nil ?_
  refine AC_seq ?_
  refine AC_seq ?_
  refine AC_region ?_
  refine AL_p rfl rfl (S_move rfl (AEv.tmp rfl)) ?_
  refine AL_p rfl rfl (by first | exact S_lenM (e := 56) rfl (AEv.tmp rfl) (by kernel_rfl) | exact S_len (e := 56) rfl (AEv.tmp rfl) (by kernel_rfl)) ?_
  refine AL_p rfl rfl (S_gtr rfl (AEv.tmp rfl) (AEv.const _)) ?_
  refine AL_p rfl rfl (S_move rfl (AEv.tmp rfl)) ?_
  refine AL_g rfl rfl (AEv.tmp rfl) rfl (fun hg1 => S_move rfl (AEv.tmp rfl)) ?_
  refine AL_g rfl rfl (AEv.tmp rfl) rfl (fun hg4 => S_lenS (ts := #[]) rfl (AEv.cond (AEv.tmp rfl) (by first | assumption | exact gdAnd (by assumption) (by assumption))) (by kernel_rfl)) ?_
  refine AL_g rfl rfl (AEv.tmp rfl) rfl (fun hg7 => S_gtr rfl (AEv.cond (AEv.tmp rfl) (by first | assumption | exact gdAnd (by assumption) (by assumption))) (AEv.const _)) ?_
  refine AL_p rfl rfl (S_or rfl (AEv.tmp rfl) (fun hp10 => (AEv.cond (AEv.tmp rfl) (by first | assumption | exact gdT hp10 | exact gdF hp10 | exact gdAnd (by assumption) (gdT hp10) | exact gdAnd (by assumption) (gdF hp10))))) ?_
  refine AL_p rfl rfl (S_move rfl (AEv.tmp rfl)) ?_
  refine AL_g rfl rfl (AEv.tmp rfl) rfl (fun hg11 => S_move rfl (AEv.tmp rfl)) ?_
  refine AL_g rfl rfl (AEv.tmp rfl) rfl (fun hg14 => S_move rfl (AEv.tmp rfl)) ?_
  refine AL_g rfl rfl (AEv.tmp rfl) rfl (fun hg17 => by first | exact S_lenM (e := 56) rfl (AEv.cond (AEv.tmp rfl) (by first | assumption | exact gdAnd (by assumption) (by assumption))) (by kernel_rfl) | exact S_len (e := 56) rfl (AEv.cond (AEv.tmp rfl) (by first | assumption | exact gdAnd (by assumption) (by assumption))) (by kernel_rfl)) ?_
  refine AL_g rfl rfl (AEv.tmp rfl) rfl (fun hg20 => S_min rfl (AEv.cond (AEv.tmp rfl) (by first | assumption | exact gdAnd (by assumption) (by assumption))) (AEv.const _)) ?_
  refine AL_g rfl rfl (AEv.tmp rfl) rfl (fun hg23 => S_cutHM (e := 56) (j := (min l.length 10)) 2 rfl (AEv.cond (AEv.tmp rfl) (by first | assumption | exact gdAnd (by assumption) (by assumption))) ((AEv.cond (AEv.tmp rfl) (by first | assumption | exact gdAnd (by assumption) (by assumption))).le (Le.of_eq (congrArg (AV.int _) (by omega)))) (by kernel_rfl) (by kernel_rfl) (fun _ => rfl) (by (try simp only [gd, Bool.and_eq_true, Bool.or_eq_true, Bool.not_eq_true', Bool.not_eq_false', decide_eq_true_eq, decide_eq_false_iff_not, Bool.or_eq_false_iff, Bool.and_eq_false_iff] at *); omega)) ?_
  refine AL_g rfl rfl (AEv.tmp rfl) rfl (fun hg26 => S_build (t := 25) (pl := [(0, 1), (1, 1), (2, 1), (3, 1), (4, 1), (5, 1), (6, 1)]) (zs := [.string ⟨#[]⟩, .slice none 0 0, .slice none 0 0, .slice none 0 0, .int .i64 0, .int .i64 0, .int .i64 0]) rfl (AEvs.cons (AEv.cond (AEv.tmp rfl) (by first | assumption | exact gdAnd (by assumption) (by assumption))) AEvs.nil) (by kernel_rfl) rfl) ?_
  refine AL_g rfl rfl (AEv.tmp rfl) rfl (fun hg29 => S_pcall rfl (AEvs.cons (y := spcAV (onlyL (l.take (min l.length 10)))) ((AEv.cond (AEv.tmp rfl) (by first | assumption | exact gdAnd (by assumption) (by assumption))).le (Les.agg (.cons (Le.refl _) (.cons (Le.refl _) (.cons Le.nils (.cons Le.nils (.cons (Le.refl _) (.cons (Le.refl _) (.cons (Le.refl _) .nil))))))))) AEvs.nil) (book_LightSpec_ok _)) ?_
  refine AL_g rfl rfl (AEv.tmp rfl) rfl (fun hg32 => S_not rfl (AEv.cond (AEv.tmp rfl) (by first | assumption | exact gdAnd (by assumption) (by assumption)))) ?_
  refine AL_p rfl rfl (S_or rfl (AEv.tmp rfl) (fun hp35 => (AEv.cond (AEv.tmp rfl) (by first | assumption | exact gdT hp35 | exact gdF hp35 | exact gdAnd (by assumption) (gdT hp35) | exact gdAnd (by assumption) (gdF hp35))))) ?_
  refine AL_p rfl rfl (S_move rfl (AEv.tmp rfl)) ?_
  refine AL_g rfl rfl (AEv.tmp rfl) rfl (fun hg36 => S_move rfl (AEv.tmp rfl)) ?_
  refine AL_g rfl rfl (AEv.tmp rfl) rfl (fun hg39 => S_move rfl (AEv.tmp rfl)) ?_
  refine AL_g rfl rfl (AEv.tmp rfl) rfl (fun hg42 => by first | exact S_lenM (e := 56) rfl (AEv.cond (AEv.tmp rfl) (by first | assumption | exact gdAnd (by assumption) (by assumption))) (by kernel_rfl) | exact S_len (e := 56) rfl (AEv.cond (AEv.tmp rfl) (by first | assumption | exact gdAnd (by assumption) (by assumption))) (by kernel_rfl)) ?_
  refine AL_g rfl rfl (AEv.tmp rfl) rfl (fun hg45 => S_min rfl (AEv.cond (AEv.tmp rfl) (by first | assumption | exact gdAnd (by assumption) (by assumption))) (AEv.const _)) ?_
  refine AL_g rfl rfl (AEv.tmp rfl) rfl (fun hg48 => S_cutLM (e := 56) (i := (min l.length 10)) 2 rfl (AEv.cond (AEv.tmp rfl) (by first | assumption | exact gdAnd (by assumption) (by assumption))) ((AEv.cond (AEv.tmp rfl) (by first | assumption | exact gdAnd (by assumption) (by assumption))).le (Le.of_eq (congrArg (AV.int _) (by omega)))) (by kernel_rfl) (by kernel_rfl) (fun _ => rfl) (by (try simp only [gd, Bool.and_eq_true, Bool.or_eq_true, Bool.not_eq_true', Bool.not_eq_false', decide_eq_true_eq, decide_eq_false_iff_not, Bool.or_eq_false_iff, Bool.and_eq_false_iff] at *); omega)) ?_
  refine AL_g rfl rfl (AEv.tmp rfl) rfl (fun hg51 => S_build (t := 25) (pl := [(0, 1), (1, 1), (2, 1), (3, 1), (4, 1), (5, 1), (6, 1)]) (zs := [.string ⟨#[]⟩, .slice none 0 0, .slice none 0 0, .slice none 0 0, .int .i64 0, .int .i64 0, .int .i64 0]) rfl (AEvs.cons (AEv.cond (AEv.tmp rfl) (by first | assumption | exact gdAnd (by assumption) (by assumption))) AEvs.nil) (by kernel_rfl) rfl) ?_
  refine AL_g rfl rfl (AEv.tmp rfl) rfl (fun hg54 => S_pcall rfl (AEvs.cons (y := spcAV (onlyL (l.drop (min l.length 10)))) ((AEv.cond (AEv.tmp rfl) (by first | assumption | exact gdAnd (by assumption) (by assumption))).le (Les.agg (.cons (Le.refl _) (.cons (Le.refl _) (.cons Le.nils (.cons Le.nils (.cons (Le.refl _) (.cons (Le.refl _) (.cons (Le.refl _) .nil))))))))) AEvs.nil) (book_LightSpec_ok _)) ?_
  refine AL_g rfl rfl (AEv.tmp rfl) rfl (fun hg57 => S_not rfl (AEv.cond (AEv.tmp rfl) (by first | assumption | exact gdAnd (by assumption) (by assumption)))) ?_
  refine AL_p rfl rfl (S_or rfl (AEv.tmp rfl) (fun hp60 => (AEv.cond (AEv.tmp rfl) (by first | assumption | exact gdT hp60 | exact gdF hp60 | exact gdAnd (by assumption) (gdT hp60) | exact gdAnd (by assumption) (gdF hp60))))) ?_
  refine AL_nil ?_
  refine AC_cond (AEv.tmp rfl) (fun hb61 => ?_) (fun hb61 => ?_)
  · try simp only [Bool.and_eq_true, Bool.or_eq_true, Bool.not_eq_true', Bool.not_eq_false', Bool.and_eq_false_iff, Bool.or_eq_false_iff, decide_eq_true_eq, decide_eq_false_iff_not, gd] at hb61
    refine AC_seq ?_
    refine AC_region ?_
    refine AL_p rfl rfl (S_gcall rfl AEvs.nil ((law_works) _ (fun p hp => by first | exact hG p hp | (simp [hG p hp]; done)))) ?_
    refine AL_p rfl rfl (S_assign rfl (AEv.tmp rfl)) ?_
    refine AL_nil ?_
    refine AC_ret ?_
    refine ret_tmp st rfl rfl (Sub.l (List.Sublist.refl _)) (Conv.refl (Sub.l (List.Sublist.refl _)) _) ⟨rfl, rfl⟩ (.inl rfl)
  · try simp only [Bool.and_eq_true, Bool.or_eq_true, Bool.not_eq_true', Bool.not_eq_false', Bool.and_eq_false_iff, Bool.or_eq_false_iff, decide_eq_true_eq, decide_eq_false_iff_not, gd] at hb61
    have hls := two_light (l := l) (k := (min l.length 10)) (by simpa using hb61.1.2) (by simpa using hb61.2)
    have hb : l.length ≤ 20 ∧ name.length ≤ 100 := by have := hb61.1.1; omega
    have hsh := short_labels (name := name) (l := l) (by omega) (by omega)
    refine AC_skip ?_
    refine AC_seq ?_
    refine AC_region ?_
    refine AL_p rfl rfl (S_move rfl (AEv.tmp rfl)) ?_
    refine AL_p rfl rfl (S_move rfl (AEv.tmp rfl)) ?_
    refine AL_p rfl rfl (S_gcall rfl (AEvs.cons (AEv.tmp rfl) (AEvs.cons (AEv.tmp rfl) AEvs.nil)) ((spec_Labels_ok name (by omega) l (by omega) hls) _ (fun p hp => by first | exact hG p hp | (simp [hG p hp]; done)))) ?_
    refine AL_p rfl rfl (S_assign rfl (AEv.tmp rfl)) ?_
    refine AL_nil ?_
    refine AC_seq ?_
    refine AC_region ?_
    refine AL_p rfl rfl (S_move rfl (AEv.tmp rfl)) ?_
    refine AL_p rfl rfl (S_move rfl (AEv.tmp rfl)) ?_
    refine AL_p rfl rfl (S_pcall rfl (AEvs.cons (AEv.tmp rfl) (AEvs.cons (AEv.tmp rfl) AEvs.nil)) (ref06_Labels_ok name (by omega) l (by omega) hls)) ?_
    refine AL_p rfl rfl (S_move rfl (AEv.tmp rfl)) ?_
    refine AL_p rfl rfl (S_extract 0 rfl (AEv.tmp rfl) rfl) ?_
    refine AL_p rfl rfl (S_extract 1 rfl (AEv.tmp rfl) rfl) ?_
    refine AL_p rfl rfl (S_assign rfl (AEv.tmp rfl)) ?_
    refine AL_p rfl rfl (S_assign rfl (AEv.tmp rfl)) ?_
    refine AL_nil ?_
    refine AC_seq ?_
    refine AC_region ?_
    refine AL_p rfl rfl (S_move rfl (AEv.tmp rfl)) ?_
    refine AL_p rfl rfl (S_eqlE (er_is 33 116 (labelsE name l)) rfl (AEv.tmp rfl) (by kernel_rfl)) ?_
    refine AL_p rfl rfl (S_move rfl (AEv.tmp rfl)) ?_
    refine AL_p rfl rfl (S_eql rfl (AEv.tmp rfl) (AEv.const _)) ?_
    refine AL_p rfl rfl (S_eqB rfl (AEv.tmp rfl) (AEv.tmp rfl) (by kernel_rfl)) ?_
    refine AL_p rfl rfl (S_move rfl (AEv.tmp rfl)) ?_
    refine AL_g rfl rfl (AEv.tmp rfl) rfl (fun hg62 => S_move rfl (AEv.tmp rfl)) ?_
    refine AL_g rfl rfl (AEv.tmp rfl) rfl (fun hg65 => S_gcall rfl (AEvs.cons (AEv.cond (AEv.tmp rfl) (by first | assumption | exact gdAnd (by assumption) (by assumption))) AEvs.nil) ((fail_Code_ok (labelsE name l)) _ (fun p hp => by first | exact hG p hp | (simp [hG p hp]; done)))) ?_
    refine AL_g rfl rfl (AEv.tmp rfl) rfl (fun hg68 => S_move rfl (AEv.tmp rfl)) ?_
    refine AL_g rfl rfl (AEv.tmp rfl) rfl (fun hg71 => S_eql rfl (AEv.cond (AEv.tmp rfl) (by first | assumption | exact gdAnd (by assumption) (by assumption))) (AEv.cond (AEv.tmp rfl) (by first | assumption | exact gdAnd (by assumption) (by assumption)))) ?_
    refine AL_p rfl rfl (S_and rfl (AEv.tmp rfl) (fun hp74 => (AEv.cond (AEv.tmp rfl) (by first | assumption | exact gdT hp74 | exact gdF hp74 | exact gdAnd (by assumption) (gdT hp74) | exact gdAnd (by assumption) (gdF hp74))))) ?_
    refine AL_p rfl rfl (S_move rfl (AEv.tmp rfl)) ?_
    refine AL_g rfl rfl (AEv.tmp rfl) rfl (fun hg75 => S_move rfl (AEv.tmp rfl)) ?_
    refine AL_g rfl rfl (AEv.tmp rfl) rfl (fun hg78 => S_gcall rfl (AEvs.cons (AEv.cond (AEv.tmp rfl) (by first | assumption | exact gdAnd (by assumption) (by assumption))) AEvs.nil) ((fail_Text_ok (labelsE name l) (by have := hsh.path; omega) (by have := hsh.text; unfold erText at this; omega)) _ (fun p hp => by first | exact hG p hp | (simp [hG p hp]; done)))) ?_
    refine AL_g rfl rfl (AEv.tmp rfl) rfl (fun hg81 => S_move rfl (AEv.tmp rfl)) ?_
    refine AL_g rfl rfl (AEv.tmp rfl) rfl (fun hg84 => S_eqS rfl (AEv.cond (AEv.tmp rfl) (by first | assumption | exact gdAnd (by assumption) (by assumption))) (AEv.cond (AEv.tmp rfl) (by first | assumption | exact gdAnd (by assumption) (by assumption)))) ?_
    refine AL_p rfl rfl (S_and rfl (AEv.tmp rfl) (fun hp87 => (AEv.cond (AEv.tmp rfl) (by first | assumption | exact gdT hp87 | exact gdF hp87 | exact gdAnd (by assumption) (gdT hp87) | exact gdAnd (by assumption) (gdF hp87))))) ?_
    refine AL_p rfl rfl (S_move rfl (AEv.tmp rfl)) ?_
    refine AL_g rfl rfl (AEv.tmp rfl) rfl (fun hg88 => S_gcall rfl AEvs.nil ((law_works) _ (fun p hp => by first | exact hG p hp | (simp [hG p hp]; done)))) ?_
    refine AL_p rfl rfl (S_and rfl (AEv.tmp rfl) (fun hp91 => (AEv.cond (AEv.tmp rfl) (by first | assumption | exact gdT hp91 | exact gdF hp91 | exact gdAnd (by assumption) (gdT hp91) | exact gdAnd (by assumption) (gdF hp91))))) ?_
    refine AL_p rfl rfl (S_assign rfl (AEv.tmp rfl)) ?_
    refine AL_nil ?_
    refine AC_ret ?_
    refine ret_tmp st rfl rfl (Sub.l (List.Sublist.refl _)) (Conv.refl (Sub.l (List.Sublist.refl _)) _) ⟨congrArg AV.bool (by rw [(well_labels name l).isNone]; simp [erText]), rfl⟩ (.inl rfl)

end Go.Proofs.YtfdcadnaginnpaaGreatDoor
