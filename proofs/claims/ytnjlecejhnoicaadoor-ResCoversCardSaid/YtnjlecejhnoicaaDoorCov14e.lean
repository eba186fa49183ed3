/-
The walks of Go functions in the logic AL: what each of them answers.
Conditions: those of each theorem.
-/
import Derived.Test.YtnjlecejhnoicaaDoorCov14d
import Derived.Test.YtnjlecejhnoicaaDoorSpecLem2
set_option linter.unusedVariables false
set_option linter.unusedSimpArgs false
namespace Go.Proofs.YtnjlecejhnoicaaDoor
open Go.AL Go.NumSpec

set_option maxRecDepth 100000 in
/-- provost/spec.label -/
theorem spec_label_ok (name : List UInt8) (hn : name.length ≤ 1000000) (l : List Lab) (hl : l.length ≤ 1000000) (hls : ∀ x ∈ l, x.1.length ≤ 1000000 ∧ x.2.length ≤ 1000000) (i : Nat) (hi : i < l.length) : GCalls Tryd.prog tabs 30 [.S name, .sl (labsV l), .int .i64 (i : Int)] (erV 48 76 (labelE name l i)) := by
  intro st hG
  refine ACalls_of (N := 49) Tryd.func30 (by kernel_rfl) rfl rfl rfl ?_
  have hll : (labsV l).length = l.length := by simp [labsV]
  have hat : ∀ j, j < l.length → (labsV l)[j]? = some (labAV (l.getD j ([], []))) := fun j hj => by simp [labsV, hj]
  have hmem := hls (l.getD i ([], [])) (by rw [List.getD_eq_getElem?_getD, List.getElem?_eq_getElem hi]; exact List.getElem_mem hi)
  have hif : fits (i : Int) := by unfold fits; omega
  refine AC_seq ?_
  refine AC_region ?_
  refine AL_p rfl rfl (S_assign rfl (AEv.const _)) ?_
  refine AL_nil ?_
  refine AC_seq ?_
  refine AC_region ?_
  refine AL_p rfl rfl (S_move rfl (AEv.tmp rfl)) ?_
  refine AL_p rfl rfl (S_move rfl (AEv.tmp rfl)) ?_
  refine AL_p rfl rfl (S_elem (e := 44) (c := labAV (l.getD i ([], []))) (i := (i : Int)) 2 rfl (AEv.tmp rfl) (AEv.tmp rfl) (by kernel_rfl) (by kernel_rfl) (by omega) (hat _ (by omega)) rfl) ?_
  refine AL_p rfl rfl (S_loadPN (m := 2) rfl (AEv.tmp rfl) (by kernel_rfl) (by first | exact Nat.le_of_ble_eq_true rfl | (simp; omega) | simp)) ?_
  refine AL_step rfl rfl (S_alloc [.string ⟨#[]⟩, .string ⟨#[]⟩] rfl (by kernel_rfl)) ?_
  rintro _ _ ⟨b1, rfl, rfl⟩
  refine AL_step rfl rfl (S_storeN 0 rfl (AEv.tmp rfl) (AEv.tmp rfl) rfl (by first | exact Nat.le_of_ble_eq_true rfl | (simp; omega) | simp) (by first | rfl | simp [AV.one, Value.oneCell']) (by kernel_rfl)) ?_
  rintro _ _ ⟨rfl, rfl⟩
  refine AL_nil ?_
  refine AC_seq ?_
  refine AC_region ?_
  refine AL_p rfl rfl (S_field 0 rfl (AEv.tmp rfl) (by kernel_rfl)) ?_
  refine AL_p rfl rfl (S_load 0 rfl (AEv.tmp rfl) rfl rfl (by kernel_rfl)) ?_
  refine AL_p rfl rfl (S_gcall rfl (AEvs.cons (AEv.tmp rfl) AEvs.nil) ((text_Key_ok (l.getD i ([], [])).1 (by omega)) _ (fun p hp => by first | exact hG p hp | (simp [hG p hp]; done)))) ?_
  refine AL_p rfl rfl (S_buildSlice (e := 9) 1 rfl (AEvs.cons (AEv.S _) AEvs.nil) rfl (by kernel_rfl) (by kernel_rfl) (by simp [AV.flat, AV.one, AV.cells, Value.oneCell']) (by decide) (by decide) (by decide)) ?_
  refine AL_p rfl rfl (S_pcall rfl (AEvs.cons (AEv.tmp rfl) (AEvs.cons (AEv.tmp rfl) AEvs.nil)) (fail_New_ok (saysV (namesR 2 (l.getD i ([], [])).1) 31) [[107, 101, 121]] (by simp))) ?_
  refine AL_p rfl rfl (S_assign rfl (AEv.tmp rfl)) ?_
  refine AL_nil ?_
  refine AC_join (G := Unit) (fun _ => True) (fun _ => [(0, .S name), (1, .sl (labsV l)), (2, .int .i64 (i : Int)), (7, .ptr b1 0), (8, erV 48 76 (keyE l i))]) (fun _ => (b1, .cells [.S (l.getD i ([], [])).1, .S (l.getD i ([], [])).2]) :: st) ?_ ?_
  · refine AC_seq ?_
    refine AC_draw (by kernel_rfl) (by kernel_rfl) (.cons rfl (Q_p rfl (S_move rfl (AEv.tmp rfl))) <|
        .cons rfl (Q_p rfl (S_eqlE (er_is 48 76 (erNew (saysV (namesR 2 (l.getD i ([], [])).1) 31) [[107, 101, 121]])) rfl (AEv.tmp rfl) (by kernel_rfl))) <|
        .cons rfl (Q_p rfl (S_move rfl (AEv.tmp rfl))) <|
        .cons rfl (Q_g rfl rfl (AEv.tmp rfl) (fun hg2 => S_move rfl (AEv.tmp rfl))) <|
        .cons rfl (Q_g rfl rfl (AEv.tmp rfl) (fun hg5 => S_gtr rfl (AEv.cond (AEv.tmp rfl) (by first | assumption | exact gdAnd (by assumption) (by assumption))) (AEv.const _))) <|
        .cons rfl (Q_p rfl (S_and rfl (AEv.tmp rfl) (fun hp8 => (AEv.cond (AEv.tmp rfl) (by first | assumption | exact gdT hp8 | exact gdF hp8 | exact gdAnd (by assumption) (gdT hp8) | exact gdAnd (by assumption) (gdF hp8)))))) <|
        .cons rfl (Q_p rfl (S_move rfl (AEv.tmp rfl))) <|
        .cons rfl (Q_g rfl rfl (AEv.tmp rfl) (fun hg9 => S_field 0 rfl (AEv.tmp rfl) (by kernel_rfl))) <|
        .cons rfl (Q_g rfl rfl (AEv.tmp rfl) (fun hg12 => S_load 0 rfl (AEv.cond (AEv.tmp rfl) (by first | assumption | exact gdAnd (by assumption) (by assumption))) rfl rfl (by kernel_rfl))) <|
        .cons rfl (Q_g rfl rfl (AEv.tmp rfl) (fun hg15 => S_move rfl (AEv.tmp rfl))) <|
        .cons rfl (Q_g rfl rfl (AEv.tmp rfl) (fun hg18 => S_move rfl (AEv.tmp rfl))) <|
        .cons rfl (Q_g rfl rfl (AEv.tmp rfl) (fun hg21 => S_subI rfl (AEv.cond (AEv.tmp rfl) (by first | assumption | exact gdAnd (by assumption) (by assumption))) (AEv.const _) (by (try simp only [gd, Bool.and_eq_true, Bool.or_eq_true, Bool.not_eq_true', Bool.not_eq_false', decide_eq_true_eq, decide_eq_false_iff_not, Bool.or_eq_false_iff, Bool.and_eq_false_iff] at *); omega) (by (try simp only [gd, Bool.and_eq_true, Bool.or_eq_true, Bool.not_eq_true', Bool.not_eq_false', decide_eq_true_eq, decide_eq_false_iff_not, Bool.or_eq_false_iff, Bool.and_eq_false_iff] at *); omega))) <|
        .cons rfl (Q_g rfl rfl (AEv.tmp rfl) (fun hg24 => S_elem (e := 44) (c := labAV (l.getD (i - 1) ([], []))) (i := (i : Int) - 1) 2 rfl (AEv.cond (AEv.tmp rfl) (by first | assumption | exact gdAnd (by assumption) (by assumption))) (AEv.cond (AEv.tmp rfl) (by first | assumption | exact gdAnd (by assumption) (by assumption))) (by kernel_rfl) (by kernel_rfl) (by simp only [gd, Bool.and_eq_true, decide_eq_true_eq] at *; omega) (by rw [show ((i : Int) - 1).toNat = i - 1 by omega]; exact hat _ (by omega)) rfl)) <|
        .cons rfl (Q_g rfl rfl (AEv.tmp rfl) (fun hg27 => S_fieldP 0 rfl (AEv.cond (AEv.tmp rfl) (by first | assumption | exact gdAnd (by assumption) (by assumption))) (by kernel_rfl))) <|
        .cons rfl (Q_g rfl rfl (AEv.tmp rfl) (fun hg30 => S_loadP rfl (AEv.cond (AEv.tmp rfl) (by first | assumption | exact gdAnd (by assumption) (by assumption))) rfl (by kernel_rfl))) <|
        .cons rfl (Q_g rfl rfl (AEv.tmp rfl) (fun hg33 => S_leS rfl (AEv.cond (AEv.tmp rfl) (by first | assumption | exact gdAnd (by assumption) (by assumption))) (AEv.cond (AEv.tmp rfl) (by first | assumption | exact gdAnd (by assumption) (by assumption))))) <|
        .cons rfl (Q_p rfl (S_and rfl (AEv.tmp rfl) (fun hp36 => (AEv.cond (AEv.tmp rfl) (by first | assumption | exact gdT hp36 | exact gdF hp36 | exact gdAnd (by assumption) (gdT hp36) | exact gdAnd (by assumption) (gdF hp36)))))) <|
        .nil) ?_
    refine AC_cond (AEv.tmp rfl) (fun hb37 => ?_) (fun hb37 => ?_)
    · try simp only [Bool.and_eq_true, Bool.or_eq_true, Bool.not_eq_true', Bool.not_eq_false', Bool.and_eq_false_iff, Bool.or_eq_false_iff, decide_eq_true_eq, decide_eq_false_iff_not, gd] at hb37
      have hk : (erNew (saysV (namesR 2 (l.getD i ([], [])).1) 31) [[107, 101, 121]]).isNone = true ∧ 0 < i ∧ (Op.bytesLess (l.getD i ([], [])).1 (l.getD (i - 1) ([], [])).1 || decide ((l.getD i ([], [])).1 = (l.getD (i - 1) ([], [])).1)) = true := ⟨hb37.1.1, by have := hb37.1.2; omega, by simpa using hb37.2⟩
      refine AC_region ?_
      refine AL_p rfl rfl (S_buildSlice (e := 9) 1 rfl (AEvs.cons (AEv.S _) AEvs.nil) rfl (by kernel_rfl) (by kernel_rfl) (by simp [AV.flat, AV.one, AV.cells, Value.oneCell']) (by decide) (by decide) (by decide)) ?_
      refine AL_p rfl rfl (S_pcall rfl (AEvs.cons (AEv.const _) (AEvs.cons (AEv.tmp rfl) AEvs.nil)) (fail_New_ok 4 [[107, 101, 121]] (by simp))) ?_
      refine AL_p rfl rfl (S_assign rfl (AEv.tmp rfl)) ?_
      refine AL_nil ?_
      exact ⟨(), trivial, rfl, .cons rfl (Le.refl _) (.cons rfl (Le.refl _) (.cons rfl (Le.refl _) (.cons rfl (Le.refl _) (.cons rfl (Le.of_eq (by rw [keyE, if_pos hk]; rfl)) .nil))))⟩
    · try simp only [Bool.and_eq_true, Bool.or_eq_true, Bool.not_eq_true', Bool.not_eq_false', Bool.and_eq_false_iff, Bool.or_eq_false_iff, decide_eq_true_eq, decide_eq_false_iff_not, gd] at hb37
      have hk : ¬ ((erNew (saysV (namesR 2 (l.getD i ([], [])).1) 31) [[107, 101, 121]]).isNone = true ∧ 0 < i ∧ (Op.bytesLess (l.getD i ([], [])).1 (l.getD (i - 1) ([], [])).1 || decide ((l.getD i ([], [])).1 = (l.getD (i - 1) ([], [])).1)) = true) := fun ⟨h1, h2, h3⟩ => by
        rcases hb37 with (h | h) | h
        · rw [h1] at h; cases h
        · omega
        · simp at h h3; rcases h3 with h3 | h3
          · rw [h.1] at h3; cases h3
          · exact h.2 h3
      refine AC_skip ?_
      exact ⟨(), trivial, rfl, .cons rfl (Le.refl _) (.cons rfl (Le.refl _) (.cons rfl (Le.refl _) (.cons rfl (Le.refl _) (.cons rfl (Le.of_eq (by rw [keyE, if_neg hk])) .nil))))⟩
  · rintro _ _
    try dsimp only
    refine AC_seq ?_
    refine AC_region ?_
    refine AL_p rfl rfl (S_move rfl (AEv.tmp rfl)) ?_
    refine AL_p rfl rfl (S_field 1 rfl (AEv.tmp rfl) (by kernel_rfl)) ?_
    refine AL_p rfl rfl (S_load 0 rfl (AEv.tmp rfl) rfl rfl (by kernel_rfl)) ?_
    refine AL_p rfl rfl (S_gcall rfl (AEvs.cons (AEv.tmp rfl) AEvs.nil) ((text_Val_ok (l.getD i ([], [])).2 (by omega)) _ (fun p hp => by first | exact hG p hp | (simp [hG p hp]; done)))) ?_
    refine AL_p rfl rfl (S_buildSlice (e := 9) 1 rfl (AEvs.cons (AEv.S _) AEvs.nil) rfl (by kernel_rfl) (by kernel_rfl) (by simp [AV.flat, AV.one, AV.cells, Value.oneCell']) (by decide) (by decide) (by decide)) ?_
    refine AL_p rfl rfl (S_pcall rfl (AEvs.cons (AEv.tmp rfl) (AEvs.cons (AEv.tmp rfl) AEvs.nil)) (fail_New_ok (saysV (valV (l.getD i ([], [])).2) 32) [[118, 97, 108]] (by simp))) ?_
    refine AL_p rfl rfl (S_buildSlice (e := 29) 1 rfl (AEvs.cons (AEv.tmp rfl) (AEvs.cons (AEv.tmp rfl) AEvs.nil)) rfl (by kernel_rfl) (by kernel_rfl) (by intro y hy; simp only [List.mem_cons, List.not_mem_nil, or_false] at hy; rcases hy with rfl | rfl <;> exact ⟨er_flat _ _ _, by rw [er_cells]; rfl⟩) (by decide) (by decide) (by decide)) ?_
    refine AL_p rfl rfl (S_pcall rfl (AEvs.cons (AEv.tmp rfl) AEvs.nil) (fail_First_ok [keyE l i, (erNew (saysV (valV (l.getD i ([], [])).2) 32) [[118, 97, 108]])] (by simp))) ?_
    refine AL_p rfl rfl (S_move rfl (AEv.tmp rfl)) ?_
    refine AL_p rfl rfl (S_move rfl (AEv.tmp rfl)) ?_
    refine AL_p rfl rfl (S_pcall rfl (AEvs.cons (AEv.tmp rfl) (AEvs.cons (AEv.tmp rfl) AEvs.nil)) (spec_at_ok name hn (i : Int) hif)) ?_
    refine AL_p rfl rfl (S_pcall rfl (AEvs.cons (AEv.tmp rfl) (AEvs.cons (AEv.tmp rfl) AEvs.nil)) (fail_In_ok (firstE [keyE l i, (erNew (saysV (valV (l.getD i ([], [])).2) 32) [[118, 97, 108]])]) (atT name (i : Int)))) ?_
    refine AL_p rfl rfl (S_assign rfl (AEv.tmp rfl)) ?_
    refine AL_nil ?_
    refine AC_ret ?_
    refine ret_tmp st rfl rfl (Sub.l (List.Sublist.cons _ (List.Sublist.refl _))) (Conv.refl (Sub.l (List.Sublist.cons _ (List.Sublist.refl _))) _) ⟨rfl, rfl⟩ (.inl rfl)

set_option maxRecDepth 100000 in
/-- provost/spec.Labels -/
theorem spec_Labels_ok (name : List UInt8) (hn : name.length ≤ 1000000) (l : List Lab) (hl : l.length ≤ 1000000) (hls : ∀ x ∈ l, x.1.length ≤ 1000000 ∧ x.2.length ≤ 1000000) : GCalls Tryd.prog tabs 16 [.S name, .sl (labsV l)] (erV 48 76 (labelsE name l)) := by
  intro st hG
  refine ACalls_of (N := 26) Tryd.func16 (by kernel_rfl) rfl rfl rfl ?_
  have hll : (labsV l).length = l.length := by simp [labsV]
  refine AC_seq ?_
  refine AC_region ?_
  refine AL_p rfl rfl (S_assign rfl (AEv.const _)) ?_
  refine AL_nil ?_
  refine AC_seq ?_
  refine AC_region ?_
  refine AL_p rfl rfl (S_move rfl (AEv.tmp rfl)) ?_
  refine AL_p rfl rfl (S_move rfl (AEv.tmp rfl)) ?_
  refine AL_p rfl rfl (S_len (e := 44) rfl (AEv.tmp rfl) (by kernel_rfl)) ?_
  refine AL_p rfl rfl (S_pcall rfl (AEvs.cons (AEv.tmp rfl) (AEvs.cons (AEv.tmp rfl) (AEvs.cons (AEv.const _) (AEvs.cons (AEv.const _) AEvs.nil)))) (spec_atMost_ok name ((labsV l).length : Int) 0 4)) ?_
  refine AL_p rfl rfl (S_assign rfl (AEv.tmp rfl)) ?_
  refine AL_nil ?_
  refine AC_seq ?_
  refine AC_seq ?_
  refine AC_region ?_
  refine AL_p rfl rfl (S_assign rfl (AEv.const _)) ?_
  refine AL_nil ?_
  refine AC_block ?_
  refine AC_loop (G := Nat × Er) (fun g => g.1 ≤ l.length ∧ (g.2 = none → (atMostE name (l.length : Int) 0 4) = none ∧ ∀ j, j < g.1 → labelE name l j = none) ∧ (g.2 ≠ none → g.2 = labelsE name l)) (fun g => [(0, .S name), (1, .sl (labsV l)), (5, erV 48 76 g.2), (6, .int .i64 (g.1 : Int))]) (fun g => st) (fun g => l.length - g.1) ((0, (atMostE name (l.length : Int) 0 4))) (⟨Nat.zero_le _, fun h => ⟨h, fun j hj => absurd hj (Nat.not_lt_zero _)⟩, fun h => (labelsE_bad h).symm⟩) rfl ?_ ?_
  · exact .cons rfl (Le.refl _) (.cons rfl (Le.refl _) (.cons rfl (Le.of_eq (by rw [hll])) (.cons rfl (Le.refl _) .nil)))
  · rintro ⟨i, e⟩ ⟨hi, hno, hyes⟩
    try dsimp only
    dsimp only at hi hno hyes
    refine AC_seq ?_
    refine AC_seq ?_
    refine AC_region ?_
    refine AL_p rfl rfl (S_move rfl (AEv.tmp rfl)) ?_
    refine AL_p rfl rfl (S_eqlE (er_is 48 76 e) rfl (AEv.tmp rfl) (by kernel_rfl)) ?_
    refine AL_p rfl rfl (S_move rfl (AEv.tmp rfl)) ?_
    refine AL_g rfl rfl (AEv.tmp rfl) rfl (fun hg1 => S_move rfl (AEv.tmp rfl)) ?_
    refine AL_g rfl rfl (AEv.tmp rfl) rfl (fun hg4 => S_move rfl (AEv.tmp rfl)) ?_
    refine AL_g rfl rfl (AEv.tmp rfl) rfl (fun hg7 => S_len (e := 44) rfl (AEv.cond (AEv.tmp rfl) (by first | assumption | exact gdAnd (by assumption) (by assumption))) (by kernel_rfl)) ?_
    refine AL_g rfl rfl (AEv.tmp rfl) rfl (fun hg10 => S_lss rfl (AEv.cond (AEv.tmp rfl) (by first | assumption | exact gdAnd (by assumption) (by assumption))) (AEv.cond (AEv.tmp rfl) (by first | assumption | exact gdAnd (by assumption) (by assumption)))) ?_
    refine AL_p rfl rfl (S_and rfl (AEv.tmp rfl) (fun hp13 => (AEv.cond (AEv.tmp rfl) (by first | assumption | exact gdT hp13 | exact gdF hp13 | exact gdAnd (by assumption) (gdT hp13) | exact gdAnd (by assumption) (gdF hp13))))) ?_
    refine AL_nil ?_
    refine AC_cond (AEv.tmp rfl) (fun hb14 => ?_) (fun hb14 => ?_)
    · try simp only [Bool.and_eq_true, Bool.or_eq_true, Bool.not_eq_true', Bool.not_eq_false', Bool.and_eq_false_iff, Bool.or_eq_false_iff, decide_eq_true_eq, decide_eq_false_iff_not, gd] at hb14
      have hil : i < l.length := by have := hb14.2; omega
      obtain rfl : e = none := by cases e with | none => rfl | some x => simp at hb14
      have hn0 := hno rfl
      refine AC_skip ?_
      refine AC_seq ?_
      refine AC_block ?_
      refine AC_region ?_
      refine AL_p rfl rfl (S_move rfl (AEv.tmp rfl)) ?_
      refine AL_p rfl rfl (S_move rfl (AEv.tmp rfl)) ?_
      refine AL_p rfl rfl (S_move rfl (AEv.tmp rfl)) ?_
      refine AL_p rfl rfl (S_gcall rfl (AEvs.cons (AEv.tmp rfl) (AEvs.cons (AEv.tmp rfl) (AEvs.cons (AEv.tmp rfl) AEvs.nil))) ((spec_label_ok name hn l hl hls i hil) _ (fun p hp => by first | exact hG p hp | (simp [hG p hp]; done)))) ?_
      refine AL_p rfl rfl (S_assign rfl (AEv.tmp rfl)) ?_
      refine AL_nil ?_
      refine AC_region ?_
      refine AL_p rfl rfl (S_move rfl (AEv.tmp rfl)) ?_
      refine AL_p rfl rfl (S_addI rfl (AEv.tmp rfl) (AEv.const _) (by omega) (by omega)) ?_
      refine AL_p rfl rfl (S_assign rfl (AEv.tmp rfl)) ?_
      refine AL_nil ?_
      refine ⟨(i + 1, labelE name l i), ⟨by dsimp only; omega, fun h => ⟨hn0.1, fun j hj => ?_⟩, fun h => ?_⟩, by dsimp only; omega, rfl, .cons rfl (Le.refl _) (.cons rfl (Le.refl _) (.cons rfl (Le.refl _) (.cons rfl (Le.of_eq (by dsimp only; rw [Int.natCast_add]; rfl)) .nil)))⟩
      · rcases Nat.lt_or_ge j i with h' | h'
        · exact hn0.2 j h'
        · rw [show j = i by omega]; exact h
      · dsimp only at h ⊢
        cases hx : labelE name l i with
        | none => exact absurd hx h
        | some x => rw [labelsE_good hn0.1, eachE_at hil hx hn0.2]
    · try simp only [Bool.and_eq_true, Bool.or_eq_true, Bool.not_eq_true', Bool.not_eq_false', Bool.and_eq_false_iff, Bool.or_eq_false_iff, decide_eq_true_eq, decide_eq_false_iff_not, gd] at hb14
      have hend : e = labelsE name l := by
        cases he : e with
        | some x => rw [← he]; exact hyes (by rw [he]; exact fun h => by cases h)
        | none =>
          have h0 := hno he
          rw [he] at hb14
          rw [labelsE_good h0.1, eachE_all fun j hj => h0.2 j (by
            rcases hb14 with h | h
            · cases h
            · omega)]
      refine AC_exit ?_
      refine AC_seq ?_
      refine AC_region ?_
      refine AL_p rfl rfl (S_move rfl (AEv.tmp rfl)) ?_
      refine AL_p rfl rfl (S_assign rfl (AEv.tmp rfl)) ?_
      refine AL_nil ?_
      refine AC_ret ?_
      refine ret_tmp st rfl rfl (Sub.l (List.Sublist.refl _)) (Conv.refl (Sub.l (List.Sublist.refl _)) _) ⟨by rw [hend], rfl⟩ (.inl rfl)

end Go.Proofs.YtnjlecejhnoicaaDoor
