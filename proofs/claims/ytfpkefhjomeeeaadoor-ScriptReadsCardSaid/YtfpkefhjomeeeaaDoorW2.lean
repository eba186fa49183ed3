/- A part of the proof: what the program's functions answer.
Conditions: none beyond each theorem's own. -/
import Derived.Test.YtfpkefhjomeeeaaDoorW1
/-
The walks of Go functions in the logic AL: what each of them answers.
Conditions: those of each theorem.
-/
set_option linter.unusedVariables false
set_option linter.unusedSimpArgs false
namespace Go.Proofs.YtfpkefhjomeeeaaDoor
open Go.AL Go.NumSpec

set_option maxRecDepth 100000 in
/-- provost/provostbook.SameInts -/
theorem book_SameInts_ok (a b : List (Int)) (ha : a.length ≤ 1000000) (hb : b.length ≤ 1000000) : PCalls Tryd.prog 18 [.sl (intsV a), .sl (intsV b)] (.bool (decide (a = b))) := by
  intro st
  refine ACalls_of (N := 37) Tryd.func18 (by kernel_rfl) rfl rfl rfl ?_
  refine AC_seq ?_
  refine AC_region ?_
  refine AL_p rfl rfl (S_assign rfl (AEv.const _)) ?_
  refine AL_nil ?_
  refine AC_seq ?_
  refine AC_region ?_
  refine AL_p rfl rfl (S_move rfl (.tmp rfl)) ?_
  refine AL_p rfl rfl (by first | exact S_lenM (e := 3) rfl (.tmp rfl) (by kernel_rfl) | exact S_len (e := 3) rfl (.tmp rfl) (by kernel_rfl)) ?_
  refine AL_p rfl rfl (S_move rfl (.tmp rfl)) ?_
  refine AL_p rfl rfl (by first | exact S_lenM (e := 3) rfl (.tmp rfl) (by kernel_rfl) | exact S_len (e := 3) rfl (.tmp rfl) (by kernel_rfl)) ?_
  refine AL_p rfl rfl (S_eql rfl (.tmp rfl) (.tmp rfl)) ?_
  refine AL_p rfl rfl (S_assign rfl (.tmp rfl)) ?_
  refine AL_nil ?_
  refine AC_seq ?_
  refine AC_seq ?_
  refine AC_region ?_
  refine AL_p rfl rfl (S_assign rfl (AEv.const _)) ?_
  refine AL_nil ?_
  refine AC_block ?_
  refine AC_loopK (G := Nat) [(0, _), (1, _), (4, _)] (fun i => i ≤ a.length) (fun g => [(5, .bool (sameP (fun a b => decide (a = b)) a b g)), (6, .int .i64 (g : Int))]) (fun g => st) (fun g => a.length - g) (0) (Nat.zero_le _) (Sub.l (List.Sublist.refl _)) (.cons rfl (Le.refl _) (.cons rfl (Le.refl _) (.cons rfl (Le.refl _) .nil))) (.cons rfl (Le.of_eq (congrArg AV.bool (by rw [sameP_zero]; exact decide_eq_decide.2 (by omega)))) (.cons rfl (by first | exact Le.refl _ | exact Le.nils | exact Le.row _ _ _ _ | exact Le.of_eq (by first | rfl | (simp; done) | (push_cast; rfl) | (simp; omega))) .nil)) ?_
  rintro i hi
  try dsimp only
  simp only [List.cons_append, List.nil_append]
  refine AC_seq ?_
  refine AC_seq ?_
  refine AC_region ?_
  refine AL_p rfl rfl (S_move rfl (.tmp rfl)) ?_
  refine AL_p rfl rfl (S_move rfl (.tmp rfl)) ?_
  refine AL_g rfl rfl (.tmp rfl) rfl (fun hg1 => S_move rfl (.tmp rfl)) ?_
  refine AL_g rfl rfl (.tmp rfl) rfl (fun hg4 => S_move rfl (.tmp rfl)) ?_
  refine AL_g rfl rfl (.tmp rfl) rfl (fun hg7 => by first | exact S_lenM (e := 3) rfl (AEv.cond (.tmp rfl) (by first | assumption | exact gdAnd (by assumption) (by assumption))) (by kernel_rfl) | exact S_len (e := 3) rfl (AEv.cond (.tmp rfl) (by first | assumption | exact gdAnd (by assumption) (by assumption))) (by kernel_rfl)) ?_
  refine AL_g rfl rfl (.tmp rfl) rfl (fun hg10 => S_lss rfl (AEv.cond (.tmp rfl) (by first | assumption | exact gdAnd (by assumption) (by assumption))) (AEv.cond (.tmp rfl) (by first | assumption | exact gdAnd (by assumption) (by assumption)))) ?_
  refine AL_p rfl rfl (S_and rfl (.tmp rfl) (fun hp13 => (AEv.cond (.tmp rfl) (by first | assumption | exact gdT hp13 | exact gdF hp13 | exact gdAnd (by assumption) (gdT hp13) | exact gdAnd (by assumption) (gdF hp13))))) ?_
  refine AL_p rfl rfl (S_move rfl (.tmp rfl)) ?_
  refine AL_g rfl rfl (.tmp rfl) rfl (fun hg14 => S_move rfl (.tmp rfl)) ?_
  refine AL_g rfl rfl (.tmp rfl) rfl (fun hg17 => S_move rfl (.tmp rfl)) ?_
  refine AL_g rfl rfl (.tmp rfl) rfl (fun hg20 => by first | exact S_lenM (e := 3) rfl (AEv.cond (.tmp rfl) (by first | assumption | exact gdAnd (by assumption) (by assumption))) (by kernel_rfl) | exact S_len (e := 3) rfl (AEv.cond (.tmp rfl) (by first | assumption | exact gdAnd (by assumption) (by assumption))) (by kernel_rfl)) ?_
  refine AL_g rfl rfl (.tmp rfl) rfl (fun hg23 => S_lss rfl (AEv.cond (.tmp rfl) (by first | assumption | exact gdAnd (by assumption) (by assumption))) (AEv.cond (.tmp rfl) (by first | assumption | exact gdAnd (by assumption) (by assumption)))) ?_
  refine AL_p rfl rfl (S_and rfl (.tmp rfl) (fun hp26 => (AEv.cond (.tmp rfl) (by first | assumption | exact gdT hp26 | exact gdF hp26 | exact gdAnd (by assumption) (gdT hp26) | exact gdAnd (by assumption) (gdF hp26))))) ?_
  refine AL_nil ?_
  refine AC_cond (.tmp rfl) (fun hb27 => ?_) (fun hb27 => ?_)
  · try simp only [zA, zO, zN, zM, zP, zQ, zD, zF, gd] at hb27
    have hs : sameP (fun a b => decide (a = b)) a b i = true := hb27.1.1
    have hia : i < a.length := by have := hb27.1.2; omega
    have hib : i < b.length := by have := hb27.2; omega
    refine AC_skip ?_
    refine AC_seq ?_
    refine AC_block ?_
    refine AC_draw (by kernel_rfl) (by kernel_rfl) (.cons rfl (Q_p rfl (S_move rfl (.tmp rfl))) <|
        .cons rfl (Q_p rfl (S_move rfl (.tmp rfl))) <|
        .cons rfl (Q_p rfl (S_elemN (e := 3) 1 rfl (.tmp rfl) (.tmp rfl) (by kernel_rfl) (by kernel_rfl) (by omega) (fun _ => rfl))) <|
        .cons rfl (Q_p rfl (S_loadP rfl (.tmp rfl) rfl (by kernel_rfl))) <|
        .cons rfl (Q_p rfl (S_move rfl (.tmp rfl))) <|
        .cons rfl (Q_p rfl (S_move rfl (.tmp rfl))) <|
        .cons rfl (Q_p rfl (S_elemN (e := 3) 1 rfl (.tmp rfl) (.tmp rfl) (by kernel_rfl) (by kernel_rfl) (by omega) (fun _ => rfl))) <|
        .cons rfl (Q_p rfl (S_loadP rfl (.tmp rfl) rfl (by kernel_rfl))) <|
        .cons rfl (Q_p rfl (S_eql rfl (.tmp rfl) (.tmp rfl))) <|
        .cons rfl (Q_p rfl (S_assign rfl (.tmp rfl))) <|
        .nil) ?_
    refine AC_region ?_
    refine AL_p rfl rfl (S_move rfl (.tmp rfl)) ?_
    refine AL_p rfl rfl (S_addI rfl (.tmp rfl) (AEv.const _) (by omega) (by omega)) ?_
    refine AL_p rfl rfl (S_assign rfl (.tmp rfl)) ?_
    refine AL_nil ?_
    exact ⟨i + 1, by omega, by omega, (Sub.l (List.Sublist.refl _)), (.cons rfl (Le.of_eq (congrArg AV.bool (sameP_next hs hia hib).symm)) (.cons rfl (by first | exact Le.refl _ | exact Le.nils | exact Le.row _ _ _ _ | exact Le.of_eq (by first | rfl | (simp; done) | (push_cast; rfl) | (simp; omega))) .nil)), (.cons rfl (Le.refl _) (.cons rfl (Le.refl _) (.cons rfl (Le.refl _) .nil)))⟩
  try simp only [zA, zO, zN, zM, zP, zQ, zD, zF, gd] at hb27
  have hend := sameP_end (f := (fun a b => decide (a = b))) (a := a) (b := b) (i := i) (by
    rcases hb27 with (h | h) | h
    · exact .inl h
    · exact .inr (.inl (by omega))
    · exact .inr (.inr (by omega)))
  refine AC_exit ?_
  refine AC_seq ?_
  refine AC_region ?_
  refine AL_p rfl rfl (S_move rfl (.tmp rfl)) ?_
  refine AL_p rfl rfl (S_assign rfl (.tmp rfl)) ?_
  refine AL_nil ?_
  refine AC_ret ?_
  refine ret_tmp st rfl rfl (Sub.l (List.Sublist.refl _)) (Conv.refl (Sub.l (List.Sublist.refl _)) _) ⟨congrArg AV.bool (hend.trans sameL_eq), rfl⟩ (.inl rfl)

set_option maxRecDepth 100000 in
/-- provost/provostlaw45.light -/
theorem law45_light_ok (e : Ent) : PCalls Tryd.prog 6 [entAV e] (.bool (decide ((e.n.length : Int) ≤ 20) && decide ((e.data.length : Int) ≤ 1200))) := by
  intro st
  refine ACalls_of (N := 13) Tryd.func6 (by kernel_rfl) rfl rfl rfl ?_
  refine AC_seq ?_
  refine AC_region ?_
  refine AL_step rfl rfl (S_box rfl (.tmp rfl)) ?_
  rintro _ _ ⟨b1, rfl, rfl⟩
  refine AL_p rfl rfl (S_assign rfl (AEv.const _)) ?_
  refine AL_nil ?_
  refine AC_seq ?_
  refine AC_region ?_
  refine AL_p rfl rfl (S_field 1 rfl (.tmp rfl) (by kernel_rfl)) ?_
  refine AL_p rfl rfl (S_load 0 rfl (.tmp rfl) rfl rfl (by kernel_rfl)) ?_
  refine AL_p rfl rfl (by first | exact S_lenM (e := 3) rfl (.tmp rfl) (by kernel_rfl) | exact S_len (e := 3) rfl (.tmp rfl) (by kernel_rfl)) ?_
  refine AL_p rfl rfl (S_leq rfl (.tmp rfl) (AEv.const _)) ?_
  refine AL_p rfl rfl (S_move rfl (.tmp rfl)) ?_
  refine AL_g rfl rfl (.tmp rfl) rfl (fun hg2 => S_field 2 rfl (.tmp rfl) (by kernel_rfl)) ?_
  refine AL_g rfl rfl (.tmp rfl) rfl (fun hg5 => S_load 0 rfl (AEv.cond (.tmp rfl) (by first | assumption | exact gdAnd (by assumption) (by assumption))) rfl rfl (by kernel_rfl)) ?_
  refine AL_g rfl rfl (.tmp rfl) rfl (fun hg8 => S_lenS (ts := #[]) rfl (AEv.cond (.tmp rfl) (by first | assumption | exact gdAnd (by assumption) (by assumption))) (by kernel_rfl)) ?_
  refine AL_g rfl rfl (.tmp rfl) rfl (fun hg11 => S_leq rfl (AEv.cond (.tmp rfl) (by first | assumption | exact gdAnd (by assumption) (by assumption))) (AEv.const _)) ?_
  refine AL_p rfl rfl (S_and rfl (.tmp rfl) (fun hp14 => (AEv.cond (.tmp rfl) (by first | assumption | exact gdT hp14 | exact gdF hp14 | exact gdAnd (by assumption) (gdT hp14) | exact gdAnd (by assumption) (gdF hp14))))) ?_
  refine AL_p rfl rfl (S_assign rfl (.tmp rfl)) ?_
  refine AL_nil ?_
  refine AC_ret ?_
  refine ret_tmp st rfl rfl (Sub.l (List.sublist_cons_self _ _)) (Conv.refl (Sub.l (List.sublist_cons_self _ _)) _) ⟨rfl, rfl⟩ (.inl rfl)

set_option maxRecDepth 100000 in
/-- provost/provostlaw45.is -/
theorem law45_is_ok (a b : Ent) (ha : a.n.length ≤ 1000000) (hb : b.n.length ≤ 1000000) : PCalls Tryd.prog 15 [entAV a, entAV b] (.bool (decide (a.verb = b.verb) && decide (a.n = b.n) && decide (a.data = b.data))) := by
  intro st
  refine ACalls_of (N := 24) Tryd.func15 (by kernel_rfl) rfl rfl rfl ?_
  refine AC_seq ?_
  refine AC_region ?_
  refine AL_step rfl rfl (S_box rfl (.tmp rfl)) ?_
  rintro _ _ ⟨b1, rfl, rfl⟩
  refine AL_step rfl rfl (S_box rfl (.tmp rfl)) ?_
  rintro _ _ ⟨b2, rfl, rfl⟩
  refine AL_p rfl rfl (S_assign rfl (AEv.const _)) ?_
  refine AL_nil ?_
  refine AC_seq ?_
  refine AC_region ?_
  refine AL_p rfl rfl (S_field 0 rfl (.tmp rfl) (by kernel_rfl)) ?_
  refine AL_p rfl rfl (S_load 1 rfl (.tmp rfl) rfl rfl (by kernel_rfl)) ?_
  refine AL_p rfl rfl (S_field 0 rfl (.tmp rfl) (by kernel_rfl)) ?_
  refine AL_p rfl rfl (S_load 0 rfl (.tmp rfl) rfl rfl (by kernel_rfl)) ?_
  refine AL_p rfl rfl (S_eql rfl (.tmp rfl) (.tmp rfl)) ?_
  refine AL_p rfl rfl (S_move rfl (.tmp rfl)) ?_
  refine AL_g rfl rfl (.tmp rfl) rfl (fun hg3 => S_field 1 rfl (.tmp rfl) (by kernel_rfl)) ?_
  refine AL_g rfl rfl (.tmp rfl) rfl (fun hg6 => S_load 1 rfl (AEv.cond (.tmp rfl) (by first | assumption | exact gdAnd (by assumption) (by assumption))) rfl rfl (by kernel_rfl)) ?_
  refine AL_g rfl rfl (.tmp rfl) rfl (fun hg9 => S_field 1 rfl (.tmp rfl) (by kernel_rfl)) ?_
  refine AL_g rfl rfl (.tmp rfl) rfl (fun hg12 => S_load 0 rfl (AEv.cond (.tmp rfl) (by first | assumption | exact gdAnd (by assumption) (by assumption))) rfl rfl (by kernel_rfl)) ?_
  refine AL_g rfl rfl (.tmp rfl) rfl (fun hg15 => S_pcall rfl (AEvs.cons (AEv.cond (.tmp rfl) (by first | assumption | exact gdAnd (by assumption) (by assumption))) (AEvs.cons (AEv.cond (.tmp rfl) (by first | assumption | exact gdAnd (by assumption) (by assumption))) AEvs.nil)) (book_SameInts_ok a.n b.n ha hb)) ?_
  refine AL_p rfl rfl (S_and rfl (.tmp rfl) (fun hp18 => (AEv.cond (.tmp rfl) (by first | assumption | exact gdT hp18 | exact gdF hp18 | exact gdAnd (by assumption) (gdT hp18) | exact gdAnd (by assumption) (gdF hp18))))) ?_
  refine AL_p rfl rfl (S_move rfl (.tmp rfl)) ?_
  refine AL_g rfl rfl (.tmp rfl) rfl (fun hg19 => S_field 2 rfl (.tmp rfl) (by kernel_rfl)) ?_
  refine AL_g rfl rfl (.tmp rfl) rfl (fun hg22 => S_load 1 rfl (AEv.cond (.tmp rfl) (by first | assumption | exact gdAnd (by assumption) (by assumption))) rfl rfl (by kernel_rfl)) ?_
  refine AL_g rfl rfl (.tmp rfl) rfl (fun hg25 => S_field 2 rfl (.tmp rfl) (by kernel_rfl)) ?_
  refine AL_g rfl rfl (.tmp rfl) rfl (fun hg28 => S_load 0 rfl (AEv.cond (.tmp rfl) (by first | assumption | exact gdAnd (by assumption) (by assumption))) rfl rfl (by kernel_rfl)) ?_
  refine AL_g rfl rfl (.tmp rfl) rfl (fun hg31 => S_eqS rfl (AEv.cond (.tmp rfl) (by first | assumption | exact gdAnd (by assumption) (by assumption))) (AEv.cond (.tmp rfl) (by first | assumption | exact gdAnd (by assumption) (by assumption)))) ?_
  refine AL_p rfl rfl (S_and rfl (.tmp rfl) (fun hp34 => (AEv.cond (.tmp rfl) (by first | assumption | exact gdT hp34 | exact gdF hp34 | exact gdAnd (by assumption) (gdT hp34) | exact gdAnd (by assumption) (gdF hp34))))) ?_
  refine AL_p rfl rfl (S_assign rfl (.tmp rfl)) ?_
  refine AL_nil ?_
  refine AC_ret ?_
  refine ret_tmp st rfl rfl (Sub.l (List.Sublist.cons _ (List.Sublist.cons _ (List.Sublist.refl _)))) (Conv.refl (Sub.l (List.Sublist.cons _ (List.Sublist.cons _ (List.Sublist.refl _)))) _) ⟨rfl, rfl⟩ (.inl rfl)

set_option maxRecDepth 100000 in
/-- provost/provostref45.words -/
theorem ref45_words_ok : PCalls Tryd.prog 25 [] (.sl (strsV wordsB)) := by
  intro st
  refine ACalls_of (N := 2) Tryd.func25 (by kernel_rfl) rfl rfl rfl ?_
  refine AC_seq ?_
  refine AC_region ?_
  refine AL_p rfl rfl (S_assign rfl (AEv.const _)) ?_
  refine AL_nil ?_
  refine AC_seq ?_
  refine AC_region ?_
  refine AL_p rfl rfl (S_buildSlice (e := 9) 1 rfl (AEvs.cons (AEv.S _) (AEvs.cons (AEv.S _) (AEvs.cons (AEv.S _) (AEvs.cons (AEv.S _) (AEvs.cons (AEv.S _) (AEvs.cons (AEv.S _) (AEvs.cons (AEv.S _) (AEvs.cons (AEv.S _) (AEvs.cons (AEv.S _) (AEvs.cons (AEv.S _) (AEvs.cons (AEv.S _) (AEvs.cons (AEv.S _) (AEvs.cons (AEv.S _) (AEvs.cons (AEv.S _) (AEvs.cons (AEv.S _) (AEvs.cons (AEv.S _) (AEvs.cons (AEv.S _) (AEvs.cons (AEv.S _) (AEvs.cons (AEv.S _) (AEvs.cons (AEv.S _) (AEvs.cons (AEv.S _) (AEvs.cons (AEv.S _) (AEvs.cons (AEv.S _) (AEvs.cons (AEv.S _) AEvs.nil)))))))))))))))))))))))) rfl (by kernel_rfl) (by kernel_rfl) (by intro y hy; simp only [List.mem_cons, List.not_mem_nil, or_false] at hy; rcases hy with rfl | rfl | rfl | rfl | rfl | rfl | rfl | rfl | rfl | rfl | rfl | rfl | rfl | rfl | rfl | rfl | rfl | rfl | rfl | rfl | rfl | rfl | rfl | rfl <;> exact ⟨rfl, rfl⟩) (by decide) (by decide) (by decide)) ?_
  refine AL_p rfl rfl (S_assign rfl (.tmp rfl)) ?_
  refine AL_nil ?_
  refine AC_ret ?_
  refine ret_tmp st rfl rfl (Sub.l (List.Sublist.refl _)) (Conv.refl (Sub.l (List.Sublist.refl _)) _) ⟨rfl, rfl⟩ (.inl rfl)

end Go.Proofs.YtfpkefhjomeeeaaDoor

/-
The walks of Go functions in the logic AL: what each of them answers.
Conditions: those of each theorem.
-/
set_option linter.unusedVariables false
set_option linter.unusedSimpArgs false
namespace Go.Proofs.YtfpkefhjomeeeaaDoor
open Go.AL Go.NumSpec

set_option maxRecDepth 100000 in
/-- provost/provostref45.digit -/
theorem ref45_digit_ok (n : Nat) (hn : n < 16) : PCalls Tryd.prog 26 [.int .u8 (n : Int)] (.S [hexD n]) := by
  intro st
  refine ACalls_of (N := 13) Tryd.func26 (by kernel_rfl) rfl rfl rfl ?_
  refine AC_seq ?_
  refine AC_region ?_
  refine AL_p rfl rfl (S_assign rfl (AEv.S _)) ?_
  refine AL_nil ?_
  refine AC_seq ?_
  refine AC_seq ?_
  refine AC_region ?_
  refine AL_p rfl rfl (S_move rfl (.tmp rfl)) ?_
  refine AL_p rfl rfl (S_lss rfl (.tmp rfl) (AEv.const _)) ?_
  refine AL_nil ?_
  refine AC_cond (.tmp rfl) (fun hb1 => ?_) (fun hb1 => ?_)
  · try simp only [zA, zO, zN, zM, zP, zQ, zD, zF, gd] at hb1
    have hx : hexD n = UInt8.ofNat (48 + n) := by unfold hexD; rw [if_pos (by omega)]
    refine AC_seq ?_
    refine AC_region ?_
    refine AL_p rfl rfl (S_move rfl (.tmp rfl)) ?_
    refine AL_p rfl rfl (S_add rfl (AEv.const _) (.tmp rfl)) ?_
    refine AL_p rfl rfl (S_buildSlice (e := 5) 1 rfl (AEvs.cons (.tmp rfl) AEvs.nil) rfl (by kernel_rfl) (by kernel_rfl) (by simp [AV.flat, AV.one, AV.cells, Value.oneCell']) (by decide) (by decide) (by decide)) ?_
    refine AL_p rfl rfl (S_bytesSl (e := 5) [UInt8.ofNat (48 + n)] rfl (.tmp rfl) (by simp [bytesAV]; rw [wrap_u8 (by omega) (by omega)]; omega) (by kernel_rfl) (by kernel_rfl) (by kernel_rfl)) ?_
    refine AL_p rfl rfl (S_assign rfl (.tmp rfl)) ?_
    refine AL_nil ?_
    refine AC_ret ?_
    refine ret_tmp st rfl rfl (Sub.l (List.Sublist.refl _)) (Conv.refl (Sub.l (List.Sublist.refl _)) _) ⟨by rw [hx], rfl⟩ (.inl rfl)
  try simp only [zA, zO, zN, zM, zP, zQ, zD, zF, gd] at hb1
  have hx : hexD n = UInt8.ofNat (87 + n) := by unfold hexD; rw [if_neg (by omega)]
  refine AC_skip ?_
  refine AC_seq ?_
  refine AC_region ?_
  refine AL_p rfl rfl (S_move rfl (.tmp rfl)) ?_
  refine AL_p rfl rfl (S_add rfl (AEv.const _) (.tmp rfl)) ?_
  refine AL_p rfl rfl (S_buildSlice (e := 5) 1 rfl (AEvs.cons (.tmp rfl) AEvs.nil) rfl (by kernel_rfl) (by kernel_rfl) (by simp [AV.flat, AV.one, AV.cells, Value.oneCell']) (by decide) (by decide) (by decide)) ?_
  refine AL_p rfl rfl (S_bytesSl (e := 5) [UInt8.ofNat (87 + n)] rfl (.tmp rfl) (by simp [bytesAV]; rw [wrap_u8 (by omega) (by omega)]; omega) (by kernel_rfl) (by kernel_rfl) (by kernel_rfl)) ?_
  refine AL_p rfl rfl (S_assign rfl (.tmp rfl)) ?_
  refine AL_nil ?_
  refine AC_ret ?_
  refine ret_tmp st rfl rfl (Sub.l (List.Sublist.refl _)) (Conv.refl (Sub.l (List.Sublist.refl _)) _) ⟨by rw [hx], rfl⟩ (.inl rfl)

set_option maxRecDepth 100000 in
/-- provost/provostref45.value -/
theorem ref45_value_ok (c : UInt8) : PCalls Tryd.prog 33 [.int .u8 (c.toNat : Int)] (.int .i64 (hexV c)) := by
  intro st
  refine ACalls_of (N := 21) Tryd.func33 (by kernel_rfl) rfl rfl rfl ?_
  have hc := c.toNat_lt
  have hw : IntKind.i64.wrap (c.toNat : Int) = (c.toNat : Int) := wrap_i64 (by omega) (by omega)
  refine AC_seq ?_
  refine AC_region ?_
  refine AL_p rfl rfl (S_assign rfl (AEv.const _)) ?_
  refine AL_nil ?_
  refine AC_seq ?_
  refine AC_seq ?_
  refine AC_region ?_
  refine AL_p rfl rfl (S_move rfl (.tmp rfl)) ?_
  refine AL_p rfl rfl (S_geq rfl (.tmp rfl) (AEv.const _)) ?_
  refine AL_p rfl rfl (S_move rfl (.tmp rfl)) ?_
  refine AL_g rfl rfl (.tmp rfl) rfl (fun hg1 => S_move rfl (.tmp rfl)) ?_
  refine AL_g rfl rfl (.tmp rfl) rfl (fun hg4 => S_leq rfl (AEv.cond (.tmp rfl) (by first | assumption | exact gdAnd (by assumption) (by assumption))) (AEv.const _)) ?_
  refine AL_p rfl rfl (S_and rfl (.tmp rfl) (fun hp7 => (AEv.cond (.tmp rfl) (by first | assumption | exact gdT hp7 | exact gdF hp7 | exact gdAnd (by assumption) (gdT hp7) | exact gdAnd (by assumption) (gdF hp7))))) ?_
  refine AL_nil ?_
  refine AC_cond (.tmp rfl) (fun hb8 => ?_) (fun hb8 => ?_)
  · try simp only [zA, zO, zN, zM, zP, zQ, zD, zF, gd] at hb8
    have hx : hexV c = (c.toNat : Int) - 48 := by unfold hexV; rw [if_pos (by omega)]
    refine AC_seq ?_
    refine AC_region ?_
    refine AL_p rfl rfl (S_move rfl (.tmp rfl)) ?_
    refine AL_p rfl rfl (S_conv (k' := .i64) rfl (.tmp rfl) (by kernel_rfl) (by kernel_rfl)) ?_
    refine AL_p rfl rfl (S_subI rfl (.tmp rfl) (AEv.const _) (by omega) (by omega)) ?_
    refine AL_p rfl rfl (S_assign rfl (.tmp rfl)) ?_
    refine AL_nil ?_
    refine AC_ret ?_
    refine ret_tmp st rfl rfl (Sub.l (List.Sublist.refl _)) (Conv.refl (Sub.l (List.Sublist.refl _)) _) ⟨by rw [hx, hw], rfl⟩ (.inl rfl)
  try simp only [zA, zO, zN, zM, zP, zQ, zD, zF, gd] at hb8
  have h1 : ¬ (48 ≤ c.toNat ∧ c.toNat ≤ 57) := by omega
  refine AC_skip ?_
  refine AC_seq ?_
  refine AC_seq ?_
  refine AC_region ?_
  refine AL_p rfl rfl (S_move rfl (.tmp rfl)) ?_
  refine AL_p rfl rfl (S_geq rfl (.tmp rfl) (AEv.const _)) ?_
  refine AL_p rfl rfl (S_move rfl (.tmp rfl)) ?_
  refine AL_g rfl rfl (.tmp rfl) rfl (fun hg9 => S_move rfl (.tmp rfl)) ?_
  refine AL_g rfl rfl (.tmp rfl) rfl (fun hg12 => S_leq rfl (AEv.cond (.tmp rfl) (by first | assumption | exact gdAnd (by assumption) (by assumption))) (AEv.const _)) ?_
  refine AL_p rfl rfl (S_and rfl (.tmp rfl) (fun hp15 => (AEv.cond (.tmp rfl) (by first | assumption | exact gdT hp15 | exact gdF hp15 | exact gdAnd (by assumption) (gdT hp15) | exact gdAnd (by assumption) (gdF hp15))))) ?_
  refine AL_nil ?_
  refine AC_cond (.tmp rfl) (fun hb16 => ?_) (fun hb16 => ?_)
  · try simp only [zA, zO, zN, zM, zP, zQ, zD, zF, gd] at hb16
    have hx : hexV c = (c.toNat : Int) - 87 := by unfold hexV; rw [if_neg h1, if_pos (by omega)]
    refine AC_seq ?_
    refine AC_region ?_
    refine AL_p rfl rfl (S_move rfl (.tmp rfl)) ?_
    refine AL_p rfl rfl (S_conv (k' := .i64) rfl (.tmp rfl) (by kernel_rfl) (by kernel_rfl)) ?_
    refine AL_p rfl rfl (S_subI rfl (.tmp rfl) (AEv.const _) (by omega) (by omega)) ?_
    refine AL_p rfl rfl (S_assign rfl (.tmp rfl)) ?_
    refine AL_nil ?_
    refine AC_ret ?_
    refine ret_tmp st rfl rfl (Sub.l (List.Sublist.refl _)) (Conv.refl (Sub.l (List.Sublist.refl _)) _) ⟨by rw [hx, hw], rfl⟩ (.inl rfl)
  try simp only [zA, zO, zN, zM, zP, zQ, zD, zF, gd] at hb16
  have hx : hexV c = -1 := by unfold hexV; rw [if_neg h1, if_neg (by omega)]
  refine AC_skip ?_
  refine AC_seq ?_
  refine AC_region ?_
  refine AL_p rfl rfl (S_assign rfl (AEv.const _)) ?_
  refine AL_nil ?_
  refine AC_ret ?_
  refine ret_tmp st rfl rfl (Sub.l (List.Sublist.refl _)) (Conv.refl (Sub.l (List.Sublist.refl _)) _) ⟨by rw [hx], rfl⟩ (.inl rfl)

end Go.Proofs.YtfpkefhjomeeeaaDoor

/-
The walks of Go functions in the logic AL: what each of them answers.
Conditions: those of each theorem.
-/
set_option linter.unusedVariables false
set_option linter.unusedSimpArgs false
namespace Go.Proofs.YtfpkefhjomeeeaaDoor
open Go.AL Go.NumSpec

set_option maxRecDepth 100000 in
/-- provost/provostlaw45.To -/
theorem law45_To_ok (e : Ent) : PCalls Tryd.prog 13 [entAV e] (entAV e) := by
  intro st
  refine ACalls_of (N := 10) Tryd.func13 (by kernel_rfl) rfl rfl rfl ?_
  refine AC_seq ?_
  refine AC_region ?_
  refine AL_step rfl rfl (S_box rfl (.tmp rfl)) ?_
  rintro _ _ ⟨b1, rfl, rfl⟩
  refine AL_step rfl rfl (S_alloc [.int .i64 0, .slice none 0 0, .string ⟨#[]⟩] rfl (by kernel_rfl)) ?_
  rintro _ _ ⟨b2, rfl, rfl⟩
  refine AL_nil ?_
  refine AC_seq ?_
  refine AC_region ?_
  refine AL_p rfl rfl (S_field 0 rfl (.tmp rfl) (by kernel_rfl)) ?_
  refine AL_p rfl rfl (S_load 1 rfl (.tmp rfl) rfl rfl (by kernel_rfl)) ?_
  refine AL_p rfl rfl (S_field 1 rfl (.tmp rfl) (by kernel_rfl)) ?_
  refine AL_p rfl rfl (S_load 1 rfl (.tmp rfl) rfl rfl (by kernel_rfl)) ?_
  refine AL_p rfl rfl (S_field 2 rfl (.tmp rfl) (by kernel_rfl)) ?_
  refine AL_p rfl rfl (S_load 1 rfl (.tmp rfl) rfl rfl (by kernel_rfl)) ?_
  refine AL_p rfl rfl (S_build (t := 28) (pl := [(0, 1), (1, 1), (2, 1)]) (zs := [.int .i64 0, .slice none 0 0, .string ⟨#[]⟩]) rfl (AEvs.cons (.tmp rfl) (AEvs.cons (.tmp rfl) (AEvs.cons (.tmp rfl) AEvs.nil))) (by kernel_rfl) rfl) ?_
  refine AL_step rfl rfl (S_storeW 0 rfl (.tmp rfl) (.tmp rfl) rfl rfl rfl (by kernel_rfl)) ?_
  rintro _ _ ⟨rfl, rfl⟩
  refine AL_nil ?_
  refine AC_ret ?_
  refine ret_cell 0 st rfl rfl rfl (by kernel_rfl) (Sub.l ((List.sublist_cons_self _ _).trans (List.sublist_cons_self _ _))) (Conv.refl (Sub.l ((List.sublist_cons_self _ _).trans (List.sublist_cons_self _ _))) _) ⟨rfl, rfl⟩ (.inl rfl)

end Go.Proofs.YtfpkefhjomeeeaaDoor

/-
The walks of Go functions in the logic AL: what each of them answers.
Conditions: those of each theorem.
-/
set_option linter.unusedVariables false
set_option linter.unusedSimpArgs false
namespace Go.Proofs.YtfpkefhjomeeeaaDoor
open Go.AL Go.NumSpec

set_option maxRecDepth 100000 in
/-- strings.IndexByte -/
theorem strings_IndexByte_ok (s : List UInt8) (c : UInt8) : PCalls Tryd.prog 63 [.S s, .int .u8 (c.toNat : Int)] (.int .i64 (idxV s c)) := by
  intro st
  refine ACalls_of (N := 8) Tryd.func63 (by kernel_rfl) rfl rfl rfl ?_
  refine AC_seq ?_
  refine AC_region ?_
  refine AL_p rfl rfl (S_assign rfl (AEv.const _)) ?_
  refine AL_nil ?_
  refine AC_seq ?_
  refine AC_region ?_
  refine AL_p rfl rfl (S_move rfl (.tmp rfl)) ?_
  refine AL_p rfl rfl (S_move rfl (.tmp rfl)) ?_
  refine AL_p rfl rfl (S_pcall rfl (AEvs.cons (.tmp rfl) (AEvs.cons (.tmp rfl) AEvs.nil)) (lite_IndexByte_ok s c)) ?_
  refine AL_p rfl rfl (S_assign rfl (.tmp rfl)) ?_
  refine AL_nil ?_
  refine AC_ret ?_
  refine ret_tmp st rfl rfl (Sub.l (List.Sublist.refl _)) (Conv.refl (Sub.l (List.Sublist.refl _)) _) ⟨rfl, rfl⟩ (.inl rfl)

set_option maxRecDepth 100000 in
/-- provost/script.toHex -/
theorem toHex_ok (s : List UInt8) (hs : s.length ≤ 1000000) : PCalls Tryd.prog 36 [.S s] (.S (toHexL s)) := by
  intro st
  refine ACalls_of (N := 24) Tryd.func36 (by kernel_rfl) rfl rfl rfl ?_
  refine AC_seq ?_
  refine AC_region ?_
  refine AL_p rfl rfl (S_assign rfl (AEv.S _)) ?_
  refine AL_nil ?_
  refine AC_seq ?_
  refine AC_region ?_
  refine AL_step rfl rfl (S_allocB (e := 77) [.slice none 0 0] rfl (by kernel_rfl)) ?_
  rintro _ _ ⟨b3, rfl, rfl⟩
  refine AL_nil ?_
  refine AC_seq ?_
  refine AC_seq ?_
  refine AC_region ?_
  refine AL_p rfl rfl (S_move rfl (.tmp rfl)) ?_
  refine AL_p rfl rfl (S_lenS (ts := #[]) rfl (.tmp rfl) (by kernel_rfl)) ?_
  refine AL_p rfl rfl (S_move rfl (AEv.const _)) ?_
  refine AL_nil ?_
  refine AC_block ?_
  refine AC_loopK (G := Nat × Bool × Buf) [(0, _), (2, _), (3, _), (6, _)] (fun g => g.1 ≤ s.length ∧ g.2.2.ok (toHexL (s.take g.1))) (fun g => [(7, .int .i64 (g.1 : Int))]) (fun g => (b3, .cells (addrB g.2.1 b3 77 2 :: bufAV g.2.2 (toHexL (s.take g.1)) :: [])) :: (bufSt g.2.2 5 (toHexL (s.take g.1)) ++ st)) (fun g => s.length - g.1) ((0, false, .nil)) (⟨Nat.zero_le _, rfl⟩) (Sub.l (List.Sublist.refl _)) (.cons rfl (Le.refl _) (.cons rfl (Le.refl _) (.cons rfl (Le.refl _) (.cons rfl (Le.refl _) .nil)))) (.cons rfl (by first | exact Le.refl _ | exact Le.nils | exact Le.row _ _ _ _ | exact Le.of_eq (by first | rfl | (simp; done) | (push_cast; rfl) | (simp; omega))) .nil) ?_
  rintro ⟨i, u, q⟩ ⟨hi, hq⟩
  try dsimp only
  simp only [List.cons_append, List.nil_append]
  dsimp only at hi hq
  refine AC_seq ?_
  refine AC_region ?_
  refine AL_p rfl rfl (S_lss rfl (.tmp rfl) (.tmp rfl)) ?_
  refine AL_nil ?_
  refine AC_seq ?_
  refine AC_cond (.tmp rfl) (fun hb1 => ?_) (fun hb1 => ?_)
  · try simp only [zA, zO, zN, zM, zP, zQ, zD, zF, gd] at hb1
    have hil : i < s.length := by omega
    have hc := (s[i]'hil).toNat_lt
    refine AC_skip ?_
    refine AC_seq ?_
    refine AC_block ?_
    refine AC_seq ?_
    refine AC_region ?_
    refine AL_p rfl rfl (S_move rfl (.tmp rfl)) ?_
    refine AL_p rfl rfl (S_assign rfl (.tmp rfl)) ?_
    refine AL_nil ?_
    refine AC_seq ?_
    refine AC_region ?_
    refine AL_p rfl rfl (S_move rfl (.tmp rfl)) ?_
    refine AL_p rfl rfl (S_move rfl (.tmp rfl)) ?_
    refine AL_p rfl rfl ((S_index rfl (.tmp rfl) (.tmp rfl) (by kernel_rfl) (by omega) (by omega)).ofV (V' := .int .u8 ((s[i]'hil).toNat : Int)) (congrArg (AV.int .u8) (by first | exact atL_get hil | (rw [show (((2 * b.length : Nat) : Int) + 1) = ((2 * b.length + 1 : Nat) : Int) by omega]; exact atL_get hil)))) ?_
    refine AL_p rfl rfl ((S_shift rfl (by simp) (.tmp rfl) (AEv.const _) (shift_shr _ _ _ _ (by omega) (by simp only [IntKind.bits]; omega))).ofV (V' := .int .u8 (((s[i]'hil).toNat / 16 : Nat) : Int)) (congrArg (AV.int .u8) (by rw [show (2 : Int) ^ ((4 : Int).toNat) = 16 from rfl]; omega))) ?_
    refine AL_p rfl rfl ((S_index rfl (AEv.S _) (.tmp rfl) (by kernel_rfl) (by omega) (by show _ < ((16 : Nat) : Int); omega)).ofV (V' := byteV (hexD ((s[i]'hil).toNat / 16))) (congrArg (AV.int .u8) (digits_at (by omega)))) ?_
    refine AL_step rfl rfl (S_call rfl (AEvs.cons (.tmp rfl) (AEvs.cons (.tmp rfl) AEvs.nil)) (WriteByte_ok b3 u q (toHexL (s.take i)) _ 77 2 [] hq (by first | (rw [toHex_len, List.length_take]; omega) | (rw [List.length_append, toHex_len, List.length_take]; simp only [List.length_singleton]; omega) | omega) (by decide) (by kernel_rfl) _)) ?_
    rintro _ _ ⟨_, ⟨q2, hq2, rfl, rfl⟩, rfl⟩
    refine AL_nil ?_
    refine AC_region ?_
    refine AL_p rfl rfl (S_move rfl (.tmp rfl)) ?_
    refine AL_p rfl rfl (S_move rfl (.tmp rfl)) ?_
    refine AL_p rfl rfl ((S_index rfl (.tmp rfl) (.tmp rfl) (by kernel_rfl) (by omega) (by omega)).ofV (V' := .int .u8 ((s[i]'hil).toNat : Int)) (congrArg (AV.int .u8) (by first | exact atL_get hil | (rw [show (((2 * b.length : Nat) : Int) + 1) = ((2 * b.length + 1 : Nat) : Int) by omega]; exact atL_get hil)))) ?_
    refine AL_p rfl rfl ((S_bits rfl (by simp) (.tmp rfl) (AEv.const _)).ofV (V' := .int .u8 (((s[i]'hil).toNat % 16 : Nat) : Int)) (congrArg (AV.int .u8) (bits_15 hc))) ?_
    refine AL_p rfl rfl ((S_index rfl (AEv.S _) (.tmp rfl) (by kernel_rfl) (by omega) (by show _ < ((16 : Nat) : Int); omega)).ofV (V' := byteV (hexD ((s[i]'hil).toNat % 16))) (congrArg (AV.int .u8) (digits_at (by omega)))) ?_
    refine AL_step rfl rfl (S_call rfl (AEvs.cons (.tmp rfl) (AEvs.cons (.tmp rfl) AEvs.nil)) (WriteByte_ok b3 true q2 (toHexL (s.take i) ++ [hexD ((s[i]'hil).toNat / 16)]) _ 77 2 [] hq2 (by first | (rw [toHex_len, List.length_take]; omega) | (rw [List.length_append, toHex_len, List.length_take]; simp only [List.length_singleton]; omega) | omega) (by decide) (by kernel_rfl) _)) ?_
    rintro _ _ ⟨_, ⟨q2, hq2, rfl, rfl⟩, rfl⟩
    refine AL_nil ?_
    refine AC_region ?_
    refine AL_p rfl rfl (S_addI rfl (.tmp rfl) (AEv.const _) (by omega) (by omega)) ?_
    refine AL_p rfl rfl (S_move rfl (.tmp rfl)) ?_
    refine AL_nil ?_
    refine ⟨(i + 1, true, q2), ⟨by dsimp only; omega, by dsimp only; rw [toHex_next hil]; exact hq2⟩, by dsimp only; omega, ?_, (.cons rfl (by first | exact Le.refl _ | exact Le.nils | exact Le.row _ _ _ _ | exact Le.of_eq (by first | rfl | (simp; done) | (push_cast; rfl) | (simp; omega))) .nil), (.cons rfl (Le.refl _) (.cons rfl (Le.refl _) (.cons rfl (Le.refl _) (.cons rfl (Le.refl _) .nil))))⟩
    dsimp only
    rw [toHex_next hil]
    exact (Sub.l (List.Sublist.refl _))
  try simp only [zA, zO, zN, zM, zP, zQ, zD, zF, gd] at hb1
  have hx : s.take i = s := List.take_of_length_le (by omega)
  rw [hx] at hq ⊢
  refine AC_exit ?_
  refine AC_seq ?_
  refine AC_region ?_
  refine AL_step rfl rfl (S_call rfl (AEvs.cons (.tmp rfl) AEvs.nil) (String_ok b3 q (toHexL s) _ [] hq st)) ?_
  rintro _ _ ⟨_, ⟨rfl, rfl⟩, rfl⟩
  refine AL_p rfl rfl (S_assign rfl (.tmp rfl)) ?_
  refine AL_nil ?_
  refine AC_ret ?_
  refine ret_tmp st rfl rfl (Sub.l (List.sublist_cons_self _ _)) (Conv.refl (Sub.l (List.sublist_cons_self _ _)) _) ⟨rfl, rfl⟩ (.inl rfl)

set_option maxRecDepth 100000 in
/-- provost/script.ofHex -/
theorem ofHex_ok (s : List UInt8) (hs : s.length ≤ 1000000) : PCalls Tryd.prog 48 [.S s] (.tup [.S (ofHexV s).1, .bool (ofHexV s).2]) := by
  intro st
  refine ACalls_of (N := 40) Tryd.func48 (by kernel_rfl) rfl rfl rfl ?_
  refine AC_seq ?_
  refine AC_region ?_
  refine AL_p rfl rfl (S_assign rfl (AEv.S _)) ?_
  refine AL_p rfl rfl (S_assign rfl (AEv.const _)) ?_
  refine AL_nil ?_
  refine AC_seq ?_
  refine AC_seq ?_
  refine AC_region ?_
  refine AL_p rfl rfl (S_move rfl (.tmp rfl)) ?_
  refine AL_p rfl rfl (S_lenS (ts := #[]) rfl (.tmp rfl) (by kernel_rfl)) ?_
  refine AL_p rfl rfl (S_rem rfl (.tmp rfl) (AEv.const _) (by omega)) ?_
  refine AL_p rfl rfl (S_neq rfl (.tmp rfl) (AEv.const _)) ?_
  refine AL_nil ?_
  refine AC_cond (.tmp rfl) (fun hb1 => ?_) (fun hb1 => ?_)
  · try simp only [zA, zO, zN, zM, zP, zQ, zD, zF, gd] at hb1
    rw [Int.tmod_eq_emod_of_nonneg (by omega)] at hb1
    have hx := ofHex_no (s := s) fun d hd => by have h9 := toHex_len d; rw [hd] at h9; omega
    refine AC_seq ?_
    refine AC_region ?_
    refine AL_p rfl rfl (S_assign rfl (AEv.S _)) ?_
    refine AL_p rfl rfl (S_assign rfl (AEv.const _)) ?_
    refine AL_nil ?_
    refine AC_ret ?_
    refine ret_tmps (ts := [2, 3]) st rfl (by decide) rfl (Sub.l (List.Sublist.refl _)) (Conv.refl (Sub.l (List.Sublist.refl _)) _) ⟨by rw [hx], rfl⟩ (.inl rfl)
  try simp only [zA, zO, zN, zM, zP, zQ, zD, zF, gd] at hb1
  rw [Int.tmod_eq_emod_of_nonneg (by omega)] at hb1
  have hev : s.length % 2 = 0 := by omega
  refine AC_skip ?_
  refine AC_seq ?_
  refine AC_region ?_
  refine AL_step rfl rfl (S_allocB (e := 77) [.slice none 0 0] rfl (by kernel_rfl)) ?_
  rintro _ _ ⟨b4, rfl, rfl⟩
  refine AL_nil ?_
  refine AC_seq ?_
  refine AC_seq ?_
  refine AC_region ?_
  refine AL_p rfl rfl (S_assign rfl (AEv.const _)) ?_
  refine AL_nil ?_
  refine AC_block ?_
  refine AC_loopK (G := List UInt8 × Bool × Buf) [(0, _), (4, _)] (fun g => 2 * g.1.length ≤ s.length ∧ toHexL g.1 = s.take (2 * g.1.length) ∧ g.2.2.ok g.1) (fun g => [(5, .int .i64 ((2 * g.1.length : Nat) : Int))]) (fun g => (b4, .cells (addrB g.2.1 b4 77 2 :: bufAV g.2.2 (g.1) :: [])) :: (bufSt g.2.2 5 (g.1) ++ st)) (fun g => s.length + 1 - 2 * g.1.length) (([], false, .nil)) (⟨Nat.zero_le _, rfl, rfl⟩) (Sub.l (List.Sublist.refl _)) (.cons rfl (Le.refl _) (.cons rfl (Le.refl _) .nil)) (.cons rfl (by first | exact Le.refl _ | exact Le.nils | exact Le.row _ _ _ _ | exact Le.of_eq (by first | rfl | (simp; done) | (push_cast; rfl) | (simp; omega))) .nil) ?_
  rintro ⟨b, u, q⟩ ⟨hz1, hz2, hq⟩
  try dsimp only
  simp only [List.cons_append, List.nil_append]
  dsimp only at hz1 hz2 hq
  refine AC_seq ?_
  refine AC_seq ?_
  refine AC_region ?_
  refine AL_p rfl rfl (S_move rfl (.tmp rfl)) ?_
  refine AL_p rfl rfl (S_move rfl (.tmp rfl)) ?_
  refine AL_p rfl rfl (S_lenS (ts := #[]) rfl (.tmp rfl) (by kernel_rfl)) ?_
  refine AL_p rfl rfl (S_lss rfl (.tmp rfl) (.tmp rfl)) ?_
  refine AL_nil ?_
  refine AC_cond (.tmp rfl) (fun hb2 => ?_) (fun hb2 => ?_)
  · try simp only [zA, zO, zN, zM, zP, zQ, zD, zF, gd] at hb2
    have hi1 : 2 * b.length < s.length := by omega
    have hi2 : 2 * b.length + 1 < s.length := by omega
    refine AC_skip ?_
    refine AC_seq ?_
    refine AC_block ?_
    refine AC_seq ?_
    refine AC_draw (by kernel_rfl) (by kernel_rfl) (.cons rfl (Q_p rfl (S_move rfl (.tmp rfl))) <|
        .cons rfl (Q_p rfl (S_move rfl (.tmp rfl))) <|
        .cons rfl (Q_p rfl ((S_index rfl (.tmp rfl) (.tmp rfl) (by kernel_rfl) (by omega) (by omega)).ofV (V' := .int .u8 ((s[2 * b.length]'hi1).toNat : Int)) (congrArg (AV.int .u8) (by first | exact atL_get hi1 | (rw [show (((2 * b.length : Nat) : Int) + 1) = ((2 * b.length + 1 : Nat) : Int) by omega]; exact atL_get hi1))))) <|
        .cons rfl (Q_p rfl ((S_pcall rfl (AEvs.cons (y := .S digitsB) (AEv.S _) (AEvs.cons (.tmp rfl) AEvs.nil)) (strings_IndexByte_ok digitsB (s[2 * b.length]'hi1))).ofV (V' := .int .i64 (hexV (s[2 * b.length]'hi1))) (congrArg (AV.int .i64) (idx_digits _)))) <|
        .cons rfl (Q_p rfl (S_move rfl (.tmp rfl))) <|
        .cons rfl (Q_p rfl (S_move rfl (.tmp rfl))) <|
        .cons rfl (Q_p rfl (S_addI rfl (.tmp rfl) (AEv.const _) (by omega) (by omega))) <|
        .cons rfl (Q_p rfl ((S_index rfl (.tmp rfl) (.tmp rfl) (by kernel_rfl) (by omega) (by omega)).ofV (V' := .int .u8 ((s[2 * b.length + 1]'hi2).toNat : Int)) (congrArg (AV.int .u8) (by first | exact atL_get hi2 | (rw [show (((2 * b.length : Nat) : Int) + 1) = ((2 * b.length + 1 : Nat) : Int) by omega]; exact atL_get hi2))))) <|
        .cons rfl (Q_p rfl ((S_pcall rfl (AEvs.cons (y := .S digitsB) (AEv.S _) (AEvs.cons (.tmp rfl) AEvs.nil)) (strings_IndexByte_ok digitsB (s[2 * b.length + 1]'hi2))).ofV (V' := .int .i64 (hexV (s[2 * b.length + 1]'hi2))) (congrArg (AV.int .i64) (idx_digits _)))) <|
        .cons rfl (Q_p rfl (S_assign rfl (.tmp rfl))) <|
        .cons rfl (Q_p rfl (S_assign rfl (.tmp rfl))) <|
        .nil) ?_
    refine AC_seq ?_
    refine AC_seq ?_
    refine AC_region ?_
    refine AL_p rfl rfl (S_move rfl (.tmp rfl)) ?_
    refine AL_p rfl rfl (S_lss rfl (.tmp rfl) (AEv.const _)) ?_
    refine AL_p rfl rfl (S_move rfl (.tmp rfl)) ?_
    refine AL_g rfl rfl (.tmp rfl) rfl (fun hg3 => S_move rfl (.tmp rfl)) ?_
    refine AL_g rfl rfl (.tmp rfl) rfl (fun hg6 => S_lss rfl (AEv.cond (.tmp rfl) (by first | assumption | exact gdAnd (by assumption) (by assumption))) (AEv.const _)) ?_
    refine AL_p rfl rfl (S_or rfl (.tmp rfl) (fun hp9 => (AEv.cond (.tmp rfl) (by first | assumption | exact gdT hp9 | exact gdF hp9 | exact gdAnd (by assumption) (gdT hp9) | exact gdAnd (by assumption) (gdF hp9))))) ?_
    refine AL_nil ?_
    refine AC_cond (.tmp rfl) (fun hb10 => ?_) (fun hb10 => ?_)
    · try simp only [zA, zO, zN, zM, zP, zQ, zD, zF, gd] at hb10
      have hx := ofHex_no (s := s) fun d hd => by have h8 := toHex_at hd hi1; have h9 := toHex_at hd hi2; omega
      refine AC_seq ?_
      refine AC_region ?_
      refine AL_p rfl rfl (S_assign rfl (AEv.S _)) ?_
      refine AL_p rfl rfl (S_assign rfl (AEv.const _)) ?_
      refine AL_nil ?_
      refine AC_ret ?_
      refine ret_tmps (ts := [2, 3]) st rfl (by decide) rfl (Sub.l ((List.sublist_append_right _ _).cons _)) (Conv.refl (Sub.l ((List.sublist_append_right _ _).cons _)) _) ⟨by rw [hx], rfl⟩ (.inl rfl)
    try simp only [zA, zO, zN, zM, zP, zQ, zD, zF, gd] at hb10
    have hx1 : 0 ≤ hexV (s[2 * b.length]'hi1) := by omega
    have hx2 : 0 ≤ hexV (s[2 * b.length + 1]'hi2) := by omega
    have hy1 := (hexV_some hx1).1
    have hy2 := (hexV_some hx2).1
    obtain ⟨n1, e1⟩ := Int.eq_ofNat_of_zero_le hx1
    obtain ⟨n2, e2⟩ := Int.eq_ofNat_of_zero_le hx2
    have hn1 : n1 < 16 := by omega
    have hn2 : n2 < 16 := by omega
    refine AC_skip ?_
    refine AC_region ?_
    refine AL_p rfl rfl (S_move rfl (.tmp rfl)) ?_
    refine AL_p rfl rfl ((S_shift rfl (by simp) (.tmp rfl) (AEv.const _) (shift_shl _ _ _ _ (by omega) (by simp only [IntKind.bits]; omega))).ofV (V' := .int .i64 ((16 * n1 : Nat) : Int)) (congrArg (AV.int .i64) (by rw [e1, show (2 : Int) ^ ((4 : Int).toNat) = 16 from rfl, wrap_i64 (by omega) (by omega)]; omega))) ?_
    refine AL_p rfl rfl (S_move rfl (.tmp rfl)) ?_
    refine AL_p rfl rfl ((S_bits rfl (by simp) (.tmp rfl) (.tmp rfl)).ofV (V' := .int .i64 ((16 * n1 + n2 : Nat) : Int)) (congrArg (AV.int .i64) (by rw [e2]; exact bits_16 hn1 hn2))) ?_
    refine AL_p rfl rfl ((S_conv (k' := .u8) rfl (.tmp rfl) (by kernel_rfl) (by kernel_rfl)).ofV (V' := byteV (UInt8.ofNat (16 * hexV (s[2 * b.length]'hi1) + hexV (s[2 * b.length + 1]'hi2)).toNat)) (congrArg (AV.int .u8) (by rw [e1, e2, UInt8.toNat_ofNat', wrap_u8 (by omega) (by omega)]; omega))) ?_
    refine AL_step rfl rfl (S_call rfl (AEvs.cons (.tmp rfl) (AEvs.cons (.tmp rfl) AEvs.nil)) (WriteByte_ok b4 u q (b) _ 77 2 [] hq (by first | (rw [toHex_len, List.length_take]; omega) | (rw [List.length_append, toHex_len, List.length_take]; simp only [List.length_singleton]; omega) | omega) (by decide) (by kernel_rfl) _)) ?_
    rintro _ _ ⟨_, ⟨q2, hq2, rfl, rfl⟩, rfl⟩
    refine AL_nil ?_
    refine AC_region ?_
    refine AL_p rfl rfl (S_move rfl (.tmp rfl)) ?_
    refine AL_p rfl rfl (S_addI rfl (.tmp rfl) (AEv.const _) (by omega) (by omega)) ?_
    refine AL_p rfl rfl (S_assign rfl (.tmp rfl)) ?_
    refine AL_nil ?_
    refine ⟨(b ++ [UInt8.ofNat (16 * hexV (s[2 * b.length]'hi1) + hexV (s[2 * b.length + 1]'hi2)).toNat], true, q2), ⟨by dsimp only; simp only [List.length_append, List.length_singleton]; omega, by dsimp only; rw [List.length_append, List.length_singleton]; exact hex_more hi2 hz2 hx1 hx2, hq2⟩, by dsimp only; simp only [List.length_append, List.length_singleton]; omega, (Sub.l (List.Sublist.refl _)), (.cons rfl (by first | exact Le.refl _ | exact Le.nils | exact Le.row _ _ _ _ | exact Le.of_eq (by first | rfl | (simp; done) | (push_cast; rfl) | (simp; omega))) .nil), (.cons rfl (Le.refl _) (.cons rfl (Le.refl _) .nil))⟩
  try simp only [zA, zO, zN, zM, zP, zQ, zD, zF, gd] at hb2
  have hx := ofHex_yes (d := b) (s := s) (by rw [hz2, List.take_of_length_le (by omega)])
  refine AC_exit ?_
  refine AC_seq ?_
  refine AC_region ?_
  refine AL_step rfl rfl (S_call rfl (AEvs.cons (.tmp rfl) AEvs.nil) (String_ok b4 q b _ [] hq st)) ?_
  rintro _ _ ⟨_, ⟨rfl, rfl⟩, rfl⟩
  refine AL_p rfl rfl (S_assign rfl (.tmp rfl)) ?_
  refine AL_p rfl rfl (S_assign rfl (AEv.const _)) ?_
  refine AL_nil ?_
  refine AC_ret ?_
  refine ret_tmps (ts := [2, 3]) st rfl (by decide) rfl (Sub.l (List.sublist_cons_self _ _)) (Conv.refl (Sub.l (List.sublist_cons_self _ _)) _) ⟨by rw [hx], rfl⟩ (.inl rfl)

end Go.Proofs.YtfpkefhjomeeeaaDoor

/-
The walks of Go functions in the logic AL: what each of them answers.
Conditions: those of each theorem.
-/
set_option linter.unusedVariables false
set_option linter.unusedSimpArgs false
namespace Go.Proofs.YtfpkefhjomeeeaaDoor
open Go.AL Go.NumSpec

set_option maxRecDepth 100000 in
/-- provost/script.find -/
theorem find_ok (w : List UInt8) : GCalls Tryd.prog tabs 28 [.S w] (.int .i64 ((findV w : Nat) : Int)) := by
  intro st hG
  refine ACalls_of (N := 20) Tryd.func28 (by kernel_rfl) rfl rfl rfl ?_
  refine AC_seq ?_
  refine AC_region ?_
  refine AL_p rfl rfl (S_assign rfl (AEv.const _)) ?_
  refine AL_nil ?_
  refine AC_seq ?_
  refine AC_seq ?_
  refine AC_region ?_
  refine AL_p rfl rfl (S_loadKs (vs := verbsV) (m := 72) rfl (AEv.global _) (hG _ tab_verbs) (by kernel_rfl) (by decide)) ?_
  refine AL_p rfl rfl (S_move rfl (AEv.const _)) ?_
  refine AL_nil ?_
  refine AC_block ?_
  refine AC_loopK (G := Nat) [(0, _), (5, _)] (fun g => g ≤ 24 ∧ ∀ j, j < 24 → j < g → 0 < j → (verbA j).1 ≠ w) (fun g => [(6, .int .i64 (g : Int))]) (fun g => st) (fun g => 24 - g) (0) (⟨Nat.zero_le _, fun j _ h => absurd h (Nat.not_lt_zero _)⟩) (Sub.l (List.Sublist.refl _)) (.cons rfl (Le.refl _) (.cons rfl (Le.refl _) .nil)) (.cons rfl (by first | exact Le.refl _ | exact Le.nils | exact Le.row _ _ _ _ | exact Le.of_eq (by first | rfl | (simp; done) | (push_cast; rfl) | (simp; omega))) .nil) ?_
  rintro i ⟨hi, hall⟩
  try dsimp only
  simp only [List.cons_append, List.nil_append]
  refine AC_seq ?_
  refine AC_region ?_
  refine AL_p rfl rfl (S_lss rfl (.tmp rfl) (AEv.const _)) ?_
  refine AL_nil ?_
  refine AC_seq ?_
  refine AC_cond (.tmp rfl) (fun hb1 => ?_) (fun hb1 => ?_)
  · try simp only [zA, zO, zN, zM, zP, zQ, zD, zF, gd] at hb1
    have hil : i < 24 := by omega
    refine AC_skip ?_
    refine AC_seq ?_
    refine AC_block ?_
    refine AC_seq ?_
    refine AC_region ?_
    refine AL_p rfl rfl (S_move rfl (.tmp rfl)) ?_
    refine AL_p rfl rfl ((S_idxRow (e := 62) (len := 24) (m := 3) rfl (.tmp rfl) (.tmp rfl) (by kernel_rfl) (by kernel_rfl) (by omega) (by omega) (by rw [show (((verbsV.drop 0).take 72).map AV.lit).length = 72 from rfl]; omega)).ofV (V' := .agg [.S (verbA (i : Int).toNat).1, .int .i64 (verbA (i : Int).toNat).2.1, .int .i64 (verbA (i : Int).toNat).2.2]) (congrArg AV.agg (verbs_cell (by omega) (by omega)))) ?_
    refine AL_step rfl rfl (S_alloc [.string ⟨#[]⟩, .int .i64 0, .int .i64 0] rfl (by kernel_rfl)) ?_
    rintro _ _ ⟨b4, rfl, rfl⟩
    refine AL_p rfl rfl (S_assign rfl (.tmp rfl)) ?_
    refine AL_step rfl rfl (S_storeW 0 rfl (.tmp rfl) (.tmp rfl) rfl rfl rfl (by kernel_rfl)) ?_
    rintro _ _ ⟨rfl, rfl⟩
    refine AL_nil ?_
    refine AC_seq ?_
    refine AC_region ?_
    refine AL_p rfl rfl (S_move rfl (.tmp rfl)) ?_
    refine AL_p rfl rfl (S_gtr rfl (.tmp rfl) (AEv.const _)) ?_
    refine AL_p rfl rfl (S_move rfl (.tmp rfl)) ?_
    refine AL_g rfl rfl (.tmp rfl) rfl (fun hg3 => S_field 0 rfl (.tmp rfl) (by kernel_rfl)) ?_
    refine AL_g rfl rfl (.tmp rfl) rfl (fun hg6 => S_load 0 rfl (AEv.cond (.tmp rfl) (by first | assumption | exact gdAnd (by assumption) (by assumption))) rfl rfl (by kernel_rfl)) ?_
    refine AL_g rfl rfl (.tmp rfl) rfl (fun hg9 => S_move rfl (.tmp rfl)) ?_
    refine AL_g rfl rfl (.tmp rfl) rfl (fun hg12 => S_eqS rfl (AEv.cond (.tmp rfl) (by first | assumption | exact gdAnd (by assumption) (by assumption))) (AEv.cond (.tmp rfl) (by first | assumption | exact gdAnd (by assumption) (by assumption)))) ?_
    refine AL_p rfl rfl (S_and rfl (.tmp rfl) (fun hp15 => (AEv.cond (.tmp rfl) (by first | assumption | exact gdT hp15 | exact gdF hp15 | exact gdAnd (by assumption) (gdT hp15) | exact gdAnd (by assumption) (gdF hp15))))) ?_
    refine AL_nil ?_
    refine AC_cond (.tmp rfl) (fun hb16 => ?_) (fun hb16 => ?_)
    · try simp only [zA, zO, zN, zM, zP, zQ, zD, zF, gd] at hb16
      have hx := find_hit (w := w) (i := i) (by omega) hil (by simpa using hb16.2)
      refine AC_seq ?_
      refine AC_region ?_
      refine AL_p rfl rfl (S_move rfl (.tmp rfl)) ?_
      refine AL_p rfl rfl (S_assign rfl (.tmp rfl)) ?_
      refine AL_nil ?_
      refine AC_ret ?_
      refine ret_tmp st rfl rfl (Sub.l (List.sublist_cons_self _ _)) (Conv.refl (Sub.l (List.sublist_cons_self _ _)) _) ⟨by rw [hx], rfl⟩ (.inl rfl)
    try simp only [zA, zO, zN, zM, zP, zQ, zD, zF, gd] at hb16
    have hno : 0 < i → (verbA i).1 ≠ w := fun h0 h9 => hb16.elim (fun h => h (by omega)) fun h => h (by simpa using h9)
    refine AC_skip ?_
    refine AC_region ?_
    refine AL_p rfl rfl (S_addI rfl (.tmp rfl) (AEv.const _) (by omega) (by omega)) ?_
    refine AL_p rfl rfl (S_move rfl (.tmp rfl)) ?_
    refine AL_nil ?_
    refine ⟨i + 1, ⟨by omega, fun j hj h h0 => ?_⟩, by omega, (Sub.l (List.sublist_cons_self _ _)), (.cons rfl (by first | exact Le.refl _ | exact Le.nils | exact Le.row _ _ _ _ | exact Le.of_eq (by first | rfl | (simp; done) | (push_cast; rfl) | (simp; omega))) .nil), (.cons rfl (Le.refl _) (.cons rfl (Le.refl _) .nil))⟩
    rcases Nat.lt_or_ge j i with h9 | h9
    · exact hall j hj h9 h0
    · have e9 : j = i := by omega
      subst e9
      exact hno h0
  try simp only [zA, zO, zN, zM, zP, zQ, zD, zF, gd] at hb1
  have hx := find_none (w := w) fun j hj h0 => hall j hj (by omega) h0
  refine AC_exit ?_
  refine AC_seq ?_
  refine AC_region ?_
  refine AL_p rfl rfl (S_assign rfl (AEv.const _)) ?_
  refine AL_nil ?_
  refine AC_ret ?_
  refine ret_tmp st rfl rfl (Sub.l (List.Sublist.refl _)) (Conv.refl (Sub.l (List.Sublist.refl _)) _) ⟨by rw [hx]; rfl, rfl⟩ (.inl rfl)

set_option maxRecDepth 100000 in
/-- provost/script.data -/
theorem data_ok (k : Int) (l : List (List UInt8)) (hl : ∀ x ∈ l, x.length ≤ 1000000) : PCalls Tryd.prog 30 [.int .i64 k, .sl (strsV l)] (.tup [.S (dataV k l).1, .bool (dataV k l).2]) := by
  intro st
  refine ACalls_of (N := 28) Tryd.func30 (by kernel_rfl) rfl rfl rfl ?_
  refine AC_seq ?_
  refine AC_region ?_
  refine AL_p rfl rfl (S_assign rfl (AEv.S _)) ?_
  refine AL_p rfl rfl (S_assign rfl (AEv.const _)) ?_
  refine AL_nil ?_
  refine AC_seq ?_
  refine AC_block ?_
  refine AC_seq ?_
  refine AC_region ?_
  refine AL_p rfl rfl (S_move rfl (.tmp rfl)) ?_
  refine AL_p rfl rfl (S_eql rfl (.tmp rfl) (AEv.const _)) ?_
  refine AL_p rfl rfl (S_assign rfl (.tmp rfl)) ?_
  refine AL_nil ?_
  refine AC_cond (.tmp rfl) (fun hb1 => ?_) (fun hb1 => ?_)
  · try simp only [zA, zO, zN, zM, zP, zQ, zD, zF, gd] at hb1
    have hx : dataV k l = ([], decide ((l.length : Int) = 0)) := by unfold dataV; rw [if_pos hb1]; exact congrArg _ (decide_eq_decide.2 (by rw [← List.length_eq_zero_iff]; omega))
    refine AC_seq ?_
    refine AC_region ?_
    refine AL_p rfl rfl (S_move rfl (.tmp rfl)) ?_
    refine AL_p rfl rfl (by first | exact S_lenM (e := 9) rfl (.tmp rfl) (by kernel_rfl) | exact S_len (e := 9) rfl (.tmp rfl) (by kernel_rfl)) ?_
    refine AL_p rfl rfl (S_eql rfl (.tmp rfl) (AEv.const _)) ?_
    refine AL_p rfl rfl (S_assign rfl (AEv.S _)) ?_
    refine AL_p rfl rfl (S_assign rfl (.tmp rfl)) ?_
    refine AL_nil ?_
    refine AC_ret ?_
    refine ret_tmps (ts := [4, 5]) st rfl (by decide) rfl (Sub.l (List.Sublist.refl _)) (Conv.refl (Sub.l (List.Sublist.refl _)) _) ⟨by rw [hx], rfl⟩ (.inl rfl)
  try simp only [zA, zO, zN, zM, zP, zQ, zD, zF, gd] at hb1
  have hk0 : ¬ k = 0 := hb1
  refine AC_seq ?_
  refine AC_region ?_
  refine AL_p rfl rfl (S_move rfl (.tmp rfl)) ?_
  refine AL_p rfl rfl (by first | exact S_lenM (e := 9) rfl (.tmp rfl) (by kernel_rfl) | exact S_len (e := 9) rfl (.tmp rfl) (by kernel_rfl)) ?_
  refine AL_p rfl rfl (S_neq rfl (.tmp rfl) (AEv.const _)) ?_
  refine AL_p rfl rfl (S_assign rfl (.tmp rfl)) ?_
  refine AL_nil ?_
  refine AC_cond (.tmp rfl) (fun hb2 => ?_) (fun hb2 => ?_)
  · try simp only [zA, zO, zN, zM, zP, zQ, zD, zF, gd] at hb2
    have hx : dataV k l = ([], false) := by unfold dataV; rw [if_neg hk0, if_pos (by omega)]
    refine AC_seq ?_
    refine AC_region ?_
    refine AL_p rfl rfl (S_assign rfl (AEv.S _)) ?_
    refine AL_p rfl rfl (S_assign rfl (AEv.const _)) ?_
    refine AL_nil ?_
    refine AC_ret ?_
    refine ret_tmps (ts := [4, 5]) st rfl (by decide) rfl (Sub.l (List.Sublist.refl _)) (Conv.refl (Sub.l (List.Sublist.refl _)) _) ⟨by rw [hx], rfl⟩ (.inl rfl)
  try simp only [zA, zO, zN, zM, zP, zQ, zD, zF, gd] at hb2
  have hl1 : l.length = 1 := by omega
  have hl0 : 0 < l.length := by omega
  have hhd : l.headD [] = (l[0]'hl0) := by obtain ⟨x, rfl⟩ := List.length_eq_one_iff.1 hl1; rfl
  refine AC_seq ?_
  refine AC_region ?_
  refine AL_p rfl rfl (S_move rfl (.tmp rfl)) ?_
  refine AL_p rfl rfl (S_eql rfl (.tmp rfl) (AEv.const _)) ?_
  refine AL_p rfl rfl (S_assign rfl (.tmp rfl)) ?_
  refine AL_nil ?_
  refine AC_cond (.tmp rfl) (fun hb3 => ?_) (fun hb3 => ?_)
  · try simp only [zA, zO, zN, zM, zP, zQ, zD, zF, gd] at hb3
    have hx : dataV k l = ofHexV (l[0]'hl0) := by unfold dataV; rw [if_neg hk0, if_neg (by omega), if_pos hb3, hhd]
    refine AC_seq ?_
    refine AC_region ?_
    refine AL_p rfl rfl (S_move rfl (.tmp rfl)) ?_
    refine AL_p rfl rfl (S_elemN (e := 9) (i := 0) 1 rfl (.tmp rfl) (AEv.const _) (by kernel_rfl) (by kernel_rfl) (by omega) (fun _ => rfl)) ?_
    refine AL_p rfl rfl (S_loadP rfl (.tmp rfl) rfl (by kernel_rfl)) ?_
    refine AL_p rfl rfl (S_pcall rfl (AEvs.cons (.tmp rfl) AEvs.nil) (ofHex_ok (l[0]'hl0) (hl _ (List.getElem_mem hl0)))) ?_
    refine AL_p rfl rfl (S_extract 0 rfl (.tmp rfl) rfl) ?_
    refine AL_p rfl rfl (S_extract 1 rfl (.tmp rfl) rfl) ?_
    refine AL_p rfl rfl (S_assign rfl (.tmp rfl)) ?_
    refine AL_p rfl rfl (S_assign rfl (.tmp rfl)) ?_
    refine AL_nil ?_
    refine AC_ret ?_
    refine ret_tmps (ts := [4, 5]) st rfl (by decide) rfl (Sub.l (List.Sublist.refl _)) (Conv.refl (Sub.l (List.Sublist.refl _)) _) ⟨by rw [hx], rfl⟩ (.inl rfl)
  try simp only [zA, zO, zN, zM, zP, zQ, zD, zF, gd] at hb3
  have hx : dataV k l = ((l[0]'hl0), true) := by unfold dataV; rw [if_neg hk0, if_neg (by omega), if_neg hb3, hhd]
  refine AC_skip ?_
  refine AC_seq ?_
  refine AC_region ?_
  refine AL_p rfl rfl (S_move rfl (.tmp rfl)) ?_
  refine AL_p rfl rfl (S_elemN (e := 9) (i := 0) 1 rfl (.tmp rfl) (AEv.const _) (by kernel_rfl) (by kernel_rfl) (by omega) (fun _ => rfl)) ?_
  refine AL_p rfl rfl (S_loadP rfl (.tmp rfl) rfl (by kernel_rfl)) ?_
  refine AL_p rfl rfl (S_assign rfl (.tmp rfl)) ?_
  refine AL_p rfl rfl (S_assign rfl (AEv.const _)) ?_
  refine AL_nil ?_
  refine AC_ret ?_
  refine ret_tmps (ts := [4, 5]) st rfl (by decide) rfl (Sub.l (List.Sublist.refl _)) (Conv.refl (Sub.l (List.Sublist.refl _)) _) ⟨by rw [hx], rfl⟩ (.inl rfl)

end Go.Proofs.YtfpkefhjomeeeaaDoor

/-
The walks of Go functions in the logic AL: what each of them answers.
Conditions: those of each theorem.
-/
set_option linter.unusedVariables false
set_option linter.unusedSimpArgs false
namespace Go.Proofs.YtfpkefhjomeeeaaDoor
open Go.AL Go.NumSpec

set_option maxRecDepth 100000 in
/-- provost/script.Line -/
theorem scr_Line_ok (e : Ent) (hn : e.n.length ≤ 1000000) : GCalls Tryd.prog tabs 14 [entAV e] (.S (lineV e)) := by
  intro st hG
  refine ACalls_of (N := 49) Tryd.func14 (by kernel_rfl) rfl rfl rfl ?_
  refine AC_seq ?_
  refine AC_region ?_
  refine AL_step rfl rfl (S_box rfl (.tmp rfl)) ?_
  rintro _ _ ⟨b1, rfl, rfl⟩
  refine AL_p rfl rfl (S_assign rfl (AEv.S _)) ?_
  refine AL_nil ?_
  refine AC_seq ?_
  refine AC_seq ?_
  refine AC_region ?_
  refine AL_p rfl rfl (S_loadN (m := 3) 0 rfl (.tmp rfl) rfl (by kernel_rfl) (by first | exact Nat.le_of_ble_eq_true rfl | (simp; omega) | simp)) ?_
  refine AL_p rfl rfl (S_gcall rfl (AEvs.cons (.tmp rfl) AEvs.nil) ((scr_Right_ok e hn) _ (fun p hp => by first | exact hG p hp | exact List.mem_cons_of_mem _ (hG p hp)))) ?_
  refine AL_p rfl rfl (S_not rfl (.tmp rfl)) ?_
  refine AL_nil ?_
  refine AC_cond (.tmp rfl) (fun hb2 => ?_) (fun hb2 => ?_)
  · try simp only [zA, zO, zN, zM, zP, zQ, zD, zF, gd] at hb2
    have hx : lineV e = [] := by unfold lineV; rw [if_neg (by simpa using hb2)]
    refine AC_seq ?_
    refine AC_region ?_
    refine AL_p rfl rfl (S_assign rfl (AEv.S _)) ?_
    refine AL_nil ?_
    refine AC_ret ?_
    refine ret_tmp st rfl rfl (Sub.l (List.sublist_cons_self _ _)) (Conv.refl (Sub.l (List.sublist_cons_self _ _)) _) ⟨by rw [hx], rfl⟩ (.inl rfl)
  try simp only [zA, zO, zN, zM, zP, zQ, zD, zF, gd] at hb2
  have hr : rightB e = true := by simpa using hb2
  have hx : lineV e = lineE e := by unfold lineV; rw [if_pos hr]
  obtain ⟨hv1, hv2, hv3, hv4, hv5⟩ := right_spec hr
  have hdl := data_len hr
  have hnf := right_fits hr
  refine AC_skip ?_
  refine AC_seq ?_
  refine AC_region ?_
  refine AL_p rfl rfl (S_field 0 rfl (.tmp rfl) (by kernel_rfl)) ?_
  refine AL_p rfl rfl (S_load 0 rfl (.tmp rfl) rfl rfl (by kernel_rfl)) ?_
  refine AL_p rfl rfl (S_elemA (e := 62) (len := 24) (i := e.verb) 3 rfl (AEv.global _) (.tmp rfl) (by kernel_rfl) (by kernel_rfl) (by omega) (by omega)) ?_
  refine AL_p rfl rfl ((S_loadKs (vs := verbsV) (m := 3) rfl (.tmp rfl) (List.mem_cons_of_mem _ (hG _ tab_verbs)) (by kernel_rfl) (by rw [show verbsV.length = 72 from rfl]; omega)).ofV (V' := .agg [.S (verbA e.verb.toNat).1, .int .i64 (verbA e.verb.toNat).2.1, .int .i64 (verbA e.verb.toNat).2.2]) (congrArg AV.agg (verbs_row (by omega) (by omega)))) ?_
  refine AL_step rfl rfl (S_alloc [.string ⟨#[]⟩, .int .i64 0, .int .i64 0] rfl (by kernel_rfl)) ?_
  rintro _ _ ⟨b3, rfl, rfl⟩
  refine AL_step rfl rfl (S_storeW 0 rfl (.tmp rfl) (.tmp rfl) rfl rfl rfl (by kernel_rfl)) ?_
  rintro _ _ ⟨rfl, rfl⟩
  refine AL_nil ?_
  refine AC_seq ?_
  refine AC_region ?_
  refine AL_p rfl rfl (S_field 0 rfl (.tmp rfl) (by kernel_rfl)) ?_
  refine AL_p rfl rfl (S_load 0 rfl (.tmp rfl) rfl rfl (by kernel_rfl)) ?_
  refine AL_step rfl rfl (S_buildOwn (e := 9) 1 rfl (AEvs.cons (.tmp rfl) AEvs.nil) rfl (by kernel_rfl) (by kernel_rfl) (by simp [AV.flat, AV.one, AV.cells, Value.oneCell']) (by decide) (by decide) (by decide)) ?_
  rintro _ _ ⟨b4, rfl, rfl⟩
  refine AL_p rfl rfl (S_assign rfl (.tmp rfl)) ?_
  refine AL_nil ?_
  refine AC_seq ?_
  refine AC_seq ?_
  refine AC_region ?_
  refine AL_p rfl rfl (S_field 1 rfl (.tmp rfl) (by kernel_rfl)) ?_
  refine AL_p rfl rfl (S_load 2 rfl (.tmp rfl) rfl rfl (by kernel_rfl)) ?_
  refine AL_p rfl rfl (by first | exact S_lenM (e := 3) rfl (.tmp rfl) (by kernel_rfl) | exact S_len (e := 3) rfl (.tmp rfl) (by kernel_rfl)) ?_
  refine AL_p rfl rfl (S_move rfl (AEv.const _)) ?_
  refine AL_nil ?_
  refine AC_block ?_
  refine AC_loopK (G := Nat × Own) [(1, _), (2, _), (3, _), (18, _), (19, _)] (fun g => g.1 ≤ e.n.length ∧ g.2.ok ((partsN e g.1).map AV.S)) (fun g => [(4, ownAV g.2 1 ((partsN e g.1).map AV.S)), (20, .int .i64 (g.1 : Int))]) (fun g => ownSt g.2 9 1 ((partsN e g.1).map AV.S) ++ ((b3, .cells [.S (verbA e.verb.toNat).1, .int .i64 (verbA e.verb.toNat).2.1, .int .i64 (verbA e.verb.toNat).2.2]) :: (b1, .cells (entL e)) :: st)) (fun g => e.n.length - g.1) ((0, .row b4 0 1)) (⟨Nat.zero_le _, by simp [Own.ok, partsN]⟩) (Sub.l (List.Sublist.refl _)) (.cons rfl (Le.refl _) (.cons rfl (Le.refl _) (.cons rfl (Le.refl _) (.cons rfl (Le.refl _) (.cons rfl (Le.refl _) .nil))))) (.cons rfl (by first | exact Le.refl _ | exact Le.nils | exact Le.row _ _ _ _ | exact Le.of_eq (by first | rfl | (simp; done) | (push_cast; rfl) | (simp; omega))) (.cons rfl (by first | exact Le.refl _ | exact Le.nils | exact Le.row _ _ _ _ | exact Le.of_eq (by first | rfl | (simp; done) | (push_cast; rfl) | (simp; omega))) .nil)) ?_
  rintro ⟨i, p⟩ ⟨hi, hq⟩
  try dsimp only
  simp only [List.cons_append, List.nil_append]
  dsimp only at hi hq
  have hpn := partsN_len e i
  refine AC_seq ?_
  refine AC_region ?_
  refine AL_p rfl rfl (S_lss rfl (.tmp rfl) (.tmp rfl)) ?_
  refine AL_nil ?_
  refine AC_seq ?_
  refine AC_cond (.tmp rfl) (fun hb4 => ?_) (fun hb4 => ?_)
  · try simp only [zA, zO, zN, zM, zP, zQ, zD, zF, gd] at hb4
    have hil : i < e.n.length := by omega
    refine AC_skip ?_
    refine AC_seq ?_
    refine AC_block ?_
    refine AC_seq ?_
    refine AC_region ?_
    refine AL_p rfl rfl (S_elemN (e := 3) 1 rfl (.tmp rfl) (.tmp rfl) (by kernel_rfl) (by kernel_rfl) (by omega) (fun _ => rfl)) ?_
    refine AL_p rfl rfl (S_loadP rfl (.tmp rfl) rfl (by kernel_rfl)) ?_
    refine AL_p rfl rfl (S_assign rfl (.tmp rfl)) ?_
    refine AL_nil ?_
    refine AC_region ?_
    refine AL_p rfl rfl (S_move rfl (.tmp rfl)) ?_
    refine AL_p rfl rfl (S_move rfl (.tmp rfl)) ?_
    refine AL_p rfl rfl (S_pcall rfl (AEvs.cons (.tmp rfl) AEvs.nil) (num_Text_ok (e.n[i]'hil) (hnf _ (List.getElem_mem hil)))) ?_
    refine AL_p rfl rfl (S_buildSlice (e := 9) 1 rfl (AEvs.cons (.tmp rfl) AEvs.nil) rfl (by kernel_rfl) (by kernel_rfl) (by intro y hy; simp only [List.mem_cons, List.not_mem_nil, or_false] at hy; rcases hy with rfl <;> exact ⟨rfl, rfl⟩) (by decide) (by decide) (by decide)) ?_
    refine AL_step rfl rfl (S_appendM (f := AV.S) (l := partsN e i) (l2 := [textL (e.n[i]'hil)]) (e := 9) (size := 1) (bytes := 16) (p := p) ([]) (((b3, .cells [.S (verbA e.verb.toNat).1, .int .i64 (verbA e.verb.toNat).2.1, .int .i64 (verbA e.verb.toNat).2.2]) :: (b1, .cells (entL e)) :: st)) rfl (.tmp rfl) (.tmp rfl) rfl hq (by kernel_rfl) (by simp) (fun _ => ⟨rfl, rfl⟩) (by simp only [List.length_singleton]; omega) (by simp only [List.length_singleton]; omega)) ?_
    rintro _ _ ⟨b8, k8, cap8, hx8, rfl, rfl⟩
    refine AL_p rfl rfl (S_assign rfl (.tmp rfl)) ?_
    refine AL_nil ?_
    refine AC_region ?_
    refine AL_p rfl rfl (S_addI rfl (.tmp rfl) (AEv.const _) (by omega) (by omega)) ?_
    refine AL_p rfl rfl (S_move rfl (.tmp rfl)) ?_
    refine AL_nil ?_
    exact ⟨(i + 1, .row b8 k8 cap8), ⟨by dsimp only; omega, by dsimp only; rw [partsN_next hil]; exact hx8⟩, by dsimp only; omega, by dsimp only; rw [partsN_next hil]; exact (Sub.l (List.Sublist.refl _)), (.cons rfl (Le.of_eq (by dsimp only; rw [partsN_next hil])) (.cons rfl (by first | exact Le.refl _ | exact Le.nils | exact Le.row _ _ _ _ | exact Le.of_eq (by first | rfl | (simp; done) | (push_cast; rfl) | (simp; omega))) .nil)), (.cons rfl (Le.refl _) (.cons rfl (Le.refl _) (.cons rfl (Le.refl _) (.cons rfl (Le.refl _) (.cons rfl (Le.refl _) .nil)))))⟩
  try simp only [zA, zO, zN, zM, zP, zQ, zD, zF, gd] at hb4
  have hpa := partsN_all (e := e) (i := i) (by omega)
  refine AC_exit ?_
  refine AC_joinK (G := Own) [(1, _), (2, _), (3, _)] (fun p => p.ok ((partsE e).map AV.S)) (fun g => [(4, ownAV g 1 ((partsE e).map AV.S))]) (fun g => ownSt g 9 1 ((partsE e).map AV.S) ++ ((b3, .cells [.S (verbA e.verb.toNat).1, .int .i64 (verbA e.verb.toNat).2.1, .int .i64 (verbA e.verb.toNat).2.2]) :: (b1, .cells (entL e)) :: st)) (.cons rfl (Le.refl _) (.cons rfl (Le.refl _) (.cons rfl (Le.refl _) .nil))) ?_ ?_
  · refine AC_seq ?_
    refine AC_region ?_
    refine AL_p rfl rfl (S_field 2 rfl (.tmp rfl) (by kernel_rfl)) ?_
    refine AL_p rfl rfl (S_loadM rfl (.tmp rfl) (List.mem_append_right _ List.mem_cons_self) rfl (by kernel_rfl)) ?_
    refine AL_nil ?_
    refine AC_block ?_
    refine AC_seq ?_
    refine AC_region ?_
    refine AL_p rfl rfl (S_eql rfl (.tmp rfl) (AEv.const _)) ?_
    refine AL_p rfl rfl (S_assign rfl (.tmp rfl)) ?_
    refine AL_nil ?_
    refine AC_cond (.tmp rfl) (fun hb7 => ?_) (fun hb7 => ?_)
    · try simp only [zA, zO, zN, zM, zP, zQ, zD, zF, gd] at hb7
      have hk : (verbA e.verb.toNat).2.2 = 1 := hb7
      have hpe : partsE e = partsN e i ++ [toHexL e.data] := by rw [hpa]; unfold dataP; rw [if_pos hk]
      refine AC_region ?_
      refine AL_p rfl rfl (S_move rfl (.tmp rfl)) ?_
      refine AL_p rfl rfl (S_field 2 rfl (.tmp rfl) (by kernel_rfl)) ?_
      refine AL_p rfl rfl (S_loadM rfl (.tmp rfl) (List.mem_append_right _ (List.mem_cons_of_mem _ List.mem_cons_self)) rfl (by kernel_rfl)) ?_
      refine AL_p rfl rfl (S_pcall rfl (AEvs.cons (.tmp rfl) AEvs.nil) (toHex_ok e.data (by omega))) ?_
      refine AL_p rfl rfl (S_buildSlice (e := 9) 1 rfl (AEvs.cons (.tmp rfl) AEvs.nil) rfl (by kernel_rfl) (by kernel_rfl) (by intro y hy; simp only [List.mem_cons, List.not_mem_nil, or_false] at hy; rcases hy with rfl <;> exact ⟨rfl, rfl⟩) (by decide) (by decide) (by decide)) ?_
      refine AL_step rfl rfl (S_appendM (f := AV.S) (l := partsN e i) (l2 := [toHexL e.data]) (e := 9) (size := 1) (bytes := 16) (p := p) ([]) (((b3, .cells [.S (verbA e.verb.toNat).1, .int .i64 (verbA e.verb.toNat).2.1, .int .i64 (verbA e.verb.toNat).2.2]) :: (b1, .cells (entL e)) :: st)) rfl (.tmp rfl) (.tmp rfl) rfl hq (by kernel_rfl) (by simp) (fun _ => ⟨rfl, rfl⟩) (by simp only [List.length_singleton]; omega) (by simp only [List.length_singleton]; omega)) ?_
      rintro _ _ ⟨b8, k8, cap8, hx8, rfl, rfl⟩
      refine AL_p rfl rfl (S_assign rfl (.tmp rfl)) ?_
      refine AL_nil ?_
      rw [← hpe] at hx8
      exact ⟨.row b8 k8 cap8, hx8, by rw [hpe]; exact (Sub.l (List.Sublist.refl _)), (.cons rfl (Le.of_eq (by rw [hpe])) .nil), (.cons rfl (Le.refl _) (.cons rfl (Le.refl _) (.cons rfl (Le.refl _) .nil)))⟩
    try simp only [zA, zO, zN, zM, zP, zQ, zD, zF, gd] at hb7
    have hk1 : ¬ (verbA e.verb.toNat).2.2 = 1 := hb7
    refine AC_seq ?_
    refine AC_region ?_
    refine AL_p rfl rfl (S_eql rfl (.tmp rfl) (AEv.const _)) ?_
    refine AL_p rfl rfl (S_assign rfl (.tmp rfl)) ?_
    refine AL_nil ?_
    refine AC_cond (.tmp rfl) (fun hb10 => ?_) (fun hb10 => ?_)
    · try simp only [zA, zO, zN, zM, zP, zQ, zD, zF, gd] at hb10
      have hk : (verbA e.verb.toNat).2.2 = 2 := hb10
      have hpe : partsE e = partsN e i ++ [e.data] := by rw [hpa]; unfold dataP; rw [if_neg hk1, if_pos hk]
      refine AC_region ?_
      refine AL_p rfl rfl (S_move rfl (.tmp rfl)) ?_
      refine AL_p rfl rfl (S_field 2 rfl (.tmp rfl) (by kernel_rfl)) ?_
      refine AL_p rfl rfl (S_loadM rfl (.tmp rfl) (List.mem_append_right _ (List.mem_cons_of_mem _ List.mem_cons_self)) rfl (by kernel_rfl)) ?_
      refine AL_p rfl rfl (S_buildSlice (e := 9) 1 rfl (AEvs.cons (.tmp rfl) AEvs.nil) rfl (by kernel_rfl) (by kernel_rfl) (by intro y hy; simp only [List.mem_cons, List.not_mem_nil, or_false] at hy; rcases hy with rfl <;> exact ⟨rfl, rfl⟩) (by decide) (by decide) (by decide)) ?_
      refine AL_step rfl rfl (S_appendM (f := AV.S) (l := partsN e i) (l2 := [e.data]) (e := 9) (size := 1) (bytes := 16) (p := p) ([]) (((b3, .cells [.S (verbA e.verb.toNat).1, .int .i64 (verbA e.verb.toNat).2.1, .int .i64 (verbA e.verb.toNat).2.2]) :: (b1, .cells (entL e)) :: st)) rfl (.tmp rfl) (.tmp rfl) rfl hq (by kernel_rfl) (by simp) (fun _ => ⟨rfl, rfl⟩) (by simp only [List.length_singleton]; omega) (by simp only [List.length_singleton]; omega)) ?_
      rintro _ _ ⟨b8, k8, cap8, hx8, rfl, rfl⟩
      refine AL_p rfl rfl (S_assign rfl (.tmp rfl)) ?_
      refine AL_nil ?_
      rw [← hpe] at hx8
      exact ⟨.row b8 k8 cap8, hx8, by rw [hpe]; exact (Sub.l (List.Sublist.refl _)), (.cons rfl (Le.of_eq (by rw [hpe])) .nil), (.cons rfl (Le.refl _) (.cons rfl (Le.refl _) (.cons rfl (Le.refl _) .nil)))⟩
    try simp only [zA, zO, zN, zM, zP, zQ, zD, zF, gd] at hb10
    have hk2 : ¬ (verbA e.verb.toNat).2.2 = 2 := hb10
    have hpe : partsE e = partsN e i := by rw [hpa]; unfold dataP; rw [if_neg hk1, if_neg hk2, List.append_nil]
    refine AC_skip ?_
    exact ⟨p, by rw [hpe]; exact hq, by rw [hpe]; exact (Sub.l (List.Sublist.refl _)), (.cons rfl (Le.of_eq (by rw [hpe])) .nil), (.cons rfl (Le.refl _) (.cons rfl (Le.refl _) (.cons rfl (Le.refl _) .nil)))⟩
  rintro p9 hq9
  try dsimp only
  simp only [List.cons_append, List.nil_append]
  refine AC_seq ?_
  refine AC_region ?_
  refine AL_p rfl rfl (S_move rfl (.tmp rfl)) ?_
  refine AL_p rfl rfl (S_pcall rfl (AEvs.cons ((AEv.tmp rfl).le (Le_own hq9)) (AEvs.cons (AEv.S _) AEvs.nil)) (join_ok (partsE e) [32] (by have := (parts_short hr).2; omega) (by have := line_len hr; unfold lineE at this; omega))) ?_
  refine AL_p rfl rfl (S_assign rfl (.tmp rfl)) ?_
  refine AL_nil ?_
  refine AC_ret ?_
  refine ret_tmp st rfl rfl (Sub.l ((List.sublist_append_of_sublist_right ((List.sublist_cons_self _ _).trans (List.sublist_cons_self _ _))))) (Conv.refl (Sub.l ((List.sublist_append_of_sublist_right ((List.sublist_cons_self _ _).trans (List.sublist_cons_self _ _))))) _) ⟨by rw [hx]; rfl, rfl⟩ (.inl rfl)

end Go.Proofs.YtfpkefhjomeeeaaDoor

/-
The walks of Go functions in the logic AL: what each of them answers.
Conditions: those of each theorem.
-/
set_option linter.unusedVariables false
set_option linter.unusedSimpArgs false
namespace Go.Proofs.YtfpkefhjomeeeaaDoor
open Go.AL Go.NumSpec

set_option maxRecDepth 100000 in
/-- provost/script.Parse -/
theorem scr_Parse_ok (s : List UInt8) (hs : s.length ≤ 1000000) : GCalls Tryd.prog tabs 10 [.S s] (entP (parseE s)) := by
  intro st hG
  refine ACalls_of (N := 83) Tryd.func10 (by kernel_rfl) rfl rfl rfl ?_
  obtain ⟨w, l, hps⟩ : ∃ w l, partsB 32 s = w :: l := by
    cases h : partsB 32 s with
    | nil => exact absurd h (partsB_ne 32 s)
    | cons w l => exact ⟨w, l, rfl⟩
  have hpl : ∀ x ∈ w :: l, x.length ≤ s.length := by rw [← hps]; exact partsB_le 32 s
  have hpc : (w :: l).length ≤ s.length + 1 := by rw [← hps]; exact parts_few 32 s
  have hflt := find_lt w
  obtain ⟨hv1, hv2, hv3, hv4, hv5, hv6, hv7⟩ := verb_facts (find_lt w)
  simp only [List.length_cons] at hpc
  have hcons : (w :: l).length = l.length + 1 := rfl
  refine AC_seq ?_
  refine AC_region ?_
  refine AL_step rfl rfl (S_alloc [.int .i64 0, .slice none 0 0, .string ⟨#[]⟩] rfl (by kernel_rfl)) ?_
  rintro _ _ ⟨b2, rfl, rfl⟩
  refine AL_p rfl rfl (S_assign rfl (AEv.const _)) ?_
  refine AL_nil ?_
  refine AC_seq ?_
  refine AC_region ?_
  refine AL_p rfl rfl (S_move rfl (.tmp rfl)) ?_
  refine AL_p rfl rfl (S_pcall rfl (AEvs.cons (.tmp rfl) (AEvs.cons (AEv.S _) AEvs.nil)) ((strings_Split_ok s 32 (by omega)).of_eq (congrArg (fun x => AV.sl (strsV x)) hps))) ?_
  refine AL_p rfl rfl (S_assign rfl (.tmp rfl)) ?_
  refine AL_nil ?_
  refine AC_seq ?_
  refine AC_region ?_
  refine AL_p rfl rfl (S_move rfl (.tmp rfl)) ?_
  refine AL_p rfl rfl (S_elemN (e := 9) (i := 0) 1 rfl (.tmp rfl) (AEv.const _) (by kernel_rfl) (by kernel_rfl) (by simp only [List.length_cons]; omega) (fun _ => rfl)) ?_
  refine AL_p rfl rfl (S_loadP rfl (.tmp rfl) rfl (by kernel_rfl)) ?_
  refine AL_p rfl rfl (S_gcall rfl (AEvs.cons (.tmp rfl) AEvs.nil) ((find_ok w) _ (fun p hp => by repeat (first | exact hG p hp | exact hG p (List.mem_cons_of_mem _ hp) | refine List.mem_cons_of_mem _ ?_ | refine List.mem_append_right _ ?_)))) ?_
  refine AL_p rfl rfl (S_build (t := 28) (pl := [(0, 1), (1, 1), (2, 1)]) (zs := [.int .i64 0, .slice none 0 0, .string ⟨#[]⟩]) rfl (AEvs.cons (.tmp rfl) AEvs.nil) (by kernel_rfl) rfl) ?_
  refine AL_step rfl rfl (S_alloc [.int .i64 0, .slice none 0 0, .string ⟨#[]⟩] rfl (by kernel_rfl)) ?_
  rintro _ _ ⟨b5, rfl, rfl⟩
  refine AL_step rfl rfl (S_storeW 0 rfl (.tmp rfl) (.tmp rfl) rfl rfl rfl (by kernel_rfl)) ?_
  rintro _ _ ⟨rfl, rfl⟩
  refine AL_nil ?_
  refine AC_seq ?_
  refine AC_region ?_
  refine AL_p rfl rfl (S_field 0 rfl (.tmp rfl) (by kernel_rfl)) ?_
  refine AL_p rfl rfl (S_load 0 rfl (.tmp rfl) rfl rfl (by kernel_rfl)) ?_
  refine AL_p rfl rfl (S_elemA (e := 62) (len := 24) (i := ((findV w : Nat) : Int)) 3 rfl (AEv.global _) (.tmp rfl) (by kernel_rfl) (by kernel_rfl) (by omega) (by omega)) ?_
  refine AL_p rfl rfl ((S_loadKs (vs := verbsV) (m := 3) rfl (.tmp rfl) (List.mem_cons_of_mem _ (List.mem_cons_of_mem _ (hG _ tab_verbs))) (by kernel_rfl) (by rw [show verbsV.length = 72 from rfl]; omega)).ofV (V' := .agg [.S (verbA (findV w)).1, .int .i64 (verbA (findV w)).2.1, .int .i64 (verbA (findV w)).2.2]) (congrArg AV.agg (verbs_row (v := ((findV w : Nat) : Int)) (by omega) (by omega)))) ?_
  refine AL_step rfl rfl (S_alloc [.string ⟨#[]⟩, .int .i64 0, .int .i64 0] rfl (by kernel_rfl)) ?_
  rintro _ _ ⟨b6, rfl, rfl⟩
  refine AL_step rfl rfl (S_storeW 0 rfl (.tmp rfl) (.tmp rfl) rfl rfl rfl (by kernel_rfl)) ?_
  rintro _ _ ⟨rfl, rfl⟩
  refine AL_nil ?_
  refine AC_seq ?_
  refine AC_seq ?_
  refine AC_region ?_
  refine AL_p rfl rfl (S_field 0 rfl (.tmp rfl) (by kernel_rfl)) ?_
  refine AL_p rfl rfl (S_load 1 rfl (.tmp rfl) rfl rfl (by kernel_rfl)) ?_
  refine AL_p rfl rfl (S_eql rfl (.tmp rfl) (AEv.const _)) ?_
  refine AL_p rfl rfl (S_move rfl (.tmp rfl)) ?_
  refine AL_g rfl rfl (.tmp rfl) rfl (fun hg4 => S_move rfl (.tmp rfl)) ?_
  refine AL_g rfl rfl (.tmp rfl) rfl (fun hg7 => by first | exact S_lenM (e := 9) rfl (AEv.cond (.tmp rfl) (by first | assumption | exact gdAnd (by assumption) (by assumption))) (by kernel_rfl) | exact S_len (e := 9) rfl (AEv.cond (.tmp rfl) (by first | assumption | exact gdAnd (by assumption) (by assumption))) (by kernel_rfl)) ?_
  refine AL_g rfl rfl (.tmp rfl) rfl (fun hg10 => S_subI rfl (AEv.cond (.tmp rfl) (by first | assumption | exact gdAnd (by assumption) (by assumption))) (AEv.const _) (by (try simp only [gd, Bool.and_eq_true, Bool.or_eq_true, Bool.not_eq_true', Bool.not_eq_false', decide_eq_true_eq, decide_eq_false_iff_not, Bool.or_eq_false_iff, Bool.and_eq_false_iff] at *); omega) (by (try simp only [gd, Bool.and_eq_true, Bool.or_eq_true, Bool.not_eq_true', Bool.not_eq_false', decide_eq_true_eq, decide_eq_false_iff_not, Bool.or_eq_false_iff, Bool.and_eq_false_iff] at *); omega)) ?_
  refine AL_g rfl rfl (.tmp rfl) rfl (fun hg13 => S_field 1 rfl (.tmp rfl) (by kernel_rfl)) ?_
  refine AL_g rfl rfl (.tmp rfl) rfl (fun hg16 => S_load 0 rfl (AEv.cond (.tmp rfl) (by first | assumption | exact gdAnd (by assumption) (by assumption))) rfl rfl (by kernel_rfl)) ?_
  refine AL_g rfl rfl (.tmp rfl) rfl (fun hg19 => S_lss rfl (AEv.cond (.tmp rfl) (by first | assumption | exact gdAnd (by assumption) (by assumption))) (AEv.cond (.tmp rfl) (by first | assumption | exact gdAnd (by assumption) (by assumption)))) ?_
  refine AL_p rfl rfl (S_or rfl (.tmp rfl) (fun hp22 => (AEv.cond (.tmp rfl) (by first | assumption | exact gdT hp22 | exact gdF hp22 | exact gdAnd (by assumption) (gdT hp22) | exact gdAnd (by assumption) (gdF hp22))))) ?_
  refine AL_nil ?_
  refine AC_cond (.tmp rfl) (fun hb23 => ?_) (fun hb23 => ?_)
  · try simp only [zA, zO, zN, zM, zP, zQ, zD, zF, gd] at hb23
    have hx : parseE s = none := by
      rcases hb23 with h | h
      · exact parse_noverb hps (by omega)
      · exact parse_few hps (by simp only [List.length_cons] at h; omega)
    refine AC_seq ?_
    refine AC_region ?_
    refine AL_p rfl rfl (S_build (t := 28) (pl := [(0, 1), (1, 1), (2, 1)]) (zs := [.int .i64 0, .slice none 0 0, .string ⟨#[]⟩]) rfl AEvs.nil (by kernel_rfl) rfl) ?_
    refine AL_step rfl rfl (S_storeW 2 rfl (.tmp rfl) (.tmp rfl) rfl rfl rfl (by kernel_rfl)) ?_
    rintro _ _ ⟨rfl, rfl⟩
    refine AL_p rfl rfl (S_assign rfl (AEv.const _)) ?_
    refine AL_nil ?_
    refine AC_ret ?_
    refine ret_outs st rfl (by decide) (OutsR.row 2 rfl rfl (by kernel_rfl) (OutsR.tmp rfl OutsR.nil)) (Sub.l (List.Sublist.cons _ (List.Sublist.cons _ (List.Sublist.cons _ (List.Sublist.refl _))))) (Conv.le (Sub.l (List.Sublist.cons _ (List.Sublist.cons _ (List.Sublist.cons _ (List.Sublist.refl _))))) (Les.tup (.cons (Les.agg (.cons (Le.refl _) (.cons Le.nils (.cons (Le.refl _) .nil)))) (.cons (Le.refl _) .nil)))) ⟨by rw [hx]; rfl, rfl⟩ (.inl rfl)
  try simp only [zA, zO, zN, zM, zP, zQ, zD, zF, gd] at hb23
  simp only [List.length_cons] at hb23
  have h0 : findV w ≠ 0 := by omega
  have hlk : (verbA (findV w)).2.1 ≤ (l.length : Int) := by omega
  have hlk2 : (l.take (verbA (findV w)).2.1.toNat).length = (verbA (findV w)).2.1.toNat := by rw [List.length_take]; omega
  refine AC_skip ?_
  refine AC_seq ?_
  refine AC_seq ?_
  refine AC_region ?_
  refine AL_p rfl rfl (S_move rfl (.tmp rfl)) ?_
  refine AL_p rfl rfl (S_field 1 rfl (.tmp rfl) (by kernel_rfl)) ?_
  refine AL_p rfl rfl (S_load 0 rfl (.tmp rfl) rfl rfl (by kernel_rfl)) ?_
  refine AL_p rfl rfl (S_addI rfl (AEv.const _) (.tmp rfl) (by omega) (by omega)) ?_
  refine AL_p rfl rfl ((S_cutLHM (e := 9) (i := 1) (j := 1 + (verbA (findV w)).2.1.toNat) 1 rfl (.tmp rfl) (AEv.const _) ((AEv.tmp rfl).le (Le.of_eq (congrArg (AV.int _) (by omega)))) (by kernel_rfl) (by kernel_rfl) (fun _ => rfl) (by omega) (by simp only [List.length_cons]; omega)).ofV (V' := .sl (strsV (l.take (verbA (findV w)).2.1.toNat))) (congrArg (fun x => AV.sl (strsV x)) (by rw [Nat.add_comm, List.take_succ_cons]; rfl))) ?_
  refine AL_p rfl rfl (by first | exact S_lenM (e := 9) rfl (.tmp rfl) (by kernel_rfl) | exact S_len (e := 9) rfl (.tmp rfl) (by kernel_rfl)) ?_
  refine AL_p rfl rfl (S_move rfl (AEv.const _)) ?_
  refine AL_nil ?_
  refine AC_block ?_
  refine AC_loopK (G := Nat × Own) [(2, _), (4, _), (5, _), (6, _), (40, _), (41, _)] (fun g => g.1 ≤ (l.take (verbA (findV w)).2.1.toNat).length ∧ g.2.ok (intsV (numsOf (l.take (g.1)))) ∧ ∀ j (hj : j < l.length), j < g.1 → (parseV l[j] 1073741824).2 = true) (fun g => [(42, .int .i64 (g.1 : Int))]) (fun g => (b6, .cells [.S (verbA (findV w)).1, .int .i64 (verbA (findV w)).2.1, .int .i64 (verbA (findV w)).2.2]) :: (b5, .cells [.int .i64 ((findV w : Nat) : Int), ownAV g.2 1 (intsV (numsOf (l.take (g.1)))), .S []]) :: (b2, .cells [.int .i64 0, .nils, .S []]) :: (ownSt g.2 3 1 (intsV (numsOf (l.take (g.1)))) ++ st)) (fun g => (l.take (verbA (findV w)).2.1.toNat).length - g.1) ((0, .nil)) (⟨Nat.zero_le _, rfl, fun j _ h => absurd h (Nat.not_lt_zero _)⟩) (Sub.l (List.Sublist.refl _)) (.cons rfl (Le.refl _) (.cons rfl (Le.refl _) (.cons rfl (Le.refl _) (.cons rfl (Le.refl _) (.cons rfl (Le.refl _) (.cons rfl (Le.refl _) .nil)))))) (.cons rfl (by first | exact Le.refl _ | exact Le.nils | exact Le.row _ _ _ _ | exact Le.of_eq (by first | rfl | (simp; done) | (push_cast; rfl) | (simp; omega))) .nil) ?_
  rintro ⟨i, p⟩ ⟨hi, hq, hall⟩
  try dsimp only
  simp only [List.cons_append, List.nil_append]
  dsimp only at hi hq hall
  have hnl := nums_len (l.take i)
  rw [List.length_take] at hnl
  refine AC_seq ?_
  refine AC_region ?_
  refine AL_p rfl rfl (S_lss rfl (.tmp rfl) (.tmp rfl)) ?_
  refine AL_nil ?_
  refine AC_seq ?_
  refine AC_cond (.tmp rfl) (fun hb24 => ?_) (fun hb24 => ?_)
  · try simp only [zA, zO, zN, zM, zP, zQ, zD, zF, gd] at hb24
    have hik : i < (l.take (verbA (findV w)).2.1.toNat).length := by omega
    have hil : i < l.length := by rw [List.length_take] at hik; omega
    refine AC_skip ?_
    refine AC_seq ?_
    refine AC_block ?_
    refine AC_seq ?_
    refine AC_region ?_
    refine AL_p rfl rfl (S_elemN (e := 9) 1 rfl (.tmp rfl) (.tmp rfl) (by kernel_rfl) (by kernel_rfl) (by omega) (fun _ => rfl)) ?_
    refine AL_p rfl rfl ((S_loadP rfl (.tmp rfl) rfl (by kernel_rfl)).ofV (V' := .S (l[i]'hil)) (congrArg AV.S List.getElem_take)) ?_
    refine AL_p rfl rfl (S_assign rfl (.tmp rfl)) ?_
    refine AL_nil ?_
    refine AC_seq ?_
    refine AC_region ?_
    refine AL_p rfl rfl (S_move rfl (.tmp rfl)) ?_
    refine AL_p rfl rfl (S_pcall rfl (AEvs.cons (.tmp rfl) (AEvs.cons (AEv.const _) AEvs.nil)) (num_Parse_ok (l[i]'hil) 1073741824)) ?_
    refine AL_p rfl rfl (S_move rfl (.tmp rfl)) ?_
    refine AL_p rfl rfl (S_extract 0 rfl (.tmp rfl) rfl) ?_
    refine AL_p rfl rfl (S_extract 1 rfl (.tmp rfl) rfl) ?_
    refine AL_p rfl rfl (S_assign rfl (.tmp rfl)) ?_
    refine AL_p rfl rfl (S_assign rfl (.tmp rfl)) ?_
    refine AL_nil ?_
    refine AC_seq ?_
    refine AC_seq ?_
    refine AC_region ?_
    refine AL_p rfl rfl (S_move rfl (.tmp rfl)) ?_
    refine AL_p rfl rfl (S_not rfl (.tmp rfl)) ?_
    refine AL_nil ?_
    refine AC_cond (.tmp rfl) (fun hb25 => ?_) (fun hb25 => ?_)
    · try simp only [zA, zO, zN, zM, zP, zQ, zD, zF, gd] at hb25
      have hx := parse_nonum hps (by omega) hil (by simpa using hb25)
      refine AC_seq ?_
      refine AC_region ?_
      refine AL_p rfl rfl (S_build (t := 28) (pl := [(0, 1), (1, 1), (2, 1)]) (zs := [.int .i64 0, .slice none 0 0, .string ⟨#[]⟩]) rfl AEvs.nil (by kernel_rfl) rfl) ?_
      refine AL_step rfl rfl (S_storeW 2 rfl (.tmp rfl) (.tmp rfl) rfl rfl rfl (by kernel_rfl)) ?_
      rintro _ _ ⟨rfl, rfl⟩
      refine AL_p rfl rfl (S_assign rfl (AEv.const _)) ?_
      refine AL_nil ?_
      refine AC_ret ?_
      refine ret_outs st rfl (by decide) (OutsR.row 2 rfl rfl (by kernel_rfl) (OutsR.tmp rfl OutsR.nil)) (Sub.l ((((List.sublist_append_right _ _).cons _).cons _).cons _)) (Conv.le (Sub.l ((((List.sublist_append_right _ _).cons _).cons _).cons _)) (Les.tup (.cons (Les.agg (.cons (Le.refl _) (.cons Le.nils (.cons (Le.refl _) .nil)))) (.cons (Le.refl _) .nil)))) ⟨by rw [hx]; rfl, rfl⟩ (.inl rfl)
    try simp only [zA, zO, zN, zM, zP, zQ, zD, zF, gd] at hb25
    have hok : (parseV (l[i]'hil) 1073741824).2 = true := by simpa using hb25
    refine AC_skip ?_
    refine AC_region ?_
    refine AL_p rfl rfl (S_field 1 rfl (.tmp rfl) (by kernel_rfl)) ?_
    refine AL_p rfl rfl (S_load 1 rfl (.tmp rfl) rfl rfl (by kernel_rfl)) ?_
    refine AL_p rfl rfl (S_move rfl (.tmp rfl)) ?_
    refine AL_p rfl rfl (S_buildSlice (e := 3) 1 rfl (AEvs.cons (.tmp rfl) AEvs.nil) rfl (by kernel_rfl) (by kernel_rfl) (by intro y hy; simp only [List.mem_cons, List.not_mem_nil, or_false] at hy; rcases hy with rfl <;> exact ⟨rfl, rfl⟩) (by decide) (by decide) (by decide)) ?_
    refine AL_step rfl rfl (S_appendM (f := (fun n : Int => AV.int .i64 n)) (l := numsOf (l.take i)) (l2 := [(parseV (l[i]'hil) 1073741824).1]) (e := 3) (size := 1) (bytes := 8) (p := p) ([_, _, _]) (st) rfl (.tmp rfl) (.tmp rfl) rfl hq (by kernel_rfl) (by simp) (fun _ => ⟨rfl, rfl⟩) (by rw [nums_len, List.length_take]; simp only [List.length_singleton]; omega) (by rw [nums_len, List.length_take]; simp only [List.length_singleton]; omega)) ?_
    rintro _ _ ⟨b8, k8, cap8, hx8, rfl, rfl⟩
    refine AL_p rfl rfl (S_field 1 rfl (.tmp rfl) (by kernel_rfl)) ?_
    refine AL_step rfl rfl (S_store 1 rfl (.tmp rfl) (.tmp rfl) rfl (by first | exact Nat.le_of_ble_eq_true rfl | simp) (by first | rfl | exact ownAV_one _ _ _) (by kernel_rfl)) ?_
    rintro _ _ ⟨rfl, rfl⟩
    refine AL_nil ?_
    refine AC_region ?_
    refine AL_p rfl rfl (S_addI rfl (.tmp rfl) (AEv.const _) (by omega) (by omega)) ?_
    refine AL_p rfl rfl (S_move rfl (.tmp rfl)) ?_
    refine AL_nil ?_
    refine ⟨(i + 1, .row b8 k8 cap8), ⟨by dsimp only; omega, by dsimp only; rw [nums_next hil]; exact hx8, fun j hj h => ?_⟩, by dsimp only; omega, by dsimp only; rw [nums_next hil]; exact (Sub.l (List.Sublist.refl _)), (.cons rfl (by first | exact Le.refl _ | exact Le.nils | exact Le.row _ _ _ _ | exact Le.of_eq (by first | rfl | (simp; done) | (push_cast; rfl) | (simp; omega))) .nil), (.cons rfl (Le.refl _) (.cons rfl (Le.refl _) (.cons rfl (Le.refl _) (.cons rfl (Le.refl _) (.cons rfl (Le.refl _) (.cons rfl (Le.refl _) .nil))))))⟩
    rcases Nat.lt_or_ge j i with h9 | h9
    · exact hall j hj h9
    · have e9 : j = i := by dsimp only at h; omega
      subst e9; exact hok
  try simp only [zA, zO, zN, zM, zP, zQ, zD, zF, gd] at hb24
  have hik : i = (verbA (findV w)).2.1.toNat := by omega
  subst hik
  have hcand := parse_cand hps h0 hlk fun j hj h => hall j hj (by omega)
  refine AC_exit ?_
  refine AC_seq ?_
  refine AC_draw (by kernel_rfl) (by kernel_rfl) (.cons rfl (Q_p rfl (S_field 2 rfl (.tmp rfl) (by kernel_rfl))) <|
      .cons rfl (Q_p rfl (S_load 0 rfl (.tmp rfl) rfl rfl (by kernel_rfl))) <|
      .cons rfl (Q_p rfl (S_move rfl (.tmp rfl))) <|
      .cons rfl (Q_p rfl (S_field 1 rfl (.tmp rfl) (by kernel_rfl))) <|
      .cons rfl (Q_p rfl (S_load 0 rfl (.tmp rfl) rfl rfl (by kernel_rfl))) <|
      .cons rfl (Q_p rfl (S_addI rfl (AEv.const _) (.tmp rfl) (by omega) (by omega))) <|
      .cons rfl (Q_p rfl ((S_cutLM (e := 9) (i := 1 + (verbA (findV w)).2.1.toNat) 1 rfl (.tmp rfl) ((AEv.tmp rfl).le (Le.of_eq (congrArg (AV.int _) (by omega)))) (by kernel_rfl) (by kernel_rfl) (fun _ => rfl) (by simp only [List.length_cons]; omega)).ofV (V' := .sl (strsV (l.drop (verbA (findV w)).2.1.toNat))) (congrArg (fun x => AV.sl (strsV x)) (by rw [Nat.add_comm, List.drop_succ_cons])))) <|
      .cons rfl (Q_p rfl (S_pcall rfl (AEvs.cons (.tmp rfl) (AEvs.cons (.tmp rfl) AEvs.nil)) (data_ok (verbA (findV w)).2.2 (l.drop (verbA (findV w)).2.1.toNat) (fun x hx => by have := hpl x (List.mem_cons_of_mem _ (List.mem_of_mem_drop hx)); omega)))) <|
      .cons rfl (Q_p rfl (S_move rfl (.tmp rfl))) <|
      .cons rfl (Q_p rfl (S_extract 0 rfl (.tmp rfl) rfl)) <|
      .cons rfl (Q_p rfl (S_extract 1 rfl (.tmp rfl) rfl)) <|
      .cons rfl (Q_p rfl (S_assign rfl (.tmp rfl))) <|
      .cons rfl (Q_p rfl (S_assign rfl (.tmp rfl))) <|
      .nil) ?_
  refine AC_seq ?_
  refine AC_seq ?_
  refine AC_region ?_
  refine AL_p rfl rfl (S_move rfl (.tmp rfl)) ?_
  refine AL_p rfl rfl (S_field 2 rfl (.tmp rfl) (by kernel_rfl)) ?_
  refine AL_step rfl rfl (S_store 1 rfl (.tmp rfl) (.tmp rfl) rfl (by first | exact Nat.le_of_ble_eq_true rfl | simp) rfl (by kernel_rfl)) ?_
  rintro _ _ ⟨rfl, rfl⟩
  refine AL_nil ?_
  refine AC_seq ?_
  refine AC_region ?_
  refine AL_p rfl rfl (S_move rfl (.tmp rfl)) ?_
  refine AL_p rfl rfl (S_not rfl (.tmp rfl)) ?_
  refine AL_p rfl rfl (S_move rfl (.tmp rfl)) ?_
  refine AL_g rfl rfl (.tmp rfl) rfl (fun hg28 => (S_loadN (m := 3) 1 rfl (.tmp rfl) rfl (by kernel_rfl) (by exact Nat.le_of_ble_eq_true rfl)).leV (V' := entAV (candE w l)) (by exact (Les.agg (.cons (Le.refl _) (.cons (Le_own hq) (.cons (Le.refl _) .nil)))))) ?_
  refine AL_g rfl rfl (.tmp rfl) rfl (fun hg31 => S_gcall rfl (AEvs.cons (AEv.cond (.tmp rfl) (by first | assumption | exact gdAnd (by assumption) (by assumption))) AEvs.nil) ((scr_Right_ok (candE w l) (by show (numsOf _).length ≤ _; rw [nums_len, List.length_take]; omega)) _ (fun p hp => by repeat (first | exact hG p hp | exact hG p (List.mem_cons_of_mem _ hp) | refine List.mem_cons_of_mem _ ?_ | refine List.mem_append_right _ ?_)))) ?_
  refine AL_g rfl rfl (.tmp rfl) rfl (fun hg34 => S_not rfl (AEv.cond (.tmp rfl) (by first | assumption | exact gdAnd (by assumption) (by assumption)))) ?_
  refine AL_p rfl rfl (S_or rfl (.tmp rfl) (fun hp37 => (AEv.cond (.tmp rfl) (by first | assumption | exact gdT hp37 | exact gdF hp37 | exact gdAnd (by assumption) (gdT hp37) | exact gdAnd (by assumption) (gdF hp37))))) ?_
  refine AL_nil ?_
  refine AC_cond (.tmp rfl) (fun hb38 => ?_) (fun hb38 => ?_)
  · try simp only [zA, zO, zN, zM, zP, zQ, zD, zF, gd] at hb38
    have hx : parseE s = none := by rw [hcand, if_neg (fun h => hb38.elim (fun k => by rw [h.1] at k; cases k) (fun k => by rw [h.2] at k; cases k))]
    refine AC_seq ?_
    refine AC_region ?_
    refine AL_p rfl rfl (S_build (t := 28) (pl := [(0, 1), (1, 1), (2, 1)]) (zs := [.int .i64 0, .slice none 0 0, .string ⟨#[]⟩]) rfl AEvs.nil (by kernel_rfl) rfl) ?_
    refine AL_step rfl rfl (S_storeW 2 rfl (.tmp rfl) (.tmp rfl) rfl rfl rfl (by kernel_rfl)) ?_
    rintro _ _ ⟨rfl, rfl⟩
    refine AL_p rfl rfl (S_assign rfl (AEv.const _)) ?_
    refine AL_nil ?_
    refine AC_ret ?_
    refine ret_outs st rfl (by decide) (OutsR.row 2 rfl rfl (by kernel_rfl) (OutsR.tmp rfl OutsR.nil)) (Sub.l ((((List.sublist_append_right _ _).cons _).cons _).cons _)) (Conv.le (Sub.l ((((List.sublist_append_right _ _).cons _).cons _).cons _)) (Les.tup (.cons (Les.agg (.cons (Le.refl _) (.cons Le.nils (.cons (Le.refl _) .nil)))) (.cons (Le.refl _) .nil)))) ⟨by rw [hx]; rfl, rfl⟩ (.inl rfl)
  try simp only [zA, zO, zN, zM, zP, zQ, zD, zF, gd] at hb38
  have hx : parseE s = some (candE w l) := by rw [hcand, if_pos hb38]
  refine AC_skip ?_
  refine AC_seq ?_
  refine AC_region ?_
  refine AL_p rfl rfl ((S_loadN (m := 3) 1 rfl (.tmp rfl) rfl (by kernel_rfl) (by exact Nat.le_of_ble_eq_true rfl)).leV (V' := entAV (candE w l)) (by exact (Les.agg (.cons (Le.refl _) (.cons (Le_own hq) (.cons (Le.refl _) .nil)))))) ?_
  refine AL_step rfl rfl (S_storeW 2 rfl (.tmp rfl) (.tmp rfl) rfl rfl rfl (by kernel_rfl)) ?_
  rintro _ _ ⟨rfl, rfl⟩
  refine AL_p rfl rfl (S_assign rfl (AEv.const _)) ?_
  refine AL_nil ?_
  refine AC_ret ?_
  refine ret_outs st rfl (by decide) (OutsR.row 2 rfl rfl (by kernel_rfl) (OutsR.tmp rfl OutsR.nil)) (Sub.l ((((List.sublist_append_right _ _).cons _).cons _).cons _)) (Conv.refl (Sub.l ((((List.sublist_append_right _ _).cons _).cons _).cons _)) _) ⟨by rw [hx]; rfl, rfl⟩ (.inl rfl)

end Go.Proofs.YtfpkefhjomeeeaaDoor

/-
The walks of Go functions in the logic AL: what each of them answers.
Conditions: those of each theorem.
-/
set_option linter.unusedVariables false
set_option linter.unusedSimpArgs false
namespace Go.Proofs.YtfpkefhjomeeeaaDoor
open Go.AL Go.NumSpec

set_option maxRecDepth 100000 in
/-- provost/script.Read -/
theorem scr_Read_ok (s : List UInt8) (hs : s.length ≤ 1000000) : GCalls Tryd.prog tabs 16 [.S s] (.tup [.sl ((readV s).1.map entAV), erV 29 109 (lineEr (readV s).2)]) := by
  intro st hG
  refine ACalls_of (N := 44) Tryd.func16 (by kernel_rfl) rfl rfl rfl ?_
  have hpl := partsB_le 10 s
  have hpc := parts_few 10 s
  have hel0 := ents_len
  refine AC_seq ?_
  refine AC_region ?_
  refine AL_p rfl rfl (S_assign rfl (AEv.const _)) ?_
  refine AL_p rfl rfl (S_assign rfl (AEv.const _)) ?_
  refine AL_nil ?_
  refine AC_seq ?_
  refine AC_region ?_
  refine AL_p rfl rfl (S_assign rfl (AEv.const _)) ?_
  refine AL_nil ?_
  refine AC_seq ?_
  refine AC_seq ?_
  refine AC_region ?_
  refine AL_p rfl rfl (S_move rfl (.tmp rfl)) ?_
  refine AL_p rfl rfl (S_pcall rfl (AEvs.cons (.tmp rfl) (AEvs.cons (AEv.S _) AEvs.nil)) (strings_Split_ok s 10 (by omega))) ?_
  refine AL_p rfl rfl (by first | exact S_lenM (e := 9) rfl (.tmp rfl) (by kernel_rfl) | exact S_len (e := 9) rfl (.tmp rfl) (by kernel_rfl)) ?_
  refine AL_p rfl rfl (S_move rfl (AEv.const _)) ?_
  refine AL_nil ?_
  refine AC_block ?_
  refine AC_loopK (G := Nat × Own) [(10, _), (11, _)] (fun g => g.1 ≤ (partsB 10 s).length ∧ g.2.ok ((entsOf ((partsB 10 s).take g.1)).map entAV) ∧ ∀ j (hj : j < (partsB 10 s).length), j < g.1 → badB (partsB 10 s)[j] = false) (fun g => [(4, ownAV g.2 3 ((entsOf ((partsB 10 s).take g.1)).map entAV)), (12, .int .i64 (g.1 : Int))]) (fun g => ownSt g.2 28 3 ((entsOf ((partsB 10 s).take (g.1))).map entAV) ++ st) (fun g => (partsB 10 s).length - g.1) ((0, .nil)) (⟨Nat.zero_le _, rfl, fun j _ h => absurd h (Nat.not_lt_zero _)⟩) (Sub.l (List.Sublist.refl _)) (.cons rfl (Le.refl _) (.cons rfl (Le.refl _) .nil)) (.cons rfl (by first | exact Le.refl _ | exact Le.nils | exact Le.row _ _ _ _ | exact Le.of_eq (by first | rfl | (simp; done) | (push_cast; rfl) | (simp; omega))) (.cons rfl (by first | exact Le.refl _ | exact Le.nils | exact Le.row _ _ _ _ | exact Le.of_eq (by first | rfl | (simp; done) | (push_cast; rfl) | (simp; omega))) .nil)) ?_
  rintro ⟨i, p⟩ ⟨hi, hq, hall⟩
  try dsimp only
  simp only [List.cons_append, List.nil_append]
  dsimp only at hi hq hall
  have hel := hel0 ((partsB 10 s).take i)
  rw [List.length_take] at hel
  refine AC_seq ?_
  refine AC_region ?_
  refine AL_p rfl rfl (S_lss rfl (.tmp rfl) (.tmp rfl)) ?_
  refine AL_nil ?_
  refine AC_seq ?_
  refine AC_cond (.tmp rfl) (fun hb1 => ?_) (fun hb1 => ?_)
  · try simp only [zA, zO, zN, zM, zP, zQ, zD, zF, gd] at hb1
    have hil : i < (partsB 10 s).length := by omega
    refine AC_skip ?_
    refine AC_seq ?_
    refine AC_block ?_
    refine AC_seq ?_
    refine AC_region ?_
    refine AL_p rfl rfl (S_move rfl (.tmp rfl)) ?_
    refine AL_p rfl rfl (S_elemN (e := 9) 1 rfl (.tmp rfl) (.tmp rfl) (by kernel_rfl) (by kernel_rfl) (by omega) (fun _ => rfl)) ?_
    refine AL_p rfl rfl (S_loadP rfl (.tmp rfl) rfl (by kernel_rfl)) ?_
    refine AL_p rfl rfl (S_assign rfl (.tmp rfl)) ?_
    refine AL_p rfl rfl (S_assign rfl (.tmp rfl)) ?_
    refine AL_nil ?_
    refine AC_seq ?_
    refine AC_seq ?_
    refine AC_region ?_
    refine AL_p rfl rfl (S_move rfl (.tmp rfl)) ?_
    refine AL_p rfl rfl (S_eqS rfl (.tmp rfl) (AEv.S _)) ?_
    refine AL_p rfl rfl (S_move rfl (.tmp rfl)) ?_
    refine AL_g rfl rfl (.tmp rfl) rfl (fun hg2 => S_move rfl (.tmp rfl)) ?_
    refine AL_g rfl rfl (.tmp rfl) rfl (fun hg5 => S_index rfl (AEv.cond (.tmp rfl) (by first | assumption | exact gdAnd (by assumption) (by assumption))) (AEv.const _) (by kernel_rfl) (by omega) (by (try simp only [gd, Bool.not_eq_true', Bool.not_eq_false', decide_eq_true_eq, decide_eq_false_iff_not] at *); exact Int.natCast_pos.2 (List.length_pos_iff.2 (by assumption)))) ?_
    refine AL_g rfl rfl (.tmp rfl) rfl (fun hg8 => S_eql rfl (AEv.cond (.tmp rfl) (by first | assumption | exact gdAnd (by assumption) (by assumption))) (AEv.const _)) ?_
    refine AL_p rfl rfl (S_or rfl (.tmp rfl) (fun hp11 => (AEv.cond (.tmp rfl) (by first | assumption | exact gdT hp11 | exact gdF hp11 | exact gdAnd (by assumption) (gdT hp11) | exact gdAnd (by assumption) (gdF hp11))))) ?_
    refine AL_nil ?_
    refine AC_cond (.tmp rfl) (fun hb12 => ?_) (fun hb12 => ?_)
    · try simp only [zA, zO, zN, zM, zP, zQ, zD, zF, gd] at hb12
      have hsk : skipB ((partsB 10 s)[i]'hil) = true := skip_yes hb12
      refine AC_exit ?_
      refine AC_region ?_
      refine AL_p rfl rfl (S_addI rfl (.tmp rfl) (AEv.const _) (by omega) (by omega)) ?_
      refine AL_p rfl rfl (S_move rfl (.tmp rfl)) ?_
      refine AL_nil ?_
      refine ⟨(i + 1, p), ⟨by dsimp only; omega, by dsimp only; rw [ents_skip hil hsk]; exact hq, fun j hj h => ?_⟩, by dsimp only; omega, by dsimp only; rw [ents_skip hil hsk]; exact (Sub.l (List.Sublist.refl _)), (.cons rfl (Le.of_eq (by dsimp only; first | rw [ents_skip hil hsk] | rw [ents_nextD hil hsk hso])) (.cons rfl (by first | exact Le.refl _ | exact Le.nils | exact Le.row _ _ _ _ | exact Le.of_eq (by first | rfl | (simp; done) | (push_cast; rfl) | (simp; omega))) .nil)), (.cons rfl (Le.refl _) (.cons rfl (Le.refl _) .nil))⟩
      rcases Nat.lt_or_ge j i with h9 | h9
      · exact hall j hj h9
      · have e9 : j = i := by dsimp only at h; omega
        subst e9; exact bad_skip hsk
    try simp only [zA, zO, zN, zM, zP, zQ, zD, zF, gd] at hb12
    have hsk : ¬ skipB ((partsB 10 s)[i]'hil) = true := skip_no hb12.1 hb12.2
    refine AC_skip ?_
    refine AC_seq ?_
    refine AC_region ?_
    refine AL_p rfl rfl (S_move rfl (.tmp rfl)) ?_
    refine AL_p rfl rfl (S_gcall rfl (AEvs.cons (.tmp rfl) AEvs.nil) ((scr_Parse_ok ((partsB 10 s)[i]'hil) (by have := hpl _ (List.getElem_mem hil); omega)) _ (fun p hp => by repeat (first | exact hG p hp | exact hG p (List.mem_cons_of_mem _ hp) | refine List.mem_cons_of_mem _ ?_ | refine List.mem_append_right _ ?_)))) ?_
    refine AL_p rfl rfl (S_move rfl (.tmp rfl)) ?_
    refine AL_p rfl rfl (S_extract 0 rfl (.tmp rfl) rfl) ?_
    refine AL_p rfl rfl (S_extract 1 rfl (.tmp rfl) rfl) ?_
    refine AL_step rfl rfl (S_alloc [.int .i64 0, .slice none 0 0, .string ⟨#[]⟩] rfl (by kernel_rfl)) ?_
    rintro _ _ ⟨b7, rfl, rfl⟩
    refine AL_step rfl rfl (S_storeW 0 rfl (.tmp rfl) (.tmp rfl) rfl rfl rfl (by kernel_rfl)) ?_
    rintro _ _ ⟨rfl, rfl⟩
    refine AL_p rfl rfl (S_assign rfl (.tmp rfl)) ?_
    refine AL_nil ?_
    refine AC_seq ?_
    refine AC_seq ?_
    refine AC_region ?_
    refine AL_p rfl rfl (S_move rfl (.tmp rfl)) ?_
    refine AL_p rfl rfl (S_neq rfl (.tmp rfl) (AEv.const _)) ?_
    refine AL_nil ?_
    refine AC_cond (.tmp rfl) (fun hb14 => ?_) (fun hb14 => ?_)
    · try simp only [zA, zO, zN, zM, zP, zQ, zD, zF, gd] at hb14
      have hno := code_none hb14
      have hx : readV s = ([], i + 1) := by
        have h9 := bad_hit hil (bad_yes hsk hno) fun j hj h => hall j hj h
        unfold readV; rw [h9, if_neg (by omega)]
      refine AC_seq ?_
      refine AC_region ?_
      refine AL_p rfl rfl (S_move rfl (.tmp rfl)) ?_
      refine AL_p rfl rfl (S_move rfl (.tmp rfl)) ?_
      refine AL_p rfl rfl (S_addI rfl (.tmp rfl) (AEv.const _) (by omega) (by omega)) ?_
      refine AL_p rfl rfl (S_pcall rfl (AEvs.cons (.tmp rfl) AEvs.nil) (num_Text_ok ((i : Int) + 1) ⟨by omega, by omega⟩)) ?_
      refine AL_p rfl rfl (S_cat rfl (AEv.S _) (.tmp rfl) (by first | omega | (have := textL_len (a := (i : Int) + 1) ⟨by omega, by omega⟩; simp only [List.length_cons, List.length_nil]; omega))) ?_
      refine AL_p rfl rfl (S_buildSlice (e := 9) 1 rfl (AEvs.cons (.tmp rfl) AEvs.nil) rfl (by kernel_rfl) (by kernel_rfl) (by intro y hy; simp only [List.mem_cons, List.not_mem_nil, or_false] at hy; rcases hy with rfl <;> exact ⟨rfl, rfl⟩) (by decide) (by decide) (by decide)) ?_
      refine AL_p rfl rfl (S_pcall rfl (AEvs.cons (y := .int .i64 460) ((AEv.tmp rfl).le (Le.of_eq (by rw [hno]; rfl))) (AEvs.cons (.tmp rfl) AEvs.nil)) (fail_New_ok 460 [[108, 105, 110, 101, 32] ++ textL ((i : Int) + 1)] (by simp))) ?_
      refine AL_p rfl rfl (S_assign rfl (AEv.const _)) ?_
      refine AL_p rfl rfl (S_assign rfl (.tmp rfl)) ?_
      refine AL_nil ?_
      refine AC_ret ?_
      refine ret_tmps (ts := [2, 3]) st rfl (by decide) rfl (Sub.l ((List.sublist_append_right _ _).cons _)) (Conv.le (Sub.l ((List.sublist_append_right _ _).cons _)) (Les.tup (.cons Le.nils (.cons (Le.refl _) .nil)))) ⟨by rw [hx]; rfl, rfl⟩ (.inl rfl)
    try simp only [zA, zO, zN, zM, zP, zQ, zD, zF, gd] at hb14
    have hso := code_some hb14
    refine AC_skip ?_
    refine AC_region ?_
    refine AL_p rfl rfl (S_move rfl (.tmp rfl)) ?_
    refine AL_p rfl rfl (S_loadN (m := 3) 0 rfl (.tmp rfl) rfl (by kernel_rfl) (by first | exact Nat.le_of_ble_eq_true rfl | (simp; omega) | simp)) ?_
    refine AL_p rfl rfl (S_buildSlice (e := 28) 3 rfl (AEvs.cons (.tmp rfl) AEvs.nil) rfl (by kernel_rfl) (by kernel_rfl) (by intro y hy; simp only [List.mem_cons, List.not_mem_nil, or_false] at hy; rcases hy with rfl <;> exact ⟨rfl, rfl⟩) (by decide) (by decide) (by decide)) ?_
    refine AL_step rfl rfl (S_appendM (f := entAV) (l := entsOf ((partsB 10 s).take i)) (l2 := [((parseE ((partsB 10 s)[i]'hil)).getD ent0)]) (e := 28) (size := 3) (bytes := 48) (p := p) ([_]) (st) rfl (.tmp rfl) (.tmp rfl) rfl hq (by kernel_rfl) (by simp) (fun _ => ⟨rfl, rfl⟩) (by simp only [List.length_singleton]; omega) (by simp only [List.length_singleton]; omega)) ?_
    rintro _ _ ⟨b8, k8, cap8, hx8, rfl, rfl⟩
    refine AL_p rfl rfl (S_assign rfl (.tmp rfl)) ?_
    refine AL_nil ?_
    refine AC_region ?_
    refine AL_p rfl rfl (S_addI rfl (.tmp rfl) (AEv.const _) (by omega) (by omega)) ?_
    refine AL_p rfl rfl (S_move rfl (.tmp rfl)) ?_
    refine AL_nil ?_
    refine ⟨(i + 1, .row b8 k8 cap8), ⟨by dsimp only; omega, by dsimp only; rw [ents_nextD hil hsk hso]; exact hx8, fun j hj h => ?_⟩, by dsimp only; omega, by dsimp only; rw [ents_nextD hil hsk hso]; exact (Sub.l (List.sublist_cons_self _ _)), (.cons rfl (Le.of_eq (by dsimp only; first | rw [ents_skip hil hsk] | rw [ents_nextD hil hsk hso])) (.cons rfl (by first | exact Le.refl _ | exact Le.nils | exact Le.row _ _ _ _ | exact Le.of_eq (by first | rfl | (simp; done) | (push_cast; rfl) | (simp; omega))) .nil)), (.cons rfl (Le.refl _) (.cons rfl (Le.refl _) .nil))⟩
    rcases Nat.lt_or_ge j i with h9 | h9
    · exact hall j hj h9
    · have e9 : j = i := by dsimp only at h; omega
      subst e9; exact bad_some hso
  try simp only [zA, zO, zN, zM, zP, zQ, zD, zF, gd] at hb1
  have hx : readV s = (entsOf (partsB 10 s), 0) := by
    have h9 := bad_none (ls := (partsB 10 s)) fun j hj => hall j hj (by omega)
    unfold readV; rw [h9, if_pos rfl]
  rw [List.take_of_length_le (by omega)] at hq ⊢
  refine AC_exit ?_
  refine AC_seq ?_
  refine AC_region ?_
  refine AL_p rfl rfl (S_move rfl (.tmp rfl)) ?_
  refine AL_p rfl rfl (S_assign rfl (.tmp rfl)) ?_
  refine AL_p rfl rfl (S_assign rfl (AEv.const _)) ?_
  refine AL_nil ?_
  refine AC_ret ?_
  refine ret_tmps (ts := [2, 3]) st rfl (by decide) rfl (Sub.l (List.sublist_append_right _ _)) (Conv.le (Sub.l (List.sublist_append_right _ _)) (Les.tup (.cons (Le_own hq) (.cons (Le.refl _) .nil)))) ⟨by rw [hx]; rfl, rfl⟩ (.inl rfl)

set_option maxRecDepth 100000 in
/-- provost/script.Write -/
theorem scr_Write_ok (l : List Ent) (hl : l.length ≤ 1000) (hls : ∀ e ∈ l, e.n.length ≤ 1000000) : GCalls Tryd.prog tabs 17 [.sl (l.map entAV)] (.S (writeV l)) := by
  intro st hG
  refine ACalls_of (N := 20) Tryd.func17 (by kernel_rfl) rfl rfl rfl ?_
  refine AC_seq ?_
  refine AC_region ?_
  refine AL_p rfl rfl (S_assign rfl (AEv.S _)) ?_
  refine AL_nil ?_
  refine AC_seq ?_
  refine AC_region ?_
  refine AL_step rfl rfl (S_allocB (e := 77) [.slice none 0 0] rfl (by kernel_rfl)) ?_
  rintro _ _ ⟨b3, rfl, rfl⟩
  refine AL_nil ?_
  refine AC_seq ?_
  refine AC_seq ?_
  refine AC_region ?_
  refine AL_p rfl rfl (S_move rfl (.tmp rfl)) ?_
  refine AL_p rfl rfl (by first | exact S_lenM (e := 28) rfl (.tmp rfl) (by kernel_rfl) | exact S_len (e := 28) rfl (.tmp rfl) (by kernel_rfl)) ?_
  refine AL_p rfl rfl (S_move rfl (AEv.const _)) ?_
  refine AL_nil ?_
  refine AC_block ?_
  refine AC_loopK (G := Nat × Bool × Buf) [(2, _), (3, _), (6, _), (7, _)] (fun g => g.1 ≤ l.length ∧ g.2.2.ok (writeV (l.take g.1))) (fun g => [(8, .int .i64 (g.1 : Int))]) (fun g => (b3, .cells (addrB g.2.1 b3 77 2 :: bufAV g.2.2 (writeV (l.take g.1)) :: [])) :: (bufSt g.2.2 5 (writeV (l.take g.1)) ++ st)) (fun g => l.length - g.1) ((0, false, .nil)) (⟨Nat.zero_le _, rfl⟩) (Sub.l (List.Sublist.refl _)) (.cons rfl (Le.refl _) (.cons rfl (Le.refl _) (.cons rfl (Le.refl _) (.cons rfl (Le.refl _) .nil)))) (.cons rfl (by first | exact Le.refl _ | exact Le.nils | exact Le.row _ _ _ _ | exact Le.of_eq (by first | rfl | (simp; done) | (push_cast; rfl) | (simp; omega))) .nil) ?_
  rintro ⟨i, u, q⟩ ⟨hi, hq⟩
  try dsimp only
  simp only [List.cons_append, List.nil_append]
  dsimp only at hi hq
  have hwl := write_len (l.take i)
  rw [List.length_take] at hwl
  refine AC_seq ?_
  refine AC_region ?_
  refine AL_p rfl rfl (S_lss rfl (.tmp rfl) (.tmp rfl)) ?_
  refine AL_nil ?_
  refine AC_seq ?_
  refine AC_cond (.tmp rfl) (fun hb1 => ?_) (fun hb1 => ?_)
  · try simp only [zA, zO, zN, zM, zP, zQ, zD, zF, gd] at hb1
    have hil : i < l.length := by omega
    have hll := lineV_len (l[i]'hil)
    have hx3 := hls _ (List.getElem_mem hil)
    refine AC_skip ?_
    refine AC_seq ?_
    refine AC_block ?_
    refine AC_seq ?_
    refine AC_region ?_
    refine AL_p rfl rfl (S_elemN (e := 28) 3 rfl (.tmp rfl) (.tmp rfl) (by kernel_rfl) (by kernel_rfl) (by omega) (fun _ => rfl)) ?_
    refine AL_p rfl rfl (S_loadPN (m := 3) rfl (.tmp rfl) (by kernel_rfl) (by first | exact Nat.le_of_ble_eq_true rfl | (simp; omega) | simp)) ?_
    refine AL_step rfl rfl (S_alloc [.int .i64 0, .slice none 0 0, .string ⟨#[]⟩] rfl (by kernel_rfl)) ?_
    rintro _ _ ⟨b5, rfl, rfl⟩
    refine AL_step rfl rfl (S_storeW 0 rfl (.tmp rfl) (.tmp rfl) rfl rfl rfl (by kernel_rfl)) ?_
    rintro _ _ ⟨rfl, rfl⟩
    refine AL_nil ?_
    refine AC_seq ?_
    refine AC_region ?_
    refine AL_p rfl rfl (S_loadN (m := 3) 0 rfl (.tmp rfl) rfl (by kernel_rfl) (by first | exact Nat.le_of_ble_eq_true rfl | (simp; omega) | simp)) ?_
    refine AL_p rfl rfl (S_gcall rfl (AEvs.cons (.tmp rfl) AEvs.nil) ((scr_Right_ok (l[i]'hil) (hls _ (List.getElem_mem hil))) _ (fun p hp => by repeat (first | exact hG p hp | exact hG p (List.mem_cons_of_mem _ hp) | refine List.mem_cons_of_mem _ ?_ | refine List.mem_append_right _ ?_)))) ?_
    refine AL_nil ?_
    refine AC_cond (.tmp rfl) (fun hb3 => ?_) (fun hb3 => ?_)
    · try simp only [zA, zO, zN, zM, zP, zQ, zD, zF, gd] at hb3
      have hr : rightB (l[i]'hil) = true := hb3
      have hle : lineV (l[i]'hil) = lineE (l[i]'hil) := by unfold lineV; rw [if_pos hr]
      refine AC_region ?_
      refine AL_p rfl rfl (S_loadN (m := 3) 0 rfl (.tmp rfl) rfl (by kernel_rfl) (by first | exact Nat.le_of_ble_eq_true rfl | (simp; omega) | simp)) ?_
      refine AL_p rfl rfl (S_gcall rfl (AEvs.cons (.tmp rfl) AEvs.nil) ((scr_Line_ok (l[i]'hil) (hls _ (List.getElem_mem hil))) _ (fun p hp => by repeat (first | exact hG p hp | exact hG p (List.mem_cons_of_mem _ hp) | refine List.mem_cons_of_mem _ ?_ | refine List.mem_append_right _ ?_)))) ?_
      refine AL_p rfl rfl (S_cat rfl (.tmp rfl) (AEv.S _) (by first | omega | (simp only [List.length_cons, List.length_nil]; omega))) ?_
      refine AL_step rfl rfl (S_call rfl (AEvs.cons (.tmp rfl) (AEvs.cons (.tmp rfl) AEvs.nil)) (ACalls.pre (fun F => WriteString_ok b3 u q (writeV (l.take i)) (lineV (l[i]'hil) ++ [10]) 77 2 [] hq (by simp only [List.length_append, List.length_singleton]; omega) (by decide) (by kernel_rfl) F) [(b5, _)] st)) ?_
      rintro _ _ ⟨_, ⟨q2, hq2, rfl, rfl⟩, rfl⟩
      refine AL_nil ?_
      refine AC_region ?_
      refine AL_p rfl rfl (S_addI rfl (.tmp rfl) (AEv.const _) (by omega) (by omega)) ?_
      refine AL_p rfl rfl (S_move rfl (.tmp rfl)) ?_
      refine AL_nil ?_
      refine ⟨(i + 1, true, q2), ⟨by dsimp only; omega, by dsimp only; rw [write_next hil, if_pos hr, ← hle]; exact hq2⟩, by dsimp only; omega, ?_, (.cons rfl (by first | exact Le.refl _ | exact Le.nils | exact Le.row _ _ _ _ | exact Le.of_eq (by first | rfl | (simp; done) | (push_cast; rfl) | (simp; omega))) .nil), (.cons rfl (Le.refl _) (.cons rfl (Le.refl _) (.cons rfl (Le.refl _) (.cons rfl (Le.refl _) .nil))))⟩
      dsimp only
      rw [write_next hil, if_pos hr, ← hle]
      exact (Sub.l (List.sublist_cons_self _ _))
    try simp only [zA, zO, zN, zM, zP, zQ, zD, zF, gd] at hb3
    have hr : ¬ rightB (l[i]'hil) = true := by simpa using hb3
    refine AC_skip ?_
    refine AC_region ?_
    refine AL_p rfl rfl (S_addI rfl (.tmp rfl) (AEv.const _) (by omega) (by omega)) ?_
    refine AL_p rfl rfl (S_move rfl (.tmp rfl)) ?_
    refine AL_nil ?_
    refine ⟨(i + 1, u, q), ⟨by dsimp only; omega, by dsimp only; rw [write_next hil, if_neg hr, List.append_nil]; exact hq⟩, by dsimp only; omega, ?_, (.cons rfl (by first | exact Le.refl _ | exact Le.nils | exact Le.row _ _ _ _ | exact Le.of_eq (by first | rfl | (simp; done) | (push_cast; rfl) | (simp; omega))) .nil), (.cons rfl (Le.refl _) (.cons rfl (Le.refl _) (.cons rfl (Le.refl _) (.cons rfl (Le.refl _) .nil))))⟩
    dsimp only
    rw [write_next hil, if_neg hr, List.append_nil]
    exact (Sub.l (List.sublist_cons_self _ _))
  try simp only [zA, zO, zN, zM, zP, zQ, zD, zF, gd] at hb1
  have hx : l.take i = l := List.take_of_length_le (by omega)
  rw [hx] at hq ⊢
  refine AC_exit ?_
  refine AC_seq ?_
  refine AC_region ?_
  refine AL_step rfl rfl (S_call rfl (AEvs.cons (.tmp rfl) AEvs.nil) (String_ok b3 q (writeV l) _ [] hq st)) ?_
  rintro _ _ ⟨_, ⟨rfl, rfl⟩, rfl⟩
  refine AL_p rfl rfl (S_assign rfl (.tmp rfl)) ?_
  refine AL_nil ?_
  refine AC_ret ?_
  refine ret_tmp st rfl rfl (Sub.l (List.sublist_cons_self _ _)) (Conv.refl (Sub.l (List.sublist_cons_self _ _)) _) ⟨rfl, rfl⟩ (.inl rfl)

end Go.Proofs.YtfpkefhjomeeeaaDoor

/-
The walks of Go functions in the logic AL: what each of them answers.
Conditions: those of each theorem.
-/
set_option linter.unusedVariables false
set_option linter.unusedSimpArgs false
namespace Go.Proofs.YtfpkefhjomeeeaaDoor
open Go.AL Go.NumSpec

set_option maxRecDepth 100000 in
/-- provost/provostref45.Line -/
theorem ref45_Line_ok (e : Ent) (hr : rightB e = true) : PCalls Tryd.prog 9 [entAV e] (.S (lineE e)) := by
  intro st
  refine ACalls_of (N := 63) Tryd.func9 (by kernel_rfl) rfl rfl rfl ?_
  obtain ⟨hv1, hv2, hv3, hv4, hv5⟩ := right_spec hr
  have hdl := data_len hr
  have hnl := n_len hr
  have hwl : (wordsB.getD e.verb.toNat []).length ≤ 7 := by rw [words_at]; exact (verb_facts (n := e.verb.toNat) (by omega)).2.2.1
  have hw0 := lineN_zero e
  have hfits := right_fits hr
  refine AC_seq ?_
  refine AC_region ?_
  refine AL_step rfl rfl (S_box rfl (.tmp rfl)) ?_
  rintro _ _ ⟨b1, rfl, rfl⟩
  refine AL_p rfl rfl (S_assign rfl (AEv.S _)) ?_
  refine AL_nil ?_
  refine AC_seq ?_
  refine AC_draw (by kernel_rfl) (by kernel_rfl) (.cons rfl (Q_p rfl (S_pcall rfl AEvs.nil (ref45_words_ok))) <|
      .cons rfl (Q_p rfl (S_field 0 rfl (.tmp rfl) (by kernel_rfl))) <|
      .cons rfl (Q_p rfl (S_load 0 rfl (.tmp rfl) rfl rfl (by kernel_rfl))) <|
      .cons rfl (Q_p rfl (S_elemD (e := 9) (i := e.verb.toNat) (f := AV.S) (l := wordsB) ([] : List UInt8) 1 rfl (.tmp rfl) ((AEv.tmp rfl).le (Le.of_eq (congrArg (AV.int _) (by omega)))) (by kernel_rfl) (by kernel_rfl) (by rw [show wordsB.length = 24 from rfl]; omega) (fun _ => rfl))) <|
      .cons rfl (Q_p rfl (S_loadP rfl (.tmp rfl) rfl (by kernel_rfl))) <|
      .cons rfl (Q_p rfl (S_assign rfl (.tmp rfl))) <|
      .nil) ?_
  refine AC_seq ?_
  refine AC_seq ?_
  refine AC_region ?_
  refine AL_p rfl rfl (S_assign rfl (AEv.const _)) ?_
  refine AL_nil ?_
  refine AC_block ?_
  refine AC_loopK (G := Nat) [(1, _), (2, _)] (fun g => g ≤ e.n.length) (fun g => [(3, .S (lineN e g)), (4, .int .i64 (g : Int))]) (fun g => (b1, .cells (entL e)) :: st) (fun g => e.n.length - g) (0) (Nat.zero_le _) (Sub.l (List.Sublist.refl _)) (.cons rfl (Le.refl _) (.cons rfl (Le.refl _) .nil)) (.cons rfl (Le.of_eq (congrArg AV.S (by rw [hw0]; exact words_get))) (.cons rfl (by first | exact Le.refl _ | exact Le.nils | exact Le.row _ _ _ _ | exact Le.of_eq (by first | rfl | (simp; done) | (push_cast; rfl) | (simp; omega))) .nil)) ?_
  rintro i hi
  try dsimp only
  simp only [List.cons_append, List.nil_append]
  have hln := lineN_len hr i
  refine AC_seq ?_
  refine AC_seq ?_
  refine AC_region ?_
  refine AL_p rfl rfl (S_move rfl (.tmp rfl)) ?_
  refine AL_p rfl rfl (S_field 1 rfl (.tmp rfl) (by kernel_rfl)) ?_
  refine AL_p rfl rfl (S_load 0 rfl (.tmp rfl) rfl rfl (by kernel_rfl)) ?_
  refine AL_p rfl rfl (by first | exact S_lenM (e := 3) rfl (.tmp rfl) (by kernel_rfl) | exact S_len (e := 3) rfl (.tmp rfl) (by kernel_rfl)) ?_
  refine AL_p rfl rfl (S_lss rfl (.tmp rfl) (.tmp rfl)) ?_
  refine AL_nil ?_
  refine AC_cond (.tmp rfl) (fun hb2 => ?_) (fun hb2 => ?_)
  · try simp only [zA, zO, zN, zM, zP, zQ, zD, zF, gd] at hb2
    have hil : i < e.n.length := by omega
    have hnt := textL_len (hfits _ (List.getElem_mem hil))
    refine AC_skip ?_
    refine AC_seq ?_
    refine AC_block ?_
    refine AC_region ?_
    refine AL_p rfl rfl (S_move rfl (.tmp rfl)) ?_
    refine AL_p rfl rfl (S_cat rfl (.tmp rfl) (AEv.S _) (by first | omega | (simp only [List.length_append, List.length_cons, List.length_nil]; omega) | (have := toHex_len (e.data.take k); rw [List.length_take] at this; simp only [List.length_append, List.length_cons, List.length_nil]; omega))) ?_
    refine AL_p rfl rfl (S_field 1 rfl (.tmp rfl) (by kernel_rfl)) ?_
    refine AL_p rfl rfl (S_load 0 rfl (.tmp rfl) rfl rfl (by kernel_rfl)) ?_
    refine AL_p rfl rfl (S_move rfl (.tmp rfl)) ?_
    refine AL_p rfl rfl (S_elemN (e := 3) 1 rfl (.tmp rfl) (.tmp rfl) (by kernel_rfl) (by kernel_rfl) (by omega) (fun _ => rfl)) ?_
    refine AL_p rfl rfl (S_loadP rfl (.tmp rfl) rfl (by kernel_rfl)) ?_
    refine AL_p rfl rfl (S_pcall rfl (AEvs.cons (.tmp rfl) AEvs.nil) (ref_Text_ok (e.n[i]'hil) (hfits _ (List.getElem_mem hil)))) ?_
    refine AL_p rfl rfl (S_cat rfl (.tmp rfl) (.tmp rfl) (by first | omega | (simp only [List.length_append, List.length_cons, List.length_nil]; omega) | (have := toHex_len (e.data.take k); rw [List.length_take] at this; simp only [List.length_append, List.length_cons, List.length_nil]; omega))) ?_
    refine AL_p rfl rfl (S_assign rfl (.tmp rfl)) ?_
    refine AL_nil ?_
    refine AC_region ?_
    refine AL_p rfl rfl (S_move rfl (.tmp rfl)) ?_
    refine AL_p rfl rfl (S_addI rfl (.tmp rfl) (AEv.const _) (by omega) (by omega)) ?_
    refine AL_p rfl rfl (S_assign rfl (.tmp rfl)) ?_
    refine AL_nil ?_
    exact ⟨i + 1, by omega, by omega, (Sub.l (List.Sublist.refl _)), (.cons rfl (Le.of_eq (congrArg AV.S (lineN_next hil).symm)) (.cons rfl (by first | exact Le.refl _ | exact Le.nils | exact Le.row _ _ _ _ | exact Le.of_eq (by first | rfl | (simp; done) | (push_cast; rfl) | (simp; omega))) .nil)), (.cons rfl (Le.refl _) (.cons rfl (Le.refl _) .nil))⟩
  try simp only [zA, zO, zN, zM, zP, zQ, zD, zF, gd] at hb2
  have hia : e.n.length ≤ i := by omega
  refine AC_exit ?_
  refine AC_seq ?_
  refine AC_seq ?_
  refine AC_region ?_
  refine AL_p rfl rfl (S_field 0 rfl (.tmp rfl) (by kernel_rfl)) ?_
  refine AL_p rfl rfl (S_load 0 rfl (.tmp rfl) rfl rfl (by kernel_rfl)) ?_
  refine AL_p rfl rfl (S_eql rfl (.tmp rfl) (AEv.const _)) ?_
  refine AL_nil ?_
  refine AC_cond (.tmp rfl) (fun hb3 => ?_) (fun hb3 => ?_)
  · try simp only [zA, zO, zN, zM, zP, zQ, zD, zF, gd] at hb3
    have hk1 := (kind_hex hv1 hv2).2 hb3
    refine AC_seq ?_
    refine AC_region ?_
    refine AL_p rfl rfl (S_move rfl (.tmp rfl)) ?_
    refine AL_p rfl rfl (S_cat rfl (.tmp rfl) (AEv.S _) (by first | omega | (simp only [List.length_append, List.length_cons, List.length_nil]; omega) | (have := toHex_len (e.data.take k); rw [List.length_take] at this; simp only [List.length_append, List.length_cons, List.length_nil]; omega))) ?_
    refine AL_p rfl rfl (S_assign rfl (.tmp rfl)) ?_
    refine AL_nil ?_
    refine AC_seq ?_
    refine AC_region ?_
    refine AL_p rfl rfl (S_assign rfl (AEv.const _)) ?_
    refine AL_nil ?_
    refine AC_block ?_
    refine AC_loopK (G := Nat) [(1, _), (2, _)] (fun g => g ≤ e.data.length) (fun g => [(3, .S ((lineN e i ++ [32]) ++ toHexL (e.data.take g))), (5, .int .i64 (g : Int))]) (fun g => (b1, .cells (entL e)) :: st) (fun g => e.data.length - g) (0) (Nat.zero_le _) (Sub.l (List.Sublist.refl _)) (.cons rfl (Le.refl _) (.cons rfl (Le.refl _) .nil)) (.cons rfl (Le.of_eq (congrArg AV.S (by simp [toHexL]))) (.cons rfl (by first | exact Le.refl _ | exact Le.nils | exact Le.row _ _ _ _ | exact Le.of_eq (by first | rfl | (simp; done) | (push_cast; rfl) | (simp; omega))) .nil)) ?_
    rintro k hkk
    try dsimp only
    simp only [List.cons_append, List.nil_append]
    have htl := toHex_len (e.data.take k)
    rw [List.length_take] at htl
    refine AC_seq ?_
    refine AC_seq ?_
    refine AC_region ?_
    refine AL_p rfl rfl (S_move rfl (.tmp rfl)) ?_
    refine AL_p rfl rfl (S_field 2 rfl (.tmp rfl) (by kernel_rfl)) ?_
    refine AL_p rfl rfl (S_load 0 rfl (.tmp rfl) rfl rfl (by kernel_rfl)) ?_
    refine AL_p rfl rfl (S_lenS (ts := #[]) rfl (.tmp rfl) (by kernel_rfl)) ?_
    refine AL_p rfl rfl (S_lss rfl (.tmp rfl) (.tmp rfl)) ?_
    refine AL_nil ?_
    refine AC_cond (.tmp rfl) (fun hb4 => ?_) (fun hb4 => ?_)
    · try simp only [zA, zO, zN, zM, zP, zQ, zD, zF, gd] at hb4
      have hkd : k < e.data.length := by omega
      have hc := (e.data[k]'hkd).toNat_lt
      refine AC_skip ?_
      refine AC_seq ?_
      refine AC_block ?_
      refine AC_draw (by kernel_rfl) (by kernel_rfl) (.cons rfl (Q_p rfl (S_move rfl (.tmp rfl))) <|
          .cons rfl (Q_p rfl (S_field 2 rfl (.tmp rfl) (by kernel_rfl))) <|
          .cons rfl (Q_p rfl (S_load 0 rfl (.tmp rfl) rfl rfl (by kernel_rfl))) <|
          .cons rfl (Q_p rfl (S_move rfl (.tmp rfl))) <|
          .cons rfl (Q_p rfl ((S_index rfl (.tmp rfl) (.tmp rfl) (by kernel_rfl) (by omega) (by omega)).ofV (V' := .int .u8 ((e.data[k]'hkd).toNat : Int)) (congrArg (AV.int .u8) (atL_get hkd)))) <|
          .cons rfl (Q_p rfl ((S_quo rfl (.tmp rfl) (AEv.const _) (by decide)).ofV (V' := .int .u8 (((e.data[k]'hkd).toNat / 16 : Nat) : Int)) (congrArg (AV.int .u8) (by rw [Int.tdiv_eq_ediv_of_nonneg (by omega), wrap_u8 (by omega) (by omega)]; omega)))) <|
          .cons rfl (Q_p rfl (S_pcall rfl (AEvs.cons (.tmp rfl) AEvs.nil) (ref45_digit_ok _ (by omega)))) <|
          .cons rfl (Q_p rfl (S_cat rfl (.tmp rfl) (.tmp rfl) (by first | omega | (simp only [List.length_append, List.length_cons, List.length_nil]; omega) | (have := toHex_len (e.data.take k); rw [List.length_take] at this; simp only [List.length_append, List.length_cons, List.length_nil]; omega)))) <|
          .cons rfl (Q_p rfl (S_field 2 rfl (.tmp rfl) (by kernel_rfl))) <|
          .cons rfl (Q_p rfl (S_load 0 rfl (.tmp rfl) rfl rfl (by kernel_rfl))) <|
          .cons rfl (Q_p rfl (S_move rfl (.tmp rfl))) <|
          .cons rfl (Q_p rfl ((S_index rfl (.tmp rfl) (.tmp rfl) (by kernel_rfl) (by omega) (by omega)).ofV (V' := .int .u8 ((e.data[k]'hkd).toNat : Int)) (congrArg (AV.int .u8) (atL_get hkd)))) <|
          .cons rfl (Q_p rfl ((S_rem rfl (.tmp rfl) (AEv.const _) (by decide)).ofV (V' := .int .u8 (((e.data[k]'hkd).toNat % 16 : Nat) : Int)) (congrArg (AV.int .u8) (by rw [Int.tmod_eq_emod_of_nonneg (by omega)]; omega)))) <|
          .cons rfl (Q_p rfl (S_pcall rfl (AEvs.cons (.tmp rfl) AEvs.nil) (ref45_digit_ok _ (by omega)))) <|
          .cons rfl (Q_p rfl (S_cat rfl (.tmp rfl) (.tmp rfl) (by first | omega | (simp only [List.length_append, List.length_cons, List.length_nil]; omega) | (have := toHex_len (e.data.take k); rw [List.length_take] at this; simp only [List.length_append, List.length_cons, List.length_nil]; omega)))) <|
          .cons rfl (Q_p rfl (S_assign rfl (.tmp rfl))) <|
          .nil) ?_
      refine AC_region ?_
      refine AL_p rfl rfl (S_move rfl (.tmp rfl)) ?_
      refine AL_p rfl rfl (S_addI rfl (.tmp rfl) (AEv.const _) (by omega) (by omega)) ?_
      refine AL_p rfl rfl (S_assign rfl (.tmp rfl)) ?_
      refine AL_nil ?_
      exact ⟨k + 1, by omega, by omega, (Sub.l (List.Sublist.refl _)), (.cons rfl (Le.of_eq (congrArg AV.S (by rw [toHex_next hkd]; simp))) (.cons rfl (by first | exact Le.refl _ | exact Le.nils | exact Le.row _ _ _ _ | exact Le.of_eq (by first | rfl | (simp; done) | (push_cast; rfl) | (simp; omega))) .nil)), (.cons rfl (Le.refl _) (.cons rfl (Le.refl _) .nil))⟩
    try simp only [zA, zO, zN, zM, zP, zQ, zD, zF, gd] at hb4
    have hx : lineE e = (lineN e i ++ [32]) ++ toHexL (e.data.take k) := by rw [List.take_of_length_le (by omega)]; exact line_more hia (by unfold dataP; rw [if_pos hk1])
    refine AC_exit ?_
    refine AC_seq ?_
    refine AC_region ?_
    refine AL_p rfl rfl (S_move rfl (.tmp rfl)) ?_
    refine AL_p rfl rfl (S_assign rfl (.tmp rfl)) ?_
    refine AL_nil ?_
    refine AC_ret ?_
    refine ret_tmp st rfl rfl (Sub.l (List.sublist_cons_self _ _)) (Conv.refl (Sub.l (List.sublist_cons_self _ _)) _) ⟨by rw [hx], rfl⟩ (.inl rfl)
  try simp only [zA, zO, zN, zM, zP, zQ, zD, zF, gd] at hb3
  have hk1 : ¬ (verbA e.verb.toNat).2.2 = 1 := fun h => hb3 ((kind_hex hv1 hv2).1 h)
  refine AC_seq ?_
  refine AC_region ?_
  refine AL_p rfl rfl (S_field 2 rfl (.tmp rfl) (by kernel_rfl)) ?_
  refine AL_p rfl rfl (S_load 0 rfl (.tmp rfl) rfl rfl (by kernel_rfl)) ?_
  refine AL_p rfl rfl (S_neS rfl (.tmp rfl) (AEv.S _)) ?_
  refine AL_nil ?_
  refine AC_cond (.tmp rfl) (fun hb5 => ?_) (fun hb5 => ?_)
  · try simp only [zA, zO, zN, zM, zP, zQ, zD, zF, gd] at hb5
    have hx : lineE e = (lineN e i ++ [32]) ++ e.data := by
      refine line_more hia ?_
      unfold dataP; rw [if_neg hk1]
      unfold dataB at hv5; rw [if_neg hk1] at hv5
      split at hv5
      · rename_i q; rw [if_pos q]
      · exact absurd (of_decide_eq_true hv5) hb5
    refine AC_region ?_
    refine AL_p rfl rfl (S_move rfl (.tmp rfl)) ?_
    refine AL_p rfl rfl (S_cat rfl (.tmp rfl) (AEv.S _) (by first | omega | (simp only [List.length_append, List.length_cons, List.length_nil]; omega) | (have := toHex_len (e.data.take k); rw [List.length_take] at this; simp only [List.length_append, List.length_cons, List.length_nil]; omega))) ?_
    refine AL_p rfl rfl (S_field 2 rfl (.tmp rfl) (by kernel_rfl)) ?_
    refine AL_p rfl rfl (S_load 0 rfl (.tmp rfl) rfl rfl (by kernel_rfl)) ?_
    refine AL_p rfl rfl (S_cat rfl (.tmp rfl) (.tmp rfl) (by first | omega | (simp only [List.length_append, List.length_cons, List.length_nil]; omega) | (have := toHex_len (e.data.take k); rw [List.length_take] at this; simp only [List.length_append, List.length_cons, List.length_nil]; omega))) ?_
    refine AL_p rfl rfl (S_assign rfl (.tmp rfl)) ?_
    refine AL_nil ?_
    refine AC_seq ?_
    refine AC_region ?_
    refine AL_p rfl rfl (S_move rfl (.tmp rfl)) ?_
    refine AL_p rfl rfl (S_assign rfl (.tmp rfl)) ?_
    refine AL_nil ?_
    refine AC_ret ?_
    refine ret_tmp st rfl rfl (Sub.l (List.sublist_cons_self _ _)) (Conv.refl (Sub.l (List.sublist_cons_self _ _)) _) ⟨by rw [hx], rfl⟩ (.inl rfl)
  try simp only [zA, zO, zN, zM, zP, zQ, zD, zF, gd] at hb5
  have hx : lineE e = lineN e i := by
    refine line_none hia ?_
    unfold dataP; rw [if_neg hk1]
    unfold dataB at hv5; rw [if_neg hk1] at hv5
    split at hv5
    · rename_i q; have := nameV_len hv5; have h9 : e.data = [] := by simpa using hb5
      rw [h9] at this; simp at this
    · rename_i q; rw [if_neg q]
  refine AC_skip ?_
  refine AC_seq ?_
  refine AC_region ?_
  refine AL_p rfl rfl (S_move rfl (.tmp rfl)) ?_
  refine AL_p rfl rfl (S_assign rfl (.tmp rfl)) ?_
  refine AL_nil ?_
  refine AC_ret ?_
  refine ret_tmp st rfl rfl (Sub.l (List.sublist_cons_self _ _)) (Conv.refl (Sub.l (List.sublist_cons_self _ _)) _) ⟨by rw [hx], rfl⟩ (.inl rfl)

set_option maxRecDepth 100000 in
/-- provost/provostref45.parts -/
theorem ref45_parts_ok (s : List UInt8) (c : UInt8) (hs : s.length ≤ 1000000) : PCalls Tryd.prog 31 [.S s, .int .u8 (c.toNat : Int)] (.sl (strsV (partsB c s))) := by
  intro st
  refine ACalls_of (N := 36) Tryd.func31 (by kernel_rfl) rfl rfl rfl ?_
  refine AC_seq ?_
  refine AC_region ?_
  refine AL_p rfl rfl (S_assign rfl (AEv.const _)) ?_
  refine AL_nil ?_
  refine AC_seq ?_
  refine AC_region ?_
  refine AL_step rfl rfl (S_build0 (e := 9) rfl rfl (by kernel_rfl) (by kernel_rfl)) ?_
  rintro _ st9 ⟨A, rfl, h9⟩
  rw [h9]
  clear h9 st9
  refine AL_p rfl rfl (S_assign rfl (.tmp rfl)) ?_
  refine AL_nil ?_
  refine AC_seq ?_
  refine AC_region ?_
  refine AL_p rfl rfl (S_assign rfl (AEv.const _)) ?_
  refine AL_nil ?_
  refine AC_seq ?_
  refine AC_seq ?_
  refine AC_region ?_
  refine AL_p rfl rfl (S_assign rfl (AEv.const _)) ?_
  refine AL_nil ?_
  refine AC_block ?_
  refine AC_loopK (G := Nat × Nat × List (List UInt8) × Own) [(0, _), (1, _), (4, _)] (fun g => PQ c s g.1 g.2.1 g.2.2.1 ∧ g.2.2.2.ok (g.2.2.1.map AV.S)) (fun g => [(5, ownAV g.2.2.2 1 (g.2.2.1.map AV.S)), (6, .int .i64 (g.2.1 : Int)), (7, .int .i64 (g.1 : Int))]) (fun g => ownSt g.2.2.2 9 1 (g.2.2.1.map AV.S) ++ st) (fun g => s.length + 1 - g.1) ((0, 0, [], .emp A)) (⟨pq_start c s, rfl⟩) (Sub.l (List.Sublist.refl _)) (.cons rfl (Le.refl _) (.cons rfl (Le.refl _) (.cons rfl (Le.refl _) .nil))) (.cons rfl (by first | exact Le.refl _ | exact Le.nils | exact Le.row _ _ _ _ | exact Le.of_eq (by first | rfl | (simp; done) | (push_cast; rfl) | (simp; omega))) (.cons rfl (by first | exact Le.refl _ | exact Le.nils | exact Le.row _ _ _ _ | exact Le.of_eq (by first | rfl | (simp; done) | (push_cast; rfl) | (simp; omega))) (.cons rfl (by first | exact Le.refl _ | exact Le.nils | exact Le.row _ _ _ _ | exact Le.of_eq (by first | rfl | (simp; done) | (push_cast; rfl) | (simp; omega))) .nil))) ?_
  rintro ⟨i, f, done, p⟩ ⟨hI, hq⟩
  try dsimp only
  simp only [List.cons_append, List.nil_append]
  dsimp only at hI hq
  have hI1 := hI.1
  have hI2 := hI.2.1
  have hI3 := hI.2.2.1
  refine AC_seq ?_
  refine AC_seq ?_
  refine AC_region ?_
  refine AL_p rfl rfl (S_move rfl (.tmp rfl)) ?_
  refine AL_p rfl rfl (S_move rfl (.tmp rfl)) ?_
  refine AL_p rfl rfl (S_lenS (ts := #[]) rfl (.tmp rfl) (by kernel_rfl)) ?_
  refine AL_p rfl rfl (S_leq rfl (.tmp rfl) (.tmp rfl)) ?_
  refine AL_nil ?_
  refine AC_cond (.tmp rfl) (fun hb1 => ?_) (fun hb1 => ?_)
  · try simp only [zA, zO, zN, zM, zP, zQ, zD, zF, gd] at hb1
    have hi2 : i ≤ s.length := by omega
    refine AC_skip ?_
    refine AC_seq ?_
    refine AC_block ?_
    refine AC_seq ?_
    refine AC_region ?_
    refine AL_p rfl rfl (S_move rfl (.tmp rfl)) ?_
    refine AL_p rfl rfl (S_move rfl (.tmp rfl)) ?_
    refine AL_p rfl rfl (S_lenS (ts := #[]) rfl (.tmp rfl) (by kernel_rfl)) ?_
    refine AL_p rfl rfl (S_eql rfl (.tmp rfl) (.tmp rfl)) ?_
    refine AL_p rfl rfl (S_move rfl (.tmp rfl)) ?_
    refine AL_g rfl rfl (.tmp rfl) rfl (fun hg2 => S_move rfl (.tmp rfl)) ?_
    refine AL_g rfl rfl (.tmp rfl) rfl (fun hg5 => S_move rfl (.tmp rfl)) ?_
    refine AL_g rfl rfl (.tmp rfl) rfl (fun hg8 => S_index rfl (AEv.cond (.tmp rfl) (by first | assumption | exact gdAnd (by assumption) (by assumption))) (AEv.cond (.tmp rfl) (by first | assumption | exact gdAnd (by assumption) (by assumption))) (by kernel_rfl) (by (try simp only [gd, Bool.and_eq_true, Bool.or_eq_true, Bool.not_eq_true', Bool.not_eq_false', decide_eq_true_eq, decide_eq_false_iff_not, Bool.or_eq_false_iff, Bool.and_eq_false_iff] at *); omega) (by (try simp only [gd, Bool.and_eq_true, Bool.or_eq_true, Bool.not_eq_true', Bool.not_eq_false', decide_eq_true_eq, decide_eq_false_iff_not, Bool.or_eq_false_iff, Bool.and_eq_false_iff] at *); omega)) ?_
    refine AL_g rfl rfl (.tmp rfl) rfl (fun hg11 => S_move rfl (.tmp rfl)) ?_
    refine AL_g rfl rfl (.tmp rfl) rfl (fun hg14 => S_eql rfl (AEv.cond (.tmp rfl) (by first | assumption | exact gdAnd (by assumption) (by assumption))) (AEv.cond (.tmp rfl) (by first | assumption | exact gdAnd (by assumption) (by assumption)))) ?_
    refine AL_p rfl rfl (S_or rfl (.tmp rfl) (fun hp17 => (AEv.cond (.tmp rfl) (by first | assumption | exact gdT hp17 | exact gdF hp17 | exact gdAnd (by assumption) (gdT hp17) | exact gdAnd (by assumption) (gdF hp17))))) ?_
    refine AL_nil ?_
    refine AC_cond (.tmp rfl) (fun hb18 => ?_) (fun hb18 => ?_)
    · try simp only [zA, zO, zN, zM, zP, zQ, zD, zF, gd] at hb18
      have hcm : ∀ k : i < s.length, s[i] = c := fun k => hb18.elim (fun h => absurd h (by omega)) fun h => (at_byte k c).1 h
      refine AC_seq ?_
      refine AC_region ?_
      refine AL_p rfl rfl (S_move rfl (.tmp rfl)) ?_
      refine AL_p rfl rfl (S_move rfl (.tmp rfl)) ?_
      refine AL_p rfl rfl (S_move rfl (.tmp rfl)) ?_
      refine AL_p rfl rfl (S_move rfl (.tmp rfl)) ?_
      refine AL_p rfl rfl (S_sliceLH rfl (.tmp rfl) (.tmp rfl) (.tmp rfl) (by kernel_rfl) (by omega) (by omega) (by omega)) ?_
      refine AL_p rfl rfl (S_buildSlice (e := 9) 1 rfl (AEvs.cons (.tmp rfl) AEvs.nil) rfl (by kernel_rfl) (by kernel_rfl) (by intro y hy; simp only [List.mem_cons, List.not_mem_nil, or_false] at hy; rcases hy with rfl <;> exact ⟨rfl, rfl⟩) (by decide) (by decide) (by decide)) ?_
      refine AL_step rfl rfl (S_appendM (f := AV.S) (l := done) (l2 := [(s.take i).drop f]) (e := 9) (size := 1) (bytes := 16) (p := p) ([]) (st) rfl (.tmp rfl) (.tmp rfl) rfl hq (by kernel_rfl) (by simp) (fun _ => ⟨rfl, rfl⟩) (by simp only [List.length_singleton]; omega) (by simp only [List.length_singleton]; omega)) ?_
      rintro _ _ ⟨b8, k8, cap8, hx8, rfl, rfl⟩
      refine AL_p rfl rfl (S_assign rfl (.tmp rfl)) ?_
      refine AL_nil ?_
      refine AC_region ?_
      refine AL_p rfl rfl (S_move rfl (.tmp rfl)) ?_
      refine AL_p rfl rfl (S_addI rfl (.tmp rfl) (AEv.const _) (by omega) (by omega)) ?_
      refine AL_p rfl rfl (S_assign rfl (.tmp rfl)) ?_
      refine AL_nil ?_
      refine AC_region ?_
      refine AL_p rfl rfl (S_move rfl (.tmp rfl)) ?_
      refine AL_p rfl rfl (S_addI rfl (.tmp rfl) (AEv.const _) (by omega) (by omega)) ?_
      refine AL_p rfl rfl (S_assign rfl (.tmp rfl)) ?_
      refine AL_nil ?_
      exact ⟨(i + 1, i + 1, done ++ [(s.take i).drop f], .row b8 k8 cap8), ⟨pq_part hI hi2 hcm, hx8⟩, by dsimp only; omega, (Sub.l (List.Sublist.refl _)), (.cons rfl (by first | exact Le.refl _ | exact Le.nils | exact Le.row _ _ _ _ | exact Le.of_eq (by first | rfl | (simp; done) | (push_cast; rfl) | (simp; omega))) (.cons rfl (by first | exact Le.refl _ | exact Le.nils | exact Le.row _ _ _ _ | exact Le.of_eq (by first | rfl | (simp; done) | (push_cast; rfl) | (simp; omega))) (.cons rfl (by first | exact Le.refl _ | exact Le.nils | exact Le.row _ _ _ _ | exact Le.of_eq (by first | rfl | (simp; done) | (push_cast; rfl) | (simp; omega))) .nil))), (.cons rfl (Le.refl _) (.cons rfl (Le.refl _) (.cons rfl (Le.refl _) .nil)))⟩
    try simp only [zA, zO, zN, zM, zP, zQ, zD, zF, gd] at hb18
    have hil : i < s.length := by omega
    have hne : s[i] ≠ c := fun h => hb18.2 ((at_byte hil c).2 h)
    refine AC_skip ?_
    refine AC_region ?_
    refine AL_p rfl rfl (S_move rfl (.tmp rfl)) ?_
    refine AL_p rfl rfl (S_addI rfl (.tmp rfl) (AEv.const _) (by omega) (by omega)) ?_
    refine AL_p rfl rfl (S_assign rfl (.tmp rfl)) ?_
    refine AL_nil ?_
    exact ⟨(i + 1, f, done, p), ⟨pq_char hI hil hne, hq⟩, by dsimp only; omega, (Sub.l (List.Sublist.refl _)), (.cons rfl (by first | exact Le.refl _ | exact Le.nils | exact Le.row _ _ _ _ | exact Le.of_eq (by first | rfl | (simp; done) | (push_cast; rfl) | (simp; omega))) (.cons rfl (by first | exact Le.refl _ | exact Le.nils | exact Le.row _ _ _ _ | exact Le.of_eq (by first | rfl | (simp; done) | (push_cast; rfl) | (simp; omega))) (.cons rfl (by first | exact Le.refl _ | exact Le.nils | exact Le.row _ _ _ _ | exact Le.of_eq (by first | rfl | (simp; done) | (push_cast; rfl) | (simp; omega))) .nil))), (.cons rfl (Le.refl _) (.cons rfl (Le.refl _) (.cons rfl (Le.refl _) .nil)))⟩
  try simp only [zA, zO, zN, zM, zP, zQ, zD, zF, gd] at hb1
  have hx := pq_end hI (by omega)
  refine AC_exit ?_
  refine AC_seq ?_
  refine AC_region ?_
  refine AL_p rfl rfl (S_move rfl (.tmp rfl)) ?_
  refine AL_p rfl rfl (S_assign rfl (.tmp rfl)) ?_
  refine AL_nil ?_
  refine AC_ret ?_
  refine ret_tmp st rfl rfl (Sub.l (List.sublist_append_right _ _)) (Conv.le (Sub.l (List.sublist_append_right _ _)) (Le_own hq)) ⟨by rw [hx]; rfl, rfl⟩ (.inl rfl)

end Go.Proofs.YtfpkefhjomeeeaaDoor

/-
The walks of Go functions in the logic AL: what each of them answers.
Conditions: those of each theorem.
-/
set_option linter.unusedVariables false
set_option linter.unusedSimpArgs false
namespace Go.Proofs.YtfpkefhjomeeeaaDoor
open Go.AL Go.NumSpec

set_option maxRecDepth 100000 in
/-- provost/provostref45.Parse -/
theorem ref45_Parse_ok (s : List UInt8) (hs : s.length ≤ 1000000) : PCalls Tryd.prog 11 [.S s] (entR (parseE s)) := by
  intro st
  refine ACalls_of (N := 128) Tryd.func11 (by kernel_rfl) rfl rfl rfl ?_
  obtain ⟨w, l, hps⟩ : ∃ w l, partsB 32 s = w :: l := by
    cases h : partsB 32 s with
    | nil => exact absurd h (partsB_ne 32 s)
    | cons w l => exact ⟨w, l, rfl⟩
  have hpl : ∀ x ∈ w :: l, x.length ≤ s.length := by rw [← hps]; exact partsB_le 32 s
  have hpc : (w :: l).length ≤ s.length + 1 := by rw [← hps]; exact parts_few 32 s
  simp only [List.length_cons] at hpc
  have hcons : (w :: l).length = l.length + 1 := rfl
  refine AC_seq ?_
  refine AC_region ?_
  refine AL_step rfl rfl (S_alloc [.int .i64 0, .slice none 0 0, .string ⟨#[]⟩] rfl (by kernel_rfl)) ?_
  rintro _ _ ⟨b2, rfl, rfl⟩
  refine AL_p rfl rfl (S_assign rfl (AEv.const _)) ?_
  refine AL_nil ?_
  refine AC_seq ?_
  refine AC_region ?_
  refine AL_p rfl rfl (S_move rfl (.tmp rfl)) ?_
  refine AL_p rfl rfl (S_pcall rfl (AEvs.cons (.tmp rfl) (AEvs.cons (y := .int .u8 ((32 : UInt8).toNat : Int)) (AEv.const _) AEvs.nil)) ((ref45_parts_ok s 32 (by omega)).of_eq (congrArg (fun x => AV.sl (strsV x)) hps))) ?_
  refine AL_p rfl rfl (S_assign rfl (.tmp rfl)) ?_
  refine AL_nil ?_
  refine AC_seq ?_
  refine AC_seq ?_
  refine AC_region ?_
  refine AL_p rfl rfl (S_assign rfl (AEv.const _)) ?_
  refine AL_nil ?_
  refine AC_block ?_
  refine AC_loopK (G := Nat) [(0, _), (2, _), (4, _)] (fun g => 1 ≤ g ∧ g ≤ 24 ∧ ∀ j, j < 24 → 0 < j → j < g → (verbA j).1 ≠ w) (fun g => [(5, .int .i64 (g : Int))]) (fun g => (b2, .cells [.int .i64 0, .nils, .S []]) :: st) (fun g => 24 - g) (1) (⟨Nat.le_refl _, by omega, fun j _ h0 h => absurd h (by omega)⟩) (Sub.l (List.Sublist.refl _)) (.cons rfl (Le.refl _) (.cons rfl (Le.refl _) (.cons rfl (Le.refl _) .nil))) (.cons rfl (by first | exact Le.refl _ | exact Le.nils | exact Le.row _ _ _ _ | exact Le.of_eq (by first | rfl | (simp; done) | (push_cast; rfl) | (simp; omega))) .nil) ?_
  rintro v ⟨hv0, hv24, hall⟩
  try dsimp only
  simp only [List.cons_append, List.nil_append]
  refine AC_seq ?_
  refine AC_seq ?_
  refine AC_region ?_
  refine AL_p rfl rfl (S_move rfl (.tmp rfl)) ?_
  refine AL_p rfl rfl (S_leq rfl (.tmp rfl) (AEv.const _)) ?_
  refine AL_nil ?_
  refine AC_cond (.tmp rfl) (fun hb2 => ?_) (fun hb2 => ?_)
  · try simp only [zA, zO, zN, zM, zP, zQ, zD, zF, gd] at hb2
    have hv23 : v < 24 := by omega
    have hvf := verb_facts hv23
    refine AC_skip ?_
    refine AC_seq ?_
    refine AC_block ?_
    refine AC_seq ?_
    refine AC_seq ?_
    refine AC_draw (by kernel_rfl) (by kernel_rfl) (.cons rfl (Q_p rfl (S_pcall rfl AEvs.nil (ref45_words_ok))) <|
        .cons rfl (Q_p rfl (S_move rfl (.tmp rfl))) <|
        .cons rfl (Q_p rfl (S_elemD (e := 9) (i := v) (f := AV.S) (l := wordsB) ([] : List UInt8) 1 rfl (.tmp rfl) ((AEv.tmp rfl).le (Le.of_eq (congrArg (AV.int _) (by omega)))) (by kernel_rfl) (by kernel_rfl) (by rw [show wordsB.length = 24 from rfl]; omega) (fun _ => rfl))) <|
        .cons rfl (Q_p rfl (S_loadP rfl (.tmp rfl) rfl (by kernel_rfl))) <|
        .cons rfl (Q_p rfl (S_move rfl (.tmp rfl))) <|
        .cons rfl (Q_p rfl (S_elemN (e := 9) (i := 0) 1 rfl (.tmp rfl) (AEv.const _) (by kernel_rfl) (by kernel_rfl) (by omega) (fun _ => rfl))) <|
        .cons rfl (Q_p rfl (S_loadP rfl (.tmp rfl) rfl (by kernel_rfl))) <|
        .cons rfl (Q_p rfl (S_neS rfl (.tmp rfl) (.tmp rfl))) <|
        .nil) ?_
    refine AC_cond (.tmp rfl) (fun hb3 => ?_) (fun hb3 => ?_)
    · try simp only [zA, zO, zN, zM, zP, zQ, zD, zF, gd] at hb3
      have hno : (verbA v).1 ≠ w := by rw [words_at] at hb3; exact hb3
      refine AC_exit ?_
      refine AC_region ?_
      refine AL_p rfl rfl (S_move rfl (.tmp rfl)) ?_
      refine AL_p rfl rfl (S_addI rfl (.tmp rfl) (AEv.const _) (by omega) (by omega)) ?_
      refine AL_p rfl rfl (S_assign rfl (.tmp rfl)) ?_
      refine AL_nil ?_
      refine ⟨v + 1, ⟨by omega, by omega, fun j hj h0 h => ?_⟩, by omega, (Sub.l (List.Sublist.refl _)), (.cons rfl (by first | exact Le.refl _ | exact Le.nils | exact Le.row _ _ _ _ | exact Le.of_eq (by first | rfl | (simp; done) | (push_cast; rfl) | (simp; omega))) .nil), (.cons rfl (Le.refl _) (.cons rfl (Le.refl _) (.cons rfl (Le.refl _) .nil)))⟩
      rcases Nat.lt_or_ge j v with h9 | h9
      · exact hall j hj h0 h9
      · have e9 : j = v := by omega
        subst e9; exact hno
    try simp only [zA, zO, zN, zM, zP, zQ, zD, zF, gd] at hb3
    have hw : (verbA v).1 = w := by rw [words_at] at hb3; simpa using hb3
    have hfv : findV w = v := find_hit (by omega) hv23 hw
    refine AC_skip ?_
    refine AC_seq ?_
    refine AC_region ?_
    refine AL_p rfl rfl (S_move rfl (.tmp rfl)) ?_
    refine AL_p rfl rfl (S_build (t := 24) (pl := [(0, 1), (1, 1), (2, 1)]) (zs := [.int .i64 0, .slice none 0 0, .string ⟨#[]⟩]) rfl (AEvs.cons (.tmp rfl) AEvs.nil) (by kernel_rfl) rfl) ?_
    refine AL_step rfl rfl (S_alloc [.int .i64 0, .slice none 0 0, .string ⟨#[]⟩] rfl (by kernel_rfl)) ?_
    rintro _ _ ⟨b6, rfl, rfl⟩
    refine AL_step rfl rfl (S_storeW 0 rfl (.tmp rfl) (.tmp rfl) rfl rfl rfl (by kernel_rfl)) ?_
    rintro _ _ ⟨rfl, rfl⟩
    refine AL_nil ?_
    refine AC_seq ?_
    refine AC_region ?_
    refine AL_p rfl rfl (S_move rfl (.tmp rfl)) ?_
    refine AL_p rfl rfl ((S_cutLM (e := 9) (i := 1) 1 rfl (.tmp rfl) (AEv.const _) (by kernel_rfl) (by kernel_rfl) (fun _ => rfl) (by omega)).ofV (V' := .sl (strsV l)) rfl) ?_
    refine AL_p rfl rfl (S_assign rfl (.tmp rfl)) ?_
    refine AL_nil ?_
    refine AC_seq ?_
    refine AC_seq ?_
    refine AC_region ?_
    refine AL_p rfl rfl (S_assign rfl (AEv.const _)) ?_
    refine AL_nil ?_
    refine AC_block ?_
    refine AC_loopK (G := Nat × Own) [(0, _), (2, _), (5, _), (6, _), (7, _)] (fun g => g.1 ≤ l.length ∧ (g.1 : Int) ≤ (verbA v).2.1 ∧ g.2.ok (intsV (numsOf (l.take (g.1)))) ∧ ∀ j (hj : j < l.length), j < g.1 → (parseV l[j] 1073741824).2 = true) (fun g => [(8, .int .i64 (g.1 : Int))]) (fun g => (b6, .cells [.int .i64 (v : Int), ownAV g.2 1 (intsV (numsOf (l.take (g.1)))), .S ([])]) :: (b2, .cells [.int .i64 0, .nils, .S []]) :: (ownSt g.2 3 1 (intsV (numsOf (l.take (g.1)))) ++ st)) (fun g => l.length - g.1) ((0, .nil)) (⟨Nat.zero_le _, hvf.2.2.2.1, rfl, fun j _ h => absurd h (Nat.not_lt_zero _)⟩) (Sub.l (List.Sublist.refl _)) (.cons rfl (Le.refl _) (.cons rfl (Le.refl _) (.cons rfl (Le.refl _) (.cons rfl (Le.refl _) (.cons rfl (Le.refl _) .nil))))) (.cons rfl (by first | exact Le.refl _ | exact Le.nils | exact Le.row _ _ _ _ | exact Le.of_eq (by first | rfl | (simp; done) | (push_cast; rfl) | (simp; omega))) .nil) ?_
    rintro ⟨k, p⟩ ⟨hk, hkn, hq, hall2⟩
    try dsimp only
    simp only [List.cons_append, List.nil_append]
    dsimp only at hk hkn hq hall2
    have hnl := nums_len (l.take k)
    rw [List.length_take] at hnl
    refine AC_seq ?_
    refine AC_seq ?_
    refine AC_region ?_
    refine AL_p rfl rfl (S_move rfl (.tmp rfl)) ?_
    refine AL_p rfl rfl (S_pcall rfl AEvs.nil (ref45_numbers_ok)) ?_
    refine AL_p rfl rfl (S_move rfl (.tmp rfl)) ?_
    refine AL_p rfl rfl (S_elemD (e := 3) (i := v) (f := (fun n : Int => AV.int .i64 n)) (l := numbersI) (0 : Int) 1 rfl (.tmp rfl) (.tmp rfl) (by kernel_rfl) (by kernel_rfl) (by rw [numbers_len]; omega) (fun _ => rfl)) ?_
    refine AL_p rfl rfl (S_loadP rfl (.tmp rfl) rfl (by kernel_rfl)) ?_
    refine AL_p rfl rfl (S_lss rfl (.tmp rfl) (.tmp rfl)) ?_
    refine AL_p rfl rfl (S_move rfl (.tmp rfl)) ?_
    refine AL_g rfl rfl (.tmp rfl) rfl (fun hg5 => S_move rfl (.tmp rfl)) ?_
    refine AL_g rfl rfl (.tmp rfl) rfl (fun hg8 => S_move rfl (.tmp rfl)) ?_
    refine AL_g rfl rfl (.tmp rfl) rfl (fun hg11 => by first | exact S_lenM (e := 9) rfl (AEv.cond (.tmp rfl) (by first | assumption | exact gdAnd (by assumption) (by assumption))) (by kernel_rfl) | exact S_len (e := 9) rfl (AEv.cond (.tmp rfl) (by first | assumption | exact gdAnd (by assumption) (by assumption))) (by kernel_rfl)) ?_
    refine AL_g rfl rfl (.tmp rfl) rfl (fun hg14 => S_lss rfl (AEv.cond (.tmp rfl) (by first | assumption | exact gdAnd (by assumption) (by assumption))) (AEv.cond (.tmp rfl) (by first | assumption | exact gdAnd (by assumption) (by assumption)))) ?_
    refine AL_p rfl rfl (S_and rfl (.tmp rfl) (fun hp17 => (AEv.cond (.tmp rfl) (by first | assumption | exact gdT hp17 | exact gdF hp17 | exact gdAnd (by assumption) (gdT hp17) | exact gdAnd (by assumption) (gdF hp17))))) ?_
    refine AL_nil ?_
    refine AC_cond (.tmp rfl) (fun hb18 => ?_) (fun hb18 => ?_)
    · try simp only [zA, zO, zN, zM, zP, zQ, zD, zF, gd] at hb18
      have hck := hb18.1
      have hkl : k < l.length := by have := hb18.2; omega
      refine AC_skip ?_
      refine AC_seq ?_
      refine AC_block ?_
      refine AC_seq ?_
      refine AC_region ?_
      refine AL_p rfl rfl (S_move rfl (.tmp rfl)) ?_
      refine AL_p rfl rfl (S_move rfl (.tmp rfl)) ?_
      refine AL_p rfl rfl (S_elemN (e := 9) 1 rfl (.tmp rfl) (.tmp rfl) (by kernel_rfl) (by kernel_rfl) (by omega) (fun _ => rfl)) ?_
      refine AL_p rfl rfl (S_loadP rfl (.tmp rfl) rfl (by kernel_rfl)) ?_
      refine AL_p rfl rfl (S_pcall rfl (AEvs.cons (.tmp rfl) (AEvs.cons (AEv.const _) AEvs.nil)) (ref_Parse_ok (l[k]'hkl) 1073741824 (by unfold fits; omega))) ?_
      refine AL_p rfl rfl (S_move rfl (.tmp rfl)) ?_
      refine AL_p rfl rfl (S_extract 0 rfl (.tmp rfl) rfl) ?_
      refine AL_p rfl rfl (S_extract 1 rfl (.tmp rfl) rfl) ?_
      refine AL_p rfl rfl (S_assign rfl (.tmp rfl)) ?_
      refine AL_p rfl rfl (S_assign rfl (.tmp rfl)) ?_
      refine AL_nil ?_
      refine AC_seq ?_
      refine AC_seq ?_
      refine AC_region ?_
      refine AL_p rfl rfl (S_move rfl (.tmp rfl)) ?_
      refine AL_p rfl rfl (S_not rfl (.tmp rfl)) ?_
      refine AL_nil ?_
      refine AC_cond (.tmp rfl) (fun hb19 => ?_) (fun hb19 => ?_)
      · try simp only [zA, zO, zN, zM, zP, zQ, zD, zF, gd] at hb19
        have hx := parse_nonum (i := k) hps (by rw [hfv]; rw [numbers_at] at hck; omega) hkl (by simpa using hb19)
        refine AC_seq ?_
        refine AC_region ?_
        refine AL_p rfl rfl (S_build (t := 24) (pl := [(0, 1), (1, 1), (2, 1)]) (zs := [.int .i64 0, .slice none 0 0, .string ⟨#[]⟩]) rfl AEvs.nil (by kernel_rfl) rfl) ?_
        refine AL_step rfl rfl (S_storeW 1 rfl (.tmp rfl) (.tmp rfl) rfl rfl rfl (by kernel_rfl)) ?_
        rintro _ _ ⟨rfl, rfl⟩
        refine AL_p rfl rfl (S_assign rfl (AEv.const _)) ?_
        refine AL_nil ?_
        refine AC_ret ?_
        refine ret_outs st rfl (by decide) (OutsR.row 1 rfl rfl (by kernel_rfl) (OutsR.tmp rfl OutsR.nil)) (Sub.l (((List.sublist_append_right _ _).cons _).cons _)) (Conv.le (Sub.l (((List.sublist_append_right _ _).cons _).cons _)) (Les.tup (.cons (Les.agg (.cons (Le.refl _) (.cons Le.nils (.cons (Le.refl _) .nil)))) (.cons (Le.refl _) .nil)))) ⟨by rw [hx]; rfl, rfl⟩ (.inl rfl)
      try simp only [zA, zO, zN, zM, zP, zQ, zD, zF, gd] at hb19
      have hok : (parseV (l[k]'hkl) 1073741824).2 = true := by simpa using hb19
      refine AC_skip ?_
      refine AC_region ?_
      refine AL_p rfl rfl (S_field 1 rfl (.tmp rfl) (by kernel_rfl)) ?_
      refine AL_p rfl rfl (S_load 0 rfl (.tmp rfl) rfl rfl (by kernel_rfl)) ?_
      refine AL_p rfl rfl (S_move rfl (.tmp rfl)) ?_
      refine AL_p rfl rfl (S_buildSlice (e := 3) 1 rfl (AEvs.cons (.tmp rfl) AEvs.nil) rfl (by kernel_rfl) (by kernel_rfl) (by intro y hy; simp only [List.mem_cons, List.not_mem_nil, or_false] at hy; rcases hy with rfl <;> exact ⟨rfl, rfl⟩) (by decide) (by decide) (by decide)) ?_
      refine AL_step rfl rfl (S_appendM (f := (fun n : Int => AV.int .i64 n)) (l := numsOf (l.take k)) (l2 := [(parseV (l[k]'hkl) 1073741824).1]) (e := 3) (size := 1) (bytes := 8) (p := p) ([_, _]) (st) rfl (.tmp rfl) (.tmp rfl) rfl hq (by kernel_rfl) (by simp) (fun _ => ⟨rfl, rfl⟩) (by rw [nums_len, List.length_take]; simp only [List.length_singleton]; omega) (by rw [nums_len, List.length_take]; simp only [List.length_singleton]; omega)) ?_
      rintro _ _ ⟨b8, k8, cap8, hx8, rfl, rfl⟩
      refine AL_p rfl rfl (S_field 1 rfl (.tmp rfl) (by kernel_rfl)) ?_
      refine AL_step rfl rfl (S_store 0 rfl (.tmp rfl) (.tmp rfl) rfl (by first | exact Nat.le_of_ble_eq_true rfl | simp) (by first | rfl | exact ownAV_one _ _ _) (by kernel_rfl)) ?_
      rintro _ _ ⟨rfl, rfl⟩
      refine AL_nil ?_
      refine AC_region ?_
      refine AL_p rfl rfl (S_move rfl (.tmp rfl)) ?_
      refine AL_p rfl rfl (S_addI rfl (.tmp rfl) (AEv.const _) (by omega) (by omega)) ?_
      refine AL_p rfl rfl (S_assign rfl (.tmp rfl)) ?_
      refine AL_nil ?_
      refine ⟨(k + 1, .row b8 k8 cap8), ⟨by dsimp only; omega, by dsimp only; rw [numbers_at] at hck; omega, by dsimp only; rw [nums_next hkl]; exact hx8, fun j hj h => ?_⟩, by dsimp only; omega, by dsimp only; rw [nums_next hkl]; exact (Sub.l (List.Sublist.refl _)), (.cons rfl (by first | exact Le.refl _ | exact Le.nils | exact Le.row _ _ _ _ | exact Le.of_eq (by first | rfl | (simp; done) | (push_cast; rfl) | (simp; omega))) .nil), (.cons rfl (Le.refl _) (.cons rfl (Le.refl _) (.cons rfl (Le.refl _) (.cons rfl (Le.refl _) (.cons rfl (Le.refl _) .nil)))))⟩
      rcases Nat.lt_or_ge j k with h9 | h9
      · exact hall2 j hj h9
      · have e9 : j = k := by dsimp only at h; omega
        subst e9; exact hok
    try simp only [zA, zO, zN, zM, zP, zQ, zD, zF, gd] at hb18
    have hkN : (verbA v).2.1 ≤ (l.length : Int) → k = (verbA v).2.1.toNat := fun h => by rw [numbers_at] at hb18; rcases hb18 with h9 | h9 <;> omega
    have hD := getD_le (l := l) (n := s.length) (fun x hx => hpl x (List.mem_cons_of_mem _ hx)) k
    refine AC_exit ?_
    refine AC_joinK (G := Unit) [(0, _), (2, _), (5, _), (6, _), (7, _)] (fun _ => True) (fun _ => []) (fun _ => (b6, .cells [.int .i64 (v : Int), ownAV p 1 (intsV (numsOf (l.take (k)))), .S ((l.getD k []))]) :: (b2, .cells [.int .i64 0, .nils, .S []]) :: (ownSt p 3 1 (intsV (numsOf (l.take (k)))) ++ st)) (.cons rfl (Le.refl _) (.cons rfl (Le.refl _) (.cons rfl (Le.refl _) (.cons rfl (Le.refl _) (.cons rfl (Le.refl _) .nil))))) ?_ ?_
    · refine AC_seq ?_
      refine AC_region ?_
      refine AL_p rfl rfl (S_move rfl (.tmp rfl)) ?_
      refine AL_p rfl rfl (by first | exact S_lenM (e := 9) rfl (.tmp rfl) (by kernel_rfl) | exact S_len (e := 9) rfl (.tmp rfl) (by kernel_rfl)) ?_
      refine AL_p rfl rfl (S_field 1 rfl (.tmp rfl) (by kernel_rfl)) ?_
      refine AL_p rfl rfl (S_load 0 rfl (.tmp rfl) rfl rfl (by kernel_rfl)) ?_
      refine AL_p rfl rfl (by first | exact S_lenM (e := 3) rfl ((AEv.tmp rfl).le (Le_own hq)) (by kernel_rfl) | exact S_len (e := 3) rfl ((AEv.tmp rfl).le (Le_own hq)) (by kernel_rfl)) ?_
      refine AL_p rfl rfl (S_gtr rfl (.tmp rfl) (.tmp rfl)) ?_
      refine AL_nil ?_
      refine AC_cond (.tmp rfl) (fun hb22 => ?_) (fun hb22 => ?_)
      · try simp only [zA, zO, zN, zM, zP, zQ, zD, zF, gd] at hb22
        refine AC_region ?_
        refine AL_p rfl rfl (S_move rfl (.tmp rfl)) ?_
        refine AL_p rfl rfl (S_field 1 rfl (.tmp rfl) (by kernel_rfl)) ?_
        refine AL_p rfl rfl (S_load 0 rfl (.tmp rfl) rfl rfl (by kernel_rfl)) ?_
        refine AL_p rfl rfl (by first | exact S_lenM (e := 3) rfl ((AEv.tmp rfl).le (Le_own hq)) (by kernel_rfl) | exact S_len (e := 3) rfl ((AEv.tmp rfl).le (Le_own hq)) (by kernel_rfl)) ?_
        refine AL_p rfl rfl (S_elemD (e := 9) (i := k) ([] : List UInt8) 1 rfl (.tmp rfl) ((AEv.tmp rfl).le (Le.of_eq (congrArg (AV.int _) (by omega)))) (by kernel_rfl) (by kernel_rfl) (by omega) (fun _ => rfl)) ?_
        refine AL_p rfl rfl (S_loadP rfl (.tmp rfl) rfl (by kernel_rfl)) ?_
        refine AL_p rfl rfl (S_field 2 rfl (.tmp rfl) (by kernel_rfl)) ?_
        refine AL_step rfl rfl (S_store 0 rfl (.tmp rfl) (.tmp rfl) rfl (by first | exact Nat.le_of_ble_eq_true rfl | simp) rfl (by kernel_rfl)) ?_
        rintro _ _ ⟨rfl, rfl⟩
        refine AL_nil ?_
        exact ⟨(), trivial, (Sub.l (List.Sublist.refl _)), .nil, (.cons rfl (Le.refl _) (.cons rfl (Le.refl _) (.cons rfl (Le.refl _) (.cons rfl (Le.refl _) (.cons rfl (Le.refl _) .nil)))))⟩
      try simp only [zA, zO, zN, zM, zP, zQ, zD, zF, gd] at hb22
      refine AC_skip ?_
      exact ⟨(), trivial, by rw [show (l.getD k []) = [] from by rw [List.getD_eq_getElem?_getD, List.getElem?_eq_none (by omega)]; rfl]; exact (Sub.l (List.Sublist.refl _)), .nil, (.cons rfl (Le.refl _) (.cons rfl (Le.refl _) (.cons rfl (Le.refl _) (.cons rfl (Le.refl _) (.cons rfl (Le.refl _) .nil)))))⟩
    rintro _ _
    try dsimp only
    simp only [List.cons_append, List.nil_append]
    refine AC_joinK (G := List UInt8) [(0, _), (2, _), (5, _), (6, _)] (fun d => d.length ≤ s.length ∧ ∀ e, rightB e = true → partsE e = w :: l → e.data = d) (fun g => []) (fun g => (b6, .cells [.int .i64 (v : Int), ownAV p 1 (intsV (numsOf (l.take (k)))), .S (g)]) :: (b2, .cells [.int .i64 0, .nils, .S []]) :: (ownSt p 3 1 (intsV (numsOf (l.take (k)))) ++ st)) (.cons rfl (Le.refl _) (.cons rfl (Le.refl _) (.cons rfl (Le.refl _) (.cons rfl (Le.refl _) .nil)))) ?_ ?_
    · refine AC_seq ?_
      refine AC_region ?_
      refine AL_p rfl rfl (S_move rfl (.tmp rfl)) ?_
      refine AL_p rfl rfl (S_eql rfl (.tmp rfl) (AEv.const _)) ?_
      refine AL_nil ?_
      refine AC_cond (.tmp rfl) (fun hb23 => ?_) (fun hb23 => ?_)
      · try simp only [zA, zO, zN, zM, zP, zQ, zD, zF, gd] at hb23
        have hv2 : v = 2 := by omega
        have hk1 : (verbA v).2.2 = 1 := by rw [hv2]; rfl
        refine AC_seq ?_
        refine AC_region ?_
        refine AL_p rfl rfl (S_assign rfl (AEv.S _)) ?_
        refine AL_nil ?_
        refine AC_seq ?_
        refine AC_seq ?_
        refine AC_region ?_
        refine AL_p rfl rfl (S_assign rfl (AEv.const _)) ?_
        refine AL_nil ?_
        refine AC_block ?_
        refine AC_loopK (G := List UInt8) [(0, _), (2, _), (5, _), (6, _)] (fun g => 2 * g.length ≤ (l.getD k []).length ∧ toHexL g = (l.getD k []).take (2 * g.length)) (fun g => [(11, .S g), (12, .int .i64 ((2 * g.length : Nat) : Int))]) (fun g => (b6, .cells [.int .i64 (v : Int), ownAV p 1 (intsV (numsOf (l.take (k)))), .S ((l.getD k []))]) :: (b2, .cells [.int .i64 0, .nils, .S []]) :: (ownSt p 3 1 (intsV (numsOf (l.take (k)))) ++ st)) (fun g => (l.getD k []).length + 1 - 2 * g.length) ([]) (⟨Nat.zero_le _, rfl⟩) (Sub.l (List.Sublist.refl _)) (.cons rfl (Le.refl _) (.cons rfl (Le.refl _) (.cons rfl (Le.refl _) (.cons rfl (Le.refl _) .nil)))) (.cons rfl (by first | exact Le.refl _ | exact Le.nils | exact Le.row _ _ _ _ | exact Le.of_eq (by first | rfl | (simp; done) | (push_cast; rfl) | (simp; omega))) (.cons rfl (by first | exact Le.refl _ | exact Le.nils | exact Le.row _ _ _ _ | exact Le.of_eq (by first | rfl | (simp; done) | (push_cast; rfl) | (simp; omega))) .nil)) ?_
        rintro b ⟨hz1, hz2⟩
        try dsimp only
        simp only [List.cons_append, List.nil_append]
        refine AC_seq ?_
        refine AC_seq ?_
        refine AC_region ?_
        refine AL_p rfl rfl (S_move rfl (.tmp rfl)) ?_
        refine AL_p rfl rfl (S_addI rfl (.tmp rfl) (AEv.const _) (by omega) (by omega)) ?_
        refine AL_p rfl rfl (S_field 2 rfl (.tmp rfl) (by kernel_rfl)) ?_
        refine AL_p rfl rfl (S_load 0 rfl (.tmp rfl) rfl rfl (by kernel_rfl)) ?_
        refine AL_p rfl rfl (S_lenS (ts := #[]) rfl (.tmp rfl) (by kernel_rfl)) ?_
        refine AL_p rfl rfl (S_lss rfl (.tmp rfl) (.tmp rfl)) ?_
        refine AL_nil ?_
        refine AC_cond (.tmp rfl) (fun hb24 => ?_) (fun hb24 => ?_)
        · try simp only [zA, zO, zN, zM, zP, zQ, zD, zF, gd] at hb24
          have hi2 : 2 * b.length + 1 < (l.getD k []).length := by omega
          have hi1 : 2 * b.length < (l.getD k []).length := by omega
          refine AC_skip ?_
          refine AC_seq ?_
          refine AC_block ?_
          refine AC_seq ?_
          refine AC_draw (by kernel_rfl) (by kernel_rfl) (.cons rfl (Q_p rfl (S_field 2 rfl (.tmp rfl) (by kernel_rfl))) <|
              .cons rfl (Q_p rfl (S_load 0 rfl (.tmp rfl) rfl rfl (by kernel_rfl))) <|
              .cons rfl (Q_p rfl (S_move rfl (.tmp rfl))) <|
              .cons rfl (Q_p rfl ((S_index rfl (.tmp rfl) (.tmp rfl) (by kernel_rfl) (by omega) (by omega)).ofV (V' := .int .u8 (((l.getD k [])[2 * b.length]'hi1).toNat : Int)) (congrArg (AV.int .u8) (by first | exact atL_get hi1 | (rw [show (((2 * b.length : Nat) : Int) + 1) = ((2 * b.length + 1 : Nat) : Int) by omega]; exact atL_get hi1))))) <|
              .cons rfl (Q_p rfl (S_pcall rfl (AEvs.cons (.tmp rfl) AEvs.nil) (ref45_value_ok ((l.getD k [])[2 * b.length]'hi1)))) <|
              .cons rfl (Q_p rfl (S_field 2 rfl (.tmp rfl) (by kernel_rfl))) <|
              .cons rfl (Q_p rfl (S_load 0 rfl (.tmp rfl) rfl rfl (by kernel_rfl))) <|
              .cons rfl (Q_p rfl (S_move rfl (.tmp rfl))) <|
              .cons rfl (Q_p rfl (S_addI rfl (.tmp rfl) (AEv.const _) (by omega) (by omega))) <|
              .cons rfl (Q_p rfl ((S_index rfl (.tmp rfl) (.tmp rfl) (by kernel_rfl) (by omega) (by omega)).ofV (V' := .int .u8 (((l.getD k [])[2 * b.length + 1]'hi2).toNat : Int)) (congrArg (AV.int .u8) (by first | exact atL_get hi2 | (rw [show (((2 * b.length : Nat) : Int) + 1) = ((2 * b.length + 1 : Nat) : Int) by omega]; exact atL_get hi2))))) <|
              .cons rfl (Q_p rfl (S_pcall rfl (AEvs.cons (.tmp rfl) AEvs.nil) (ref45_value_ok ((l.getD k [])[2 * b.length + 1]'hi2)))) <|
              .cons rfl (Q_p rfl (S_assign rfl (.tmp rfl))) <|
              .cons rfl (Q_p rfl (S_assign rfl (.tmp rfl))) <|
              .nil) ?_
          refine AC_seq ?_
          refine AC_seq ?_
          refine AC_region ?_
          refine AL_p rfl rfl (S_move rfl (.tmp rfl)) ?_
          refine AL_p rfl rfl (S_lss rfl (.tmp rfl) (AEv.const _)) ?_
          refine AL_p rfl rfl (S_move rfl (.tmp rfl)) ?_
          refine AL_g rfl rfl (.tmp rfl) rfl (fun hg25 => S_move rfl (.tmp rfl)) ?_
          refine AL_g rfl rfl (.tmp rfl) rfl (fun hg28 => S_lss rfl (AEv.cond (.tmp rfl) (by first | assumption | exact gdAnd (by assumption) (by assumption))) (AEv.const _)) ?_
          refine AL_p rfl rfl (S_or rfl (.tmp rfl) (fun hp31 => (AEv.cond (.tmp rfl) (by first | assumption | exact gdT hp31 | exact gdF hp31 | exact gdAnd (by assumption) (gdT hp31) | exact gdAnd (by assumption) (gdF hp31))))) ?_
          refine AL_nil ?_
          refine AC_cond (.tmp rfl) (fun hb32 => ?_) (fun hb32 => ?_)
          · try simp only [zA, zO, zN, zM, zP, zQ, zD, zF, gd] at hb32
            have hkl : k < l.length := Classical.byContradiction fun h => by
              have h8 : (l.getD k []) = [] := by rw [List.getD_eq_getElem?_getD, List.getElem?_eq_none (by omega)]; rfl
              rw [h8] at hi1; simp at hi1
            have hx : parseE s = none := by
              have h9 : (verbA v).2.1 = 1 := by rw [hv2]; rfl
              have h8 := hkN (by omega)
              rcases hb32 with h | h
              · exact parse_hexbad hps (by rw [hfv]; exact h8) (by rw [hfv]; exact hk1) hi1 h
              · exact parse_hexbad hps (by rw [hfv]; exact h8) (by rw [hfv]; exact hk1) hi2 h
            refine AC_seq ?_
            refine AC_region ?_
            refine AL_p rfl rfl (S_build (t := 24) (pl := [(0, 1), (1, 1), (2, 1)]) (zs := [.int .i64 0, .slice none 0 0, .string ⟨#[]⟩]) rfl AEvs.nil (by kernel_rfl) rfl) ?_
            refine AL_step rfl rfl (S_storeW 1 rfl (.tmp rfl) (.tmp rfl) rfl rfl rfl (by kernel_rfl)) ?_
            rintro _ _ ⟨rfl, rfl⟩
            refine AL_p rfl rfl (S_assign rfl (AEv.const _)) ?_
            refine AL_nil ?_
            refine AC_ret ?_
            refine ret_outs st rfl (by decide) (OutsR.row 1 rfl rfl (by kernel_rfl) (OutsR.tmp rfl OutsR.nil)) (Sub.l (((List.sublist_append_right _ _).cons _).cons _)) (Conv.le (Sub.l (((List.sublist_append_right _ _).cons _).cons _)) (Les.tup (.cons (Les.agg (.cons (Le.refl _) (.cons Le.nils (.cons (Le.refl _) .nil)))) (.cons (Le.refl _) .nil)))) ⟨by rw [hx]; rfl, rfl⟩ (.inl rfl)
          try simp only [zA, zO, zN, zM, zP, zQ, zD, zF, gd] at hb32
          have hx1 : 0 ≤ hexV ((l.getD k [])[2 * b.length]'hi1) := by omega
          have hx2 : 0 ≤ hexV ((l.getD k [])[2 * b.length + 1]'hi2) := by omega
          have hy1 := (hexV_some hx1).1
          have hy2 := (hexV_some hx2).1
          obtain ⟨n1, e1⟩ := Int.eq_ofNat_of_zero_le hx1
          obtain ⟨n2, e2⟩ := Int.eq_ofNat_of_zero_le hx2
          refine AC_skip ?_
          refine AC_region ?_
          refine AL_p rfl rfl (S_move rfl (.tmp rfl)) ?_
          refine AL_p rfl rfl (S_move rfl (.tmp rfl)) ?_
          refine AL_p rfl rfl (S_mulI rfl (AEv.const _) (.tmp rfl) (by omega) (by omega)) ?_
          refine AL_p rfl rfl (S_move rfl (.tmp rfl)) ?_
          refine AL_p rfl rfl (S_addI rfl (.tmp rfl) (.tmp rfl) (by omega) (by omega)) ?_
          refine AL_p rfl rfl ((S_conv (k' := .u8) rfl (.tmp rfl) (by kernel_rfl) (by kernel_rfl)).ofV (V' := byteV (UInt8.ofNat (16 * hexV ((l.getD k [])[2 * b.length]'hi1) + hexV ((l.getD k [])[2 * b.length + 1]'hi2)).toNat)) (congrArg (AV.int .u8) (by rw [e1, e2, UInt8.toNat_ofNat', wrap_u8 (by omega) (by omega)]; omega))) ?_
          refine AL_p rfl rfl (S_buildSlice (e := 5) 1 rfl (AEvs.cons (.tmp rfl) AEvs.nil) rfl (by kernel_rfl) (by kernel_rfl) (by simp [AV.flat, AV.one, AV.cells, Value.oneCell']) (by decide) (by decide) (by decide)) ?_
          refine AL_p rfl rfl (S_bytesSl (e := 5) [UInt8.ofNat (16 * hexV ((l.getD k [])[2 * b.length]'hi1) + hexV ((l.getD k [])[2 * b.length + 1]'hi2)).toNat] rfl (.tmp rfl) rfl (by kernel_rfl) (by kernel_rfl) (by kernel_rfl)) ?_
          refine AL_p rfl rfl (S_cat rfl (.tmp rfl) (.tmp rfl) (by first | omega | (simp only [List.length_append, List.length_cons, List.length_nil]; omega))) ?_
          refine AL_p rfl rfl (S_assign rfl (.tmp rfl)) ?_
          refine AL_nil ?_
          refine AC_region ?_
          refine AL_p rfl rfl (S_move rfl (.tmp rfl)) ?_
          refine AL_p rfl rfl (S_addI rfl (.tmp rfl) (AEv.const _) (by omega) (by omega)) ?_
          refine AL_p rfl rfl (S_assign rfl (.tmp rfl)) ?_
          refine AL_nil ?_
          refine ⟨b ++ [UInt8.ofNat (16 * hexV ((l.getD k [])[2 * b.length]'hi1) + hexV ((l.getD k [])[2 * b.length + 1]'hi2)).toNat], ⟨by simp only [List.length_append, List.length_singleton]; omega, by rw [List.length_append, List.length_singleton]; exact hex_more hi2 hz2 hx1 hx2⟩, by simp only [List.length_append, List.length_singleton]; omega, (Sub.l (List.Sublist.refl _)), (.cons rfl (by first | exact Le.refl _ | exact Le.nils | exact Le.row _ _ _ _ | exact Le.of_eq (by first | rfl | (simp; done) | (push_cast; rfl) | (simp; omega))) (.cons rfl (by first | exact Le.refl _ | exact Le.nils | exact Le.row _ _ _ _ | exact Le.of_eq (by first | rfl | (simp; done) | (push_cast; rfl) | (simp; omega))) .nil)), (.cons rfl (Le.refl _) (.cons rfl (Le.refl _) (.cons rfl (Le.refl _) (.cons rfl (Le.refl _) .nil))))⟩
        try simp only [zA, zO, zN, zM, zP, zQ, zD, zF, gd] at hb24
        have hi2 : ¬ 2 * b.length + 1 < (l.getD k []).length := by omega
        refine AC_exit ?_
        refine AC_region ?_
        refine AL_p rfl rfl (S_move rfl (.tmp rfl)) ?_
        refine AL_p rfl rfl (S_field 2 rfl (.tmp rfl) (by kernel_rfl)) ?_
        refine AL_step rfl rfl (S_store 0 rfl (.tmp rfl) (.tmp rfl) rfl (by first | exact Nat.le_of_ble_eq_true rfl | simp) rfl (by kernel_rfl)) ?_
        rintro _ _ ⟨rfl, rfl⟩
        refine AL_nil ?_
        exact ⟨b, ⟨by omega, fun e h1 h2 => by
          obtain ⟨q1, q2, q3, q4⟩ := parse_same h1 h2
          rw [hfv, if_pos hk1] at q4
          rw [hfv] at q2
          rw [← hkN q2] at q4
          exact hex_same q4 hz2 hz1 hi2⟩, (Sub.l (List.Sublist.refl _)), .nil, (.cons rfl (Le.refl _) (.cons rfl (Le.refl _) (.cons rfl (Le.refl _) (.cons rfl (Le.refl _) .nil))))⟩
      try simp only [zA, zO, zN, zM, zP, zQ, zD, zF, gd] at hb23
      have hk1 : ¬ (verbA v).2.2 = 1 := fun h => by have := (kind_hex (v := (v : Int)) (by omega) (by omega)).1 h; omega
      refine AC_skip ?_
      exact ⟨(l.getD k []), ⟨hD, fun e h1 h2 => by
        obtain ⟨q1, q2, q3, q4⟩ := parse_same h1 h2
        rw [hfv, if_neg hk1] at q4
        rw [hfv] at q2
        rw [← hkN q2] at q4
        exact q4.symm⟩, (Sub.l (List.Sublist.refl _)), .nil, (.cons rfl (Le.refl _) (.cons rfl (Le.refl _) (.cons rfl (Le.refl _) (.cons rfl (Le.refl _) .nil))))⟩
    rintro d ⟨hdl, hds⟩
    try dsimp only
    simp only [List.cons_append, List.nil_append]
    refine AC_seq ?_
    refine AC_seq ?_
    refine AC_region ?_
    refine AL_p rfl rfl ((S_loadN (m := 3) 0 rfl (.tmp rfl) rfl (by kernel_rfl) (by exact Nat.le_of_ble_eq_true rfl)).leV (V' := entAV ⟨(v : Int), numsOf (l.take k), d⟩) (by exact (Les.agg (.cons (Le.refl _) (.cons (Le_own hq) (.cons (Le.refl _) .nil)))))) ?_
    refine AL_p rfl rfl (S_pcall rfl (AEvs.cons (.tmp rfl) AEvs.nil) (ref45_Right_ok ⟨(v : Int), numsOf (l.take k), d⟩ (by show (numsOf _).length ≤ _; rw [nums_len, List.length_take]; omega) (by show d.length ≤ _; omega))) ?_
    refine AL_p rfl rfl (S_not rfl (.tmp rfl)) ?_
    refine AL_p rfl rfl (S_move rfl (.tmp rfl)) ?_
    refine AL_g rfl rfl (.tmp rfl) rfl (fun hg33 => (S_loadN (m := 3) 0 rfl (.tmp rfl) rfl (by kernel_rfl) (by exact Nat.le_of_ble_eq_true rfl)).leV (V' := entAV ⟨(v : Int), numsOf (l.take k), d⟩) (by exact (Les.agg (.cons (Le.refl _) (.cons (Le_own hq) (.cons (Le.refl _) .nil)))))) ?_
    refine AL_g rfl rfl (.tmp rfl) rfl (fun hg36 => S_pcall rfl (AEvs.cons (AEv.cond (.tmp rfl) (by first | assumption | exact gdAnd (by assumption) (by assumption))) AEvs.nil) (ref45_Line_ok ⟨(v : Int), numsOf (l.take k), d⟩ (by (try simp only [gd, Bool.not_eq_true', Bool.not_eq_false', decide_eq_true_eq, decide_eq_false_iff_not] at *); assumption))) ?_
    refine AL_g rfl rfl (.tmp rfl) rfl (fun hg39 => S_move rfl (.tmp rfl)) ?_
    refine AL_g rfl rfl (.tmp rfl) rfl (fun hg42 => S_neS rfl (AEv.cond (.tmp rfl) (by first | assumption | exact gdAnd (by assumption) (by assumption))) (AEv.cond (.tmp rfl) (by first | assumption | exact gdAnd (by assumption) (by assumption)))) ?_
    refine AL_p rfl rfl (S_or rfl (.tmp rfl) (fun hp45 => (AEv.cond (.tmp rfl) (by first | assumption | exact gdT hp45 | exact gdF hp45 | exact gdAnd (by assumption) (gdT hp45) | exact gdAnd (by assumption) (gdF hp45))))) ?_
    refine AL_nil ?_
    refine AC_cond (.tmp rfl) (fun hb46 => ?_) (fun hb46 => ?_)
    · try simp only [zA, zO, zN, zM, zP, zQ, zD, zF, gd] at hb46
      have hx : parseE s = none := parseE_none fun e h1 h2 => by
        have h3 := h2.trans hps
        obtain ⟨q1, q2, q3, q4⟩ := parse_same h1 h3
        rw [hfv] at q2
        have he := same_cand (v := (v : Int)) (k := k) (d := d) h1 h3 (by rw [hfv]) (by rw [hfv]; exact hkN q2) (hds e h1 h3)
        rw [← he] at hb46
        rcases hb46 with h | h
        · rw [h1] at h; cases h
        · exact h ((line_iff h1).2 h2)
      refine AC_seq ?_
      refine AC_region ?_
      refine AL_p rfl rfl (S_build (t := 24) (pl := [(0, 1), (1, 1), (2, 1)]) (zs := [.int .i64 0, .slice none 0 0, .string ⟨#[]⟩]) rfl AEvs.nil (by kernel_rfl) rfl) ?_
      refine AL_step rfl rfl (S_storeW 1 rfl (.tmp rfl) (.tmp rfl) rfl rfl rfl (by kernel_rfl)) ?_
      rintro _ _ ⟨rfl, rfl⟩
      refine AL_p rfl rfl (S_assign rfl (AEv.const _)) ?_
      refine AL_nil ?_
      refine AC_ret ?_
      refine ret_outs st rfl (by decide) (OutsR.row 1 rfl rfl (by kernel_rfl) (OutsR.tmp rfl OutsR.nil)) (Sub.l (((List.sublist_append_right _ _).cons _).cons _)) (Conv.le (Sub.l (((List.sublist_append_right _ _).cons _).cons _)) (Les.tup (.cons (Les.agg (.cons (Le.refl _) (.cons Le.nils (.cons (Le.refl _) .nil)))) (.cons (Le.refl _) .nil)))) ⟨by rw [hx]; rfl, rfl⟩ (.inl rfl)
    try simp only [zA, zO, zN, zM, zP, zQ, zD, zF, gd] at hb46
    have hx : parseE s = some ⟨(v : Int), numsOf (l.take k), d⟩ := parseE_yes hb46.1 ((line_iff hb46.1).1 hb46.2)
    refine AC_skip ?_
    refine AC_seq ?_
    refine AC_region ?_
    refine AL_p rfl rfl ((S_loadN (m := 3) 0 rfl (.tmp rfl) rfl (by kernel_rfl) (by exact Nat.le_of_ble_eq_true rfl)).leV (V' := entAV ⟨(v : Int), numsOf (l.take k), d⟩) (by exact (Les.agg (.cons (Le.refl _) (.cons (Le_own hq) (.cons (Le.refl _) .nil)))))) ?_
    refine AL_step rfl rfl (S_storeW 1 rfl (.tmp rfl) (.tmp rfl) rfl rfl rfl (by kernel_rfl)) ?_
    rintro _ _ ⟨rfl, rfl⟩
    refine AL_p rfl rfl (S_assign rfl (AEv.const _)) ?_
    refine AL_nil ?_
    refine AC_ret ?_
    refine ret_outs st rfl (by decide) (OutsR.row 1 rfl rfl (by kernel_rfl) (OutsR.tmp rfl OutsR.nil)) (Sub.l (((List.sublist_append_right _ _).cons _).cons _)) (Conv.refl (Sub.l (((List.sublist_append_right _ _).cons _).cons _)) _) ⟨by rw [hx]; rfl, rfl⟩ (.inl rfl)
  try simp only [zA, zO, zN, zM, zP, zQ, zD, zF, gd] at hb2
  have hx := parse_noverb hps (find_none fun j hj h0 => hall j hj h0 (by omega))
  refine AC_exit ?_
  refine AC_seq ?_
  refine AC_region ?_
  refine AL_p rfl rfl (S_build (t := 24) (pl := [(0, 1), (1, 1), (2, 1)]) (zs := [.int .i64 0, .slice none 0 0, .string ⟨#[]⟩]) rfl AEvs.nil (by kernel_rfl) rfl) ?_
  refine AL_step rfl rfl (S_storeW 0 rfl (.tmp rfl) (.tmp rfl) rfl rfl rfl (by kernel_rfl)) ?_
  rintro _ _ ⟨rfl, rfl⟩
  refine AL_p rfl rfl (S_assign rfl (AEv.const _)) ?_
  refine AL_nil ?_
  refine AC_ret ?_
  refine ret_outs st rfl (by decide) (OutsR.row 0 rfl rfl (by kernel_rfl) (OutsR.tmp rfl OutsR.nil)) (Sub.l (List.sublist_cons_self _ _)) (Conv.le (Sub.l (List.sublist_cons_self _ _)) (Les.tup (.cons (Les.agg (.cons (Le.refl _) (.cons Le.nils (.cons (Le.refl _) .nil)))) (.cons (Le.refl _) .nil)))) ⟨by rw [hx]; rfl, rfl⟩ (.inl rfl)

end Go.Proofs.YtfpkefhjomeeeaaDoor

/-
The walks of Go functions in the logic AL: what each of them answers.
Conditions: those of each theorem.
-/
set_option linter.unusedVariables false
set_option linter.unusedSimpArgs false
namespace Go.Proofs.YtfpkefhjomeeeaaDoor
open Go.AL Go.NumSpec

set_option maxRecDepth 100000 in
/-- provost/provostref45.Read -/
theorem ref45_Read_ok (s : List UInt8) (hs : s.length ≤ 1000000) : PCalls Tryd.prog 19 [.S s] (.tup [.sl ((readV s).1.map entAV), .int .i64 ((readV s).2 : Int)]) := by
  intro st
  refine ACalls_of (N := 47) Tryd.func19 (by kernel_rfl) rfl rfl rfl ?_
  have hpl := partsB_le 10 s
  have hpc := parts_few 10 s
  have hel0 := ents_len
  refine AC_seq ?_
  refine AC_region ?_
  refine AL_p rfl rfl (S_assign rfl (AEv.const _)) ?_
  refine AL_p rfl rfl (S_assign rfl (AEv.const _)) ?_
  refine AL_nil ?_
  refine AC_seq ?_
  refine AC_region ?_
  refine AL_p rfl rfl (S_assign rfl (AEv.const _)) ?_
  refine AL_nil ?_
  refine AC_seq ?_
  refine AC_region ?_
  refine AL_p rfl rfl (S_move rfl (.tmp rfl)) ?_
  refine AL_p rfl rfl (S_pcall rfl (AEvs.cons (.tmp rfl) (AEvs.cons (y := .int .u8 ((10 : UInt8).toNat : Int)) (AEv.const _) AEvs.nil)) (ref45_parts_ok s 10 (by omega))) ?_
  refine AL_p rfl rfl (S_assign rfl (.tmp rfl)) ?_
  refine AL_nil ?_
  refine AC_seq ?_
  refine AC_seq ?_
  refine AC_region ?_
  refine AL_p rfl rfl (S_assign rfl (AEv.const _)) ?_
  refine AL_nil ?_
  refine AC_block ?_
  refine AC_loopK (G := Nat × Own) [(5, _)] (fun g => g.1 ≤ (partsB 10 s).length ∧ g.2.ok ((entsOf ((partsB 10 s).take g.1)).map entAV) ∧ ∀ j (hj : j < (partsB 10 s).length), j < g.1 → badB (partsB 10 s)[j] = false) (fun g => [(4, ownAV g.2 3 ((entsOf ((partsB 10 s).take g.1)).map entAV)), (6, .int .i64 (g.1 : Int))]) (fun g => ownSt g.2 24 3 ((entsOf ((partsB 10 s).take (g.1))).map entAV) ++ st) (fun g => (partsB 10 s).length - g.1) ((0, .nil)) (⟨Nat.zero_le _, rfl, fun j _ h => absurd h (Nat.not_lt_zero _)⟩) (Sub.l (List.Sublist.refl _)) (.cons rfl (Le.refl _) .nil) (.cons rfl (by first | exact Le.refl _ | exact Le.nils | exact Le.row _ _ _ _ | exact Le.of_eq (by first | rfl | (simp; done) | (push_cast; rfl) | (simp; omega))) (.cons rfl (by first | exact Le.refl _ | exact Le.nils | exact Le.row _ _ _ _ | exact Le.of_eq (by first | rfl | (simp; done) | (push_cast; rfl) | (simp; omega))) .nil)) ?_
  rintro ⟨i, p⟩ ⟨hi, hq, hall⟩
  try dsimp only
  simp only [List.cons_append, List.nil_append]
  dsimp only at hi hq hall
  have hel := hel0 ((partsB 10 s).take i)
  rw [List.length_take] at hel
  refine AC_seq ?_
  refine AC_seq ?_
  refine AC_region ?_
  refine AL_p rfl rfl (S_move rfl (.tmp rfl)) ?_
  refine AL_p rfl rfl (S_move rfl (.tmp rfl)) ?_
  refine AL_p rfl rfl (by first | exact S_lenM (e := 9) rfl (.tmp rfl) (by kernel_rfl) | exact S_len (e := 9) rfl (.tmp rfl) (by kernel_rfl)) ?_
  refine AL_p rfl rfl (S_lss rfl (.tmp rfl) (.tmp rfl)) ?_
  refine AL_nil ?_
  refine AC_cond (.tmp rfl) (fun hb1 => ?_) (fun hb1 => ?_)
  · try simp only [zA, zO, zN, zM, zP, zQ, zD, zF, gd] at hb1
    have hil : i < (partsB 10 s).length := by omega
    refine AC_skip ?_
    refine AC_seq ?_
    refine AC_block ?_
    refine AC_seq ?_
    refine AC_seq ?_
    refine AC_region ?_
    refine AL_p rfl rfl (S_move rfl (.tmp rfl)) ?_
    refine AL_p rfl rfl (S_move rfl (.tmp rfl)) ?_
    refine AL_p rfl rfl (S_elemN (e := 9) 1 rfl (.tmp rfl) (.tmp rfl) (by kernel_rfl) (by kernel_rfl) (by omega) (fun _ => rfl)) ?_
    refine AL_p rfl rfl (S_loadP rfl (.tmp rfl) rfl (by kernel_rfl)) ?_
    refine AL_p rfl rfl (S_eqS rfl (.tmp rfl) (AEv.S _)) ?_
    refine AL_p rfl rfl (S_move rfl (.tmp rfl)) ?_
    refine AL_g rfl rfl (.tmp rfl) rfl (fun hg2 => S_move rfl (.tmp rfl)) ?_
    refine AL_g rfl rfl (.tmp rfl) rfl (fun hg5 => S_move rfl (.tmp rfl)) ?_
    refine AL_g rfl rfl (.tmp rfl) rfl (fun hg8 => S_elemN (e := 9) 1 rfl (AEv.cond (.tmp rfl) (by first | assumption | exact gdAnd (by assumption) (by assumption))) (AEv.cond (.tmp rfl) (by first | assumption | exact gdAnd (by assumption) (by assumption))) (by kernel_rfl) (by kernel_rfl) (by (try simp only [gd, Bool.and_eq_true, Bool.or_eq_true, Bool.not_eq_true', Bool.not_eq_false', decide_eq_true_eq, decide_eq_false_iff_not, Bool.or_eq_false_iff, Bool.and_eq_false_iff] at *); omega) (fun _ => rfl)) ?_
    refine AL_g rfl rfl (.tmp rfl) rfl (fun hg11 => S_loadP rfl (AEv.cond (.tmp rfl) (by first | assumption | exact gdAnd (by assumption) (by assumption))) rfl (by kernel_rfl)) ?_
    refine AL_g rfl rfl (.tmp rfl) rfl (fun hg14 => S_index rfl (AEv.cond (.tmp rfl) (by first | assumption | exact gdAnd (by assumption) (by assumption))) (AEv.const _) (by kernel_rfl) (by omega) (by (try simp only [gd, Bool.not_eq_true', Bool.not_eq_false', decide_eq_true_eq, decide_eq_false_iff_not] at *); exact Int.natCast_pos.2 (List.length_pos_iff.2 (by assumption)))) ?_
    refine AL_g rfl rfl (.tmp rfl) rfl (fun hg17 => S_eql rfl (AEv.cond (.tmp rfl) (by first | assumption | exact gdAnd (by assumption) (by assumption))) (AEv.const _)) ?_
    refine AL_p rfl rfl (S_or rfl (.tmp rfl) (fun hp20 => (AEv.cond (.tmp rfl) (by first | assumption | exact gdT hp20 | exact gdF hp20 | exact gdAnd (by assumption) (gdT hp20) | exact gdAnd (by assumption) (gdF hp20))))) ?_
    refine AL_nil ?_
    refine AC_cond (.tmp rfl) (fun hb21 => ?_) (fun hb21 => ?_)
    · try simp only [zA, zO, zN, zM, zP, zQ, zD, zF, gd] at hb21
      have hsk : skipB ((partsB 10 s)[i]'hil) = true := skip_yes hb21
      refine AC_exit ?_
      refine AC_region ?_
      refine AL_p rfl rfl (S_move rfl (.tmp rfl)) ?_
      refine AL_p rfl rfl (S_addI rfl (.tmp rfl) (AEv.const _) (by omega) (by omega)) ?_
      refine AL_p rfl rfl (S_assign rfl (.tmp rfl)) ?_
      refine AL_nil ?_
      refine ⟨(i + 1, p), ⟨by dsimp only; omega, by dsimp only; rw [ents_skip hil hsk]; exact hq, fun j hj h => ?_⟩, by dsimp only; omega, by dsimp only; rw [ents_skip hil hsk]; exact (Sub.l (List.Sublist.refl _)), (.cons rfl (Le.of_eq (by dsimp only; first | rw [ents_skip hil hsk] | rw [ents_nextD hil hsk hso])) (.cons rfl (by first | exact Le.refl _ | exact Le.nils | exact Le.row _ _ _ _ | exact Le.of_eq (by first | rfl | (simp; done) | (push_cast; rfl) | (simp; omega))) .nil)), (.cons rfl (Le.refl _) .nil)⟩
      rcases Nat.lt_or_ge j i with h9 | h9
      · exact hall j hj h9
      · have e9 : j = i := by dsimp only at h; omega
        subst e9; exact bad_skip hsk
    try simp only [zA, zO, zN, zM, zP, zQ, zD, zF, gd] at hb21
    have hsk : ¬ skipB ((partsB 10 s)[i]'hil) = true := skip_no hb21.1 hb21.2
    refine AC_skip ?_
    refine AC_seq ?_
    refine AC_region ?_
    refine AL_p rfl rfl (S_move rfl (.tmp rfl)) ?_
    refine AL_p rfl rfl (S_move rfl (.tmp rfl)) ?_
    refine AL_p rfl rfl (S_elemN (e := 9) 1 rfl (.tmp rfl) (.tmp rfl) (by kernel_rfl) (by kernel_rfl) (by omega) (fun _ => rfl)) ?_
    refine AL_p rfl rfl (S_loadP rfl (.tmp rfl) rfl (by kernel_rfl)) ?_
    refine AL_p rfl rfl (S_pcall rfl (AEvs.cons (.tmp rfl) AEvs.nil) (ref45_Parse_ok ((partsB 10 s)[i]'hil) (by have := hpl _ (List.getElem_mem hil); omega))) ?_
    refine AL_p rfl rfl (S_move rfl (.tmp rfl)) ?_
    refine AL_p rfl rfl (S_extract 0 rfl (.tmp rfl) rfl) ?_
    refine AL_p rfl rfl (S_extract 1 rfl (.tmp rfl) rfl) ?_
    refine AL_step rfl rfl (S_alloc [.int .i64 0, .slice none 0 0, .string ⟨#[]⟩] rfl (by kernel_rfl)) ?_
    rintro _ _ ⟨b7, rfl, rfl⟩
    refine AL_step rfl rfl (S_storeW 0 rfl (.tmp rfl) (.tmp rfl) rfl rfl rfl (by kernel_rfl)) ?_
    rintro _ _ ⟨rfl, rfl⟩
    refine AL_p rfl rfl (S_assign rfl (.tmp rfl)) ?_
    refine AL_nil ?_
    refine AC_seq ?_
    refine AC_seq ?_
    refine AC_region ?_
    refine AL_p rfl rfl (S_move rfl (.tmp rfl)) ?_
    refine AL_p rfl rfl (S_not rfl (.tmp rfl)) ?_
    refine AL_nil ?_
    refine AC_cond (.tmp rfl) (fun hb23 => ?_) (fun hb23 => ?_)
    · try simp only [zA, zO, zN, zM, zP, zQ, zD, zF, gd] at hb23
      have hno : (parseE ((partsB 10 s)[i]'hil)).isSome = false := by simpa using hb23
      have hx : readV s = ([], i + 1) := by
        have h9 := bad_hit hil (bad_yes hsk hno) fun j hj h => hall j hj h
        unfold readV; rw [h9, if_neg (by omega)]
      refine AC_seq ?_
      refine AC_region ?_
      refine AL_p rfl rfl (S_move rfl (.tmp rfl)) ?_
      refine AL_p rfl rfl (S_addI rfl (.tmp rfl) (AEv.const _) (by omega) (by omega)) ?_
      refine AL_p rfl rfl (S_assign rfl (AEv.const _)) ?_
      refine AL_p rfl rfl (S_assign rfl (.tmp rfl)) ?_
      refine AL_nil ?_
      refine AC_ret ?_
      refine ret_tmps (ts := [2, 3]) st rfl (by decide) rfl (Sub.l ((List.sublist_append_right _ _).cons _)) (Conv.le (Sub.l ((List.sublist_append_right _ _).cons _)) (Les.tup (.cons Le.nils (.cons (Le.refl _) .nil)))) ⟨by rw [hx]; rfl, rfl⟩ (.inl rfl)
    try simp only [zA, zO, zN, zM, zP, zQ, zD, zF, gd] at hb23
    have hso : (parseE ((partsB 10 s)[i]'hil)).isSome = true := by simpa using hb23
    refine AC_skip ?_
    refine AC_region ?_
    refine AL_p rfl rfl (S_move rfl (.tmp rfl)) ?_
    refine AL_p rfl rfl (S_loadN (m := 3) 0 rfl (.tmp rfl) rfl (by kernel_rfl) (by first | exact Nat.le_of_ble_eq_true rfl | (simp; omega) | simp)) ?_
    refine AL_p rfl rfl (S_buildSlice (e := 24) 3 rfl (AEvs.cons (.tmp rfl) AEvs.nil) rfl (by kernel_rfl) (by kernel_rfl) (by intro y hy; simp only [List.mem_cons, List.not_mem_nil, or_false] at hy; rcases hy with rfl <;> exact ⟨rfl, rfl⟩) (by decide) (by decide) (by decide)) ?_
    refine AL_step rfl rfl (S_appendM (f := entAV) (l := entsOf ((partsB 10 s).take i)) (l2 := [((parseE ((partsB 10 s)[i]'hil)).getD ent0)]) (e := 24) (size := 3) (bytes := 48) (p := p) ([_]) (st) rfl (.tmp rfl) (.tmp rfl) rfl hq (by kernel_rfl) (by simp) (fun _ => ⟨rfl, rfl⟩) (by simp only [List.length_singleton]; omega) (by simp only [List.length_singleton]; omega)) ?_
    rintro _ _ ⟨b8, k8, cap8, hx8, rfl, rfl⟩
    refine AL_p rfl rfl (S_assign rfl (.tmp rfl)) ?_
    refine AL_nil ?_
    refine AC_region ?_
    refine AL_p rfl rfl (S_move rfl (.tmp rfl)) ?_
    refine AL_p rfl rfl (S_addI rfl (.tmp rfl) (AEv.const _) (by omega) (by omega)) ?_
    refine AL_p rfl rfl (S_assign rfl (.tmp rfl)) ?_
    refine AL_nil ?_
    refine ⟨(i + 1, .row b8 k8 cap8), ⟨by dsimp only; omega, by dsimp only; rw [ents_nextD hil hsk hso]; exact hx8, fun j hj h => ?_⟩, by dsimp only; omega, by dsimp only; rw [ents_nextD hil hsk hso]; exact (Sub.l (List.sublist_cons_self _ _)), (.cons rfl (Le.of_eq (by dsimp only; first | rw [ents_skip hil hsk] | rw [ents_nextD hil hsk hso])) (.cons rfl (by first | exact Le.refl _ | exact Le.nils | exact Le.row _ _ _ _ | exact Le.of_eq (by first | rfl | (simp; done) | (push_cast; rfl) | (simp; omega))) .nil)), (.cons rfl (Le.refl _) .nil)⟩
    rcases Nat.lt_or_ge j i with h9 | h9
    · exact hall j hj h9
    · have e9 : j = i := by dsimp only at h; omega
      subst e9; exact bad_some hso
  try simp only [zA, zO, zN, zM, zP, zQ, zD, zF, gd] at hb1
  have hx : readV s = (entsOf (partsB 10 s), 0) := by
    have h9 := bad_none (ls := (partsB 10 s)) fun j hj => hall j hj (by omega)
    unfold readV; rw [h9, if_pos rfl]
  rw [List.take_of_length_le (by omega)] at hq ⊢
  refine AC_exit ?_
  refine AC_seq ?_
  refine AC_region ?_
  refine AL_p rfl rfl (S_move rfl (.tmp rfl)) ?_
  refine AL_p rfl rfl (S_assign rfl (.tmp rfl)) ?_
  refine AL_p rfl rfl (S_assign rfl (AEv.const _)) ?_
  refine AL_nil ?_
  refine AC_ret ?_
  refine ret_tmps (ts := [2, 3]) st rfl (by decide) rfl (Sub.l (List.sublist_append_right _ _)) (Conv.le (Sub.l (List.sublist_append_right _ _)) (Les.tup (.cons (Le_own hq) (.cons (Le.refl _) .nil)))) ⟨by rw [hx]; rfl, rfl⟩ (.inl rfl)

end Go.Proofs.YtfpkefhjomeeeaaDoor

/-
The walks of Go functions in the logic AL: what each of them answers.
Conditions: those of each theorem.
-/
set_option linter.unusedVariables false
set_option linter.unusedSimpArgs false
namespace Go.Proofs.YtfpkefhjomeeeaaDoor
open Go.AL Go.NumSpec

set_option maxRecDepth 100000 in
/-- provost/provostlaw45.works -/
theorem law45_works_ok : GCalls Tryd.prog tabs 7 [] (.bool true) := by
  intro st hG
  refine ACalls_of (N := 54) Tryd.func7 (by kernel_rfl) rfl rfl rfl ?_
  refine AC_seq ?_
  refine AC_region ?_
  refine AL_p rfl rfl (S_assign rfl (AEv.const _)) ?_
  refine AL_nil ?_
  refine AC_seq ?_
  refine AC_region ?_
  refine AL_p rfl rfl (S_gcall rfl (AEvs.cons (AEv.S _) AEvs.nil) ((GCalls.of_eq (scr_Parse_ok [103, 101, 116, 32, 49, 32, 53] (by decide)) (congrArg entP works_get)) _ (fun p hp => by repeat (first | exact hG p hp | exact hG p (List.mem_cons_of_mem _ hp) | refine List.mem_cons_of_mem _ ?_ | refine List.mem_append_right _ ?_)))) ?_
  refine AL_p rfl rfl (S_move rfl (.tmp rfl)) ?_
  refine AL_p rfl rfl (S_extract 0 rfl (.tmp rfl) rfl) ?_
  refine AL_p rfl rfl (S_extract 1 rfl (.tmp rfl) rfl) ?_
  refine AL_step rfl rfl (S_alloc [.int .i64 0, .slice none 0 0, .string ⟨#[]⟩] rfl (by kernel_rfl)) ?_
  rintro _ _ ⟨b1, rfl, rfl⟩
  refine AL_step rfl rfl (S_storeW 0 rfl (.tmp rfl) (.tmp rfl) rfl rfl rfl (by kernel_rfl)) ?_
  rintro _ _ ⟨rfl, rfl⟩
  refine AL_p rfl rfl (S_assign rfl (.tmp rfl)) ?_
  refine AL_nil ?_
  refine AC_seq ?_
  refine AC_region ?_
  refine AL_p rfl rfl (S_gcall rfl (AEvs.cons (AEv.S _) AEvs.nil) ((GCalls.of_eq (scr_Read_ok [35, 32, 97, 10, 10, 116, 105, 99, 107, 10, 114, 111, 117, 110, 100, 10] (by decide)) (congrArg (fun x : List Ent × Nat => AV.tup [.sl (x.1.map entAV), erV 29 109 (lineEr x.2)]) works_txt)) _ (fun p hp => by repeat (first | exact hG p hp | exact hG p (List.mem_cons_of_mem _ hp) | refine List.mem_cons_of_mem _ ?_ | refine List.mem_append_right _ ?_)))) ?_
  refine AL_p rfl rfl (S_move rfl (.tmp rfl)) ?_
  refine AL_p rfl rfl (S_extract 0 rfl (.tmp rfl) rfl) ?_
  refine AL_p rfl rfl (S_extract 1 rfl (.tmp rfl) rfl) ?_
  refine AL_p rfl rfl (S_assign rfl (.tmp rfl)) ?_
  refine AL_p rfl rfl (S_assign rfl (.tmp rfl)) ?_
  refine AL_nil ?_
  refine AC_seq ?_
  refine AC_region ?_
  refine AL_p rfl rfl (S_move rfl (.tmp rfl)) ?_
  refine AL_p rfl rfl (S_eql rfl (.tmp rfl) (AEv.const _)) ?_
  refine AL_p rfl rfl (S_move rfl (.tmp rfl)) ?_
  refine AL_g rfl rfl (.tmp rfl) rfl (fun hg2 => S_field 0 rfl (.tmp rfl) (by kernel_rfl)) ?_
  refine AL_g rfl rfl (.tmp rfl) rfl (fun hg5 => S_load 0 rfl (AEv.cond (.tmp rfl) (by first | assumption | exact gdAnd (by assumption) (by assumption))) rfl rfl (by kernel_rfl)) ?_
  refine AL_g rfl rfl (.tmp rfl) rfl (fun hg8 => S_eql rfl (AEv.cond (.tmp rfl) (by first | assumption | exact gdAnd (by assumption) (by assumption))) (AEv.const _)) ?_
  refine AL_p rfl rfl (S_and rfl (.tmp rfl) (fun hp11 => (AEv.cond (.tmp rfl) (by first | assumption | exact gdT hp11 | exact gdF hp11 | exact gdAnd (by assumption) (gdT hp11) | exact gdAnd (by assumption) (gdF hp11))))) ?_
  refine AL_p rfl rfl (S_move rfl (.tmp rfl)) ?_
  refine AL_g rfl rfl (.tmp rfl) rfl (fun hg12 => S_field 1 rfl (.tmp rfl) (by kernel_rfl)) ?_
  refine AL_g rfl rfl (.tmp rfl) rfl (fun hg15 => S_load 0 rfl (AEv.cond (.tmp rfl) (by first | assumption | exact gdAnd (by assumption) (by assumption))) rfl rfl (by kernel_rfl)) ?_
  refine AL_g rfl rfl (.tmp rfl) rfl (fun hg18 => by first | exact S_lenM (e := 3) rfl (AEv.cond (.tmp rfl) (by first | assumption | exact gdAnd (by assumption) (by assumption))) (by kernel_rfl) | exact S_len (e := 3) rfl (AEv.cond (.tmp rfl) (by first | assumption | exact gdAnd (by assumption) (by assumption))) (by kernel_rfl)) ?_
  refine AL_g rfl rfl (.tmp rfl) rfl (fun hg21 => S_eql rfl (AEv.cond (.tmp rfl) (by first | assumption | exact gdAnd (by assumption) (by assumption))) (AEv.const _)) ?_
  refine AL_p rfl rfl (S_and rfl (.tmp rfl) (fun hp24 => (AEv.cond (.tmp rfl) (by first | assumption | exact gdT hp24 | exact gdF hp24 | exact gdAnd (by assumption) (gdT hp24) | exact gdAnd (by assumption) (gdF hp24))))) ?_
  refine AL_p rfl rfl (S_move rfl (.tmp rfl)) ?_
  refine AL_g rfl rfl (.tmp rfl) rfl (fun hg25 => S_field 1 rfl (.tmp rfl) (by kernel_rfl)) ?_
  refine AL_g rfl rfl (.tmp rfl) rfl (fun hg28 => S_load 0 rfl (AEv.cond (.tmp rfl) (by first | assumption | exact gdAnd (by assumption) (by assumption))) rfl rfl (by kernel_rfl)) ?_
  refine AL_g rfl rfl (.tmp rfl) rfl (fun hg31 => S_elemD (e := 3) (i := 1) (f := (fun n : Int => AV.int .i64 n)) (l := [1, 5]) (0 : Int) 1 rfl (AEv.cond (.tmp rfl) (by first | assumption | exact gdAnd (by assumption) (by assumption))) (AEv.const _) (by kernel_rfl) (by kernel_rfl) (by decide) (fun _ => rfl)) ?_
  refine AL_g rfl rfl (.tmp rfl) rfl (fun hg34 => S_loadP rfl (AEv.cond (.tmp rfl) (by first | assumption | exact gdAnd (by assumption) (by assumption))) rfl (by kernel_rfl)) ?_
  refine AL_g rfl rfl (.tmp rfl) rfl (fun hg37 => S_eql rfl (AEv.cond (.tmp rfl) (by first | assumption | exact gdAnd (by assumption) (by assumption))) (AEv.const _)) ?_
  refine AL_p rfl rfl (S_and rfl (.tmp rfl) (fun hp40 => (AEv.cond (.tmp rfl) (by first | assumption | exact gdT hp40 | exact gdF hp40 | exact gdAnd (by assumption) (gdT hp40) | exact gdAnd (by assumption) (gdF hp40))))) ?_
  refine AL_p rfl rfl (S_move rfl (.tmp rfl)) ?_
  refine AL_g rfl rfl (.tmp rfl) rfl (fun hg41 => S_loadN (m := 3) 0 rfl (.tmp rfl) rfl (by kernel_rfl) (by first | exact Nat.le_of_ble_eq_true rfl | (simp; omega) | simp)) ?_
  refine AL_g rfl rfl (.tmp rfl) rfl (fun hg44 => S_gcall rfl (AEvs.cons (AEv.cond (.tmp rfl) (by first | assumption | exact gdAnd (by assumption) (by assumption))) AEvs.nil) ((GCalls.of_eq (scr_Line_ok ⟨14, [1, 5], []⟩ (by decide)) (congrArg AV.S works_line)) _ (fun p hp => by repeat (first | exact hG p hp | exact hG p (List.mem_cons_of_mem _ hp) | refine List.mem_cons_of_mem _ ?_ | refine List.mem_append_right _ ?_)))) ?_
  refine AL_g rfl rfl (.tmp rfl) rfl (fun hg47 => S_eqS rfl (AEv.cond (.tmp rfl) (by first | assumption | exact gdAnd (by assumption) (by assumption))) (AEv.S _)) ?_
  refine AL_p rfl rfl (S_and rfl (.tmp rfl) (fun hp50 => (AEv.cond (.tmp rfl) (by first | assumption | exact gdT hp50 | exact gdF hp50 | exact gdAnd (by assumption) (gdT hp50) | exact gdAnd (by assumption) (gdF hp50))))) ?_
  refine AL_p rfl rfl (S_move rfl (.tmp rfl)) ?_
  refine AL_g rfl rfl (.tmp rfl) rfl (fun hg51 => S_move rfl (.tmp rfl)) ?_
  refine AL_g rfl rfl (.tmp rfl) rfl (fun hg54 => S_eqlE (er_is 29 109 (lineEr 0)) rfl (AEv.cond (.tmp rfl) (by first | assumption | exact gdAnd (by assumption) (by assumption))) (by kernel_rfl)) ?_
  refine AL_p rfl rfl (S_and rfl (.tmp rfl) (fun hp57 => (AEv.cond (.tmp rfl) (by first | assumption | exact gdT hp57 | exact gdF hp57 | exact gdAnd (by assumption) (gdT hp57) | exact gdAnd (by assumption) (gdF hp57))))) ?_
  refine AL_p rfl rfl (S_move rfl (.tmp rfl)) ?_
  refine AL_g rfl rfl (.tmp rfl) rfl (fun hg58 => S_move rfl (.tmp rfl)) ?_
  refine AL_g rfl rfl (.tmp rfl) rfl (fun hg61 => by first | exact S_lenM (e := 28) rfl (AEv.cond (.tmp rfl) (by first | assumption | exact gdAnd (by assumption) (by assumption))) (by kernel_rfl) | exact S_len (e := 28) rfl (AEv.cond (.tmp rfl) (by first | assumption | exact gdAnd (by assumption) (by assumption))) (by kernel_rfl)) ?_
  refine AL_g rfl rfl (.tmp rfl) rfl (fun hg64 => S_eql rfl (AEv.cond (.tmp rfl) (by first | assumption | exact gdAnd (by assumption) (by assumption))) (AEv.const _)) ?_
  refine AL_p rfl rfl (S_and rfl (.tmp rfl) (fun hp67 => (AEv.cond (.tmp rfl) (by first | assumption | exact gdT hp67 | exact gdF hp67 | exact gdAnd (by assumption) (gdT hp67) | exact gdAnd (by assumption) (gdF hp67))))) ?_
  refine AL_p rfl rfl (S_move rfl (.tmp rfl)) ?_
  refine AL_g rfl rfl (.tmp rfl) rfl (fun hg68 => S_move rfl (.tmp rfl)) ?_
  refine AL_g rfl rfl (.tmp rfl) rfl (fun hg71 => S_elemD (e := 28) (i := 1) (f := entAV) (l := [⟨5, [], []⟩, ⟨6, [], []⟩]) (⟨0, [], []⟩ : Ent) 3 rfl (AEv.cond (.tmp rfl) (by first | assumption | exact gdAnd (by assumption) (by assumption))) (AEv.const _) (by kernel_rfl) (by kernel_rfl) (by decide) (fun _ => rfl)) ?_
  refine AL_g rfl rfl (.tmp rfl) rfl (fun hg74 => S_fieldP 0 rfl (AEv.cond (.tmp rfl) (by first | assumption | exact gdAnd (by assumption) (by assumption))) (by kernel_rfl)) ?_
  refine AL_g rfl rfl (.tmp rfl) rfl (fun hg77 => S_loadP rfl (AEv.cond (.tmp rfl) (by first | assumption | exact gdAnd (by assumption) (by assumption))) rfl (by kernel_rfl)) ?_
  refine AL_g rfl rfl (.tmp rfl) rfl (fun hg80 => S_eql rfl (AEv.cond (.tmp rfl) (by first | assumption | exact gdAnd (by assumption) (by assumption))) (AEv.const _)) ?_
  refine AL_p rfl rfl (S_and rfl (.tmp rfl) (fun hp83 => (AEv.cond (.tmp rfl) (by first | assumption | exact gdT hp83 | exact gdF hp83 | exact gdAnd (by assumption) (gdT hp83) | exact gdAnd (by assumption) (gdF hp83))))) ?_
  refine AL_p rfl rfl (S_assign rfl (.tmp rfl)) ?_
  refine AL_nil ?_
  refine AC_ret ?_
  refine ret_tmp st rfl rfl (Sub.l (List.sublist_cons_self _ _)) (Conv.refl (Sub.l (List.sublist_cons_self _ _)) _) ⟨by rfl, rfl⟩ (.inl rfl)

set_option maxRecDepth 100000 in
/-- provost/provostlaw45.ScriptLines -/
theorem law_ScriptLines (e : Ent) (s : List UInt8) : GCalls Tryd.prog tabs 3 [entAV e, .S s] (.bool true) := by
  intro st hG
  refine ACalls_of (N := 67) Tryd.func3 (by kernel_rfl) rfl rfl rfl ?_
  refine AC_seq ?_
  refine AC_region ?_
  refine AL_step rfl rfl (S_box rfl (.tmp rfl)) ?_
  rintro _ _ ⟨b2, rfl, rfl⟩
  refine AL_p rfl rfl (S_assign rfl (AEv.const _)) ?_
  refine AL_nil ?_
  refine AC_seq ?_
  refine AC_seq ?_
  refine AC_region ?_
  refine AL_p rfl rfl (S_loadN (m := 3) 0 rfl (.tmp rfl) rfl (by kernel_rfl) (by first | exact Nat.le_of_ble_eq_true rfl | (simp; omega) | simp)) ?_
  refine AL_p rfl rfl (S_pcall rfl (AEvs.cons (.tmp rfl) AEvs.nil) (law45_light_ok e)) ?_
  refine AL_p rfl rfl (S_not rfl (.tmp rfl)) ?_
  refine AL_p rfl rfl (S_move rfl (.tmp rfl)) ?_
  refine AL_g rfl rfl (.tmp rfl) rfl (fun hg2 => S_move rfl (.tmp rfl)) ?_
  refine AL_g rfl rfl (.tmp rfl) rfl (fun hg5 => S_lenS (ts := #[]) rfl (AEv.cond (.tmp rfl) (by first | assumption | exact gdAnd (by assumption) (by assumption))) (by kernel_rfl)) ?_
  refine AL_g rfl rfl (.tmp rfl) rfl (fun hg8 => S_gtr rfl (AEv.cond (.tmp rfl) (by first | assumption | exact gdAnd (by assumption) (by assumption))) (AEv.const _)) ?_
  refine AL_p rfl rfl (S_or rfl (.tmp rfl) (fun hp11 => (AEv.cond (.tmp rfl) (by first | assumption | exact gdT hp11 | exact gdF hp11 | exact gdAnd (by assumption) (gdT hp11) | exact gdAnd (by assumption) (gdF hp11))))) ?_
  refine AL_nil ?_
  refine AC_cond (.tmp rfl) (fun hb12 => ?_) (fun hb12 => ?_)
  · try simp only [zA, zO, zN, zM, zP, zQ, zD, zF, gd] at hb12
    refine AC_seq ?_
    refine AC_region ?_
    refine AL_p rfl rfl (S_gcall rfl AEvs.nil ((law45_works_ok) _ (fun p hp => by repeat (first | exact hG p hp | exact hG p (List.mem_cons_of_mem _ hp) | refine List.mem_cons_of_mem _ ?_ | refine List.mem_append_right _ ?_)))) ?_
    refine AL_p rfl rfl (S_assign rfl (.tmp rfl)) ?_
    refine AL_nil ?_
    refine AC_ret ?_
    refine ret_tmp st rfl rfl (Sub.l (List.sublist_cons_self _ _)) (Conv.refl (Sub.l (List.sublist_cons_self _ _)) _) ⟨rfl, rfl⟩ (.inl rfl)
  try simp only [zA, zO, zN, zM, zP, zQ, zD, zF, gd] at hb12
  try simp only [Bool.and_eq_true, decide_eq_true_eq] at hb12
  have hs1 : e.n.length ≤ 20 := by have := hb12.1.1; omega
  have hs2 : e.data.length ≤ 1200 := by have := hb12.1.2; omega
  have hs3 : s.length ≤ 3000 := by have := hb12.2; omega
  refine AC_skip ?_
  refine AC_seq ?_
  refine AC_region ?_
  refine AL_p rfl rfl (S_assign rfl (AEv.S _)) ?_
  refine AL_nil ?_
  refine AC_joinK (G := Unit) [(1, _), (2, _), (4, _)] (fun _ => True) (fun _ => [(5, .S (lineV e))]) (fun _ => (b2, .cells (entL e)) :: st) (.cons rfl (Le.refl _) (.cons rfl (Le.refl _) (.cons rfl (Le.refl _) .nil))) ?_ ?_
  · refine AC_seq ?_
    refine AC_region ?_
    refine AL_p rfl rfl (S_loadN (m := 3) 0 rfl (.tmp rfl) rfl (by kernel_rfl) (by first | exact Nat.le_of_ble_eq_true rfl | (simp; omega) | simp)) ?_
    refine AL_p rfl rfl (S_pcall rfl (AEvs.cons (.tmp rfl) AEvs.nil) (ref45_Right_ok e (by omega) (by omega))) ?_
    refine AL_nil ?_
    refine AC_cond (.tmp rfl) (fun hb13 => ?_) (fun hb13 => ?_)
    · try simp only [zA, zO, zN, zM, zP, zQ, zD, zF, gd] at hb13
      have hr : rightB e = true := hb13
      refine AC_region ?_
      refine AL_p rfl rfl (S_loadN (m := 3) 0 rfl (.tmp rfl) rfl (by kernel_rfl) (by first | exact Nat.le_of_ble_eq_true rfl | (simp; omega) | simp)) ?_
      refine AL_p rfl rfl (S_pcall rfl (AEvs.cons (.tmp rfl) AEvs.nil) (ref45_Line_ok e hr)) ?_
      refine AL_p rfl rfl (S_assign rfl (.tmp rfl)) ?_
      refine AL_nil ?_
      exact ⟨(), trivial, (Sub.l (List.Sublist.refl _)), (.cons rfl (Le.of_eq (congrArg AV.S (by unfold lineV; first | rw [if_pos hr] | rw [if_neg hr]))) .nil), (.cons rfl (Le.refl _) (.cons rfl (Le.refl _) (.cons rfl (Le.refl _) .nil)))⟩
    try simp only [zA, zO, zN, zM, zP, zQ, zD, zF, gd] at hb13
    have hr : ¬ rightB e = true := by simpa using hb13
    refine AC_skip ?_
    exact ⟨(), trivial, (Sub.l (List.Sublist.refl _)), (.cons rfl (Le.of_eq (congrArg AV.S (by unfold lineV; first | rw [if_pos hr] | rw [if_neg hr]))) .nil), (.cons rfl (Le.refl _) (.cons rfl (Le.refl _) (.cons rfl (Le.refl _) .nil)))⟩
  rintro _ _
  try dsimp only
  simp only [List.cons_append, List.nil_append]
  refine AC_seq ?_
  refine AC_region ?_
  refine AL_p rfl rfl (S_move rfl (.tmp rfl)) ?_
  refine AL_p rfl rfl (S_gcall rfl (AEvs.cons (.tmp rfl) AEvs.nil) ((scr_Parse_ok s (by omega)) _ (fun p hp => by repeat (first | exact hG p hp | exact hG p (List.mem_cons_of_mem _ hp) | refine List.mem_cons_of_mem _ ?_ | refine List.mem_append_right _ ?_)))) ?_
  refine AL_p rfl rfl (S_move rfl (.tmp rfl)) ?_
  refine AL_p rfl rfl (S_extract 0 rfl (.tmp rfl) rfl) ?_
  refine AL_p rfl rfl (S_extract 1 rfl (.tmp rfl) rfl) ?_
  refine AL_step rfl rfl (S_alloc [.int .i64 0, .slice none 0 0, .string ⟨#[]⟩] rfl (by kernel_rfl)) ?_
  rintro _ _ ⟨b6, rfl, rfl⟩
  refine AL_step rfl rfl (S_storeW 0 rfl (.tmp rfl) (.tmp rfl) rfl rfl rfl (by kernel_rfl)) ?_
  rintro _ _ ⟨rfl, rfl⟩
  refine AL_p rfl rfl (S_assign rfl (.tmp rfl)) ?_
  refine AL_nil ?_
  refine AC_seq ?_
  refine AC_region ?_
  refine AL_p rfl rfl (S_move rfl (.tmp rfl)) ?_
  refine AL_p rfl rfl (S_pcall rfl (AEvs.cons (.tmp rfl) AEvs.nil) (ref45_Parse_ok s (by omega))) ?_
  refine AL_p rfl rfl (S_move rfl (.tmp rfl)) ?_
  refine AL_p rfl rfl (S_extract 0 rfl (.tmp rfl) rfl) ?_
  refine AL_p rfl rfl (S_extract 1 rfl (.tmp rfl) rfl) ?_
  refine AL_step rfl rfl (S_alloc [.int .i64 0, .slice none 0 0, .string ⟨#[]⟩] rfl (by kernel_rfl)) ?_
  rintro _ _ ⟨b8, rfl, rfl⟩
  refine AL_step rfl rfl (S_storeW 0 rfl (.tmp rfl) (.tmp rfl) rfl rfl rfl (by kernel_rfl)) ?_
  rintro _ _ ⟨rfl, rfl⟩
  refine AL_p rfl rfl (S_assign rfl (.tmp rfl)) ?_
  refine AL_nil ?_
  refine AC_seq ?_
  refine AC_draw (by kernel_rfl) (by kernel_rfl) (.cons rfl (Q_p rfl (S_loadN (m := 3) 2 rfl (.tmp rfl) rfl (by kernel_rfl) (by first | exact Nat.le_of_ble_eq_true rfl | (simp; omega) | simp))) <|
      .cons rfl (Q_p rfl (S_pcall rfl (AEvs.cons (.tmp rfl) AEvs.nil) (law45_To_ok e))) <|
      .cons rfl (Q_p rfl (S_gcall rfl (AEvs.cons (.tmp rfl) AEvs.nil) ((scr_Right_ok e (by omega)) _ (fun p hp => by repeat (first | exact hG p hp | exact hG p (List.mem_cons_of_mem _ hp) | refine List.mem_cons_of_mem _ ?_ | refine List.mem_append_right _ ?_))))) <|
      .cons rfl (Q_p rfl (S_loadN (m := 3) 2 rfl (.tmp rfl) rfl (by kernel_rfl) (by first | exact Nat.le_of_ble_eq_true rfl | (simp; omega) | simp))) <|
      .cons rfl (Q_p rfl (S_pcall rfl (AEvs.cons (.tmp rfl) AEvs.nil) (ref45_Right_ok e (by omega) (by omega)))) <|
      .cons rfl (Q_p rfl (S_eqB rfl (.tmp rfl) (.tmp rfl) (by kernel_rfl))) <|
      .cons rfl (Q_p rfl (S_move rfl (.tmp rfl))) <|
      .cons rfl (Q_g rfl rfl (.tmp rfl) (fun hg16 => S_loadN (m := 3) 2 rfl (.tmp rfl) rfl (by kernel_rfl) (by first | exact Nat.le_of_ble_eq_true rfl | (simp; omega) | simp))) <|
      .cons rfl (Q_g rfl rfl (.tmp rfl) (fun hg19 => S_pcall rfl (AEvs.cons (AEv.cond (.tmp rfl) (by first | assumption | exact gdAnd (by assumption) (by assumption))) AEvs.nil) (law45_To_ok e))) <|
      .cons rfl (Q_g rfl rfl (.tmp rfl) (fun hg22 => S_gcall rfl (AEvs.cons (AEv.cond (.tmp rfl) (by first | assumption | exact gdAnd (by assumption) (by assumption))) AEvs.nil) ((scr_Line_ok e (by omega)) _ (fun p hp => by repeat (first | exact hG p hp | exact hG p (List.mem_cons_of_mem _ hp) | refine List.mem_cons_of_mem _ ?_ | refine List.mem_append_right _ ?_))))) <|
      .cons rfl (Q_g rfl rfl (.tmp rfl) (fun hg25 => S_move rfl (.tmp rfl))) <|
      .cons rfl (Q_g rfl rfl (.tmp rfl) (fun hg28 => S_eqS rfl (AEv.cond (.tmp rfl) (by first | assumption | exact gdAnd (by assumption) (by assumption))) (AEv.cond (.tmp rfl) (by first | assumption | exact gdAnd (by assumption) (by assumption))))) <|
      .cons rfl (Q_p rfl (S_and rfl (.tmp rfl) (fun hp31 => (AEv.cond (.tmp rfl) (by first | assumption | exact gdT hp31 | exact gdF hp31 | exact gdAnd (by assumption) (gdT hp31) | exact gdAnd (by assumption) (gdF hp31)))))) <|
      .cons rfl (Q_p rfl (S_move rfl (.tmp rfl))) <|
      .cons rfl (Q_g rfl rfl (.tmp rfl) (fun hg32 => S_loadN (m := 3) 1 rfl (.tmp rfl) rfl (by kernel_rfl) (by first | exact Nat.le_of_ble_eq_true rfl | (simp; omega) | simp))) <|
      .cons rfl (Q_g rfl rfl (.tmp rfl) (fun hg35 => S_loadN (m := 3) 0 rfl (.tmp rfl) rfl (by kernel_rfl) (by first | exact Nat.le_of_ble_eq_true rfl | (simp; omega) | simp))) <|
      .cons rfl (Q_g rfl rfl (.tmp rfl) (fun hg38 => S_pcall rfl (AEvs.cons (AEv.cond (.tmp rfl) (by first | assumption | exact gdAnd (by assumption) (by assumption))) (AEvs.cons (AEv.cond (.tmp rfl) (by first | assumption | exact gdAnd (by assumption) (by assumption))) AEvs.nil)) (law45_is_ok ((parseE s).getD ent0) ((parseE s).getD ent0) (by have := (entD_right s).1; omega) (by have := (entD_right s).1; omega)))) <|
      .cons rfl (Q_p rfl (S_and rfl (.tmp rfl) (fun hp41 => (AEv.cond (.tmp rfl) (by first | assumption | exact gdT hp41 | exact gdF hp41 | exact gdAnd (by assumption) (gdT hp41) | exact gdAnd (by assumption) (gdF hp41)))))) <|
      .cons rfl (Q_p rfl (S_move rfl (.tmp rfl))) <|
      .cons rfl (Q_g rfl rfl (.tmp rfl) (fun hg42 => S_move rfl (.tmp rfl))) <|
      .cons rfl (Q_g rfl rfl (.tmp rfl) (fun hg45 => S_eql rfl (AEv.cond (.tmp rfl) (by first | assumption | exact gdAnd (by assumption) (by assumption))) (AEv.const _))) <|
      .cons rfl (Q_g rfl rfl (.tmp rfl) (fun hg48 => S_move rfl (.tmp rfl))) <|
      .cons rfl (Q_g rfl rfl (.tmp rfl) (fun hg51 => S_eqB rfl (AEv.cond (.tmp rfl) (by first | assumption | exact gdAnd (by assumption) (by assumption))) (AEv.cond (.tmp rfl) (by first | assumption | exact gdAnd (by assumption) (by assumption))) (by kernel_rfl))) <|
      .cons rfl (Q_p rfl (S_and rfl (.tmp rfl) (fun hp54 => (AEv.cond (.tmp rfl) (by first | assumption | exact gdT hp54 | exact gdF hp54 | exact gdAnd (by assumption) (gdT hp54) | exact gdAnd (by assumption) (gdF hp54)))))) <|
      .cons rfl (Q_p rfl (S_move rfl (.tmp rfl))) <|
      .cons rfl (Q_g rfl rfl (.tmp rfl) (fun hg55 => S_move rfl (.tmp rfl))) <|
      .cons rfl (Q_g rfl rfl (.tmp rfl) (fun hg58 => S_move rfl (AEv.cond (.tmp rfl) (by first | assumption | exact gdAnd (by assumption) (by assumption))))) <|
      .cons rfl (Q_gg rfl rfl (.tmp rfl) (fun hg61 hg62 hg63 => S_move rfl (.tmp rfl))) <|
      .cons rfl (Q_gg rfl rfl (.tmp rfl) (fun hg64 hg65 hg66 => S_eql rfl (AEv.cond (.tmp rfl) (by first | assumption | exact gdAnd (by assumption) (by assumption))) (AEv.const _))) <|
      .cons rfl (Q_g rfl rfl (.tmp rfl) (fun hg67 => S_or rfl (AEv.cond (.tmp rfl) (by first | assumption | exact gdAnd (by assumption) (by assumption))) (fun hp70 => (AEv.cond (.tmp rfl) (by first | assumption | exact gdT hp70 | exact gdF hp70 | exact gdAnd (by assumption) (gdT hp70) | exact gdAnd (by assumption) (gdF hp70)))))) <|
      .cons rfl (Q_p rfl (S_and rfl (.tmp rfl) (fun hp71 => (AEv.cond (.tmp rfl) (by first | assumption | exact gdT hp71 | exact gdF hp71 | exact gdAnd (by assumption) (gdT hp71) | exact gdAnd (by assumption) (gdF hp71)))))) <|
      .cons rfl (Q_p rfl (S_move rfl (.tmp rfl))) <|
      .cons rfl (Q_g rfl rfl (.tmp rfl) (fun hg72 => S_gcall rfl AEvs.nil ((law45_works_ok) _ (fun p hp => by repeat (first | exact hG p hp | exact hG p (List.mem_cons_of_mem _ hp) | refine List.mem_cons_of_mem _ ?_ | refine List.mem_append_right _ ?_))))) <|
      .cons rfl (Q_p rfl (S_and rfl (.tmp rfl) (fun hp75 => (AEv.cond (.tmp rfl) (by first | assumption | exact gdT hp75 | exact gdF hp75 | exact gdAnd (by assumption) (gdT hp75) | exact gdAnd (by assumption) (gdF hp75)))))) <|
      .cons rfl (Q_p rfl (S_assign rfl (.tmp rfl))) <|
      .nil) ?_
  refine AC_ret ?_
  refine ret_tmp st rfl rfl (Sub.l (((List.sublist_cons_self _ _).trans (List.sublist_cons_self _ _)).trans (List.sublist_cons_self _ _))) (Conv.refl (Sub.l (((List.sublist_cons_self _ _).trans (List.sublist_cons_self _ _)).trans (List.sublist_cons_self _ _))) _) ⟨congrArg AV.bool (by cases parseE s <;> simp), rfl⟩ (.inl rfl)

set_option maxRecDepth 100000 in
/-- provost/provostlaw45.ScriptReads -/
theorem law_ScriptReads (s : List UInt8) (l : List Ent) : GCalls Tryd.prog tabsE 5 [.S s, .sl (l.map entAV)] (.bool true) := by
  intro st hG
  refine ACalls_of (N := 122) Tryd.func5 (by kernel_rfl) rfl rfl rfl ?_
  have hrn := fun e he => ents_n (s := s) (e := e) he
  have hrl := read_bad s
  refine AC_seq ?_
  refine AC_region ?_
  refine AL_p rfl rfl (S_assign rfl (AEv.const _)) ?_
  refine AL_nil ?_
  refine AC_seq ?_
  refine AC_seq ?_
  refine AC_region ?_
  refine AL_p rfl rfl (S_move rfl (.tmp rfl)) ?_
  refine AL_p rfl rfl (S_lenS (ts := #[]) rfl (.tmp rfl) (by kernel_rfl)) ?_
  refine AL_p rfl rfl (S_gtr rfl (.tmp rfl) (AEv.const _)) ?_
  refine AL_p rfl rfl (S_move rfl (.tmp rfl)) ?_
  refine AL_g rfl rfl (.tmp rfl) rfl (fun hg1 => S_move rfl (.tmp rfl)) ?_
  refine AL_g rfl rfl (.tmp rfl) rfl (fun hg4 => by first | exact S_lenM (e := 24) rfl (AEv.cond (.tmp rfl) (by first | assumption | exact gdAnd (by assumption) (by assumption))) (by kernel_rfl) | exact S_len (e := 24) rfl (AEv.cond (.tmp rfl) (by first | assumption | exact gdAnd (by assumption) (by assumption))) (by kernel_rfl)) ?_
  refine AL_g rfl rfl (.tmp rfl) rfl (fun hg7 => S_gtr rfl (AEv.cond (.tmp rfl) (by first | assumption | exact gdAnd (by assumption) (by assumption))) (AEv.const _)) ?_
  refine AL_p rfl rfl (S_or rfl (.tmp rfl) (fun hp10 => (AEv.cond (.tmp rfl) (by first | assumption | exact gdT hp10 | exact gdF hp10 | exact gdAnd (by assumption) (gdT hp10) | exact gdAnd (by assumption) (gdF hp10))))) ?_
  refine AL_nil ?_
  refine AC_cond (.tmp rfl) (fun hb11 => ?_) (fun hb11 => ?_)
  · try simp only [zA, zO, zN, zM, zP, zQ, zD, zF, gd] at hb11
    refine AC_seq ?_
    refine AC_region ?_
    refine AL_p rfl rfl (S_gcall rfl AEvs.nil ((law45_works_ok) _ (fun p hp => by repeat (first | exact hG p hp | exact hG p (List.mem_cons_of_mem _ hp) | refine List.mem_cons_of_mem _ ?_ | refine List.mem_append_right _ ?_)))) ?_
    refine AL_p rfl rfl (S_assign rfl (.tmp rfl)) ?_
    refine AL_nil ?_
    refine AC_ret ?_
    refine ret_tmp st rfl rfl (Sub.l (List.Sublist.refl _)) (Conv.refl (Sub.l (List.Sublist.refl _)) _) ⟨rfl, rfl⟩ (.inl rfl)
  try simp only [zA, zO, zN, zM, zP, zQ, zD, zF, gd] at hb11
  have hs3 : s.length ≤ 3000 := by have := hb11.1; omega
  have hl20 : l.length ≤ 20 := by have := hb11.2; omega
  have hr2 := read_bound s
  refine AC_skip ?_
  refine AC_seq ?_
  refine AC_region ?_
  refine AL_p rfl rfl (S_move rfl (.tmp rfl)) ?_
  refine AL_p rfl rfl (S_gcall rfl (AEvs.cons (.tmp rfl) AEvs.nil) ((scr_Read_ok s (by omega)) _ (fun p hp => by repeat (first | exact hG p hp | exact hG p (List.mem_cons_of_mem _ hp) | refine List.mem_cons_of_mem _ ?_ | refine List.mem_append_right _ ?_)))) ?_
  refine AL_p rfl rfl (S_move rfl (.tmp rfl)) ?_
  refine AL_p rfl rfl (S_extract 0 rfl (.tmp rfl) rfl) ?_
  refine AL_p rfl rfl (S_extract 1 rfl (.tmp rfl) rfl) ?_
  refine AL_p rfl rfl (S_assign rfl (.tmp rfl)) ?_
  refine AL_p rfl rfl (S_assign rfl (.tmp rfl)) ?_
  refine AL_nil ?_
  refine AC_seq ?_
  refine AC_region ?_
  refine AL_p rfl rfl (S_move rfl (.tmp rfl)) ?_
  refine AL_p rfl rfl (S_pcall rfl (AEvs.cons (.tmp rfl) AEvs.nil) (ref45_Read_ok s (by omega))) ?_
  refine AL_p rfl rfl (S_move rfl (.tmp rfl)) ?_
  refine AL_p rfl rfl (S_extract 0 rfl (.tmp rfl) rfl) ?_
  refine AL_p rfl rfl (S_extract 1 rfl (.tmp rfl) rfl) ?_
  refine AL_p rfl rfl (S_assign rfl (.tmp rfl)) ?_
  refine AL_p rfl rfl (S_assign rfl (.tmp rfl)) ?_
  refine AL_nil ?_
  refine AC_seq ?_
  refine AC_seq ?_
  refine AC_region ?_
  refine AL_p rfl rfl (S_move rfl (.tmp rfl)) ?_
  refine AL_p rfl rfl (by first | exact S_lenM (e := 28) rfl (.tmp rfl) (by kernel_rfl) | exact S_len (e := 28) rfl (.tmp rfl) (by kernel_rfl)) ?_
  refine AL_p rfl rfl (S_move rfl (.tmp rfl)) ?_
  refine AL_p rfl rfl (by first | exact S_lenM (e := 24) rfl (.tmp rfl) (by kernel_rfl) | exact S_len (e := 24) rfl (.tmp rfl) (by kernel_rfl)) ?_
  refine AL_p rfl rfl (S_neq rfl (.tmp rfl) (.tmp rfl)) ?_
  refine AL_p rfl rfl (S_move rfl (.tmp rfl)) ?_
  refine AL_g rfl rfl (.tmp rfl) rfl (fun hg12 => S_move rfl (.tmp rfl)) ?_
  refine AL_g rfl rfl (.tmp rfl) rfl (fun hg15 => S_eqlE (er_is 29 109 (lineEr (readV s).2)) rfl (AEv.cond (.tmp rfl) (by first | assumption | exact gdAnd (by assumption) (by assumption))) (by kernel_rfl)) ?_
  refine AL_g rfl rfl (.tmp rfl) rfl (fun hg18 => S_move rfl (.tmp rfl)) ?_
  refine AL_g rfl rfl (.tmp rfl) rfl (fun hg21 => S_eql rfl (AEv.cond (.tmp rfl) (by first | assumption | exact gdAnd (by assumption) (by assumption))) (AEv.const _)) ?_
  refine AL_g rfl rfl (.tmp rfl) rfl (fun hg24 => S_neB rfl (AEv.cond (.tmp rfl) (by first | assumption | exact gdAnd (by assumption) (by assumption))) (AEv.cond (.tmp rfl) (by first | assumption | exact gdAnd (by assumption) (by assumption))) (by kernel_rfl)) ?_
  refine AL_p rfl rfl (S_or rfl (.tmp rfl) (fun hp27 => (AEv.cond (.tmp rfl) (by first | assumption | exact gdT hp27 | exact gdF hp27 | exact gdAnd (by assumption) (gdT hp27) | exact gdAnd (by assumption) (gdF hp27))))) ?_
  refine AL_nil ?_
  refine AC_cond (.tmp rfl) (fun hb28 => ?_) (fun hb28 => ?_)
  · exfalso; (try simp only [zA, zO, zN, zM, zP, zQ, zD, zF, gd] at hb28); rw [lineEr_none] at hb28; simp at hb28 <;> omega
  try simp only [zA, zO, zN, zM, zP, zQ, zD, zF, gd] at hb28
  refine AC_skip ?_
  refine AC_seq ?_
  refine AC_seq ?_
  refine AC_region ?_
  refine AL_p rfl rfl (S_move rfl (.tmp rfl)) ?_
  refine AL_p rfl rfl (S_gtr rfl (.tmp rfl) (AEv.const _)) ?_
  refine AL_p rfl rfl (S_move rfl (.tmp rfl)) ?_
  refine AL_g rfl rfl (.tmp rfl) rfl (fun hg29 => S_move rfl (.tmp rfl)) ?_
  refine AL_g rfl rfl (.tmp rfl) rfl (fun hg32 => S_gcall rfl (AEvs.cons (AEv.cond (.tmp rfl) (by first | assumption | exact gdAnd (by assumption) (by assumption))) AEvs.nil) ((fail_Code_ok (lineEr (readV s).2)) _ (fun p hp => by repeat (first | exact hG p hp | exact hG p (List.mem_cons_of_mem _ hp) | refine List.mem_cons_of_mem _ ?_ | refine List.mem_append_right _ ?_)))) ?_
  refine AL_g rfl rfl (.tmp rfl) rfl (fun hg35 => S_neq rfl (AEv.cond (.tmp rfl) (by first | assumption | exact gdAnd (by assumption) (by assumption))) (AEv.const _)) ?_
  refine AL_g rfl rfl (.tmp rfl) rfl (fun hg38 => S_move rfl (AEv.cond (.tmp rfl) (by first | assumption | exact gdAnd (by assumption) (by assumption)))) ?_
  refine AL_gg rfl rfl (.tmp rfl) rfl (fun hg41 hg42 hg43 => S_move rfl (.tmp rfl)) ?_
  refine AL_gg rfl rfl (.tmp rfl) rfl (fun hg44 hg45 hg46 => S_gcall rfl (AEvs.cons (AEv.cond (.tmp rfl) (by first | assumption | exact gdAnd (by assumption) (by assumption))) AEvs.nil) ((fail_Text_ok (lineEr (readV s).2) (by have := lineEr_len (readV s).2; omega) (by have := lineEr_join (k := (readV s).2) (by omega); omega)) _ (fun p hp => by repeat (first | exact hG p hp | exact hG p (List.mem_cons_of_mem _ hp) | refine List.mem_cons_of_mem _ ?_ | refine List.mem_append_right _ ?_)))) ?_
  refine AL_gg rfl rfl (.tmp rfl) rfl (fun hg47 hg48 hg49 => S_move rfl (.tmp rfl)) ?_
  refine AL_gg rfl rfl (.tmp rfl) rfl (fun hg50 hg51 hg52 => S_pcall rfl (AEvs.cons (AEv.cond (.tmp rfl) (by first | assumption | exact gdAnd (by assumption) (by assumption))) AEvs.nil) (ref_Text_ok ((readV s).2 : Int) ⟨by omega, by omega⟩)) ?_
  refine AL_gg rfl rfl (.tmp rfl) rfl (fun hg53 hg54 hg55 => S_cat rfl (AEv.S _) (AEv.cond (.tmp rfl) (by first | assumption | exact gdAnd (by assumption) (by assumption))) (by first | omega | (have := textL_len (a := ((readV s).2 : Int)) ⟨by omega, by omega⟩; simp only [List.length_cons, List.length_nil]; omega) | (simp only [List.length_append, List.length_cons, List.length_nil]; omega))) ?_
  refine AL_gg rfl rfl (.tmp rfl) rfl (fun hg56 hg57 hg58 => S_neS rfl (AEv.cond (.tmp rfl) (by first | assumption | exact gdAnd (by assumption) (by assumption))) (AEv.cond (.tmp rfl) (by first | assumption | exact gdAnd (by assumption) (by assumption)))) ?_
  refine AL_g rfl rfl (.tmp rfl) rfl (fun hg59 => S_or rfl (AEv.cond (.tmp rfl) (by first | assumption | exact gdAnd (by assumption) (by assumption))) (fun hp62 => (AEv.cond (.tmp rfl) (by first | assumption | exact gdT hp62 | exact gdF hp62 | exact gdAnd (by assumption) (gdT hp62) | exact gdAnd (by assumption) (gdF hp62))))) ?_
  refine AL_p rfl rfl (S_and rfl (.tmp rfl) (fun hp63 => (AEv.cond (.tmp rfl) (by first | assumption | exact gdT hp63 | exact gdF hp63 | exact gdAnd (by assumption) (gdT hp63) | exact gdAnd (by assumption) (gdF hp63))))) ?_
  refine AL_nil ?_
  refine AC_cond (.tmp rfl) (fun hb64 => ?_) (fun hb64 => ?_)
  · exfalso; (try simp only [zA, zO, zN, zM, zP, zQ, zD, zF, gd] at hb64); (try simp only [Bool.and_eq_true, decide_eq_true_eq] at hb64); have h9 : (readV s).2 ≠ 0 := by (have := hb64.1; omega)
    rw [lineEr_code h9, lineEr_text h9] at hb64; simp at hb64
  try simp only [zA, zO, zN, zM, zP, zQ, zD, zF, gd] at hb64
  refine AC_skip ?_
  refine AC_seq ?_
  refine AC_seq ?_
  refine AC_region ?_
  refine AL_p rfl rfl (S_assign rfl (AEv.const _)) ?_
  refine AL_nil ?_
  refine AC_block ?_
  refine AC_loopK (G := Nat) [(1, _), (5, _), (7, _)] (fun g => g ≤ (readV s).1.length) (fun g => [(9, .int .i64 (g : Int))]) (fun g => st) (fun g => (readV s).1.length - g) (0) (Nat.zero_le _) (Sub.l (List.Sublist.refl _)) (.cons rfl (Le.refl _) (.cons rfl (Le.refl _) (.cons rfl (Le.refl _) .nil))) (.cons rfl (by first | exact Le.refl _ | exact Le.nils | exact Le.row _ _ _ _ | exact Le.of_eq (by first | rfl | (simp; done) | (push_cast; rfl) | (simp; omega))) .nil) ?_
  rintro i hi
  try dsimp only
  simp only [List.cons_append, List.nil_append]
  refine AC_seq ?_
  refine AC_seq ?_
  refine AC_region ?_
  refine AL_p rfl rfl (S_move rfl (.tmp rfl)) ?_
  refine AL_p rfl rfl (S_move rfl (.tmp rfl)) ?_
  refine AL_p rfl rfl (by first | exact S_lenM (e := 24) rfl (.tmp rfl) (by kernel_rfl) | exact S_len (e := 24) rfl (.tmp rfl) (by kernel_rfl)) ?_
  refine AL_p rfl rfl (S_lss rfl (.tmp rfl) (.tmp rfl)) ?_
  refine AL_p rfl rfl (S_move rfl (.tmp rfl)) ?_
  refine AL_g rfl rfl (.tmp rfl) rfl (fun hg65 => S_move rfl (.tmp rfl)) ?_
  refine AL_g rfl rfl (.tmp rfl) rfl (fun hg68 => S_move rfl (.tmp rfl)) ?_
  refine AL_g rfl rfl (.tmp rfl) rfl (fun hg71 => by first | exact S_lenM (e := 28) rfl (AEv.cond (.tmp rfl) (by first | assumption | exact gdAnd (by assumption) (by assumption))) (by kernel_rfl) | exact S_len (e := 28) rfl (AEv.cond (.tmp rfl) (by first | assumption | exact gdAnd (by assumption) (by assumption))) (by kernel_rfl)) ?_
  refine AL_g rfl rfl (.tmp rfl) rfl (fun hg74 => S_lss rfl (AEv.cond (.tmp rfl) (by first | assumption | exact gdAnd (by assumption) (by assumption))) (AEv.cond (.tmp rfl) (by first | assumption | exact gdAnd (by assumption) (by assumption)))) ?_
  refine AL_p rfl rfl (S_and rfl (.tmp rfl) (fun hp77 => (AEv.cond (.tmp rfl) (by first | assumption | exact gdT hp77 | exact gdF hp77 | exact gdAnd (by assumption) (gdT hp77) | exact gdAnd (by assumption) (gdF hp77))))) ?_
  refine AL_nil ?_
  refine AC_cond (.tmp rfl) (fun hb78 => ?_) (fun hb78 => ?_)
  · try simp only [zA, zO, zN, zM, zP, zQ, zD, zF, gd] at hb78
    have hir : i < (readV s).1.length := by omega
    refine AC_skip ?_
    refine AC_seq ?_
    refine AC_block ?_
    refine AC_seq ?_
    refine AC_draw (by kernel_rfl) (by kernel_rfl) (.cons rfl (Q_p rfl (S_move rfl (.tmp rfl))) <|
        .cons rfl (Q_p rfl (S_move rfl (.tmp rfl))) <|
        .cons rfl (Q_p rfl (S_elemN (e := 28) 3 rfl (.tmp rfl) (.tmp rfl) (by kernel_rfl) (by kernel_rfl) (by omega) (fun _ => rfl))) <|
        .cons rfl (Q_p rfl (S_loadPN (m := 3) rfl (.tmp rfl) (by kernel_rfl) (by first | exact Nat.le_of_ble_eq_true rfl | (simp; omega) | simp))) <|
        .cons rfl (Q_p rfl (S_move rfl (.tmp rfl))) <|
        .cons rfl (Q_p rfl (S_move rfl (.tmp rfl))) <|
        .cons rfl (Q_p rfl (S_elemN (e := 24) 3 rfl (.tmp rfl) (.tmp rfl) (by kernel_rfl) (by kernel_rfl) (by omega) (fun _ => rfl))) <|
        .cons rfl (Q_p rfl (S_loadPN (m := 3) rfl (.tmp rfl) (by kernel_rfl) (by first | exact Nat.le_of_ble_eq_true rfl | (simp; omega) | simp))) <|
        .cons rfl (Q_p rfl (S_pcall rfl (AEvs.cons (y := entAV ((readV s).1[i]'hir)) (.tmp rfl) (AEvs.cons (y := entAV ((readV s).1[i]'hir)) (.tmp rfl) AEvs.nil)) (law45_is_ok ((readV s).1[i]'hir) ((readV s).1[i]'hir) (by have := hrn _ (List.getElem_mem hir); omega) (by have := hrn _ (List.getElem_mem hir); omega)))) <|
        .cons rfl (Q_p rfl (S_not rfl (.tmp rfl))) <|
        .nil) ?_
    refine AC_cond (.tmp rfl) (fun hb79 => ?_) (fun hb79 => ?_)
    · simp at hb79; done
    try simp only [zA, zO, zN, zM, zP, zQ, zD, zF, gd] at hb79
    refine AC_skip ?_
    refine AC_region ?_
    refine AL_p rfl rfl (S_move rfl (.tmp rfl)) ?_
    refine AL_p rfl rfl (S_addI rfl (.tmp rfl) (AEv.const _) (by omega) (by omega)) ?_
    refine AL_p rfl rfl (S_assign rfl (.tmp rfl)) ?_
    refine AL_nil ?_
    exact ⟨i + 1, by omega, by omega, (Sub.l (List.Sublist.refl _)), (.cons rfl (by first | exact Le.refl _ | exact Le.nils | exact Le.row _ _ _ _ | exact Le.of_eq (by first | rfl | (simp; done) | (push_cast; rfl) | (simp; omega))) .nil), (.cons rfl (Le.refl _) (.cons rfl (Le.refl _) (.cons rfl (Le.refl _) .nil)))⟩
  try simp only [zA, zO, zN, zM, zP, zQ, zD, zF, gd] at hb78
  refine AC_exit ?_
  refine AC_seq ?_
  refine AC_region ?_
  refine AL_p rfl rfl (S_assign rfl (AEv.const _)) ?_
  refine AL_nil ?_
  refine AC_seq ?_
  refine AC_region ?_
  refine AL_p rfl rfl (S_assign rfl (AEv.S _)) ?_
  refine AL_nil ?_
  refine AC_seq ?_
  refine AC_seq ?_
  refine AC_region ?_
  refine AL_p rfl rfl (S_assign rfl (AEv.const _)) ?_
  refine AL_nil ?_
  refine AC_block ?_
  refine AC_loopK (G := Nat × Own) [(1, _)] (fun g => g.1 ≤ l.length ∧ g.2.ok ((l.take g.1).map entAV) ∧ ∀ j (hj : j < l.length), j < g.1 → l[j].n.length ≤ 20 ∧ l[j].data.length ≤ 1200) (fun g => [(10, ownAV g.2 3 ((l.take g.1).map entAV)), (11, .S (writeV (l.take g.1))), (12, .int .i64 (g.1 : Int))]) (fun g => ownSt g.2 28 3 ((l.take g.1).map entAV) ++ st) (fun g => l.length - g.1) ((0, .nil)) (⟨Nat.zero_le _, rfl, fun j _ h => absurd h (Nat.not_lt_zero _)⟩) (Sub.l (List.Sublist.refl _)) (.cons rfl (Le.refl _) .nil) (.cons rfl (by first | exact Le.refl _ | exact Le.nils | exact Le.row _ _ _ _ | exact Le.of_eq (by first | rfl | (simp; done) | (push_cast; rfl) | (simp; omega))) (.cons rfl (by first | exact Le.refl _ | exact Le.nils | exact Le.row _ _ _ _ | exact Le.of_eq (by first | rfl | (simp; done) | (push_cast; rfl) | (simp; omega))) (.cons rfl (by first | exact Le.refl _ | exact Le.nils | exact Le.row _ _ _ _ | exact Le.of_eq (by first | rfl | (simp; done) | (push_cast; rfl) | (simp; omega))) .nil))) ?_
  rintro ⟨i, p⟩ ⟨hi, hq, hall⟩
  try dsimp only
  simp only [List.cons_append, List.nil_append]
  dsimp only at hi hq hall
  have hwl := write_len (l.take i)
  rw [List.length_take] at hwl
  refine AC_seq ?_
  refine AC_seq ?_
  refine AC_region ?_
  refine AL_p rfl rfl (S_move rfl (.tmp rfl)) ?_
  refine AL_p rfl rfl (S_move rfl (.tmp rfl)) ?_
  refine AL_p rfl rfl (by first | exact S_lenM (e := 24) rfl (.tmp rfl) (by kernel_rfl) | exact S_len (e := 24) rfl (.tmp rfl) (by kernel_rfl)) ?_
  refine AL_p rfl rfl (S_lss rfl (.tmp rfl) (.tmp rfl)) ?_
  refine AL_nil ?_
  refine AC_cond (.tmp rfl) (fun hb80 => ?_) (fun hb80 => ?_)
  · try simp only [zA, zO, zN, zM, zP, zQ, zD, zF, gd] at hb80
    have hil : i < l.length := by omega
    refine AC_skip ?_
    refine AC_seq ?_
    refine AC_block ?_
    refine AC_seq ?_
    refine AC_seq ?_
    refine AC_region ?_
    refine AL_p rfl rfl (S_move rfl (.tmp rfl)) ?_
    refine AL_p rfl rfl (S_move rfl (.tmp rfl)) ?_
    refine AL_p rfl rfl (S_elemN (e := 24) 3 rfl (.tmp rfl) (.tmp rfl) (by kernel_rfl) (by kernel_rfl) (by omega) (fun _ => rfl)) ?_
    refine AL_p rfl rfl (S_loadPN (m := 3) rfl (.tmp rfl) (by kernel_rfl) (by first | exact Nat.le_of_ble_eq_true rfl | (simp; omega) | simp)) ?_
    refine AL_p rfl rfl (S_pcall rfl (AEvs.cons (.tmp rfl) AEvs.nil) (law45_light_ok (l[i]'hil))) ?_
    refine AL_p rfl rfl (S_not rfl (.tmp rfl)) ?_
    refine AL_nil ?_
    refine AC_cond (.tmp rfl) (fun hb81 => ?_) (fun hb81 => ?_)
    · try simp only [zA, zO, zN, zM, zP, zQ, zD, zF, gd] at hb81
      refine AC_seq ?_
      refine AC_region ?_
      refine AL_p rfl rfl (S_gcall rfl AEvs.nil ((law45_works_ok) _ (fun p hp => by repeat (first | exact hG p hp | exact hG p (List.mem_cons_of_mem _ hp) | refine List.mem_cons_of_mem _ ?_ | refine List.mem_append_right _ ?_)))) ?_
      refine AL_p rfl rfl (S_assign rfl (.tmp rfl)) ?_
      refine AL_nil ?_
      refine AC_ret ?_
      refine ret_tmp st rfl rfl (Sub.l (List.sublist_append_right _ _)) (Conv.refl (Sub.l (List.sublist_append_right _ _)) _) ⟨rfl, rfl⟩ (.inl rfl)
    try simp only [zA, zO, zN, zM, zP, zQ, zD, zF, gd] at hb81
    try simp only [Bool.and_eq_true, decide_eq_true_eq] at hb81
    have hs1 : (l[i]'hil).n.length ≤ 20 := by have := hb81.1; omega
    have hs2 : (l[i]'hil).data.length ≤ 1200 := by have := hb81.2; omega
    refine AC_skip ?_
    refine AC_seq ?_
    refine AC_region ?_
    refine AL_p rfl rfl (S_move rfl (.tmp rfl)) ?_
    refine AL_p rfl rfl (S_move rfl (.tmp rfl)) ?_
    refine AL_p rfl rfl (S_move rfl (.tmp rfl)) ?_
    refine AL_p rfl rfl (S_elemN (e := 24) 3 rfl (.tmp rfl) (.tmp rfl) (by kernel_rfl) (by kernel_rfl) (by omega) (fun _ => rfl)) ?_
    refine AL_p rfl rfl (S_loadPN (m := 3) rfl (.tmp rfl) (by kernel_rfl) (by first | exact Nat.le_of_ble_eq_true rfl | (simp; omega) | simp)) ?_
    refine AL_p rfl rfl (S_pcall rfl (AEvs.cons (.tmp rfl) AEvs.nil) (law45_To_ok (l[i]'hil))) ?_
    refine AL_p rfl rfl (S_buildSlice (e := 28) 3 rfl (AEvs.cons (.tmp rfl) AEvs.nil) rfl (by kernel_rfl) (by kernel_rfl) (by intro y hy; simp only [List.mem_cons, List.not_mem_nil, or_false] at hy; rcases hy with rfl <;> exact ⟨rfl, rfl⟩) (by decide) (by decide) (by decide)) ?_
    refine AL_step rfl rfl (S_appendT (f := entAV) (l := l) (i := i) (e := 28) (size := 3) (bytes := 48) (p := p) (by omega) ([]) (st) rfl (.tmp rfl) (.tmp rfl) rfl hq (by kernel_rfl) (fun _ => ⟨rfl, rfl⟩) (by omega) (by omega)) ?_
    rintro _ _ ⟨b8, k8, cap8, hx8, rfl, rfl⟩
    refine AL_p rfl rfl (S_assign rfl (.tmp rfl)) ?_
    refine AL_nil ?_
    refine AC_seq ?_
    refine AC_region ?_
    refine AL_p rfl rfl (S_move rfl (.tmp rfl)) ?_
    refine AL_p rfl rfl (S_move rfl (.tmp rfl)) ?_
    refine AL_p rfl rfl (S_elemN (e := 24) 3 rfl (.tmp rfl) (.tmp rfl) (by kernel_rfl) (by kernel_rfl) (by omega) (fun _ => rfl)) ?_
    refine AL_p rfl rfl (S_loadPN (m := 3) rfl (.tmp rfl) (by kernel_rfl) (by first | exact Nat.le_of_ble_eq_true rfl | (simp; omega) | simp)) ?_
    refine AL_p rfl rfl (S_pcall rfl (AEvs.cons (.tmp rfl) AEvs.nil) (ref45_Right_ok (l[i]'hil) (by omega) (by omega))) ?_
    refine AL_nil ?_
    refine AC_cond (.tmp rfl) (fun hb84 => ?_) (fun hb84 => ?_)
    · try simp only [zA, zO, zN, zM, zP, zQ, zD, zF, gd] at hb84
      have hr : rightB (l[i]'hil) = true := hb84
      have hll := line_len hr
      refine AC_region ?_
      refine AL_p rfl rfl (S_move rfl (.tmp rfl)) ?_
      refine AL_p rfl rfl (S_move rfl (.tmp rfl)) ?_
      refine AL_p rfl rfl (S_move rfl (.tmp rfl)) ?_
      refine AL_p rfl rfl (S_elemN (e := 24) 3 rfl (.tmp rfl) (.tmp rfl) (by kernel_rfl) (by kernel_rfl) (by omega) (fun _ => rfl)) ?_
      refine AL_p rfl rfl (S_loadPN (m := 3) rfl (.tmp rfl) (by kernel_rfl) (by first | exact Nat.le_of_ble_eq_true rfl | (simp; omega) | simp)) ?_
      refine AL_p rfl rfl (S_pcall rfl (AEvs.cons (.tmp rfl) AEvs.nil) (ref45_Line_ok (l[i]'hil) hr)) ?_
      refine AL_p rfl rfl (S_cat rfl (.tmp rfl) (.tmp rfl) (by first | omega | (have := textL_len (a := ((readV s).2 : Int)) ⟨by omega, by omega⟩; simp only [List.length_cons, List.length_nil]; omega) | (simp only [List.length_append, List.length_cons, List.length_nil]; omega))) ?_
      refine AL_p rfl rfl (S_cat rfl (.tmp rfl) (AEv.S _) (by first | omega | (have := textL_len (a := ((readV s).2 : Int)) ⟨by omega, by omega⟩; simp only [List.length_cons, List.length_nil]; omega) | (simp only [List.length_append, List.length_cons, List.length_nil]; omega))) ?_
      refine AL_p rfl rfl (S_assign rfl (.tmp rfl)) ?_
      refine AL_nil ?_
      refine AC_region ?_
      refine AL_p rfl rfl (S_move rfl (.tmp rfl)) ?_
      refine AL_p rfl rfl (S_addI rfl (.tmp rfl) (AEv.const _) (by omega) (by omega)) ?_
      refine AL_p rfl rfl (S_assign rfl (.tmp rfl)) ?_
      refine AL_nil ?_
      refine ⟨(i + 1, .row b8 k8 cap8), ⟨by dsimp only; omega, by dsimp only; exact hx8, fun j hj h => ?_⟩, by dsimp only; omega, (Sub.l (List.Sublist.refl _)), (.cons rfl (by first | exact Le.refl _ | exact Le.nils | exact Le.row _ _ _ _ | exact Le.of_eq (by first | rfl | (simp; done) | (push_cast; rfl) | (simp; omega))) (.cons rfl (Le.of_eq (congrArg AV.S (by dsimp only; rw [write_next hil]; first | rw [if_pos hr, List.append_assoc] | rw [if_neg hr, List.append_nil]))) (.cons rfl (by first | exact Le.refl _ | exact Le.nils | exact Le.row _ _ _ _ | exact Le.of_eq (by first | rfl | (simp; done) | (push_cast; rfl) | (simp; omega))) .nil))), (.cons rfl (Le.refl _) .nil)⟩
      rcases Nat.lt_or_ge j i with h9 | h9
      · exact hall j hj h9
      · have e9 : j = i := by dsimp only at h; omega
        subst e9; exact ⟨by omega, by omega⟩
    try simp only [zA, zO, zN, zM, zP, zQ, zD, zF, gd] at hb84
    have hr : ¬ rightB (l[i]'hil) = true := by simpa using hb84
    refine AC_skip ?_
    refine AC_region ?_
    refine AL_p rfl rfl (S_move rfl (.tmp rfl)) ?_
    refine AL_p rfl rfl (S_addI rfl (.tmp rfl) (AEv.const _) (by omega) (by omega)) ?_
    refine AL_p rfl rfl (S_assign rfl (.tmp rfl)) ?_
    refine AL_nil ?_
    refine ⟨(i + 1, .row b8 k8 cap8), ⟨by dsimp only; omega, by dsimp only; exact hx8, fun j hj h => ?_⟩, by dsimp only; omega, (Sub.l (List.Sublist.refl _)), (.cons rfl (by first | exact Le.refl _ | exact Le.nils | exact Le.row _ _ _ _ | exact Le.of_eq (by first | rfl | (simp; done) | (push_cast; rfl) | (simp; omega))) (.cons rfl (Le.of_eq (congrArg AV.S (by dsimp only; rw [write_next hil]; first | rw [if_pos hr, List.append_assoc] | rw [if_neg hr, List.append_nil]))) (.cons rfl (by first | exact Le.refl _ | exact Le.nils | exact Le.row _ _ _ _ | exact Le.of_eq (by first | rfl | (simp; done) | (push_cast; rfl) | (simp; omega))) .nil))), (.cons rfl (Le.refl _) .nil)⟩
    rcases Nat.lt_or_ge j i with h9 | h9
    · exact hall j hj h9
    · have e9 : j = i := by dsimp only at h; omega
      subst e9; exact ⟨by omega, by omega⟩
  try simp only [zA, zO, zN, zM, zP, zQ, zD, zF, gd] at hb80
  have hla : l.take i = l := List.take_of_length_le (by omega)
  rw [hla] at hq ⊢
  have hls : ∀ e ∈ l, e.n.length ≤ 1000000 := fun e he => by
    obtain ⟨j, hj, rfl⟩ := List.mem_iff_getElem.1 he
    have := (hall j hj (by omega)).1; omega
  refine AC_exit ?_
  refine AC_seq ?_
  refine AC_region ?_
  refine AL_p rfl rfl (S_move rfl (.tmp rfl)) ?_
  refine AL_p rfl rfl (S_gcall rfl (AEvs.cons ((AEv.tmp rfl).le (Le_own hq)) AEvs.nil) ((scr_Write_ok l (by omega) hls) _ (fun p hp => by repeat (first | exact hG p hp | exact hG p (List.mem_cons_of_mem _ hp) | refine List.mem_cons_of_mem _ ?_ | refine List.mem_append_right _ ?_)))) ?_
  refine AL_p rfl rfl (S_move rfl (.tmp rfl)) ?_
  refine AL_p rfl rfl (S_eqS rfl (.tmp rfl) (.tmp rfl)) ?_
  refine AL_p rfl rfl (S_move rfl (.tmp rfl)) ?_
  refine AL_g rfl rfl (.tmp rfl) rfl (fun hg85 => S_gcall rfl AEvs.nil ((law45_works_ok) _ (fun p hp => by repeat (first | exact hG p hp | exact hG p (List.mem_cons_of_mem _ hp) | refine List.mem_cons_of_mem _ ?_ | refine List.mem_append_right _ ?_)))) ?_
  refine AL_p rfl rfl (S_and rfl (.tmp rfl) (fun hp88 => (AEv.cond (.tmp rfl) (by first | assumption | exact gdT hp88 | exact gdF hp88 | exact gdAnd (by assumption) (gdT hp88) | exact gdAnd (by assumption) (gdF hp88))))) ?_
  refine AL_p rfl rfl (S_assign rfl (.tmp rfl)) ?_
  refine AL_nil ?_
  refine AC_ret ?_
  refine ret_tmp st rfl rfl (Sub.l (List.sublist_append_right _ _)) (Conv.refl (Sub.l (List.sublist_append_right _ _)) _) ⟨congrArg AV.bool (by simp), rfl⟩ (.inl rfl)

end Go.Proofs.YtfpkefhjomeeeaaDoor
