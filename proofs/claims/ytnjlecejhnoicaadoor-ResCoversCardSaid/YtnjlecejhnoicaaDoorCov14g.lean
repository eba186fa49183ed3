/-
The walks of Go functions in the logic AL: what each of them answers.
Conditions: those of each theorem.
-/
import Derived.Test.YtnjlecejhnoicaaDoorCov14f
set_option linter.unusedVariables false
set_option linter.unusedSimpArgs false
namespace Go.Proofs.YtnjlecejhnoicaaDoor
open Go.AL Go.NumSpec

set_option maxRecDepth 100000 in
/-- (*provost/spec.seen).port -/
theorem seen_port_ok (b : Nat) (p q : Own) (ns : List (List UInt8)) (ps : List Int) (hp : p.ok (strsV ns)) (hq : q.ok (intsV ps)) (hps : ps.length ≤ 1000) (l : List Int) (hl : l.length ≤ 1000) (n : Int) (F : St) : ACalls Tryd.prog 41 [.ptr b 0, .sl (intsV l), .int .i64 n] ((b, Ob.cells [ownAV p 1 (strsV ns), ownAV q 1 (intsV ps)]) :: (ownSt p 9 1 (strsV ns) ++ (ownSt q 3 1 (intsV ps) ++ F))) (fun x st' => ∃ (q' : Own) (m : Nat), m ≤ l.length ∧ (portE ps l n = none → m = l.length) ∧ q'.ok (intsV (ps ++ l.take m)) ∧ x = erV 48 76 (portE ps l n) ∧ st' = (b, Ob.cells [ownAV p 1 (strsV ns), ownAV q' 1 (intsV (ps ++ l.take m))]) :: (ownSt p 9 1 (strsV ns) ++ (ownSt q' 3 1 (intsV (ps ++ l.take m)) ++ F))) := by
  refine ACalls_of (N := 61) Tryd.func41 (by kernel_rfl) rfl rfl rfl ?_
  have hll : (intsV l).length = l.length := by simp [intsV]
  refine AC_seq ?_
  refine AC_region ?_
  refine AL_p rfl rfl (S_assign rfl (AEv.const _)) ?_
  refine AL_nil ?_
  refine AC_seq ?_
  refine AC_region ?_
  refine AL_p rfl rfl (S_move rfl (AEv.tmp rfl)) ?_
  refine AL_p rfl rfl (S_len (e := 3) rfl (AEv.tmp rfl) (by kernel_rfl)) ?_
  refine AL_p rfl rfl (S_move rfl (AEv.tmp rfl)) ?_
  refine AL_p rfl rfl (S_pcall rfl (AEvs.cons (AEv.S _) (AEvs.cons (AEv.tmp rfl) (AEvs.cons (AEv.const _) (AEvs.cons (AEv.tmp rfl) AEvs.nil)))) (spec_atMost_ok portsN ((intsV l).length : Int) 0 n)) ?_
  refine AL_p rfl rfl (S_assign rfl (AEv.tmp rfl)) ?_
  refine AL_nil ?_
  refine AC_seq ?_
  refine AC_seq ?_
  refine AC_region ?_
  refine AL_p rfl rfl (S_assign rfl (AEv.const _)) ?_
  refine AL_nil ?_
  refine AC_block ?_
  refine AC_loopS (G := Nat × Er × Own) (fun g => g.1 ≤ l.length ∧ (g.2.1 = none → (atMostE portsN (l.length : Int) 0 n) = none ∧ ∀ j, j < g.1 → portAt ps l j = none) ∧ (g.2.1 ≠ none → g.2.1 = portE ps l n) ∧ g.2.2.ok (intsV (ps ++ l.take g.1))) (fun g => [(0, .ptr b 0), (1, .sl (intsV l)), (7, erV 48 76 g.2.1), (8, .int .i64 (g.1 : Int))]) (fun g => (b, Ob.cells [ownAV p 1 (strsV ns), ownAV g.2.2 1 (intsV (ps ++ l.take g.1))]) :: (ownSt p 9 1 (strsV ns) ++ (ownSt g.2.2 3 1 (intsV (ps ++ l.take g.1)) ++ F))) (fun g => l.length - g.1) ((0, (atMostE portsN (l.length : Int) 0 n), q)) (⟨Nat.zero_le _, fun h => ⟨h, fun j hj => absurd hj (Nat.not_lt_zero _)⟩, fun h => (portE_bad h).symm, by simpa using hq⟩) (by simp only [List.take_zero, List.append_nil]; exact Sub.l (List.Sublist.refl _)) ?_ ?_
  · exact (.cons rfl (Le.refl _) (.cons rfl (Le.refl _) (.cons rfl (Le.of_eq (by rw [hll])) (.cons rfl (Le.refl _) .nil))))
  · rintro ⟨i, e, q2⟩ ⟨hi, hno, hyes, hq2⟩
    try dsimp only
    dsimp only at hi hno hyes hq2
    refine AC_seq ?_
    refine AC_seq ?_
    refine AC_region ?_
    refine AL_p rfl rfl (S_move rfl (AEv.tmp rfl)) ?_
    refine AL_p rfl rfl (S_eqlE (er_is 48 76 e) rfl (AEv.tmp rfl) (by kernel_rfl)) ?_
    refine AL_p rfl rfl (S_move rfl (AEv.tmp rfl)) ?_
    refine AL_g rfl rfl (AEv.tmp rfl) rfl (fun hg1 => S_move rfl (AEv.tmp rfl)) ?_
    refine AL_g rfl rfl (AEv.tmp rfl) rfl (fun hg4 => S_move rfl (AEv.tmp rfl)) ?_
    refine AL_g rfl rfl (AEv.tmp rfl) rfl (fun hg7 => S_len (e := 3) rfl (AEv.cond (AEv.tmp rfl) (by first | assumption | exact gdAnd (by assumption) (by assumption))) (by kernel_rfl)) ?_
    refine AL_g rfl rfl (AEv.tmp rfl) rfl (fun hg10 => S_lss rfl (AEv.cond (AEv.tmp rfl) (by first | assumption | exact gdAnd (by assumption) (by assumption))) (AEv.cond (AEv.tmp rfl) (by first | assumption | exact gdAnd (by assumption) (by assumption)))) ?_
    refine AL_p rfl rfl (S_and rfl (AEv.tmp rfl) (fun hp13 => (AEv.cond (AEv.tmp rfl) (by first | assumption | exact gdT hp13 | exact gdF hp13 | exact gdAnd (by assumption) (gdT hp13) | exact gdAnd (by assumption) (gdF hp13))))) ?_
    refine AL_nil ?_
    refine AC_cond (AEv.tmp rfl) (fun hb14 => ?_) (fun hb14 => ?_)
    · try simp only [Bool.and_eq_true, Bool.or_eq_true, Bool.not_eq_true', Bool.not_eq_false', Bool.and_eq_false_iff, Bool.or_eq_false_iff, decide_eq_true_eq, decide_eq_false_iff_not, gd] at hb14
      have hil : i < l.length := by have := hb14.2; omega
      obtain rfl : e = none := by cases e with | none => rfl | some x => simp at hb14
      have hn0 := hno rfl
      have hif : fits (i : Int) := by unfold fits; omega
      have hpl : (intsV (ps ++ l.take i)).length ≤ 2000 := by simp [intsV]; omega
      refine AC_skip ?_
      refine AC_seq ?_
      refine AC_block ?_
      refine AC_seq ?_
      refine AC_draw (by kernel_rfl) (by kernel_rfl) (.cons rfl (Q_p rfl (S_move rfl (AEv.tmp rfl))) <|
          .cons rfl (Q_p rfl (S_pcall rfl (AEvs.cons (AEv.S _) (AEvs.cons (AEv.tmp rfl) AEvs.nil)) (spec_at_ok portsN (by decide) (i : Int) hif))) <|
          .cons rfl (Q_p rfl (S_move rfl (AEv.tmp rfl))) <|
          .cons rfl (Q_p rfl (S_move rfl (AEv.tmp rfl))) <|
          .cons rfl (Q_p rfl (S_elem (e := 3) (c := .int .i64 (l.getD i 0)) (i := (i : Int)) 1 rfl (AEv.tmp rfl) (AEv.tmp rfl) (by kernel_rfl) (by kernel_rfl) (by omega) (by simp [intsV, hil]) rfl)) <|
          .cons rfl (Q_p rfl (S_loadP rfl (AEv.tmp rfl) rfl (by kernel_rfl))) <|
          .cons rfl (Q_p rfl (S_pcall rfl (AEvs.cons (AEv.tmp rfl) (AEvs.cons (AEv.tmp rfl) (AEvs.cons (AEv.const _) (AEvs.cons (AEv.const _) AEvs.nil)))) (spec_within_ok (atT portsN (i : Int)) (l.getD i 0) 1 65535))) <|
          .cons rfl (Q_p rfl (S_assign rfl (AEv.tmp rfl))) <|
          .nil) ?_
      refine AC_join (G := Unit) (fun _ => True) (fun _ => [(0, .ptr b 0), (1, .sl (intsV l)), (7, erV 48 76 (portAt ps l i)), (8, .int .i64 (i : Int))]) (fun _ => (b, Ob.cells [ownAV p 1 (strsV ns), ownAV q2 1 (intsV (ps ++ l.take i))]) :: (ownSt p 9 1 (strsV ns) ++ (ownSt q2 3 1 (intsV (ps ++ l.take i)) ++ F))) ?_ ?_
      · refine AC_seq ?_
        refine AC_draw (by kernel_rfl) (by kernel_rfl) (.cons rfl (Q_p rfl (S_move rfl (AEv.tmp rfl))) <|
            .cons rfl (Q_p rfl (S_eqlE (er_is 48 76 (withinE (atT portsN (i : Int)) (l.getD i 0) 1 65535)) rfl (AEv.tmp rfl) (by kernel_rfl))) <|
            .cons rfl (Q_p rfl (S_move rfl (AEv.tmp rfl))) <|
            .cons rfl (Q_g rfl rfl (AEv.tmp rfl) (fun hg15 => S_move rfl (AEv.tmp rfl))) <|
            .cons rfl (Q_g rfl rfl (AEv.tmp rfl) (fun hg18 => S_nilCheck rfl (AEv.cond (AEv.tmp rfl) (by first | assumption | exact gdAnd (by assumption) (by assumption))))) <|
            .cons rfl (Q_g rfl rfl (AEv.tmp rfl) (fun hg21 => S_field 1 rfl (AEv.cond (AEv.tmp rfl) (by first | assumption | exact gdAnd (by assumption) (by assumption))) (by kernel_rfl))) <|
            .cons rfl (Q_g rfl rfl (AEv.tmp rfl) (fun hg24 => S_load 0 rfl (AEv.cond (AEv.tmp rfl) (by first | assumption | exact gdAnd (by assumption) (by assumption))) rfl rfl (by kernel_rfl))) <|
            .cons rfl (Q_g rfl rfl (AEv.tmp rfl) (fun hg27 => S_move rfl (AEv.tmp rfl))) <|
            .cons rfl (Q_g rfl rfl (AEv.tmp rfl) (fun hg30 => S_move rfl (AEv.tmp rfl))) <|
            .cons rfl (Q_g rfl rfl (AEv.tmp rfl) (fun hg33 => S_elem (e := 3) (c := .int .i64 (l.getD i 0)) (i := (i : Int)) 1 rfl (AEv.cond (AEv.tmp rfl) (by first | assumption | exact gdAnd (by assumption) (by assumption))) (AEv.cond (AEv.tmp rfl) (by first | assumption | exact gdAnd (by assumption) (by assumption))) (by kernel_rfl) (by kernel_rfl) (by omega) (by simp [intsV, hil]) rfl)) <|
            .cons rfl (Q_g rfl rfl (AEv.tmp rfl) (fun hg36 => S_loadP rfl (AEv.cond (AEv.tmp rfl) (by first | assumption | exact gdAnd (by assumption) (by assumption))) rfl (by kernel_rfl))) <|
            .cons rfl (Q_g rfl rfl (AEv.tmp rfl) (fun hg39 => S_pcall rfl (AEvs.cons ((AEv.cond (AEv.tmp rfl) (by first | assumption | exact gdAnd (by assumption) (by assumption))).le (Le_own hq2)) (AEvs.cons (AEv.cond (AEv.tmp rfl) (by first | assumption | exact gdAnd (by assumption) (by assumption))) AEvs.nil)) (slices_ContainsI_ok (ps ++ l.take i) (l.getD i 0) (by simp; omega)))) <|
            .cons rfl (Q_p rfl (S_and rfl (AEv.tmp rfl) (fun hp42 => (AEv.cond (AEv.tmp rfl) (by first | assumption | exact gdT hp42 | exact gdF hp42 | exact gdAnd (by assumption) (gdT hp42) | exact gdAnd (by assumption) (gdF hp42)))))) <|
            .nil) ?_
        refine AC_cond (AEv.tmp rfl) (fun hb43 => ?_) (fun hb43 => ?_)
        · try simp only [Bool.and_eq_true, Bool.or_eq_true, Bool.not_eq_true', Bool.not_eq_false', Bool.and_eq_false_iff, Bool.or_eq_false_iff, decide_eq_true_eq, decide_eq_false_iff_not, gd] at hb43
          have hk : (withinE (atT portsN (i : Int)) (l.getD i 0) 1 65535).isNone = true ∧ l.getD i 0 ∈ (ps ++ l.take i) := ⟨hb43.1, by simpa using hb43.2⟩
          refine AC_region ?_
          refine AL_p rfl rfl (S_move rfl (AEv.tmp rfl)) ?_
          refine AL_p rfl rfl (S_pcall rfl (AEvs.cons (AEv.S _) (AEvs.cons (AEv.tmp rfl) AEvs.nil)) (spec_at_ok portsN (by decide) (i : Int) hif)) ?_
          refine AL_p rfl rfl (S_buildSlice (e := 9) 1 rfl (AEvs.cons (AEv.tmp rfl) AEvs.nil) rfl (by kernel_rfl) (by kernel_rfl) (by simp [AV.flat, AV.one, AV.cells, Value.oneCell']) (by decide) (by decide) (by decide)) ?_
          refine AL_p rfl rfl (S_pcall rfl (AEvs.cons (AEv.const _) (AEvs.cons (AEv.tmp rfl) AEvs.nil)) (fail_New_ok 150 [(atT portsN (i : Int))] (by simp))) ?_
          refine AL_p rfl rfl (S_assign rfl (AEv.tmp rfl)) ?_
          refine AL_nil ?_
          exact ⟨(), trivial, rfl, (.cons rfl (Le.refl _) (.cons rfl (Le.refl _) (.cons rfl (Le.of_eq (by rw [portAt, if_pos hk]; rfl)) (.cons rfl (Le.refl _) .nil))))⟩
        · try simp only [Bool.and_eq_true, Bool.or_eq_true, Bool.not_eq_true', Bool.not_eq_false', Bool.and_eq_false_iff, Bool.or_eq_false_iff, decide_eq_true_eq, decide_eq_false_iff_not, gd] at hb43
          have hk : ¬ ((withinE (atT portsN (i : Int)) (l.getD i 0) 1 65535).isNone = true ∧ l.getD i 0 ∈ (ps ++ l.take i)) := fun ⟨h1, h2⟩ => by
            rcases hb43 with h | h
            · rw [h1] at h; cases h
            · first | exact h h2 | (simp at h; exact h h2)
          refine AC_skip ?_
          exact ⟨(), trivial, rfl, (.cons rfl (Le.refl _) (.cons rfl (Le.refl _) (.cons rfl (Le.of_eq (by rw [portAt, if_neg hk])) (.cons rfl (Le.refl _) .nil))))⟩
      · rintro _ _
        try dsimp only
        refine AC_plan (σ := [(0, 0), (1, 0), (2, 0), (3, 0), (4, 0), (5, 0), (6, 0), (7, 0), (8, 0), (9, 0), (10, 1), (11, 0), (12, 0), (13, 2)]) (by kernel_rfl) [(b, Ob.cells [ownAV p 1 (strsV ns), ownAV q2 1 (intsV (ps ++ l.take i))])] (by kernel_rfl) (fun r hr => List.mem_append_left (ownSt p 9 1 (strsV ns) ++ (ownSt q2 3 1 (intsV (ps ++ l.take i)) ++ F)) hr) ?_
        refine AG.f rfl rfl (fun st' hst => Q_p rfl (S_move rfl (AEv.tmp rfl))) ?_
        refine AG.f rfl rfl (fun st' hst => Q_p rfl (S_move rfl (AEv.tmp rfl))) ?_
        refine AG.f rfl rfl (fun st' hst => Q_p rfl (S_nilCheck rfl (AEv.tmp rfl))) ?_
        refine AG.f rfl rfl (fun st' hst => Q_p rfl (S_field 1 rfl (AEv.tmp rfl) (by kernel_rfl))) ?_
        refine AG.f rfl rfl (fun st' hst => Q_p rfl (S_loadM rfl (AEv.tmp rfl) (hst _ (List.mem_of_getElem? (i := 0) rfl)) rfl (by kernel_rfl))) ?_
        refine AG.f rfl rfl (fun st' hst => Q_p rfl (S_move rfl (AEv.tmp rfl))) ?_
        refine AG.f rfl rfl (fun st' hst => Q_p rfl (S_move rfl (AEv.tmp rfl))) ?_
        refine AG.f rfl rfl (fun st' hst => Q_p rfl (S_elem (e := 3) (c := .int .i64 (l.getD i 0)) (i := (i : Int)) 1 rfl (AEv.tmp rfl) (AEv.tmp rfl) (by kernel_rfl) (by kernel_rfl) (by omega) (by simp [intsV, hil]) rfl)) ?_
        refine AG.f rfl rfl (fun st' hst => Q_p rfl (S_loadP rfl (AEv.tmp rfl) rfl (by kernel_rfl))) ?_
        refine AG.f rfl rfl (fun st' hst => Q_p rfl (S_buildSlice (e := 3) 1 rfl (AEvs.cons (AEv.tmp rfl) AEvs.nil) rfl (by kernel_rfl) (by kernel_rfl) (by simp [AV.flat, AV.one, AV.cells, Value.oneCell']) (by decide) (by decide) (by decide))) ?_
        refine AG.s rfl rfl rfl (S_appendOwn (e := 3) (size := 1) (bytes := 8) (p := q2) (xs := intsV (ps ++ l.take i)) ((b, _) :: ownSt p 9 1 (strsV ns)) F rfl (AEv.tmp rfl) (AEv.tmp rfl) rfl hq2 (by kernel_rfl) (by simp) (fun x hx => by obtain ⟨r, _, rfl⟩ := List.mem_map.1 hx; rfl) (by simp [AV.cells, AV.one, Value.oneCell']) (by simp only [List.length_singleton]; omega) (by simp only [List.length_singleton]; omega)) ?_ ?_
        · rintro _ _ ⟨b8, k8, cap8, hx, rfl, rfl⟩ r hr; exact List.mem_append_left _ (List.mem_append_left _ hr)
        rintro _ _ ⟨b8, k8, cap8, hx, rfl, rfl⟩
        refine AG.f rfl rfl (fun st' hst => Q_p rfl (S_nilCheck rfl (AEv.tmp rfl))) ?_
        refine AG.f rfl rfl (fun st' hst => Q_p rfl (S_field 1 rfl (AEv.tmp rfl) (by kernel_rfl))) ?_
        refine AG.h rfl rfl rfl (S_store 0 rfl (AEv.tmp rfl) (AEv.tmp rfl) rfl (by first | exact Nat.le_of_ble_eq_true rfl | simp) (by first | rfl | exact ownAV_one _ _ _) (by kernel_rfl)) ?_
        rintro _ _ ⟨rfl, rfl⟩
        refine AG.nil ?_
        refine AC_region ?_
        refine AL_p rfl rfl (S_move rfl (AEv.tmp rfl)) ?_
        refine AL_p rfl rfl (S_addI rfl (AEv.tmp rfl) (AEv.const _) (by omega) (by omega)) ?_
        refine AL_p rfl rfl (S_assign rfl (AEv.tmp rfl)) ?_
        refine AL_nil ?_
        have hsn : intsV (ps ++ l.take (i + 1)) = intsV (ps ++ l.take i) ++ [AV.int .i64 (l.getD i 0)] := by
          have hg : l.getD i 0 = l[i] := by rw [List.getD_eq_getElem?_getD, List.getElem?_eq_getElem hil]; rfl
          rw [List.take_succ_eq_append_getElem hil, ← List.append_assoc, hg]
          unfold intsV
          rw [List.map_append]
          rfl
        refine ⟨(i + 1, portAt ps l i, .row b8 k8 cap8), ⟨by dsimp only; omega, fun h => ⟨hn0.1, fun j hj => ?_⟩, fun h => ?_, by dsimp only; rw [hsn]; exact hx⟩, by dsimp only; omega, by dsimp only; rw [hsn]; exact Sub.l (List.Sublist.refl _), (.cons rfl (Le.refl _) (.cons rfl (Le.refl _) (.cons rfl (Le.refl _) (.cons rfl (Le.of_eq (by dsimp only; rw [Int.natCast_add]; rfl)) .nil))))⟩
        · rcases Nat.lt_or_ge j i with h' | h'
          · exact hn0.2 j h'
          · rw [show j = i by omega]; exact h
        · dsimp only at h ⊢
          cases hxx : portAt ps l i with
          | none => exact absurd hxx h
          | some x => rw [portE_good hn0.1, eachE_at hil hxx hn0.2]
    · try simp only [Bool.and_eq_true, Bool.or_eq_true, Bool.not_eq_true', Bool.not_eq_false', Bool.and_eq_false_iff, Bool.or_eq_false_iff, decide_eq_true_eq, decide_eq_false_iff_not, gd] at hb14
      have hend : e = portE ps l n ∧ (portE ps l n = none → i = l.length) := by
        cases he : e with
        | some x => exact ⟨by rw [← he]; exact hyes (by rw [he]; exact fun h => by cases h), fun h => by have := hyes (by rw [he]; exact fun h => by cases h); rw [he, h] at this; cases this⟩
        | none =>
          have h0 := hno he
          rw [he] at hb14
          have hge : l.length ≤ i := by
            rcases hb14 with h | h
            · cases h
            · omega
          exact ⟨by rw [portE_good h0.1, eachE_all fun j hj => h0.2 j (by omega)], fun _ => by omega⟩
      refine AC_exit ?_
      refine AC_seq ?_
      refine AC_region ?_
      refine AL_p rfl rfl (S_move rfl (AEv.tmp rfl)) ?_
      refine AL_p rfl rfl (S_assign rfl (AEv.tmp rfl)) ?_
      refine AL_nil ?_
      refine AC_ret ?_
      refine ret_tmp ((b, Ob.cells [ownAV p 1 (strsV ns), ownAV q2 1 (intsV (ps ++ l.take i))]) :: (ownSt p 9 1 (strsV ns) ++ (ownSt q2 3 1 (intsV (ps ++ l.take i)) ++ F))) rfl rfl (Sub.l (List.Sublist.refl _)) (Conv.refl (Sub.l (List.Sublist.refl _)) _) ⟨q2, i, hi, hend.2, hq2, by rw [hend.1], rfl⟩ (.inl rfl)

end Go.Proofs.YtnjlecejhnoicaaDoor
