/- A part of the proof: what the program's functions answer.
Conditions: none beyond each theorem's own. -/
import Derived.Test.YtcbnokpgklmndaaGreatDoorW3
/-
The walks of Go functions in the logic AL: what each of them answers.
Conditions: those of each theorem.
-/
set_option linter.unusedVariables false
set_option linter.unusedSimpArgs false
namespace Go.Proofs.YtcbnokpgklmndaaGreatDoor
open Go.AL Go.NumSpec

set_option maxRecDepth 100000 in
/-- provost/provostlaw08.light -/
theorem law08_light_ok (x : Cal) : PCalls Tryz.prog 8 [calAV x] (.bool (lightA x)) := by
  intro st
  refine ACalls_of (N := 18) Tryz.func8 (by kernel_rfl) rfl rfl rfl ?_
  refine AC_seq ?_
  refine AC_region ?_
  refine AL_step rfl rfl (S_box rfl (.tmp rfl)) ?_
  rintro _ _ ⟨b1, rfl, rfl⟩
  refine AL_p rfl rfl (S_assign rfl (AEv.const _)) ?_
  refine AL_nil ?_
  refine AC_seq ?_
  refine AC_region ?_
  refine AL_p rfl rfl (S_field 3 rfl (.tmp rfl) (by kernel_rfl)) ?_
  refine AL_p rfl rfl (S_loadN (m := 7) 0 rfl (.tmp rfl) rfl (by kernel_rfl) (by first | exact Nat.le_of_ble_eq_true rfl | (simp; omega) | simp)) ?_
  refine AL_p rfl rfl (S_pcall rfl (AEvs.cons (.tmp rfl) AEvs.nil) (book_LightSpec_ok x.spec)) ?_
  refine AL_p rfl rfl (S_move rfl (.tmp rfl)) ?_
  refine AL_g rfl rfl (.tmp rfl) rfl (fun hg2 => S_field 15 rfl (.tmp rfl) (by kernel_rfl)) ?_
  refine AL_g rfl rfl (.tmp rfl) rfl (fun hg5 => S_load 0 rfl (AEv.cond (.tmp rfl) (by first | assumption | exact gdAnd (by assumption) (by assumption))) rfl rfl (by kernel_rfl)) ?_
  refine AL_g rfl rfl (.tmp rfl) rfl (fun hg8 => S_build (t := 26) (pl := [(0, 1), (1, 1), (2, 1), (3, 1), (4, 1), (5, 1), (6, 1)]) (zs := [.string ⟨#[]⟩, .slice none 0 0, .slice none 0 0, .slice none 0 0, .int .i64 0, .int .i64 0, .int .i64 0]) rfl (AEvs.cons (AEv.cond (.tmp rfl) (by first | assumption | exact gdAnd (by assumption) (by assumption))) AEvs.nil) (by kernel_rfl) rfl) ?_
  refine AL_g rfl rfl (.tmp rfl) rfl (fun hg11 => S_pcall rfl (AEvs.cons (y := spcAV (onlyL x.sel)) ((AEv.cond (.tmp rfl) (by first | assumption | exact gdAnd (by assumption) (by assumption))).le (by exact (Les.agg (.cons (Le.refl _) (.cons (Le.refl _) (.cons Le.nils (.cons Le.nils (.cons (Le.refl _) (.cons (Le.refl _) (.cons (Le.refl _) .nil)))))))))) AEvs.nil) (book_LightSpec_ok (onlyL x.sel))) ?_
  refine AL_p rfl rfl (S_and rfl (.tmp rfl) (fun hp14 => (AEv.cond (.tmp rfl) (by first | assumption | exact gdT hp14 | exact gdF hp14 | exact gdAnd (by assumption) (gdT hp14) | exact gdAnd (by assumption) (gdF hp14))))) ?_
  refine AL_p rfl rfl (S_move rfl (.tmp rfl)) ?_
  refine AL_g rfl rfl (.tmp rfl) rfl (fun hg15 => S_field 14 rfl (.tmp rfl) (by kernel_rfl)) ?_
  refine AL_g rfl rfl (.tmp rfl) rfl (fun hg18 => S_load 0 rfl (AEv.cond (.tmp rfl) (by first | assumption | exact gdAnd (by assumption) (by assumption))) rfl rfl (by kernel_rfl)) ?_
  refine AL_g rfl rfl (.tmp rfl) rfl (fun hg21 => S_lenS (ts := #[]) rfl (AEv.cond (.tmp rfl) (by first | assumption | exact gdAnd (by assumption) (by assumption))) (by kernel_rfl)) ?_
  refine AL_g rfl rfl (.tmp rfl) rfl (fun hg24 => S_lss rfl (AEv.cond (.tmp rfl) (by first | assumption | exact gdAnd (by assumption) (by assumption))) (AEv.const _)) ?_
  refine AL_p rfl rfl (S_and rfl (.tmp rfl) (fun hp27 => (AEv.cond (.tmp rfl) (by first | assumption | exact gdT hp27 | exact gdF hp27 | exact gdAnd (by assumption) (gdT hp27) | exact gdAnd (by assumption) (gdF hp27))))) ?_
  refine AL_p rfl rfl (S_assign rfl (.tmp rfl)) ?_
  refine AL_nil ?_
  refine AC_ret ?_
  refine ret_tmp st rfl rfl (Sub.l (List.sublist_cons_self _ _)) (Conv.refl (Sub.l (List.sublist_cons_self _ _)) _) ⟨rfl, rfl⟩ (.inl rfl)

set_option maxRecDepth 100000 in
/-- provost/provostlaw08.works -/
theorem law08_works_ok : GCalls Tryz.prog tabs 9 [] (.bool true) := by
  intro st hG
  refine ACalls_of (N := 49) Tryz.func9 (by kernel_rfl) rfl rfl rfl ?_
  refine AC_seq ?_
  refine AC_region ?_
  refine AL_p rfl rfl (S_assign rfl (AEv.const _)) ?_
  refine AL_nil ?_
  refine AC_seq ?_
  refine AC_region ?_
  refine AL_p rfl rfl (S_build (t := 28) (pl := [(0, 1), (1, 1), (2, 1), (3, 7), (10, 1), (11, 1), (12, 1), (13, 1), (14, 1), (15, 1)]) (zs := [.int .i64 0, .int .i64 0, .int .u64 0, .string ⟨#[]⟩, .slice none 0 0, .slice none 0 0, .slice none 0 0, .int .i64 0, .int .i64 0, .int .i64 0, .int .i64 0, .int .i64 0, .int .i64 0, .int .i64 0, .string ⟨#[]⟩, .slice none 0 0]) rfl (AEvs.cons (AEv.const _) (AEvs.cons (AEv.const _) AEvs.nil)) (by kernel_rfl) rfl) ?_
  refine AL_p rfl rfl (S_gcall rfl (AEvs.cons (y := calAV wA) ((AEv.tmp rfl).le (by exact (Les.agg (.cons (Le.refl _) (.cons (Le.refl _) (.cons (Le.refl _) (.cons (Le.refl _) (.cons (Le.nils) (.cons (Le.nils) (.cons (Le.nils) (.cons (Le.refl _) (.cons (Le.refl _) (.cons (Le.refl _) (.cons (Le.refl _) (.cons (Le.refl _) (.cons (Le.refl _) (.cons (Le.refl _) (.cons (Le.refl _) (.cons (Le.nils) .nil))))))))))))))))))) AEvs.nil) ((GCalls.of_eq (ask_Bytes_ok wA wA_short (by decide)) wA_bytes) _ (fun p hp => by repeat (first | exact hG p hp | refine List.mem_cons_of_mem _ ?_ | refine List.mem_append_right _ ?_)))) ?_
  refine AL_p rfl rfl (S_move rfl (.tmp rfl)) ?_
  refine AL_p rfl rfl (S_extract 0 rfl (.tmp rfl) rfl) ?_
  refine AL_p rfl rfl (S_extract 1 rfl (.tmp rfl) rfl) ?_
  refine AL_p rfl rfl (S_assign rfl (.tmp rfl)) ?_
  refine AL_p rfl rfl (S_assign rfl (.tmp rfl)) ?_
  refine AL_nil ?_
  refine AC_seq ?_
  refine AC_region ?_
  refine AL_p rfl rfl (S_gcall rfl (AEvs.cons (AEv.S _) AEvs.nil) ((GCalls.of_eq (ask_Of_ok [12, 5]) (congrArg (fun x : Cal × Er => AV.tup [calAV x.1, erV 31 143 x.2]) (show (ofA [12, 5], ofAE [12, 5]) = (wA, none) from wA_of))) _ (fun p hp => by repeat (first | exact hG p hp | refine List.mem_cons_of_mem _ ?_ | refine List.mem_append_right _ ?_)))) ?_
  refine AL_p rfl rfl (S_move rfl (.tmp rfl)) ?_
  refine AL_p rfl rfl (S_extract 0 rfl (.tmp rfl) rfl) ?_
  refine AL_p rfl rfl (S_extract 1 rfl (.tmp rfl) rfl) ?_
  refine AL_step rfl rfl (S_alloc [.int .i64 0, .int .i64 0, .int .u64 0, .string ⟨#[]⟩, .slice none 0 0, .slice none 0 0, .slice none 0 0, .int .i64 0, .int .i64 0, .int .i64 0, .int .i64 0, .int .i64 0, .int .i64 0, .int .i64 0, .string ⟨#[]⟩, .slice none 0 0] rfl (by kernel_rfl)) ?_
  rintro _ _ ⟨b3, rfl, rfl⟩
  refine AL_step rfl rfl (S_storeW 0 rfl (.tmp rfl) (.tmp rfl) rfl rfl rfl (by kernel_rfl)) ?_
  rintro _ _ ⟨rfl, rfl⟩
  refine AL_p rfl rfl (S_assign rfl (.tmp rfl)) ?_
  refine AL_nil ?_
  refine AC_seq ?_
  refine AC_region ?_
  refine AL_p rfl rfl (S_gcall rfl (AEvs.cons (AEv.S _) AEvs.nil) ((GCalls.of_eq (ask_Of_ok [0]) (congrArg (fun x : Cal × Er => AV.tup [calAV x.1, erV 31 143 x.2]) (show (ofA [0], ofAE [0]) = (cal0 0, (some (80, [kindN]))) from zero_of))) _ (fun p hp => by repeat (first | exact hG p hp | refine List.mem_cons_of_mem _ ?_ | refine List.mem_append_right _ ?_)))) ?_
  refine AL_p rfl rfl (S_move rfl (.tmp rfl)) ?_
  refine AL_p rfl rfl (S_extract 0 rfl (.tmp rfl) rfl) ?_
  refine AL_p rfl rfl (S_extract 1 rfl (.tmp rfl) rfl) ?_
  refine AL_step rfl rfl (S_alloc [.int .i64 0, .int .i64 0, .int .u64 0, .string ⟨#[]⟩, .slice none 0 0, .slice none 0 0, .slice none 0 0, .int .i64 0, .int .i64 0, .int .i64 0, .int .i64 0, .int .i64 0, .int .i64 0, .int .i64 0, .string ⟨#[]⟩, .slice none 0 0] rfl (by kernel_rfl)) ?_
  rintro _ _ ⟨b5, rfl, rfl⟩
  refine AL_step rfl rfl (S_storeW 0 rfl (.tmp rfl) (.tmp rfl) rfl rfl rfl (by kernel_rfl)) ?_
  rintro _ _ ⟨rfl, rfl⟩
  refine AL_p rfl rfl (S_assign rfl (.tmp rfl)) ?_
  refine AL_nil ?_
  refine AC_seq ?_
  refine AC_region ?_
  refine AL_p rfl rfl (S_move rfl (.tmp rfl)) ?_
  refine AL_p rfl rfl (S_eqS rfl (.tmp rfl) (AEv.S _)) ?_
  refine AL_p rfl rfl (S_move rfl (.tmp rfl)) ?_
  refine AL_g rfl rfl (.tmp rfl) rfl (fun hg3 => S_move rfl (.tmp rfl)) ?_
  refine AL_g rfl rfl (.tmp rfl) rfl (fun hg6 => S_eql rfl (AEv.cond (.tmp rfl) (by first | assumption | exact gdAnd (by assumption) (by assumption))) (AEv.const _)) ?_
  refine AL_p rfl rfl (S_and rfl (.tmp rfl) (fun hp9 => (AEv.cond (.tmp rfl) (by first | assumption | exact gdT hp9 | exact gdF hp9 | exact gdAnd (by assumption) (gdT hp9) | exact gdAnd (by assumption) (gdF hp9))))) ?_
  refine AL_p rfl rfl (S_move rfl (.tmp rfl)) ?_
  refine AL_g rfl rfl (.tmp rfl) rfl (fun hg10 => S_move rfl (.tmp rfl)) ?_
  refine AL_g rfl rfl (.tmp rfl) rfl (fun hg13 => S_eqlE (er_is 31 143 (none)) rfl (AEv.cond (.tmp rfl) (by first | assumption | exact gdAnd (by assumption) (by assumption))) (by kernel_rfl)) ?_
  refine AL_p rfl rfl (S_and rfl (.tmp rfl) (fun hp16 => (AEv.cond (.tmp rfl) (by first | assumption | exact gdT hp16 | exact gdF hp16 | exact gdAnd (by assumption) (gdT hp16) | exact gdAnd (by assumption) (gdF hp16))))) ?_
  refine AL_p rfl rfl (S_move rfl (.tmp rfl)) ?_
  refine AL_g rfl rfl (.tmp rfl) rfl (fun hg17 => S_field 0 rfl (.tmp rfl) (by kernel_rfl)) ?_
  refine AL_g rfl rfl (.tmp rfl) rfl (fun hg20 => S_load 1 rfl (AEv.cond (.tmp rfl) (by first | assumption | exact gdAnd (by assumption) (by assumption))) rfl rfl (by kernel_rfl)) ?_
  refine AL_g rfl rfl (.tmp rfl) rfl (fun hg23 => S_eql rfl (AEv.cond (.tmp rfl) (by first | assumption | exact gdAnd (by assumption) (by assumption))) (AEv.const _)) ?_
  refine AL_p rfl rfl (S_and rfl (.tmp rfl) (fun hp26 => (AEv.cond (.tmp rfl) (by first | assumption | exact gdT hp26 | exact gdF hp26 | exact gdAnd (by assumption) (gdT hp26) | exact gdAnd (by assumption) (gdF hp26))))) ?_
  refine AL_p rfl rfl (S_move rfl (.tmp rfl)) ?_
  refine AL_g rfl rfl (.tmp rfl) rfl (fun hg27 => S_field 12 rfl (.tmp rfl) (by kernel_rfl)) ?_
  refine AL_g rfl rfl (.tmp rfl) rfl (fun hg30 => S_load 1 rfl (AEv.cond (.tmp rfl) (by first | assumption | exact gdAnd (by assumption) (by assumption))) rfl rfl (by kernel_rfl)) ?_
  refine AL_g rfl rfl (.tmp rfl) rfl (fun hg33 => S_eql rfl (AEv.cond (.tmp rfl) (by first | assumption | exact gdAnd (by assumption) (by assumption))) (AEv.const _)) ?_
  refine AL_p rfl rfl (S_and rfl (.tmp rfl) (fun hp36 => (AEv.cond (.tmp rfl) (by first | assumption | exact gdT hp36 | exact gdF hp36 | exact gdAnd (by assumption) (gdT hp36) | exact gdAnd (by assumption) (gdF hp36))))) ?_
  refine AL_p rfl rfl (S_move rfl (.tmp rfl)) ?_
  refine AL_g rfl rfl (.tmp rfl) rfl (fun hg37 => S_move rfl (.tmp rfl)) ?_
  refine AL_g rfl rfl (.tmp rfl) rfl (fun hg40 => S_gcall rfl (AEvs.cons (AEv.cond (.tmp rfl) (by first | assumption | exact gdAnd (by assumption) (by assumption))) AEvs.nil) ((fail_Code_ok (some (80, [kindN]))) _ (fun p hp => by repeat (first | exact hG p hp | refine List.mem_cons_of_mem _ ?_ | refine List.mem_append_right _ ?_)))) ?_
  refine AL_g rfl rfl (.tmp rfl) rfl (fun hg43 => S_eql rfl (AEv.cond (.tmp rfl) (by first | assumption | exact gdAnd (by assumption) (by assumption))) (AEv.const _)) ?_
  refine AL_p rfl rfl (S_and rfl (.tmp rfl) (fun hp46 => (AEv.cond (.tmp rfl) (by first | assumption | exact gdT hp46 | exact gdF hp46 | exact gdAnd (by assumption) (gdT hp46) | exact gdAnd (by assumption) (gdF hp46))))) ?_
  refine AL_p rfl rfl (S_move rfl (.tmp rfl)) ?_
  refine AL_g rfl rfl (.tmp rfl) rfl (fun hg47 => S_gcall rfl (AEvs.cons (AEv.const _) AEvs.nil) ((ask_Name_ok 1) _ (fun p hp => by repeat (first | exact hG p hp | refine List.mem_cons_of_mem _ ?_ | refine List.mem_append_right _ ?_)))) ?_
  refine AL_g rfl rfl (.tmp rfl) rfl (fun hg50 => S_eqS rfl (AEv.cond (.tmp rfl) (by first | assumption | exact gdAnd (by assumption) (by assumption))) (AEv.S _)) ?_
  refine AL_p rfl rfl (S_and rfl (.tmp rfl) (fun hp53 => (AEv.cond (.tmp rfl) (by first | assumption | exact gdT hp53 | exact gdF hp53 | exact gdAnd (by assumption) (gdT hp53) | exact gdAnd (by assumption) (gdF hp53))))) ?_
  refine AL_p rfl rfl (S_assign rfl (.tmp rfl)) ?_
  refine AL_nil ?_
  refine AC_ret ?_
  refine ret_tmp st rfl rfl (Sub.l ((List.sublist_cons_self _ _).trans (List.sublist_cons_self _ _))) (Conv.refl (Sub.l ((List.sublist_cons_self _ _).trans (List.sublist_cons_self _ _))) _) ⟨rfl, rfl⟩ (.inl rfl)

end Go.Proofs.YtcbnokpgklmndaaGreatDoor

/-
The walks of Go functions in the logic AL: what each of them answers.
Conditions: those of each theorem.
-/
set_option linter.unusedVariables false
set_option linter.unusedSimpArgs false
namespace Go.Proofs.YtcbnokpgklmndaaGreatDoor
open Go.AL Go.NumSpec

end Go.Proofs.YtcbnokpgklmndaaGreatDoor

/-
The walks of Go functions in the logic AL: what each of them answers.
Conditions: those of each theorem.
-/
set_option linter.unusedVariables false
set_option linter.unusedSimpArgs false
namespace Go.Proofs.YtcbnokpgklmndaaGreatDoor
open Go.AL Go.NumSpec

set_option maxRecDepth 100000 in
set_option maxHeartbeats 1000000 in
/-- provost/provostref06.one -/
theorem ref06_one_ok (c : Ctr) (ahead : List Ctr) (init : Bool) (hn : c.name.length ≤ 1000000) (him : c.image.length ≤ 1000000) (hpc : c.ports.length ≤ 1000000) (ha : ahead.length ≤ 1000000) (hap : ∀ x ∈ ahead, x.ports.length ≤ 1000000) : PCalls Tryz.prog 59 [ctrAV c, .sl (ctrsV ahead), .bool init] (cpAV (ctrE (ahead.map Ctr.name) (ahead.flatMap Ctr.ports) c (if init = true then 0 else 3) (if init = true then 0 else 1000))) := by
  intro st
  refine ACalls_of (N := 175) Tryz.func59 (by kernel_rfl) rfl rfl rfl ?_
  refine AC_seq ?_
  refine AC_region ?_
  refine AL_step rfl rfl (S_box rfl (.tmp rfl)) ?_
  rintro _ _ ⟨b3, rfl, rfl⟩
  refine AL_p rfl rfl (S_assign rfl (AEv.const _)) ?_
  refine AL_p rfl rfl (S_assign rfl (AEv.S _)) ?_
  refine AL_nil ?_
  refine AC_seq ?_
  refine AC_seq ?_
  refine AC_region ?_
  refine AL_p rfl rfl (S_field 0 rfl (.tmp rfl) (by kernel_rfl)) ?_
  refine AL_p rfl rfl (S_load 0 rfl (.tmp rfl) rfl rfl (by kernel_rfl)) ?_
  refine AL_p rfl rfl (S_pcall rfl (AEvs.cons (.tmp rfl) AEvs.nil) (ref03_Name_ok c.name (by omega))) ?_
  refine AL_p rfl rfl (S_not rfl (.tmp rfl)) ?_
  refine AL_nil ?_
  refine AC_cond (.tmp rfl) (fun hb2 => ?_) (fun hb2 => ?_)
  · try simp only [zA, zO, zN, zM, zP, zQ, zD, zF, gd] at hb2
    have hx := one_1 (ps := (ahead.flatMap Ctr.ports)) (a := (if init = true then 0 else 3)) (b := (if init = true then 0 else 1000)) (nameE_bad (ns := (ahead.map Ctr.name)) (c := c) hb2)
    refine AC_seq ?_
    refine AC_region ?_
    refine AL_p rfl rfl (S_assign rfl (AEv.const _)) ?_
    refine AL_p rfl rfl (S_assign rfl (AEv.S _)) ?_
    refine AL_nil ?_
    refine AC_ret ?_
    refine ret_tmps (ts := [6, 7]) st rfl (by decide) rfl (Sub.l (List.Sublist.cons _ (List.Sublist.refl _))) (Conv.refl (Sub.l (List.Sublist.cons _ (List.Sublist.refl _))) _) ⟨cp_some hx rfl, rfl⟩ (.inl rfl)
  try simp only [zA, zO, zN, zM, zP, zQ, zD, zF, gd] at hb2
  have hnv : nameV c.name = true := hb2
  refine AC_skip ?_
  refine AC_seq ?_
  refine AC_seq ?_
  refine AC_region ?_
  refine AL_p rfl rfl (S_assign rfl (AEv.const _)) ?_
  refine AL_nil ?_
  refine AC_block ?_
  refine AC_loopK (G := Nat) [(1, _), (2, _), (3, _)] (fun g => g ≤ ahead.length ∧ c.name ∉ (ahead.take g).map Ctr.name) (fun g => [(8, .int .i64 (g : Int))]) (fun g => (b3, .cells (ctrL c)) :: st) (fun g => ahead.length - g) (0) (⟨Nat.zero_le _, by simp⟩) (Sub.l (List.Sublist.refl _)) (.cons rfl (Le.refl _) (.cons rfl (Le.refl _) (.cons rfl (Le.refl _) .nil))) (.cons rfl (by first | exact Le.refl _ | exact Le.nils | exact Le.row _ _ _ _ | exact Le.of_eq (by first | rfl | (simp; done) | (push_cast; rfl) | (simp; omega))) .nil) ?_
  rintro i ⟨hi, hno⟩
  try dsimp only
  simp only [List.cons_append, List.nil_append]
  refine AC_seq ?_
  refine AC_seq ?_
  refine AC_region ?_
  refine AL_p rfl rfl (S_move rfl (.tmp rfl)) ?_
  refine AL_p rfl rfl (S_move rfl (.tmp rfl)) ?_
  refine AL_p rfl rfl (by first | exact S_lenM (e := 114) rfl (.tmp rfl) (by kernel_rfl) | exact S_len (e := 114) rfl (.tmp rfl) (by kernel_rfl)) ?_
  refine AL_p rfl rfl (S_lss rfl (.tmp rfl) (.tmp rfl)) ?_
  refine AL_nil ?_
  refine AC_cond (.tmp rfl) (fun hb3 => ?_) (fun hb3 => ?_)
  · try simp only [zA, zO, zN, zM, zP, zQ, zD, zF, gd] at hb3
    have hil : i < ahead.length := by omega
    refine AC_skip ?_
    refine AC_seq ?_
    refine AC_block ?_
    refine AC_seq ?_
    refine AC_draw (by kernel_rfl) (by kernel_rfl) (.cons rfl (Q_p rfl (S_move rfl (.tmp rfl))) <|
        .cons rfl (Q_p rfl (S_move rfl (.tmp rfl))) <|
        .cons rfl (Q_p rfl (S_elemN (e := 114) 11 rfl (.tmp rfl) (.tmp rfl) (by kernel_rfl) (by kernel_rfl) (by omega) (fun _ => rfl))) <|
        .cons rfl (Q_p rfl (S_fieldP 0 rfl (.tmp rfl) (by kernel_rfl))) <|
        .cons rfl (Q_p rfl (S_loadP rfl (.tmp rfl) rfl (by kernel_rfl))) <|
        .cons rfl (Q_p rfl (S_field 0 rfl (.tmp rfl) (by kernel_rfl))) <|
        .cons rfl (Q_p rfl (S_load 0 rfl (.tmp rfl) rfl rfl (by kernel_rfl))) <|
        .cons rfl (Q_p rfl (S_eqS rfl (.tmp rfl) (.tmp rfl))) <|
        .nil) ?_
    refine AC_cond (.tmp rfl) (fun hb4 => ?_) (fun hb4 => ?_)
    · try simp only [zA, zO, zN, zM, zP, zQ, zD, zF, gd] at hb4
      have hx := one_1 (ps := (ahead.flatMap Ctr.ports)) (a := (if init = true then 0 else 3)) (b := (if init = true then 0 else 1000)) (nameE_there (ns := (ahead.map Ctr.name)) (c := c) hnv (by have := hb4; rw [← this]; exact List.mem_map_of_mem (List.getElem_mem hil)))
      refine AC_seq ?_
      refine AC_region ?_
      refine AL_p rfl rfl (S_assign rfl (AEv.const _)) ?_
      refine AL_p rfl rfl (S_assign rfl (AEv.S _)) ?_
      refine AL_nil ?_
      refine AC_ret ?_
      refine ret_tmps (ts := [6, 7]) st rfl (by decide) rfl (Sub.l (List.Sublist.cons _ (List.Sublist.refl _))) (Conv.refl (Sub.l (List.Sublist.cons _ (List.Sublist.refl _))) _) ⟨cp_some hx rfl, rfl⟩ (.inl rfl)
    try simp only [zA, zO, zN, zM, zP, zQ, zD, zF, gd] at hb4
    have hne : (ahead[i]'hil).name ≠ c.name := hb4
    refine AC_skip ?_
    refine AC_region ?_
    refine AL_p rfl rfl (S_move rfl (.tmp rfl)) ?_
    refine AL_p rfl rfl (S_addI rfl (.tmp rfl) (AEv.const _) (by omega) (by omega)) ?_
    refine AL_p rfl rfl (S_assign rfl (.tmp rfl)) ?_
    refine AL_nil ?_
    exact ⟨i + 1, ⟨by omega, by
      rw [List.take_succ_eq_append_getElem hil, List.map_append]
      intro h
      rcases List.mem_append.1 h with h | h
      · exact hno h
      · simp only [List.map_cons, List.map_nil, List.mem_singleton] at h; exact hne h.symm⟩, by omega, (Sub.l (List.Sublist.refl _)), (.cons rfl (by first | exact Le.refl _ | exact Le.nils | exact Le.row _ _ _ _ | exact Le.of_eq (by first | rfl | (simp; done) | (push_cast; rfl) | (simp; omega))) .nil), (.cons rfl (Le.refl _) (.cons rfl (Le.refl _) (.cons rfl (Le.refl _) .nil)))⟩
  try simp only [zA, zO, zN, zM, zP, zQ, zD, zF, gd] at hb3
  have hn0 : nameE (ahead.map Ctr.name) c.name = none := nameE_ok hnv (by rw [List.take_of_length_le (by omega)] at hno; exact hno)
  refine AC_exit ?_
  refine AC_seq ?_
  refine AC_region ?_
  refine AL_p rfl rfl (S_field 1 rfl (.tmp rfl) (by kernel_rfl)) ?_
  refine AL_p rfl rfl (S_load 0 rfl (.tmp rfl) rfl rfl (by kernel_rfl)) ?_
  refine AL_p rfl rfl (S_pcall rfl (AEvs.cons (.tmp rfl) AEvs.nil) (ref03_Split_ok c.image (by omega))) ?_
  refine AL_p rfl rfl (S_move rfl (.tmp rfl)) ?_
  refine AL_p rfl rfl (S_extract 0 rfl (.tmp rfl) rfl) ?_
  refine AL_p rfl rfl (S_extract 1 rfl (.tmp rfl) rfl) ?_
  refine AL_p rfl rfl (S_extract 2 rfl (.tmp rfl) rfl) ?_
  refine AL_p rfl rfl (S_assign rfl (.tmp rfl)) ?_
  refine AL_p rfl rfl (S_assign rfl (.tmp rfl)) ?_
  refine AL_p rfl rfl (S_assign rfl (.tmp rfl)) ?_
  refine AL_nil ?_
  refine AC_seq ?_
  refine AC_seq ?_
  refine AC_region ?_
  refine AL_p rfl rfl (S_move rfl (.tmp rfl)) ?_
  refine AL_p rfl rfl (S_not rfl (.tmp rfl)) ?_
  refine AL_nil ?_
  refine AC_cond (.tmp rfl) (fun hb5 => ?_) (fun hb5 => ?_)
  · try simp only [zA, zO, zN, zM, zP, zQ, zD, zF, gd] at hb5
    have hx := one_2 (ps := (ahead.flatMap Ctr.ports)) (a := (if init = true then 0 else 3)) (b := (if init = true then 0 else 1000)) hn0 (show imgE c = some (33, [[105, 109, 97, 103, 101]]) by unfold imgE; rw [hb5]; rfl)
    refine AC_seq ?_
    refine AC_region ?_
    refine AL_p rfl rfl (S_assign rfl (AEv.const _)) ?_
    refine AL_p rfl rfl (S_assign rfl (AEv.S _)) ?_
    refine AL_nil ?_
    refine AC_ret ?_
    refine ret_tmps (ts := [6, 7]) st rfl (by decide) rfl (Sub.l (List.Sublist.cons _ (List.Sublist.refl _))) (Conv.refl (Sub.l (List.Sublist.cons _ (List.Sublist.refl _))) _) ⟨cp_some hx rfl, rfl⟩ (.inl rfl)
  try simp only [zA, zO, zN, zM, zP, zQ, zD, zF, gd] at hb5
  have hi0 : imgE c = none := by unfold imgE; rw [hb5]; rfl
  refine AC_skip ?_
  refine AC_seq ?_
  refine AC_region ?_
  refine AL_p rfl rfl (S_buildSlice (e := 9) 1 rfl (AEvs.cons (AEv.S _) (AEvs.cons (AEv.S _) (AEvs.cons (AEv.S _) AEvs.nil))) rfl (by kernel_rfl) (by kernel_rfl) (by intro y hy; simp only [List.mem_cons, List.not_mem_nil, or_false] at hy; rcases hy with rfl | rfl | rfl <;> exact ⟨rfl, rfl⟩) (by decide) (by decide) (by decide)) ?_
  refine AL_p rfl rfl (S_assign rfl (.tmp rfl)) ?_
  refine AL_nil ?_
  refine AC_seq ?_
  refine AC_region ?_
  refine AL_p rfl rfl (S_field 2 rfl (.tmp rfl) (by kernel_rfl)) ?_
  refine AL_p rfl rfl (S_loadN (m := 3) 0 rfl (.tmp rfl) rfl (by kernel_rfl) (by first | exact Nat.le_of_ble_eq_true rfl | (simp; omega) | simp)) ?_
  refine AL_p rfl rfl (S_pcall rfl (AEvs.cons (y := resAV c.req) (.tmp rfl) AEvs.nil) (ref06_three_ok c.req)) ?_
  refine AL_p rfl rfl (S_build (t := 159) (pl := [(0, 1), (1, 1), (2, 1)]) (zs := [.int .i64 0, .int .i64 0, .int .i64 0]) rfl AEvs.nil (by kernel_rfl) rfl) ?_
  refine AL_p rfl rfl (S_pcall rfl (AEvs.cons (y := resAV c.req) (.tmp rfl) (AEvs.cons (y := resAV (0, 0, 0)) (.tmp rfl) (AEvs.cons (AEv.const _) AEvs.nil))) (ref06_numbers_ok c.req (0, 0, 0) false)) ?_
  refine AL_p rfl rfl (S_assign rfl (.tmp rfl)) ?_
  refine AL_nil ?_
  refine AC_seq ?_
  refine AC_seq ?_
  refine AC_region ?_
  refine AL_p rfl rfl (S_move rfl (.tmp rfl)) ?_
  refine AL_p rfl rfl (S_geq rfl (.tmp rfl) (AEv.const _)) ?_
  refine AL_nil ?_
  refine AC_cond (.tmp rfl) (fun hb6 => ?_) (fun hb6 => ?_)
  · try simp only [zA, zO, zN, zM, zP, zQ, zD, zF, gd] at hb6
    have hx := one_3 (ps := (ahead.flatMap Ctr.ports)) (a := (if init = true then 0 else 3)) (b := (if init = true then 0 else 1000)) hn0 hi0 (show reqE c.req = _ by rw [req_nums, if_pos (by omega)])
    have hk9 : (numsI c.req (0, 0, 0) false).toNat < numN.length := by have := (numsI_range c.req (0, 0, 0) false).2; show _ < 3; omega
    have hk8 := num_len hk9
    refine AC_seq ?_
    refine AC_draw (by kernel_rfl) (by kernel_rfl) (.cons rfl (Q_p rfl (S_move rfl (.tmp rfl))) <|
        .cons rfl (Q_p rfl (S_move rfl (.tmp rfl))) <|
        .cons rfl (Q_p rfl (S_elemN (e := 9) (f := fun s => .S s) (l := numN) (i := (numsI c.req (0, 0, 0) false).toNat) 1 rfl (.tmp rfl) ((AEv.tmp rfl).le (Le.of_eq (congrArg (AV.int _) (show (numsI c.req (0, 0, 0) false) = (((numsI c.req (0, 0, 0) false).toNat : Nat) : Int) by omega)))) (by kernel_rfl) (by kernel_rfl) (by have := (numsI_range c.req (0, 0, 0) false).2; show _ < 3; omega) (fun _ => rfl))) <|
        .cons rfl (Q_p rfl (S_loadP rfl (.tmp rfl) rfl (by kernel_rfl))) <|
        .cons rfl (Q_p rfl (S_cat rfl (AEv.S _) (.tmp rfl) (by first | omega | (simp only [List.length_append, List.length_cons, List.length_nil]; omega)))) <|
        .cons rfl (Q_p rfl (S_assign rfl (AEv.const _))) <|
        .cons rfl (Q_p rfl (S_assign rfl (.tmp rfl))) <|
        .nil) ?_
    refine AC_ret ?_
    refine ret_tmps (ts := [6, 7]) st rfl (by decide) rfl (Sub.l (List.Sublist.cons _ (List.Sublist.refl _))) (Conv.refl (Sub.l (List.Sublist.cons _ (List.Sublist.refl _))) _) ⟨cp_some hx (by rw [join_two]; exact num_text [114, 101, 113] hk9), rfl⟩ (.inl rfl)
  try simp only [zA, zO, zN, zM, zP, zQ, zD, zF, gd] at hb6
  have hr0 : reqE c.req = none := by rw [req_nums, if_neg (by omega)]
  refine AC_skip ?_
  refine AC_seq ?_
  refine AC_draw (by kernel_rfl) (by kernel_rfl) (.cons rfl (Q_p rfl (S_field 5 rfl (.tmp rfl) (by kernel_rfl))) <|
      .cons rfl (Q_p rfl (S_loadN (m := 3) 0 rfl (.tmp rfl) rfl (by kernel_rfl) (by first | exact Nat.le_of_ble_eq_true rfl | (simp; omega) | simp))) <|
      .cons rfl (Q_p rfl (S_pcall rfl (AEvs.cons (y := resAV c.lim) (.tmp rfl) AEvs.nil) (ref06_three_ok c.lim))) <|
      .cons rfl (Q_p rfl (S_field 2 rfl (.tmp rfl) (by kernel_rfl))) <|
      .cons rfl (Q_p rfl (S_loadN (m := 3) 0 rfl (.tmp rfl) rfl (by kernel_rfl) (by first | exact Nat.le_of_ble_eq_true rfl | (simp; omega) | simp))) <|
      .cons rfl (Q_p rfl (S_pcall rfl (AEvs.cons (y := resAV c.req) (.tmp rfl) AEvs.nil) (ref06_three_ok c.req))) <|
      .cons rfl (Q_p rfl (S_pcall rfl (AEvs.cons (.tmp rfl) (AEvs.cons (.tmp rfl) (AEvs.cons (AEv.const _) AEvs.nil))) (ref06_numbers_ok c.lim c.req true))) <|
      .cons rfl (Q_p rfl (S_assign rfl (.tmp rfl))) <|
      .nil) ?_
  refine AC_seq ?_
  refine AC_seq ?_
  refine AC_region ?_
  refine AL_p rfl rfl (S_move rfl (.tmp rfl)) ?_
  refine AL_p rfl rfl (S_geq rfl (.tmp rfl) (AEv.const _)) ?_
  refine AL_nil ?_
  refine AC_cond (.tmp rfl) (fun hb7 => ?_) (fun hb7 => ?_)
  · try simp only [zA, zO, zN, zM, zP, zQ, zD, zF, gd] at hb7
    have hx := one_4 (ps := (ahead.flatMap Ctr.ports)) (a := (if init = true then 0 else 3)) (b := (if init = true then 0 else 1000)) hn0 hi0 hr0 (show limE c.lim c.req = _ by rw [lim_nums, if_pos (by omega)])
    have hk9 : (numsI c.lim c.req true).toNat < numN.length := by have := (numsI_range c.lim c.req true).2; show _ < 3; omega
    have hk8 := num_len hk9
    refine AC_seq ?_
    refine AC_draw (by kernel_rfl) (by kernel_rfl) (.cons rfl (Q_p rfl (S_move rfl (.tmp rfl))) <|
        .cons rfl (Q_p rfl (S_move rfl (.tmp rfl))) <|
        .cons rfl (Q_p rfl (S_elemN (e := 9) (f := fun s => .S s) (l := numN) (i := (numsI c.lim c.req true).toNat) 1 rfl (.tmp rfl) ((AEv.tmp rfl).le (Le.of_eq (congrArg (AV.int _) (show (numsI c.lim c.req true) = (((numsI c.lim c.req true).toNat : Nat) : Int) by omega)))) (by kernel_rfl) (by kernel_rfl) (by have := (numsI_range c.lim c.req true).2; show _ < 3; omega) (fun _ => rfl))) <|
        .cons rfl (Q_p rfl (S_loadP rfl (.tmp rfl) rfl (by kernel_rfl))) <|
        .cons rfl (Q_p rfl (S_cat rfl (AEv.S _) (.tmp rfl) (by first | omega | (simp only [List.length_append, List.length_cons, List.length_nil]; omega)))) <|
        .cons rfl (Q_p rfl (S_assign rfl (AEv.const _))) <|
        .cons rfl (Q_p rfl (S_assign rfl (.tmp rfl))) <|
        .nil) ?_
    refine AC_ret ?_
    refine ret_tmps (ts := [6, 7]) st rfl (by decide) rfl (Sub.l (List.Sublist.cons _ (List.Sublist.refl _))) (Conv.refl (Sub.l (List.Sublist.cons _ (List.Sublist.refl _))) _) ⟨cp_some hx (by rw [join_two]; exact num_text [108, 105, 109] hk9), rfl⟩ (.inl rfl)
  try simp only [zA, zO, zN, zM, zP, zQ, zD, zF, gd] at hb7
  have hl0 : limE c.lim c.req = none := by rw [lim_nums, if_neg (by omega)]
  refine AC_skip ?_
  refine AC_seq ?_
  refine AC_seq ?_
  refine AC_region ?_
  refine AL_p rfl rfl (S_field 8 rfl (.tmp rfl) (by kernel_rfl)) ?_
  refine AL_p rfl rfl (S_load 0 rfl (.tmp rfl) rfl rfl (by kernel_rfl)) ?_
  refine AL_p rfl rfl (by first | exact S_lenM (e := 3) rfl (.tmp rfl) (by kernel_rfl) | exact S_len (e := 3) rfl (.tmp rfl) (by kernel_rfl)) ?_
  refine AL_p rfl rfl (S_gtr rfl (.tmp rfl) (AEv.const _)) ?_
  refine AL_p rfl rfl (S_move rfl (.tmp rfl)) ?_
  refine AL_g rfl rfl (.tmp rfl) rfl (fun hg8 => S_move rfl (.tmp rfl)) ?_
  refine AL_g rfl rfl (.tmp rfl) rfl (fun hg11 => S_move rfl (AEv.cond (.tmp rfl) (by first | assumption | exact gdAnd (by assumption) (by assumption)))) ?_
  refine AL_gg rfl rfl (.tmp rfl) rfl (fun hg14 hg15 hg16 => S_field 8 rfl (.tmp rfl) (by kernel_rfl)) ?_
  refine AL_gg rfl rfl (.tmp rfl) rfl (fun hg17 hg18 hg19 => S_load 0 rfl (AEv.cond (.tmp rfl) (by first | assumption | exact gdAnd (by assumption) (by assumption))) rfl rfl (by kernel_rfl)) ?_
  refine AL_gg rfl rfl (.tmp rfl) rfl (fun hg20 hg21 hg22 => by first | exact S_lenM (e := 3) rfl (AEv.cond (.tmp rfl) (by first | assumption | exact gdAnd (by assumption) (by assumption))) (by kernel_rfl) | exact S_len (e := 3) rfl (AEv.cond (.tmp rfl) (by first | assumption | exact gdAnd (by assumption) (by assumption))) (by kernel_rfl)) ?_
  refine AL_gg rfl rfl (.tmp rfl) rfl (fun hg23 hg24 hg25 => S_gtr rfl (AEv.cond (.tmp rfl) (by first | assumption | exact gdAnd (by assumption) (by assumption))) (AEv.const _)) ?_
  refine AL_g rfl rfl (.tmp rfl) rfl (fun hg26 => S_and rfl (AEv.cond (.tmp rfl) (by first | assumption | exact gdAnd (by assumption) (by assumption))) (fun hp29 => (AEv.cond (.tmp rfl) (by first | assumption | exact gdT hp29 | exact gdF hp29 | exact gdAnd (by assumption) (gdT hp29) | exact gdAnd (by assumption) (gdF hp29))))) ?_
  refine AL_p rfl rfl (S_or rfl (.tmp rfl) (fun hp30 => (AEv.cond (.tmp rfl) (by first | assumption | exact gdT hp30 | exact gdF hp30 | exact gdAnd (by assumption) (gdT hp30) | exact gdAnd (by assumption) (gdF hp30))))) ?_
  refine AL_nil ?_
  refine AC_cond (.tmp rfl) (fun hb31 => ?_) (fun hb31 => ?_)
  · try simp only [zA, zO, zN, zM, zP, zQ, zD, zF, gd] at hb31
    have hx := one_5 (a := (if init = true then 0 else 3)) (b := (if init = true then 0 else 1000)) hn0 hi0 hr0 hl0 (port_many (ps := (ahead.flatMap Ctr.ports)) (l := c.ports) (n := (if init = true then 0 else 3)) (by cases init <;> simp only [Bool.true_eq_false, Bool.false_eq_true, false_or, or_false, true_or, or_true, false_and, and_false, true_and, and_true, if_true, if_false, reduceIte] at hb31 ⊢ <;> omega))
    refine AC_seq ?_
    refine AC_region ?_
    refine AL_p rfl rfl (S_assign rfl (AEv.const _)) ?_
    refine AL_p rfl rfl (S_assign rfl (AEv.S _)) ?_
    refine AL_nil ?_
    refine AC_ret ?_
    refine ret_tmps (ts := [6, 7]) st rfl (by decide) rfl (Sub.l (List.Sublist.cons _ (List.Sublist.refl _))) (Conv.refl (Sub.l (List.Sublist.cons _ (List.Sublist.refl _))) _) ⟨cp_some hx rfl, rfl⟩ (.inl rfl)
  try simp only [zA, zO, zN, zM, zP, zQ, zD, zF, gd] at hb31
  have hpm : atMostE portsN (c.ports.length : Int) 0 (if init = true then 0 else 3) = none := by
    unfold atMostE; rw [if_neg]; cases init <;> simp only [Bool.true_eq_false, Bool.false_eq_true, false_or, or_false, true_or, or_true, false_and, and_false, true_and, and_true, if_true, if_false, reduceIte] at hb31 ⊢ <;> omega
  refine AC_skip ?_
  refine AC_seq ?_
  refine AC_seq ?_
  refine AC_region ?_
  refine AL_p rfl rfl (S_assign rfl (AEv.const _)) ?_
  refine AL_nil ?_
  refine AC_block ?_
  refine AC_loopK (G := Nat) [(1, _), (2, _), (3, _)] (fun g => g ≤ c.ports.length ∧ ∀ j, j < g → portAt (ahead.flatMap Ctr.ports) c.ports j = none) (fun g => [(14, .int .i64 (g : Int))]) (fun g => (b3, .cells (ctrL c)) :: st) (fun g => c.ports.length - g) (0) (⟨Nat.zero_le _, fun j h => absurd h (Nat.not_lt_zero _)⟩) (Sub.l (List.Sublist.refl _)) (.cons rfl (Le.refl _) (.cons rfl (Le.refl _) (.cons rfl (Le.refl _) .nil))) (.cons rfl (by first | exact Le.refl _ | exact Le.nils | exact Le.row _ _ _ _ | exact Le.of_eq (by first | rfl | (simp; done) | (push_cast; rfl) | (simp; omega))) .nil) ?_
  rintro i ⟨hi, hall⟩
  try dsimp only
  simp only [List.cons_append, List.nil_append]
  refine AC_seq ?_
  refine AC_seq ?_
  refine AC_region ?_
  refine AL_p rfl rfl (S_move rfl (.tmp rfl)) ?_
  refine AL_p rfl rfl (S_field 8 rfl (.tmp rfl) (by kernel_rfl)) ?_
  refine AL_p rfl rfl (S_load 0 rfl (.tmp rfl) rfl rfl (by kernel_rfl)) ?_
  refine AL_p rfl rfl (by first | exact S_lenM (e := 3) rfl (.tmp rfl) (by kernel_rfl) | exact S_len (e := 3) rfl (.tmp rfl) (by kernel_rfl)) ?_
  refine AL_p rfl rfl (S_lss rfl (.tmp rfl) (.tmp rfl)) ?_
  refine AL_nil ?_
  refine AC_cond (.tmp rfl) (fun hb32 => ?_) (fun hb32 => ?_)
  · try simp only [zA, zO, zN, zM, zP, zQ, zD, zF, gd] at hb32
    have hil : i < c.ports.length := by omega
    have hif : fits (i : Int) := by unfold fits; omega
    have hgd : c.ports.getD i 0 = c.ports[i] := by rw [List.getD_eq_getElem?_getD, List.getElem?_eq_getElem hil]; rfl
    refine AC_skip ?_
    refine AC_seq ?_
    refine AC_block ?_
    refine AC_seq ?_
    refine AC_seq ?_
    refine AC_region ?_
    refine AL_p rfl rfl (S_field 8 rfl (.tmp rfl) (by kernel_rfl)) ?_
    refine AL_p rfl rfl (S_load 0 rfl (.tmp rfl) rfl rfl (by kernel_rfl)) ?_
    refine AL_p rfl rfl (S_move rfl (.tmp rfl)) ?_
    refine AL_p rfl rfl (S_elemN (e := 3) 1 rfl (.tmp rfl) (.tmp rfl) (by kernel_rfl) (by kernel_rfl) (by omega) (fun _ => rfl)) ?_
    refine AL_p rfl rfl (S_loadP rfl (.tmp rfl) rfl (by kernel_rfl)) ?_
    refine AL_p rfl rfl (S_lss rfl (.tmp rfl) (AEv.const _)) ?_
    refine AL_p rfl rfl (S_move rfl (.tmp rfl)) ?_
    refine AL_g rfl rfl (.tmp rfl) rfl (fun hg33 => S_field 8 rfl (.tmp rfl) (by kernel_rfl)) ?_
    refine AL_g rfl rfl (.tmp rfl) rfl (fun hg36 => S_load 0 rfl (AEv.cond (.tmp rfl) (by first | assumption | exact gdAnd (by assumption) (by assumption))) rfl rfl (by kernel_rfl)) ?_
    refine AL_g rfl rfl (.tmp rfl) rfl (fun hg39 => S_move rfl (.tmp rfl)) ?_
    refine AL_g rfl rfl (.tmp rfl) rfl (fun hg42 => S_elemN (e := 3) 1 rfl (AEv.cond (.tmp rfl) (by first | assumption | exact gdAnd (by assumption) (by assumption))) (AEv.cond (.tmp rfl) (by first | assumption | exact gdAnd (by assumption) (by assumption))) (by kernel_rfl) (by kernel_rfl) (by (try simp only [gd, Bool.and_eq_true, Bool.or_eq_true, Bool.not_eq_true', Bool.not_eq_false', decide_eq_true_eq, decide_eq_false_iff_not, Bool.or_eq_false_iff, Bool.and_eq_false_iff] at *); omega) (fun _ => rfl)) ?_
    refine AL_g rfl rfl (.tmp rfl) rfl (fun hg45 => S_loadP rfl (AEv.cond (.tmp rfl) (by first | assumption | exact gdAnd (by assumption) (by assumption))) rfl (by kernel_rfl)) ?_
    refine AL_g rfl rfl (.tmp rfl) rfl (fun hg48 => S_gtr rfl (AEv.cond (.tmp rfl) (by first | assumption | exact gdAnd (by assumption) (by assumption))) (AEv.const _)) ?_
    refine AL_p rfl rfl (S_or rfl (.tmp rfl) (fun hp51 => (AEv.cond (.tmp rfl) (by first | assumption | exact gdT hp51 | exact gdF hp51 | exact gdAnd (by assumption) (gdT hp51) | exact gdAnd (by assumption) (gdF hp51))))) ?_
    refine AL_nil ?_
    refine AC_cond (.tmp rfl) (fun hb52 => ?_) (fun hb52 => ?_)
    · try simp only [zA, zO, zN, zM, zP, zQ, zD, zF, gd] at hb52
      have hx := one_5 (a := (if init = true then 0 else 3)) (b := (if init = true then 0 else 1000)) hn0 hi0 hr0 hl0 (port_at hpm hil (portAt_range (ps := (ahead.flatMap Ctr.ports)) hil (by simpa using hb52)) hall)
      refine AC_seq ?_
      refine AC_region ?_
      refine AL_p rfl rfl (S_move rfl (.tmp rfl)) ?_
      refine AL_p rfl rfl (S_pcall rfl (AEvs.cons (AEv.S _) (AEvs.cons (.tmp rfl) AEvs.nil)) (ref06_at_ok portsN (by decide) (i : Int) hif)) ?_
      refine AL_p rfl rfl (S_assign rfl (AEv.const _)) ?_
      refine AL_p rfl rfl (S_assign rfl (.tmp rfl)) ?_
      refine AL_nil ?_
      refine AC_ret ?_
      refine ret_tmps (ts := [6, 7]) st rfl (by decide) rfl (Sub.l (List.Sublist.cons _ (List.Sublist.refl _))) (Conv.refl (Sub.l (List.Sublist.cons _ (List.Sublist.refl _))) _) ⟨cp_some hx (Lib.join_one _ _).symm, rfl⟩ (.inl rfl)
    try simp only [zA, zO, zN, zM, zP, zQ, zD, zF, gd] at hb52
    have hr1 : 1 ≤ (c.ports[i]'hil) ∧ (c.ports[i]'hil) ≤ 65535 := by omega
    refine AC_skip ?_
    refine AC_seq ?_
    refine AC_draw (by kernel_rfl) (by kernel_rfl) (.cons rfl (Q_p rfl (S_move rfl (.tmp rfl))) <|
        .cons rfl (Q_p rfl (S_field 8 rfl (.tmp rfl) (by kernel_rfl))) <|
        .cons rfl (Q_p rfl (S_load 0 rfl (.tmp rfl) rfl rfl (by kernel_rfl))) <|
        .cons rfl (Q_p rfl (S_move rfl (.tmp rfl))) <|
        .cons rfl (Q_p rfl (S_elemN (e := 3) 1 rfl (.tmp rfl) (.tmp rfl) (by kernel_rfl) (by kernel_rfl) (by omega) (fun _ => rfl))) <|
        .cons rfl (Q_p rfl (S_loadP rfl (.tmp rfl) rfl (by kernel_rfl))) <|
        .cons rfl (Q_p rfl (S_pcall rfl (AEvs.cons (.tmp rfl) (AEvs.cons (.tmp rfl) AEvs.nil)) (ref06_Has_ok ahead (c.ports[i]'hil) (by omega) hap))) <|
        .cons rfl (Q_p rfl (S_move rfl (.tmp rfl))) <|
        .cons rfl (Q_g rfl rfl (.tmp rfl) (fun hg53 => S_field 8 rfl (.tmp rfl) (by kernel_rfl))) <|
        .cons rfl (Q_g rfl rfl (.tmp rfl) (fun hg56 => S_load 0 rfl (AEv.cond (.tmp rfl) (by first | assumption | exact gdAnd (by assumption) (by assumption))) rfl rfl (by kernel_rfl))) <|
        .cons rfl (Q_g rfl rfl (.tmp rfl) (fun hg59 => S_move rfl (.tmp rfl))) <|
        .cons rfl (Q_g rfl rfl (.tmp rfl) (fun hg62 => S_cutHM (e := 3) 1 rfl (AEv.cond (.tmp rfl) (by first | assumption | exact gdAnd (by assumption) (by assumption))) (AEv.cond (.tmp rfl) (by first | assumption | exact gdAnd (by assumption) (by assumption))) (by kernel_rfl) (by kernel_rfl) (fun _ => rfl) (by (try simp only [gd, Bool.and_eq_true, Bool.or_eq_true, Bool.not_eq_true', Bool.not_eq_false', decide_eq_true_eq, decide_eq_false_iff_not, Bool.or_eq_false_iff, Bool.and_eq_false_iff] at *); omega))) <|
        .cons rfl (Q_g rfl rfl (.tmp rfl) (fun hg65 => S_build (t := 114) (pl := [(0, 1), (1, 1), (2, 3), (5, 3), (8, 1), (9, 2)]) (zs := [.string ⟨#[]⟩, .string ⟨#[]⟩, .int .i64 0, .int .i64 0, .int .i64 0, .int .i64 0, .int .i64 0, .int .i64 0, .slice none 0 0, .int .i64 0, .int .i64 0]) rfl (AEvs.cons (AEv.cond (.tmp rfl) (by first | assumption | exact gdAnd (by assumption) (by assumption))) AEvs.nil) (by kernel_rfl) rfl)) <|
        .cons rfl (Q_g rfl rfl (.tmp rfl) (fun hg68 => S_buildSlice (e := 114) 11 rfl (AEvs.cons (AEv.cond (.tmp rfl) (by first | assumption | exact gdAnd (by assumption) (by assumption))) AEvs.nil) rfl (by kernel_rfl) (by kernel_rfl) (by intro y hy; simp only [List.mem_cons, List.not_mem_nil, or_false] at hy; rcases hy with rfl <;> exact ⟨rfl, rfl⟩) (by decide) (by decide) (by decide))) <|
        .cons rfl (Q_g rfl rfl (.tmp rfl) (fun hg71 => S_field 8 rfl (.tmp rfl) (by kernel_rfl))) <|
        .cons rfl (Q_g rfl rfl (.tmp rfl) (fun hg74 => S_load 0 rfl (AEv.cond (.tmp rfl) (by first | assumption | exact gdAnd (by assumption) (by assumption))) rfl rfl (by kernel_rfl))) <|
        .cons rfl (Q_g rfl rfl (.tmp rfl) (fun hg77 => S_move rfl (.tmp rfl))) <|
        .cons rfl (Q_g rfl rfl (.tmp rfl) (fun hg80 => S_elemN (e := 3) 1 rfl (AEv.cond (.tmp rfl) (by first | assumption | exact gdAnd (by assumption) (by assumption))) (AEv.cond (.tmp rfl) (by first | assumption | exact gdAnd (by assumption) (by assumption))) (by kernel_rfl) (by kernel_rfl) (by (try simp only [gd, Bool.and_eq_true, Bool.or_eq_true, Bool.not_eq_true', Bool.not_eq_false', decide_eq_true_eq, decide_eq_false_iff_not, Bool.or_eq_false_iff, Bool.and_eq_false_iff] at *); omega) (fun _ => rfl))) <|
        .cons rfl (Q_g rfl rfl (.tmp rfl) (fun hg83 => S_loadP rfl (AEv.cond (.tmp rfl) (by first | assumption | exact gdAnd (by assumption) (by assumption))) rfl (by kernel_rfl))) <|
        .cons rfl (Q_g rfl rfl (.tmp rfl) (fun hg86 => S_pcall rfl (AEvs.cons (y := .sl (ctrsV [⟨[], [], (0, 0, 0), (0, 0, 0), c.ports.take i, (0, 0)⟩])) (AEv.cond (.tmp rfl) (by first | assumption | exact gdAnd (by assumption) (by assumption))) (AEvs.cons (AEv.cond (.tmp rfl) (by first | assumption | exact gdAnd (by assumption) (by assumption))) AEvs.nil)) (ref06_Has_ok [⟨[], [], (0, 0, 0), (0, 0, 0), c.ports.take i, (0, 0)⟩] (c.ports[i]'hil) (Nat.le_of_ble_eq_true rfl) (by intro x hx; rw [List.mem_singleton.1 hx]; simp only [List.length_take]; omega)))) <|
        .cons rfl (Q_p rfl (S_or rfl (.tmp rfl) (fun hp89 => (AEv.cond (.tmp rfl) (by first | assumption | exact gdT hp89 | exact gdF hp89 | exact gdAnd (by assumption) (gdT hp89) | exact gdAnd (by assumption) (gdF hp89)))))) <|
        .nil) ?_
    refine AC_cond (.tmp rfl) (fun hb90 => ?_) (fun hb90 => ?_)
    · try simp only [zA, zO, zN, zM, zP, zQ, zD, zF, gd] at hb90
      have hx := one_5 (a := (if init = true then 0 else 3)) (b := (if init = true then 0 else 1000)) hn0 hi0 hr0 hl0 (port_at hpm hil (portAt_there (ps := (ahead.flatMap Ctr.ports)) hil hr1 (by simpa using hb90)) hall)
      refine AC_seq ?_
      refine AC_region ?_
      refine AL_p rfl rfl (S_move rfl (.tmp rfl)) ?_
      refine AL_p rfl rfl (S_pcall rfl (AEvs.cons (AEv.S _) (AEvs.cons (.tmp rfl) AEvs.nil)) (ref06_at_ok portsN (by decide) (i : Int) hif)) ?_
      refine AL_p rfl rfl (S_assign rfl (AEv.const _)) ?_
      refine AL_p rfl rfl (S_assign rfl (.tmp rfl)) ?_
      refine AL_nil ?_
      refine AC_ret ?_
      refine ret_tmps (ts := [6, 7]) st rfl (by decide) rfl (Sub.l (List.Sublist.cons _ (List.Sublist.refl _))) (Conv.refl (Sub.l (List.Sublist.cons _ (List.Sublist.refl _))) _) ⟨cp_some hx (Lib.join_one _ _).symm, rfl⟩ (.inl rfl)
    try simp only [zA, zO, zN, zM, zP, zQ, zD, zF, gd] at hb90
    have hr2 : (c.ports[i]'hil) ∉ (ahead.flatMap Ctr.ports) ++ c.ports.take i := by simpa using hb90
    refine AC_skip ?_
    refine AC_region ?_
    refine AL_p rfl rfl (S_move rfl (.tmp rfl)) ?_
    refine AL_p rfl rfl (S_addI rfl (.tmp rfl) (AEv.const _) (by omega) (by omega)) ?_
    refine AL_p rfl rfl (S_assign rfl (.tmp rfl)) ?_
    refine AL_nil ?_
    refine ⟨i + 1, ⟨by omega, fun j h => ?_⟩, by omega, (Sub.l (List.Sublist.refl _)), (.cons rfl (by first | exact Le.refl _ | exact Le.nils | exact Le.row _ _ _ _ | exact Le.of_eq (by first | rfl | (simp; done) | (push_cast; rfl) | (simp; omega))) .nil), (.cons rfl (Le.refl _) (.cons rfl (Le.refl _) (.cons rfl (Le.refl _) .nil)))⟩
    rcases Nat.lt_or_ge j i with h' | h'
    · exact hall j h'
    · have : j = i := by omega
      subst this
      exact portAt_ok hil hr1 hr2
  try simp only [zA, zO, zN, zM, zP, zQ, zD, zF, gd] at hb32
  have hp0 : portE (ahead.flatMap Ctr.ports) c.ports (if init = true then 0 else 3) = none := portE_in hpm fun j hj => hall j (by omega)
  refine AC_exit ?_
  refine AC_seq ?_
  refine AC_seq ?_
  refine AC_region ?_
  refine AL_p rfl rfl (S_field 9 rfl (.tmp rfl) (by kernel_rfl)) ?_
  refine AL_p rfl rfl (S_field 0 rfl (.tmp rfl) (by kernel_rfl)) ?_
  refine AL_p rfl rfl (S_load 0 rfl (.tmp rfl) rfl rfl (by kernel_rfl)) ?_
  refine AL_p rfl rfl (S_lss rfl (.tmp rfl) (AEv.const _)) ?_
  refine AL_p rfl rfl (S_move rfl (.tmp rfl)) ?_
  refine AL_g rfl rfl (.tmp rfl) rfl (fun hg91 => S_field 9 rfl (.tmp rfl) (by kernel_rfl)) ?_
  refine AL_g rfl rfl (.tmp rfl) rfl (fun hg94 => S_field 0 rfl (AEv.cond (.tmp rfl) (by first | assumption | exact gdAnd (by assumption) (by assumption))) (by kernel_rfl)) ?_
  refine AL_g rfl rfl (.tmp rfl) rfl (fun hg97 => S_load 0 rfl (AEv.cond (.tmp rfl) (by first | assumption | exact gdAnd (by assumption) (by assumption))) rfl rfl (by kernel_rfl)) ?_
  refine AL_g rfl rfl (.tmp rfl) rfl (fun hg100 => S_gtr rfl (AEv.cond (.tmp rfl) (by first | assumption | exact gdAnd (by assumption) (by assumption))) (AEv.const _)) ?_
  refine AL_p rfl rfl (S_or rfl (.tmp rfl) (fun hp103 => (AEv.cond (.tmp rfl) (by first | assumption | exact gdT hp103 | exact gdF hp103 | exact gdAnd (by assumption) (gdT hp103) | exact gdAnd (by assumption) (gdF hp103))))) ?_
  refine AL_p rfl rfl (S_move rfl (.tmp rfl)) ?_
  refine AL_g rfl rfl (.tmp rfl) rfl (fun hg104 => S_move rfl (.tmp rfl)) ?_
  refine AL_g rfl rfl (.tmp rfl) rfl (fun hg107 => S_move rfl (AEv.cond (.tmp rfl) (by first | assumption | exact gdAnd (by assumption) (by assumption)))) ?_
  refine AL_gg rfl rfl (.tmp rfl) rfl (fun hg110 hg111 hg112 => S_field 9 rfl (.tmp rfl) (by kernel_rfl)) ?_
  refine AL_gg rfl rfl (.tmp rfl) rfl (fun hg113 hg114 hg115 => S_field 0 rfl (AEv.cond (.tmp rfl) (by first | assumption | exact gdAnd (by assumption) (by assumption))) (by kernel_rfl)) ?_
  refine AL_gg rfl rfl (.tmp rfl) rfl (fun hg116 hg117 hg118 => S_load 0 rfl (AEv.cond (.tmp rfl) (by first | assumption | exact gdAnd (by assumption) (by assumption))) rfl rfl (by kernel_rfl)) ?_
  refine AL_gg rfl rfl (.tmp rfl) rfl (fun hg119 hg120 hg121 => S_gtr rfl (AEv.cond (.tmp rfl) (by first | assumption | exact gdAnd (by assumption) (by assumption))) (AEv.const _)) ?_
  refine AL_g rfl rfl (.tmp rfl) rfl (fun hg122 => S_and rfl (AEv.cond (.tmp rfl) (by first | assumption | exact gdAnd (by assumption) (by assumption))) (fun hp125 => (AEv.cond (.tmp rfl) (by first | assumption | exact gdT hp125 | exact gdF hp125 | exact gdAnd (by assumption) (gdT hp125) | exact gdAnd (by assumption) (gdF hp125))))) ?_
  refine AL_p rfl rfl (S_or rfl (.tmp rfl) (fun hp126 => (AEv.cond (.tmp rfl) (by first | assumption | exact gdT hp126 | exact gdF hp126 | exact gdAnd (by assumption) (gdT hp126) | exact gdAnd (by assumption) (gdF hp126))))) ?_
  refine AL_nil ?_
  refine AC_cond (.tmp rfl) (fun hb127 => ?_) (fun hb127 => ?_)
  · try simp only [zA, zO, zN, zM, zP, zQ, zD, zF, gd] at hb127
    have hpr : c.probe.1 < 0 ∨ (if init = true then 0 else 1000) < c.probe.1 := by cases init <;> simp only [Bool.true_eq_false, Bool.false_eq_true, false_or, or_false, true_or, or_true, false_and, and_false, true_and, and_true, if_true, if_false, reduceIte] at hb127 ⊢ <;> omega
    have hx := (one_6 (a := (if init = true then 0 else 3)) (b := (if init = true then 0 else 1000)) hn0 hi0 hr0 hl0 hp0).trans (probe_every hpr)
    refine AC_seq ?_
    refine AC_region ?_
    refine AL_p rfl rfl (S_assign rfl (AEv.const _)) ?_
    refine AL_p rfl rfl (S_assign rfl (AEv.S _)) ?_
    refine AL_nil ?_
    refine AC_ret ?_
    refine ret_tmps (ts := [6, 7]) st rfl (by decide) rfl (Sub.l (List.Sublist.cons _ (List.Sublist.refl _))) (Conv.refl (Sub.l (List.Sublist.cons _ (List.Sublist.refl _))) _) ⟨cp_some hx rfl, rfl⟩ (.inl rfl)
  try simp only [zA, zO, zN, zM, zP, zQ, zD, zF, gd] at hb127
  have hpr : ¬ (c.probe.1 < 0 ∨ (if init = true then 0 else 1000) < c.probe.1) := by cases init <;> simp only [Bool.true_eq_false, Bool.false_eq_true, false_or, or_false, true_or, or_true, false_and, and_false, true_and, and_true, if_true, if_false, reduceIte] at hb127 ⊢ <;> omega
  refine AC_skip ?_
  refine AC_seq ?_
  refine AC_seq ?_
  refine AC_region ?_
  refine AL_p rfl rfl (S_field 9 rfl (.tmp rfl) (by kernel_rfl)) ?_
  refine AL_p rfl rfl (S_field 0 rfl (.tmp rfl) (by kernel_rfl)) ?_
  refine AL_p rfl rfl (S_load 0 rfl (.tmp rfl) rfl rfl (by kernel_rfl)) ?_
  refine AL_p rfl rfl (S_eql rfl (.tmp rfl) (AEv.const _)) ?_
  refine AL_p rfl rfl (S_move rfl (.tmp rfl)) ?_
  refine AL_g rfl rfl (.tmp rfl) rfl (fun hg128 => S_field 9 rfl (.tmp rfl) (by kernel_rfl)) ?_
  refine AL_g rfl rfl (.tmp rfl) rfl (fun hg131 => S_field 1 rfl (AEv.cond (.tmp rfl) (by first | assumption | exact gdAnd (by assumption) (by assumption))) (by kernel_rfl)) ?_
  refine AL_g rfl rfl (.tmp rfl) rfl (fun hg134 => S_load 0 rfl (AEv.cond (.tmp rfl) (by first | assumption | exact gdAnd (by assumption) (by assumption))) rfl rfl (by kernel_rfl)) ?_
  refine AL_g rfl rfl (.tmp rfl) rfl (fun hg137 => S_neq rfl (AEv.cond (.tmp rfl) (by first | assumption | exact gdAnd (by assumption) (by assumption))) (AEv.const _)) ?_
  refine AL_p rfl rfl (S_and rfl (.tmp rfl) (fun hp140 => (AEv.cond (.tmp rfl) (by first | assumption | exact gdT hp140 | exact gdF hp140 | exact gdAnd (by assumption) (gdT hp140) | exact gdAnd (by assumption) (gdF hp140))))) ?_
  refine AL_p rfl rfl (S_move rfl (.tmp rfl)) ?_
  refine AL_g rfl rfl (.tmp rfl) rfl (fun hg141 => S_field 9 rfl (.tmp rfl) (by kernel_rfl)) ?_
  refine AL_g rfl rfl (.tmp rfl) rfl (fun hg144 => S_field 0 rfl (AEv.cond (.tmp rfl) (by first | assumption | exact gdAnd (by assumption) (by assumption))) (by kernel_rfl)) ?_
  refine AL_g rfl rfl (.tmp rfl) rfl (fun hg147 => S_load 0 rfl (AEv.cond (.tmp rfl) (by first | assumption | exact gdAnd (by assumption) (by assumption))) rfl rfl (by kernel_rfl)) ?_
  refine AL_g rfl rfl (.tmp rfl) rfl (fun hg150 => S_gtr rfl (AEv.cond (.tmp rfl) (by first | assumption | exact gdAnd (by assumption) (by assumption))) (AEv.const _)) ?_
  refine AL_g rfl rfl (.tmp rfl) rfl (fun hg153 => S_move rfl (AEv.cond (.tmp rfl) (by first | assumption | exact gdAnd (by assumption) (by assumption)))) ?_
  refine AL_gg rfl rfl (.tmp rfl) rfl (fun hg156 hg157 hg158 => S_field 9 rfl (.tmp rfl) (by kernel_rfl)) ?_
  refine AL_gg rfl rfl (.tmp rfl) rfl (fun hg159 hg160 hg161 => S_field 1 rfl (AEv.cond (.tmp rfl) (by first | assumption | exact gdAnd (by assumption) (by assumption))) (by kernel_rfl)) ?_
  refine AL_gg rfl rfl (.tmp rfl) rfl (fun hg162 hg163 hg164 => S_load 0 rfl (AEv.cond (.tmp rfl) (by first | assumption | exact gdAnd (by assumption) (by assumption))) rfl rfl (by kernel_rfl)) ?_
  refine AL_gg rfl rfl (.tmp rfl) rfl (fun hg165 hg166 hg167 => S_lss rfl (AEv.cond (.tmp rfl) (by first | assumption | exact gdAnd (by assumption) (by assumption))) (AEv.const _)) ?_
  refine AL_gg rfl rfl (.tmp rfl) rfl (fun hg168 hg169 hg170 => S_move rfl (AEv.cond (.tmp rfl) (by first | assumption | exact gdAnd (by assumption) (by assumption)))) ?_
  refine AL_gg rfl rfl (.tmp rfl) rfl (fun hg171 hg172 hg173 => S_field 9 rfl (.tmp rfl) (by kernel_rfl)) ?_
  refine AL_gg rfl rfl (.tmp rfl) rfl (fun hg174 hg175 hg176 => S_field 1 rfl (AEv.cond (.tmp rfl) (by first | assumption | exact gdAnd (by assumption) (by assumption))) (by kernel_rfl)) ?_
  refine AL_gg rfl rfl (.tmp rfl) rfl (fun hg177 hg178 hg179 => S_load 0 rfl (AEv.cond (.tmp rfl) (by first | assumption | exact gdAnd (by assumption) (by assumption))) rfl rfl (by kernel_rfl)) ?_
  refine AL_gg rfl rfl (.tmp rfl) rfl (fun hg180 hg181 hg182 => S_gtr rfl (AEv.cond (.tmp rfl) (by first | assumption | exact gdAnd (by assumption) (by assumption))) (AEv.const _)) ?_
  refine AL_gg rfl rfl (.tmp rfl) rfl (fun hg183 hg184 hg185 => S_or rfl (AEv.cond (.tmp rfl) (by first | assumption | exact gdAnd (by assumption) (by assumption))) (fun hp186 => (AEv.cond (.tmp rfl) (by first | assumption | exact gdT hp186 | exact gdF hp186 | exact gdAnd (by assumption) (gdT hp186) | exact gdAnd (by assumption) (gdF hp186))))) ?_
  refine AL_g rfl rfl (.tmp rfl) rfl (fun hg187 => S_and rfl (AEv.cond (.tmp rfl) (by first | assumption | exact gdAnd (by assumption) (by assumption))) (fun hp190 => (AEv.cond (.tmp rfl) (by first | assumption | exact gdT hp190 | exact gdF hp190 | exact gdAnd (by assumption) (gdT hp190) | exact gdAnd (by assumption) (gdF hp190))))) ?_
  refine AL_p rfl rfl (S_or rfl (.tmp rfl) (fun hp191 => (AEv.cond (.tmp rfl) (by first | assumption | exact gdT hp191 | exact gdF hp191 | exact gdAnd (by assumption) (gdT hp191) | exact gdAnd (by assumption) (gdF hp191))))) ?_
  refine AL_nil ?_
  refine AC_cond (.tmp rfl) (fun hb192 => ?_) (fun hb192 => ?_)
  · try simp only [zA, zO, zN, zM, zP, zQ, zD, zF, gd] at hb192
    have hx := (one_6 (a := (if init = true then 0 else 3)) (b := (if init = true then 0 else 1000)) hn0 hi0 hr0 hl0 hp0).trans ((probe_rest hpr).trans (if_pos (by cases init <;> simp only [Bool.true_eq_false, Bool.false_eq_true, false_or, or_false, true_or, or_true, false_and, and_false, true_and, and_true, if_true, if_false, reduceIte] at hb192 hpr ⊢ <;> omega)))
    refine AC_seq ?_
    refine AC_region ?_
    refine AL_p rfl rfl (S_assign rfl (AEv.const _)) ?_
    refine AL_p rfl rfl (S_assign rfl (AEv.S _)) ?_
    refine AL_nil ?_
    refine AC_ret ?_
    refine ret_tmps (ts := [6, 7]) st rfl (by decide) rfl (Sub.l (List.Sublist.cons _ (List.Sublist.refl _))) (Conv.refl (Sub.l (List.Sublist.cons _ (List.Sublist.refl _))) _) ⟨cp_some hx rfl, rfl⟩ (.inl rfl)
  try simp only [zA, zO, zN, zM, zP, zQ, zD, zF, gd] at hb192
  have hx := (one_6 (a := (if init = true then 0 else 3)) (b := (if init = true then 0 else 1000)) hn0 hi0 hr0 hl0 hp0).trans ((probe_rest hpr).trans (if_neg (by cases init <;> simp only [Bool.true_eq_false, Bool.false_eq_true, false_or, or_false, true_or, or_true, false_and, and_false, true_and, and_true, if_true, if_false, reduceIte] at hb192 hpr ⊢ <;> omega)))
  refine AC_skip ?_
  refine AC_seq ?_
  refine AC_region ?_
  refine AL_p rfl rfl (S_assign rfl (AEv.const _)) ?_
  refine AL_p rfl rfl (S_assign rfl (AEv.S _)) ?_
  refine AL_nil ?_
  refine AC_ret ?_
  refine ret_tmps (ts := [6, 7]) st rfl (by decide) rfl (Sub.l (List.Sublist.cons _ (List.Sublist.refl _))) (Conv.refl (Sub.l (List.Sublist.cons _ (List.Sublist.refl _))) _) ⟨cp_none hx, rfl⟩ (.inl rfl)

set_option maxRecDepth 100000 in
set_option maxHeartbeats 1000000 in
/-- provost/provostref06.Check -/
theorem ref06_Check_ok (s : Spc) (hs : lightS s = true) : PCalls Tryz.prog 29 [spcAV s] (cpAV (checkE s)) := by
  intro st
  refine ACalls_of (N := 127) Tryz.func29 (by kernel_rfl) rfl rfl rfl ?_
  obtain ⟨h1, h2, h3, h4, h5, h6, h7⟩ := lightS_out hs
  have hpi : ∀ c ∈ s.init, c.name.length ≤ 100 ∧ c.image.length ≤ 100 ∧ c.ports.length ≤ 10 := fun c hc => of_decide_eq_true (h6 c hc)
  have hpm : ∀ c ∈ s.main, c.name.length ≤ 100 ∧ c.image.length ≤ 100 ∧ c.ports.length ≤ 10 := fun c hc => of_decide_eq_true (h7 c hc)
  refine AC_seq ?_
  refine AC_region ?_
  refine AL_step rfl rfl (S_box rfl (.tmp rfl)) ?_
  rintro _ _ ⟨b1, rfl, rfl⟩
  refine AL_p rfl rfl (S_assign rfl (AEv.const _)) ?_
  refine AL_p rfl rfl (S_assign rfl (AEv.S _)) ?_
  refine AL_nil ?_
  refine AC_seq ?_
  refine AC_seq ?_
  refine AC_region ?_
  refine AL_p rfl rfl (S_field 0 rfl (.tmp rfl) (by kernel_rfl)) ?_
  refine AL_p rfl rfl (S_load 0 rfl (.tmp rfl) rfl rfl (by kernel_rfl)) ?_
  refine AL_p rfl rfl (S_pcall rfl (AEvs.cons (.tmp rfl) AEvs.nil) (ref03_Name_ok s.name (by omega))) ?_
  refine AL_p rfl rfl (S_not rfl (.tmp rfl)) ?_
  refine AL_nil ?_
  refine AC_cond (.tmp rfl) (fun hb2 => ?_) (fun hb2 => ?_)
  · try simp only [zA, zO, zN, zM, zP, zQ, zD, zF, gd] at hb2
    have hx : (checkE s) = some (30, [nameN]) := check_bad1 (firstE_hd (by rw [hb2]; rfl))
    refine AC_seq ?_
    refine AC_region ?_
    refine AL_p rfl rfl (S_assign rfl (AEv.const _)) ?_
    refine AL_p rfl rfl (S_assign rfl (AEv.S _)) ?_
    refine AL_nil ?_
    refine AC_ret ?_
    refine ret_tmps (ts := [2, 3]) st rfl (by decide) rfl (Sub.l (List.Sublist.cons _ (List.Sublist.refl _))) (Conv.refl (Sub.l (List.Sublist.cons _ (List.Sublist.refl _))) _) ⟨cp_some hx rfl, rfl⟩ (.inl rfl)
  try simp only [zA, zO, zN, zM, zP, zQ, zD, zF, gd] at hb2
  have hnm : erNew (saysV (nameV s.name) 30) [nameN] = none := by rw [hb2]; rfl
  refine AC_skip ?_
  refine AC_seq ?_
  refine AC_region ?_
  refine AL_p rfl rfl (S_field 1 rfl (.tmp rfl) (by kernel_rfl)) ?_
  refine AL_p rfl rfl (S_load 0 rfl (.tmp rfl) rfl rfl (by kernel_rfl)) ?_
  refine AL_p rfl rfl (S_pcall rfl (AEvs.cons (AEv.S _) (AEvs.cons (.tmp rfl) AEvs.nil)) (ref06_Labels_ok labelsN (by decide) s.labels (fun x hx => by have := h5 x hx; omega))) ?_
  refine AL_p rfl rfl (S_move rfl (.tmp rfl)) ?_
  refine AL_p rfl rfl (S_extract 0 rfl (.tmp rfl) rfl) ?_
  refine AL_p rfl rfl (S_extract 1 rfl (.tmp rfl) rfl) ?_
  refine AL_p rfl rfl (S_assign rfl (.tmp rfl)) ?_
  refine AL_p rfl rfl (S_assign rfl (.tmp rfl)) ?_
  refine AL_nil ?_
  refine AC_seq ?_
  refine AC_seq ?_
  refine AC_region ?_
  refine AL_p rfl rfl (S_move rfl (.tmp rfl)) ?_
  refine AL_p rfl rfl (S_neq rfl (.tmp rfl) (AEv.const _)) ?_
  refine AL_nil ?_
  refine AC_cond (.tmp rfl) (fun hb3 => ?_) (fun hb3 => ?_)
  · try simp only [zA, zO, zN, zM, zP, zQ, zD, zF, gd] at hb3
    have hne : labelsE labelsN s.labels ≠ none := fun h => hb3 (by rw [h]; rfl)
    obtain ⟨x, hx⟩ : ∃ x, labelsE labelsN s.labels = some x := Option.ne_none_iff_exists'.1 hne
    have hx2 : (checkE s) = some x := check_bad1 ((firstE_tl hnm).trans (firstE_hd hx))
    refine AC_seq ?_
    refine AC_region ?_
    refine AL_p rfl rfl (S_move rfl (.tmp rfl)) ?_
    refine AL_p rfl rfl (S_move rfl (.tmp rfl)) ?_
    refine AL_p rfl rfl (S_assign rfl (.tmp rfl)) ?_
    refine AL_p rfl rfl (S_assign rfl (.tmp rfl)) ?_
    refine AL_nil ?_
    refine AC_ret ?_
    refine ret_tmps (ts := [2, 3]) st rfl (by decide) rfl (Sub.l (List.Sublist.cons _ (List.Sublist.refl _))) (Conv.refl (Sub.l (List.Sublist.cons _ (List.Sublist.refl _))) _) ⟨congrArg cpAV (hx.trans hx2.symm), rfl⟩ (.inl rfl)
  try simp only [zA, zO, zN, zM, zP, zQ, zD, zF, gd] at hb3
  have hlb : labelsE labelsN s.labels = none := (well_labels _ _).code.1 (by simpa using hb3)
  refine AC_skip ?_
  refine AC_seq ?_
  refine AC_seq ?_
  refine AC_region ?_
  refine AL_p rfl rfl (S_field 2 rfl (.tmp rfl) (by kernel_rfl)) ?_
  refine AL_p rfl rfl (S_load 0 rfl (.tmp rfl) rfl rfl (by kernel_rfl)) ?_
  refine AL_p rfl rfl (by first | exact S_lenM (e := 114) rfl (.tmp rfl) (by kernel_rfl) | exact S_len (e := 114) rfl (.tmp rfl) (by kernel_rfl)) ?_
  refine AL_p rfl rfl (S_gtr rfl (.tmp rfl) (AEv.const _)) ?_
  refine AL_nil ?_
  refine AC_cond (.tmp rfl) (fun hb4 => ?_) (fun hb4 => ?_)
  · try simp only [zA, zO, zN, zM, zP, zQ, zD, zF, gd] at hb4
    have hx : (checkE s) = some (2, [initN]) := check_bad1 ((firstE_tl hnm).trans ((firstE_tl hlb).trans (firstE_hd (by unfold atMostE; rw [if_pos (by omega)]))))
    refine AC_seq ?_
    refine AC_region ?_
    refine AL_p rfl rfl (S_assign rfl (AEv.const _)) ?_
    refine AL_p rfl rfl (S_assign rfl (AEv.S _)) ?_
    refine AL_nil ?_
    refine AC_ret ?_
    refine ret_tmps (ts := [2, 3]) st rfl (by decide) rfl (Sub.l (List.Sublist.cons _ (List.Sublist.refl _))) (Conv.refl (Sub.l (List.Sublist.cons _ (List.Sublist.refl _))) _) ⟨cp_some hx rfl, rfl⟩ (.inl rfl)
  try simp only [zA, zO, zN, zM, zP, zQ, zD, zF, gd] at hb4
  have hc1 : firstE (check1 s) = none := (firstE_tl hnm).trans ((firstE_tl hlb).trans ((firstE_tl (by unfold atMostE; rw [if_neg (by omega)])).trans rfl))
  refine AC_skip ?_
  refine AC_seq ?_
  refine AC_region ?_
  refine AL_p rfl rfl (S_assign rfl (AEv.const _)) ?_
  refine AL_nil ?_
  refine AC_seq ?_
  refine AC_seq ?_
  refine AC_region ?_
  refine AL_p rfl rfl (S_assign rfl (AEv.const _)) ?_
  refine AL_nil ?_
  refine AC_block ?_
  refine AC_loopK (G := Nat × Own) [(1, _)] (fun g => g.1 ≤ s.init.length ∧ g.2.ok ((s.init.take g.1).map ctrAV) ∧ ∀ j, j < g.1 → ctrAt [] [] s.init 0 0 j = none) (fun g => [(6, ownAV g.2 11 ((s.init.take g.1).map ctrAV)), (7, .int .i64 (g.1 : Int))]) (fun g => (b1, .cells (spcL s)) :: (ownSt g.2 114 11 ((s.init.take g.1).map ctrAV) ++ st)) (fun g => s.init.length - g.1) ((0, .nil)) (⟨Nat.zero_le _, by simp [Own.ok], fun j h => absurd h (Nat.not_lt_zero _)⟩) (Sub.l (List.Sublist.refl _)) (.cons rfl (Le.refl _) .nil) (.cons rfl (by first | exact Le.refl _ | exact Le.nils | exact Le.row _ _ _ _ | exact Le.of_eq (by first | rfl | (simp; done) | (push_cast; rfl) | (simp; omega))) (.cons rfl (by first | exact Le.refl _ | exact Le.nils | exact Le.row _ _ _ _ | exact Le.of_eq (by first | rfl | (simp; done) | (push_cast; rfl) | (simp; omega))) .nil)) ?_
  rintro ⟨i, p⟩ ⟨hi, hq, hall⟩
  try dsimp only
  simp only [List.cons_append, List.nil_append]
  dsimp only at hi hq hall
  refine AC_seq ?_
  refine AC_seq ?_
  refine AC_region ?_
  refine AL_p rfl rfl (S_move rfl (.tmp rfl)) ?_
  refine AL_p rfl rfl (S_field 2 rfl (.tmp rfl) (by kernel_rfl)) ?_
  refine AL_p rfl rfl (S_load 0 rfl (.tmp rfl) rfl rfl (by kernel_rfl)) ?_
  refine AL_p rfl rfl (by first | exact S_lenM (e := 114) rfl (.tmp rfl) (by kernel_rfl) | exact S_len (e := 114) rfl (.tmp rfl) (by kernel_rfl)) ?_
  refine AL_p rfl rfl (S_lss rfl (.tmp rfl) (.tmp rfl)) ?_
  refine AL_nil ?_
  refine AC_cond (.tmp rfl) (fun hb5 => ?_) (fun hb5 => ?_)
  · try simp only [zA, zO, zN, zM, zP, zQ, zD, zF, gd] at hb5
    have hil : i < s.init.length := by omega
    have hif : fits (i : Int) := by unfold fits; omega
    have hat := at_short (name := initN) (by decide) hil (by omega)
    have hsh := (short_ctr (ns := namesTo [] s.init i) (ps := portsTo [] s.init i) (a := 0) (b := 0) (c := s.init[i]'hil) (by have := hpi _ (List.getElem_mem hil); omega)).text
    refine AC_skip ?_
    refine AC_seq ?_
    refine AC_block ?_
    refine AC_seq ?_
    refine AC_region ?_
    refine AL_p rfl rfl (S_field 2 rfl (.tmp rfl) (by kernel_rfl)) ?_
    refine AL_p rfl rfl (S_load 0 rfl (.tmp rfl) rfl rfl (by kernel_rfl)) ?_
    refine AL_p rfl rfl (S_move rfl (.tmp rfl)) ?_
    refine AL_p rfl rfl (S_elemN (e := 114) 11 rfl (.tmp rfl) (.tmp rfl) (by kernel_rfl) (by kernel_rfl) (by omega) (fun _ => rfl)) ?_
    refine AL_p rfl rfl (S_loadPN (m := 11) rfl (.tmp rfl) (by kernel_rfl) (by first | exact Nat.le_of_ble_eq_true rfl | (simp; omega) | simp)) ?_
    refine AL_p rfl rfl (S_move rfl (.tmp rfl)) ?_
    refine AL_p rfl rfl (S_pcall rfl (AEvs.cons (y := ctrAV (s.init[i]'hil)) (.tmp rfl) (AEvs.cons ((AEv.tmp rfl).le (Le_own hq)) (AEvs.cons (AEv.const _) AEvs.nil))) ((ref06_one_ok (s.init[i]'hil) (s.init.take i) true (by have := hpi _ (List.getElem_mem hil); omega) (by have := hpi _ (List.getElem_mem hil); omega) (by have := hpi _ (List.getElem_mem hil); omega) (by rw [List.length_take]; omega) (fun x hx => by have := hpi x (List.mem_of_mem_take hx); omega)).of_eq (show _ = cpAV (ctrE (namesTo [] s.init i) (portsTo [] s.init i) (s.init[i]'hil) 0 0) from rfl))) ?_
    refine AL_p rfl rfl (S_move rfl (.tmp rfl)) ?_
    refine AL_p rfl rfl (S_extract 0 rfl (.tmp rfl) rfl) ?_
    refine AL_p rfl rfl (S_extract 1 rfl (.tmp rfl) rfl) ?_
    refine AL_p rfl rfl (S_assign rfl (.tmp rfl)) ?_
    refine AL_p rfl rfl (S_assign rfl (.tmp rfl)) ?_
    refine AL_nil ?_
    refine AC_seq ?_
    refine AC_seq ?_
    refine AC_region ?_
    refine AL_p rfl rfl (S_move rfl (.tmp rfl)) ?_
    refine AL_p rfl rfl (S_neq rfl (.tmp rfl) (AEv.const _)) ?_
    refine AL_nil ?_
    refine AC_cond (.tmp rfl) (fun hb6 => ?_) (fun hb6 => ?_)
    · try simp only [zA, zO, zN, zM, zP, zQ, zD, zF, gd] at hb6
      have hne : (ctrE (namesTo [] s.init i) (portsTo [] s.init i) (s.init[i]'hil) 0 0) ≠ none := fun h => hb6 (congrArg erCode h)
      have hx : (checkE s) = erIn (ctrE (namesTo [] s.init i) (portsTo [] s.init i) (s.init[i]'hil) 0 0) (atT initN (i : Int)) := by
        obtain ⟨y, hy⟩ := Option.ne_none_iff_exists'.1 hne
        obtain ⟨z, hz⟩ : ∃ z, erIn (ctrE (namesTo [] s.init i) (portsTo [] s.init i) (s.init[i]'hil) 0 0) (atT initN (i : Int)) = some z := by rw [hy]; exact ⟨_, rfl⟩
        rw [hz]
        exact check_bad2 hc1 (firstE_hd (eachE_at hil (by rw [ctrAt_at hil, hz]) (fun j hj => by rw [hall j hj]; rfl)))
      refine AC_seq ?_
      refine AC_region ?_
      refine AL_p rfl rfl (S_move rfl (.tmp rfl)) ?_
      refine AL_p rfl rfl (S_move rfl (.tmp rfl)) ?_
      refine AL_p rfl rfl (S_pcall rfl (AEvs.cons (AEv.S _) (AEvs.cons (.tmp rfl) AEvs.nil)) (ref06_at_ok initN (by decide) (i : Int) hif)) ?_
      refine AL_p rfl rfl (S_cat rfl (.tmp rfl) (AEv.S _) (by first | omega | (simp only [List.length_append, List.length_cons, List.length_nil]; omega))) ?_
      refine AL_p rfl rfl (S_move rfl (.tmp rfl)) ?_
      refine AL_p rfl rfl (S_cat rfl (.tmp rfl) (.tmp rfl) (by first | omega | (simp only [List.length_append, List.length_cons, List.length_nil]; omega))) ?_
      refine AL_p rfl rfl (S_assign rfl (.tmp rfl)) ?_
      refine AL_p rfl rfl (S_assign rfl (.tmp rfl)) ?_
      refine AL_nil ?_
      refine AC_ret ?_
      refine ret_tmps (ts := [2, 3]) st rfl (by decide) rfl (Sub.l (List.Sublist.cons _ (List.sublist_append_right _ _))) (Conv.refl (Sub.l (List.Sublist.cons _ (List.sublist_append_right _ _))) _) ⟨cp_in (well_ctr _ _ _ _ _) hne hx rfl, rfl⟩ (.inl rfl)
    try simp only [zA, zO, zN, zM, zP, zQ, zD, zF, gd] at hb6
    have hnn : (ctrE (namesTo [] s.init i) (portsTo [] s.init i) (s.init[i]'hil) 0 0) = none := (well_ctr _ _ _ _ _).code.1 hb6
    refine AC_skip ?_
    refine AC_region ?_
    refine AL_p rfl rfl (S_move rfl (.tmp rfl)) ?_
    refine AL_p rfl rfl (S_field 2 rfl (.tmp rfl) (by kernel_rfl)) ?_
    refine AL_p rfl rfl (S_load 0 rfl (.tmp rfl) rfl rfl (by kernel_rfl)) ?_
    refine AL_p rfl rfl (S_move rfl (.tmp rfl)) ?_
    refine AL_p rfl rfl (S_elemN (e := 114) 11 rfl (.tmp rfl) (.tmp rfl) (by kernel_rfl) (by kernel_rfl) (by omega) (fun _ => rfl)) ?_
    refine AL_p rfl rfl (S_loadPN (m := 11) rfl (.tmp rfl) (by kernel_rfl) (by first | exact Nat.le_of_ble_eq_true rfl | (simp; omega) | simp)) ?_
    refine AL_p rfl rfl (S_buildSlice (e := 114) 11 rfl (AEvs.cons (.tmp rfl) AEvs.nil) rfl (by kernel_rfl) (by kernel_rfl) (by intro y hy; simp only [List.mem_cons, List.not_mem_nil, or_false] at hy; rcases hy with rfl <;> exact ⟨rfl, rfl⟩) (by decide) (by decide) (by decide)) ?_
    refine AL_step rfl rfl (S_appendT (f := ctrAV) (l := s.init) (i := i) (e := 114) (size := 11) (bytes := 120) (p := p) (by omega) ([_]) (st) rfl (.tmp rfl) (.tmp rfl) rfl hq (by kernel_rfl) (fun _ => ⟨rfl, rfl⟩) (by omega) (by omega)) ?_
    rintro _ _ ⟨b8, k8, cap8, hx8, rfl, rfl⟩
    refine AL_p rfl rfl (S_assign rfl (.tmp rfl)) ?_
    refine AL_nil ?_
    refine AC_region ?_
    refine AL_p rfl rfl (S_move rfl (.tmp rfl)) ?_
    refine AL_p rfl rfl (S_addI rfl (.tmp rfl) (AEv.const _) (by omega) (by omega)) ?_
    refine AL_p rfl rfl (S_assign rfl (.tmp rfl)) ?_
    refine AL_nil ?_
    refine ⟨(i + 1, .row b8 k8 cap8), ⟨by dsimp only; omega, hx8, fun j h => ?_⟩, by dsimp only; omega, (Sub.l (List.Sublist.refl _)), (.cons rfl (by first | exact Le.refl _ | exact Le.nils | exact Le.row _ _ _ _ | exact Le.of_eq (by first | rfl | (simp; done) | (push_cast; rfl) | (simp; omega))) (.cons rfl (by first | exact Le.refl _ | exact Le.nils | exact Le.row _ _ _ _ | exact Le.of_eq (by first | rfl | (simp; done) | (push_cast; rfl) | (simp; omega))) .nil)), (.cons rfl (Le.refl _) .nil)⟩
    rcases Nat.lt_or_ge j i with h' | h'
    · exact hall j h'
    · have : j = i := by dsimp only at h; omega
      subst this
      rw [ctrAt_at hil]; exact hnn
  try simp only [zA, zO, zN, zM, zP, zQ, zD, zF, gd] at hb5
  obtain rfl : i = s.init.length := by omega
  rw [List.take_length] at hq ⊢
  have hci : ctrsE initN [] [] s.init 0 0 = none := eachE_all fun j hj => by rw [hall j hj]; rfl
  refine AC_exit ?_
  refine AC_seq ?_
  refine AC_seq ?_
  refine AC_region ?_
  refine AL_p rfl rfl (S_field 3 rfl (.tmp rfl) (by kernel_rfl)) ?_
  refine AL_p rfl rfl (S_load 0 rfl (.tmp rfl) rfl rfl (by kernel_rfl)) ?_
  refine AL_p rfl rfl (by first | exact S_lenM (e := 114) rfl (.tmp rfl) (by kernel_rfl) | exact S_len (e := 114) rfl (.tmp rfl) (by kernel_rfl)) ?_
  refine AL_p rfl rfl (S_lss rfl (.tmp rfl) (AEv.const _)) ?_
  refine AL_p rfl rfl (S_move rfl (.tmp rfl)) ?_
  refine AL_g rfl rfl (.tmp rfl) rfl (fun hg9 => S_field 3 rfl (.tmp rfl) (by kernel_rfl)) ?_
  refine AL_g rfl rfl (.tmp rfl) rfl (fun hg12 => S_load 0 rfl (AEv.cond (.tmp rfl) (by first | assumption | exact gdAnd (by assumption) (by assumption))) rfl rfl (by kernel_rfl)) ?_
  refine AL_g rfl rfl (.tmp rfl) rfl (fun hg15 => by first | exact S_lenM (e := 114) rfl (AEv.cond (.tmp rfl) (by first | assumption | exact gdAnd (by assumption) (by assumption))) (by kernel_rfl) | exact S_len (e := 114) rfl (AEv.cond (.tmp rfl) (by first | assumption | exact gdAnd (by assumption) (by assumption))) (by kernel_rfl)) ?_
  refine AL_g rfl rfl (.tmp rfl) rfl (fun hg18 => S_gtr rfl (AEv.cond (.tmp rfl) (by first | assumption | exact gdAnd (by assumption) (by assumption))) (AEv.const _)) ?_
  refine AL_p rfl rfl (S_or rfl (.tmp rfl) (fun hp21 => (AEv.cond (.tmp rfl) (by first | assumption | exact gdT hp21 | exact gdF hp21 | exact gdAnd (by assumption) (gdT hp21) | exact gdAnd (by assumption) (gdF hp21))))) ?_
  refine AL_nil ?_
  refine AC_cond (.tmp rfl) (fun hb22 => ?_) (fun hb22 => ?_)
  · try simp only [zA, zO, zN, zM, zP, zQ, zD, zF, gd] at hb22
    have hx : (checkE s) = some (2, [mainN]) := check_bad2 hc1 ((firstE_tl hci).trans (firstE_hd (by unfold atMostE; rw [if_pos (by omega)])))
    refine AC_seq ?_
    refine AC_region ?_
    refine AL_p rfl rfl (S_assign rfl (AEv.const _)) ?_
    refine AL_p rfl rfl (S_assign rfl (AEv.S _)) ?_
    refine AL_nil ?_
    refine AC_ret ?_
    refine ret_tmps (ts := [2, 3]) st rfl (by decide) rfl (Sub.l (List.Sublist.cons _ (List.sublist_append_right _ _))) (Conv.refl (Sub.l (List.Sublist.cons _ (List.sublist_append_right _ _))) _) ⟨cp_some hx rfl, rfl⟩ (.inl rfl)
  try simp only [zA, zO, zN, zM, zP, zQ, zD, zF, gd] at hb22
  have hc2 : firstE (check2 s) = none := (firstE_tl hci).trans ((firstE_tl (by unfold atMostE; rw [if_neg (by omega)])).trans rfl)
  refine AC_skip ?_
  refine AC_seq ?_
  refine AC_seq ?_
  refine AC_region ?_
  refine AL_p rfl rfl (S_assign rfl (AEv.const _)) ?_
  refine AL_nil ?_
  refine AC_block ?_
  refine AC_loopK (G := Nat × Own) [(1, _)] (fun g => g.1 ≤ s.main.length ∧ g.2.ok ((s.init ++ s.main.take g.1).map ctrAV) ∧ ∀ j, j < g.1 → ctrAt (namesTo [] s.init s.init.length) (portsTo [] s.init s.init.length) s.main 3 1000 j = none) (fun g => [(6, ownAV g.2 11 ((s.init ++ s.main.take g.1).map ctrAV)), (8, .int .i64 (g.1 : Int))]) (fun g => (b1, .cells (spcL s)) :: (ownSt g.2 114 11 ((s.init ++ s.main.take g.1).map ctrAV) ++ st)) (fun g => s.main.length - g.1) ((0, p)) (⟨Nat.zero_le _, by simpa using hq, fun j h => absurd h (Nat.not_lt_zero _)⟩) (by simp only [List.take_zero, List.append_nil]; exact Sub.l (List.Sublist.refl _)) (.cons rfl (Le.refl _) .nil) (.cons rfl (by first | exact Le.refl _ | exact Le.nils | exact Le.row _ _ _ _ | exact Le.of_eq (by first | rfl | (simp; done) | (push_cast; rfl) | (simp; omega))) (.cons rfl (by first | exact Le.refl _ | exact Le.nils | exact Le.row _ _ _ _ | exact Le.of_eq (by first | rfl | (simp; done) | (push_cast; rfl) | (simp; omega))) .nil)) ?_
  rintro ⟨i, p⟩ ⟨hi, hq, hall⟩
  try dsimp only
  simp only [List.cons_append, List.nil_append]
  dsimp only at hi hq hall
  refine AC_seq ?_
  refine AC_seq ?_
  refine AC_region ?_
  refine AL_p rfl rfl (S_move rfl (.tmp rfl)) ?_
  refine AL_p rfl rfl (S_field 3 rfl (.tmp rfl) (by kernel_rfl)) ?_
  refine AL_p rfl rfl (S_load 0 rfl (.tmp rfl) rfl rfl (by kernel_rfl)) ?_
  refine AL_p rfl rfl (by first | exact S_lenM (e := 114) rfl (.tmp rfl) (by kernel_rfl) | exact S_len (e := 114) rfl (.tmp rfl) (by kernel_rfl)) ?_
  refine AL_p rfl rfl (S_lss rfl (.tmp rfl) (.tmp rfl)) ?_
  refine AL_nil ?_
  refine AC_cond (.tmp rfl) (fun hb23 => ?_) (fun hb23 => ?_)
  · try simp only [zA, zO, zN, zM, zP, zQ, zD, zF, gd] at hb23
    have hil : i < s.main.length := by omega
    have hif : fits (i : Int) := by unfold fits; omega
    have hat := at_short (name := mainN) (by decide) hil (by omega)
    have hsh := (short_ctr (ns := (s.init ++ s.main.take i).map Ctr.name) (ps := (s.init ++ s.main.take i).flatMap Ctr.ports) (a := 3) (b := 1000) (c := s.main[i]'hil) (by have := hpm _ (List.getElem_mem hil); omega)).text
    refine AC_skip ?_
    refine AC_seq ?_
    refine AC_block ?_
    refine AC_seq ?_
    refine AC_region ?_
    refine AL_p rfl rfl (S_field 3 rfl (.tmp rfl) (by kernel_rfl)) ?_
    refine AL_p rfl rfl (S_load 0 rfl (.tmp rfl) rfl rfl (by kernel_rfl)) ?_
    refine AL_p rfl rfl (S_move rfl (.tmp rfl)) ?_
    refine AL_p rfl rfl (S_elemN (e := 114) 11 rfl (.tmp rfl) (.tmp rfl) (by kernel_rfl) (by kernel_rfl) (by omega) (fun _ => rfl)) ?_
    refine AL_p rfl rfl (S_loadPN (m := 11) rfl (.tmp rfl) (by kernel_rfl) (by first | exact Nat.le_of_ble_eq_true rfl | (simp; omega) | simp)) ?_
    refine AL_p rfl rfl (S_move rfl (.tmp rfl)) ?_
    refine AL_p rfl rfl (S_pcall rfl (AEvs.cons (y := ctrAV (s.main[i]'hil)) (.tmp rfl) (AEvs.cons ((AEv.tmp rfl).le (Le_own hq)) (AEvs.cons (AEv.const _) AEvs.nil))) ((ref06_one_ok (s.main[i]'hil) (s.init ++ s.main.take i) false (by have := hpm _ (List.getElem_mem hil); omega) (by have := hpm _ (List.getElem_mem hil); omega) (by have := hpm _ (List.getElem_mem hil); omega) (by rw [List.length_append, List.length_take]; omega) (fun x hx => (List.mem_append.1 hx).elim (fun hx => by have := hpi x hx; omega) (fun hx => by have := hpm x (List.mem_of_mem_take hx); omega))).of_eq (show _ = cpAV (ctrE ((s.init ++ s.main.take i).map Ctr.name) ((s.init ++ s.main.take i).flatMap Ctr.ports) (s.main[i]'hil) 3 1000) from rfl))) ?_
    refine AL_p rfl rfl (S_move rfl (.tmp rfl)) ?_
    refine AL_p rfl rfl (S_extract 0 rfl (.tmp rfl) rfl) ?_
    refine AL_p rfl rfl (S_extract 1 rfl (.tmp rfl) rfl) ?_
    refine AL_p rfl rfl (S_assign rfl (.tmp rfl)) ?_
    refine AL_p rfl rfl (S_assign rfl (.tmp rfl)) ?_
    refine AL_nil ?_
    refine AC_seq ?_
    refine AC_seq ?_
    refine AC_region ?_
    refine AL_p rfl rfl (S_move rfl (.tmp rfl)) ?_
    refine AL_p rfl rfl (S_neq rfl (.tmp rfl) (AEv.const _)) ?_
    refine AL_nil ?_
    refine AC_cond (.tmp rfl) (fun hb24 => ?_) (fun hb24 => ?_)
    · try simp only [zA, zO, zN, zM, zP, zQ, zD, zF, gd] at hb24
      have hne : (ctrE ((s.init ++ s.main.take i).map Ctr.name) ((s.init ++ s.main.take i).flatMap Ctr.ports) (s.main[i]'hil) 3 1000) ≠ none := fun h => hb24 (congrArg erCode h)
      have hx : (checkE s) = erIn (ctrE ((s.init ++ s.main.take i).map Ctr.name) ((s.init ++ s.main.take i).flatMap Ctr.ports) (s.main[i]'hil) 3 1000) (atT mainN (i : Int)) := by
        obtain ⟨y, hy⟩ := Option.ne_none_iff_exists'.1 hne
        obtain ⟨z, hz⟩ : ∃ z, erIn (ctrE ((s.init ++ s.main.take i).map Ctr.name) ((s.init ++ s.main.take i).flatMap Ctr.ports) (s.main[i]'hil) 3 1000) (atT mainN (i : Int)) = some z := by rw [hy]; exact ⟨_, rfl⟩
        rw [hz]
        exact (check_good hc1 hc2).trans (firstE_hd (eachE_at hil (by rw [ctrAt_at hil, seen_names, seen_ports, hz]) (fun j hj => by rw [hall j hj]; rfl)))
      refine AC_seq ?_
      refine AC_region ?_
      refine AL_p rfl rfl (S_move rfl (.tmp rfl)) ?_
      refine AL_p rfl rfl (S_move rfl (.tmp rfl)) ?_
      refine AL_p rfl rfl (S_pcall rfl (AEvs.cons (AEv.S _) (AEvs.cons (.tmp rfl) AEvs.nil)) (ref06_at_ok mainN (by decide) (i : Int) hif)) ?_
      refine AL_p rfl rfl (S_cat rfl (.tmp rfl) (AEv.S _) (by first | omega | (simp only [List.length_append, List.length_cons, List.length_nil]; omega))) ?_
      refine AL_p rfl rfl (S_move rfl (.tmp rfl)) ?_
      refine AL_p rfl rfl (S_cat rfl (.tmp rfl) (.tmp rfl) (by first | omega | (simp only [List.length_append, List.length_cons, List.length_nil]; omega))) ?_
      refine AL_p rfl rfl (S_assign rfl (.tmp rfl)) ?_
      refine AL_p rfl rfl (S_assign rfl (.tmp rfl)) ?_
      refine AL_nil ?_
      refine AC_ret ?_
      refine ret_tmps (ts := [2, 3]) st rfl (by decide) rfl (Sub.l (List.Sublist.cons _ (List.sublist_append_right _ _))) (Conv.refl (Sub.l (List.Sublist.cons _ (List.sublist_append_right _ _))) _) ⟨cp_in (well_ctr _ _ _ _ _) hne hx rfl, rfl⟩ (.inl rfl)
    try simp only [zA, zO, zN, zM, zP, zQ, zD, zF, gd] at hb24
    have hnn : (ctrE ((s.init ++ s.main.take i).map Ctr.name) ((s.init ++ s.main.take i).flatMap Ctr.ports) (s.main[i]'hil) 3 1000) = none := (well_ctr _ _ _ _ _).code.1 hb24
    refine AC_skip ?_
    refine AC_region ?_
    refine AL_p rfl rfl (S_move rfl (.tmp rfl)) ?_
    refine AL_p rfl rfl (S_field 3 rfl (.tmp rfl) (by kernel_rfl)) ?_
    refine AL_p rfl rfl (S_load 0 rfl (.tmp rfl) rfl rfl (by kernel_rfl)) ?_
    refine AL_p rfl rfl (S_move rfl (.tmp rfl)) ?_
    refine AL_p rfl rfl (S_elemN (e := 114) 11 rfl (.tmp rfl) (.tmp rfl) (by kernel_rfl) (by kernel_rfl) (by omega) (fun _ => rfl)) ?_
    refine AL_p rfl rfl (S_loadPN (m := 11) rfl (.tmp rfl) (by kernel_rfl) (by first | exact Nat.le_of_ble_eq_true rfl | (simp; omega) | simp)) ?_
    refine AL_p rfl rfl (S_buildSlice (e := 114) 11 rfl (AEvs.cons (.tmp rfl) AEvs.nil) rfl (by kernel_rfl) (by kernel_rfl) (by intro y hy; simp only [List.mem_cons, List.not_mem_nil, or_false] at hy; rcases hy with rfl <;> exact ⟨rfl, rfl⟩) (by decide) (by decide) (by decide)) ?_
    refine AL_step rfl rfl (S_appendM (f := ctrAV) (l := s.init ++ s.main.take i) (l2 := [(s.main[i]'hil)]) (e := 114) (size := 11) (bytes := 120) (p := p) ([_]) (st) rfl (.tmp rfl) (.tmp rfl) rfl hq (by kernel_rfl) (by simp) (fun _ => ⟨rfl, rfl⟩) (by simp only [List.length_append, List.length_take, List.length_singleton]; omega) (by simp only [List.length_append, List.length_take, List.length_singleton]; omega)) ?_
    rintro _ _ ⟨b8, k8, cap8, hx8, rfl, rfl⟩
    refine AL_p rfl rfl (S_assign rfl (.tmp rfl)) ?_
    refine AL_nil ?_
    refine AC_region ?_
    refine AL_p rfl rfl (S_move rfl (.tmp rfl)) ?_
    refine AL_p rfl rfl (S_addI rfl (.tmp rfl) (AEv.const _) (by omega) (by omega)) ?_
    refine AL_p rfl rfl (S_assign rfl (.tmp rfl)) ?_
    refine AL_nil ?_
    have e9 : s.init ++ s.main.take i ++ [(s.main[i]'hil)] = s.init ++ s.main.take (i + 1) := by rw [List.append_assoc, take_snoc]
    rw [e9] at hx8 ⊢
    refine ⟨(i + 1, .row b8 k8 cap8), ⟨by dsimp only; omega, hx8, fun j h => ?_⟩, by dsimp only; omega, (Sub.l (List.Sublist.refl _)), (.cons rfl (by first | exact Le.refl _ | exact Le.nils | exact Le.row _ _ _ _ | exact Le.of_eq (by first | rfl | (simp; done) | (push_cast; rfl) | (simp; omega))) (.cons rfl (by first | exact Le.refl _ | exact Le.nils | exact Le.row _ _ _ _ | exact Le.of_eq (by first | rfl | (simp; done) | (push_cast; rfl) | (simp; omega))) .nil)), (.cons rfl (Le.refl _) .nil)⟩
    rcases Nat.lt_or_ge j i with h' | h'
    · exact hall j h'
    · have : j = i := by dsimp only at h; omega
      subst this
      rw [ctrAt_at hil, seen_names, seen_ports]; exact hnn
  try simp only [zA, zO, zN, zM, zP, zQ, zD, zF, gd] at hb23
  have hcm : ctrsE mainN (namesTo [] s.init s.init.length) (portsTo [] s.init s.init.length) s.main 3 1000 = none := eachE_all fun j hj => by rw [hall j (by omega)]; rfl
  have hc3 := (check_good hc1 hc2).trans (firstE_tl hcm)
  refine AC_exit ?_
  refine AC_seq ?_
  refine AC_seq ?_
  refine AC_region ?_
  refine AL_p rfl rfl (S_field 4 rfl (.tmp rfl) (by kernel_rfl)) ?_
  refine AL_p rfl rfl (S_load 0 rfl (.tmp rfl) rfl rfl (by kernel_rfl)) ?_
  refine AL_p rfl rfl (S_lss rfl (.tmp rfl) (AEv.const _)) ?_
  refine AL_p rfl rfl (S_move rfl (.tmp rfl)) ?_
  refine AL_g rfl rfl (.tmp rfl) rfl (fun hg27 => S_field 4 rfl (.tmp rfl) (by kernel_rfl)) ?_
  refine AL_g rfl rfl (.tmp rfl) rfl (fun hg30 => S_load 0 rfl (AEv.cond (.tmp rfl) (by first | assumption | exact gdAnd (by assumption) (by assumption))) rfl rfl (by kernel_rfl)) ?_
  refine AL_g rfl rfl (.tmp rfl) rfl (fun hg33 => S_gtr rfl (AEv.cond (.tmp rfl) (by first | assumption | exact gdAnd (by assumption) (by assumption))) (AEv.const _)) ?_
  refine AL_p rfl rfl (S_or rfl (.tmp rfl) (fun hp36 => (AEv.cond (.tmp rfl) (by first | assumption | exact gdT hp36 | exact gdF hp36 | exact gdAnd (by assumption) (gdT hp36) | exact gdAnd (by assumption) (gdF hp36))))) ?_
  refine AL_nil ?_
  refine AC_cond (.tmp rfl) (fun hb37 => ?_) (fun hb37 => ?_)
  · try simp only [zA, zO, zN, zM, zP, zQ, zD, zF, gd] at hb37
    have hx : (checkE s) = some (1, [[114, 101, 115, 116, 97, 114, 116]]) := hc3.trans (firstE_hd (by unfold withinE; rw [if_pos (by omega)]))
    refine AC_seq ?_
    refine AC_region ?_
    refine AL_p rfl rfl (S_assign rfl (AEv.const _)) ?_
    refine AL_p rfl rfl (S_assign rfl (AEv.S _)) ?_
    refine AL_nil ?_
    refine AC_ret ?_
    refine ret_tmps (ts := [2, 3]) st rfl (by decide) rfl (Sub.l (List.Sublist.cons _ (List.sublist_append_right _ _))) (Conv.refl (Sub.l (List.Sublist.cons _ (List.sublist_append_right _ _))) _) ⟨cp_some hx rfl, rfl⟩ (.inl rfl)
  try simp only [zA, zO, zN, zM, zP, zQ, zD, zF, gd] at hb37
  have hc4 := hc3.trans (firstE_tl (by unfold withinE; rw [if_neg (by omega)]))
  refine AC_skip ?_
  refine AC_seq ?_
  refine AC_seq ?_
  refine AC_region ?_
  refine AL_p rfl rfl (S_field 5 rfl (.tmp rfl) (by kernel_rfl)) ?_
  refine AL_p rfl rfl (S_load 0 rfl (.tmp rfl) rfl rfl (by kernel_rfl)) ?_
  refine AL_p rfl rfl (S_lss rfl (.tmp rfl) (AEv.const _)) ?_
  refine AL_p rfl rfl (S_move rfl (.tmp rfl)) ?_
  refine AL_g rfl rfl (.tmp rfl) rfl (fun hg38 => S_field 5 rfl (.tmp rfl) (by kernel_rfl)) ?_
  refine AL_g rfl rfl (.tmp rfl) rfl (fun hg41 => S_load 0 rfl (AEv.cond (.tmp rfl) (by first | assumption | exact gdAnd (by assumption) (by assumption))) rfl rfl (by kernel_rfl)) ?_
  refine AL_g rfl rfl (.tmp rfl) rfl (fun hg44 => S_gtr rfl (AEv.cond (.tmp rfl) (by first | assumption | exact gdAnd (by assumption) (by assumption))) (AEv.const _)) ?_
  refine AL_p rfl rfl (S_or rfl (.tmp rfl) (fun hp47 => (AEv.cond (.tmp rfl) (by first | assumption | exact gdT hp47 | exact gdF hp47 | exact gdAnd (by assumption) (gdT hp47) | exact gdAnd (by assumption) (gdF hp47))))) ?_
  refine AL_nil ?_
  refine AC_cond (.tmp rfl) (fun hb48 => ?_) (fun hb48 => ?_)
  · try simp only [zA, zO, zN, zM, zP, zQ, zD, zF, gd] at hb48
    have hx : (checkE s) = some (1, [[103, 114, 97, 99, 101]]) := hc4.trans (firstE_hd (by unfold withinE; rw [if_pos (by omega)]))
    refine AC_seq ?_
    refine AC_region ?_
    refine AL_p rfl rfl (S_assign rfl (AEv.const _)) ?_
    refine AL_p rfl rfl (S_assign rfl (AEv.S _)) ?_
    refine AL_nil ?_
    refine AC_ret ?_
    refine ret_tmps (ts := [2, 3]) st rfl (by decide) rfl (Sub.l (List.Sublist.cons _ (List.sublist_append_right _ _))) (Conv.refl (Sub.l (List.Sublist.cons _ (List.sublist_append_right _ _))) _) ⟨cp_some hx rfl, rfl⟩ (.inl rfl)
  try simp only [zA, zO, zN, zM, zP, zQ, zD, zF, gd] at hb48
  have hc5 := hc4.trans (firstE_tl (by unfold withinE; rw [if_neg (by omega)]))
  refine AC_skip ?_
  refine AC_seq ?_
  refine AC_seq ?_
  refine AC_region ?_
  refine AL_p rfl rfl (S_field 6 rfl (.tmp rfl) (by kernel_rfl)) ?_
  refine AL_p rfl rfl (S_load 0 rfl (.tmp rfl) rfl rfl (by kernel_rfl)) ?_
  refine AL_p rfl rfl (S_lss rfl (.tmp rfl) (AEv.const _)) ?_
  refine AL_p rfl rfl (S_move rfl (.tmp rfl)) ?_
  refine AL_g rfl rfl (.tmp rfl) rfl (fun hg49 => S_field 6 rfl (.tmp rfl) (by kernel_rfl)) ?_
  refine AL_g rfl rfl (.tmp rfl) rfl (fun hg52 => S_load 0 rfl (AEv.cond (.tmp rfl) (by first | assumption | exact gdAnd (by assumption) (by assumption))) rfl rfl (by kernel_rfl)) ?_
  refine AL_g rfl rfl (.tmp rfl) rfl (fun hg55 => S_gtr rfl (AEv.cond (.tmp rfl) (by first | assumption | exact gdAnd (by assumption) (by assumption))) (AEv.const _)) ?_
  refine AL_p rfl rfl (S_or rfl (.tmp rfl) (fun hp58 => (AEv.cond (.tmp rfl) (by first | assumption | exact gdT hp58 | exact gdF hp58 | exact gdAnd (by assumption) (gdT hp58) | exact gdAnd (by assumption) (gdF hp58))))) ?_
  refine AL_nil ?_
  refine AC_cond (.tmp rfl) (fun hb59 => ?_) (fun hb59 => ?_)
  · try simp only [zA, zO, zN, zM, zP, zQ, zD, zF, gd] at hb59
    have hx : (checkE s) = some (1, [[112, 114, 105, 111]]) := hc5.trans (firstE_hd (by unfold withinE; rw [if_pos (by omega)]))
    refine AC_seq ?_
    refine AC_region ?_
    refine AL_p rfl rfl (S_assign rfl (AEv.const _)) ?_
    refine AL_p rfl rfl (S_assign rfl (AEv.S _)) ?_
    refine AL_nil ?_
    refine AC_ret ?_
    refine ret_tmps (ts := [2, 3]) st rfl (by decide) rfl (Sub.l (List.Sublist.cons _ (List.sublist_append_right _ _))) (Conv.refl (Sub.l (List.Sublist.cons _ (List.sublist_append_right _ _))) _) ⟨cp_some hx rfl, rfl⟩ (.inl rfl)
  try simp only [zA, zO, zN, zM, zP, zQ, zD, zF, gd] at hb59
  have hx : (checkE s) = none := hc5.trans ((firstE_tl (by unfold withinE; rw [if_neg (by omega)])).trans rfl)
  refine AC_skip ?_
  refine AC_seq ?_
  refine AC_region ?_
  refine AL_p rfl rfl (S_assign rfl (AEv.const _)) ?_
  refine AL_p rfl rfl (S_assign rfl (AEv.S _)) ?_
  refine AL_nil ?_
  refine AC_ret ?_
  refine ret_tmps (ts := [2, 3]) st rfl (by decide) rfl (Sub.l (List.Sublist.cons _ (List.sublist_append_right _ _))) (Conv.refl (Sub.l (List.Sublist.cons _ (List.sublist_append_right _ _))) _) ⟨cp_none hx, rfl⟩ (.inl rfl)

end Go.Proofs.YtcbnokpgklmndaaGreatDoor

/-
The walks of Go functions in the logic AL: what each of them answers.
Conditions: those of each theorem.
-/
set_option linter.unusedVariables false
set_option linter.unusedSimpArgs false
namespace Go.Proofs.YtcbnokpgklmndaaGreatDoor
open Go.AL Go.NumSpec

set_option maxRecDepth 100000 in
/-- provost/provostref08.Fields -/
theorem ref08_Fields_ok (k : Int) : PCalls Tryz.prog 27 [.int .i64 k] (.sl (strsV (fieldsN k.toNat))) := by
  intro st
  refine ACalls_of (N := 36) Tryz.func27 (by kernel_rfl) rfl rfl rfl ?_
  refine AC_seq ?_
  refine AC_region ?_
  refine AL_p rfl rfl (S_assign rfl (AEv.const _)) ?_
  refine AL_nil ?_
  refine AC_seq ?_
  refine AC_seq ?_
  refine AC_region ?_
  refine AL_p rfl rfl (S_move rfl (.tmp rfl)) ?_
  refine AL_nil ?_
  refine AC_block ?_
  refine AC_seq ?_
  refine AC_region ?_
  refine AL_p rfl rfl (S_eql rfl (.tmp rfl) (AEv.const _)) ?_
  refine AL_p rfl rfl (S_assign rfl (.tmp rfl)) ?_
  refine AL_nil ?_
  refine AC_cond (.tmp rfl) (fun hb1 => ?_) (fun hb1 => ?_)
  · try simp only [zA, zO, zN, zM, zP, zQ, zD, zF, gd] at hb1
    have hk : k = 1 := hb1
    subst hk
    refine AC_seq ?_
    refine AC_region ?_
    refine AL_p rfl rfl (S_buildSlice (e := 9) 1 rfl (AEvs.cons (AEv.S _) AEvs.nil) rfl (by kernel_rfl) (by kernel_rfl) (by intro y hy; simp only [List.mem_cons, List.not_mem_nil, or_false] at hy; rcases hy with rfl <;> exact ⟨rfl, rfl⟩) (by decide) (by decide) (by decide)) ?_
    refine AL_p rfl rfl (S_assign rfl (.tmp rfl)) ?_
    refine AL_nil ?_
    refine AC_ret ?_
    refine ret_tmp st rfl rfl (Sub.l (List.Sublist.refl _)) (Conv.refl (Sub.l (List.Sublist.refl _)) _) ⟨rfl, rfl⟩ (.inl rfl)
  try simp only [zA, zO, zN, zM, zP, zQ, zD, zF, gd] at hb1
  refine AC_seq ?_
  refine AC_region ?_
  refine AL_p rfl rfl (S_eql rfl (.tmp rfl) (AEv.const _)) ?_
  refine AL_p rfl rfl (S_assign rfl (.tmp rfl)) ?_
  refine AL_nil ?_
  refine AC_cond (.tmp rfl) (fun hb2 => ?_) (fun hb2 => ?_)
  · try simp only [zA, zO, zN, zM, zP, zQ, zD, zF, gd] at hb2
    have hk : k = 2 := hb2
    subst hk
    refine AC_seq ?_
    refine AC_region ?_
    refine AL_p rfl rfl (S_buildSlice (e := 9) 1 rfl (AEvs.cons (AEv.S _) (AEvs.cons (AEv.S _) (AEvs.cons (AEv.S _) AEvs.nil))) rfl (by kernel_rfl) (by kernel_rfl) (by intro y hy; simp only [List.mem_cons, List.not_mem_nil, or_false] at hy; rcases hy with rfl | rfl | rfl <;> exact ⟨rfl, rfl⟩) (by decide) (by decide) (by decide)) ?_
    refine AL_p rfl rfl (S_assign rfl (.tmp rfl)) ?_
    refine AL_nil ?_
    refine AC_ret ?_
    refine ret_tmp st rfl rfl (Sub.l (List.Sublist.refl _)) (Conv.refl (Sub.l (List.Sublist.refl _)) _) ⟨rfl, rfl⟩ (.inl rfl)
  try simp only [zA, zO, zN, zM, zP, zQ, zD, zF, gd] at hb2
  refine AC_seq ?_
  refine AC_region ?_
  refine AL_p rfl rfl (S_eql rfl (.tmp rfl) (AEv.const _)) ?_
  refine AL_p rfl rfl (S_assign rfl (.tmp rfl)) ?_
  refine AL_nil ?_
  refine AC_cond (.tmp rfl) (fun hb3 => ?_) (fun hb3 => ?_)
  · try simp only [zA, zO, zN, zM, zP, zQ, zD, zF, gd] at hb3
    have hk : k = 3 := hb3
    subst hk
    refine AC_seq ?_
    refine AC_region ?_
    refine AL_p rfl rfl (S_buildSlice (e := 9) 1 rfl (AEvs.cons (AEv.S _) (AEvs.cons (AEv.S _) AEvs.nil)) rfl (by kernel_rfl) (by kernel_rfl) (by intro y hy; simp only [List.mem_cons, List.not_mem_nil, or_false] at hy; rcases hy with rfl | rfl <;> exact ⟨rfl, rfl⟩) (by decide) (by decide) (by decide)) ?_
    refine AL_p rfl rfl (S_assign rfl (.tmp rfl)) ?_
    refine AL_nil ?_
    refine AC_ret ?_
    refine ret_tmp st rfl rfl (Sub.l (List.Sublist.refl _)) (Conv.refl (Sub.l (List.Sublist.refl _)) _) ⟨rfl, rfl⟩ (.inl rfl)
  try simp only [zA, zO, zN, zM, zP, zQ, zD, zF, gd] at hb3
  refine AC_seq ?_
  refine AC_region ?_
  refine AL_p rfl rfl (S_eql rfl (.tmp rfl) (AEv.const _)) ?_
  refine AL_p rfl rfl (S_assign rfl (.tmp rfl)) ?_
  refine AL_nil ?_
  refine AC_cond (.tmp rfl) (fun hb4 => ?_) (fun hb4 => ?_)
  · try simp only [zA, zO, zN, zM, zP, zQ, zD, zF, gd] at hb4
    have hk : k = 4 := hb4
    subst hk
    refine AC_seq ?_
    refine AC_region ?_
    refine AL_p rfl rfl (S_buildSlice (e := 9) 1 rfl (AEvs.cons (AEv.S _) (AEvs.cons (AEv.S _) AEvs.nil)) rfl (by kernel_rfl) (by kernel_rfl) (by intro y hy; simp only [List.mem_cons, List.not_mem_nil, or_false] at hy; rcases hy with rfl | rfl <;> exact ⟨rfl, rfl⟩) (by decide) (by decide) (by decide)) ?_
    refine AL_p rfl rfl (S_assign rfl (.tmp rfl)) ?_
    refine AL_nil ?_
    refine AC_ret ?_
    refine ret_tmp st rfl rfl (Sub.l (List.Sublist.refl _)) (Conv.refl (Sub.l (List.Sublist.refl _)) _) ⟨rfl, rfl⟩ (.inl rfl)
  try simp only [zA, zO, zN, zM, zP, zQ, zD, zF, gd] at hb4
  refine AC_seq ?_
  refine AC_region ?_
  refine AL_p rfl rfl (S_eql rfl (.tmp rfl) (AEv.const _)) ?_
  refine AL_p rfl rfl (S_assign rfl (.tmp rfl)) ?_
  refine AL_nil ?_
  refine AC_cond (.tmp rfl) (fun hb5 => ?_) (fun hb5 => ?_)
  · try simp only [zA, zO, zN, zM, zP, zQ, zD, zF, gd] at hb5
    have hk : k = 5 := hb5
    subst hk
    refine AC_seq ?_
    refine AC_region ?_
    refine AL_p rfl rfl (S_buildSlice (e := 9) 1 rfl (AEvs.cons (AEv.S _) (AEvs.cons (AEv.S _) AEvs.nil)) rfl (by kernel_rfl) (by kernel_rfl) (by intro y hy; simp only [List.mem_cons, List.not_mem_nil, or_false] at hy; rcases hy with rfl | rfl <;> exact ⟨rfl, rfl⟩) (by decide) (by decide) (by decide)) ?_
    refine AL_p rfl rfl (S_assign rfl (.tmp rfl)) ?_
    refine AL_nil ?_
    refine AC_ret ?_
    refine ret_tmp st rfl rfl (Sub.l (List.Sublist.refl _)) (Conv.refl (Sub.l (List.Sublist.refl _)) _) ⟨rfl, rfl⟩ (.inl rfl)
  try simp only [zA, zO, zN, zM, zP, zQ, zD, zF, gd] at hb5
  refine AC_seq ?_
  refine AC_region ?_
  refine AL_p rfl rfl (S_eql rfl (.tmp rfl) (AEv.const _)) ?_
  refine AL_p rfl rfl (S_assign rfl (.tmp rfl)) ?_
  refine AL_nil ?_
  refine AC_cond (.tmp rfl) (fun hb6 => ?_) (fun hb6 => ?_)
  · try simp only [zA, zO, zN, zM, zP, zQ, zD, zF, gd] at hb6
    have hk : k = 6 := hb6
    subst hk
    refine AC_seq ?_
    refine AC_region ?_
    refine AL_p rfl rfl (S_buildSlice (e := 9) 1 rfl (AEvs.cons (AEv.S _) (AEvs.cons (AEv.S _) AEvs.nil)) rfl (by kernel_rfl) (by kernel_rfl) (by intro y hy; simp only [List.mem_cons, List.not_mem_nil, or_false] at hy; rcases hy with rfl | rfl <;> exact ⟨rfl, rfl⟩) (by decide) (by decide) (by decide)) ?_
    refine AL_p rfl rfl (S_assign rfl (.tmp rfl)) ?_
    refine AL_nil ?_
    refine AC_ret ?_
    refine ret_tmp st rfl rfl (Sub.l (List.Sublist.refl _)) (Conv.refl (Sub.l (List.Sublist.refl _)) _) ⟨rfl, rfl⟩ (.inl rfl)
  try simp only [zA, zO, zN, zM, zP, zQ, zD, zF, gd] at hb6
  refine AC_seq ?_
  refine AC_seq ?_
  refine AC_region ?_
  refine AL_p rfl rfl (S_eql rfl (.tmp rfl) (AEv.const _)) ?_
  refine AL_p rfl rfl (S_assign rfl (.tmp rfl)) ?_
  refine AL_nil ?_
  refine AC_cond (.tmp rfl) (fun hb7 => ?_) (fun hb7 => ?_)
  · try simp only [zA, zO, zN, zM, zP, zQ, zD, zF, gd] at hb7
    have hk : k = 7 := hb7
    subst hk
    refine AC_skip ?_
    refine AC_cond (.tmp rfl) (fun hb8 => ?_) (fun hb8 => ?_)
    · try simp only [zA, zO, zN, zM, zP, zQ, zD, zF, gd] at hb8
      refine AC_seq ?_
      refine AC_region ?_
      refine AL_p rfl rfl (S_buildSlice (e := 9) 1 rfl (AEvs.cons (AEv.S _) AEvs.nil) rfl (by kernel_rfl) (by kernel_rfl) (by intro y hy; simp only [List.mem_cons, List.not_mem_nil, or_false] at hy; rcases hy with rfl <;> exact ⟨rfl, rfl⟩) (by decide) (by decide) (by decide)) ?_
      refine AL_p rfl rfl (S_assign rfl (.tmp rfl)) ?_
      refine AL_nil ?_
      refine AC_ret ?_
      refine ret_tmp st rfl rfl (Sub.l (List.Sublist.refl _)) (Conv.refl (Sub.l (List.Sublist.refl _)) _) ⟨rfl, rfl⟩ (.inl rfl)
    exfalso; simp at hb8
  try simp only [zA, zO, zN, zM, zP, zQ, zD, zF, gd] at hb7
  refine AC_region ?_
  refine AL_p rfl rfl (S_eql rfl (.tmp rfl) (AEv.const _)) ?_
  refine AL_p rfl rfl (S_assign rfl (.tmp rfl)) ?_
  refine AL_nil ?_
  refine AC_cond (.tmp rfl) (fun hb9 => ?_) (fun hb9 => ?_)
  · try simp only [zA, zO, zN, zM, zP, zQ, zD, zF, gd] at hb9
    have hk : k = 12 := hb9
    subst hk
    refine AC_seq ?_
    refine AC_region ?_
    refine AL_p rfl rfl (S_buildSlice (e := 9) 1 rfl (AEvs.cons (AEv.S _) AEvs.nil) rfl (by kernel_rfl) (by kernel_rfl) (by intro y hy; simp only [List.mem_cons, List.not_mem_nil, or_false] at hy; rcases hy with rfl <;> exact ⟨rfl, rfl⟩) (by decide) (by decide) (by decide)) ?_
    refine AL_p rfl rfl (S_assign rfl (.tmp rfl)) ?_
    refine AL_nil ?_
    refine AC_ret ?_
    refine ret_tmp st rfl rfl (Sub.l (List.Sublist.refl _)) (Conv.refl (Sub.l (List.Sublist.refl _)) _) ⟨rfl, rfl⟩ (.inl rfl)
  try simp only [zA, zO, zN, zM, zP, zQ, zD, zF, gd] at hb9
  refine AC_seq ?_
  refine AC_seq ?_
  refine AC_region ?_
  refine AL_p rfl rfl (S_eql rfl (.tmp rfl) (AEv.const _)) ?_
  refine AL_p rfl rfl (S_assign rfl (.tmp rfl)) ?_
  refine AL_nil ?_
  refine AC_cond (.tmp rfl) (fun hb10 => ?_) (fun hb10 => ?_)
  · try simp only [zA, zO, zN, zM, zP, zQ, zD, zF, gd] at hb10
    have hk : k = 8 := hb10
    subst hk
    refine AC_skip ?_
    refine AC_cond (.tmp rfl) (fun hb11 => ?_) (fun hb11 => ?_)
    · try simp only [zA, zO, zN, zM, zP, zQ, zD, zF, gd] at hb11
      refine AC_seq ?_
      refine AC_region ?_
      refine AL_p rfl rfl (S_buildSlice (e := 9) 1 rfl (AEvs.cons (AEv.S _) AEvs.nil) rfl (by kernel_rfl) (by kernel_rfl) (by intro y hy; simp only [List.mem_cons, List.not_mem_nil, or_false] at hy; rcases hy with rfl <;> exact ⟨rfl, rfl⟩) (by decide) (by decide) (by decide)) ?_
      refine AL_p rfl rfl (S_assign rfl (.tmp rfl)) ?_
      refine AL_nil ?_
      refine AC_ret ?_
      refine ret_tmp st rfl rfl (Sub.l (List.Sublist.refl _)) (Conv.refl (Sub.l (List.Sublist.refl _)) _) ⟨rfl, rfl⟩ (.inl rfl)
    exfalso; simp at hb11
  try simp only [zA, zO, zN, zM, zP, zQ, zD, zF, gd] at hb10
  refine AC_region ?_
  refine AL_p rfl rfl (S_eql rfl (.tmp rfl) (AEv.const _)) ?_
  refine AL_p rfl rfl (S_assign rfl (.tmp rfl)) ?_
  refine AL_nil ?_
  refine AC_cond (.tmp rfl) (fun hb12 => ?_) (fun hb12 => ?_)
  · try simp only [zA, zO, zN, zM, zP, zQ, zD, zF, gd] at hb12
    have hk : k = 10 := hb12
    subst hk
    refine AC_seq ?_
    refine AC_region ?_
    refine AL_p rfl rfl (S_buildSlice (e := 9) 1 rfl (AEvs.cons (AEv.S _) AEvs.nil) rfl (by kernel_rfl) (by kernel_rfl) (by intro y hy; simp only [List.mem_cons, List.not_mem_nil, or_false] at hy; rcases hy with rfl <;> exact ⟨rfl, rfl⟩) (by decide) (by decide) (by decide)) ?_
    refine AL_p rfl rfl (S_assign rfl (.tmp rfl)) ?_
    refine AL_nil ?_
    refine AC_ret ?_
    refine ret_tmp st rfl rfl (Sub.l (List.Sublist.refl _)) (Conv.refl (Sub.l (List.Sublist.refl _)) _) ⟨rfl, rfl⟩ (.inl rfl)
  try simp only [zA, zO, zN, zM, zP, zQ, zD, zF, gd] at hb12
  refine AC_seq ?_
  refine AC_region ?_
  refine AL_p rfl rfl (S_eql rfl (.tmp rfl) (AEv.const _)) ?_
  refine AL_p rfl rfl (S_assign rfl (.tmp rfl)) ?_
  refine AL_nil ?_
  refine AC_cond (.tmp rfl) (fun hb13 => ?_) (fun hb13 => ?_)
  · try simp only [zA, zO, zN, zM, zP, zQ, zD, zF, gd] at hb13
    have hk : k = 9 := hb13
    subst hk
    refine AC_seq ?_
    refine AC_region ?_
    refine AL_p rfl rfl (S_buildSlice (e := 9) 1 rfl (AEvs.cons (AEv.S _) AEvs.nil) rfl (by kernel_rfl) (by kernel_rfl) (by intro y hy; simp only [List.mem_cons, List.not_mem_nil, or_false] at hy; rcases hy with rfl <;> exact ⟨rfl, rfl⟩) (by decide) (by decide) (by decide)) ?_
    refine AL_p rfl rfl (S_assign rfl (.tmp rfl)) ?_
    refine AL_nil ?_
    refine AC_ret ?_
    refine ret_tmp st rfl rfl (Sub.l (List.Sublist.refl _)) (Conv.refl (Sub.l (List.Sublist.refl _)) _) ⟨rfl, rfl⟩ (.inl rfl)
  try simp only [zA, zO, zN, zM, zP, zQ, zD, zF, gd] at hb13
  refine AC_seq ?_
  refine AC_region ?_
  refine AL_p rfl rfl (S_eql rfl (.tmp rfl) (AEv.const _)) ?_
  refine AL_p rfl rfl (S_assign rfl (.tmp rfl)) ?_
  refine AL_nil ?_
  refine AC_cond (.tmp rfl) (fun hb14 => ?_) (fun hb14 => ?_)
  · try simp only [zA, zO, zN, zM, zP, zQ, zD, zF, gd] at hb14
    have hk : k = 11 := hb14
    subst hk
    refine AC_seq ?_
    refine AC_region ?_
    refine AL_p rfl rfl (S_buildSlice (e := 9) 1 rfl (AEvs.cons (AEv.S _) (AEvs.cons (AEv.S _) AEvs.nil)) rfl (by kernel_rfl) (by kernel_rfl) (by intro y hy; simp only [List.mem_cons, List.not_mem_nil, or_false] at hy; rcases hy with rfl | rfl <;> exact ⟨rfl, rfl⟩) (by decide) (by decide) (by decide)) ?_
    refine AL_p rfl rfl (S_assign rfl (.tmp rfl)) ?_
    refine AL_nil ?_
    refine AC_ret ?_
    refine ret_tmp st rfl rfl (Sub.l (List.Sublist.refl _)) (Conv.refl (Sub.l (List.Sublist.refl _)) _) ⟨rfl, rfl⟩ (.inl rfl)
  try simp only [zA, zO, zN, zM, zP, zQ, zD, zF, gd] at hb14
  have hx : fieldsN k.toNat = [] := by unfold fieldsN; rw [kind_out (by omega)]; rfl
  refine AC_skip ?_
  refine AC_seq ?_
  refine AC_region ?_
  refine AL_p rfl rfl (S_assign rfl (AEv.const _)) ?_
  refine AL_nil ?_
  refine AC_ret ?_
  refine ret_tmp st rfl rfl (Sub.l (List.Sublist.refl _)) (Conv.le (Sub.l (List.Sublist.refl _)) Le.nils) ⟨by rw [hx] <;> rfl, rfl⟩ (.inl rfl)

set_option maxRecDepth 100000 in
/-- provost/provostref08.has -/
theorem ref08_has_ok (l : List (List UInt8)) (s : List UInt8) (hl : l.length ≤ 1000000) : PCalls Tryz.prog 31 [.sl (strsV l), .S s] (.bool (decide (s ∈ l))) := by
  intro st
  refine ACalls_of (N := 18) Tryz.func31 (by kernel_rfl) rfl rfl rfl ?_
  refine AC_seq ?_
  refine AC_region ?_
  refine AL_p rfl rfl (S_assign rfl (AEv.const _)) ?_
  refine AL_nil ?_
  refine AC_seq ?_
  refine AC_seq ?_
  refine AC_region ?_
  refine AL_p rfl rfl (S_assign rfl (AEv.const _)) ?_
  refine AL_nil ?_
  refine AC_block ?_
  refine AC_loopK (G := Nat) [(0, _), (1, _)] (fun g => g ≤ l.length ∧ ∀ j (h : j < l.length), j < g → ¬ (l[j]'h) = s) (fun g => [(5, .int .i64 (g : Int))]) (fun g => st) (fun g => l.length - g) (0) (⟨Nat.zero_le _, fun j _ h => absurd h (Nat.not_lt_zero _)⟩) (Sub.l (List.Sublist.refl _)) (.cons rfl (Le.refl _) (.cons rfl (Le.refl _) .nil)) (.cons rfl (by first | exact Le.refl _ | exact Le.nils | exact Le.row _ _ _ _ | exact Le.of_eq (by first | rfl | (simp; done) | (push_cast; rfl) | (simp; omega))) .nil) ?_
  rintro i ⟨hi, hall⟩
  try dsimp only
  simp only [List.cons_append, List.nil_append]
  refine AC_seq ?_
  refine AC_seq ?_
  refine AC_region ?_
  refine AL_p rfl rfl (S_move rfl (.tmp rfl)) ?_
  refine AL_p rfl rfl (S_move rfl (.tmp rfl)) ?_
  refine AL_p rfl rfl (by first | exact S_lenM (e := 9) rfl (.tmp rfl) (by kernel_rfl) | exact S_len (e := 9) rfl (.tmp rfl) (by kernel_rfl)) ?_
  refine AL_p rfl rfl (S_lss rfl (.tmp rfl) (.tmp rfl)) ?_
  refine AL_nil ?_
  refine AC_cond (.tmp rfl) (fun hb1 => ?_) (fun hb1 => ?_)
  · try simp only [zA, zO, zN, zM, zP, zQ, zD, zF, gd] at hb1
    have hil : i < l.length := by first | omega | (have h9 := hb1; simp [strsV] at h9; omega)
    refine AC_skip ?_
    refine AC_seq ?_
    refine AC_block ?_
    refine AC_seq ?_
    refine AC_region ?_
    refine AL_p rfl rfl (S_move rfl (.tmp rfl)) ?_
    refine AL_p rfl rfl (S_move rfl (.tmp rfl)) ?_
    refine AL_p rfl rfl (S_elemN (e := 9) 1 rfl (.tmp rfl) (.tmp rfl) (by kernel_rfl) (by kernel_rfl) (by omega) (fun _ => rfl)) ?_
    refine AL_p rfl rfl (S_loadP rfl (.tmp rfl) rfl (by kernel_rfl)) ?_
    refine AL_p rfl rfl (S_move rfl (.tmp rfl)) ?_
    refine AL_p rfl rfl (S_eqS rfl (.tmp rfl) (.tmp rfl)) ?_
    refine AL_nil ?_
    refine AC_cond (.tmp rfl) (fun hb2 => ?_) (fun hb2 => ?_)
    · try simp only [zA, zO, zN, zM, zP, zQ, zD, zF, gd] at hb2
      have hx : s ∈ l := by rw [← hb2]; exact List.getElem_mem hil
      refine AC_seq ?_
      refine AC_region ?_
      refine AL_p rfl rfl (S_assign rfl (AEv.const _)) ?_
      refine AL_nil ?_
      refine AC_ret ?_
      refine ret_tmp st rfl rfl (Sub.l (List.Sublist.refl _)) (Conv.refl (Sub.l (List.Sublist.refl _)) _) ⟨by rw [decide_eq_true hx], rfl⟩ (.inl rfl)
    try simp only [zA, zO, zN, zM, zP, zQ, zD, zF, gd] at hb2
    have hne : ¬ l[i] = s := hb2
    refine AC_skip ?_
    refine AC_region ?_
    refine AL_p rfl rfl (S_move rfl (.tmp rfl)) ?_
    refine AL_p rfl rfl (S_addI rfl (.tmp rfl) (AEv.const _) (by omega) (by omega)) ?_
    refine AL_p rfl rfl (S_assign rfl (.tmp rfl)) ?_
    refine AL_nil ?_
    refine ⟨i + 1, ⟨by omega, fun j h1 h => ?_⟩, by omega, (Sub.l (List.Sublist.refl _)), (.cons rfl (by first | exact Le.refl _ | exact Le.nils | exact Le.row _ _ _ _ | exact Le.of_eq (by first | rfl | (simp; done) | (push_cast; rfl) | (simp; omega))) .nil), (.cons rfl (Le.refl _) (.cons rfl (Le.refl _) .nil))⟩
    rcases Nat.lt_or_ge j i with h' | h'
    · exact hall j h1 h'
    · have : j = i := by omega
      subst this
      exact hne
  try simp only [zA, zO, zN, zM, zP, zQ, zD, zF, gd] at hb1
  have hig : l.length ≤ i := by first | omega | (have h9 := hb1; simp [strsV] at h9; omega)
  have hx : ¬ s ∈ l := fun h => by obtain ⟨j, hj, he⟩ := List.getElem_of_mem h; exact hall j hj (by omega) he
  refine AC_exit ?_
  refine AC_seq ?_
  refine AC_region ?_
  refine AL_p rfl rfl (S_assign rfl (AEv.const _)) ?_
  refine AL_nil ?_
  refine AC_ret ?_
  refine ret_tmp st rfl rfl (Sub.l (List.Sublist.refl _)) (Conv.refl (Sub.l (List.Sublist.refl _)) _) ⟨by rw [decide_eq_false hx], rfl⟩ (.inl rfl)

set_option maxRecDepth 100000 in
/-- provost/provostref08.bounds -/
theorem ref08_bounds_ok (x : Cal) (w : List UInt8) : PCalls Tryz.prog 28 [calAV x, .S w] (.tup [.int .i64 (boundsA x w).1, .int .i64 (boundsA x w).2.1, .int .i64 (boundsA x w).2.2]) := by
  intro st
  refine ACalls_of (N := 28) Tryz.func28 (by kernel_rfl) rfl rfl rfl ?_
  refine AC_seq ?_
  refine AC_region ?_
  refine AL_step rfl rfl (S_box rfl (.tmp rfl)) ?_
  rintro _ _ ⟨b2, rfl, rfl⟩
  refine AL_p rfl rfl (S_assign rfl (AEv.const _)) ?_
  refine AL_p rfl rfl (S_assign rfl (AEv.const _)) ?_
  refine AL_p rfl rfl (S_assign rfl (AEv.const _)) ?_
  refine AL_nil ?_
  refine AC_seq ?_
  refine AC_seq ?_
  refine AC_region ?_
  refine AL_p rfl rfl (S_move rfl (.tmp rfl)) ?_
  refine AL_nil ?_
  refine AC_block ?_
  refine AC_seq ?_
  refine AC_region ?_
  refine AL_p rfl rfl (S_eqS rfl (.tmp rfl) (AEv.S _)) ?_
  refine AL_p rfl rfl (S_assign rfl (.tmp rfl)) ?_
  refine AL_nil ?_
  refine AC_cond (.tmp rfl) (fun hb2 => ?_) (fun hb2 => ?_)
  · try simp only [zA, zO, zN, zM, zP, zQ, zD, zF, gd] at hb2
    have hx : boundsA x w = (x.uid, 1, 1073741824) := (if_pos hb2)
    refine AC_seq ?_
    refine AC_region ?_
    refine AL_p rfl rfl (S_field 1 rfl (.tmp rfl) (by kernel_rfl)) ?_
    refine AL_p rfl rfl (S_load 0 rfl (.tmp rfl) rfl rfl (by kernel_rfl)) ?_
    refine AL_p rfl rfl (S_assign rfl (.tmp rfl)) ?_
    refine AL_p rfl rfl (S_assign rfl (AEv.const _)) ?_
    refine AL_p rfl rfl (S_assign rfl (AEv.const _)) ?_
    refine AL_nil ?_
    refine AC_ret ?_
    refine ret_tmps (ts := [4, 5, 6]) st rfl (by decide) rfl (Sub.l (List.sublist_cons_self _ _)) (Conv.refl (Sub.l (List.sublist_cons_self _ _)) _) ⟨by rw [hx], rfl⟩ (.inl rfl)
  try simp only [zA, zO, zN, zM, zP, zQ, zD, zF, gd] at hb2
  have hn8 : ¬ w = uidN := hb2
  refine AC_seq ?_
  refine AC_region ?_
  refine AL_p rfl rfl (S_eqS rfl (.tmp rfl) (AEv.S _)) ?_
  refine AL_p rfl rfl (S_assign rfl (.tmp rfl)) ?_
  refine AL_nil ?_
  refine AC_cond (.tmp rfl) (fun hb3 => ?_) (fun hb3 => ?_)
  · try simp only [zA, zO, zN, zM, zP, zQ, zD, zF, gd] at hb3
    have hx : boundsA x w = (x.id, 1, 1073741824) := ((if_neg hn8).trans (if_pos hb3))
    refine AC_seq ?_
    refine AC_region ?_
    refine AL_p rfl rfl (S_field 12 rfl (.tmp rfl) (by kernel_rfl)) ?_
    refine AL_p rfl rfl (S_load 0 rfl (.tmp rfl) rfl rfl (by kernel_rfl)) ?_
    refine AL_p rfl rfl (S_assign rfl (.tmp rfl)) ?_
    refine AL_p rfl rfl (S_assign rfl (AEv.const _)) ?_
    refine AL_p rfl rfl (S_assign rfl (AEv.const _)) ?_
    refine AL_nil ?_
    refine AC_ret ?_
    refine ret_tmps (ts := [4, 5, 6]) st rfl (by decide) rfl (Sub.l (List.sublist_cons_self _ _)) (Conv.refl (Sub.l (List.sublist_cons_self _ _)) _) ⟨by rw [hx], rfl⟩ (.inl rfl)
  try simp only [zA, zO, zN, zM, zP, zQ, zD, zF, gd] at hb3
  have hn12 : ¬ w = idN := hb3
  refine AC_seq ?_
  refine AC_region ?_
  refine AL_p rfl rfl (S_eqS rfl (.tmp rfl) (AEv.S _)) ?_
  refine AL_p rfl rfl (S_assign rfl (.tmp rfl)) ?_
  refine AL_nil ?_
  refine AC_cond (.tmp rfl) (fun hb4 => ?_) (fun hb4 => ?_)
  · try simp only [zA, zO, zN, zM, zP, zQ, zD, zF, gd] at hb4
    have hx : boundsA x w = (x.grace, 0, 1000) := ((if_neg hn8).trans ((if_neg hn12).trans (if_pos hb4)))
    refine AC_seq ?_
    refine AC_region ?_
    refine AL_p rfl rfl (S_field 10 rfl (.tmp rfl) (by kernel_rfl)) ?_
    refine AL_p rfl rfl (S_load 0 rfl (.tmp rfl) rfl rfl (by kernel_rfl)) ?_
    refine AL_p rfl rfl (S_assign rfl (.tmp rfl)) ?_
    refine AL_p rfl rfl (S_assign rfl (AEv.const _)) ?_
    refine AL_p rfl rfl (S_assign rfl (AEv.const _)) ?_
    refine AL_nil ?_
    refine AC_ret ?_
    refine ret_tmps (ts := [4, 5, 6]) st rfl (by decide) rfl (Sub.l (List.sublist_cons_self _ _)) (Conv.refl (Sub.l (List.sublist_cons_self _ _)) _) ⟨by rw [hx], rfl⟩ (.inl rfl)
  try simp only [zA, zO, zN, zM, zP, zQ, zD, zF, gd] at hb4
  have hn16 : ¬ w = grcN := hb4
  refine AC_seq ?_
  refine AC_region ?_
  refine AL_p rfl rfl (S_eqS rfl (.tmp rfl) (AEv.S _)) ?_
  refine AL_p rfl rfl (S_assign rfl (.tmp rfl)) ?_
  refine AL_nil ?_
  refine AC_cond (.tmp rfl) (fun hb5 => ?_) (fun hb5 => ?_)
  · try simp only [zA, zO, zN, zM, zP, zQ, zD, zF, gd] at hb5
    have hx : boundsA x w = (x.ctr, 0, 3) := ((if_neg hn8).trans ((if_neg hn12).trans ((if_neg hn16).trans (if_pos hb5))))
    refine AC_seq ?_
    refine AC_region ?_
    refine AL_p rfl rfl (S_field 11 rfl (.tmp rfl) (by kernel_rfl)) ?_
    refine AL_p rfl rfl (S_load 0 rfl (.tmp rfl) rfl rfl (by kernel_rfl)) ?_
    refine AL_p rfl rfl (S_assign rfl (.tmp rfl)) ?_
    refine AL_p rfl rfl (S_assign rfl (AEv.const _)) ?_
    refine AL_p rfl rfl (S_assign rfl (AEv.const _)) ?_
    refine AL_nil ?_
    refine AC_ret ?_
    refine ret_tmps (ts := [4, 5, 6]) st rfl (by decide) rfl (Sub.l (List.sublist_cons_self _ _)) (Conv.refl (Sub.l (List.sublist_cons_self _ _)) _) ⟨by rw [hx], rfl⟩ (.inl rfl)
  try simp only [zA, zO, zN, zM, zP, zQ, zD, zF, gd] at hb5
  have hn20 : ¬ w = cnN := hb5
  refine AC_seq ?_
  refine AC_region ?_
  refine AL_p rfl rfl (S_eqS rfl (.tmp rfl) (AEv.S _)) ?_
  refine AL_p rfl rfl (S_assign rfl (.tmp rfl)) ?_
  refine AL_nil ?_
  refine AC_cond (.tmp rfl) (fun hb6 => ?_) (fun hb6 => ?_)
  · try simp only [zA, zO, zN, zM, zP, zQ, zD, zF, gd] at hb6
    have hx : boundsA x w = (x.most, 1, 32) := ((if_neg hn8).trans ((if_neg hn12).trans ((if_neg hn16).trans ((if_neg hn20).trans (if_pos hb6)))))
    refine AC_seq ?_
    refine AC_region ?_
    refine AL_p rfl rfl (S_field 13 rfl (.tmp rfl) (by kernel_rfl)) ?_
    refine AL_p rfl rfl (S_load 0 rfl (.tmp rfl) rfl rfl (by kernel_rfl)) ?_
    refine AL_p rfl rfl (S_assign rfl (.tmp rfl)) ?_
    refine AL_p rfl rfl (S_assign rfl (AEv.const _)) ?_
    refine AL_p rfl rfl (S_assign rfl (AEv.const _)) ?_
    refine AL_nil ?_
    refine AC_ret ?_
    refine ret_tmps (ts := [4, 5, 6]) st rfl (by decide) rfl (Sub.l (List.sublist_cons_self _ _)) (Conv.refl (Sub.l (List.sublist_cons_self _ _)) _) ⟨by rw [hx], rfl⟩ (.inl rfl)
  try simp only [zA, zO, zN, zM, zP, zQ, zD, zF, gd] at hb6
  have hn24 : ¬ w = mstN := hb6
  have hx : boundsA x w = (0, 0, 0) := ((if_neg hn8).trans ((if_neg hn12).trans ((if_neg hn16).trans ((if_neg hn20).trans (if_neg hn24)))))
  refine AC_skip ?_
  refine AC_seq ?_
  refine AC_region ?_
  refine AL_p rfl rfl (S_assign rfl (AEv.const _)) ?_
  refine AL_p rfl rfl (S_assign rfl (AEv.const _)) ?_
  refine AL_p rfl rfl (S_assign rfl (AEv.const _)) ?_
  refine AL_nil ?_
  refine AC_ret ?_
  refine ret_tmps (ts := [4, 5, 6]) st rfl (by decide) rfl (Sub.l (List.sublist_cons_self _ _)) (Conv.refl (Sub.l (List.sublist_cons_self _ _)) _) ⟨by rw [hx], rfl⟩ (.inl rfl)

set_option maxRecDepth 100000 in
set_option maxHeartbeats 4000000 in
/-- provost/provostref08.Check -/
theorem ref08_Check_ok (x : Cal) (hl : lightA x = true) : PCalls Tryz.prog 11 [calAV x] (cpAV (checkA x)) := by
  intro st
  refine ACalls_of (N := 213) Tryz.func11 (by kernel_rfl) rfl rfl rfl ?_
  have hfw := fields_few x.kind.toNat
  have hfl := fieldsN_few x.kind.toNat
  have hsh := (check_short (lightA_spec hl)).text
  refine AC_seq ?_
  refine AC_region ?_
  refine AL_step rfl rfl (S_box rfl (.tmp rfl)) ?_
  rintro _ _ ⟨b1, rfl, rfl⟩
  refine AL_p rfl rfl (S_assign rfl (AEv.const _)) ?_
  refine AL_p rfl rfl (S_assign rfl (AEv.S _)) ?_
  refine AL_nil ?_
  refine AC_seq ?_
  refine AC_seq ?_
  refine AC_region ?_
  refine AL_p rfl rfl (S_field 0 rfl (.tmp rfl) (by kernel_rfl)) ?_
  refine AL_p rfl rfl (S_load 0 rfl (.tmp rfl) rfl rfl (by kernel_rfl)) ?_
  refine AL_p rfl rfl (S_lss rfl (.tmp rfl) (AEv.const _)) ?_
  refine AL_p rfl rfl (S_move rfl (.tmp rfl)) ?_
  refine AL_g rfl rfl (.tmp rfl) rfl (fun hg2 => S_field 0 rfl (.tmp rfl) (by kernel_rfl)) ?_
  refine AL_g rfl rfl (.tmp rfl) rfl (fun hg5 => S_load 0 rfl (AEv.cond (.tmp rfl) (by first | assumption | exact gdAnd (by assumption) (by assumption))) rfl rfl (by kernel_rfl)) ?_
  refine AL_g rfl rfl (.tmp rfl) rfl (fun hg8 => S_gtr rfl (AEv.cond (.tmp rfl) (by first | assumption | exact gdAnd (by assumption) (by assumption))) (AEv.const _)) ?_
  refine AL_p rfl rfl (S_or rfl (.tmp rfl) (fun hp11 => (AEv.cond (.tmp rfl) (by first | assumption | exact gdT hp11 | exact gdF hp11 | exact gdAnd (by assumption) (gdT hp11) | exact gdAnd (by assumption) (gdF hp11))))) ?_
  refine AL_nil ?_
  refine AC_cond (.tmp rfl) (fun hb12 => ?_) (fun hb12 => ?_)
  · try simp only [zA, zO, zN, zM, zP, zQ, zD, zF, gd] at hb12
    have hx : checkA x = some (80, [kindN]) := check_kind (by omega)
    refine AC_seq ?_
    refine AC_region ?_
    refine AL_p rfl rfl (S_assign rfl (AEv.const _)) ?_
    refine AL_p rfl rfl (S_assign rfl (AEv.S _)) ?_
    refine AL_nil ?_
    refine AC_ret ?_
    refine ret_tmps (ts := [2, 3]) st rfl (by decide) rfl (Sub.l (List.sublist_cons_self _ _)) (Conv.refl (Sub.l (List.sublist_cons_self _ _)) _) ⟨cp_some hx (Lib.join_one _ _).symm, rfl⟩ (.inl rfl)
  try simp only [zA, zO, zN, zM, zP, zQ, zD, zF, gd] at hb12
  have hk : 1 ≤ x.kind ∧ x.kind < 13 := by omega
  refine AC_skip ?_
  refine AC_seq ?_
  refine AC_region ?_
  refine AL_p rfl rfl (S_field 0 rfl (.tmp rfl) (by kernel_rfl)) ?_
  refine AL_p rfl rfl (S_load 0 rfl (.tmp rfl) rfl rfl (by kernel_rfl)) ?_
  refine AL_p rfl rfl (S_pcall rfl (AEvs.cons (.tmp rfl) AEvs.nil) (ref08_Fields_ok x.kind)) ?_
  refine AL_p rfl rfl (S_assign rfl (.tmp rfl)) ?_
  refine AL_nil ?_
  refine AC_seq ?_
  refine AC_seq ?_
  refine AC_region ?_
  refine AL_p rfl rfl (S_assign rfl (AEv.const _)) ?_
  refine AL_nil ?_
  refine AC_block ?_
  refine AC_loopK (G := Nat) [(1, _), (4, _)] (fun g => g ≤ (kindA x.kind.toNat).2.length ∧ ∀ j (h : j < (kindA x.kind.toNat).2.length), j < g → fieldE x ((kindA x.kind.toNat).2[j]'h) = none) (fun g => [(5, .int .i64 (g : Int))]) (fun g => (b1, .cells (calL x)) :: st) (fun g => (kindA x.kind.toNat).2.length - g) (0) (⟨Nat.zero_le _, fun j _ h => absurd h (Nat.not_lt_zero _)⟩) (Sub.l (List.Sublist.refl _)) (.cons rfl (Le.refl _) (.cons rfl (Le.refl _) .nil)) (.cons rfl (by first | exact Le.refl _ | exact Le.nils | exact Le.row _ _ _ _ | exact Le.of_eq (by first | rfl | (simp; done) | (push_cast; rfl) | (simp; omega))) .nil) ?_
  rintro i ⟨hi, hall⟩
  try dsimp only
  simp only [List.cons_append, List.nil_append]
  refine AC_seq ?_
  refine AC_seq ?_
  refine AC_region ?_
  refine AL_p rfl rfl (S_move rfl (.tmp rfl)) ?_
  refine AL_p rfl rfl (S_move rfl (.tmp rfl)) ?_
  refine AL_p rfl rfl (by first | exact S_lenM (e := 9) rfl (.tmp rfl) (by kernel_rfl) | exact S_len (e := 9) rfl (.tmp rfl) (by kernel_rfl)) ?_
  refine AL_p rfl rfl (S_lss rfl (.tmp rfl) (.tmp rfl)) ?_
  refine AL_nil ?_
  refine AC_cond (.tmp rfl) (fun hb13 => ?_) (fun hb13 => ?_)
  · try simp only [zA, zO, zN, zM, zP, zQ, zD, zF, gd] at hb13
    have hil : i < (fieldsN x.kind.toNat).length := by first | omega | (have h9 := hb13; simp [strsV] at h9; simpa using h9)
    have hif : i < (kindA x.kind.toNat).2.length := by rw [List.length_map] at hil; exact hil
    have hfi : (fieldsN x.kind.toNat)[i]'hil = fname ((kindA x.kind.toNat).2[i]'hif) := List.getElem_map _
    refine AC_skip ?_
    refine AC_seq ?_
    refine AC_block ?_
    refine AC_seq ?_
    refine AC_region ?_
    refine AL_p rfl rfl (S_move rfl (.tmp rfl)) ?_
    refine AL_p rfl rfl (S_move rfl (.tmp rfl)) ?_
    refine AL_p rfl rfl (S_elemN (e := 9) 1 rfl (.tmp rfl) (.tmp rfl) (by kernel_rfl) (by kernel_rfl) (by omega) (fun _ => rfl)) ?_
    refine AL_p rfl rfl (S_loadP rfl (.tmp rfl) rfl (by kernel_rfl)) ?_
    rw [hfi]
    refine AL_p rfl rfl (S_assign rfl (.tmp rfl)) ?_
    refine AL_nil ?_
    refine AC_seq ?_
    refine AC_region ?_
    refine AL_p rfl rfl (S_loadN (m := 16) 0 rfl (.tmp rfl) rfl (by kernel_rfl) (by first | exact Nat.le_of_ble_eq_true rfl | (simp; omega) | simp)) ?_
    refine AL_p rfl rfl (S_move rfl (.tmp rfl)) ?_
    refine AL_p rfl rfl (S_pcall rfl (AEvs.cons (.tmp rfl) (AEvs.cons (.tmp rfl) AEvs.nil)) (ref08_bounds_ok x (fname ((kindA x.kind.toNat).2[i]'hif)))) ?_
    refine AL_p rfl rfl (S_move rfl (.tmp rfl)) ?_
    refine AL_p rfl rfl (S_extract 0 rfl (.tmp rfl) rfl) ?_
    refine AL_p rfl rfl (S_extract 1 rfl (.tmp rfl) rfl) ?_
    refine AL_p rfl rfl (S_extract 2 rfl (.tmp rfl) rfl) ?_
    refine AL_p rfl rfl (S_assign rfl (.tmp rfl)) ?_
    refine AL_p rfl rfl (S_assign rfl (.tmp rfl)) ?_
    refine AL_p rfl rfl (S_assign rfl (.tmp rfl)) ?_
    refine AL_nil ?_
    refine AC_seq ?_
    refine AC_seq ?_
    refine AC_region ?_
    refine AL_p rfl rfl (S_move rfl (.tmp rfl)) ?_
    refine AL_p rfl rfl (S_move rfl (.tmp rfl)) ?_
    refine AL_p rfl rfl (S_lss rfl (.tmp rfl) (.tmp rfl)) ?_
    refine AL_p rfl rfl (S_move rfl (.tmp rfl)) ?_
    refine AL_g rfl rfl (.tmp rfl) rfl (fun hg14 => S_move rfl (.tmp rfl)) ?_
    refine AL_g rfl rfl (.tmp rfl) rfl (fun hg17 => S_move rfl (.tmp rfl)) ?_
    refine AL_g rfl rfl (.tmp rfl) rfl (fun hg20 => S_gtr rfl (AEv.cond (.tmp rfl) (by first | assumption | exact gdAnd (by assumption) (by assumption))) (AEv.cond (.tmp rfl) (by first | assumption | exact gdAnd (by assumption) (by assumption)))) ?_
    refine AL_p rfl rfl (S_or rfl (.tmp rfl) (fun hp23 => (AEv.cond (.tmp rfl) (by first | assumption | exact gdT hp23 | exact gdF hp23 | exact gdAnd (by assumption) (gdT hp23) | exact gdAnd (by assumption) (gdF hp23))))) ?_
    refine AL_nil ?_
    refine AC_cond (.tmp rfl) (fun hb24 => ?_) (fun hb24 => ?_)
    · try simp only [zA, zO, zN, zM, zP, zQ, zD, zF, gd] at hb24
      have hfe := chk_out (kind_letters _ _ (List.getElem_mem hif)) hb24
      have hx := (check_field hk hif hall (by rw [hfe]; simp)).trans hfe
      refine AC_seq ?_
      refine AC_region ?_
      refine AL_p rfl rfl (S_move rfl (.tmp rfl)) ?_
      refine AL_p rfl rfl (S_assign rfl (AEv.const _)) ?_
      refine AL_p rfl rfl (S_assign rfl (.tmp rfl)) ?_
      refine AL_nil ?_
      refine AC_ret ?_
      refine ret_tmps (ts := [2, 3]) st rfl (by decide) rfl (Sub.l (List.sublist_cons_self _ _)) (Conv.refl (Sub.l (List.sublist_cons_self _ _)) _) ⟨cp_some hx (Lib.join_one _ _).symm, rfl⟩ (.inl rfl)
    try simp only [zA, zO, zN, zM, zP, zQ, zD, zF, gd] at hb24
    have hnb : ¬ ((boundsA x (fname ((kindA x.kind.toNat).2[i]'hif))).1 < (boundsA x (fname ((kindA x.kind.toNat).2[i]'hif))).2.1 ∨ (boundsA x (fname ((kindA x.kind.toNat).2[i]'hif))).2.2 < (boundsA x (fname ((kindA x.kind.toNat).2[i]'hif))).1) := by omega
    refine AC_skip ?_
    refine AC_seq ?_
    refine AC_seq ?_
    refine AC_region ?_
    refine AL_p rfl rfl (S_move rfl (.tmp rfl)) ?_
    refine AL_p rfl rfl (S_eqS rfl (.tmp rfl) (AEv.S _)) ?_
    refine AL_p rfl rfl (S_move rfl (.tmp rfl)) ?_
    refine AL_g rfl rfl (.tmp rfl) rfl (fun hg25 => S_field 14 rfl (.tmp rfl) (by kernel_rfl)) ?_
    refine AL_g rfl rfl (.tmp rfl) rfl (fun hg28 => S_load 0 rfl (AEv.cond (.tmp rfl) (by first | assumption | exact gdAnd (by assumption) (by assumption))) rfl rfl (by kernel_rfl)) ?_
    refine AL_g rfl rfl (.tmp rfl) rfl (fun hg31 => S_lenS (ts := #[]) rfl (AEv.cond (.tmp rfl) (by first | assumption | exact gdAnd (by assumption) (by assumption))) (by kernel_rfl)) ?_
    refine AL_g rfl rfl (.tmp rfl) rfl (fun hg34 => S_gtr rfl (AEv.cond (.tmp rfl) (by first | assumption | exact gdAnd (by assumption) (by assumption))) (AEv.const _)) ?_
    refine AL_p rfl rfl (S_and rfl (.tmp rfl) (fun hp37 => (AEv.cond (.tmp rfl) (by first | assumption | exact gdT hp37 | exact gdF hp37 | exact gdAnd (by assumption) (gdT hp37) | exact gdAnd (by assumption) (gdF hp37))))) ?_
    refine AL_nil ?_
    refine AC_cond (.tmp rfl) (fun hb38 => ?_) (fun hb38 => ?_)
    · try simp only [zA, zO, zN, zM, zP, zQ, zD, zF, gd] at hb38
      have hfe := chk_data (x := x) (kind_letters _ _ (List.getElem_mem hif)) hb38.1 hb38.2
      have hx := (check_field hk hif hall (by rw [hfe]; simp)).trans hfe
      refine AC_seq ?_
      refine AC_region ?_
      refine AL_p rfl rfl (S_move rfl (.tmp rfl)) ?_
      refine AL_p rfl rfl (S_assign rfl (AEv.const _)) ?_
      refine AL_p rfl rfl (S_assign rfl (.tmp rfl)) ?_
      refine AL_nil ?_
      refine AC_ret ?_
      refine ret_tmps (ts := [2, 3]) st rfl (by decide) rfl (Sub.l (List.sublist_cons_self _ _)) (Conv.refl (Sub.l (List.sublist_cons_self _ _)) _) ⟨cp_some hx (Lib.join_one _ _).symm, rfl⟩ (.inl rfl)
    try simp only [zA, zO, zN, zM, zP, zQ, zD, zF, gd] at hb38
    have hnd : ¬ (fname ((kindA x.kind.toNat).2[i]'hif) = datN ∧ 32 < (x.data.length : Int)) := fun h => hb38.elim (fun h9 => h9 h.1) fun h9 => h9 h.2
    refine AC_skip ?_
    refine AC_seq ?_
    refine AC_seq ?_
    refine AC_region ?_
    refine AL_p rfl rfl (S_move rfl (.tmp rfl)) ?_
    refine AL_p rfl rfl (S_eqS rfl (.tmp rfl) (AEv.S _)) ?_
    refine AL_nil ?_
    refine AC_cond (.tmp rfl) (fun hb39 => ?_) (fun hb39 => ?_)
    · try simp only [zA, zO, zN, zM, zP, zQ, zD, zF, gd] at hb39
      have h115 := chk_spec (kind_letters _ _ (List.getElem_mem hif)) hb39
      refine AC_seq ?_
      refine AC_region ?_
      refine AL_p rfl rfl (S_field 3 rfl (.tmp rfl) (by kernel_rfl)) ?_
      refine AL_p rfl rfl (S_loadN (m := 7) 0 rfl (.tmp rfl) rfl (by kernel_rfl) (by first | exact Nat.le_of_ble_eq_true rfl | (simp; omega) | simp)) ?_
      refine AL_p rfl rfl (S_pcall rfl (AEvs.cons (.tmp rfl) AEvs.nil) (ref06_Check_ok x.spec (lightA_spec hl))) ?_
      refine AL_p rfl rfl (S_move rfl (.tmp rfl)) ?_
      refine AL_p rfl rfl (S_extract 0 rfl (.tmp rfl) rfl) ?_
      refine AL_p rfl rfl (S_extract 1 rfl (.tmp rfl) rfl) ?_
      refine AL_p rfl rfl (S_assign rfl (.tmp rfl)) ?_
      refine AL_p rfl rfl (S_assign rfl (.tmp rfl)) ?_
      refine AL_nil ?_
      refine AC_seq ?_
      refine AC_region ?_
      refine AL_p rfl rfl (S_move rfl (.tmp rfl)) ?_
      refine AL_p rfl rfl (S_neq rfl (.tmp rfl) (AEv.const _)) ?_
      refine AL_nil ?_
      refine AC_cond (.tmp rfl) (fun hb40 => ?_) (fun hb40 => ?_)
      · try simp only [zA, zO, zN, zM, zP, zQ, zD, zF, gd] at hb40
        have hne : checkE x.spec ≠ none := fun h => hb40 (congrArg erCode h)
        have hfe : fieldE x ((kindA x.kind.toNat).2[i]'hif) = erIn (checkE x.spec) spcN := by rw [h115]; rfl
        have hx := (check_field hk hif hall (by rw [hfe]; exact fun h => hne (erIn_none h))).trans hfe
        refine AC_seq ?_
        refine AC_region ?_
        refine AL_p rfl rfl (S_move rfl (.tmp rfl)) ?_
        refine AL_p rfl rfl (S_move rfl (.tmp rfl)) ?_
        refine AL_p rfl rfl (S_cat rfl (AEv.S _) (.tmp rfl) (by first | omega | (simp only [List.length_append, List.length_cons, List.length_nil]; omega))) ?_
        refine AL_p rfl rfl (S_assign rfl (.tmp rfl)) ?_
        refine AL_p rfl rfl (S_assign rfl (.tmp rfl)) ?_
        refine AL_nil ?_
        refine AC_ret ?_
        refine ret_tmps (ts := [2, 3]) st rfl (by decide) rfl (Sub.l (List.sublist_cons_self _ _)) (Conv.refl (Sub.l (List.sublist_cons_self _ _)) _) ⟨cp_in (well_check _) hne hx rfl, rfl⟩ (.inl rfl)
      try simp only [zA, zO, zN, zM, zP, zQ, zD, zF, gd] at hb40
      have h3 : fname ((kindA x.kind.toNat).2[i]'hif) = spcN → checkE x.spec = none := fun _ => (well_check _).code.1 (by simpa using hb40)
      refine AC_skip ?_
      refine AC_seq ?_
      refine AC_region ?_
      refine AL_p rfl rfl (S_move rfl (.tmp rfl)) ?_
      refine AL_p rfl rfl (S_eqS rfl (.tmp rfl) (AEv.S _)) ?_
      refine AL_nil ?_
      refine AC_cond (.tmp rfl) (fun hb41 => ?_) (fun hb41 => ?_)
      · try simp only [zA, zO, zN, zM, zP, zQ, zD, zF, gd] at hb41
        have h108 := chk_sel (kind_letters _ _ (List.getElem_mem hif)) hb41
        refine AC_seq ?_
        refine AC_region ?_
        refine AL_p rfl rfl (S_field 15 rfl (.tmp rfl) (by kernel_rfl)) ?_
        refine AL_p rfl rfl (S_load 0 rfl (.tmp rfl) rfl rfl (by kernel_rfl)) ?_
        refine AL_p rfl rfl (S_pcall rfl (AEvs.cons (AEv.S _) (AEvs.cons (.tmp rfl) AEvs.nil)) (ref06_Labels_ok slN (by decide) x.sel (fun y hy => by have := (lightA_sel hl).2 y hy; omega))) ?_
        refine AL_p rfl rfl (S_move rfl (.tmp rfl)) ?_
        refine AL_p rfl rfl (S_extract 0 rfl (.tmp rfl) rfl) ?_
        refine AL_p rfl rfl (S_extract 1 rfl (.tmp rfl) rfl) ?_
        refine AL_p rfl rfl (S_assign rfl (.tmp rfl)) ?_
        refine AL_p rfl rfl (S_assign rfl (.tmp rfl)) ?_
        refine AL_nil ?_
        refine AC_seq ?_
        refine AC_region ?_
        refine AL_p rfl rfl (S_move rfl (.tmp rfl)) ?_
        refine AL_p rfl rfl (S_neq rfl (.tmp rfl) (AEv.const _)) ?_
        refine AL_nil ?_
        refine AC_cond (.tmp rfl) (fun hb42 => ?_) (fun hb42 => ?_)
        · try simp only [zA, zO, zN, zM, zP, zQ, zD, zF, gd] at hb42
          have hne : labelsE slN x.sel ≠ none := fun h => hb42 (congrArg erCode h)
          have hfe : fieldE x ((kindA x.kind.toNat).2[i]'hif) = labelsE slN x.sel := by rw [h108]; rfl
          have hx := (check_field hk hif hall (by rw [hfe]; exact hne)).trans hfe
          refine AC_seq ?_
          refine AC_region ?_
          refine AL_p rfl rfl (S_move rfl (.tmp rfl)) ?_
          refine AL_p rfl rfl (S_move rfl (.tmp rfl)) ?_
          refine AL_p rfl rfl (S_assign rfl (.tmp rfl)) ?_
          refine AL_p rfl rfl (S_assign rfl (.tmp rfl)) ?_
          refine AL_nil ?_
          refine AC_ret ?_
          refine ret_tmps (ts := [2, 3]) st rfl (by decide) rfl (Sub.l (List.sublist_cons_self _ _)) (Conv.refl (Sub.l (List.sublist_cons_self _ _)) _) ⟨congrArg cpAV hx.symm, rfl⟩ (.inl rfl)
        try simp only [zA, zO, zN, zM, zP, zQ, zD, zF, gd] at hb42
        have h4 : fname ((kindA x.kind.toNat).2[i]'hif) = slN → labelsE slN x.sel = none := fun _ => (well_labels _ _).code.1 (by simpa using hb42)
        refine AC_skip ?_
        refine AC_region ?_
        refine AL_p rfl rfl (S_move rfl (.tmp rfl)) ?_
        refine AL_p rfl rfl (S_addI rfl (.tmp rfl) (AEv.const _) (by omega) (by omega)) ?_
        refine AL_p rfl rfl (S_assign rfl (.tmp rfl)) ?_
        refine AL_nil ?_
        refine ⟨i + 1, ⟨by omega, fun j h1 h => ?_⟩, by omega, (Sub.l (List.Sublist.refl _)), (.cons rfl (by first | exact Le.refl _ | exact Le.nils | exact Le.row _ _ _ _ | exact Le.of_eq (by first | rfl | (simp; done) | (push_cast; rfl) | (simp; omega))) .nil), (.cons rfl (Le.refl _) (.cons rfl (Le.refl _) .nil))⟩
        rcases Nat.lt_or_ge j i with h' | h'
        · exact hall j h1 h'
        · have : j = i := by omega
          subst this
          exact chk_none (kind_letters _ _ (List.getElem_mem hif)) hnb hnd h3 h4
      try simp only [zA, zO, zN, zM, zP, zQ, zD, zF, gd] at hb41
      have h4 : fname ((kindA x.kind.toNat).2[i]'hif) = slN → labelsE slN x.sel = none := fun h => absurd h hb41
      refine AC_skip ?_
      refine AC_region ?_
      refine AL_p rfl rfl (S_move rfl (.tmp rfl)) ?_
      refine AL_p rfl rfl (S_addI rfl (.tmp rfl) (AEv.const _) (by omega) (by omega)) ?_
      refine AL_p rfl rfl (S_assign rfl (.tmp rfl)) ?_
      refine AL_nil ?_
      refine ⟨i + 1, ⟨by omega, fun j h1 h => ?_⟩, by omega, (Sub.l (List.Sublist.refl _)), (.cons rfl (by first | exact Le.refl _ | exact Le.nils | exact Le.row _ _ _ _ | exact Le.of_eq (by first | rfl | (simp; done) | (push_cast; rfl) | (simp; omega))) .nil), (.cons rfl (Le.refl _) (.cons rfl (Le.refl _) .nil))⟩
      rcases Nat.lt_or_ge j i with h' | h'
      · exact hall j h1 h'
      · have : j = i := by omega
        subst this
        exact chk_none (kind_letters _ _ (List.getElem_mem hif)) hnb hnd h3 h4
    try simp only [zA, zO, zN, zM, zP, zQ, zD, zF, gd] at hb39
    have h3 : fname ((kindA x.kind.toNat).2[i]'hif) = spcN → checkE x.spec = none := fun h => absurd h hb39
    refine AC_skip ?_
    refine AC_seq ?_
    refine AC_region ?_
    refine AL_p rfl rfl (S_move rfl (.tmp rfl)) ?_
    refine AL_p rfl rfl (S_eqS rfl (.tmp rfl) (AEv.S _)) ?_
    refine AL_nil ?_
    refine AC_cond (.tmp rfl) (fun hb43 => ?_) (fun hb43 => ?_)
    · try simp only [zA, zO, zN, zM, zP, zQ, zD, zF, gd] at hb43
      have h108 := chk_sel (kind_letters _ _ (List.getElem_mem hif)) hb43
      refine AC_seq ?_
      refine AC_region ?_
      refine AL_p rfl rfl (S_field 15 rfl (.tmp rfl) (by kernel_rfl)) ?_
      refine AL_p rfl rfl (S_load 0 rfl (.tmp rfl) rfl rfl (by kernel_rfl)) ?_
      refine AL_p rfl rfl (S_pcall rfl (AEvs.cons (AEv.S _) (AEvs.cons (.tmp rfl) AEvs.nil)) (ref06_Labels_ok slN (by decide) x.sel (fun y hy => by have := (lightA_sel hl).2 y hy; omega))) ?_
      refine AL_p rfl rfl (S_move rfl (.tmp rfl)) ?_
      refine AL_p rfl rfl (S_extract 0 rfl (.tmp rfl) rfl) ?_
      refine AL_p rfl rfl (S_extract 1 rfl (.tmp rfl) rfl) ?_
      refine AL_p rfl rfl (S_assign rfl (.tmp rfl)) ?_
      refine AL_p rfl rfl (S_assign rfl (.tmp rfl)) ?_
      refine AL_nil ?_
      refine AC_seq ?_
      refine AC_region ?_
      refine AL_p rfl rfl (S_move rfl (.tmp rfl)) ?_
      refine AL_p rfl rfl (S_neq rfl (.tmp rfl) (AEv.const _)) ?_
      refine AL_nil ?_
      refine AC_cond (.tmp rfl) (fun hb44 => ?_) (fun hb44 => ?_)
      · try simp only [zA, zO, zN, zM, zP, zQ, zD, zF, gd] at hb44
        have hne : labelsE slN x.sel ≠ none := fun h => hb44 (congrArg erCode h)
        have hfe : fieldE x ((kindA x.kind.toNat).2[i]'hif) = labelsE slN x.sel := by rw [h108]; rfl
        have hx := (check_field hk hif hall (by rw [hfe]; exact hne)).trans hfe
        refine AC_seq ?_
        refine AC_region ?_
        refine AL_p rfl rfl (S_move rfl (.tmp rfl)) ?_
        refine AL_p rfl rfl (S_move rfl (.tmp rfl)) ?_
        refine AL_p rfl rfl (S_assign rfl (.tmp rfl)) ?_
        refine AL_p rfl rfl (S_assign rfl (.tmp rfl)) ?_
        refine AL_nil ?_
        refine AC_ret ?_
        refine ret_tmps (ts := [2, 3]) st rfl (by decide) rfl (Sub.l (List.sublist_cons_self _ _)) (Conv.refl (Sub.l (List.sublist_cons_self _ _)) _) ⟨congrArg cpAV hx.symm, rfl⟩ (.inl rfl)
      try simp only [zA, zO, zN, zM, zP, zQ, zD, zF, gd] at hb44
      have h4 : fname ((kindA x.kind.toNat).2[i]'hif) = slN → labelsE slN x.sel = none := fun _ => (well_labels _ _).code.1 (by simpa using hb44)
      refine AC_skip ?_
      refine AC_region ?_
      refine AL_p rfl rfl (S_move rfl (.tmp rfl)) ?_
      refine AL_p rfl rfl (S_addI rfl (.tmp rfl) (AEv.const _) (by omega) (by omega)) ?_
      refine AL_p rfl rfl (S_assign rfl (.tmp rfl)) ?_
      refine AL_nil ?_
      refine ⟨i + 1, ⟨by omega, fun j h1 h => ?_⟩, by omega, (Sub.l (List.Sublist.refl _)), (.cons rfl (by first | exact Le.refl _ | exact Le.nils | exact Le.row _ _ _ _ | exact Le.of_eq (by first | rfl | (simp; done) | (push_cast; rfl) | (simp; omega))) .nil), (.cons rfl (Le.refl _) (.cons rfl (Le.refl _) .nil))⟩
      rcases Nat.lt_or_ge j i with h' | h'
      · exact hall j h1 h'
      · have : j = i := by omega
        subst this
        exact chk_none (kind_letters _ _ (List.getElem_mem hif)) hnb hnd h3 h4
    try simp only [zA, zO, zN, zM, zP, zQ, zD, zF, gd] at hb43
    have h4 : fname ((kindA x.kind.toNat).2[i]'hif) = slN → labelsE slN x.sel = none := fun h => absurd h hb43
    refine AC_skip ?_
    refine AC_region ?_
    refine AL_p rfl rfl (S_move rfl (.tmp rfl)) ?_
    refine AL_p rfl rfl (S_addI rfl (.tmp rfl) (AEv.const _) (by omega) (by omega)) ?_
    refine AL_p rfl rfl (S_assign rfl (.tmp rfl)) ?_
    refine AL_nil ?_
    refine ⟨i + 1, ⟨by omega, fun j h1 h => ?_⟩, by omega, (Sub.l (List.Sublist.refl _)), (.cons rfl (by first | exact Le.refl _ | exact Le.nils | exact Le.row _ _ _ _ | exact Le.of_eq (by first | rfl | (simp; done) | (push_cast; rfl) | (simp; omega))) .nil), (.cons rfl (Le.refl _) (.cons rfl (Le.refl _) .nil))⟩
    rcases Nat.lt_or_ge j i with h' | h'
    · exact hall j h1 h'
    · have : j = i := by omega
      subst this
      exact chk_none (kind_letters _ _ (List.getElem_mem hif)) hnb hnd h3 h4
  try simp only [zA, zO, zN, zM, zP, zQ, zD, zF, gd] at hb13
  have hig : (kindA x.kind.toNat).2.length ≤ i := by first | omega | (have h9 := hb13; simp [strsV] at h9; simpa using h9)
  have hfn : ∀ f ∈ (kindA x.kind.toNat).2, fieldE x f = none := fun f hf => by
    obtain ⟨j, hj, rfl⟩ := List.getElem_of_mem hf
    exact hall j hj (by omega)
  refine AC_exit ?_
  refine AC_seq ?_
  refine AC_region ?_
  refine AL_p rfl rfl (S_field 3 rfl (.tmp rfl) (by kernel_rfl)) ?_
  refine AL_p rfl rfl (S_loadN (m := 7) 0 rfl (.tmp rfl) rfl (by kernel_rfl) (by first | exact Nat.le_of_ble_eq_true rfl | (simp; omega) | simp)) ?_
  refine AL_step rfl rfl (S_alloc [.string ⟨#[]⟩, .slice none 0 0, .slice none 0 0, .slice none 0 0, .int .i64 0, .int .i64 0, .int .i64 0] rfl (by kernel_rfl)) ?_
  rintro _ _ ⟨b14, rfl, rfl⟩
  refine AL_step rfl rfl (S_storeW 0 rfl (.tmp rfl) (.tmp rfl) rfl rfl rfl (by kernel_rfl)) ?_
  rintro _ _ ⟨rfl, rfl⟩
  refine AL_nil ?_
  refine AC_seq ?_
  refine AC_region ?_
  refine AL_p rfl rfl (S_field 0 rfl (.tmp rfl) (by kernel_rfl)) ?_
  refine AL_p rfl rfl (S_load 0 rfl (.tmp rfl) rfl rfl (by kernel_rfl)) ?_
  refine AL_p rfl rfl (S_eqS rfl (.tmp rfl) (AEv.S _)) ?_
  refine AL_p rfl rfl (S_move rfl (.tmp rfl)) ?_
  refine AL_g rfl rfl (.tmp rfl) rfl (fun hg46 => S_field 1 rfl (.tmp rfl) (by kernel_rfl)) ?_
  refine AL_g rfl rfl (.tmp rfl) rfl (fun hg49 => S_load 0 rfl (AEv.cond (.tmp rfl) (by first | assumption | exact gdAnd (by assumption) (by assumption))) rfl rfl (by kernel_rfl)) ?_
  refine AL_g rfl rfl (.tmp rfl) rfl (fun hg52 => by first | exact S_lenM (e := 90) rfl (AEv.cond (.tmp rfl) (by first | assumption | exact gdAnd (by assumption) (by assumption))) (by kernel_rfl) | exact S_len (e := 90) rfl (AEv.cond (.tmp rfl) (by first | assumption | exact gdAnd (by assumption) (by assumption))) (by kernel_rfl)) ?_
  refine AL_g rfl rfl (.tmp rfl) rfl (fun hg55 => S_eql rfl (AEv.cond (.tmp rfl) (by first | assumption | exact gdAnd (by assumption) (by assumption))) (AEv.const _)) ?_
  refine AL_p rfl rfl (S_and rfl (.tmp rfl) (fun hp58 => (AEv.cond (.tmp rfl) (by first | assumption | exact gdT hp58 | exact gdF hp58 | exact gdAnd (by assumption) (gdT hp58) | exact gdAnd (by assumption) (gdF hp58))))) ?_
  refine AL_p rfl rfl (S_move rfl (.tmp rfl)) ?_
  refine AL_g rfl rfl (.tmp rfl) rfl (fun hg59 => S_field 2 rfl (.tmp rfl) (by kernel_rfl)) ?_
  refine AL_g rfl rfl (.tmp rfl) rfl (fun hg62 => S_load 0 rfl (AEv.cond (.tmp rfl) (by first | assumption | exact gdAnd (by assumption) (by assumption))) rfl rfl (by kernel_rfl)) ?_
  refine AL_g rfl rfl (.tmp rfl) rfl (fun hg65 => by first | exact S_lenM (e := 114) rfl (AEv.cond (.tmp rfl) (by first | assumption | exact gdAnd (by assumption) (by assumption))) (by kernel_rfl) | exact S_len (e := 114) rfl (AEv.cond (.tmp rfl) (by first | assumption | exact gdAnd (by assumption) (by assumption))) (by kernel_rfl)) ?_
  refine AL_g rfl rfl (.tmp rfl) rfl (fun hg68 => S_eql rfl (AEv.cond (.tmp rfl) (by first | assumption | exact gdAnd (by assumption) (by assumption))) (AEv.const _)) ?_
  refine AL_p rfl rfl (S_and rfl (.tmp rfl) (fun hp71 => (AEv.cond (.tmp rfl) (by first | assumption | exact gdT hp71 | exact gdF hp71 | exact gdAnd (by assumption) (gdT hp71) | exact gdAnd (by assumption) (gdF hp71))))) ?_
  refine AL_p rfl rfl (S_move rfl (.tmp rfl)) ?_
  refine AL_g rfl rfl (.tmp rfl) rfl (fun hg72 => S_field 3 rfl (.tmp rfl) (by kernel_rfl)) ?_
  refine AL_g rfl rfl (.tmp rfl) rfl (fun hg75 => S_load 0 rfl (AEv.cond (.tmp rfl) (by first | assumption | exact gdAnd (by assumption) (by assumption))) rfl rfl (by kernel_rfl)) ?_
  refine AL_g rfl rfl (.tmp rfl) rfl (fun hg78 => by first | exact S_lenM (e := 114) rfl (AEv.cond (.tmp rfl) (by first | assumption | exact gdAnd (by assumption) (by assumption))) (by kernel_rfl) | exact S_len (e := 114) rfl (AEv.cond (.tmp rfl) (by first | assumption | exact gdAnd (by assumption) (by assumption))) (by kernel_rfl)) ?_
  refine AL_g rfl rfl (.tmp rfl) rfl (fun hg81 => S_eql rfl (AEv.cond (.tmp rfl) (by first | assumption | exact gdAnd (by assumption) (by assumption))) (AEv.const _)) ?_
  refine AL_p rfl rfl (S_and rfl (.tmp rfl) (fun hp84 => (AEv.cond (.tmp rfl) (by first | assumption | exact gdT hp84 | exact gdF hp84 | exact gdAnd (by assumption) (gdT hp84) | exact gdAnd (by assumption) (gdF hp84))))) ?_
  refine AL_p rfl rfl (S_move rfl (.tmp rfl)) ?_
  refine AL_g rfl rfl (.tmp rfl) rfl (fun hg85 => S_field 4 rfl (.tmp rfl) (by kernel_rfl)) ?_
  refine AL_g rfl rfl (.tmp rfl) rfl (fun hg88 => S_load 0 rfl (AEv.cond (.tmp rfl) (by first | assumption | exact gdAnd (by assumption) (by assumption))) rfl rfl (by kernel_rfl)) ?_
  refine AL_g rfl rfl (.tmp rfl) rfl (fun hg91 => S_eql rfl (AEv.cond (.tmp rfl) (by first | assumption | exact gdAnd (by assumption) (by assumption))) (AEv.const _)) ?_
  refine AL_p rfl rfl (S_and rfl (.tmp rfl) (fun hp94 => (AEv.cond (.tmp rfl) (by first | assumption | exact gdT hp94 | exact gdF hp94 | exact gdAnd (by assumption) (gdT hp94) | exact gdAnd (by assumption) (gdF hp94))))) ?_
  refine AL_p rfl rfl (S_move rfl (.tmp rfl)) ?_
  refine AL_g rfl rfl (.tmp rfl) rfl (fun hg95 => S_field 5 rfl (.tmp rfl) (by kernel_rfl)) ?_
  refine AL_g rfl rfl (.tmp rfl) rfl (fun hg98 => S_load 0 rfl (AEv.cond (.tmp rfl) (by first | assumption | exact gdAnd (by assumption) (by assumption))) rfl rfl (by kernel_rfl)) ?_
  refine AL_g rfl rfl (.tmp rfl) rfl (fun hg101 => S_eql rfl (AEv.cond (.tmp rfl) (by first | assumption | exact gdAnd (by assumption) (by assumption))) (AEv.const _)) ?_
  refine AL_p rfl rfl (S_and rfl (.tmp rfl) (fun hp104 => (AEv.cond (.tmp rfl) (by first | assumption | exact gdT hp104 | exact gdF hp104 | exact gdAnd (by assumption) (gdT hp104) | exact gdAnd (by assumption) (gdF hp104))))) ?_
  refine AL_p rfl rfl (S_move rfl (.tmp rfl)) ?_
  refine AL_g rfl rfl (.tmp rfl) rfl (fun hg105 => S_field 6 rfl (.tmp rfl) (by kernel_rfl)) ?_
  refine AL_g rfl rfl (.tmp rfl) rfl (fun hg108 => S_load 0 rfl (AEv.cond (.tmp rfl) (by first | assumption | exact gdAnd (by assumption) (by assumption))) rfl rfl (by kernel_rfl)) ?_
  refine AL_g rfl rfl (.tmp rfl) rfl (fun hg111 => S_eql rfl (AEv.cond (.tmp rfl) (by first | assumption | exact gdAnd (by assumption) (by assumption))) (AEv.const _)) ?_
  refine AL_p rfl rfl (S_and rfl (.tmp rfl) (fun hp114 => (AEv.cond (.tmp rfl) (by first | assumption | exact gdT hp114 | exact gdF hp114 | exact gdAnd (by assumption) (gdT hp114) | exact gdAnd (by assumption) (gdF hp114))))) ?_
  refine AL_p rfl rfl (S_assign rfl (.tmp rfl)) ?_
  refine AL_nil ?_
  refine AC_seq ?_
  refine AC_seq ?_
  refine AC_region ?_
  refine AL_p rfl rfl (S_move rfl (.tmp rfl)) ?_
  refine AL_p rfl rfl (S_pcall rfl (AEvs.cons (.tmp rfl) (AEvs.cons (AEv.S _) AEvs.nil)) ((ref08_has_ok (fieldsN x.kind.toNat) uidN (by omega)).of_eq (congrArg AV.bool (has_at x.kind.toNat (g := 117) (by unfold Letter; simp))))) ?_
  refine AL_p rfl rfl (S_not rfl (.tmp rfl)) ?_
  refine AL_p rfl rfl (S_move rfl (.tmp rfl)) ?_
  refine AL_g rfl rfl (.tmp rfl) rfl (fun hg115 => S_field 1 rfl (.tmp rfl) (by kernel_rfl)) ?_
  refine AL_g rfl rfl (.tmp rfl) rfl (fun hg118 => S_load 1 rfl (AEv.cond (.tmp rfl) (by first | assumption | exact gdAnd (by assumption) (by assumption))) rfl rfl (by kernel_rfl)) ?_
  refine AL_g rfl rfl (.tmp rfl) rfl (fun hg121 => S_neq rfl (AEv.cond (.tmp rfl) (by first | assumption | exact gdAnd (by assumption) (by assumption))) (AEv.const _)) ?_
  refine AL_p rfl rfl (S_and rfl (.tmp rfl) (fun hp124 => (AEv.cond (.tmp rfl) (by first | assumption | exact gdT hp124 | exact gdF hp124 | exact gdAnd (by assumption) (gdT hp124) | exact gdAnd (by assumption) (gdF hp124))))) ?_
  refine AL_p rfl rfl (S_move rfl (.tmp rfl)) ?_
  refine AL_g rfl rfl (.tmp rfl) rfl (fun hg125 => S_move rfl (.tmp rfl)) ?_
  refine AL_g rfl rfl (.tmp rfl) rfl (fun hg128 => S_pcall rfl (AEvs.cons (AEv.cond (.tmp rfl) (by first | assumption | exact gdAnd (by assumption) (by assumption))) (AEvs.cons (AEv.S _) AEvs.nil)) ((ref08_has_ok (fieldsN x.kind.toNat) revN (by omega)).of_eq (congrArg AV.bool (has_at x.kind.toNat (g := 114) (by unfold Letter; simp))))) ?_
  refine AL_g rfl rfl (.tmp rfl) rfl (fun hg131 => S_not rfl (AEv.cond (.tmp rfl) (by first | assumption | exact gdAnd (by assumption) (by assumption)))) ?_
  refine AL_g rfl rfl (.tmp rfl) rfl (fun hg134 => S_move rfl (AEv.cond (.tmp rfl) (by first | assumption | exact gdAnd (by assumption) (by assumption)))) ?_
  refine AL_gg rfl rfl (.tmp rfl) rfl (fun hg137 hg138 hg139 => S_field 2 rfl (.tmp rfl) (by kernel_rfl)) ?_
  refine AL_gg rfl rfl (.tmp rfl) rfl (fun hg140 hg141 hg142 => S_load 1 rfl (AEv.cond (.tmp rfl) (by first | assumption | exact gdAnd (by assumption) (by assumption))) rfl rfl (by kernel_rfl)) ?_
  refine AL_gg rfl rfl (.tmp rfl) rfl (fun hg143 hg144 hg145 => S_neq rfl (AEv.cond (.tmp rfl) (by first | assumption | exact gdAnd (by assumption) (by assumption))) (AEv.const _)) ?_
  refine AL_g rfl rfl (.tmp rfl) rfl (fun hg146 => S_and rfl (AEv.cond (.tmp rfl) (by first | assumption | exact gdAnd (by assumption) (by assumption))) (fun hp149 => (AEv.cond (.tmp rfl) (by first | assumption | exact gdT hp149 | exact gdF hp149 | exact gdAnd (by assumption) (gdT hp149) | exact gdAnd (by assumption) (gdF hp149))))) ?_
  refine AL_p rfl rfl (S_or rfl (.tmp rfl) (fun hp150 => (AEv.cond (.tmp rfl) (by first | assumption | exact gdT hp150 | exact gdF hp150 | exact gdAnd (by assumption) (gdT hp150) | exact gdAnd (by assumption) (gdF hp150))))) ?_
  refine AL_p rfl rfl (S_move rfl (.tmp rfl)) ?_
  refine AL_g rfl rfl (.tmp rfl) rfl (fun hg151 => S_move rfl (.tmp rfl)) ?_
  refine AL_g rfl rfl (.tmp rfl) rfl (fun hg154 => S_pcall rfl (AEvs.cons (AEv.cond (.tmp rfl) (by first | assumption | exact gdAnd (by assumption) (by assumption))) (AEvs.cons (AEv.S _) AEvs.nil)) ((ref08_has_ok (fieldsN x.kind.toNat) spcN (by omega)).of_eq (congrArg AV.bool (has_at x.kind.toNat (g := 115) (by unfold Letter; simp))))) ?_
  refine AL_g rfl rfl (.tmp rfl) rfl (fun hg157 => S_not rfl (AEv.cond (.tmp rfl) (by first | assumption | exact gdAnd (by assumption) (by assumption)))) ?_
  refine AL_g rfl rfl (.tmp rfl) rfl (fun hg160 => S_move rfl (AEv.cond (.tmp rfl) (by first | assumption | exact gdAnd (by assumption) (by assumption)))) ?_
  refine AL_gg rfl rfl (.tmp rfl) rfl (fun hg163 hg164 hg165 => S_move rfl (.tmp rfl)) ?_
  refine AL_gg rfl rfl (.tmp rfl) rfl (fun hg166 hg167 hg168 => S_not rfl (AEv.cond (.tmp rfl) (by first | assumption | exact gdAnd (by assumption) (by assumption)))) ?_
  refine AL_g rfl rfl (.tmp rfl) rfl (fun hg169 => S_and rfl (AEv.cond (.tmp rfl) (by first | assumption | exact gdAnd (by assumption) (by assumption))) (fun hp172 => (AEv.cond (.tmp rfl) (by first | assumption | exact gdT hp172 | exact gdF hp172 | exact gdAnd (by assumption) (gdT hp172) | exact gdAnd (by assumption) (gdF hp172))))) ?_
  refine AL_p rfl rfl (S_or rfl (.tmp rfl) (fun hp173 => (AEv.cond (.tmp rfl) (by first | assumption | exact gdT hp173 | exact gdF hp173 | exact gdAnd (by assumption) (gdT hp173) | exact gdAnd (by assumption) (gdF hp173))))) ?_
  refine AL_p rfl rfl (S_move rfl (.tmp rfl)) ?_
  refine AL_g rfl rfl (.tmp rfl) rfl (fun hg174 => S_move rfl (.tmp rfl)) ?_
  refine AL_g rfl rfl (.tmp rfl) rfl (fun hg177 => S_pcall rfl (AEvs.cons (AEv.cond (.tmp rfl) (by first | assumption | exact gdAnd (by assumption) (by assumption))) (AEvs.cons (AEv.S _) AEvs.nil)) ((ref08_has_ok (fieldsN x.kind.toNat) grcN (by omega)).of_eq (congrArg AV.bool (has_at x.kind.toNat (g := 103) (by unfold Letter; simp))))) ?_
  refine AL_g rfl rfl (.tmp rfl) rfl (fun hg180 => S_not rfl (AEv.cond (.tmp rfl) (by first | assumption | exact gdAnd (by assumption) (by assumption)))) ?_
  refine AL_g rfl rfl (.tmp rfl) rfl (fun hg183 => S_move rfl (AEv.cond (.tmp rfl) (by first | assumption | exact gdAnd (by assumption) (by assumption)))) ?_
  refine AL_gg rfl rfl (.tmp rfl) rfl (fun hg186 hg187 hg188 => S_field 10 rfl (.tmp rfl) (by kernel_rfl)) ?_
  refine AL_gg rfl rfl (.tmp rfl) rfl (fun hg189 hg190 hg191 => S_load 1 rfl (AEv.cond (.tmp rfl) (by first | assumption | exact gdAnd (by assumption) (by assumption))) rfl rfl (by kernel_rfl)) ?_
  refine AL_gg rfl rfl (.tmp rfl) rfl (fun hg192 hg193 hg194 => S_neq rfl (AEv.cond (.tmp rfl) (by first | assumption | exact gdAnd (by assumption) (by assumption))) (AEv.const _)) ?_
  refine AL_g rfl rfl (.tmp rfl) rfl (fun hg195 => S_and rfl (AEv.cond (.tmp rfl) (by first | assumption | exact gdAnd (by assumption) (by assumption))) (fun hp198 => (AEv.cond (.tmp rfl) (by first | assumption | exact gdT hp198 | exact gdF hp198 | exact gdAnd (by assumption) (gdT hp198) | exact gdAnd (by assumption) (gdF hp198))))) ?_
  refine AL_p rfl rfl (S_or rfl (.tmp rfl) (fun hp199 => (AEv.cond (.tmp rfl) (by first | assumption | exact gdT hp199 | exact gdF hp199 | exact gdAnd (by assumption) (gdT hp199) | exact gdAnd (by assumption) (gdF hp199))))) ?_
  refine AL_p rfl rfl (S_move rfl (.tmp rfl)) ?_
  refine AL_g rfl rfl (.tmp rfl) rfl (fun hg200 => S_move rfl (.tmp rfl)) ?_
  refine AL_g rfl rfl (.tmp rfl) rfl (fun hg203 => S_pcall rfl (AEvs.cons (AEv.cond (.tmp rfl) (by first | assumption | exact gdAnd (by assumption) (by assumption))) (AEvs.cons (AEv.S _) AEvs.nil)) ((ref08_has_ok (fieldsN x.kind.toNat) cnN (by omega)).of_eq (congrArg AV.bool (has_at x.kind.toNat (g := 99) (by unfold Letter; simp))))) ?_
  refine AL_g rfl rfl (.tmp rfl) rfl (fun hg206 => S_not rfl (AEv.cond (.tmp rfl) (by first | assumption | exact gdAnd (by assumption) (by assumption)))) ?_
  refine AL_g rfl rfl (.tmp rfl) rfl (fun hg209 => S_move rfl (AEv.cond (.tmp rfl) (by first | assumption | exact gdAnd (by assumption) (by assumption)))) ?_
  refine AL_gg rfl rfl (.tmp rfl) rfl (fun hg212 hg213 hg214 => S_field 11 rfl (.tmp rfl) (by kernel_rfl)) ?_
  refine AL_gg rfl rfl (.tmp rfl) rfl (fun hg215 hg216 hg217 => S_load 1 rfl (AEv.cond (.tmp rfl) (by first | assumption | exact gdAnd (by assumption) (by assumption))) rfl rfl (by kernel_rfl)) ?_
  refine AL_gg rfl rfl (.tmp rfl) rfl (fun hg218 hg219 hg220 => S_neq rfl (AEv.cond (.tmp rfl) (by first | assumption | exact gdAnd (by assumption) (by assumption))) (AEv.const _)) ?_
  refine AL_g rfl rfl (.tmp rfl) rfl (fun hg221 => S_and rfl (AEv.cond (.tmp rfl) (by first | assumption | exact gdAnd (by assumption) (by assumption))) (fun hp224 => (AEv.cond (.tmp rfl) (by first | assumption | exact gdT hp224 | exact gdF hp224 | exact gdAnd (by assumption) (gdT hp224) | exact gdAnd (by assumption) (gdF hp224))))) ?_
  refine AL_p rfl rfl (S_or rfl (.tmp rfl) (fun hp225 => (AEv.cond (.tmp rfl) (by first | assumption | exact gdT hp225 | exact gdF hp225 | exact gdAnd (by assumption) (gdT hp225) | exact gdAnd (by assumption) (gdF hp225))))) ?_
  refine AL_p rfl rfl (S_move rfl (.tmp rfl)) ?_
  refine AL_g rfl rfl (.tmp rfl) rfl (fun hg226 => S_move rfl (.tmp rfl)) ?_
  refine AL_g rfl rfl (.tmp rfl) rfl (fun hg229 => S_pcall rfl (AEvs.cons (AEv.cond (.tmp rfl) (by first | assumption | exact gdAnd (by assumption) (by assumption))) (AEvs.cons (AEv.S _) AEvs.nil)) ((ref08_has_ok (fieldsN x.kind.toNat) idN (by omega)).of_eq (congrArg AV.bool (has_at x.kind.toNat (g := 105) (by unfold Letter; simp))))) ?_
  refine AL_g rfl rfl (.tmp rfl) rfl (fun hg232 => S_not rfl (AEv.cond (.tmp rfl) (by first | assumption | exact gdAnd (by assumption) (by assumption)))) ?_
  refine AL_g rfl rfl (.tmp rfl) rfl (fun hg235 => S_move rfl (AEv.cond (.tmp rfl) (by first | assumption | exact gdAnd (by assumption) (by assumption)))) ?_
  refine AL_gg rfl rfl (.tmp rfl) rfl (fun hg238 hg239 hg240 => S_field 12 rfl (.tmp rfl) (by kernel_rfl)) ?_
  refine AL_gg rfl rfl (.tmp rfl) rfl (fun hg241 hg242 hg243 => S_load 1 rfl (AEv.cond (.tmp rfl) (by first | assumption | exact gdAnd (by assumption) (by assumption))) rfl rfl (by kernel_rfl)) ?_
  refine AL_gg rfl rfl (.tmp rfl) rfl (fun hg244 hg245 hg246 => S_neq rfl (AEv.cond (.tmp rfl) (by first | assumption | exact gdAnd (by assumption) (by assumption))) (AEv.const _)) ?_
  refine AL_g rfl rfl (.tmp rfl) rfl (fun hg247 => S_and rfl (AEv.cond (.tmp rfl) (by first | assumption | exact gdAnd (by assumption) (by assumption))) (fun hp250 => (AEv.cond (.tmp rfl) (by first | assumption | exact gdT hp250 | exact gdF hp250 | exact gdAnd (by assumption) (gdT hp250) | exact gdAnd (by assumption) (gdF hp250))))) ?_
  refine AL_p rfl rfl (S_or rfl (.tmp rfl) (fun hp251 => (AEv.cond (.tmp rfl) (by first | assumption | exact gdT hp251 | exact gdF hp251 | exact gdAnd (by assumption) (gdT hp251) | exact gdAnd (by assumption) (gdF hp251))))) ?_
  refine AL_p rfl rfl (S_move rfl (.tmp rfl)) ?_
  refine AL_g rfl rfl (.tmp rfl) rfl (fun hg252 => S_move rfl (.tmp rfl)) ?_
  refine AL_g rfl rfl (.tmp rfl) rfl (fun hg255 => S_pcall rfl (AEvs.cons (AEv.cond (.tmp rfl) (by first | assumption | exact gdAnd (by assumption) (by assumption))) (AEvs.cons (AEv.S _) AEvs.nil)) ((ref08_has_ok (fieldsN x.kind.toNat) mstN (by omega)).of_eq (congrArg AV.bool (has_at x.kind.toNat (g := 109) (by unfold Letter; simp))))) ?_
  refine AL_g rfl rfl (.tmp rfl) rfl (fun hg258 => S_not rfl (AEv.cond (.tmp rfl) (by first | assumption | exact gdAnd (by assumption) (by assumption)))) ?_
  refine AL_g rfl rfl (.tmp rfl) rfl (fun hg261 => S_move rfl (AEv.cond (.tmp rfl) (by first | assumption | exact gdAnd (by assumption) (by assumption)))) ?_
  refine AL_gg rfl rfl (.tmp rfl) rfl (fun hg264 hg265 hg266 => S_field 13 rfl (.tmp rfl) (by kernel_rfl)) ?_
  refine AL_gg rfl rfl (.tmp rfl) rfl (fun hg267 hg268 hg269 => S_load 1 rfl (AEv.cond (.tmp rfl) (by first | assumption | exact gdAnd (by assumption) (by assumption))) rfl rfl (by kernel_rfl)) ?_
  refine AL_gg rfl rfl (.tmp rfl) rfl (fun hg270 hg271 hg272 => S_neq rfl (AEv.cond (.tmp rfl) (by first | assumption | exact gdAnd (by assumption) (by assumption))) (AEv.const _)) ?_
  refine AL_g rfl rfl (.tmp rfl) rfl (fun hg273 => S_and rfl (AEv.cond (.tmp rfl) (by first | assumption | exact gdAnd (by assumption) (by assumption))) (fun hp276 => (AEv.cond (.tmp rfl) (by first | assumption | exact gdT hp276 | exact gdF hp276 | exact gdAnd (by assumption) (gdT hp276) | exact gdAnd (by assumption) (gdF hp276))))) ?_
  refine AL_p rfl rfl (S_or rfl (.tmp rfl) (fun hp277 => (AEv.cond (.tmp rfl) (by first | assumption | exact gdT hp277 | exact gdF hp277 | exact gdAnd (by assumption) (gdT hp277) | exact gdAnd (by assumption) (gdF hp277))))) ?_
  refine AL_p rfl rfl (S_move rfl (.tmp rfl)) ?_
  refine AL_g rfl rfl (.tmp rfl) rfl (fun hg278 => S_move rfl (.tmp rfl)) ?_
  refine AL_g rfl rfl (.tmp rfl) rfl (fun hg281 => S_pcall rfl (AEvs.cons (AEv.cond (.tmp rfl) (by first | assumption | exact gdAnd (by assumption) (by assumption))) (AEvs.cons (AEv.S _) AEvs.nil)) ((ref08_has_ok (fieldsN x.kind.toNat) datN (by omega)).of_eq (congrArg AV.bool (has_at x.kind.toNat (g := 100) (by unfold Letter; simp))))) ?_
  refine AL_g rfl rfl (.tmp rfl) rfl (fun hg284 => S_not rfl (AEv.cond (.tmp rfl) (by first | assumption | exact gdAnd (by assumption) (by assumption)))) ?_
  refine AL_g rfl rfl (.tmp rfl) rfl (fun hg287 => S_move rfl (AEv.cond (.tmp rfl) (by first | assumption | exact gdAnd (by assumption) (by assumption)))) ?_
  refine AL_gg rfl rfl (.tmp rfl) rfl (fun hg290 hg291 hg292 => S_field 14 rfl (.tmp rfl) (by kernel_rfl)) ?_
  refine AL_gg rfl rfl (.tmp rfl) rfl (fun hg293 hg294 hg295 => S_load 1 rfl (AEv.cond (.tmp rfl) (by first | assumption | exact gdAnd (by assumption) (by assumption))) rfl rfl (by kernel_rfl)) ?_
  refine AL_gg rfl rfl (.tmp rfl) rfl (fun hg296 hg297 hg298 => S_neS rfl (AEv.cond (.tmp rfl) (by first | assumption | exact gdAnd (by assumption) (by assumption))) (AEv.S _)) ?_
  refine AL_g rfl rfl (.tmp rfl) rfl (fun hg299 => S_and rfl (AEv.cond (.tmp rfl) (by first | assumption | exact gdAnd (by assumption) (by assumption))) (fun hp302 => (AEv.cond (.tmp rfl) (by first | assumption | exact gdT hp302 | exact gdF hp302 | exact gdAnd (by assumption) (gdT hp302) | exact gdAnd (by assumption) (gdF hp302))))) ?_
  refine AL_p rfl rfl (S_or rfl (.tmp rfl) (fun hp303 => (AEv.cond (.tmp rfl) (by first | assumption | exact gdT hp303 | exact gdF hp303 | exact gdAnd (by assumption) (gdT hp303) | exact gdAnd (by assumption) (gdF hp303))))) ?_
  refine AL_p rfl rfl (S_move rfl (.tmp rfl)) ?_
  refine AL_g rfl rfl (.tmp rfl) rfl (fun hg304 => S_move rfl (.tmp rfl)) ?_
  refine AL_g rfl rfl (.tmp rfl) rfl (fun hg307 => S_pcall rfl (AEvs.cons (AEv.cond (.tmp rfl) (by first | assumption | exact gdAnd (by assumption) (by assumption))) (AEvs.cons (AEv.S _) AEvs.nil)) ((ref08_has_ok (fieldsN x.kind.toNat) slN (by omega)).of_eq (congrArg AV.bool (has_at x.kind.toNat (g := 108) (by unfold Letter; simp))))) ?_
  refine AL_g rfl rfl (.tmp rfl) rfl (fun hg310 => S_not rfl (AEv.cond (.tmp rfl) (by first | assumption | exact gdAnd (by assumption) (by assumption)))) ?_
  refine AL_g rfl rfl (.tmp rfl) rfl (fun hg313 => S_move rfl (AEv.cond (.tmp rfl) (by first | assumption | exact gdAnd (by assumption) (by assumption)))) ?_
  refine AL_gg rfl rfl (.tmp rfl) rfl (fun hg316 hg317 hg318 => S_field 15 rfl (.tmp rfl) (by kernel_rfl)) ?_
  refine AL_gg rfl rfl (.tmp rfl) rfl (fun hg319 hg320 hg321 => S_load 1 rfl (AEv.cond (.tmp rfl) (by first | assumption | exact gdAnd (by assumption) (by assumption))) rfl rfl (by kernel_rfl)) ?_
  refine AL_gg rfl rfl (.tmp rfl) rfl (fun hg322 hg323 hg324 => by first | exact S_lenM (e := 90) rfl (AEv.cond (.tmp rfl) (by first | assumption | exact gdAnd (by assumption) (by assumption))) (by kernel_rfl) | exact S_len (e := 90) rfl (AEv.cond (.tmp rfl) (by first | assumption | exact gdAnd (by assumption) (by assumption))) (by kernel_rfl)) ?_
  refine AL_gg rfl rfl (.tmp rfl) rfl (fun hg325 hg326 hg327 => S_gtr rfl (AEv.cond (.tmp rfl) (by first | assumption | exact gdAnd (by assumption) (by assumption))) (AEv.const _)) ?_
  refine AL_g rfl rfl (.tmp rfl) rfl (fun hg328 => S_and rfl (AEv.cond (.tmp rfl) (by first | assumption | exact gdAnd (by assumption) (by assumption))) (fun hp331 => (AEv.cond (.tmp rfl) (by first | assumption | exact gdT hp331 | exact gdF hp331 | exact gdAnd (by assumption) (gdT hp331) | exact gdAnd (by assumption) (gdF hp331))))) ?_
  refine AL_p rfl rfl (S_or rfl (.tmp rfl) (fun hp332 => (AEv.cond (.tmp rfl) (by first | assumption | exact gdT hp332 | exact gdF hp332 | exact gdAnd (by assumption) (gdT hp332) | exact gdAnd (by assumption) (gdF hp332))))) ?_
  refine AL_nil ?_
  refine AC_cond (.tmp rfl) (fun hb333 => ?_) (fun hb333 => ?_)
  · try simp only [zA, zO, zN, zM, zP, zQ, zD, zF, gd] at hb333
    have hx : checkA x = some (4, [callN]) := check_unclean hk hfn (not_clean ref_clean (by simp only [Classical.not_and_iff_not_or_not, not_or, Classical.not_not]; exact hb333))
    refine AC_seq ?_
    refine AC_region ?_
    refine AL_p rfl rfl (S_assign rfl (AEv.const _)) ?_
    refine AL_p rfl rfl (S_assign rfl (AEv.S _)) ?_
    refine AL_nil ?_
    refine AC_ret ?_
    refine ret_tmps (ts := [2, 3]) st rfl (by decide) rfl (Sub.l ((List.sublist_cons_self _ _).trans (List.sublist_cons_self _ _))) (Conv.refl (Sub.l ((List.sublist_cons_self _ _).trans (List.sublist_cons_self _ _))) _) ⟨cp_some hx (Lib.join_one _ _).symm, rfl⟩ (.inl rfl)
  try simp only [zA, zO, zN, zM, zP, zQ, zD, zF, gd] at hb333
  have hx : checkA x = none := check_clean hk hfn (ref_clean.2 hb333)
  refine AC_skip ?_
  refine AC_seq ?_
  refine AC_region ?_
  refine AL_p rfl rfl (S_assign rfl (AEv.const _)) ?_
  refine AL_p rfl rfl (S_assign rfl (AEv.S _)) ?_
  refine AL_nil ?_
  refine AC_ret ?_
  refine ret_tmps (ts := [2, 3]) st rfl (by decide) rfl (Sub.l ((List.sublist_cons_self _ _).trans (List.sublist_cons_self _ _))) (Conv.refl (Sub.l ((List.sublist_cons_self _ _).trans (List.sublist_cons_self _ _))) _) ⟨cp_none hx, rfl⟩ (.inl rfl)

end Go.Proofs.YtcbnokpgklmndaaGreatDoor

/-
The walks of Go functions in the logic AL: what each of them answers.
Conditions: those of each theorem.
-/
set_option linter.unusedVariables false
set_option linter.unusedSimpArgs false
namespace Go.Proofs.YtcbnokpgklmndaaGreatDoor
open Go.AL Go.NumSpec

end Go.Proofs.YtcbnokpgklmndaaGreatDoor

/-
The walks of Go functions in the logic AL: what each of them answers.
Conditions: those of each theorem.
-/
set_option linter.unusedVariables false
set_option linter.unusedSimpArgs false
namespace Go.Proofs.YtcbnokpgklmndaaGreatDoor
open Go.AL Go.NumSpec

set_option maxRecDepth 100000 in
/-- provost/provostref07.number -/
theorem ref07_number_ok (n : Int) (h0 : 0 ≤ n) (hn : n ≤ 9223372036854775807) : PCalls Tryz.prog 64 [.int .i64 n] (.S (numB n)) := by
  intro st
  refine ACalls_of (N := 6) Tryz.func64 (by kernel_rfl) rfl rfl rfl ?_
  refine AC_seq ?_
  refine AC_region ?_
  refine AL_p rfl rfl (S_assign rfl (AEv.S _)) ?_
  refine AL_nil ?_
  refine AC_seq ?_
  refine AC_region ?_
  refine AL_p rfl rfl (S_move rfl (.tmp rfl)) ?_
  refine AL_p rfl rfl ((S_conv (k' := .u64) rfl (.tmp rfl) (by kernel_rfl) (by kernel_rfl)).ofV (V' := .int .u64 (((n).toNat : Nat) : Int)) (congrArg (AV.int .u64) (by rw [u64w]; omega))) ?_
  refine AL_p rfl rfl (S_pcall rfl (AEvs.cons (.tmp rfl) AEvs.nil) (ref_Put_ok n.toNat (by omega))) ?_
  refine AL_p rfl rfl (S_assign rfl (.tmp rfl)) ?_
  refine AL_nil ?_
  refine AC_ret ?_
  refine ret_tmp st rfl rfl (Sub.l (List.Sublist.refl _)) (Conv.refl (Sub.l (List.Sublist.refl _)) _) ⟨rfl, rfl⟩ (.inl rfl)

set_option maxRecDepth 100000 in
/-- provost/provostref04.Bytes -/
theorem ref04_Bytes_ok (s : List UInt8) (hs : s.length ≤ 1000000000) : PCalls Tryz.prog 34 [.S s] (.S (textB s)) := by
  intro st
  refine ACalls_of (N := 9) Tryz.func34 (by kernel_rfl) rfl rfl rfl ?_
  have hp := putL_few s.length (by omega)
  refine AC_seq ?_
  refine AC_region ?_
  refine AL_p rfl rfl (S_assign rfl (AEv.S _)) ?_
  refine AL_nil ?_
  refine AC_seq ?_
  refine AC_region ?_
  refine AL_p rfl rfl (S_move rfl (.tmp rfl)) ?_
  refine AL_p rfl rfl (S_lenS (ts := #[]) rfl (.tmp rfl) (by kernel_rfl)) ?_
  refine AL_p rfl rfl ((S_conv (k' := .u64) rfl (.tmp rfl) (by kernel_rfl) (by kernel_rfl)).ofV (V' := .int .u64 ((((s.length : Int)).toNat : Nat) : Int)) (congrArg (AV.int .u64) (by rw [u64w]; omega))) ?_
  refine AL_p rfl rfl (S_pcall rfl (AEvs.cons (.tmp rfl) AEvs.nil) (ref_Put_ok s.length (by omega))) ?_
  refine AL_p rfl rfl (S_move rfl (.tmp rfl)) ?_
  refine AL_p rfl rfl (S_cat rfl (.tmp rfl) (.tmp rfl) (by omega)) ?_
  refine AL_p rfl rfl (S_assign rfl (.tmp rfl)) ?_
  refine AL_nil ?_
  refine AC_ret ?_
  refine ret_tmp st rfl rfl (Sub.l (List.Sublist.refl _)) (Conv.refl (Sub.l (List.Sublist.refl _)) _) ⟨rfl, rfl⟩ (.inl rfl)

set_option maxRecDepth 100000 in
/-- provost/provostref07.Labels -/
theorem ref07_Labels_ok (l : List Lab) (hl : l.length ≤ 1000) (hls : ∀ x ∈ l, x.1.length ≤ 400 ∧ x.2.length ≤ 400) : PCalls Tryz.prog 35 [.sl (labsV l)] (.S (listB labB l)) := by
  intro st
  refine ACalls_of (N := 30) Tryz.func35 (by kernel_rfl) rfl rfl rfl ?_
  have hp := putL_few l.length (by omega)
  have hen : ∀ x ∈ l, (labB x).length ≤ 1000 := fun x hx => labB_len (hls x hx).1 (hls x hx).2
  refine AC_seq ?_
  refine AC_region ?_
  refine AL_p rfl rfl (S_assign rfl (AEv.S _)) ?_
  refine AL_nil ?_
  refine AC_seq ?_
  refine AC_region ?_
  refine AL_p rfl rfl (S_move rfl (.tmp rfl)) ?_
  refine AL_p rfl rfl (by first | exact S_lenM (e := 90) rfl (.tmp rfl) (by kernel_rfl) | exact S_len (e := 90) rfl (.tmp rfl) (by kernel_rfl)) ?_
  refine AL_p rfl rfl (S_pcall rfl (AEvs.cons (.tmp rfl) AEvs.nil) (ref07_number_ok (l.length : Int) (by omega) (by omega))) ?_
  refine AL_p rfl rfl (S_assign rfl (.tmp rfl)) ?_
  refine AL_nil ?_
  refine AC_seq ?_
  refine AC_seq ?_
  refine AC_region ?_
  refine AL_p rfl rfl (S_assign rfl (AEv.const _)) ?_
  refine AL_nil ?_
  refine AC_block ?_
  refine AC_loopK (G := Nat) [(0, _), (2, _)] (fun g => g ≤ l.length) (fun g => [(3, .S (putL l.length ++ (l.take g).flatMap labB)), (4, .int .i64 (g : Int))]) (fun g => st) (fun g => l.length - g) (0) (Nat.zero_le _) (Sub.l (List.Sublist.refl _)) (.cons rfl (Le.refl _) (.cons rfl (Le.refl _) .nil)) (.cons rfl (Le.of_eq (congrArg AV.S (by simp [numB]))) (.cons rfl (by first | exact Le.refl _ | exact Le.nils | exact Le.row _ _ _ _ | exact Le.of_eq (by first | rfl | (simp; done) | (push_cast; rfl) | (simp; omega))) .nil)) ?_
  rintro i hi
  try dsimp only
  simp only [List.cons_append, List.nil_append]
  have hfm := flatB_len (e := labB) (B := 1000) (l := l.take i) fun x hx => hen x (List.mem_of_mem_take hx)
  rw [List.length_take, show min i l.length = i by omega] at hfm
  refine AC_seq ?_
  refine AC_seq ?_
  refine AC_region ?_
  refine AL_p rfl rfl (S_move rfl (.tmp rfl)) ?_
  refine AL_p rfl rfl (S_move rfl (.tmp rfl)) ?_
  refine AL_p rfl rfl (by first | exact S_lenM (e := 90) rfl (.tmp rfl) (by kernel_rfl) | exact S_len (e := 90) rfl (.tmp rfl) (by kernel_rfl)) ?_
  refine AL_p rfl rfl (S_lss rfl (.tmp rfl) (.tmp rfl)) ?_
  refine AL_nil ?_
  refine AC_cond (.tmp rfl) (fun hb1 => ?_) (fun hb1 => ?_)
  · try simp only [zA, zO, zN, zM, zP, zQ, zD, zF, gd] at hb1
    have hil : i < l.length := by omega
    have hx := hls _ (List.getElem_mem hil)
    have n1 := textB_len (s := (l[i]'hil).1) (by omega)
    have n2 := textB_len (s := (l[i]'hil).2) (by omega)
    refine AC_skip ?_
    refine AC_seq ?_
    refine AC_block ?_
    refine AC_draw (by kernel_rfl) (by kernel_rfl) (.cons rfl (Q_p rfl (S_move rfl (.tmp rfl))) <|
        .cons rfl (Q_p rfl (S_move rfl (.tmp rfl))) <|
        .cons rfl (Q_p rfl (S_move rfl (.tmp rfl))) <|
        .cons rfl (Q_p rfl (S_elemN (e := 90) 2 rfl (.tmp rfl) (.tmp rfl) (by kernel_rfl) (by kernel_rfl) (by omega) (fun _ => rfl))) <|
        .cons rfl (Q_p rfl (S_fieldP 0 rfl (.tmp rfl) (by kernel_rfl))) <|
        .cons rfl (Q_p rfl (S_loadP rfl (.tmp rfl) rfl (by kernel_rfl))) <|
        .cons rfl (Q_p rfl (S_pcall rfl (AEvs.cons (.tmp rfl) AEvs.nil) (ref04_Bytes_ok (l[i]'hil).1 (by omega)))) <|
        .cons rfl (Q_p rfl (S_cat rfl (.tmp rfl) (.tmp rfl) (by simp only [List.length_append]; omega))) <|
        .cons rfl (Q_p rfl (S_move rfl (.tmp rfl))) <|
        .cons rfl (Q_p rfl (S_move rfl (.tmp rfl))) <|
        .cons rfl (Q_p rfl (S_elemN (e := 90) 2 rfl (.tmp rfl) (.tmp rfl) (by kernel_rfl) (by kernel_rfl) (by omega) (fun _ => rfl))) <|
        .cons rfl (Q_p rfl (S_fieldP 1 rfl (.tmp rfl) (by kernel_rfl))) <|
        .cons rfl (Q_p rfl (S_loadP rfl (.tmp rfl) rfl (by kernel_rfl))) <|
        .cons rfl (Q_p rfl (S_pcall rfl (AEvs.cons (.tmp rfl) AEvs.nil) (ref04_Bytes_ok (l[i]'hil).2 (by omega)))) <|
        .cons rfl (Q_p rfl (S_cat rfl (.tmp rfl) (.tmp rfl) (by simp only [List.length_append]; omega))) <|
        .cons rfl (Q_p rfl (S_assign rfl (.tmp rfl))) <|
        .nil) ?_
    refine AC_region ?_
    refine AL_p rfl rfl (S_move rfl (.tmp rfl)) ?_
    refine AL_p rfl rfl (S_addI rfl (.tmp rfl) (AEv.const _) (by omega) (by omega)) ?_
    refine AL_p rfl rfl (S_assign rfl (.tmp rfl)) ?_
    refine AL_nil ?_
    exact ⟨i + 1, by omega, by omega, (Sub.l (List.Sublist.refl _)), (.cons rfl (Le.of_eq (congrArg AV.S (by rw [listB_next hil]; simp [labB]))) (.cons rfl (by first | exact Le.refl _ | exact Le.nils | exact Le.row _ _ _ _ | exact Le.of_eq (by first | rfl | (simp; done) | (push_cast; rfl) | (simp; omega))) .nil)), (.cons rfl (Le.refl _) (.cons rfl (Le.refl _) .nil))⟩
  try simp only [zA, zO, zN, zM, zP, zQ, zD, zF, gd] at hb1
  have hx : l.take i = l := List.take_of_length_le (by omega)
  refine AC_exit ?_
  refine AC_seq ?_
  refine AC_region ?_
  refine AL_p rfl rfl (S_move rfl (.tmp rfl)) ?_
  refine AL_p rfl rfl (S_assign rfl (.tmp rfl)) ?_
  refine AL_nil ?_
  refine AC_ret ?_
  refine ret_tmp st rfl rfl (Sub.l (List.Sublist.refl _)) (Conv.refl (Sub.l (List.Sublist.refl _)) _) ⟨congrArg AV.S (by rw [hx]; rfl), rfl⟩ (.inl rfl)

set_option maxRecDepth 100000 in
/-- provost/provostref07.res -/
theorem ref07_res_ok (r : Tri) (hr : TriOk r) : PCalls Tryz.prog 96 [resAV r] (.S (triB r)) := by
  intro st
  refine ACalls_of (N := 14) Tryz.func96 (by kernel_rfl) rfl rfl rfl ?_
  have hr1 := hr.1
  have hr2 := hr.2.1
  have hr3 := hr.2.2
  unfold MR at hr1 hr2 hr3
  have n1 := numB_len (n := r.1) (by omega)
  have n2 := numB_len (n := r.2.1) (by omega)
  have n3 := numB_len (n := r.2.2) (by omega)
  refine AC_seq ?_
  refine AC_region ?_
  refine AL_step rfl rfl (S_box rfl (.tmp rfl)) ?_
  rintro _ _ ⟨b1, rfl, rfl⟩
  refine AL_p rfl rfl (S_assign rfl (AEv.S _)) ?_
  refine AL_nil ?_
  refine AC_seq ?_
  refine AC_draw (by kernel_rfl) (by kernel_rfl) (.cons rfl (Q_p rfl (S_field 0 rfl (.tmp rfl) (by kernel_rfl))) <|
      .cons rfl (Q_p rfl (S_load 0 rfl (.tmp rfl) rfl rfl (by kernel_rfl))) <|
      .cons rfl (Q_p rfl (S_pcall rfl (AEvs.cons (.tmp rfl) AEvs.nil) (ref07_number_ok r.1 (by omega) (by omega)))) <|
      .cons rfl (Q_p rfl (S_field 1 rfl (.tmp rfl) (by kernel_rfl))) <|
      .cons rfl (Q_p rfl (S_load 0 rfl (.tmp rfl) rfl rfl (by kernel_rfl))) <|
      .cons rfl (Q_p rfl (S_pcall rfl (AEvs.cons (.tmp rfl) AEvs.nil) (ref07_number_ok r.2.1 (by omega) (by omega)))) <|
      .cons rfl (Q_p rfl (S_cat rfl (.tmp rfl) (.tmp rfl) (by first | omega | (simp only [List.length_append]; omega)))) <|
      .cons rfl (Q_p rfl (S_field 2 rfl (.tmp rfl) (by kernel_rfl))) <|
      .cons rfl (Q_p rfl (S_load 0 rfl (.tmp rfl) rfl rfl (by kernel_rfl))) <|
      .cons rfl (Q_p rfl (S_pcall rfl (AEvs.cons (.tmp rfl) AEvs.nil) (ref07_number_ok r.2.2 (by omega) (by omega)))) <|
      .cons rfl (Q_p rfl (S_cat rfl (.tmp rfl) (.tmp rfl) (by first | omega | (simp only [List.length_append]; omega)))) <|
      .cons rfl (Q_p rfl (S_assign rfl (.tmp rfl))) <|
      .nil) ?_
  refine AC_ret ?_
  refine ret_tmp st rfl rfl (Sub.l (List.sublist_cons_self _ _)) (Conv.refl (Sub.l (List.sublist_cons_self _ _)) _) ⟨congrArg AV.S (triB_assoc r), rfl⟩ (.inl rfl)

set_option maxRecDepth 100000 in
set_option maxHeartbeats 2000000 in
/-- provost/provostref07.containers -/
theorem ref07_containers_ok (l : List Ctr) (hl : l.length ≤ 1000) (hls : ∀ x ∈ l, CtrOk x) : PCalls Tryz.prog 63 [.sl (ctrsV l)] (.S (listB ctrB l)) := by
  intro st
  refine ACalls_of (N := 69) Tryz.func63 (by kernel_rfl) rfl rfl rfl ?_
  have hp := putL_few l.length (by omega)
  refine AC_seq ?_
  refine AC_region ?_
  refine AL_p rfl rfl (S_assign rfl (AEv.S _)) ?_
  refine AL_nil ?_
  refine AC_seq ?_
  refine AC_region ?_
  refine AL_p rfl rfl (S_move rfl (.tmp rfl)) ?_
  refine AL_p rfl rfl (by first | exact S_lenM (e := 114) rfl (.tmp rfl) (by kernel_rfl) | exact S_len (e := 114) rfl (.tmp rfl) (by kernel_rfl)) ?_
  refine AL_p rfl rfl (S_pcall rfl (AEvs.cons (.tmp rfl) AEvs.nil) (ref07_number_ok (l.length : Int) (by omega) (by omega))) ?_
  refine AL_p rfl rfl (S_assign rfl (.tmp rfl)) ?_
  refine AL_nil ?_
  refine AC_seq ?_
  refine AC_seq ?_
  refine AC_region ?_
  refine AL_p rfl rfl (S_assign rfl (AEv.const _)) ?_
  refine AL_nil ?_
  refine AC_block ?_
  refine AC_loopK (G := Nat) [(0, _), (2, _)] (fun g => g ≤ l.length) (fun g => [(3, .S (putL l.length ++ (l.take g).flatMap ctrB)), (4, .int .i64 (g : Int))]) (fun g => st) (fun g => l.length - g) (0) (Nat.zero_le _) (Sub.l (List.Sublist.refl _)) (.cons rfl (Le.refl _) (.cons rfl (Le.refl _) .nil)) (.cons rfl (Le.of_eq (congrArg AV.S (by simp [numB]))) (.cons rfl (by first | exact Le.refl _ | exact Le.nils | exact Le.row _ _ _ _ | exact Le.of_eq (by first | rfl | (simp; done) | (push_cast; rfl) | (simp; omega))) .nil)) ?_
  rintro i hi
  try dsimp only
  simp only [List.cons_append, List.nil_append]
  have hfm := flatB_len (e := ctrB) (B := 1000) (l := l.take i) fun x hx => ctrB_len (hls x (List.mem_of_mem_take hx))
  rw [List.length_take, show min i l.length = i by omega] at hfm
  refine AC_seq ?_
  refine AC_seq ?_
  refine AC_region ?_
  refine AL_p rfl rfl (S_move rfl (.tmp rfl)) ?_
  refine AL_p rfl rfl (S_move rfl (.tmp rfl)) ?_
  refine AL_p rfl rfl (by first | exact S_lenM (e := 114) rfl (.tmp rfl) (by kernel_rfl) | exact S_len (e := 114) rfl (.tmp rfl) (by kernel_rfl)) ?_
  refine AL_p rfl rfl (S_lss rfl (.tmp rfl) (.tmp rfl)) ?_
  refine AL_nil ?_
  refine AC_cond (.tmp rfl) (fun hb1 => ?_) (fun hb1 => ?_)
  · try simp only [zA, zO, zN, zM, zP, zQ, zD, zF, gd] at hb1
    have hil : i < l.length := by first | omega | (have h9 := hb1; simp [ctrsV] at h9; omega)
    obtain ⟨hd1, hd2, hd3, hd4, hd5, hd6, hd7⟩ := hls _ (List.getElem_mem hil)
    have n1 := textB_len (s := (l[i]'hil).name) (by omega)
    have n2 := textB_len (s := (l[i]'hil).image) (by omega)
    have n3 := triB_len hd3
    have n4 := triB_len hd4
    have hp1 := hd5.1
    have n5 := numB_len (n := ((l[i]'hil).ports.length : Int)) (by omega)
    have n6 := numB_len (n := (l[i]'hil).probe.1) (by omega)
    have n7 := numB_len (n := (l[i]'hil).probe.2) (by omega)
    refine AC_skip ?_
    refine AC_seq ?_
    refine AC_block ?_
    refine AC_seq ?_
    refine AC_region ?_
    refine AL_p rfl rfl (S_move rfl (.tmp rfl)) ?_
    refine AL_p rfl rfl (S_move rfl (.tmp rfl)) ?_
    refine AL_p rfl rfl (S_elemN (e := 114) 11 rfl (.tmp rfl) (.tmp rfl) (by kernel_rfl) (by kernel_rfl) (by omega) (fun _ => rfl)) ?_
    refine AL_p rfl rfl (S_loadPN (m := 11) rfl (.tmp rfl) (by kernel_rfl) (by first | exact Nat.le_of_ble_eq_true rfl | (simp; omega) | simp)) ?_
    refine AL_step rfl rfl (S_alloc [.string ⟨#[]⟩, .string ⟨#[]⟩, .int .i64 0, .int .i64 0, .int .i64 0, .int .i64 0, .int .i64 0, .int .i64 0, .slice none 0 0, .int .i64 0, .int .i64 0] rfl (by kernel_rfl)) ?_
    rintro _ _ ⟨b5, rfl, rfl⟩
    refine AL_step rfl rfl (S_storeW 0 rfl (.tmp rfl) (.tmp rfl) rfl rfl rfl (by kernel_rfl)) ?_
    rintro _ _ ⟨rfl, rfl⟩
    refine AL_nil ?_
    refine AC_seq ?_
    refine AC_draw (by kernel_rfl) (by kernel_rfl) (.cons rfl (Q_p rfl (S_move rfl (.tmp rfl))) <|
        .cons rfl (Q_p rfl (S_field 0 rfl (.tmp rfl) (by kernel_rfl))) <|
        .cons rfl (Q_p rfl (S_load 0 rfl (.tmp rfl) rfl rfl (by kernel_rfl))) <|
        .cons rfl (Q_p rfl (S_pcall rfl (AEvs.cons (.tmp rfl) AEvs.nil) (ref04_Bytes_ok (l[i]'hil).name (by omega)))) <|
        .cons rfl (Q_p rfl (S_cat rfl (.tmp rfl) (.tmp rfl) (by first | omega | (simp only [List.length_append]; omega)))) <|
        .cons rfl (Q_p rfl (S_field 1 rfl (.tmp rfl) (by kernel_rfl))) <|
        .cons rfl (Q_p rfl (S_load 0 rfl (.tmp rfl) rfl rfl (by kernel_rfl))) <|
        .cons rfl (Q_p rfl (S_pcall rfl (AEvs.cons (.tmp rfl) AEvs.nil) (ref04_Bytes_ok (l[i]'hil).image (by omega)))) <|
        .cons rfl (Q_p rfl (S_cat rfl (.tmp rfl) (.tmp rfl) (by first | omega | (simp only [List.length_append]; omega)))) <|
        .cons rfl (Q_p rfl (S_field 2 rfl (.tmp rfl) (by kernel_rfl))) <|
        .cons rfl (Q_p rfl (S_loadN (m := 3) 0 rfl (.tmp rfl) rfl (by kernel_rfl) (by first | exact Nat.le_of_ble_eq_true rfl | (simp; omega) | simp))) <|
        .cons rfl (Q_p rfl (S_pcall rfl (AEvs.cons (.tmp rfl) AEvs.nil) (ref07_res_ok (l[i]'hil).req hd3))) <|
        .cons rfl (Q_p rfl (S_cat rfl (.tmp rfl) (.tmp rfl) (by first | omega | (simp only [List.length_append]; omega)))) <|
        .cons rfl (Q_p rfl (S_field 5 rfl (.tmp rfl) (by kernel_rfl))) <|
        .cons rfl (Q_p rfl (S_loadN (m := 3) 0 rfl (.tmp rfl) rfl (by kernel_rfl) (by first | exact Nat.le_of_ble_eq_true rfl | (simp; omega) | simp))) <|
        .cons rfl (Q_p rfl (S_pcall rfl (AEvs.cons (.tmp rfl) AEvs.nil) (ref07_res_ok (l[i]'hil).lim hd4))) <|
        .cons rfl (Q_p rfl (S_cat rfl (.tmp rfl) (.tmp rfl) (by first | omega | (simp only [List.length_append]; omega)))) <|
        .cons rfl (Q_p rfl (S_field 8 rfl (.tmp rfl) (by kernel_rfl))) <|
        .cons rfl (Q_p rfl (S_load 0 rfl (.tmp rfl) rfl rfl (by kernel_rfl))) <|
        .cons rfl (Q_p rfl (by first | exact S_lenM (e := 3) rfl (.tmp rfl) (by kernel_rfl) | exact S_len (e := 3) rfl (.tmp rfl) (by kernel_rfl))) <|
        .cons rfl (Q_p rfl (S_pcall rfl (AEvs.cons (.tmp rfl) AEvs.nil) (ref07_number_ok ((l[i]'hil).ports.length : Int) (by omega) (by omega)))) <|
        .cons rfl (Q_p rfl (S_cat rfl (.tmp rfl) (.tmp rfl) (by first | omega | (simp only [List.length_append]; omega)))) <|
        .cons rfl (Q_p rfl (S_assign rfl (.tmp rfl))) <|
        .nil) ?_
    refine AC_seq ?_
    refine AC_seq ?_
    refine AC_region ?_
    refine AL_p rfl rfl (S_assign rfl (AEv.const _)) ?_
    refine AL_nil ?_
    refine AC_block ?_
    refine AC_loopK (G := Nat) [(0, _), (2, _), (4, _), (5, _)] (fun g => g ≤ (l[i]'hil).ports.length) (fun g => [(3, .S (((((((putL l.length ++ (l.take i).flatMap ctrB) ++ textB (l[i]'hil).name) ++ textB (l[i]'hil).image) ++ triB (l[i]'hil).req) ++ triB (l[i]'hil).lim) ++ numB ((l[i]'hil).ports.length : Int)) ++ ((l[i]'hil).ports.take g).flatMap numB)), (6, .int .i64 (g : Int))]) (fun g => (b5, .cells (ctrL (l[i]'hil))) :: st) (fun g => (l[i]'hil).ports.length - g) (0) (Nat.zero_le _) (Sub.l (List.Sublist.refl _)) (.cons rfl (Le.refl _) (.cons rfl (Le.refl _) (.cons rfl (Le.refl _) (.cons rfl (Le.refl _) .nil)))) (.cons rfl (Le.of_eq (congrArg AV.S (by simp))) (.cons rfl (by first | exact Le.refl _ | exact Le.nils | exact Le.row _ _ _ _ | exact Le.of_eq (by first | rfl | (simp; done) | (push_cast; rfl) | (simp; omega))) .nil)) ?_
    rintro j hj
    try dsimp only
    simp only [List.cons_append, List.nil_append]
    have hfp := flatB_len (e := numB) (B := 10) (l := (l[i]'hil).ports.take j) fun n hn => numB_len (by have := (hd5.2 n (List.mem_of_mem_take hn)).2; omega)
    rw [List.length_take, show min j (l[i]'hil).ports.length = j by omega] at hfp
    refine AC_seq ?_
    refine AC_seq ?_
    refine AC_region ?_
    refine AL_p rfl rfl (S_move rfl (.tmp rfl)) ?_
    refine AL_p rfl rfl (S_field 8 rfl (.tmp rfl) (by kernel_rfl)) ?_
    refine AL_p rfl rfl (S_load 0 rfl (.tmp rfl) rfl rfl (by kernel_rfl)) ?_
    refine AL_p rfl rfl (by first | exact S_lenM (e := 3) rfl (.tmp rfl) (by kernel_rfl) | exact S_len (e := 3) rfl (.tmp rfl) (by kernel_rfl)) ?_
    refine AL_p rfl rfl (S_lss rfl (.tmp rfl) (.tmp rfl)) ?_
    refine AL_nil ?_
    refine AC_cond (.tmp rfl) (fun hb3 => ?_) (fun hb3 => ?_)
    · try simp only [zA, zO, zN, zM, zP, zQ, zD, zF, gd] at hb3
      have hjl : j < (l[i]'hil).ports.length := by first | omega | (have h9 := hb3; simp [intsV] at h9; omega)
      have hpj := hd5.2 _ (List.getElem_mem hjl)
      have n8 := numB_len (n := ((l[i]'hil).ports[j]'hjl)) (by omega)
      refine AC_skip ?_
      refine AC_seq ?_
      refine AC_block ?_
      refine AC_region ?_
      refine AL_p rfl rfl (S_move rfl (.tmp rfl)) ?_
      refine AL_p rfl rfl (S_field 8 rfl (.tmp rfl) (by kernel_rfl)) ?_
      refine AL_p rfl rfl (S_load 0 rfl (.tmp rfl) rfl rfl (by kernel_rfl)) ?_
      refine AL_p rfl rfl (S_move rfl (.tmp rfl)) ?_
      refine AL_p rfl rfl (S_elemN (e := 3) 1 rfl (.tmp rfl) (.tmp rfl) (by kernel_rfl) (by kernel_rfl) (by omega) (fun _ => rfl)) ?_
      refine AL_p rfl rfl (S_loadP rfl (.tmp rfl) rfl (by kernel_rfl)) ?_
      refine AL_p rfl rfl (S_pcall rfl (AEvs.cons (.tmp rfl) AEvs.nil) (ref07_number_ok ((l[i]'hil).ports[j]'hjl) (by omega) (by omega))) ?_
      refine AL_p rfl rfl (S_cat rfl (.tmp rfl) (.tmp rfl) (by first | omega | (simp only [List.length_append]; omega))) ?_
      refine AL_p rfl rfl (S_assign rfl (.tmp rfl)) ?_
      refine AL_nil ?_
      refine AC_region ?_
      refine AL_p rfl rfl (S_move rfl (.tmp rfl)) ?_
      refine AL_p rfl rfl (S_addI rfl (.tmp rfl) (AEv.const _) (by omega) (by omega)) ?_
      refine AL_p rfl rfl (S_assign rfl (.tmp rfl)) ?_
      refine AL_nil ?_
      exact ⟨j + 1, by omega, by omega, (Sub.l (List.Sublist.refl _)), (.cons rfl (Le.of_eq (congrArg AV.S (by rw [flatB_next hjl]))) (.cons rfl (by first | exact Le.refl _ | exact Le.nils | exact Le.row _ _ _ _ | exact Le.of_eq (by first | rfl | (simp; done) | (push_cast; rfl) | (simp; omega))) .nil)), (.cons rfl (Le.refl _) (.cons rfl (Le.refl _) (.cons rfl (Le.refl _) (.cons rfl (Le.refl _) .nil))))⟩
    try simp only [zA, zO, zN, zM, zP, zQ, zD, zF, gd] at hb3
    have hx : (l[i]'hil).ports.take j = (l[i]'hil).ports := List.take_of_length_le (by first | omega | (have h9 := hb3; simp [intsV] at h9; omega))
    refine AC_exit ?_
    refine AC_draw (by kernel_rfl) (by kernel_rfl) (.cons rfl (Q_p rfl (S_move rfl (.tmp rfl))) <|
        .cons rfl (Q_p rfl (S_field 9 rfl (.tmp rfl) (by kernel_rfl))) <|
        .cons rfl (Q_p rfl (S_field 0 rfl (.tmp rfl) (by kernel_rfl))) <|
        .cons rfl (Q_p rfl (S_load 0 rfl (.tmp rfl) rfl rfl (by kernel_rfl))) <|
        .cons rfl (Q_p rfl (S_pcall rfl (AEvs.cons (.tmp rfl) AEvs.nil) (ref07_number_ok (l[i]'hil).probe.1 (by omega) (by omega)))) <|
        .cons rfl (Q_p rfl (S_cat rfl (.tmp rfl) (.tmp rfl) (by first | omega | (simp only [List.length_append]; omega)))) <|
        .cons rfl (Q_p rfl (S_field 9 rfl (.tmp rfl) (by kernel_rfl))) <|
        .cons rfl (Q_p rfl (S_field 1 rfl (.tmp rfl) (by kernel_rfl))) <|
        .cons rfl (Q_p rfl (S_load 0 rfl (.tmp rfl) rfl rfl (by kernel_rfl))) <|
        .cons rfl (Q_p rfl (S_pcall rfl (AEvs.cons (.tmp rfl) AEvs.nil) (ref07_number_ok (l[i]'hil).probe.2 (by omega) (by omega)))) <|
        .cons rfl (Q_p rfl (S_cat rfl (.tmp rfl) (.tmp rfl) (by first | omega | (simp only [List.length_append]; omega)))) <|
        .cons rfl (Q_p rfl (S_assign rfl (.tmp rfl))) <|
        .nil) ?_
    refine AC_region ?_
    refine AL_p rfl rfl (S_move rfl (.tmp rfl)) ?_
    refine AL_p rfl rfl (S_addI rfl (.tmp rfl) (AEv.const _) (by omega) (by omega)) ?_
    refine AL_p rfl rfl (S_assign rfl (.tmp rfl)) ?_
    refine AL_nil ?_
    exact ⟨i + 1, by omega, by omega, (Sub.l (List.sublist_cons_self _ _)), (.cons rfl (Le.of_eq (congrArg AV.S (by rw [listB_next hil, hx]; simp [ctrB, portsB, listB, numB]))) (.cons rfl (by first | exact Le.refl _ | exact Le.nils | exact Le.row _ _ _ _ | exact Le.of_eq (by first | rfl | (simp; done) | (push_cast; rfl) | (simp; omega))) .nil)), (.cons rfl (Le.refl _) (.cons rfl (Le.refl _) .nil))⟩
  try simp only [zA, zO, zN, zM, zP, zQ, zD, zF, gd] at hb1
  have hx : l.take i = l := List.take_of_length_le (by first | omega | (have h9 := hb1; simp [ctrsV] at h9; omega))
  refine AC_exit ?_
  refine AC_seq ?_
  refine AC_region ?_
  refine AL_p rfl rfl (S_move rfl (.tmp rfl)) ?_
  refine AL_p rfl rfl (S_assign rfl (.tmp rfl)) ?_
  refine AL_nil ?_
  refine AC_ret ?_
  refine ret_tmp st rfl rfl (Sub.l (List.Sublist.refl _)) (Conv.refl (Sub.l (List.Sublist.refl _)) _) ⟨congrArg AV.S (by rw [hx]; rfl), rfl⟩ (.inl rfl)

set_option maxRecDepth 100000 in
set_option maxHeartbeats 1000000 in
/-- provost/provostref07.Bytes -/
theorem ref07_Bytes_ok (s : Spc) (hk : checkE s = none) : PCalls Tryz.prog 33 [spcAV s] (.S (spcB s)) := by
  intro st
  refine ACalls_of (N := 30) Tryz.func33 (by kernel_rfl) rfl rfl rfl ?_
  obtain ⟨hk1, hk2, hk3, hk4, hk5, hk6, hk7⟩ := check_ok hk
  have hk21 := hk2.1
  have hk31 := hk3.1
  have hk41 := hk4.1
  have n1 := textB_len (s := s.name) (by omega)
  have n2 := listB_len (e := labB) (l := s.labels) (B := 1000) (by omega) fun x hx => labB_len (by have := (hk2.2 x hx).1; omega) (by have := (hk2.2 x hx).2; omega)
  have n3 := listB_len (e := ctrB) (l := s.init) (B := 1000) (by omega) fun y hy => ctrB_len (hk3.2 y hy)
  have n4 := listB_len (e := ctrB) (l := s.main) (B := 1000) (by omega) fun y hy => ctrB_len (hk4.2 y hy)
  have n5 := numB_len (n := s.restart) (by omega)
  have n6 := numB_len (n := s.grace) (by omega)
  have n7 := numB_len (n := s.prio) (by omega)
  refine AC_seq ?_
  refine AC_region ?_
  refine AL_step rfl rfl (S_box rfl (.tmp rfl)) ?_
  rintro _ _ ⟨b1, rfl, rfl⟩
  refine AL_p rfl rfl (S_assign rfl (AEv.S _)) ?_
  refine AL_nil ?_
  refine AC_seq ?_
  refine AC_draw (by kernel_rfl) (by kernel_rfl) (.cons rfl (Q_p rfl (S_field 0 rfl (.tmp rfl) (by kernel_rfl))) <|
      .cons rfl (Q_p rfl (S_load 0 rfl (.tmp rfl) rfl rfl (by kernel_rfl))) <|
      .cons rfl (Q_p rfl (S_pcall rfl (AEvs.cons (.tmp rfl) AEvs.nil) (ref04_Bytes_ok s.name (by omega)))) <|
      .cons rfl (Q_p rfl (S_field 1 rfl (.tmp rfl) (by kernel_rfl))) <|
      .cons rfl (Q_p rfl (S_load 0 rfl (.tmp rfl) rfl rfl (by kernel_rfl))) <|
      .cons rfl (Q_p rfl (S_pcall rfl (AEvs.cons (.tmp rfl) AEvs.nil) (ref07_Labels_ok s.labels (by omega) (fun x hx => ⟨by have := (hk2.2 x hx).1; omega, by have := (hk2.2 x hx).2; omega⟩)))) <|
      .cons rfl (Q_p rfl (S_cat rfl (.tmp rfl) (.tmp rfl) (by first | omega | (simp only [List.length_append]; omega)))) <|
      .cons rfl (Q_p rfl (S_field 2 rfl (.tmp rfl) (by kernel_rfl))) <|
      .cons rfl (Q_p rfl (S_load 0 rfl (.tmp rfl) rfl rfl (by kernel_rfl))) <|
      .cons rfl (Q_p rfl (S_pcall rfl (AEvs.cons (.tmp rfl) AEvs.nil) (ref07_containers_ok s.init (by omega) hk3.2))) <|
      .cons rfl (Q_p rfl (S_cat rfl (.tmp rfl) (.tmp rfl) (by first | omega | (simp only [List.length_append]; omega)))) <|
      .cons rfl (Q_p rfl (S_field 3 rfl (.tmp rfl) (by kernel_rfl))) <|
      .cons rfl (Q_p rfl (S_load 0 rfl (.tmp rfl) rfl rfl (by kernel_rfl))) <|
      .cons rfl (Q_p rfl (S_pcall rfl (AEvs.cons (.tmp rfl) AEvs.nil) (ref07_containers_ok s.main (by omega) hk4.2))) <|
      .cons rfl (Q_p rfl (S_cat rfl (.tmp rfl) (.tmp rfl) (by first | omega | (simp only [List.length_append]; omega)))) <|
      .cons rfl (Q_p rfl (S_field 4 rfl (.tmp rfl) (by kernel_rfl))) <|
      .cons rfl (Q_p rfl (S_load 0 rfl (.tmp rfl) rfl rfl (by kernel_rfl))) <|
      .cons rfl (Q_p rfl (S_pcall rfl (AEvs.cons (.tmp rfl) AEvs.nil) (ref07_number_ok s.restart (by omega) (by omega)))) <|
      .cons rfl (Q_p rfl (S_cat rfl (.tmp rfl) (.tmp rfl) (by first | omega | (simp only [List.length_append]; omega)))) <|
      .cons rfl (Q_p rfl (S_field 5 rfl (.tmp rfl) (by kernel_rfl))) <|
      .cons rfl (Q_p rfl (S_load 0 rfl (.tmp rfl) rfl rfl (by kernel_rfl))) <|
      .cons rfl (Q_p rfl (S_pcall rfl (AEvs.cons (.tmp rfl) AEvs.nil) (ref07_number_ok s.grace (by omega) (by omega)))) <|
      .cons rfl (Q_p rfl (S_cat rfl (.tmp rfl) (.tmp rfl) (by first | omega | (simp only [List.length_append]; omega)))) <|
      .cons rfl (Q_p rfl (S_field 6 rfl (.tmp rfl) (by kernel_rfl))) <|
      .cons rfl (Q_p rfl (S_load 0 rfl (.tmp rfl) rfl rfl (by kernel_rfl))) <|
      .cons rfl (Q_p rfl (S_pcall rfl (AEvs.cons (.tmp rfl) AEvs.nil) (ref07_number_ok s.prio (by omega) (by omega)))) <|
      .cons rfl (Q_p rfl (S_cat rfl (.tmp rfl) (.tmp rfl) (by first | omega | (simp only [List.length_append]; omega)))) <|
      .cons rfl (Q_p rfl (S_assign rfl (.tmp rfl))) <|
      .nil) ?_
  refine AC_ret ?_
  refine ret_tmp st rfl rfl (Sub.l (List.sublist_cons_self _ _)) (Conv.refl (Sub.l (List.sublist_cons_self _ _)) _) ⟨congrArg AV.S (by simp [spcB, labsB, ctrsB]), rfl⟩ (.inl rfl)

end Go.Proofs.YtcbnokpgklmndaaGreatDoor

/-
The walks of Go functions in the logic AL: what each of them answers.
Conditions: those of each theorem.
-/
set_option linter.unusedVariables false
set_option linter.unusedSimpArgs false
namespace Go.Proofs.YtcbnokpgklmndaaGreatDoor
open Go.AL Go.NumSpec

set_option maxRecDepth 100000 in
set_option maxHeartbeats 2000000 in
/-- provost/provostref08.Bytes -/
theorem ref08_Bytes_ok (x : Cal) (hu : x.rev < 18446744073709551616) (hk : checkA x = none) : PCalls Tryz.prog 12 [calAV x] (.S (calB x)) := by
  intro st
  refine ACalls_of (N := 70) Tryz.func12 (by kernel_rfl) rfl rfl rfl ?_
  obtain ⟨hcal, hff⟩ := checkA_ok hu hk
  have hk1 := hcal.1.1
  have hk2 := hcal.1.2
  have hfw := fields_few x.kind.toNat
  have hfl := fieldsN_few x.kind.toNat
  have hkl := numB_len (n := x.kind) (by omega)
  refine AC_seq ?_
  refine AC_region ?_
  refine AL_step rfl rfl (S_box rfl (.tmp rfl)) ?_
  rintro _ _ ⟨b1, rfl, rfl⟩
  refine AL_p rfl rfl (S_assign rfl (AEv.S _)) ?_
  refine AL_nil ?_
  refine AC_seq ?_
  refine AC_region ?_
  refine AL_p rfl rfl (S_field 0 rfl (.tmp rfl) (by kernel_rfl)) ?_
  refine AL_p rfl rfl (S_load 0 rfl (.tmp rfl) rfl rfl (by kernel_rfl)) ?_
  refine AL_p rfl rfl ((S_conv (k' := .u64) rfl (.tmp rfl) (by kernel_rfl) (by kernel_rfl)).ofV (V' := .int .u64 (((x.kind).toNat : Nat) : Int)) (congrArg (AV.int .u64) (by rw [u64w]; omega))) ?_
  refine AL_p rfl rfl (S_pcall rfl (AEvs.cons (.tmp rfl) AEvs.nil) (ref_Put_ok x.kind.toNat (by omega))) ?_
  refine AL_p rfl rfl (S_assign rfl (.tmp rfl)) ?_
  refine AL_nil ?_
  refine AC_seq ?_
  refine AC_region ?_
  refine AL_p rfl rfl (S_field 0 rfl (.tmp rfl) (by kernel_rfl)) ?_
  refine AL_p rfl rfl (S_load 0 rfl (.tmp rfl) rfl rfl (by kernel_rfl)) ?_
  refine AL_p rfl rfl (S_pcall rfl (AEvs.cons (.tmp rfl) AEvs.nil) (ref08_Fields_ok x.kind)) ?_
  refine AL_p rfl rfl (S_assign rfl (.tmp rfl)) ?_
  refine AL_nil ?_
  refine AC_seq ?_
  refine AC_seq ?_
  refine AC_region ?_
  refine AL_p rfl rfl (S_assign rfl (AEv.const _)) ?_
  refine AL_nil ?_
  refine AC_block ?_
  refine AC_loopK (G := Nat) [(1, _), (2, _), (4, _)] (fun g => g ≤ (kindA x.kind.toNat).2.length) (fun g => [(3, .S (numB x.kind ++ ((kindA x.kind.toNat).2.take g).flatMap (fieldB x))), (5, .int .i64 (g : Int))]) (fun g => (b1, .cells (calL x)) :: st) (fun g => (kindA x.kind.toNat).2.length - g) (0) (Nat.zero_le _) (Sub.l (List.Sublist.refl _)) (.cons rfl (Le.refl _) (.cons rfl (Le.refl _) (.cons rfl (Le.refl _) .nil))) (.cons rfl (Le.of_eq (congrArg AV.S (by simp [numB]))) (.cons rfl (by first | exact Le.refl _ | exact Le.nils | exact Le.row _ _ _ _ | exact Le.of_eq (by first | rfl | (simp; done) | (push_cast; rfl) | (simp; omega))) .nil)) ?_
  rintro i hi
  try dsimp only
  simp only [List.cons_append, List.nil_append]
  have hfm := flatB_len (e := fieldB x) (B := 20000) (l := (kindA x.kind.toNat).2.take i) fun f hf => fieldB_few hu (hff f (List.mem_of_mem_take hf))
  rw [List.length_take, show min i (kindA x.kind.toNat).2.length = i by omega] at hfm
  refine AC_seq ?_
  refine AC_seq ?_
  refine AC_region ?_
  refine AL_p rfl rfl (S_move rfl (.tmp rfl)) ?_
  refine AL_p rfl rfl (S_move rfl (.tmp rfl)) ?_
  refine AL_p rfl rfl (by first | exact S_lenM (e := 9) rfl (.tmp rfl) (by kernel_rfl) | exact S_len (e := 9) rfl (.tmp rfl) (by kernel_rfl)) ?_
  refine AL_p rfl rfl (S_lss rfl (.tmp rfl) (.tmp rfl)) ?_
  refine AL_nil ?_
  refine AC_cond (.tmp rfl) (fun hb2 => ?_) (fun hb2 => ?_)
  · try simp only [zA, zO, zN, zM, zP, zQ, zD, zF, gd] at hb2
    have hil : i < (fieldsN x.kind.toNat).length := by first | omega | (have h9 := hb2; simp [strsV] at h9; simpa using h9)
    have hif : i < (kindA x.kind.toNat).2.length := by rw [List.length_map] at hil; exact hil
    have hfi : (fieldsN x.kind.toNat)[i]'hil = fname ((kindA x.kind.toNat).2[i]'hif) := List.getElem_map _
    have hfe := hff _ (List.getElem_mem hif)
    have hfq := fieldB_few hu hfe
    refine AC_skip ?_
    refine AC_seq ?_
    refine AC_block ?_
    refine AC_seq ?_
    refine AC_region ?_
    refine AL_p rfl rfl (S_move rfl (.tmp rfl)) ?_
    refine AL_p rfl rfl (S_move rfl (.tmp rfl)) ?_
    refine AL_p rfl rfl (S_elemN (e := 9) 1 rfl (.tmp rfl) (.tmp rfl) (by kernel_rfl) (by kernel_rfl) (by omega) (fun _ => rfl)) ?_
    refine AL_p rfl rfl (S_loadP rfl (.tmp rfl) rfl (by kernel_rfl)) ?_
    rw [hfi]
    refine AL_nil ?_
    refine AC_block ?_
    refine AC_seq ?_
    refine AC_region ?_
    refine AL_p rfl rfl (S_eqS rfl (.tmp rfl) (AEv.S _)) ?_
    refine AL_p rfl rfl (S_assign rfl (.tmp rfl)) ?_
    refine AL_nil ?_
    refine AC_cond (.tmp rfl) (fun hb3 => ?_) (fun hb3 => ?_)
    · try simp only [zA, zO, zN, zM, zP, zQ, zD, zF, gd] at hb3
      have hf9 : ((kindA x.kind.toNat).2[i]'hif) = 114 := (fname_in (kind_letters _ _ (List.getElem_mem hif)) (g := 114) (by unfold Letter; simp)).1 hb3
      have hfb : fieldB x ((kindA x.kind.toNat).2[i]'hif) = putL x.rev := by rw [hf9]; rfl
      have hpl := putL_few x.rev hu
      refine AC_region ?_
      refine AL_p rfl rfl (S_move rfl (.tmp rfl)) ?_
      refine AL_p rfl rfl (S_field 2 rfl (.tmp rfl) (by kernel_rfl)) ?_
      refine AL_p rfl rfl (S_load 0 rfl (.tmp rfl) rfl rfl (by kernel_rfl)) ?_
      refine AL_p rfl rfl (S_pcall rfl (AEvs.cons (.tmp rfl) AEvs.nil) (ref_Put_ok x.rev hu)) ?_
      refine AL_p rfl rfl (S_cat rfl (.tmp rfl) (.tmp rfl) (by first | omega | (simp only [List.length_append]; omega))) ?_
      refine AL_p rfl rfl (S_assign rfl (.tmp rfl)) ?_
      refine AL_nil ?_
      refine AC_region ?_
      refine AL_p rfl rfl (S_move rfl (.tmp rfl)) ?_
      refine AL_p rfl rfl (S_addI rfl (.tmp rfl) (AEv.const _) (by omega) (by omega)) ?_
      refine AL_p rfl rfl (S_assign rfl (.tmp rfl)) ?_
      refine AL_nil ?_
      exact ⟨i + 1, by omega, by omega, (Sub.l (List.Sublist.refl _)), (.cons rfl (Le.of_eq (congrArg AV.S (by rw [flatB_next hif, hfb]; try rfl))) (.cons rfl (by first | exact Le.refl _ | exact Le.nils | exact Le.row _ _ _ _ | exact Le.of_eq (by first | rfl | (simp; done) | (push_cast; rfl) | (simp; omega))) .nil)), (.cons rfl (Le.refl _) (.cons rfl (Le.refl _) (.cons rfl (Le.refl _) .nil)))⟩
    try simp only [zA, zO, zN, zM, zP, zQ, zD, zF, gd] at hb3
    have hm1 : ¬ fname ((kindA x.kind.toNat).2[i]'hif) = revN := hb3
    refine AC_seq ?_
    refine AC_region ?_
    refine AL_p rfl rfl (S_eqS rfl (.tmp rfl) (AEv.S _)) ?_
    refine AL_p rfl rfl (S_assign rfl (.tmp rfl)) ?_
    refine AL_nil ?_
    refine AC_cond (.tmp rfl) (fun hb4 => ?_) (fun hb4 => ?_)
    · try simp only [zA, zO, zN, zM, zP, zQ, zD, zF, gd] at hb4
      have hf9 : ((kindA x.kind.toNat).2[i]'hif) = 115 := (fname_in (kind_letters _ _ (List.getElem_mem hif)) (g := 115) (by unfold Letter; simp)).1 hb4
      have hfb : fieldB x ((kindA x.kind.toNat).2[i]'hif) = spcB x.spec := by rw [hf9]; rfl
      have hsn : checkE x.spec = none := by rw [hf9] at hfe; exact erIn_none hfe
      have hpl := spcB_len hsn
      refine AC_region ?_
      refine AL_p rfl rfl (S_move rfl (.tmp rfl)) ?_
      refine AL_p rfl rfl (S_field 3 rfl (.tmp rfl) (by kernel_rfl)) ?_
      refine AL_p rfl rfl (S_loadN (m := 7) 0 rfl (.tmp rfl) rfl (by kernel_rfl) (by first | exact Nat.le_of_ble_eq_true rfl | (simp; omega) | simp)) ?_
      refine AL_p rfl rfl (S_pcall rfl (AEvs.cons (.tmp rfl) AEvs.nil) (ref07_Bytes_ok x.spec hsn)) ?_
      refine AL_p rfl rfl (S_cat rfl (.tmp rfl) (.tmp rfl) (by first | omega | (simp only [List.length_append]; omega))) ?_
      refine AL_p rfl rfl (S_assign rfl (.tmp rfl)) ?_
      refine AL_nil ?_
      refine AC_region ?_
      refine AL_p rfl rfl (S_move rfl (.tmp rfl)) ?_
      refine AL_p rfl rfl (S_addI rfl (.tmp rfl) (AEv.const _) (by omega) (by omega)) ?_
      refine AL_p rfl rfl (S_assign rfl (.tmp rfl)) ?_
      refine AL_nil ?_
      exact ⟨i + 1, by omega, by omega, (Sub.l (List.Sublist.refl _)), (.cons rfl (Le.of_eq (congrArg AV.S (by rw [flatB_next hif, hfb]; try rfl))) (.cons rfl (by first | exact Le.refl _ | exact Le.nils | exact Le.row _ _ _ _ | exact Le.of_eq (by first | rfl | (simp; done) | (push_cast; rfl) | (simp; omega))) .nil)), (.cons rfl (Le.refl _) (.cons rfl (Le.refl _) (.cons rfl (Le.refl _) .nil)))⟩
    try simp only [zA, zO, zN, zM, zP, zQ, zD, zF, gd] at hb4
    have hm2 : ¬ fname ((kindA x.kind.toNat).2[i]'hif) = spcN := hb4
    refine AC_seq ?_
    refine AC_region ?_
    refine AL_p rfl rfl (S_eqS rfl (.tmp rfl) (AEv.S _)) ?_
    refine AL_p rfl rfl (S_assign rfl (.tmp rfl)) ?_
    refine AL_nil ?_
    refine AC_cond (.tmp rfl) (fun hb5 => ?_) (fun hb5 => ?_)
    · try simp only [zA, zO, zN, zM, zP, zQ, zD, zF, gd] at hb5
      have hf9 : ((kindA x.kind.toNat).2[i]'hif) = 100 := (fname_in (kind_letters _ _ (List.getElem_mem hif)) (g := 100) (by unfold Letter; simp)).1 hb5
      have hfb : fieldB x ((kindA x.kind.toNat).2[i]'hif) = textB x.data := by rw [hf9]; rfl
      have hdl : (x.data.length : Int) ≤ 32 := by have h8 := field_ok hu hfe; rw [hf9] at h8; exact h8
      have hpl := textB_len (s := x.data) (by omega)
      refine AC_region ?_
      refine AL_p rfl rfl (S_move rfl (.tmp rfl)) ?_
      refine AL_p rfl rfl (S_field 14 rfl (.tmp rfl) (by kernel_rfl)) ?_
      refine AL_p rfl rfl (S_load 0 rfl (.tmp rfl) rfl rfl (by kernel_rfl)) ?_
      refine AL_p rfl rfl (S_pcall rfl (AEvs.cons (.tmp rfl) AEvs.nil) (ref04_Bytes_ok x.data (by omega))) ?_
      refine AL_p rfl rfl (S_cat rfl (.tmp rfl) (.tmp rfl) (by first | omega | (simp only [List.length_append]; omega))) ?_
      refine AL_p rfl rfl (S_assign rfl (.tmp rfl)) ?_
      refine AL_nil ?_
      refine AC_region ?_
      refine AL_p rfl rfl (S_move rfl (.tmp rfl)) ?_
      refine AL_p rfl rfl (S_addI rfl (.tmp rfl) (AEv.const _) (by omega) (by omega)) ?_
      refine AL_p rfl rfl (S_assign rfl (.tmp rfl)) ?_
      refine AL_nil ?_
      exact ⟨i + 1, by omega, by omega, (Sub.l (List.Sublist.refl _)), (.cons rfl (Le.of_eq (congrArg AV.S (by rw [flatB_next hif, hfb]; try rfl))) (.cons rfl (by first | exact Le.refl _ | exact Le.nils | exact Le.row _ _ _ _ | exact Le.of_eq (by first | rfl | (simp; done) | (push_cast; rfl) | (simp; omega))) .nil)), (.cons rfl (Le.refl _) (.cons rfl (Le.refl _) (.cons rfl (Le.refl _) .nil)))⟩
    try simp only [zA, zO, zN, zM, zP, zQ, zD, zF, gd] at hb5
    have hm3 : ¬ fname ((kindA x.kind.toNat).2[i]'hif) = datN := hb5
    refine AC_seq ?_
    refine AC_region ?_
    refine AL_p rfl rfl (S_eqS rfl (.tmp rfl) (AEv.S _)) ?_
    refine AL_p rfl rfl (S_assign rfl (.tmp rfl)) ?_
    refine AL_nil ?_
    refine AC_cond (.tmp rfl) (fun hb6 => ?_) (fun hb6 => ?_)
    · try simp only [zA, zO, zN, zM, zP, zQ, zD, zF, gd] at hb6
      have hf9 : ((kindA x.kind.toNat).2[i]'hif) = 108 := (fname_in (kind_letters _ _ (List.getElem_mem hif)) (g := 108) (by unfold Letter; simp)).1 hb6
      have hfb : fieldB x ((kindA x.kind.toNat).2[i]'hif) = listB labB x.sel := by rw [hf9]; rfl
      have hll : LabsOk x.sel := by have h8 := field_ok hu hfe; rw [hf9] at h8; exact h8
      have hl1 := hll.1
      have hsl : ∀ y ∈ x.sel, y.1.length ≤ 400 ∧ y.2.length ≤ 400 := fun y hy => ⟨by have := (hll.2 y hy).1; omega, by have := (hll.2 y hy).2; omega⟩
      have hpl : (listB labB x.sel).length ≤ 20000 := by rw [← hfb]; exact hfq
      refine AC_region ?_
      refine AL_p rfl rfl (S_move rfl (.tmp rfl)) ?_
      refine AL_p rfl rfl (S_field 15 rfl (.tmp rfl) (by kernel_rfl)) ?_
      refine AL_p rfl rfl (S_load 0 rfl (.tmp rfl) rfl rfl (by kernel_rfl)) ?_
      refine AL_p rfl rfl (S_pcall rfl (AEvs.cons (.tmp rfl) AEvs.nil) (ref07_Labels_ok x.sel (by omega) hsl)) ?_
      refine AL_p rfl rfl (S_cat rfl (.tmp rfl) (.tmp rfl) (by first | omega | (simp only [List.length_append]; omega))) ?_
      refine AL_p rfl rfl (S_assign rfl (.tmp rfl)) ?_
      refine AL_nil ?_
      refine AC_region ?_
      refine AL_p rfl rfl (S_move rfl (.tmp rfl)) ?_
      refine AL_p rfl rfl (S_addI rfl (.tmp rfl) (AEv.const _) (by omega) (by omega)) ?_
      refine AL_p rfl rfl (S_assign rfl (.tmp rfl)) ?_
      refine AL_nil ?_
      exact ⟨i + 1, by omega, by omega, (Sub.l (List.Sublist.refl _)), (.cons rfl (Le.of_eq (congrArg AV.S (by rw [flatB_next hif, hfb]; try rfl))) (.cons rfl (by first | exact Le.refl _ | exact Le.nils | exact Le.row _ _ _ _ | exact Le.of_eq (by first | rfl | (simp; done) | (push_cast; rfl) | (simp; omega))) .nil)), (.cons rfl (Le.refl _) (.cons rfl (Le.refl _) (.cons rfl (Le.refl _) .nil)))⟩
    try simp only [zA, zO, zN, zM, zP, zQ, zD, zF, gd] at hb6
    have hm4 : ¬ fname ((kindA x.kind.toNat).2[i]'hif) = slN := hb6
    obtain ⟨hv0, hv1, hfb⟩ := bounds_num (kind_letters _ _ (List.getElem_mem hif)) hm1 hm2 hm3 hm4 hfe
    have hpl := numB_len (n := (boundsA x (fname ((kindA x.kind.toNat).2[i]'hif))).1) (by omega)
    have hpl2 : (putL (boundsA x (fname ((kindA x.kind.toNat).2[i]'hif))).1.toNat).length ≤ 10 := hpl
    refine AC_seq ?_
    refine AC_draw (by kernel_rfl) (by kernel_rfl) (.cons rfl (Q_p rfl (S_loadN (m := 16) 0 rfl (.tmp rfl) rfl (by kernel_rfl) (by first | exact Nat.le_of_ble_eq_true rfl | (simp; omega) | simp))) <|
        .cons rfl (Q_p rfl (S_move rfl (.tmp rfl))) <|
        .cons rfl (Q_p rfl (S_move rfl (.tmp rfl))) <|
        .cons rfl (Q_p rfl (S_elemN (e := 9) 1 rfl (.tmp rfl) (.tmp rfl) (by kernel_rfl) (by kernel_rfl) (by omega) (fun _ => rfl))) <|
        .cons rfl (Q_p rfl (S_loadP rfl (.tmp rfl) rfl (by kernel_rfl))) <|
        .cons rfl (Q_p rfl (S_pcall rfl (AEvs.cons (.tmp rfl) (AEvs.cons (y := .S (fname ((kindA x.kind.toNat).2[i]'hif))) ((AEv.tmp rfl).le (Le.of_eq (congrArg AV.S hfi))) AEvs.nil)) (ref08_bounds_ok x (fname ((kindA x.kind.toNat).2[i]'hif))))) <|
        .cons rfl (Q_p rfl (S_move rfl (.tmp rfl))) <|
        .cons rfl (Q_p rfl (S_extract 0 rfl (.tmp rfl) rfl)) <|
        .cons rfl (Q_p rfl (S_extract 1 rfl (.tmp rfl) rfl)) <|
        .cons rfl (Q_p rfl (S_extract 2 rfl (.tmp rfl) rfl)) <|
        .cons rfl (Q_p rfl (S_assign rfl (.tmp rfl))) <|
        .cons rfl (Q_p rfl (S_assign rfl (.tmp rfl))) <|
        .cons rfl (Q_p rfl (S_assign rfl (.tmp rfl))) <|
        .nil) ?_
    refine AC_region ?_
    refine AL_p rfl rfl (S_move rfl (.tmp rfl)) ?_
    refine AL_p rfl rfl (S_move rfl (.tmp rfl)) ?_
    refine AL_p rfl rfl ((S_conv (k' := .u64) rfl (.tmp rfl) (by kernel_rfl) (by kernel_rfl)).ofV (V' := .int .u64 ((((boundsA x (fname ((kindA x.kind.toNat).2[i]'hif))).1).toNat : Nat) : Int)) (congrArg (AV.int .u64) (by rw [u64w]; omega))) ?_
    refine AL_p rfl rfl (S_pcall rfl (AEvs.cons (.tmp rfl) AEvs.nil) (ref_Put_ok (boundsA x (fname ((kindA x.kind.toNat).2[i]'hif))).1.toNat (by omega))) ?_
    refine AL_p rfl rfl (S_cat rfl (.tmp rfl) (.tmp rfl) (by first | omega | (simp only [List.length_append]; omega))) ?_
    refine AL_p rfl rfl (S_assign rfl (.tmp rfl)) ?_
    refine AL_nil ?_
    refine AC_region ?_
    refine AL_p rfl rfl (S_move rfl (.tmp rfl)) ?_
    refine AL_p rfl rfl (S_addI rfl (.tmp rfl) (AEv.const _) (by omega) (by omega)) ?_
    refine AL_p rfl rfl (S_assign rfl (.tmp rfl)) ?_
    refine AL_nil ?_
    exact ⟨i + 1, by omega, by omega, (Sub.l (List.Sublist.refl _)), (.cons rfl (Le.of_eq (congrArg AV.S (by rw [flatB_next hif, hfb]; try rfl))) (.cons rfl (by first | exact Le.refl _ | exact Le.nils | exact Le.row _ _ _ _ | exact Le.of_eq (by first | rfl | (simp; done) | (push_cast; rfl) | (simp; omega))) .nil)), (.cons rfl (Le.refl _) (.cons rfl (Le.refl _) (.cons rfl (Le.refl _) .nil)))⟩
  try simp only [zA, zO, zN, zM, zP, zQ, zD, zF, gd] at hb2
  have hx : (kindA x.kind.toNat).2.take i = (kindA x.kind.toNat).2 := List.take_of_length_le (by first | omega | (have h9 := hb2; simp [strsV] at h9; simpa using h9))
  refine AC_exit ?_
  refine AC_seq ?_
  refine AC_region ?_
  refine AL_p rfl rfl (S_move rfl (.tmp rfl)) ?_
  refine AL_p rfl rfl (S_assign rfl (.tmp rfl)) ?_
  refine AL_nil ?_
  refine AC_ret ?_
  refine ret_tmp st rfl rfl (Sub.l (List.sublist_cons_self _ _)) (Conv.refl (Sub.l (List.sublist_cons_self _ _)) _) ⟨congrArg AV.S (by rw [hx]; rfl), rfl⟩ (.inl rfl)

set_option maxRecDepth 100000 in
/-- provost/provostlaw08.AskBytes -/
theorem law_AskBytes (x : Cal) (hu : x.rev < 18446744073709551616) : GCalls Tryz.prog tabs 3 [calAV x] (.bool true) := by
  intro st hG
  refine ACalls_of (N := 44) Tryz.func3 (by kernel_rfl) rfl rfl rfl ?_
  refine AC_seq ?_
  refine AC_region ?_
  refine AL_step rfl rfl (S_box rfl (.tmp rfl)) ?_
  rintro _ _ ⟨b1, rfl, rfl⟩
  refine AL_p rfl rfl (S_assign rfl (AEv.const _)) ?_
  refine AL_nil ?_
  refine AC_seq ?_
  refine AC_seq ?_
  refine AC_region ?_
  refine AL_p rfl rfl (S_loadN (m := 16) 0 rfl (.tmp rfl) rfl (by kernel_rfl) (by first | exact Nat.le_of_ble_eq_true rfl | (simp; omega) | simp)) ?_
  refine AL_p rfl rfl (S_pcall rfl (AEvs.cons (.tmp rfl) AEvs.nil) (law08_light_ok x)) ?_
  refine AL_p rfl rfl (S_not rfl (.tmp rfl)) ?_
  refine AL_nil ?_
  refine AC_cond (.tmp rfl) (fun hb2 => ?_) (fun hb2 => ?_)
  · try simp only [zA, zO, zN, zM, zP, zQ, zD, zF, gd] at hb2
    refine AC_seq ?_
    refine AC_region ?_
    refine AL_p rfl rfl (S_gcall rfl AEvs.nil ((law08_works_ok) _ (fun p hp => by repeat (first | exact hG p hp | refine List.mem_cons_of_mem _ ?_ | refine List.mem_append_right _ ?_)))) ?_
    refine AL_p rfl rfl (S_assign rfl (.tmp rfl)) ?_
    refine AL_nil ?_
    refine AC_ret ?_
    refine ret_tmp st rfl rfl (Sub.l (List.sublist_cons_self _ _)) (Conv.refl (Sub.l (List.sublist_cons_self _ _)) _) ⟨rfl, rfl⟩ (.inl rfl)
  try simp only [zA, zO, zN, zM, zP, zQ, zD, zF, gd] at hb2
  have hl : lightA x = true := by simpa using hb2
  have hsx := lightA_short hl
  refine AC_skip ?_
  refine AC_seq ?_
  refine AC_region ?_
  refine AL_p rfl rfl (S_loadN (m := 16) 0 rfl (.tmp rfl) rfl (by kernel_rfl) (by first | exact Nat.le_of_ble_eq_true rfl | (simp; omega) | simp)) ?_
  refine AL_p rfl rfl (S_gcall rfl (AEvs.cons (.tmp rfl) AEvs.nil) ((ask_Bytes_ok x hsx hu) _ (fun p hp => by repeat (first | exact hG p hp | refine List.mem_cons_of_mem _ ?_ | refine List.mem_append_right _ ?_)))) ?_
  refine AL_p rfl rfl (S_move rfl (.tmp rfl)) ?_
  refine AL_p rfl rfl (S_extract 0 rfl (.tmp rfl) rfl) ?_
  refine AL_p rfl rfl (S_extract 1 rfl (.tmp rfl) rfl) ?_
  refine AL_p rfl rfl (S_assign rfl (.tmp rfl)) ?_
  refine AL_p rfl rfl (S_assign rfl (.tmp rfl)) ?_
  refine AL_nil ?_
  refine AC_seq ?_
  refine AC_region ?_
  refine AL_p rfl rfl (S_loadN (m := 16) 0 rfl (.tmp rfl) rfl (by kernel_rfl) (by first | exact Nat.le_of_ble_eq_true rfl | (simp; omega) | simp)) ?_
  refine AL_p rfl rfl (S_pcall rfl (AEvs.cons (.tmp rfl) AEvs.nil) (ref08_Check_ok x hl)) ?_
  refine AL_p rfl rfl (S_move rfl (.tmp rfl)) ?_
  refine AL_p rfl rfl (S_extract 0 rfl (.tmp rfl) rfl) ?_
  refine AL_p rfl rfl (S_extract 1 rfl (.tmp rfl) rfl) ?_
  refine AL_p rfl rfl (S_assign rfl (.tmp rfl)) ?_
  refine AL_p rfl rfl (S_assign rfl (.tmp rfl)) ?_
  refine AL_nil ?_
  refine AC_seq ?_
  refine AC_seq ?_
  refine AC_region ?_
  refine AL_p rfl rfl (S_move rfl (.tmp rfl)) ?_
  refine AL_p rfl rfl (S_neq rfl (.tmp rfl) (AEv.const _)) ?_
  refine AL_nil ?_
  refine AC_cond (.tmp rfl) (fun hb3 => ?_) (fun hb3 => ?_)
  · try simp only [zA, zO, zN, zM, zP, zQ, zD, zF, gd] at hb3
    have hk : ¬ checkA x = none := fun h => hb3 (by rw [h]; rfl)
    refine AC_seq ?_
    refine AC_region ?_
    refine AL_p rfl rfl (S_move rfl (.tmp rfl)) ?_
    refine AL_p rfl rfl (S_eqS rfl (.tmp rfl) (AEv.S _)) ?_
    refine AL_p rfl rfl (S_move rfl (.tmp rfl)) ?_
    refine AL_g rfl rfl (.tmp rfl) rfl (fun hg4 => S_move rfl (.tmp rfl)) ?_
    refine AL_g rfl rfl (.tmp rfl) rfl (fun hg7 => S_move rfl (.tmp rfl)) ?_
    refine AL_g rfl rfl (.tmp rfl) rfl (fun hg10 => S_eql rfl (AEv.cond (.tmp rfl) (by first | assumption | exact gdAnd (by assumption) (by assumption))) (AEv.cond (.tmp rfl) (by first | assumption | exact gdAnd (by assumption) (by assumption)))) ?_
    refine AL_p rfl rfl (S_and rfl (.tmp rfl) (fun hp13 => (AEv.cond (.tmp rfl) (by first | assumption | exact gdT hp13 | exact gdF hp13 | exact gdAnd (by assumption) (gdT hp13) | exact gdAnd (by assumption) (gdF hp13))))) ?_
    refine AL_p rfl rfl (S_move rfl (.tmp rfl)) ?_
    refine AL_g rfl rfl (.tmp rfl) rfl (fun hg14 => S_gcall rfl AEvs.nil ((law08_works_ok) _ (fun p hp => by repeat (first | exact hG p hp | refine List.mem_cons_of_mem _ ?_ | refine List.mem_append_right _ ?_)))) ?_
    refine AL_p rfl rfl (S_and rfl (.tmp rfl) (fun hp17 => (AEv.cond (.tmp rfl) (by first | assumption | exact gdT hp17 | exact gdF hp17 | exact gdAnd (by assumption) (gdT hp17) | exact gdAnd (by assumption) (gdF hp17))))) ?_
    refine AL_p rfl rfl (S_assign rfl (.tmp rfl)) ?_
    refine AL_nil ?_
    refine AC_ret ?_
    refine ret_tmp st rfl rfl (Sub.l (List.sublist_cons_self _ _)) (Conv.refl (Sub.l (List.sublist_cons_self _ _)) _) ⟨congrArg AV.bool (by rw [if_neg hk]; simp), rfl⟩ (.inl rfl)
  try simp only [zA, zO, zN, zM, zP, zQ, zD, zF, gd] at hb3
  have hk : checkA x = none := check_code (by simpa using hb3)
  refine AC_skip ?_
  refine AC_seq ?_
  refine AC_region ?_
  refine AL_p rfl rfl (S_move rfl (.tmp rfl)) ?_
  refine AL_p rfl rfl (S_loadN (m := 16) 0 rfl (.tmp rfl) rfl (by kernel_rfl) (by first | exact Nat.le_of_ble_eq_true rfl | (simp; omega) | simp)) ?_
  refine AL_p rfl rfl (S_pcall rfl (AEvs.cons (.tmp rfl) AEvs.nil) (ref08_Bytes_ok x hu hk)) ?_
  refine AL_p rfl rfl (S_eqS rfl (.tmp rfl) (.tmp rfl)) ?_
  refine AL_p rfl rfl (S_move rfl (.tmp rfl)) ?_
  refine AL_g rfl rfl (.tmp rfl) rfl (fun hg18 => S_move rfl (.tmp rfl)) ?_
  refine AL_g rfl rfl (.tmp rfl) rfl (fun hg21 => S_eql rfl (AEv.cond (.tmp rfl) (by first | assumption | exact gdAnd (by assumption) (by assumption))) (AEv.const _)) ?_
  refine AL_p rfl rfl (S_and rfl (.tmp rfl) (fun hp24 => (AEv.cond (.tmp rfl) (by first | assumption | exact gdT hp24 | exact gdF hp24 | exact gdAnd (by assumption) (gdT hp24) | exact gdAnd (by assumption) (gdF hp24))))) ?_
  refine AL_p rfl rfl (S_move rfl (.tmp rfl)) ?_
  refine AL_g rfl rfl (.tmp rfl) rfl (fun hg25 => S_gcall rfl AEvs.nil ((law08_works_ok) _ (fun p hp => by repeat (first | exact hG p hp | refine List.mem_cons_of_mem _ ?_ | refine List.mem_append_right _ ?_)))) ?_
  refine AL_p rfl rfl (S_and rfl (.tmp rfl) (fun hp28 => (AEv.cond (.tmp rfl) (by first | assumption | exact gdT hp28 | exact gdF hp28 | exact gdAnd (by assumption) (gdT hp28) | exact gdAnd (by assumption) (gdF hp28))))) ?_
  refine AL_p rfl rfl (S_assign rfl (.tmp rfl)) ?_
  refine AL_nil ?_
  refine AC_ret ?_
  refine ret_tmp st rfl rfl (Sub.l (List.sublist_cons_self _ _)) (Conv.refl (Sub.l (List.sublist_cons_self _ _)) _) ⟨congrArg AV.bool (by rw [if_pos hk, hk]; simp [erCode]), rfl⟩ (.inl rfl)

end Go.Proofs.YtcbnokpgklmndaaGreatDoor
