/- A part of the proof: what the program's functions answer.
Conditions: none beyond each theorem's own. -/
import Derived.Test.YtcbnokpgklmndaaGreatDoorW2
/-
The walks of Go functions in the logic AL: what each of them answers.
Conditions: those of each theorem.
-/
set_option linter.unusedVariables false
set_option linter.unusedSimpArgs false
namespace Go.Proofs.YtcbnokpgklmndaaGreatDoor
open Go.AL Go.NumSpec

set_option maxRecDepth 100000 in
/-- provost/ask.of -/
theorem ask_of_ok (v : Int) : GCalls Tryz.prog tabs 36 [.int .i64 v] (.tup [.agg [.S (kindA v.toNat).1, .S (kindA v.toNat).2], .bool (decide (1 ≤ v ∧ v < 13))]) := by
  intro st hG
  refine ACalls_of (N := 14) Tryz.func36 (by kernel_rfl) rfl rfl rfl ?_
  refine AC_seq ?_
  refine AC_region ?_
  refine AL_step rfl rfl (S_alloc [.string ⟨#[]⟩, .string ⟨#[]⟩] rfl (by kernel_rfl)) ?_
  rintro _ _ ⟨b2, rfl, rfl⟩
  refine AL_p rfl rfl (S_assign rfl (AEv.const _)) ?_
  refine AL_nil ?_
  refine AC_seq ?_
  refine AC_seq ?_
  refine AC_region ?_
  refine AL_p rfl rfl (S_move rfl (.tmp rfl)) ?_
  refine AL_p rfl rfl (S_lss rfl (.tmp rfl) (AEv.const _)) ?_
  refine AL_p rfl rfl (S_move rfl (.tmp rfl)) ?_
  refine AL_g rfl rfl (.tmp rfl) rfl (fun hg2 => S_move rfl (.tmp rfl)) ?_
  refine AL_g rfl rfl (.tmp rfl) rfl (fun hg5 => S_geq rfl (AEv.cond (.tmp rfl) (by first | assumption | exact gdAnd (by assumption) (by assumption))) (AEv.const _)) ?_
  refine AL_p rfl rfl (S_or rfl (.tmp rfl) (fun hp8 => (AEv.cond (.tmp rfl) (by first | assumption | exact gdT hp8 | exact gdF hp8 | exact gdAnd (by assumption) (gdT hp8) | exact gdAnd (by assumption) (gdF hp8))))) ?_
  refine AL_nil ?_
  refine AC_cond (.tmp rfl) (fun hb9 => ?_) (fun hb9 => ?_)
  · try simp only [zA, zO, zN, zM, zP, zQ, zD, zF, gd] at hb9
    have hx := kind_out (v := v) (by omega)
    refine AC_seq ?_
    refine AC_region ?_
    refine AL_p rfl rfl (S_build (t := 57) (pl := [(0, 1), (1, 1)]) (zs := [.string ⟨#[]⟩, .string ⟨#[]⟩]) rfl AEvs.nil (by kernel_rfl) rfl) ?_
    refine AL_step rfl rfl (S_storeW 0 rfl (.tmp rfl) (.tmp rfl) rfl rfl rfl (by kernel_rfl)) ?_
    rintro _ _ ⟨rfl, rfl⟩
    refine AL_p rfl rfl (S_assign rfl (AEv.const _)) ?_
    refine AL_nil ?_
    refine AC_ret ?_
    refine ret_outs st rfl (by decide) (OutsR.row 0 rfl rfl (by kernel_rfl) (OutsR.tmp rfl OutsR.nil)) (Sub.l (List.sublist_cons_self _ _)) (Conv.refl (Sub.l (List.sublist_cons_self _ _)) _) ⟨by rw [hx, decide_eq_false (show ¬ (1 ≤ v ∧ v < 13) by omega)] <;> rfl, rfl⟩ (.inl rfl)
  try simp only [zA, zO, zN, zM, zP, zQ, zD, zF, gd] at hb9
  refine AC_skip ?_
  refine AC_seq ?_
  refine AC_region ?_
  refine AL_p rfl rfl (S_move rfl (.tmp rfl)) ?_
  refine AL_p rfl rfl (S_elemA (e := 57) (len := 13) (i := v) 2 rfl (AEv.global _) (.tmp rfl) (by kernel_rfl) (by kernel_rfl) (by omega) (by omega)) ?_
  refine AL_p rfl rfl ((S_loadKs (vs := kindsV) (m := 2) rfl (.tmp rfl) (List.mem_cons_of_mem _ (hG _ tab_kinds)) (by kernel_rfl) (by rw [show kindsV.length = 26 from rfl]; omega)).ofV (V' := .agg [.S (kindA v.toNat).1, .S (kindA v.toNat).2]) (congrArg AV.agg (kind_row (by omega) (by omega)))) ?_
  refine AL_step rfl rfl (S_storeW 0 rfl (.tmp rfl) (.tmp rfl) rfl rfl rfl (by kernel_rfl)) ?_
  rintro _ _ ⟨rfl, rfl⟩
  refine AL_p rfl rfl (S_assign rfl (AEv.const _)) ?_
  refine AL_nil ?_
  refine AC_ret ?_
  refine ret_outs st rfl (by decide) (OutsR.row 0 rfl rfl (by kernel_rfl) (OutsR.tmp rfl OutsR.nil)) (Sub.l (List.sublist_cons_self _ _)) (Conv.refl (Sub.l (List.sublist_cons_self _ _)) _) ⟨by rw [decide_eq_true (show 1 ≤ v ∧ v < 13 by omega)] <;> rfl, rfl⟩ (.inl rfl)

set_option maxRecDepth 100000 in
/-- provost/ask.Name -/
theorem ask_Name_ok (v : Int) : GCalls Tryz.prog tabs 17 [.int .i64 v] (.S (kindA v.toNat).1) := by
  intro st hG
  refine ACalls_of (N := 12) Tryz.func17 (by kernel_rfl) rfl rfl rfl ?_
  refine AC_seq ?_
  refine AC_region ?_
  refine AL_p rfl rfl (S_assign rfl (AEv.S _)) ?_
  refine AL_nil ?_
  refine AC_seq ?_
  refine AC_region ?_
  refine AL_p rfl rfl (S_move rfl (.tmp rfl)) ?_
  refine AL_p rfl rfl (S_gcall rfl (AEvs.cons (.tmp rfl) AEvs.nil) ((ask_of_ok v) _ (fun p hp => by first | exact hG p hp | (simp [hG p hp]; done)))) ?_
  refine AL_p rfl rfl (S_move rfl (.tmp rfl)) ?_
  refine AL_p rfl rfl (S_extract 0 rfl (.tmp rfl) rfl) ?_
  refine AL_p rfl rfl (S_extract 1 rfl (.tmp rfl) rfl) ?_
  refine AL_step rfl rfl (S_alloc [.string ⟨#[]⟩, .string ⟨#[]⟩] rfl (by kernel_rfl)) ?_
  rintro _ _ ⟨b3, rfl, rfl⟩
  refine AL_step rfl rfl (S_storeW 0 rfl (.tmp rfl) (.tmp rfl) rfl rfl rfl (by kernel_rfl)) ?_
  rintro _ _ ⟨rfl, rfl⟩
  refine AL_p rfl rfl (S_assign rfl (.tmp rfl)) ?_
  refine AL_nil ?_
  refine AC_seq ?_
  refine AC_region ?_
  refine AL_p rfl rfl (S_field 0 rfl (.tmp rfl) (by kernel_rfl)) ?_
  refine AL_p rfl rfl (S_load 0 rfl (.tmp rfl) rfl rfl (by kernel_rfl)) ?_
  refine AL_p rfl rfl (S_assign rfl (.tmp rfl)) ?_
  refine AL_nil ?_
  refine AC_ret ?_
  refine ret_tmp st rfl rfl (Sub.l (List.sublist_cons_self _ _)) (Conv.refl (Sub.l (List.sublist_cons_self _ _)) _) ⟨rfl, rfl⟩ (.inl rfl)

set_option maxRecDepth 100000 in
/-- provost/ask.within -/
theorem ask_within_ok (name : List UInt8) (n lo hi : Int) : PCalls Tryz.prog 66 [.S name, .int .i64 n, .int .i64 lo, .int .i64 hi] (erV 31 143 (withinE name n lo hi)) := by
  intro st
  refine ACalls_of (N := 20) Tryz.func66 (by kernel_rfl) rfl rfl rfl ?_
  refine AC_seq ?_
  refine AC_region ?_
  refine AL_p rfl rfl (S_assign rfl (AEv.const _)) ?_
  refine AL_nil ?_
  refine AC_seq ?_
  refine AC_seq ?_
  refine AC_region ?_
  refine AL_p rfl rfl (S_move rfl (.tmp rfl)) ?_
  refine AL_p rfl rfl (S_move rfl (.tmp rfl)) ?_
  refine AL_p rfl rfl (S_lss rfl (.tmp rfl) (.tmp rfl)) ?_
  refine AL_p rfl rfl (S_move rfl (.tmp rfl)) ?_
  refine AL_g rfl rfl (.tmp rfl) rfl (fun hg1 => S_move rfl (.tmp rfl)) ?_
  refine AL_g rfl rfl (.tmp rfl) rfl (fun hg4 => S_move rfl (.tmp rfl)) ?_
  refine AL_g rfl rfl (.tmp rfl) rfl (fun hg7 => S_gtr rfl (AEv.cond (.tmp rfl) (by first | assumption | exact gdAnd (by assumption) (by assumption))) (AEv.cond (.tmp rfl) (by first | assumption | exact gdAnd (by assumption) (by assumption)))) ?_
  refine AL_p rfl rfl (S_or rfl (.tmp rfl) (fun hp10 => (AEv.cond (.tmp rfl) (by first | assumption | exact gdT hp10 | exact gdF hp10 | exact gdAnd (by assumption) (gdT hp10) | exact gdAnd (by assumption) (gdF hp10))))) ?_
  refine AL_nil ?_
  refine AC_cond (.tmp rfl) (fun hb11 => ?_) (fun hb11 => ?_)
  · try simp only [zA, zO, zN, zM, zP, zQ, zD, zF, gd] at hb11
    refine AC_seq ?_
    refine AC_region ?_
    refine AL_p rfl rfl (S_move rfl (.tmp rfl)) ?_
    refine AL_p rfl rfl (S_buildSlice (e := 9) 1 rfl (AEvs.cons (.tmp rfl) AEvs.nil) rfl (by kernel_rfl) (by kernel_rfl) (by simp [AV.flat, AV.one, AV.cells, Value.oneCell']) (by decide) (by decide) (by decide)) ?_
    refine AL_p rfl rfl (S_pcall rfl (AEvs.cons (AEv.const _) (AEvs.cons (.tmp rfl) AEvs.nil)) (fail_New_ok 1 [name] (by simp))) ?_
    refine AL_p rfl rfl (S_assign rfl (.tmp rfl)) ?_
    refine AL_nil ?_
    refine AC_ret ?_
    refine ret_tmp st rfl rfl (Sub.l (List.Sublist.refl _)) (Conv.refl (Sub.l (List.Sublist.refl _)) _) ⟨by rw [withinE, if_pos (by omega)]; rfl, rfl⟩ (.inl rfl)
  try simp only [zA, zO, zN, zM, zP, zQ, zD, zF, gd] at hb11
  refine AC_skip ?_
  refine AC_seq ?_
  refine AC_region ?_
  refine AL_p rfl rfl (S_assign rfl (AEv.const _)) ?_
  refine AL_nil ?_
  refine AC_ret ?_
  refine ret_tmp st rfl rfl (Sub.l (List.Sublist.refl _)) (Conv.refl (Sub.l (List.Sublist.refl _)) _) ⟨by rw [withinE, if_neg (by omega)]; rfl, rfl⟩ (.inl rfl)

set_option maxRecDepth 100000 in
/-- provost/ask.field -/
theorem ask_field_ok (x : Cal) (f : UInt8) (hx0 : ShortA x) : GCalls Tryz.prog tabs 38 [calAV x, .int .u8 (f.toNat : Int)] (erV 31 143 (fieldE x f)) := by
  intro st hG
  refine ACalls_of (N := 50) Tryz.func38 (by kernel_rfl) rfl rfl rfl ?_
  refine AC_seq ?_
  refine AC_region ?_
  refine AL_step rfl rfl (S_box rfl (.tmp rfl)) ?_
  rintro _ _ ⟨b2, rfl, rfl⟩
  refine AL_p rfl rfl (S_assign rfl (AEv.const _)) ?_
  refine AL_nil ?_
  refine AC_seq ?_
  refine AC_seq ?_
  refine AC_region ?_
  refine AL_p rfl rfl (S_move rfl (.tmp rfl)) ?_
  refine AL_nil ?_
  refine AC_block ?_
  refine AC_seq ?_
  refine AC_region ?_
  refine AL_p rfl rfl (S_eql rfl (.tmp rfl) (AEv.const _)) ?_
  refine AL_p rfl rfl (S_assign rfl (.tmp rfl)) ?_
  refine AL_nil ?_
  refine AC_cond (.tmp rfl) (fun hb2 => ?_) (fun hb2 => ?_)
  · try simp only [zA, zO, zN, zM, zP, zQ, zD, zF, gd] at hb2
    obtain rfl : f = 117 := u8_eq hb2
    refine AC_seq ?_
    refine AC_region ?_
    refine AL_p rfl rfl (S_field 1 rfl (.tmp rfl) (by kernel_rfl)) ?_
    refine AL_p rfl rfl (S_load 0 rfl (.tmp rfl) rfl rfl (by kernel_rfl)) ?_
    refine AL_p rfl rfl (S_pcall rfl (AEvs.cons (AEv.S _) (AEvs.cons (.tmp rfl) (AEvs.cons (AEv.const _) (AEvs.cons (AEv.const _) AEvs.nil)))) (ask_within_ok [117, 105, 100] x.uid 1 1073741824)) ?_
    refine AL_p rfl rfl (S_assign rfl (.tmp rfl)) ?_
    refine AL_nil ?_
    refine AC_ret ?_
    refine ret_tmp st rfl rfl (Sub.l (List.sublist_cons_self _ _)) (Conv.refl (Sub.l (List.sublist_cons_self _ _)) _) ⟨rfl, rfl⟩ (.inl rfl)
  try simp only [zA, zO, zN, zM, zP, zQ, zD, zF, gd] at hb2
  have hf117 : ¬ f = 117 := fun h => hb2 (by rw [h]; rfl)
  refine AC_seq ?_
  refine AC_region ?_
  refine AL_p rfl rfl (S_eql rfl (.tmp rfl) (AEv.const _)) ?_
  refine AL_p rfl rfl (S_assign rfl (.tmp rfl)) ?_
  refine AL_nil ?_
  refine AC_cond (.tmp rfl) (fun hb3 => ?_) (fun hb3 => ?_)
  · try simp only [zA, zO, zN, zM, zP, zQ, zD, zF, gd] at hb3
    obtain rfl : f = 115 := u8_eq hb3
    refine AC_seq ?_
    refine AC_region ?_
    refine AL_p rfl rfl (S_field 3 rfl (.tmp rfl) (by kernel_rfl)) ?_
    refine AL_p rfl rfl (S_loadN (m := 7) 0 rfl (.tmp rfl) rfl (by kernel_rfl) (by first | exact Nat.le_of_ble_eq_true rfl | (simp; omega) | simp)) ?_
    refine AL_p rfl rfl (S_gcall rfl (AEvs.cons (.tmp rfl) AEvs.nil) ((spec_Check_ok x.spec hx0.1) _ (fun p hp => by repeat (first | exact hG p hp | refine List.mem_cons_of_mem _ ?_ | refine List.mem_append_right _ ?_)))) ?_
    refine AL_p rfl rfl (S_pcall rfl (AEvs.cons (.tmp rfl) (AEvs.cons (AEv.S _) AEvs.nil)) (fail_In_ok (checkE x.spec) [115, 112, 101, 99])) ?_
    refine AL_p rfl rfl (S_assign rfl (.tmp rfl)) ?_
    refine AL_nil ?_
    refine AC_ret ?_
    refine ret_tmp st rfl rfl (Sub.l (List.sublist_cons_self _ _)) (Conv.refl (Sub.l (List.sublist_cons_self _ _)) _) ⟨rfl, rfl⟩ (.inl rfl)
  try simp only [zA, zO, zN, zM, zP, zQ, zD, zF, gd] at hb3
  have hf115 : ¬ f = 115 := fun h => hb3 (by rw [h]; rfl)
  refine AC_seq ?_
  refine AC_region ?_
  refine AL_p rfl rfl (S_eql rfl (.tmp rfl) (AEv.const _)) ?_
  refine AL_p rfl rfl (S_assign rfl (.tmp rfl)) ?_
  refine AL_nil ?_
  refine AC_cond (.tmp rfl) (fun hb4 => ?_) (fun hb4 => ?_)
  · try simp only [zA, zO, zN, zM, zP, zQ, zD, zF, gd] at hb4
    obtain rfl : f = 103 := u8_eq hb4
    refine AC_seq ?_
    refine AC_region ?_
    refine AL_p rfl rfl (S_field 10 rfl (.tmp rfl) (by kernel_rfl)) ?_
    refine AL_p rfl rfl (S_load 0 rfl (.tmp rfl) rfl rfl (by kernel_rfl)) ?_
    refine AL_p rfl rfl (S_pcall rfl (AEvs.cons (AEv.S _) (AEvs.cons (.tmp rfl) (AEvs.cons (AEv.const _) (AEvs.cons (AEv.const _) AEvs.nil)))) (ask_within_ok [103, 114, 97, 99, 101] x.grace 0 1000)) ?_
    refine AL_p rfl rfl (S_assign rfl (.tmp rfl)) ?_
    refine AL_nil ?_
    refine AC_ret ?_
    refine ret_tmp st rfl rfl (Sub.l (List.sublist_cons_self _ _)) (Conv.refl (Sub.l (List.sublist_cons_self _ _)) _) ⟨rfl, rfl⟩ (.inl rfl)
  try simp only [zA, zO, zN, zM, zP, zQ, zD, zF, gd] at hb4
  have hf103 : ¬ f = 103 := fun h => hb4 (by rw [h]; rfl)
  refine AC_seq ?_
  refine AC_region ?_
  refine AL_p rfl rfl (S_eql rfl (.tmp rfl) (AEv.const _)) ?_
  refine AL_p rfl rfl (S_assign rfl (.tmp rfl)) ?_
  refine AL_nil ?_
  refine AC_cond (.tmp rfl) (fun hb5 => ?_) (fun hb5 => ?_)
  · try simp only [zA, zO, zN, zM, zP, zQ, zD, zF, gd] at hb5
    obtain rfl : f = 99 := u8_eq hb5
    refine AC_seq ?_
    refine AC_region ?_
    refine AL_p rfl rfl (S_field 11 rfl (.tmp rfl) (by kernel_rfl)) ?_
    refine AL_p rfl rfl (S_load 0 rfl (.tmp rfl) rfl rfl (by kernel_rfl)) ?_
    refine AL_p rfl rfl (S_pcall rfl (AEvs.cons (AEv.S _) (AEvs.cons (.tmp rfl) (AEvs.cons (AEv.const _) (AEvs.cons (AEv.const _) AEvs.nil)))) (ask_within_ok [99, 116, 114] x.ctr 0 3)) ?_
    refine AL_p rfl rfl (S_assign rfl (.tmp rfl)) ?_
    refine AL_nil ?_
    refine AC_ret ?_
    refine ret_tmp st rfl rfl (Sub.l (List.sublist_cons_self _ _)) (Conv.refl (Sub.l (List.sublist_cons_self _ _)) _) ⟨rfl, rfl⟩ (.inl rfl)
  try simp only [zA, zO, zN, zM, zP, zQ, zD, zF, gd] at hb5
  have hf99 : ¬ f = 99 := fun h => hb5 (by rw [h]; rfl)
  refine AC_seq ?_
  refine AC_region ?_
  refine AL_p rfl rfl (S_eql rfl (.tmp rfl) (AEv.const _)) ?_
  refine AL_p rfl rfl (S_assign rfl (.tmp rfl)) ?_
  refine AL_nil ?_
  refine AC_cond (.tmp rfl) (fun hb6 => ?_) (fun hb6 => ?_)
  · try simp only [zA, zO, zN, zM, zP, zQ, zD, zF, gd] at hb6
    obtain rfl : f = 105 := u8_eq hb6
    refine AC_seq ?_
    refine AC_region ?_
    refine AL_p rfl rfl (S_field 12 rfl (.tmp rfl) (by kernel_rfl)) ?_
    refine AL_p rfl rfl (S_load 0 rfl (.tmp rfl) rfl rfl (by kernel_rfl)) ?_
    refine AL_p rfl rfl (S_pcall rfl (AEvs.cons (AEv.S _) (AEvs.cons (.tmp rfl) (AEvs.cons (AEv.const _) (AEvs.cons (AEv.const _) AEvs.nil)))) (ask_within_ok [105, 100] x.id 1 1073741824)) ?_
    refine AL_p rfl rfl (S_assign rfl (.tmp rfl)) ?_
    refine AL_nil ?_
    refine AC_ret ?_
    refine ret_tmp st rfl rfl (Sub.l (List.sublist_cons_self _ _)) (Conv.refl (Sub.l (List.sublist_cons_self _ _)) _) ⟨rfl, rfl⟩ (.inl rfl)
  try simp only [zA, zO, zN, zM, zP, zQ, zD, zF, gd] at hb6
  have hf105 : ¬ f = 105 := fun h => hb6 (by rw [h]; rfl)
  refine AC_seq ?_
  refine AC_region ?_
  refine AL_p rfl rfl (S_eql rfl (.tmp rfl) (AEv.const _)) ?_
  refine AL_p rfl rfl (S_assign rfl (.tmp rfl)) ?_
  refine AL_nil ?_
  refine AC_cond (.tmp rfl) (fun hb7 => ?_) (fun hb7 => ?_)
  · try simp only [zA, zO, zN, zM, zP, zQ, zD, zF, gd] at hb7
    obtain rfl : f = 109 := u8_eq hb7
    refine AC_seq ?_
    refine AC_region ?_
    refine AL_p rfl rfl (S_field 13 rfl (.tmp rfl) (by kernel_rfl)) ?_
    refine AL_p rfl rfl (S_load 0 rfl (.tmp rfl) rfl rfl (by kernel_rfl)) ?_
    refine AL_p rfl rfl (S_pcall rfl (AEvs.cons (AEv.S _) (AEvs.cons (.tmp rfl) (AEvs.cons (AEv.const _) (AEvs.cons (AEv.const _) AEvs.nil)))) (ask_within_ok [109, 111, 115, 116] x.most 1 32)) ?_
    refine AL_p rfl rfl (S_assign rfl (.tmp rfl)) ?_
    refine AL_nil ?_
    refine AC_ret ?_
    refine ret_tmp st rfl rfl (Sub.l (List.sublist_cons_self _ _)) (Conv.refl (Sub.l (List.sublist_cons_self _ _)) _) ⟨rfl, rfl⟩ (.inl rfl)
  try simp only [zA, zO, zN, zM, zP, zQ, zD, zF, gd] at hb7
  have hf109 : ¬ f = 109 := fun h => hb7 (by rw [h]; rfl)
  refine AC_seq ?_
  refine AC_region ?_
  refine AL_p rfl rfl (S_eql rfl (.tmp rfl) (AEv.const _)) ?_
  refine AL_p rfl rfl (S_assign rfl (.tmp rfl)) ?_
  refine AL_nil ?_
  refine AC_cond (.tmp rfl) (fun hb8 => ?_) (fun hb8 => ?_)
  · try simp only [zA, zO, zN, zM, zP, zQ, zD, zF, gd] at hb8
    obtain rfl : f = 108 := u8_eq hb8
    refine AC_seq ?_
    refine AC_region ?_
    refine AL_p rfl rfl (S_field 15 rfl (.tmp rfl) (by kernel_rfl)) ?_
    refine AL_p rfl rfl (S_load 0 rfl (.tmp rfl) rfl rfl (by kernel_rfl)) ?_
    refine AL_p rfl rfl (S_gcall rfl (AEvs.cons (AEv.S _) (AEvs.cons (.tmp rfl) AEvs.nil)) ((spec_Labels_ok [115, 101, 108] (by decide) x.sel hx0.2.1 hx0.2.2) _ (fun p hp => by repeat (first | exact hG p hp | refine List.mem_cons_of_mem _ ?_ | refine List.mem_append_right _ ?_)))) ?_
    refine AL_p rfl rfl (S_assign rfl (.tmp rfl)) ?_
    refine AL_nil ?_
    refine AC_ret ?_
    refine ret_tmp st rfl rfl (Sub.l (List.sublist_cons_self _ _)) (Conv.refl (Sub.l (List.sublist_cons_self _ _)) _) ⟨rfl, rfl⟩ (.inl rfl)
  try simp only [zA, zO, zN, zM, zP, zQ, zD, zF, gd] at hb8
  have hf108 : ¬ f = 108 := fun h => hb8 (by rw [h]; rfl)
  refine AC_seq ?_
  refine AC_region ?_
  refine AL_p rfl rfl (S_eql rfl (.tmp rfl) (AEv.const _)) ?_
  refine AL_p rfl rfl (S_assign rfl (.tmp rfl)) ?_
  refine AL_nil ?_
  refine AC_cond (.tmp rfl) (fun hb9 => ?_) (fun hb9 => ?_)
  · try simp only [zA, zO, zN, zM, zP, zQ, zD, zF, gd] at hb9
    obtain rfl : f = 100 := u8_eq hb9
    refine AC_seq ?_
    refine AC_region ?_
    refine AL_p rfl rfl (S_field 14 rfl (.tmp rfl) (by kernel_rfl)) ?_
    refine AL_p rfl rfl (S_load 0 rfl (.tmp rfl) rfl rfl (by kernel_rfl)) ?_
    refine AL_p rfl rfl (S_lenS (ts := #[]) rfl (.tmp rfl) (by kernel_rfl)) ?_
    refine AL_p rfl rfl (S_gtr rfl (.tmp rfl) (AEv.const _)) ?_
    refine AL_nil ?_
    refine AC_cond (.tmp rfl) (fun hb10 => ?_) (fun hb10 => ?_)
    · try simp only [zA, zO, zN, zM, zP, zQ, zD, zF, gd] at hb10
      have hx : fieldE x 100 = some (2, [[100, 97, 116, 97]]) := by rw [field_data, if_pos (by omega)]
      refine AC_seq ?_
      refine AC_region ?_
      refine AL_p rfl rfl (S_buildSlice (e := 9) 1 rfl (AEvs.cons (AEv.S _) AEvs.nil) rfl (by kernel_rfl) (by kernel_rfl) (by intro y hy; simp only [List.mem_cons, List.not_mem_nil, or_false] at hy; rcases hy with rfl <;> exact ⟨rfl, rfl⟩) (by decide) (by decide) (by decide)) ?_
      refine AL_p rfl rfl (S_pcall rfl (AEvs.cons (AEv.const _) (AEvs.cons (.tmp rfl) AEvs.nil)) (fail_New_ok 2 [[100, 97, 116, 97]] (by simp))) ?_
      refine AL_p rfl rfl (S_assign rfl (.tmp rfl)) ?_
      refine AL_nil ?_
      refine AC_ret ?_
      refine ret_tmp st rfl rfl (Sub.l (List.sublist_cons_self _ _)) (Conv.refl (Sub.l (List.sublist_cons_self _ _)) _) ⟨by rw [hx] <;> rfl, rfl⟩ (.inl rfl)
    try simp only [zA, zO, zN, zM, zP, zQ, zD, zF, gd] at hb10
    have hx : fieldE x 100 = none := by rw [field_data, if_neg (by omega)]
    refine AC_skip ?_
    refine AC_seq ?_
    refine AC_region ?_
    refine AL_p rfl rfl (S_assign rfl (AEv.const _)) ?_
    refine AL_nil ?_
    refine AC_ret ?_
    refine ret_tmp st rfl rfl (Sub.l (List.sublist_cons_self _ _)) (Conv.refl (Sub.l (List.sublist_cons_self _ _)) _) ⟨by rw [hx] <;> rfl, rfl⟩ (.inl rfl)
  try simp only [zA, zO, zN, zM, zP, zQ, zD, zF, gd] at hb9
  have hf100 : ¬ f = 100 := fun h => hb9 (by rw [h]; rfl)
  have hx : fieldE x f = none := by unfold fieldE; simp only [hf117, hf115, hf103, hf99, hf105, hf109, hf108, hf100, if_false]
  refine AC_skip ?_
  refine AC_seq ?_
  refine AC_region ?_
  refine AL_p rfl rfl (S_assign rfl (AEv.const _)) ?_
  refine AL_nil ?_
  refine AC_ret ?_
  refine ret_tmp st rfl rfl (Sub.l (List.sublist_cons_self _ _)) (Conv.refl (Sub.l (List.sublist_cons_self _ _)) _) ⟨by rw [hx] <;> rfl, rfl⟩ (.inl rfl)

set_option maxRecDepth 100000 in
/-- provost/ask.copies -/
theorem copies_ok (bt : Nat) (o x : Cal) (f : UInt8) (F : St) : ACalls Tryz.prog 69 [.ptr bt 0, calAV x, .int .u8 (f.toNat : Int)] ([(bt, Ob.cells (calL o))] ++ F) (fun v st' => ∃ foot', (v = .tup [] ∧ foot' = [(bt, Ob.cells (calL (copyA f o x)))]) ∧ st' = foot' ++ F) := by
  refine ACalls_of (N := 70) Tryz.func69 (by kernel_rfl) rfl rfl rfl ?_
  refine AC_seq ?_
  refine AC_region ?_
  refine AL_step rfl rfl (S_box rfl (.tmp rfl)) ?_
  rintro _ _ ⟨b4, rfl, rfl⟩
  refine AL_nil ?_
  refine AC_seq ?_
  refine AC_region ?_
  refine AL_p rfl rfl (S_move rfl (.tmp rfl)) ?_
  refine AL_nil ?_
  refine AC_block ?_
  refine AC_seq ?_
  refine AC_region ?_
  refine AL_p rfl rfl (S_eql rfl (.tmp rfl) (AEv.const _)) ?_
  refine AL_p rfl rfl (S_assign rfl (.tmp rfl)) ?_
  refine AL_nil ?_
  refine AC_cond (.tmp rfl) (fun hb2 => ?_) (fun hb2 => ?_)
  · try simp only [zA, zO, zN, zM, zP, zQ, zD, zF, gd] at hb2
    obtain rfl : f = 117 := u8_eq hb2
    refine AC_region ?_
    refine AL_p rfl rfl (S_move rfl (.tmp rfl)) ?_
    refine AL_p rfl rfl (S_field 1 rfl (.tmp rfl) (by kernel_rfl)) ?_
    refine AL_p rfl rfl (S_load 0 rfl (.tmp rfl) rfl rfl (by kernel_rfl)) ?_
    refine AL_p rfl rfl (S_nilCheck rfl (.tmp rfl)) ?_
    refine AL_p rfl rfl (S_field 1 rfl (.tmp rfl) (by kernel_rfl)) ?_
    refine AL_step rfl rfl (S_store 1 rfl (.tmp rfl) (.tmp rfl) rfl (by first | exact Nat.le_of_ble_eq_true rfl | simp) rfl (by kernel_rfl)) ?_
    rintro _ _ ⟨rfl, rfl⟩
    refine AL_nil ?_
    refine ret_none ([(bt, Ob.cells (calL (copyA 117 o x)))] ++ F) rfl (Sub.l (List.sublist_cons_self _ _)) ⟨_, ⟨rfl, rfl⟩, rfl⟩ (.inr rfl)
  try simp only [zA, zO, zN, zM, zP, zQ, zD, zF, gd] at hb2
  have hf117 : ¬ f = 117 := fun h => hb2 (by rw [h]; rfl)
  refine AC_seq ?_
  refine AC_region ?_
  refine AL_p rfl rfl (S_eql rfl (.tmp rfl) (AEv.const _)) ?_
  refine AL_p rfl rfl (S_assign rfl (.tmp rfl)) ?_
  refine AL_nil ?_
  refine AC_cond (.tmp rfl) (fun hb3 => ?_) (fun hb3 => ?_)
  · try simp only [zA, zO, zN, zM, zP, zQ, zD, zF, gd] at hb3
    obtain rfl : f = 114 := u8_eq hb3
    refine AC_region ?_
    refine AL_p rfl rfl (S_move rfl (.tmp rfl)) ?_
    refine AL_p rfl rfl (S_field 2 rfl (.tmp rfl) (by kernel_rfl)) ?_
    refine AL_p rfl rfl (S_load 0 rfl (.tmp rfl) rfl rfl (by kernel_rfl)) ?_
    refine AL_p rfl rfl (S_nilCheck rfl (.tmp rfl)) ?_
    refine AL_p rfl rfl (S_field 2 rfl (.tmp rfl) (by kernel_rfl)) ?_
    refine AL_step rfl rfl (S_store 1 rfl (.tmp rfl) (.tmp rfl) rfl (by first | exact Nat.le_of_ble_eq_true rfl | simp) rfl (by kernel_rfl)) ?_
    rintro _ _ ⟨rfl, rfl⟩
    refine AL_nil ?_
    refine ret_none ([(bt, Ob.cells (calL (copyA 114 o x)))] ++ F) rfl (Sub.l (List.sublist_cons_self _ _)) ⟨_, ⟨rfl, rfl⟩, rfl⟩ (.inr rfl)
  try simp only [zA, zO, zN, zM, zP, zQ, zD, zF, gd] at hb3
  have hf114 : ¬ f = 114 := fun h => hb3 (by rw [h]; rfl)
  refine AC_seq ?_
  refine AC_region ?_
  refine AL_p rfl rfl (S_eql rfl (.tmp rfl) (AEv.const _)) ?_
  refine AL_p rfl rfl (S_assign rfl (.tmp rfl)) ?_
  refine AL_nil ?_
  refine AC_cond (.tmp rfl) (fun hb4 => ?_) (fun hb4 => ?_)
  · try simp only [zA, zO, zN, zM, zP, zQ, zD, zF, gd] at hb4
    obtain rfl : f = 115 := u8_eq hb4
    refine AC_region ?_
    refine AL_p rfl rfl (S_move rfl (.tmp rfl)) ?_
    refine AL_p rfl rfl (S_field 3 rfl (.tmp rfl) (by kernel_rfl)) ?_
    refine AL_p rfl rfl (S_loadN (m := 7) 0 rfl (.tmp rfl) rfl (by kernel_rfl) (by first | exact Nat.le_of_ble_eq_true rfl | (simp; omega) | simp)) ?_
    refine AL_p rfl rfl (S_nilCheck rfl (.tmp rfl)) ?_
    refine AL_p rfl rfl (S_field 3 rfl (.tmp rfl) (by kernel_rfl)) ?_
    refine AL_step rfl rfl (S_storeN 1 rfl (.tmp rfl) (.tmp rfl) rfl (by first | exact Nat.le_of_ble_eq_true rfl | (simp; omega) | simp) (by first | rfl | simp [AV.one, Value.oneCell']) (by kernel_rfl)) ?_
    rintro _ _ ⟨rfl, rfl⟩
    refine AL_nil ?_
    refine ret_none ([(bt, Ob.cells (calL (copyA 115 o x)))] ++ F) rfl (Sub.l (List.sublist_cons_self _ _)) ⟨_, ⟨rfl, rfl⟩, rfl⟩ (.inr rfl)
  try simp only [zA, zO, zN, zM, zP, zQ, zD, zF, gd] at hb4
  have hf115 : ¬ f = 115 := fun h => hb4 (by rw [h]; rfl)
  refine AC_seq ?_
  refine AC_region ?_
  refine AL_p rfl rfl (S_eql rfl (.tmp rfl) (AEv.const _)) ?_
  refine AL_p rfl rfl (S_assign rfl (.tmp rfl)) ?_
  refine AL_nil ?_
  refine AC_cond (.tmp rfl) (fun hb5 => ?_) (fun hb5 => ?_)
  · try simp only [zA, zO, zN, zM, zP, zQ, zD, zF, gd] at hb5
    obtain rfl : f = 103 := u8_eq hb5
    refine AC_region ?_
    refine AL_p rfl rfl (S_move rfl (.tmp rfl)) ?_
    refine AL_p rfl rfl (S_field 10 rfl (.tmp rfl) (by kernel_rfl)) ?_
    refine AL_p rfl rfl (S_load 0 rfl (.tmp rfl) rfl rfl (by kernel_rfl)) ?_
    refine AL_p rfl rfl (S_nilCheck rfl (.tmp rfl)) ?_
    refine AL_p rfl rfl (S_field 10 rfl (.tmp rfl) (by kernel_rfl)) ?_
    refine AL_step rfl rfl (S_store 1 rfl (.tmp rfl) (.tmp rfl) rfl (by first | exact Nat.le_of_ble_eq_true rfl | simp) rfl (by kernel_rfl)) ?_
    rintro _ _ ⟨rfl, rfl⟩
    refine AL_nil ?_
    refine ret_none ([(bt, Ob.cells (calL (copyA 103 o x)))] ++ F) rfl (Sub.l (List.sublist_cons_self _ _)) ⟨_, ⟨rfl, rfl⟩, rfl⟩ (.inr rfl)
  try simp only [zA, zO, zN, zM, zP, zQ, zD, zF, gd] at hb5
  have hf103 : ¬ f = 103 := fun h => hb5 (by rw [h]; rfl)
  refine AC_seq ?_
  refine AC_region ?_
  refine AL_p rfl rfl (S_eql rfl (.tmp rfl) (AEv.const _)) ?_
  refine AL_p rfl rfl (S_assign rfl (.tmp rfl)) ?_
  refine AL_nil ?_
  refine AC_cond (.tmp rfl) (fun hb6 => ?_) (fun hb6 => ?_)
  · try simp only [zA, zO, zN, zM, zP, zQ, zD, zF, gd] at hb6
    obtain rfl : f = 99 := u8_eq hb6
    refine AC_region ?_
    refine AL_p rfl rfl (S_move rfl (.tmp rfl)) ?_
    refine AL_p rfl rfl (S_field 11 rfl (.tmp rfl) (by kernel_rfl)) ?_
    refine AL_p rfl rfl (S_load 0 rfl (.tmp rfl) rfl rfl (by kernel_rfl)) ?_
    refine AL_p rfl rfl (S_nilCheck rfl (.tmp rfl)) ?_
    refine AL_p rfl rfl (S_field 11 rfl (.tmp rfl) (by kernel_rfl)) ?_
    refine AL_step rfl rfl (S_store 1 rfl (.tmp rfl) (.tmp rfl) rfl (by first | exact Nat.le_of_ble_eq_true rfl | simp) rfl (by kernel_rfl)) ?_
    rintro _ _ ⟨rfl, rfl⟩
    refine AL_nil ?_
    refine ret_none ([(bt, Ob.cells (calL (copyA 99 o x)))] ++ F) rfl (Sub.l (List.sublist_cons_self _ _)) ⟨_, ⟨rfl, rfl⟩, rfl⟩ (.inr rfl)
  try simp only [zA, zO, zN, zM, zP, zQ, zD, zF, gd] at hb6
  have hf99 : ¬ f = 99 := fun h => hb6 (by rw [h]; rfl)
  refine AC_seq ?_
  refine AC_region ?_
  refine AL_p rfl rfl (S_eql rfl (.tmp rfl) (AEv.const _)) ?_
  refine AL_p rfl rfl (S_assign rfl (.tmp rfl)) ?_
  refine AL_nil ?_
  refine AC_cond (.tmp rfl) (fun hb7 => ?_) (fun hb7 => ?_)
  · try simp only [zA, zO, zN, zM, zP, zQ, zD, zF, gd] at hb7
    obtain rfl : f = 105 := u8_eq hb7
    refine AC_region ?_
    refine AL_p rfl rfl (S_move rfl (.tmp rfl)) ?_
    refine AL_p rfl rfl (S_field 12 rfl (.tmp rfl) (by kernel_rfl)) ?_
    refine AL_p rfl rfl (S_load 0 rfl (.tmp rfl) rfl rfl (by kernel_rfl)) ?_
    refine AL_p rfl rfl (S_nilCheck rfl (.tmp rfl)) ?_
    refine AL_p rfl rfl (S_field 12 rfl (.tmp rfl) (by kernel_rfl)) ?_
    refine AL_step rfl rfl (S_store 1 rfl (.tmp rfl) (.tmp rfl) rfl (by first | exact Nat.le_of_ble_eq_true rfl | simp) rfl (by kernel_rfl)) ?_
    rintro _ _ ⟨rfl, rfl⟩
    refine AL_nil ?_
    refine ret_none ([(bt, Ob.cells (calL (copyA 105 o x)))] ++ F) rfl (Sub.l (List.sublist_cons_self _ _)) ⟨_, ⟨rfl, rfl⟩, rfl⟩ (.inr rfl)
  try simp only [zA, zO, zN, zM, zP, zQ, zD, zF, gd] at hb7
  have hf105 : ¬ f = 105 := fun h => hb7 (by rw [h]; rfl)
  refine AC_seq ?_
  refine AC_region ?_
  refine AL_p rfl rfl (S_eql rfl (.tmp rfl) (AEv.const _)) ?_
  refine AL_p rfl rfl (S_assign rfl (.tmp rfl)) ?_
  refine AL_nil ?_
  refine AC_cond (.tmp rfl) (fun hb8 => ?_) (fun hb8 => ?_)
  · try simp only [zA, zO, zN, zM, zP, zQ, zD, zF, gd] at hb8
    obtain rfl : f = 109 := u8_eq hb8
    refine AC_region ?_
    refine AL_p rfl rfl (S_move rfl (.tmp rfl)) ?_
    refine AL_p rfl rfl (S_field 13 rfl (.tmp rfl) (by kernel_rfl)) ?_
    refine AL_p rfl rfl (S_load 0 rfl (.tmp rfl) rfl rfl (by kernel_rfl)) ?_
    refine AL_p rfl rfl (S_nilCheck rfl (.tmp rfl)) ?_
    refine AL_p rfl rfl (S_field 13 rfl (.tmp rfl) (by kernel_rfl)) ?_
    refine AL_step rfl rfl (S_store 1 rfl (.tmp rfl) (.tmp rfl) rfl (by first | exact Nat.le_of_ble_eq_true rfl | simp) rfl (by kernel_rfl)) ?_
    rintro _ _ ⟨rfl, rfl⟩
    refine AL_nil ?_
    refine ret_none ([(bt, Ob.cells (calL (copyA 109 o x)))] ++ F) rfl (Sub.l (List.sublist_cons_self _ _)) ⟨_, ⟨rfl, rfl⟩, rfl⟩ (.inr rfl)
  try simp only [zA, zO, zN, zM, zP, zQ, zD, zF, gd] at hb8
  have hf109 : ¬ f = 109 := fun h => hb8 (by rw [h]; rfl)
  refine AC_seq ?_
  refine AC_region ?_
  refine AL_p rfl rfl (S_eql rfl (.tmp rfl) (AEv.const _)) ?_
  refine AL_p rfl rfl (S_assign rfl (.tmp rfl)) ?_
  refine AL_nil ?_
  refine AC_cond (.tmp rfl) (fun hb9 => ?_) (fun hb9 => ?_)
  · try simp only [zA, zO, zN, zM, zP, zQ, zD, zF, gd] at hb9
    obtain rfl : f = 108 := u8_eq hb9
    refine AC_region ?_
    refine AL_p rfl rfl (S_move rfl (.tmp rfl)) ?_
    refine AL_p rfl rfl (S_field 15 rfl (.tmp rfl) (by kernel_rfl)) ?_
    refine AL_p rfl rfl (S_load 0 rfl (.tmp rfl) rfl rfl (by kernel_rfl)) ?_
    refine AL_p rfl rfl (S_nilCheck rfl (.tmp rfl)) ?_
    refine AL_p rfl rfl (S_field 15 rfl (.tmp rfl) (by kernel_rfl)) ?_
    refine AL_step rfl rfl (S_store 1 rfl (.tmp rfl) (.tmp rfl) rfl (by first | exact Nat.le_of_ble_eq_true rfl | simp) rfl (by kernel_rfl)) ?_
    rintro _ _ ⟨rfl, rfl⟩
    refine AL_nil ?_
    refine ret_none ([(bt, Ob.cells (calL (copyA 108 o x)))] ++ F) rfl (Sub.l (List.sublist_cons_self _ _)) ⟨_, ⟨rfl, rfl⟩, rfl⟩ (.inr rfl)
  try simp only [zA, zO, zN, zM, zP, zQ, zD, zF, gd] at hb9
  have hf108 : ¬ f = 108 := fun h => hb9 (by rw [h]; rfl)
  refine AC_seq ?_
  refine AC_region ?_
  refine AL_p rfl rfl (S_eql rfl (.tmp rfl) (AEv.const _)) ?_
  refine AL_p rfl rfl (S_assign rfl (.tmp rfl)) ?_
  refine AL_nil ?_
  refine AC_cond (.tmp rfl) (fun hb10 => ?_) (fun hb10 => ?_)
  · try simp only [zA, zO, zN, zM, zP, zQ, zD, zF, gd] at hb10
    obtain rfl : f = 100 := u8_eq hb10
    refine AC_region ?_
    refine AL_p rfl rfl (S_move rfl (.tmp rfl)) ?_
    refine AL_p rfl rfl (S_field 14 rfl (.tmp rfl) (by kernel_rfl)) ?_
    refine AL_p rfl rfl (S_load 0 rfl (.tmp rfl) rfl rfl (by kernel_rfl)) ?_
    refine AL_p rfl rfl (S_nilCheck rfl (.tmp rfl)) ?_
    refine AL_p rfl rfl (S_field 14 rfl (.tmp rfl) (by kernel_rfl)) ?_
    refine AL_step rfl rfl (S_store 1 rfl (.tmp rfl) (.tmp rfl) rfl (by first | exact Nat.le_of_ble_eq_true rfl | simp) rfl (by kernel_rfl)) ?_
    rintro _ _ ⟨rfl, rfl⟩
    refine AL_nil ?_
    refine ret_none ([(bt, Ob.cells (calL (copyA 100 o x)))] ++ F) rfl (Sub.l (List.sublist_cons_self _ _)) ⟨_, ⟨rfl, rfl⟩, rfl⟩ (.inr rfl)
  try simp only [zA, zO, zN, zM, zP, zQ, zD, zF, gd] at hb10
  have hf100 : ¬ f = 100 := fun h => hb10 (by rw [h]; rfl)
  have hx : copyA f o x = o := by unfold copyA; simp only [hf117, hf114, hf115, hf103, hf99, hf105, hf109, hf108, hf100, if_false]
  refine AC_skip ?_
  refine ret_none ([(bt, Ob.cells (calL o))] ++ F) rfl (Sub.l (List.sublist_cons_self _ _)) ⟨_, ⟨rfl, by rw [hx]⟩, rfl⟩ (.inr rfl)

end Go.Proofs.YtcbnokpgklmndaaGreatDoor

/-
The walks of Go functions in the logic AL: what each of them answers.
Conditions: those of each theorem.
-/
set_option linter.unusedVariables false
set_option linter.unusedSimpArgs false
namespace Go.Proofs.YtcbnokpgklmndaaGreatDoor
open Go.AL Go.NumSpec

set_option maxRecDepth 100000 in
/-- slices.Equal[[]int,int] -/
theorem slices_EqualI_ok (l m : List (Int)) (hl : l.length ≤ 1000000) (hm : m.length ≤ 1000000) : PCalls Tryz.prog 145 [.sl (intsV l), .sl (intsV m)] (.bool (sameL (fun a b => decide (a = b)) l m)) := by
  intro st
  refine ACalls_of (N := 26) Tryz.func145 (by kernel_rfl) rfl rfl rfl ?_
  refine AC_seq ?_
  refine AC_region ?_
  refine AL_p rfl rfl (S_assign rfl (AEv.const _)) ?_
  refine AL_nil ?_
  refine AC_seq ?_
  refine AC_seq ?_
  refine AC_region ?_
  refine AL_p rfl rfl (S_move rfl (.tmp rfl)) ?_
  refine AL_p rfl rfl (by first | exact S_lenM (e := 3) rfl (.tmp rfl) (by kernel_rfl) | exact S_len (e := 3) rfl (.tmp rfl) (by kernel_rfl)) ?_
  refine AL_p rfl rfl (S_move rfl (.tmp rfl)) ?_
  refine AL_p rfl rfl (by first | exact S_lenM (e := 3) rfl (.tmp rfl) (by kernel_rfl) | exact S_len (e := 3) rfl (.tmp rfl) (by kernel_rfl)) ?_
  refine AL_p rfl rfl (S_neq rfl (.tmp rfl) (.tmp rfl)) ?_
  refine AL_nil ?_
  refine AC_cond (.tmp rfl) (fun hb1 => ?_) (fun hb1 => ?_)
  · try simp only [zA, zO, zN, zM, zP, zQ, zD, zF, gd] at hb1
    have hbad : sameL (fun a b => decide (a = b)) l m = false := sameL_len (by omega)
    refine AC_seq ?_
    refine AC_region ?_
    refine AL_p rfl rfl (S_assign rfl (AEv.const _)) ?_
    refine AL_nil ?_
    refine AC_ret ?_
    refine ret_tmp st rfl rfl (Sub.l (List.Sublist.refl _)) (Conv.refl (Sub.l (List.Sublist.refl _)) _) ⟨by rw [hbad], rfl⟩ (.inl rfl)
  try simp only [zA, zO, zN, zM, zP, zQ, zD, zF, gd] at hb1
  have hlen : l.length = m.length := by omega
  refine AC_skip ?_
  refine AC_seq ?_
  refine AC_seq ?_
  refine AC_region ?_
  refine AL_p rfl rfl (S_move rfl (.tmp rfl)) ?_
  refine AL_p rfl rfl (by first | exact S_lenM (e := 3) rfl (.tmp rfl) (by kernel_rfl) | exact S_len (e := 3) rfl (.tmp rfl) (by kernel_rfl)) ?_
  refine AL_p rfl rfl (S_move rfl (AEv.const _)) ?_
  refine AL_nil ?_
  refine AC_block ?_
  refine AC_loopK (G := Nat) [(0, _), (1, _), (12, _)] (fun i => i ≤ l.length ∧ ∀ j (h1 : j < l.length) (h2 : j < m.length), j < i → (fun a b => decide (a = b)) (l[j]'h1) (m[j]'h2) = true) (fun g => [(13, .int .i64 (g : Int))]) (fun g => st) (fun g => l.length - g) (0) (⟨Nat.zero_le _, fun j _ _ h => absurd h (Nat.not_lt_zero _)⟩) (Sub.l (List.Sublist.refl _)) (.cons rfl (Le.refl _) (.cons rfl (Le.refl _) (.cons rfl (Le.refl _) .nil))) (.cons rfl (by first | exact Le.refl _ | exact Le.nils | exact Le.row _ _ _ _ | exact Le.of_eq (by first | rfl | (simp; done) | (push_cast; rfl) | (simp; omega))) .nil) ?_
  rintro i ⟨hi, hall⟩
  try dsimp only
  simp only [List.cons_append, List.nil_append]
  refine AC_seq ?_
  refine AC_region ?_
  refine AL_p rfl rfl (S_lss rfl (.tmp rfl) (.tmp rfl)) ?_
  refine AL_nil ?_
  refine AC_seq ?_
  refine AC_cond (.tmp rfl) (fun hb2 => ?_) (fun hb2 => ?_)
  · try simp only [zA, zO, zN, zM, zP, zQ, zD, zF, gd] at hb2
    have hil : i < l.length := by omega
    refine AC_skip ?_
    refine AC_seq ?_
    refine AC_block ?_
    refine AC_seq ?_
    refine AC_region ?_
    refine AL_p rfl rfl (S_move rfl (.tmp rfl)) ?_
    refine AL_p rfl rfl (S_assign rfl (.tmp rfl)) ?_
    refine AL_nil ?_
    refine AC_seq ?_
    refine AC_draw (by kernel_rfl) (by kernel_rfl) (.cons rfl (Q_p rfl (S_move rfl (.tmp rfl))) <|
        .cons rfl (Q_p rfl (S_move rfl (.tmp rfl))) <|
        .cons rfl (Q_p rfl (S_elemN (e := 3) 1 rfl (.tmp rfl) (.tmp rfl) (by kernel_rfl) (by kernel_rfl) (by omega) (fun _ => rfl))) <|
        .cons rfl (Q_p rfl (S_loadP rfl (.tmp rfl) rfl (by kernel_rfl))) <|
        .cons rfl (Q_p rfl (S_move rfl (.tmp rfl))) <|
        .cons rfl (Q_p rfl (S_move rfl (.tmp rfl))) <|
        .cons rfl (Q_p rfl (S_elemN (e := 3) 1 rfl (.tmp rfl) (.tmp rfl) (by kernel_rfl) (by kernel_rfl) (by omega) (fun _ => rfl))) <|
        .cons rfl (Q_p rfl (S_loadP rfl (.tmp rfl) rfl (by kernel_rfl))) <|
        .cons rfl (Q_p rfl (S_neq rfl (.tmp rfl) (.tmp rfl))) <|
        .nil) ?_
    refine AC_cond (.tmp rfl) (fun hb3 => ?_) (fun hb3 => ?_)
    · try simp only [zA, zO, zN, zM, zP, zQ, zD, zF, gd] at hb3
      have hbad : sameL (fun a b => decide (a = b)) l m = false := sameL_bad hil (by omega) (by simpa using hb3)
      refine AC_seq ?_
      refine AC_region ?_
      refine AL_p rfl rfl (S_assign rfl (AEv.const _)) ?_
      refine AL_nil ?_
      refine AC_ret ?_
      refine ret_tmp st rfl rfl (Sub.l (List.Sublist.refl _)) (Conv.refl (Sub.l (List.Sublist.refl _)) _) ⟨by rw [hbad], rfl⟩ (.inl rfl)
    try simp only [zA, zO, zN, zM, zP, zQ, zD, zF, gd] at hb3
    have hne : (fun a b => decide (a = b)) (l[i]'hil) (m[i]'(by omega)) = true := by simpa using hb3
    refine AC_skip ?_
    refine AC_region ?_
    refine AL_p rfl rfl (S_addI rfl (.tmp rfl) (AEv.const _) (by omega) (by omega)) ?_
    refine AL_p rfl rfl (S_move rfl (.tmp rfl)) ?_
    refine AL_nil ?_
    refine ⟨i + 1, ⟨by omega, fun j h1 h2 h => ?_⟩, by omega, Sub.l (List.Sublist.refl _), (.cons rfl (by first | exact Le.refl _ | exact Le.nils | exact Le.row _ _ _ _ | exact Le.of_eq (by first | rfl | (simp; done) | (push_cast; rfl) | (simp; omega))) .nil), (.cons rfl (Le.refl _) (.cons rfl (Le.refl _) (.cons rfl (Le.refl _) .nil)))⟩
    rcases Nat.lt_or_ge j i with h' | h'
    · exact hall j h1 h2 h'
    · have : j = i := by omega
      subst this
      exact hne
  try simp only [zA, zO, zN, zM, zP, zQ, zD, zF, gd] at hb2
  have hgood : sameL (fun a b => decide (a = b)) l m = true := sameL_all hlen fun j h1 h2 => hall j h1 h2 (by omega)
  refine AC_exit ?_
  refine AC_seq ?_
  refine AC_region ?_
  refine AL_p rfl rfl (S_assign rfl (AEv.const _)) ?_
  refine AL_nil ?_
  refine AC_ret ?_
  refine ret_tmp st rfl rfl (Sub.l (List.Sublist.refl _)) (Conv.refl (Sub.l (List.Sublist.refl _)) _) ⟨by rw [hgood], rfl⟩ (.inl rfl)

set_option maxRecDepth 100000 in
/-- slices.Equal[[]provost/api.Label,provost/api.Label] -/
theorem slices_EqualL_ok (l m : List (Lab)) (hl : l.length ≤ 1000000) (hm : m.length ≤ 1000000) : PCalls Tryz.prog 102 [.sl (labsV l), .sl (labsV m)] (.bool (sameL (fun a b => decide (a = b)) l m)) := by
  intro st
  refine ACalls_of (N := 26) Tryz.func102 (by kernel_rfl) rfl rfl rfl ?_
  refine AC_seq ?_
  refine AC_region ?_
  refine AL_p rfl rfl (S_assign rfl (AEv.const _)) ?_
  refine AL_nil ?_
  refine AC_seq ?_
  refine AC_seq ?_
  refine AC_region ?_
  refine AL_p rfl rfl (S_move rfl (.tmp rfl)) ?_
  refine AL_p rfl rfl (by first | exact S_lenM (e := 90) rfl (.tmp rfl) (by kernel_rfl) | exact S_len (e := 90) rfl (.tmp rfl) (by kernel_rfl)) ?_
  refine AL_p rfl rfl (S_move rfl (.tmp rfl)) ?_
  refine AL_p rfl rfl (by first | exact S_lenM (e := 90) rfl (.tmp rfl) (by kernel_rfl) | exact S_len (e := 90) rfl (.tmp rfl) (by kernel_rfl)) ?_
  refine AL_p rfl rfl (S_neq rfl (.tmp rfl) (.tmp rfl)) ?_
  refine AL_nil ?_
  refine AC_cond (.tmp rfl) (fun hb1 => ?_) (fun hb1 => ?_)
  · try simp only [zA, zO, zN, zM, zP, zQ, zD, zF, gd] at hb1
    have hbad : sameL (fun a b => decide (a = b)) l m = false := sameL_len (by omega)
    refine AC_seq ?_
    refine AC_region ?_
    refine AL_p rfl rfl (S_assign rfl (AEv.const _)) ?_
    refine AL_nil ?_
    refine AC_ret ?_
    refine ret_tmp st rfl rfl (Sub.l (List.Sublist.refl _)) (Conv.refl (Sub.l (List.Sublist.refl _)) _) ⟨by rw [hbad], rfl⟩ (.inl rfl)
  try simp only [zA, zO, zN, zM, zP, zQ, zD, zF, gd] at hb1
  have hlen : l.length = m.length := by omega
  refine AC_skip ?_
  refine AC_seq ?_
  refine AC_seq ?_
  refine AC_region ?_
  refine AL_p rfl rfl (S_move rfl (.tmp rfl)) ?_
  refine AL_p rfl rfl (by first | exact S_lenM (e := 90) rfl (.tmp rfl) (by kernel_rfl) | exact S_len (e := 90) rfl (.tmp rfl) (by kernel_rfl)) ?_
  refine AL_p rfl rfl (S_move rfl (AEv.const _)) ?_
  refine AL_nil ?_
  refine AC_block ?_
  refine AC_loopK (G := Nat) [(0, _), (1, _), (12, _)] (fun i => i ≤ l.length ∧ ∀ j (h1 : j < l.length) (h2 : j < m.length), j < i → (fun a b => decide (a = b)) (l[j]'h1) (m[j]'h2) = true) (fun g => [(13, .int .i64 (g : Int))]) (fun g => st) (fun g => l.length - g) (0) (⟨Nat.zero_le _, fun j _ _ h => absurd h (Nat.not_lt_zero _)⟩) (Sub.l (List.Sublist.refl _)) (.cons rfl (Le.refl _) (.cons rfl (Le.refl _) (.cons rfl (Le.refl _) .nil))) (.cons rfl (by first | exact Le.refl _ | exact Le.nils | exact Le.row _ _ _ _ | exact Le.of_eq (by first | rfl | (simp; done) | (push_cast; rfl) | (simp; omega))) .nil) ?_
  rintro i ⟨hi, hall⟩
  try dsimp only
  simp only [List.cons_append, List.nil_append]
  refine AC_seq ?_
  refine AC_region ?_
  refine AL_p rfl rfl (S_lss rfl (.tmp rfl) (.tmp rfl)) ?_
  refine AL_nil ?_
  refine AC_seq ?_
  refine AC_cond (.tmp rfl) (fun hb2 => ?_) (fun hb2 => ?_)
  · try simp only [zA, zO, zN, zM, zP, zQ, zD, zF, gd] at hb2
    have hil : i < l.length := by omega
    refine AC_skip ?_
    refine AC_seq ?_
    refine AC_block ?_
    refine AC_seq ?_
    refine AC_region ?_
    refine AL_p rfl rfl (S_move rfl (.tmp rfl)) ?_
    refine AL_p rfl rfl (S_assign rfl (.tmp rfl)) ?_
    refine AL_nil ?_
    refine AC_seq ?_
    refine AC_draw (by kernel_rfl) (by kernel_rfl) (.cons rfl (Q_p rfl (S_move rfl (.tmp rfl))) <|
        .cons rfl (Q_p rfl (S_move rfl (.tmp rfl))) <|
        .cons rfl (Q_p rfl (S_elemN (e := 90) 2 rfl (.tmp rfl) (.tmp rfl) (by kernel_rfl) (by kernel_rfl) (by omega) (fun _ => rfl))) <|
        .cons rfl (Q_p rfl (S_loadPN (m := 2) rfl (.tmp rfl) (by kernel_rfl) (by first | exact Nat.le_of_ble_eq_true rfl | (simp; omega) | simp))) <|
        .cons rfl (Q_p rfl (S_move rfl (.tmp rfl))) <|
        .cons rfl (Q_p rfl (S_move rfl (.tmp rfl))) <|
        .cons rfl (Q_p rfl (S_elemN (e := 90) 2 rfl (.tmp rfl) (.tmp rfl) (by kernel_rfl) (by kernel_rfl) (by omega) (fun _ => rfl))) <|
        .cons rfl (Q_p rfl (S_loadPN (m := 2) rfl (.tmp rfl) (by kernel_rfl) (by first | exact Nat.le_of_ble_eq_true rfl | (simp; omega) | simp))) <|
        .cons rfl (Q_p rfl ((S_neqAgg rfl (.tmp rfl) (.tmp rfl) (by kernel_rfl) (EqAV.struct Tryz.underlying90 (by kernel_rfl) (EqFs.flat (by kernel_rfl) (by kernel_rfl) rfl rfl (EqAV.S (by kernel_rfl)) (EqFs.flat (by kernel_rfl) (by kernel_rfl) rfl rfl (EqAV.S (by kernel_rfl)) EqFs.nil)))).ofV (V' := .bool (!decide ((l[i]'hil) = (m[i]'(by omega))))) (congrArg AV.bool (congrArg Bool.not lab_eqB)))) <|
        .nil) ?_
    refine AC_cond (.tmp rfl) (fun hb3 => ?_) (fun hb3 => ?_)
    · try simp only [zA, zO, zN, zM, zP, zQ, zD, zF, gd] at hb3
      have hbad : sameL (fun a b => decide (a = b)) l m = false := sameL_bad hil (by omega) (by simpa using hb3)
      refine AC_seq ?_
      refine AC_region ?_
      refine AL_p rfl rfl (S_assign rfl (AEv.const _)) ?_
      refine AL_nil ?_
      refine AC_ret ?_
      refine ret_tmp st rfl rfl (Sub.l (List.Sublist.refl _)) (Conv.refl (Sub.l (List.Sublist.refl _)) _) ⟨by rw [hbad], rfl⟩ (.inl rfl)
    try simp only [zA, zO, zN, zM, zP, zQ, zD, zF, gd] at hb3
    have hne : (fun a b => decide (a = b)) (l[i]'hil) (m[i]'(by omega)) = true := by simpa using hb3
    refine AC_skip ?_
    refine AC_region ?_
    refine AL_p rfl rfl (S_addI rfl (.tmp rfl) (AEv.const _) (by omega) (by omega)) ?_
    refine AL_p rfl rfl (S_move rfl (.tmp rfl)) ?_
    refine AL_nil ?_
    refine ⟨i + 1, ⟨by omega, fun j h1 h2 h => ?_⟩, by omega, Sub.l (List.Sublist.refl _), (.cons rfl (by first | exact Le.refl _ | exact Le.nils | exact Le.row _ _ _ _ | exact Le.of_eq (by first | rfl | (simp; done) | (push_cast; rfl) | (simp; omega))) .nil), (.cons rfl (Le.refl _) (.cons rfl (Le.refl _) (.cons rfl (Le.refl _) .nil)))⟩
    rcases Nat.lt_or_ge j i with h' | h'
    · exact hall j h1 h2 h'
    · have : j = i := by omega
      subst this
      exact hne
  try simp only [zA, zO, zN, zM, zP, zQ, zD, zF, gd] at hb2
  have hgood : sameL (fun a b => decide (a = b)) l m = true := sameL_all hlen fun j h1 h2 => hall j h1 h2 (by omega)
  refine AC_exit ?_
  refine AC_seq ?_
  refine AC_region ?_
  refine AL_p rfl rfl (S_assign rfl (AEv.const _)) ?_
  refine AL_nil ?_
  refine AC_ret ?_
  refine ret_tmp st rfl rfl (Sub.l (List.Sublist.refl _)) (Conv.refl (Sub.l (List.Sublist.refl _)) _) ⟨by rw [hgood], rfl⟩ (.inl rfl)

set_option maxRecDepth 100000 in
/-- provost/spec.alike -/
theorem spec_alike_ok (a b : Ctr) (ha : a.ports.length ≤ 1000000) (hb : b.ports.length ≤ 1000000) : PCalls Tryz.prog 130 [ctrAV a, ctrAV b] (.bool (alikeC a b)) := by
  intro st
  refine ACalls_of (N := 38) Tryz.func130 (by kernel_rfl) rfl rfl rfl ?_
  refine AC_seq ?_
  refine AC_region ?_
  refine AL_step rfl rfl (S_box rfl (.tmp rfl)) ?_
  rintro _ _ ⟨b1, rfl, rfl⟩
  refine AL_step rfl rfl (S_box rfl (.tmp rfl)) ?_
  rintro _ _ ⟨b2, rfl, rfl⟩
  refine AL_p rfl rfl (S_assign rfl (AEv.const _)) ?_
  refine AL_nil ?_
  refine AC_seq ?_
  refine AC_region ?_
  refine AL_p rfl rfl (S_field 0 rfl (.tmp rfl) (by kernel_rfl)) ?_
  refine AL_p rfl rfl (S_load 1 rfl (.tmp rfl) rfl rfl (by kernel_rfl)) ?_
  refine AL_p rfl rfl (S_field 0 rfl (.tmp rfl) (by kernel_rfl)) ?_
  refine AL_p rfl rfl (S_load 0 rfl (.tmp rfl) rfl rfl (by kernel_rfl)) ?_
  refine AL_p rfl rfl (S_eqS rfl (.tmp rfl) (.tmp rfl)) ?_
  refine AL_p rfl rfl (S_move rfl (.tmp rfl)) ?_
  refine AL_g rfl rfl (.tmp rfl) rfl (fun hg3 => S_field 2 rfl (.tmp rfl) (by kernel_rfl)) ?_
  refine AL_g rfl rfl (.tmp rfl) rfl (fun hg6 => S_loadN (m := 3) 1 rfl (AEv.cond (.tmp rfl) (by first | assumption | exact gdAnd (by assumption) (by assumption))) rfl (by kernel_rfl) (by first | exact Nat.le_of_ble_eq_true rfl | (simp; omega) | simp)) ?_
  refine AL_g rfl rfl (.tmp rfl) rfl (fun hg9 => S_field 2 rfl (.tmp rfl) (by kernel_rfl)) ?_
  refine AL_g rfl rfl (.tmp rfl) rfl (fun hg12 => S_loadN (m := 3) 0 rfl (AEv.cond (.tmp rfl) (by first | assumption | exact gdAnd (by assumption) (by assumption))) rfl (by kernel_rfl) (by first | exact Nat.le_of_ble_eq_true rfl | (simp; omega) | simp)) ?_
  refine AL_g rfl rfl (.tmp rfl) rfl (fun hg15 => S_eqlAgg rfl (AEv.cond (.tmp rfl) (by first | assumption | exact gdAnd (by assumption) (by assumption))) (AEv.cond (.tmp rfl) (by first | assumption | exact gdAnd (by assumption) (by assumption))) (by kernel_rfl) (EqAV.struct Tryz.underlying109 (by kernel_rfl) (EqFs.flat (by kernel_rfl) (by kernel_rfl) rfl rfl (EqAV.int (k' := .i64) (by kernel_rfl)) (EqFs.flat (by kernel_rfl) (by kernel_rfl) rfl rfl (EqAV.int (k' := .i64) (by kernel_rfl)) (EqFs.flat (by kernel_rfl) (by kernel_rfl) rfl rfl (EqAV.int (k' := .i64) (by kernel_rfl)) EqFs.nil))))) ?_
  refine AL_p rfl rfl (S_and rfl (.tmp rfl) (fun hp18 => (AEv.cond (.tmp rfl) (by first | assumption | exact gdT hp18 | exact gdF hp18 | exact gdAnd (by assumption) (gdT hp18) | exact gdAnd (by assumption) (gdF hp18))))) ?_
  refine AL_p rfl rfl (S_move rfl (.tmp rfl)) ?_
  refine AL_g rfl rfl (.tmp rfl) rfl (fun hg19 => S_field 5 rfl (.tmp rfl) (by kernel_rfl)) ?_
  refine AL_g rfl rfl (.tmp rfl) rfl (fun hg22 => S_loadN (m := 3) 1 rfl (AEv.cond (.tmp rfl) (by first | assumption | exact gdAnd (by assumption) (by assumption))) rfl (by kernel_rfl) (by first | exact Nat.le_of_ble_eq_true rfl | (simp; omega) | simp)) ?_
  refine AL_g rfl rfl (.tmp rfl) rfl (fun hg25 => S_field 5 rfl (.tmp rfl) (by kernel_rfl)) ?_
  refine AL_g rfl rfl (.tmp rfl) rfl (fun hg28 => S_loadN (m := 3) 0 rfl (AEv.cond (.tmp rfl) (by first | assumption | exact gdAnd (by assumption) (by assumption))) rfl (by kernel_rfl) (by first | exact Nat.le_of_ble_eq_true rfl | (simp; omega) | simp)) ?_
  refine AL_g rfl rfl (.tmp rfl) rfl (fun hg31 => S_eqlAgg rfl (AEv.cond (.tmp rfl) (by first | assumption | exact gdAnd (by assumption) (by assumption))) (AEv.cond (.tmp rfl) (by first | assumption | exact gdAnd (by assumption) (by assumption))) (by kernel_rfl) (EqAV.struct Tryz.underlying109 (by kernel_rfl) (EqFs.flat (by kernel_rfl) (by kernel_rfl) rfl rfl (EqAV.int (k' := .i64) (by kernel_rfl)) (EqFs.flat (by kernel_rfl) (by kernel_rfl) rfl rfl (EqAV.int (k' := .i64) (by kernel_rfl)) (EqFs.flat (by kernel_rfl) (by kernel_rfl) rfl rfl (EqAV.int (k' := .i64) (by kernel_rfl)) EqFs.nil))))) ?_
  refine AL_p rfl rfl (S_and rfl (.tmp rfl) (fun hp34 => (AEv.cond (.tmp rfl) (by first | assumption | exact gdT hp34 | exact gdF hp34 | exact gdAnd (by assumption) (gdT hp34) | exact gdAnd (by assumption) (gdF hp34))))) ?_
  refine AL_p rfl rfl (S_move rfl (.tmp rfl)) ?_
  refine AL_g rfl rfl (.tmp rfl) rfl (fun hg35 => S_field 8 rfl (.tmp rfl) (by kernel_rfl)) ?_
  refine AL_g rfl rfl (.tmp rfl) rfl (fun hg38 => S_load 1 rfl (AEv.cond (.tmp rfl) (by first | assumption | exact gdAnd (by assumption) (by assumption))) rfl rfl (by kernel_rfl)) ?_
  refine AL_g rfl rfl (.tmp rfl) rfl (fun hg41 => S_field 8 rfl (.tmp rfl) (by kernel_rfl)) ?_
  refine AL_g rfl rfl (.tmp rfl) rfl (fun hg44 => S_load 0 rfl (AEv.cond (.tmp rfl) (by first | assumption | exact gdAnd (by assumption) (by assumption))) rfl rfl (by kernel_rfl)) ?_
  refine AL_g rfl rfl (.tmp rfl) rfl (fun hg47 => S_pcall rfl (AEvs.cons (AEv.cond (.tmp rfl) (by first | assumption | exact gdAnd (by assumption) (by assumption))) (AEvs.cons (AEv.cond (.tmp rfl) (by first | assumption | exact gdAnd (by assumption) (by assumption))) AEvs.nil)) (slices_EqualI_ok a.ports b.ports ha hb)) ?_
  refine AL_p rfl rfl (S_and rfl (.tmp rfl) (fun hp50 => (AEv.cond (.tmp rfl) (by first | assumption | exact gdT hp50 | exact gdF hp50 | exact gdAnd (by assumption) (gdT hp50) | exact gdAnd (by assumption) (gdF hp50))))) ?_
  refine AL_p rfl rfl (S_move rfl (.tmp rfl)) ?_
  refine AL_g rfl rfl (.tmp rfl) rfl (fun hg51 => S_field 9 rfl (.tmp rfl) (by kernel_rfl)) ?_
  refine AL_g rfl rfl (.tmp rfl) rfl (fun hg54 => S_loadN (m := 2) 1 rfl (AEv.cond (.tmp rfl) (by first | assumption | exact gdAnd (by assumption) (by assumption))) rfl (by kernel_rfl) (by first | exact Nat.le_of_ble_eq_true rfl | (simp; omega) | simp)) ?_
  refine AL_g rfl rfl (.tmp rfl) rfl (fun hg57 => S_field 9 rfl (.tmp rfl) (by kernel_rfl)) ?_
  refine AL_g rfl rfl (.tmp rfl) rfl (fun hg60 => S_loadN (m := 2) 0 rfl (AEv.cond (.tmp rfl) (by first | assumption | exact gdAnd (by assumption) (by assumption))) rfl (by kernel_rfl) (by first | exact Nat.le_of_ble_eq_true rfl | (simp; omega) | simp)) ?_
  refine AL_g rfl rfl (.tmp rfl) rfl (fun hg63 => S_eqlAgg rfl (AEv.cond (.tmp rfl) (by first | assumption | exact gdAnd (by assumption) (by assumption))) (AEv.cond (.tmp rfl) (by first | assumption | exact gdAnd (by assumption) (by assumption))) (by kernel_rfl) (EqAV.struct Tryz.underlying112 (by kernel_rfl) (EqFs.flat (by kernel_rfl) (by kernel_rfl) rfl rfl (EqAV.int (k' := .i64) (by kernel_rfl)) (EqFs.flat (by kernel_rfl) (by kernel_rfl) rfl rfl (EqAV.int (k' := .i64) (by kernel_rfl)) EqFs.nil)))) ?_
  refine AL_p rfl rfl (S_and rfl (.tmp rfl) (fun hp66 => (AEv.cond (.tmp rfl) (by first | assumption | exact gdT hp66 | exact gdF hp66 | exact gdAnd (by assumption) (gdT hp66) | exact gdAnd (by assumption) (gdF hp66))))) ?_
  refine AL_p rfl rfl (S_assign rfl (.tmp rfl)) ?_
  refine AL_nil ?_
  refine AC_ret ?_
  refine ret_tmp st rfl rfl (Sub.l (List.Sublist.cons _ (List.Sublist.cons _ (List.Sublist.refl _)))) (Conv.refl (Sub.l (List.Sublist.cons _ (List.Sublist.cons _ (List.Sublist.refl _)))) _) ⟨congrArg AV.bool (by rw [res_eqB, res_eqB, probe_eqB, sameL_eq]; simp only [alikeC, Bool.and_assoc]), rfl⟩ (.inl rfl)

set_option maxRecDepth 100000 in
/-- provost/spec.exact -/
theorem spec_exact_ok (a b : Ctr) (ha : a.ports.length ≤ 1000000) (hb : b.ports.length ≤ 1000000) : PCalls Tryz.prog 104 [ctrAV a, ctrAV b] (.bool (exactC a b)) := by
  intro st
  refine ACalls_of (N := 15) Tryz.func104 (by kernel_rfl) rfl rfl rfl ?_
  refine AC_seq ?_
  refine AC_region ?_
  refine AL_step rfl rfl (S_box rfl (.tmp rfl)) ?_
  rintro _ _ ⟨b1, rfl, rfl⟩
  refine AL_step rfl rfl (S_box rfl (.tmp rfl)) ?_
  rintro _ _ ⟨b2, rfl, rfl⟩
  refine AL_p rfl rfl (S_assign rfl (AEv.const _)) ?_
  refine AL_nil ?_
  refine AC_seq ?_
  refine AC_region ?_
  refine AL_p rfl rfl (S_loadN (m := 11) 1 rfl (.tmp rfl) rfl (by kernel_rfl) (by first | exact Nat.le_of_ble_eq_true rfl | (simp; omega) | simp)) ?_
  refine AL_p rfl rfl (S_loadN (m := 11) 0 rfl (.tmp rfl) rfl (by kernel_rfl) (by first | exact Nat.le_of_ble_eq_true rfl | (simp; omega) | simp)) ?_
  refine AL_p rfl rfl (S_pcall rfl (AEvs.cons (y := ctrAV a) (.tmp rfl) (AEvs.cons (y := ctrAV b) (.tmp rfl) AEvs.nil)) (spec_alike_ok a b ha hb)) ?_
  refine AL_p rfl rfl (S_move rfl (.tmp rfl)) ?_
  refine AL_g rfl rfl (.tmp rfl) rfl (fun hg3 => S_field 1 rfl (.tmp rfl) (by kernel_rfl)) ?_
  refine AL_g rfl rfl (.tmp rfl) rfl (fun hg6 => S_load 1 rfl (AEv.cond (.tmp rfl) (by first | assumption | exact gdAnd (by assumption) (by assumption))) rfl rfl (by kernel_rfl)) ?_
  refine AL_g rfl rfl (.tmp rfl) rfl (fun hg9 => S_field 1 rfl (.tmp rfl) (by kernel_rfl)) ?_
  refine AL_g rfl rfl (.tmp rfl) rfl (fun hg12 => S_load 0 rfl (AEv.cond (.tmp rfl) (by first | assumption | exact gdAnd (by assumption) (by assumption))) rfl rfl (by kernel_rfl)) ?_
  refine AL_g rfl rfl (.tmp rfl) rfl (fun hg15 => S_eqS rfl (AEv.cond (.tmp rfl) (by first | assumption | exact gdAnd (by assumption) (by assumption))) (AEv.cond (.tmp rfl) (by first | assumption | exact gdAnd (by assumption) (by assumption)))) ?_
  refine AL_p rfl rfl (S_and rfl (.tmp rfl) (fun hp18 => (AEv.cond (.tmp rfl) (by first | assumption | exact gdT hp18 | exact gdF hp18 | exact gdAnd (by assumption) (gdT hp18) | exact gdAnd (by assumption) (gdF hp18))))) ?_
  refine AL_p rfl rfl (S_assign rfl (.tmp rfl)) ?_
  refine AL_nil ?_
  refine AC_ret ?_
  refine ret_tmp st rfl rfl (Sub.l (List.Sublist.cons _ (List.Sublist.cons _ (List.Sublist.refl _)))) (Conv.refl (Sub.l (List.Sublist.cons _ (List.Sublist.cons _ (List.Sublist.refl _)))) _) ⟨rfl, rfl⟩ (.inl rfl)

set_option maxRecDepth 100000 in
/-- slices.EqualFunc[[]provost/api.Container,[]provost/api.Container,provost/api.Container,provost/api.Container] -/
theorem slices_EqualFunc_ok (l m : List Ctr) (hl : l.length ≤ 1000000) (hm : m.length ≤ 1000000) (hlp : ∀ c ∈ l, c.ports.length ≤ 1000000) (hmp : ∀ c ∈ m, c.ports.length ≤ 1000000) : PCalls Tryz.prog 129 [.sl (ctrsV l), .sl (ctrsV m), .fn 104 []] (.bool (sameL exactC l m)) := by
  intro st
  refine ACalls_of (N := 32) Tryz.func129 (by kernel_rfl) rfl rfl rfl ?_
  refine AC_seq ?_
  refine AC_region ?_
  refine AL_p rfl rfl (S_assign rfl (AEv.const _)) ?_
  refine AL_nil ?_
  refine AC_seq ?_
  refine AC_seq ?_
  refine AC_region ?_
  refine AL_p rfl rfl (S_move rfl (.tmp rfl)) ?_
  refine AL_p rfl rfl (by first | exact S_lenM (e := 114) rfl (.tmp rfl) (by kernel_rfl) | exact S_len (e := 114) rfl (.tmp rfl) (by kernel_rfl)) ?_
  refine AL_p rfl rfl (S_move rfl (.tmp rfl)) ?_
  refine AL_p rfl rfl (by first | exact S_lenM (e := 114) rfl (.tmp rfl) (by kernel_rfl) | exact S_len (e := 114) rfl (.tmp rfl) (by kernel_rfl)) ?_
  refine AL_p rfl rfl (S_neq rfl (.tmp rfl) (.tmp rfl)) ?_
  refine AL_nil ?_
  refine AC_cond (.tmp rfl) (fun hb1 => ?_) (fun hb1 => ?_)
  · try simp only [zA, zO, zN, zM, zP, zQ, zD, zF, gd] at hb1
    have hbad : sameL exactC l m = false := sameL_len (by omega)
    refine AC_seq ?_
    refine AC_region ?_
    refine AL_p rfl rfl (S_assign rfl (AEv.const _)) ?_
    refine AL_nil ?_
    refine AC_ret ?_
    refine ret_tmp st rfl rfl (Sub.l (List.Sublist.refl _)) (Conv.refl (Sub.l (List.Sublist.refl _)) _) ⟨by rw [hbad], rfl⟩ (.inl rfl)
  try simp only [zA, zO, zN, zM, zP, zQ, zD, zF, gd] at hb1
  have hlen : l.length = m.length := by omega
  refine AC_skip ?_
  refine AC_seq ?_
  refine AC_seq ?_
  refine AC_region ?_
  refine AL_p rfl rfl (S_move rfl (.tmp rfl)) ?_
  refine AL_p rfl rfl (by first | exact S_lenM (e := 114) rfl (.tmp rfl) (by kernel_rfl) | exact S_len (e := 114) rfl (.tmp rfl) (by kernel_rfl)) ?_
  refine AL_p rfl rfl (S_move rfl (AEv.const _)) ?_
  refine AL_nil ?_
  refine AC_block ?_
  refine AC_loopK (G := Nat) [(1, _), (2, _), (15, _), (16, _)] (fun i => i ≤ l.length ∧ ∀ j (h1 : j < l.length) (h2 : j < m.length), j < i → exactC (l[j]'h1) (m[j]'h2) = true) (fun g => [(17, .int .i64 (g : Int))]) (fun g => st) (fun g => l.length - g) (0) (⟨Nat.zero_le _, fun j _ _ h => absurd h (Nat.not_lt_zero _)⟩) (Sub.l (List.Sublist.refl _)) (.cons rfl (Le.refl _) (.cons rfl (Le.refl _) (.cons rfl (Le.refl _) (.cons rfl (Le.refl _) .nil)))) (.cons rfl (by first | exact Le.refl _ | exact Le.nils | exact Le.row _ _ _ _ | exact Le.of_eq (by first | rfl | (simp; done) | (push_cast; rfl) | (simp; omega))) .nil) ?_
  rintro i ⟨hi, hall⟩
  try dsimp only
  simp only [List.cons_append, List.nil_append]
  refine AC_seq ?_
  refine AC_region ?_
  refine AL_p rfl rfl (S_lss rfl (.tmp rfl) (.tmp rfl)) ?_
  refine AL_nil ?_
  refine AC_seq ?_
  refine AC_cond (.tmp rfl) (fun hb2 => ?_) (fun hb2 => ?_)
  · try simp only [zA, zO, zN, zM, zP, zQ, zD, zF, gd] at hb2
    have hil : i < l.length := by omega
    have him : i < m.length := by omega
    refine AC_skip ?_
    refine AC_seq ?_
    refine AC_block ?_
    refine AC_seq ?_
    refine AC_region ?_
    refine AL_p rfl rfl (S_move rfl (.tmp rfl)) ?_
    refine AL_p rfl rfl (S_elemN (e := 114) 11 rfl (.tmp rfl) (.tmp rfl) (by kernel_rfl) (by kernel_rfl) (by omega) (fun _ => rfl)) ?_
    refine AL_p rfl rfl (S_loadPN (m := 11) rfl (.tmp rfl) (by kernel_rfl) (by first | exact Nat.le_of_ble_eq_true rfl | (simp; omega) | simp)) ?_
    refine AL_step rfl rfl (S_alloc [.string ⟨#[]⟩, .string ⟨#[]⟩, .int .i64 0, .int .i64 0, .int .i64 0, .int .i64 0, .int .i64 0, .int .i64 0, .slice none 0 0, .int .i64 0, .int .i64 0] rfl (by kernel_rfl)) ?_
    rintro _ _ ⟨b8, rfl, rfl⟩
    refine AL_p rfl rfl (S_assign rfl (.tmp rfl)) ?_
    refine AL_step rfl rfl (S_storeW 0 rfl (.tmp rfl) (.tmp rfl) rfl rfl rfl (by kernel_rfl)) ?_
    rintro _ _ ⟨rfl, rfl⟩
    refine AL_nil ?_
    refine AC_seq ?_
    refine AC_region ?_
    refine AL_p rfl rfl (S_move rfl (.tmp rfl)) ?_
    refine AL_p rfl rfl (S_move rfl (.tmp rfl)) ?_
    refine AL_p rfl rfl (S_elemN (e := 114) 11 rfl (.tmp rfl) (.tmp rfl) (by kernel_rfl) (by kernel_rfl) (by omega) (fun _ => rfl)) ?_
    refine AL_p rfl rfl (S_loadPN (m := 11) rfl (.tmp rfl) (by kernel_rfl) (by first | exact Nat.le_of_ble_eq_true rfl | (simp; omega) | simp)) ?_
    refine AL_step rfl rfl (S_alloc [.string ⟨#[]⟩, .string ⟨#[]⟩, .int .i64 0, .int .i64 0, .int .i64 0, .int .i64 0, .int .i64 0, .int .i64 0, .slice none 0 0, .int .i64 0, .int .i64 0] rfl (by kernel_rfl)) ?_
    rintro _ _ ⟨b9, rfl, rfl⟩
    refine AL_step rfl rfl (S_storeW 0 rfl (.tmp rfl) (.tmp rfl) rfl rfl rfl (by kernel_rfl)) ?_
    rintro _ _ ⟨rfl, rfl⟩
    refine AL_nil ?_
    refine AC_seq ?_
    refine AC_region ?_
    refine AL_p rfl rfl (S_move rfl (.tmp rfl)) ?_
    refine AL_p rfl rfl (S_loadN (m := 11) 1 rfl (.tmp rfl) rfl (by kernel_rfl) (by first | exact Nat.le_of_ble_eq_true rfl | (simp; omega) | simp)) ?_
    refine AL_p rfl rfl (S_loadN (m := 11) 0 rfl (.tmp rfl) rfl (by kernel_rfl) (by first | exact Nat.le_of_ble_eq_true rfl | (simp; omega) | simp)) ?_
    refine AL_step rfl rfl (S_callF (caps := []) rfl (.tmp rfl) (AEvs.cons (y := ctrAV (l[i]'hil)) (.tmp rfl) (AEvs.cons (y := ctrAV (m[i]'him)) (.tmp rfl) AEvs.nil)) (spec_exact_ok (l[i]'hil) (m[i]'him) (hlp _ (List.getElem_mem _)) (hmp _ (List.getElem_mem _)) _)) ?_
    rintro _ _ ⟨rfl, rfl⟩
    refine AL_p rfl rfl (S_not rfl (.tmp rfl)) ?_
    refine AL_nil ?_
    refine AC_cond (.tmp rfl) (fun hb5 => ?_) (fun hb5 => ?_)
    · try simp only [zA, zO, zN, zM, zP, zQ, zD, zF, gd] at hb5
      have hbad : sameL exactC l m = false := sameL_bad hil him hb5
      refine AC_seq ?_
      refine AC_region ?_
      refine AL_p rfl rfl (S_assign rfl (AEv.const _)) ?_
      refine AL_nil ?_
      refine AC_ret ?_
      refine ret_tmp st rfl rfl (Sub.l (List.Sublist.cons _ (List.Sublist.cons _ (List.Sublist.refl _)))) (Conv.refl (Sub.l (List.Sublist.cons _ (List.Sublist.cons _ (List.Sublist.refl _)))) _) ⟨by rw [hbad], rfl⟩ (.inl rfl)
    try simp only [zA, zO, zN, zM, zP, zQ, zD, zF, gd] at hb5
    have hne : exactC (l[i]'hil) (m[i]'him) = true := hb5
    refine AC_skip ?_
    refine AC_region ?_
    refine AL_p rfl rfl (S_addI rfl (.tmp rfl) (AEv.const _) (by omega) (by omega)) ?_
    refine AL_p rfl rfl (S_move rfl (.tmp rfl)) ?_
    refine AL_nil ?_
    refine ⟨i + 1, ⟨by omega, fun j h1 h2 h => ?_⟩, by omega, (Sub.l (List.Sublist.cons _ (List.Sublist.cons _ (List.Sublist.refl _)))), (.cons rfl (by first | exact Le.refl _ | exact Le.nils | exact Le.row _ _ _ _ | exact Le.of_eq (by first | rfl | (simp; done) | (push_cast; rfl) | (simp; omega))) .nil), (.cons rfl (Le.refl _) (.cons rfl (Le.refl _) (.cons rfl (Le.refl _) (.cons rfl (Le.refl _) .nil))))⟩
    rcases Nat.lt_or_ge j i with h' | h'
    · exact hall j h1 h2 h'
    · have : j = i := by omega
      subst this
      exact hne
  try simp only [zA, zO, zN, zM, zP, zQ, zD, zF, gd] at hb2
  have hgood : sameL exactC l m = true := sameL_all hlen fun j h1 h2 => hall j h1 h2 (by omega)
  refine AC_exit ?_
  refine AC_seq ?_
  refine AC_region ?_
  refine AL_p rfl rfl (S_assign rfl (AEv.const _)) ?_
  refine AL_nil ?_
  refine AC_ret ?_
  refine ret_tmp st rfl rfl (Sub.l (List.Sublist.refl _)) (Conv.refl (Sub.l (List.Sublist.refl _)) _) ⟨by rw [hgood], rfl⟩ (.inl rfl)

set_option maxRecDepth 100000 in
/-- provost/spec.each[provost/api.Container] -/
theorem spec_each_ok (l m : List Ctr) (hl : l.length ≤ 1000000) (hm : m.length ≤ 1000000) (hlp : ∀ c ∈ l, c.ports.length ≤ 1000000) (hmp : ∀ c ∈ m, c.ports.length ≤ 1000000) : PCalls Tryz.prog 103 [.sl (ctrsV l), .sl (ctrsV m), .fn 104 []] (.bool (sameL exactC l m)) := by
  intro st
  refine ACalls_of (N := 11) Tryz.func103 (by kernel_rfl) rfl rfl rfl ?_
  refine AC_seq ?_
  refine AC_region ?_
  refine AL_p rfl rfl (S_assign rfl (AEv.const _)) ?_
  refine AL_nil ?_
  refine AC_seq ?_
  refine AC_region ?_
  refine AL_p rfl rfl (S_move rfl (.tmp rfl)) ?_
  refine AL_p rfl rfl (S_move rfl (.tmp rfl)) ?_
  refine AL_p rfl rfl (S_move rfl (.tmp rfl)) ?_
  refine AL_p rfl rfl (S_pcall rfl (AEvs.cons (.tmp rfl) (AEvs.cons (.tmp rfl) (AEvs.cons (.tmp rfl) AEvs.nil))) (slices_EqualFunc_ok _ _ (by omega) (by omega) (by assumption) (by assumption))) ?_
  refine AL_p rfl rfl (S_assign rfl (.tmp rfl)) ?_
  refine AL_nil ?_
  refine AC_ret ?_
  refine ret_tmp st rfl rfl (Sub.l (List.Sublist.refl _)) (Conv.refl (Sub.l (List.Sublist.refl _)) _) ⟨rfl, rfl⟩ (.inl rfl)

set_option maxRecDepth 100000 in
/-- provost/spec.Same -/
theorem spec_Same_ok (a b : Spc) (ha : shortS a) (hb : shortS b) : PCalls Tryz.prog 70 [spcAV a, spcAV b] (.bool (sameS a b)) := by
  intro st
  refine ACalls_of (N := 52) Tryz.func70 (by kernel_rfl) rfl rfl rfl ?_
  obtain ⟨a1, a2, a3, a4, a5⟩ := ha
  obtain ⟨b1', b2', b3', b4', b5'⟩ := hb
  refine AC_seq ?_
  refine AC_region ?_
  refine AL_step rfl rfl (S_box rfl (.tmp rfl)) ?_
  rintro _ _ ⟨b1, rfl, rfl⟩
  refine AL_step rfl rfl (S_box rfl (.tmp rfl)) ?_
  rintro _ _ ⟨b2, rfl, rfl⟩
  refine AL_p rfl rfl (S_assign rfl (AEv.const _)) ?_
  refine AL_nil ?_
  refine AC_seq ?_
  refine AC_region ?_
  refine AL_p rfl rfl (S_field 0 rfl (.tmp rfl) (by kernel_rfl)) ?_
  refine AL_p rfl rfl (S_load 1 rfl (.tmp rfl) rfl rfl (by kernel_rfl)) ?_
  refine AL_p rfl rfl (S_field 0 rfl (.tmp rfl) (by kernel_rfl)) ?_
  refine AL_p rfl rfl (S_load 0 rfl (.tmp rfl) rfl rfl (by kernel_rfl)) ?_
  refine AL_p rfl rfl (S_eqS rfl (.tmp rfl) (.tmp rfl)) ?_
  refine AL_p rfl rfl (S_move rfl (.tmp rfl)) ?_
  refine AL_g rfl rfl (.tmp rfl) rfl (fun hg3 => S_field 1 rfl (.tmp rfl) (by kernel_rfl)) ?_
  refine AL_g rfl rfl (.tmp rfl) rfl (fun hg6 => S_load 1 rfl (AEv.cond (.tmp rfl) (by first | assumption | exact gdAnd (by assumption) (by assumption))) rfl rfl (by kernel_rfl)) ?_
  refine AL_g rfl rfl (.tmp rfl) rfl (fun hg9 => S_field 1 rfl (.tmp rfl) (by kernel_rfl)) ?_
  refine AL_g rfl rfl (.tmp rfl) rfl (fun hg12 => S_load 0 rfl (AEv.cond (.tmp rfl) (by first | assumption | exact gdAnd (by assumption) (by assumption))) rfl rfl (by kernel_rfl)) ?_
  refine AL_g rfl rfl (.tmp rfl) rfl (fun hg15 => S_pcall rfl (AEvs.cons (AEv.cond (.tmp rfl) (by first | assumption | exact gdAnd (by assumption) (by assumption))) (AEvs.cons (AEv.cond (.tmp rfl) (by first | assumption | exact gdAnd (by assumption) (by assumption))) AEvs.nil)) (slices_EqualL_ok a.labels b.labels a1 b1')) ?_
  refine AL_p rfl rfl (S_and rfl (.tmp rfl) (fun hp18 => (AEv.cond (.tmp rfl) (by first | assumption | exact gdT hp18 | exact gdF hp18 | exact gdAnd (by assumption) (gdT hp18) | exact gdAnd (by assumption) (gdF hp18))))) ?_
  refine AL_p rfl rfl (S_move rfl (.tmp rfl)) ?_
  refine AL_g rfl rfl (.tmp rfl) rfl (fun hg19 => S_field 2 rfl (.tmp rfl) (by kernel_rfl)) ?_
  refine AL_g rfl rfl (.tmp rfl) rfl (fun hg22 => S_load 1 rfl (AEv.cond (.tmp rfl) (by first | assumption | exact gdAnd (by assumption) (by assumption))) rfl rfl (by kernel_rfl)) ?_
  refine AL_g rfl rfl (.tmp rfl) rfl (fun hg25 => S_field 2 rfl (.tmp rfl) (by kernel_rfl)) ?_
  refine AL_g rfl rfl (.tmp rfl) rfl (fun hg28 => S_load 0 rfl (AEv.cond (.tmp rfl) (by first | assumption | exact gdAnd (by assumption) (by assumption))) rfl rfl (by kernel_rfl)) ?_
  refine AL_g rfl rfl (.tmp rfl) rfl (fun hg31 => S_pcall rfl (AEvs.cons (AEv.cond (.tmp rfl) (by first | assumption | exact gdAnd (by assumption) (by assumption))) (AEvs.cons (AEv.cond (.tmp rfl) (by first | assumption | exact gdAnd (by assumption) (by assumption))) (AEvs.cons (AEv.func _) AEvs.nil))) (spec_each_ok a.init b.init a2 b2' a4 b4')) ?_
  refine AL_p rfl rfl (S_and rfl (.tmp rfl) (fun hp34 => (AEv.cond (.tmp rfl) (by first | assumption | exact gdT hp34 | exact gdF hp34 | exact gdAnd (by assumption) (gdT hp34) | exact gdAnd (by assumption) (gdF hp34))))) ?_
  refine AL_p rfl rfl (S_move rfl (.tmp rfl)) ?_
  refine AL_g rfl rfl (.tmp rfl) rfl (fun hg35 => S_field 3 rfl (.tmp rfl) (by kernel_rfl)) ?_
  refine AL_g rfl rfl (.tmp rfl) rfl (fun hg38 => S_load 1 rfl (AEv.cond (.tmp rfl) (by first | assumption | exact gdAnd (by assumption) (by assumption))) rfl rfl (by kernel_rfl)) ?_
  refine AL_g rfl rfl (.tmp rfl) rfl (fun hg41 => S_field 3 rfl (.tmp rfl) (by kernel_rfl)) ?_
  refine AL_g rfl rfl (.tmp rfl) rfl (fun hg44 => S_load 0 rfl (AEv.cond (.tmp rfl) (by first | assumption | exact gdAnd (by assumption) (by assumption))) rfl rfl (by kernel_rfl)) ?_
  refine AL_g rfl rfl (.tmp rfl) rfl (fun hg47 => S_pcall rfl (AEvs.cons (AEv.cond (.tmp rfl) (by first | assumption | exact gdAnd (by assumption) (by assumption))) (AEvs.cons (AEv.cond (.tmp rfl) (by first | assumption | exact gdAnd (by assumption) (by assumption))) (AEvs.cons (AEv.func _) AEvs.nil))) (spec_each_ok a.main b.main a3 b3' a5 b5')) ?_
  refine AL_p rfl rfl (S_and rfl (.tmp rfl) (fun hp50 => (AEv.cond (.tmp rfl) (by first | assumption | exact gdT hp50 | exact gdF hp50 | exact gdAnd (by assumption) (gdT hp50) | exact gdAnd (by assumption) (gdF hp50))))) ?_
  refine AL_p rfl rfl (S_move rfl (.tmp rfl)) ?_
  refine AL_g rfl rfl (.tmp rfl) rfl (fun hg51 => S_field 4 rfl (.tmp rfl) (by kernel_rfl)) ?_
  refine AL_g rfl rfl (.tmp rfl) rfl (fun hg54 => S_load 1 rfl (AEv.cond (.tmp rfl) (by first | assumption | exact gdAnd (by assumption) (by assumption))) rfl rfl (by kernel_rfl)) ?_
  refine AL_g rfl rfl (.tmp rfl) rfl (fun hg57 => S_field 4 rfl (.tmp rfl) (by kernel_rfl)) ?_
  refine AL_g rfl rfl (.tmp rfl) rfl (fun hg60 => S_load 0 rfl (AEv.cond (.tmp rfl) (by first | assumption | exact gdAnd (by assumption) (by assumption))) rfl rfl (by kernel_rfl)) ?_
  refine AL_g rfl rfl (.tmp rfl) rfl (fun hg63 => S_eql rfl (AEv.cond (.tmp rfl) (by first | assumption | exact gdAnd (by assumption) (by assumption))) (AEv.cond (.tmp rfl) (by first | assumption | exact gdAnd (by assumption) (by assumption)))) ?_
  refine AL_p rfl rfl (S_and rfl (.tmp rfl) (fun hp66 => (AEv.cond (.tmp rfl) (by first | assumption | exact gdT hp66 | exact gdF hp66 | exact gdAnd (by assumption) (gdT hp66) | exact gdAnd (by assumption) (gdF hp66))))) ?_
  refine AL_p rfl rfl (S_move rfl (.tmp rfl)) ?_
  refine AL_g rfl rfl (.tmp rfl) rfl (fun hg67 => S_field 5 rfl (.tmp rfl) (by kernel_rfl)) ?_
  refine AL_g rfl rfl (.tmp rfl) rfl (fun hg70 => S_load 1 rfl (AEv.cond (.tmp rfl) (by first | assumption | exact gdAnd (by assumption) (by assumption))) rfl rfl (by kernel_rfl)) ?_
  refine AL_g rfl rfl (.tmp rfl) rfl (fun hg73 => S_field 5 rfl (.tmp rfl) (by kernel_rfl)) ?_
  refine AL_g rfl rfl (.tmp rfl) rfl (fun hg76 => S_load 0 rfl (AEv.cond (.tmp rfl) (by first | assumption | exact gdAnd (by assumption) (by assumption))) rfl rfl (by kernel_rfl)) ?_
  refine AL_g rfl rfl (.tmp rfl) rfl (fun hg79 => S_eql rfl (AEv.cond (.tmp rfl) (by first | assumption | exact gdAnd (by assumption) (by assumption))) (AEv.cond (.tmp rfl) (by first | assumption | exact gdAnd (by assumption) (by assumption)))) ?_
  refine AL_p rfl rfl (S_and rfl (.tmp rfl) (fun hp82 => (AEv.cond (.tmp rfl) (by first | assumption | exact gdT hp82 | exact gdF hp82 | exact gdAnd (by assumption) (gdT hp82) | exact gdAnd (by assumption) (gdF hp82))))) ?_
  refine AL_p rfl rfl (S_move rfl (.tmp rfl)) ?_
  refine AL_g rfl rfl (.tmp rfl) rfl (fun hg83 => S_field 6 rfl (.tmp rfl) (by kernel_rfl)) ?_
  refine AL_g rfl rfl (.tmp rfl) rfl (fun hg86 => S_load 1 rfl (AEv.cond (.tmp rfl) (by first | assumption | exact gdAnd (by assumption) (by assumption))) rfl rfl (by kernel_rfl)) ?_
  refine AL_g rfl rfl (.tmp rfl) rfl (fun hg89 => S_field 6 rfl (.tmp rfl) (by kernel_rfl)) ?_
  refine AL_g rfl rfl (.tmp rfl) rfl (fun hg92 => S_load 0 rfl (AEv.cond (.tmp rfl) (by first | assumption | exact gdAnd (by assumption) (by assumption))) rfl rfl (by kernel_rfl)) ?_
  refine AL_g rfl rfl (.tmp rfl) rfl (fun hg95 => S_eql rfl (AEv.cond (.tmp rfl) (by first | assumption | exact gdAnd (by assumption) (by assumption))) (AEv.cond (.tmp rfl) (by first | assumption | exact gdAnd (by assumption) (by assumption)))) ?_
  refine AL_p rfl rfl (S_and rfl (.tmp rfl) (fun hp98 => (AEv.cond (.tmp rfl) (by first | assumption | exact gdT hp98 | exact gdF hp98 | exact gdAnd (by assumption) (gdT hp98) | exact gdAnd (by assumption) (gdF hp98))))) ?_
  refine AL_p rfl rfl (S_assign rfl (.tmp rfl)) ?_
  refine AL_nil ?_
  refine AC_ret ?_
  refine ret_tmp st rfl rfl (Sub.l (List.Sublist.cons _ (List.Sublist.cons _ (List.Sublist.refl _)))) (Conv.refl (Sub.l (List.Sublist.cons _ (List.Sublist.cons _ (List.Sublist.refl _)))) _) ⟨congrArg AV.bool (by rw [sameL_eq]; rfl), rfl⟩ (.inl rfl)

set_option maxRecDepth 100000 in
/-- provost/ask.clean -/
theorem ask_clean_ok (x : Cal) (k : Nat) (hx0 : ShortA x) : PCalls Tryz.prog 39 [calAV x, .agg [.S (kindA k).1, .S (kindA k).2]] (.bool (cleanB (onlyA (kindA k).2 x) x)) := by
  intro st
  refine ACalls_of (N := 88) Tryz.func39 (by kernel_rfl) rfl rfl rfl ?_
  have hfw := fields_few k
  refine AC_seq ?_
  refine AC_region ?_
  refine AL_step rfl rfl (S_box rfl (.tmp rfl)) ?_
  rintro _ _ ⟨b2, rfl, rfl⟩
  refine AL_step rfl rfl (S_box rfl (.tmp rfl)) ?_
  rintro _ _ ⟨b3, rfl, rfl⟩
  refine AL_p rfl rfl (S_assign rfl (AEv.const _)) ?_
  refine AL_nil ?_
  refine AC_seq ?_
  refine AC_region ?_
  refine AL_p rfl rfl (S_field 0 rfl (.tmp rfl) (by kernel_rfl)) ?_
  refine AL_p rfl rfl (S_load 1 rfl (.tmp rfl) rfl rfl (by kernel_rfl)) ?_
  refine AL_p rfl rfl (S_build (t := 28) (pl := [(0, 1), (1, 1), (2, 1), (3, 7), (10, 1), (11, 1), (12, 1), (13, 1), (14, 1), (15, 1)]) (zs := [.int .i64 0, .int .i64 0, .int .u64 0, .string ⟨#[]⟩, .slice none 0 0, .slice none 0 0, .slice none 0 0, .int .i64 0, .int .i64 0, .int .i64 0, .int .i64 0, .int .i64 0, .int .i64 0, .int .i64 0, .string ⟨#[]⟩, .slice none 0 0]) rfl (AEvs.cons (.tmp rfl) AEvs.nil) (by kernel_rfl) rfl) ?_
  refine AL_step rfl rfl (S_alloc [.int .i64 0, .int .i64 0, .int .u64 0, .string ⟨#[]⟩, .slice none 0 0, .slice none 0 0, .slice none 0 0, .int .i64 0, .int .i64 0, .int .i64 0, .int .i64 0, .int .i64 0, .int .i64 0, .int .i64 0, .string ⟨#[]⟩, .slice none 0 0] rfl (by kernel_rfl)) ?_
  rintro _ _ ⟨b5, rfl, rfl⟩
  refine AL_step rfl rfl (S_storeW 0 rfl (.tmp rfl) ((AEv.tmp rfl).le (z := calAV (cal0 x.kind)) (by exact (Les.agg (.cons (Le.refl _) (.cons (Le.refl _) (.cons (Le.refl _) (.cons (Le.refl _) (.cons (Le.nils) (.cons (Le.nils) (.cons (Le.nils) (.cons (Le.refl _) (.cons (Le.refl _) (.cons (Le.refl _) (.cons (Le.refl _) (.cons (Le.refl _) (.cons (Le.refl _) (.cons (Le.refl _) (.cons (Le.refl _) (.cons (Le.nils) .nil))))))))))))))))))) rfl rfl rfl (by kernel_rfl)) ?_
  rintro _ _ ⟨rfl, rfl⟩
  refine AL_nil ?_
  refine AC_seq ?_
  refine AC_seq ?_
  refine AC_region ?_
  refine AL_p rfl rfl (S_field 1 rfl (.tmp rfl) (by kernel_rfl)) ?_
  refine AL_p rfl rfl (S_load 1 rfl (.tmp rfl) rfl rfl (by kernel_rfl)) ?_
  refine AL_p rfl rfl (S_lenS (ts := #[]) rfl (.tmp rfl) (by kernel_rfl)) ?_
  refine AL_p rfl rfl (S_move rfl (AEv.const _)) ?_
  refine AL_nil ?_
  refine AC_block ?_
  refine AC_loopK (G := Nat) [(2, _), (3, _), (4, _), (5, _), (13, _)] (fun g => g ≤ (kindA k).2.length) (fun g => [(14, .int .i64 (g : Int))]) (fun g => (b5, .cells (calL (onlyA ((kindA k).2.take g) x))) :: (b3, .cells [.S (kindA k).1, .S (kindA k).2]) :: (b2, .cells (calL x)) :: st) (fun g => (kindA k).2.length - g) (0) (Nat.zero_le _) (Sub.l (List.Sublist.refl _)) (.cons rfl (Le.refl _) (.cons rfl (Le.refl _) (.cons rfl (Le.refl _) (.cons rfl (Le.refl _) (.cons rfl (Le.refl _) .nil))))) (.cons rfl (by first | exact Le.refl _ | exact Le.nils | exact Le.row _ _ _ _ | exact Le.of_eq (by first | rfl | (simp; done) | (push_cast; rfl) | (simp; omega))) .nil) ?_
  rintro i hi
  try dsimp only
  simp only [List.cons_append, List.nil_append]
  refine AC_seq ?_
  refine AC_region ?_
  refine AL_p rfl rfl (S_lss rfl (.tmp rfl) (.tmp rfl)) ?_
  refine AL_nil ?_
  refine AC_seq ?_
  refine AC_cond (.tmp rfl) (fun hb4 => ?_) (fun hb4 => ?_)
  · try simp only [zA, zO, zN, zM, zP, zQ, zD, zF, gd] at hb4
    have hil : i < (kindA k).2.length := by omega
    refine AC_skip ?_
    refine AC_seq ?_
    refine AC_block ?_
    refine AC_seq ?_
    refine AC_region ?_
    refine AL_p rfl rfl (S_move rfl (.tmp rfl)) ?_
    refine AL_p rfl rfl (S_assign rfl (.tmp rfl)) ?_
    refine AL_nil ?_
    refine AC_plan (σ := [(0, 0), (1, 0), (2, 0), (3, 0), (4, 0), (5, 2)]) (by kernel_rfl) [_, _, _] (by kernel_rfl) (fun r hr => List.mem_append_left _ hr) ?_
    refine AG.f rfl rfl (fun st' hst => Q_p rfl (S_loadNM (m := 16) rfl (.tmp rfl) (hst _ (List.mem_of_getElem? (i := 2) rfl)) (by kernel_rfl) (by first | exact Nat.le_of_ble_eq_true rfl | (simp; omega) | simp))) ?_
    refine AG.f rfl rfl (fun st' hst => Q_p rfl (S_field 1 rfl (.tmp rfl) (by kernel_rfl))) ?_
    refine AG.f rfl rfl (fun st' hst => Q_p rfl (S_loadM rfl (.tmp rfl) (hst _ (List.mem_of_getElem? (i := 1) rfl)) rfl (by kernel_rfl))) ?_
    refine AG.f rfl rfl (fun st' hst => Q_p rfl (S_move rfl (.tmp rfl))) ?_
    refine AG.f rfl rfl (fun st' hst => Q_p rfl ((S_index rfl (.tmp rfl) (.tmp rfl) (by kernel_rfl) (by omega) (by omega)).ofV (congrArg _ (atL_get hil)))) ?_
    refine AG.h rfl rfl rfl (S_call rfl (AEvs.cons (.tmp rfl) (AEvs.cons (.tmp rfl) (AEvs.cons (.tmp rfl) AEvs.nil))) (copies_ok b5 (onlyA ((kindA k).2.take i) x) x ((kindA k).2[i]'hil) _)) ?_
    rintro _ _ ⟨_, ⟨rfl, rfl⟩, rfl⟩
    refine AG.nil ?_
    refine AC_region ?_
    refine AL_p rfl rfl (S_addI rfl (.tmp rfl) (AEv.const _) (by omega) (by omega)) ?_
    refine AL_p rfl rfl (S_move rfl (.tmp rfl)) ?_
    refine AL_nil ?_
    refine ⟨i + 1, by omega, by omega, by rw [only_next hil]; exact (Sub.l (List.Sublist.refl _)), (.cons rfl (by first | exact Le.refl _ | exact Le.nils | exact Le.row _ _ _ _ | exact Le.of_eq (by first | rfl | (simp; done) | (push_cast; rfl) | (simp; omega))) .nil), (.cons rfl (Le.refl _) (.cons rfl (Le.refl _) (.cons rfl (Le.refl _) (.cons rfl (Le.refl _) (.cons rfl (Le.refl _) .nil)))))⟩
  try simp only [zA, zO, zN, zM, zP, zQ, zD, zF, gd] at hb4
  have hi9 : (kindA k).2.take i = (kindA k).2 := List.take_of_length_le (by omega)
  rw [hi9]
  refine AC_exit ?_
  refine AC_seq ?_
  refine AC_region ?_
  refine AL_p rfl rfl (S_field 1 rfl (.tmp rfl) (by kernel_rfl)) ?_
  refine AL_p rfl rfl (S_load 0 rfl (.tmp rfl) rfl rfl (by kernel_rfl)) ?_
  refine AL_p rfl rfl (S_field 1 rfl (.tmp rfl) (by kernel_rfl)) ?_
  refine AL_p rfl rfl (S_load 2 rfl (.tmp rfl) rfl rfl (by kernel_rfl)) ?_
  refine AL_p rfl rfl (S_eql rfl (.tmp rfl) (.tmp rfl)) ?_
  refine AL_p rfl rfl (S_move rfl (.tmp rfl)) ?_
  refine AL_g rfl rfl (.tmp rfl) rfl (fun hg5 => S_field 2 rfl (.tmp rfl) (by kernel_rfl)) ?_
  refine AL_g rfl rfl (.tmp rfl) rfl (fun hg8 => S_load 0 rfl (AEv.cond (.tmp rfl) (by first | assumption | exact gdAnd (by assumption) (by assumption))) rfl rfl (by kernel_rfl)) ?_
  refine AL_g rfl rfl (.tmp rfl) rfl (fun hg11 => S_field 2 rfl (.tmp rfl) (by kernel_rfl)) ?_
  refine AL_g rfl rfl (.tmp rfl) rfl (fun hg14 => S_load 2 rfl (AEv.cond (.tmp rfl) (by first | assumption | exact gdAnd (by assumption) (by assumption))) rfl rfl (by kernel_rfl)) ?_
  refine AL_g rfl rfl (.tmp rfl) rfl (fun hg17 => S_eql rfl (AEv.cond (.tmp rfl) (by first | assumption | exact gdAnd (by assumption) (by assumption))) (AEv.cond (.tmp rfl) (by first | assumption | exact gdAnd (by assumption) (by assumption)))) ?_
  refine AL_p rfl rfl (S_and rfl (.tmp rfl) (fun hp20 => (AEv.cond (.tmp rfl) (by first | assumption | exact gdT hp20 | exact gdF hp20 | exact gdAnd (by assumption) (gdT hp20) | exact gdAnd (by assumption) (gdF hp20))))) ?_
  refine AL_p rfl rfl (S_move rfl (.tmp rfl)) ?_
  refine AL_g rfl rfl (.tmp rfl) rfl (fun hg21 => S_field 10 rfl (.tmp rfl) (by kernel_rfl)) ?_
  refine AL_g rfl rfl (.tmp rfl) rfl (fun hg24 => S_load 0 rfl (AEv.cond (.tmp rfl) (by first | assumption | exact gdAnd (by assumption) (by assumption))) rfl rfl (by kernel_rfl)) ?_
  refine AL_g rfl rfl (.tmp rfl) rfl (fun hg27 => S_field 10 rfl (.tmp rfl) (by kernel_rfl)) ?_
  refine AL_g rfl rfl (.tmp rfl) rfl (fun hg30 => S_load 2 rfl (AEv.cond (.tmp rfl) (by first | assumption | exact gdAnd (by assumption) (by assumption))) rfl rfl (by kernel_rfl)) ?_
  refine AL_g rfl rfl (.tmp rfl) rfl (fun hg33 => S_eql rfl (AEv.cond (.tmp rfl) (by first | assumption | exact gdAnd (by assumption) (by assumption))) (AEv.cond (.tmp rfl) (by first | assumption | exact gdAnd (by assumption) (by assumption)))) ?_
  refine AL_p rfl rfl (S_and rfl (.tmp rfl) (fun hp36 => (AEv.cond (.tmp rfl) (by first | assumption | exact gdT hp36 | exact gdF hp36 | exact gdAnd (by assumption) (gdT hp36) | exact gdAnd (by assumption) (gdF hp36))))) ?_
  refine AL_p rfl rfl (S_move rfl (.tmp rfl)) ?_
  refine AL_g rfl rfl (.tmp rfl) rfl (fun hg37 => S_field 11 rfl (.tmp rfl) (by kernel_rfl)) ?_
  refine AL_g rfl rfl (.tmp rfl) rfl (fun hg40 => S_load 0 rfl (AEv.cond (.tmp rfl) (by first | assumption | exact gdAnd (by assumption) (by assumption))) rfl rfl (by kernel_rfl)) ?_
  refine AL_g rfl rfl (.tmp rfl) rfl (fun hg43 => S_field 11 rfl (.tmp rfl) (by kernel_rfl)) ?_
  refine AL_g rfl rfl (.tmp rfl) rfl (fun hg46 => S_load 2 rfl (AEv.cond (.tmp rfl) (by first | assumption | exact gdAnd (by assumption) (by assumption))) rfl rfl (by kernel_rfl)) ?_
  refine AL_g rfl rfl (.tmp rfl) rfl (fun hg49 => S_eql rfl (AEv.cond (.tmp rfl) (by first | assumption | exact gdAnd (by assumption) (by assumption))) (AEv.cond (.tmp rfl) (by first | assumption | exact gdAnd (by assumption) (by assumption)))) ?_
  refine AL_p rfl rfl (S_and rfl (.tmp rfl) (fun hp52 => (AEv.cond (.tmp rfl) (by first | assumption | exact gdT hp52 | exact gdF hp52 | exact gdAnd (by assumption) (gdT hp52) | exact gdAnd (by assumption) (gdF hp52))))) ?_
  refine AL_p rfl rfl (S_move rfl (.tmp rfl)) ?_
  refine AL_g rfl rfl (.tmp rfl) rfl (fun hg53 => S_field 12 rfl (.tmp rfl) (by kernel_rfl)) ?_
  refine AL_g rfl rfl (.tmp rfl) rfl (fun hg56 => S_load 0 rfl (AEv.cond (.tmp rfl) (by first | assumption | exact gdAnd (by assumption) (by assumption))) rfl rfl (by kernel_rfl)) ?_
  refine AL_g rfl rfl (.tmp rfl) rfl (fun hg59 => S_field 12 rfl (.tmp rfl) (by kernel_rfl)) ?_
  refine AL_g rfl rfl (.tmp rfl) rfl (fun hg62 => S_load 2 rfl (AEv.cond (.tmp rfl) (by first | assumption | exact gdAnd (by assumption) (by assumption))) rfl rfl (by kernel_rfl)) ?_
  refine AL_g rfl rfl (.tmp rfl) rfl (fun hg65 => S_eql rfl (AEv.cond (.tmp rfl) (by first | assumption | exact gdAnd (by assumption) (by assumption))) (AEv.cond (.tmp rfl) (by first | assumption | exact gdAnd (by assumption) (by assumption)))) ?_
  refine AL_p rfl rfl (S_and rfl (.tmp rfl) (fun hp68 => (AEv.cond (.tmp rfl) (by first | assumption | exact gdT hp68 | exact gdF hp68 | exact gdAnd (by assumption) (gdT hp68) | exact gdAnd (by assumption) (gdF hp68))))) ?_
  refine AL_p rfl rfl (S_move rfl (.tmp rfl)) ?_
  refine AL_g rfl rfl (.tmp rfl) rfl (fun hg69 => S_field 13 rfl (.tmp rfl) (by kernel_rfl)) ?_
  refine AL_g rfl rfl (.tmp rfl) rfl (fun hg72 => S_load 0 rfl (AEv.cond (.tmp rfl) (by first | assumption | exact gdAnd (by assumption) (by assumption))) rfl rfl (by kernel_rfl)) ?_
  refine AL_g rfl rfl (.tmp rfl) rfl (fun hg75 => S_field 13 rfl (.tmp rfl) (by kernel_rfl)) ?_
  refine AL_g rfl rfl (.tmp rfl) rfl (fun hg78 => S_load 2 rfl (AEv.cond (.tmp rfl) (by first | assumption | exact gdAnd (by assumption) (by assumption))) rfl rfl (by kernel_rfl)) ?_
  refine AL_g rfl rfl (.tmp rfl) rfl (fun hg81 => S_eql rfl (AEv.cond (.tmp rfl) (by first | assumption | exact gdAnd (by assumption) (by assumption))) (AEv.cond (.tmp rfl) (by first | assumption | exact gdAnd (by assumption) (by assumption)))) ?_
  refine AL_p rfl rfl (S_and rfl (.tmp rfl) (fun hp84 => (AEv.cond (.tmp rfl) (by first | assumption | exact gdT hp84 | exact gdF hp84 | exact gdAnd (by assumption) (gdT hp84) | exact gdAnd (by assumption) (gdF hp84))))) ?_
  refine AL_p rfl rfl (S_assign rfl (.tmp rfl)) ?_
  refine AL_nil ?_
  refine AC_seq ?_
  refine AC_region ?_
  refine AL_p rfl rfl (S_move rfl (.tmp rfl)) ?_
  refine AL_p rfl rfl (S_move rfl (.tmp rfl)) ?_
  refine AL_g rfl rfl (.tmp rfl) rfl (fun hg85 => S_field 14 rfl (.tmp rfl) (by kernel_rfl)) ?_
  refine AL_g rfl rfl (.tmp rfl) rfl (fun hg88 => S_load 0 rfl (AEv.cond (.tmp rfl) (by first | assumption | exact gdAnd (by assumption) (by assumption))) rfl rfl (by kernel_rfl)) ?_
  refine AL_g rfl rfl (.tmp rfl) rfl (fun hg91 => S_field 14 rfl (.tmp rfl) (by kernel_rfl)) ?_
  refine AL_g rfl rfl (.tmp rfl) rfl (fun hg94 => S_load 2 rfl (AEv.cond (.tmp rfl) (by first | assumption | exact gdAnd (by assumption) (by assumption))) rfl rfl (by kernel_rfl)) ?_
  refine AL_g rfl rfl (.tmp rfl) rfl (fun hg97 => S_eqS rfl (AEv.cond (.tmp rfl) (by first | assumption | exact gdAnd (by assumption) (by assumption))) (AEv.cond (.tmp rfl) (by first | assumption | exact gdAnd (by assumption) (by assumption)))) ?_
  refine AL_p rfl rfl (S_and rfl (.tmp rfl) (fun hp100 => (AEv.cond (.tmp rfl) (by first | assumption | exact gdT hp100 | exact gdF hp100 | exact gdAnd (by assumption) (gdT hp100) | exact gdAnd (by assumption) (gdF hp100))))) ?_
  refine AL_p rfl rfl (S_move rfl (.tmp rfl)) ?_
  refine AL_g rfl rfl (.tmp rfl) rfl (fun hg101 => S_field 15 rfl (.tmp rfl) (by kernel_rfl)) ?_
  refine AL_g rfl rfl (.tmp rfl) rfl (fun hg104 => S_load 0 rfl (AEv.cond (.tmp rfl) (by first | assumption | exact gdAnd (by assumption) (by assumption))) rfl rfl (by kernel_rfl)) ?_
  refine AL_g rfl rfl (.tmp rfl) rfl (fun hg107 => by first | exact S_lenM (e := 90) rfl (AEv.cond (.tmp rfl) (by first | assumption | exact gdAnd (by assumption) (by assumption))) (by kernel_rfl) | exact S_len (e := 90) rfl (AEv.cond (.tmp rfl) (by first | assumption | exact gdAnd (by assumption) (by assumption))) (by kernel_rfl)) ?_
  refine AL_g rfl rfl (.tmp rfl) rfl (fun hg110 => S_field 15 rfl (.tmp rfl) (by kernel_rfl)) ?_
  refine AL_g rfl rfl (.tmp rfl) rfl (fun hg113 => S_load 2 rfl (AEv.cond (.tmp rfl) (by first | assumption | exact gdAnd (by assumption) (by assumption))) rfl rfl (by kernel_rfl)) ?_
  refine AL_g rfl rfl (.tmp rfl) rfl (fun hg116 => by first | exact S_lenM (e := 90) rfl (AEv.cond (.tmp rfl) (by first | assumption | exact gdAnd (by assumption) (by assumption))) (by kernel_rfl) | exact S_len (e := 90) rfl (AEv.cond (.tmp rfl) (by first | assumption | exact gdAnd (by assumption) (by assumption))) (by kernel_rfl)) ?_
  refine AL_g rfl rfl (.tmp rfl) rfl (fun hg119 => S_eql rfl (AEv.cond (.tmp rfl) (by first | assumption | exact gdAnd (by assumption) (by assumption))) (AEv.cond (.tmp rfl) (by first | assumption | exact gdAnd (by assumption) (by assumption)))) ?_
  refine AL_p rfl rfl (S_and rfl (.tmp rfl) (fun hp122 => (AEv.cond (.tmp rfl) (by first | assumption | exact gdT hp122 | exact gdF hp122 | exact gdAnd (by assumption) (gdT hp122) | exact gdAnd (by assumption) (gdF hp122))))) ?_
  refine AL_p rfl rfl (S_move rfl (.tmp rfl)) ?_
  refine AL_g rfl rfl (.tmp rfl) rfl (fun hg123 => S_field 3 rfl (.tmp rfl) (by kernel_rfl)) ?_
  refine AL_g rfl rfl (.tmp rfl) rfl (fun hg126 => S_loadN (m := 7) 0 rfl (AEv.cond (.tmp rfl) (by first | assumption | exact gdAnd (by assumption) (by assumption))) rfl (by kernel_rfl) (by first | exact Nat.le_of_ble_eq_true rfl | (simp; omega) | simp)) ?_
  refine AL_g rfl rfl (.tmp rfl) rfl (fun hg129 => S_field 3 rfl (.tmp rfl) (by kernel_rfl)) ?_
  refine AL_g rfl rfl (.tmp rfl) rfl (fun hg132 => S_loadN (m := 7) 2 rfl (AEv.cond (.tmp rfl) (by first | assumption | exact gdAnd (by assumption) (by assumption))) rfl (by kernel_rfl) (by first | exact Nat.le_of_ble_eq_true rfl | (simp; omega) | simp)) ?_
  refine AL_g rfl rfl (.tmp rfl) rfl (fun hg135 => S_pcall rfl (AEvs.cons (AEv.cond (.tmp rfl) (by first | assumption | exact gdAnd (by assumption) (by assumption))) (AEvs.cons (AEv.cond (.tmp rfl) (by first | assumption | exact gdAnd (by assumption) (by assumption))) AEvs.nil)) (spec_Same_ok (onlyA (kindA k).2 x).spec x.spec (light_short (only_light hx0.1)) (light_short hx0.1))) ?_
  refine AL_p rfl rfl (S_and rfl (.tmp rfl) (fun hp138 => (AEv.cond (.tmp rfl) (by first | assumption | exact gdT hp138 | exact gdF hp138 | exact gdAnd (by assumption) (gdT hp138) | exact gdAnd (by assumption) (gdF hp138))))) ?_
  refine AL_p rfl rfl (S_assign rfl (.tmp rfl)) ?_
  refine AL_nil ?_
  refine AC_ret ?_
  refine ret_tmp st rfl rfl (Sub.l (((List.sublist_cons_self _ _).trans (List.sublist_cons_self _ _)).trans (List.sublist_cons_self _ _))) (Conv.refl (Sub.l (((List.sublist_cons_self _ _).trans (List.sublist_cons_self _ _)).trans (List.sublist_cons_self _ _))) _) ⟨congrArg AV.bool (by simp only [cleanB, Bool.and_assoc, Int.ofNat_inj]), rfl⟩ (.inl rfl)

set_option maxRecDepth 100000 in
/-- provost/ask.Check -/
theorem ask_Check_ok (x : Cal) (hx0 : ShortA x) : GCalls Tryz.prog tabs 13 [calAV x] (erV 31 143 (checkA x)) := by
  intro st hG
  refine ACalls_of (N := 39) Tryz.func13 (by kernel_rfl) rfl rfl rfl ?_
  have hfw := fields_few x.kind.toNat
  refine AC_seq ?_
  refine AC_region ?_
  refine AL_step rfl rfl (S_box rfl (.tmp rfl)) ?_
  rintro _ _ ⟨b1, rfl, rfl⟩
  refine AL_p rfl rfl (S_assign rfl (AEv.const _)) ?_
  refine AL_nil ?_
  refine AC_seq ?_
  refine AC_region ?_
  refine AL_p rfl rfl (S_field 0 rfl (.tmp rfl) (by kernel_rfl)) ?_
  refine AL_p rfl rfl (S_load 0 rfl (.tmp rfl) rfl rfl (by kernel_rfl)) ?_
  refine AL_p rfl rfl (S_gcall rfl (AEvs.cons (.tmp rfl) AEvs.nil) ((ask_of_ok x.kind) _ (fun p hp => by repeat (first | exact hG p hp | refine List.mem_cons_of_mem _ ?_ | refine List.mem_append_right _ ?_)))) ?_
  refine AL_p rfl rfl (S_move rfl (.tmp rfl)) ?_
  refine AL_p rfl rfl (S_extract 0 rfl (.tmp rfl) rfl) ?_
  refine AL_p rfl rfl (S_extract 1 rfl (.tmp rfl) rfl) ?_
  refine AL_step rfl rfl (S_alloc [.string ⟨#[]⟩, .string ⟨#[]⟩] rfl (by kernel_rfl)) ?_
  rintro _ _ ⟨b3, rfl, rfl⟩
  refine AL_step rfl rfl (S_storeW 0 rfl (.tmp rfl) (.tmp rfl) rfl rfl rfl (by kernel_rfl)) ?_
  rintro _ _ ⟨rfl, rfl⟩
  refine AL_p rfl rfl (S_assign rfl (.tmp rfl)) ?_
  refine AL_nil ?_
  refine AC_seq ?_
  refine AC_seq ?_
  refine AC_region ?_
  refine AL_p rfl rfl (S_move rfl (.tmp rfl)) ?_
  refine AL_p rfl rfl (S_not rfl (.tmp rfl)) ?_
  refine AL_nil ?_
  refine AC_cond (.tmp rfl) (fun hb3 => ?_) (fun hb3 => ?_)
  · try simp only [zA, zO, zN, zM, zP, zQ, zD, zF, gd] at hb3
    have hx : checkA x = some (80, [kindN]) := check_kind (by simpa using hb3)
    refine AC_seq ?_
    refine AC_region ?_
    refine AL_p rfl rfl (S_buildSlice (e := 9) 1 rfl (AEvs.cons (AEv.S _) AEvs.nil) rfl (by kernel_rfl) (by kernel_rfl) (by intro y hy; simp only [List.mem_cons, List.not_mem_nil, or_false] at hy; rcases hy with rfl <;> exact ⟨rfl, rfl⟩) (by decide) (by decide) (by decide)) ?_
    refine AL_p rfl rfl (S_pcall rfl (AEvs.cons (AEv.const _) (AEvs.cons (.tmp rfl) AEvs.nil)) (fail_New_ok 80 [kindN] (by simp))) ?_
    refine AL_p rfl rfl (S_assign rfl (.tmp rfl)) ?_
    refine AL_nil ?_
    refine AC_ret ?_
    refine ret_tmp st rfl rfl (Sub.l ((List.sublist_cons_self _ _).trans (List.sublist_cons_self _ _))) (Conv.refl (Sub.l ((List.sublist_cons_self _ _).trans (List.sublist_cons_self _ _))) _) ⟨by rw [hx] <;> rfl, rfl⟩ (.inl rfl)
  try simp only [zA, zO, zN, zM, zP, zQ, zD, zF, gd] at hb3
  have hk : 1 ≤ x.kind ∧ x.kind < 13 := by simpa using hb3
  refine AC_skip ?_
  refine AC_seq ?_
  refine AC_seq ?_
  refine AC_region ?_
  refine AL_p rfl rfl (S_field 1 rfl (.tmp rfl) (by kernel_rfl)) ?_
  refine AL_p rfl rfl (S_load 0 rfl (.tmp rfl) rfl rfl (by kernel_rfl)) ?_
  refine AL_p rfl rfl (S_lenS (ts := #[]) rfl (.tmp rfl) (by kernel_rfl)) ?_
  refine AL_p rfl rfl (S_move rfl (AEv.const _)) ?_
  refine AL_nil ?_
  refine AC_block ?_
  refine AC_loopK (G := Nat) [(1, _), (3, _), (19, _)] (fun g => g ≤ (kindA x.kind.toNat).2.length ∧ ∀ j (h : j < (kindA x.kind.toNat).2.length), j < g → fieldE x ((kindA x.kind.toNat).2[j]'h) = none) (fun g => [(20, .int .i64 (g : Int))]) (fun g => (b3, .cells [.S (kindA x.kind.toNat).1, .S (kindA x.kind.toNat).2]) :: (b1, .cells (calL x)) :: st) (fun g => (kindA x.kind.toNat).2.length - g) (0) (⟨Nat.zero_le _, fun j _ h => absurd h (Nat.not_lt_zero _)⟩) (Sub.l (List.Sublist.refl _)) (.cons rfl (Le.refl _) (.cons rfl (Le.refl _) (.cons rfl (Le.refl _) .nil))) (.cons rfl (by first | exact Le.refl _ | exact Le.nils | exact Le.row _ _ _ _ | exact Le.of_eq (by first | rfl | (simp; done) | (push_cast; rfl) | (simp; omega))) .nil) ?_
  rintro i ⟨hi, hall⟩
  try dsimp only
  simp only [List.cons_append, List.nil_append]
  refine AC_seq ?_
  refine AC_region ?_
  refine AL_p rfl rfl (S_lss rfl (.tmp rfl) (.tmp rfl)) ?_
  refine AL_nil ?_
  refine AC_seq ?_
  refine AC_cond (.tmp rfl) (fun hb4 => ?_) (fun hb4 => ?_)
  · try simp only [zA, zO, zN, zM, zP, zQ, zD, zF, gd] at hb4
    have hil : i < (kindA x.kind.toNat).2.length := by omega
    refine AC_skip ?_
    refine AC_seq ?_
    refine AC_block ?_
    refine AC_seq ?_
    refine AC_region ?_
    refine AL_p rfl rfl (S_move rfl (.tmp rfl)) ?_
    refine AL_p rfl rfl (S_assign rfl (.tmp rfl)) ?_
    refine AL_nil ?_
    refine AC_seq ?_
    refine AC_draw (by kernel_rfl) (by kernel_rfl) (.cons rfl (Q_p rfl (S_loadN (m := 16) 1 rfl (.tmp rfl) rfl (by kernel_rfl) (by first | exact Nat.le_of_ble_eq_true rfl | (simp; omega) | simp))) <|
        .cons rfl (Q_p rfl (S_field 1 rfl (.tmp rfl) (by kernel_rfl))) <|
        .cons rfl (Q_p rfl (S_load 0 rfl (.tmp rfl) rfl rfl (by kernel_rfl))) <|
        .cons rfl (Q_p rfl (S_move rfl (.tmp rfl))) <|
        .cons rfl (Q_p rfl ((S_index rfl (.tmp rfl) (.tmp rfl) (by kernel_rfl) (by omega) (by omega)).ofV (congrArg _ (atL_get hil)))) <|
        .cons rfl (Q_p rfl (S_gcall rfl (AEvs.cons (.tmp rfl) (AEvs.cons (.tmp rfl) AEvs.nil)) ((ask_field_ok x ((kindA x.kind.toNat).2[i]'hil) hx0) _ (fun p hp => by repeat (first | exact hG p hp | refine List.mem_cons_of_mem _ ?_ | refine List.mem_append_right _ ?_))))) <|
        .cons rfl (Q_p rfl (S_assign rfl (.tmp rfl))) <|
        .nil) ?_
    refine AC_seq ?_
    refine AC_region ?_
    refine AL_p rfl rfl (S_move rfl (.tmp rfl)) ?_
    refine AL_p rfl rfl (S_neqE (er_is 31 143 (fieldE x ((kindA x.kind.toNat).2[i]'hil))) rfl (.tmp rfl) (by kernel_rfl)) ?_
    refine AL_nil ?_
    refine AC_cond (.tmp rfl) (fun hb5 => ?_) (fun hb5 => ?_)
    · try simp only [zA, zO, zN, zM, zP, zQ, zD, zF, gd] at hb5
      have hx : checkA x = fieldE x ((kindA x.kind.toNat).2[i]'hil) := check_field hk hil (fun j h h9 => hall j h h9) (fun h => by rw [h] at hb5; simp at hb5)
      refine AC_seq ?_
      refine AC_region ?_
      refine AL_p rfl rfl (S_move rfl (.tmp rfl)) ?_
      refine AL_p rfl rfl (S_assign rfl (.tmp rfl)) ?_
      refine AL_nil ?_
      refine AC_ret ?_
      refine ret_tmp st rfl rfl (Sub.l ((List.sublist_cons_self _ _).trans (List.sublist_cons_self _ _))) (Conv.refl (Sub.l ((List.sublist_cons_self _ _).trans (List.sublist_cons_self _ _))) _) ⟨by rw [hx] <;> rfl, rfl⟩ (.inl rfl)
    try simp only [zA, zO, zN, zM, zP, zQ, zD, zF, gd] at hb5
    have hne : fieldE x ((kindA x.kind.toNat).2[i]'hil) = none := by simpa using hb5
    refine AC_skip ?_
    refine AC_region ?_
    refine AL_p rfl rfl (S_addI rfl (.tmp rfl) (AEv.const _) (by omega) (by omega)) ?_
    refine AL_p rfl rfl (S_move rfl (.tmp rfl)) ?_
    refine AL_nil ?_
    refine ⟨i + 1, ⟨by omega, fun j h1 h => ?_⟩, by omega, (Sub.l (List.Sublist.refl _)), (.cons rfl (by first | exact Le.refl _ | exact Le.nils | exact Le.row _ _ _ _ | exact Le.of_eq (by first | rfl | (simp; done) | (push_cast; rfl) | (simp; omega))) .nil), (.cons rfl (Le.refl _) (.cons rfl (Le.refl _) (.cons rfl (Le.refl _) .nil)))⟩
    rcases Nat.lt_or_ge j i with h' | h'
    · exact hall j h1 h'
    · have : j = i := by omega
      subst this
      exact hne
  try simp only [zA, zO, zN, zM, zP, zQ, zD, zF, gd] at hb4
  have hfn : ∀ f ∈ (kindA x.kind.toNat).2, fieldE x f = none := fun f hf => by
    obtain ⟨j, hj, rfl⟩ := List.getElem_of_mem hf
    exact hall j hj (by omega)
  refine AC_exit ?_
  refine AC_seq ?_
  refine AC_seq ?_
  refine AC_region ?_
  refine AL_p rfl rfl (S_loadN (m := 16) 1 rfl (.tmp rfl) rfl (by kernel_rfl) (by first | exact Nat.le_of_ble_eq_true rfl | (simp; omega) | simp)) ?_
  refine AL_p rfl rfl (S_loadN (m := 2) 0 rfl (.tmp rfl) rfl (by kernel_rfl) (by first | exact Nat.le_of_ble_eq_true rfl | (simp; omega) | simp)) ?_
  refine AL_p rfl rfl (S_pcall rfl (AEvs.cons (y := calAV x) (.tmp rfl) (AEvs.cons (y := .agg [.S (kindA x.kind.toNat).1, .S (kindA x.kind.toNat).2]) (.tmp rfl) AEvs.nil)) (ask_clean_ok x x.kind.toNat hx0)) ?_
  refine AL_p rfl rfl (S_not rfl (.tmp rfl)) ?_
  refine AL_nil ?_
  refine AC_cond (.tmp rfl) (fun hb6 => ?_) (fun hb6 => ?_)
  · try simp only [zA, zO, zN, zM, zP, zQ, zD, zF, gd] at hb6
    have hx : checkA x = some (4, [callN]) := check_unclean hk hfn (by simpa using hb6)
    refine AC_seq ?_
    refine AC_region ?_
    refine AL_p rfl rfl (S_buildSlice (e := 9) 1 rfl (AEvs.cons (AEv.S _) AEvs.nil) rfl (by kernel_rfl) (by kernel_rfl) (by intro y hy; simp only [List.mem_cons, List.not_mem_nil, or_false] at hy; rcases hy with rfl <;> exact ⟨rfl, rfl⟩) (by decide) (by decide) (by decide)) ?_
    refine AL_p rfl rfl (S_pcall rfl (AEvs.cons (AEv.const _) (AEvs.cons (.tmp rfl) AEvs.nil)) (fail_New_ok 4 [callN] (by simp))) ?_
    refine AL_p rfl rfl (S_assign rfl (.tmp rfl)) ?_
    refine AL_nil ?_
    refine AC_ret ?_
    refine ret_tmp st rfl rfl (Sub.l ((List.sublist_cons_self _ _).trans (List.sublist_cons_self _ _))) (Conv.refl (Sub.l ((List.sublist_cons_self _ _).trans (List.sublist_cons_self _ _))) _) ⟨by rw [hx] <;> rfl, rfl⟩ (.inl rfl)
  try simp only [zA, zO, zN, zM, zP, zQ, zD, zF, gd] at hb6
  have hx : checkA x = none := check_clean hk hfn (by simpa using hb6)
  refine AC_skip ?_
  refine AC_seq ?_
  refine AC_region ?_
  refine AL_p rfl rfl (S_assign rfl (AEv.const _)) ?_
  refine AL_nil ?_
  refine AC_ret ?_
  refine ret_tmp st rfl rfl (Sub.l ((List.sublist_cons_self _ _).trans (List.sublist_cons_self _ _))) (Conv.refl (Sub.l ((List.sublist_cons_self _ _).trans (List.sublist_cons_self _ _))) _) ⟨by rw [hx] <;> rfl, rfl⟩ (.inl rfl)

end Go.Proofs.YtcbnokpgklmndaaGreatDoor

/-
The walks of Go functions in the logic AL: what each of them answers.
Conditions: those of each theorem.
-/
set_option linter.unusedVariables false
set_option linter.unusedSimpArgs false
namespace Go.Proofs.YtcbnokpgklmndaaGreatDoor
open Go.AL Go.NumSpec

set_option maxRecDepth 100000 in
/-- provost/ask.put -/
theorem ask_put_ok (b : Nat) (u2 : Bool) (q2 : Buf) (l : List UInt8) (c : Int) (hq2 : q2.ok l)  (hl : l.length + 20000 ≤ 100000000000) (x : Cal) (f : UInt8) (hx0 : ShortA x) (hu : x.rev < 18446744073709551616) (hfe : fieldE x f = none) (F : St) (hG : ∀ r, r ∈ Gs tabs → r ∈ F) : ACalls Tryz.prog 25 [.ptr b 0, calAV x, .int .u8 (f.toNat : Int)] (((b, .cells [addrB u2 b 99 3, bufAV q2 (l), .int .i64 (c)]) :: bufSt q2 5 (l)) ++ F) (fun v9 st' => ∃ foot', (∃ (u' : Bool) (q' : Buf), q'.ok (wput c l (fieldB x f)) ∧ v9 = .tup [] ∧ foot' = (b, .cells [addrB u' b 99 3, bufAV q' (wput c l (fieldB x f)), .int .i64 (c)]) :: bufSt q' 5 (wput c l (fieldB x f))) ∧ st' = foot' ++ F) := by
  refine ACalls_of (N := 61) Tryz.func25 (by kernel_rfl) rfl rfl rfl ?_
  refine AC_seq ?_
  refine AC_region ?_
  refine AL_step rfl rfl (S_box rfl (.tmp rfl)) ?_
  rintro _ _ ⟨b4, rfl, rfl⟩
  refine AL_nil ?_
  refine AC_seq ?_
  refine AC_region ?_
  refine AL_p rfl rfl (S_move rfl (.tmp rfl)) ?_
  refine AL_nil ?_
  refine AC_block ?_
  refine AC_seq ?_
  refine AC_region ?_
  refine AL_p rfl rfl (S_eql rfl (.tmp rfl) (AEv.const _)) ?_
  refine AL_p rfl rfl (S_assign rfl (.tmp rfl)) ?_
  refine AL_nil ?_
  refine AC_cond (.tmp rfl) (fun hb2 => ?_) (fun hb2 => ?_)
  · try simp only [zA, zO, zN, zM, zP, zQ, zD, zF, gd] at hb2
    obtain rfl : f = 117 := u8_eq hb2
    have hfo : 0 ≤ x.uid ∧ x.uid ≤ 1073741824 := field_ok hu hfe
    refine AC_region ?_
    refine AL_p rfl rfl (S_move rfl (.tmp rfl)) ?_
    refine AL_p rfl rfl (S_field 1 rfl (.tmp rfl) (by kernel_rfl)) ?_
    refine AL_p rfl rfl (S_load 0 rfl (.tmp rfl) rfl rfl (by kernel_rfl)) ?_
    refine AL_step rfl rfl (S_call rfl (AEvs.cons (.tmp rfl) (AEvs.cons (.tmp rfl) AEvs.nil)) (ACalls.preQ (pre := [_]) (F := F) (w_NumN b u2 q2 _ c hq2 (by first | omega | (refine Nat.le_trans (Nat.add_le_add_right (wput_len _ _ _) _) ?_; (try simp only [List.length_append]); omega)) x.uid (by omega) (by omega) _))) ?_
    rintro _ _ ⟨_, ⟨u2, q2, hq2, rfl, rfl⟩, rfl⟩
    refine AL_nil ?_
    refine ret_none (((b, .cells [addrB u2 b 99 3, bufAV q2 (wput c l (fieldB x 117)), .int .i64 (c)]) :: bufSt q2 5 (wput c l (fieldB x 117))) ++ F) rfl (Sub.l (List.sublist_cons_self _ _)) ⟨_, ⟨u2, q2, hq2, rfl, rfl⟩, rfl⟩ (.inr rfl)
  try simp only [zA, zO, zN, zM, zP, zQ, zD, zF, gd] at hb2
  have hf117 : ¬ f = 117 := fun h => hb2 (by rw [h]; rfl)
  refine AC_seq ?_
  refine AC_region ?_
  refine AL_p rfl rfl (S_eql rfl (.tmp rfl) (AEv.const _)) ?_
  refine AL_p rfl rfl (S_assign rfl (.tmp rfl)) ?_
  refine AL_nil ?_
  refine AC_cond (.tmp rfl) (fun hb3 => ?_) (fun hb3 => ?_)
  · try simp only [zA, zO, zN, zM, zP, zQ, zD, zF, gd] at hb3
    obtain rfl : f = 114 := u8_eq hb3
    have hfo : x.rev < 18446744073709551616 := field_ok hu hfe
    refine AC_region ?_
    refine AL_p rfl rfl (S_move rfl (.tmp rfl)) ?_
    refine AL_p rfl rfl (S_field 2 rfl (.tmp rfl) (by kernel_rfl)) ?_
    refine AL_p rfl rfl (S_load 0 rfl (.tmp rfl) rfl rfl (by kernel_rfl)) ?_
    refine AL_step rfl rfl (S_call rfl (AEvs.cons (.tmp rfl) (AEvs.cons (.tmp rfl) AEvs.nil)) (ACalls.preQ (pre := [_]) (F := F) (w_Big_ok b u2 q2 _ c hq2 x.rev hfo (by omega) _))) ?_
    rintro _ _ ⟨_, ⟨u2, q2, hq2, rfl, rfl⟩, rfl⟩
    refine AL_nil ?_
    refine ret_none (((b, .cells [addrB u2 b 99 3, bufAV q2 (wput c l (fieldB x 114)), .int .i64 (c)]) :: bufSt q2 5 (wput c l (fieldB x 114))) ++ F) rfl (Sub.l (List.sublist_cons_self _ _)) ⟨_, ⟨u2, q2, hq2, rfl, rfl⟩, rfl⟩ (.inr rfl)
  try simp only [zA, zO, zN, zM, zP, zQ, zD, zF, gd] at hb3
  have hf114 : ¬ f = 114 := fun h => hb3 (by rw [h]; rfl)
  refine AC_seq ?_
  refine AC_region ?_
  refine AL_p rfl rfl (S_eql rfl (.tmp rfl) (AEv.const _)) ?_
  refine AL_p rfl rfl (S_assign rfl (.tmp rfl)) ?_
  refine AL_nil ?_
  refine AC_cond (.tmp rfl) (fun hb4 => ?_) (fun hb4 => ?_)
  · try simp only [zA, zO, zN, zM, zP, zQ, zD, zF, gd] at hb4
    obtain rfl : f = 115 := u8_eq hb4
    have hck : checkE x.spec = none := erIn_none hfe
    refine AC_region ?_
    refine AL_p rfl rfl (S_move rfl (.tmp rfl)) ?_
    refine AL_p rfl rfl (S_field 3 rfl (.tmp rfl) (by kernel_rfl)) ?_
    refine AL_p rfl rfl (S_loadN (m := 7) 0 rfl (.tmp rfl) rfl (by kernel_rfl) (by first | exact Nat.le_of_ble_eq_true rfl | (simp; omega) | simp)) ?_
    refine AL_step rfl rfl (S_call rfl (AEvs.cons (.tmp rfl) (AEvs.cons (.tmp rfl) AEvs.nil)) (ACalls.preQ (pre := [_]) (F := F) (pack_Put_ok b u2 q2 _ c hq2 (by first | omega | (refine Nat.le_trans (Nat.add_le_add_right (wput_len _ _ _) _) ?_; (try simp only [List.length_append]); omega)) x.spec hx0.1 _ (fun r hr => List.mem_append_right _ (hG r hr))))) ?_
    rintro _ _ ⟨_, ⟨u2, q2, hq2, rfl, rfl⟩, rfl⟩
    rw [if_pos hck] at hq2
    rw [if_pos hck, if_pos hck]
    refine AL_nil ?_
    refine ret_none (((b, .cells [addrB u2 b 99 3, bufAV q2 (wput c l (fieldB x 115)), .int .i64 (c)]) :: bufSt q2 5 (wput c l (fieldB x 115))) ++ F) rfl (Sub.l (List.sublist_cons_self _ _)) ⟨_, ⟨u2, q2, hq2, rfl, rfl⟩, rfl⟩ (.inr rfl)
  try simp only [zA, zO, zN, zM, zP, zQ, zD, zF, gd] at hb4
  have hf115 : ¬ f = 115 := fun h => hb4 (by rw [h]; rfl)
  refine AC_seq ?_
  refine AC_region ?_
  refine AL_p rfl rfl (S_eql rfl (.tmp rfl) (AEv.const _)) ?_
  refine AL_p rfl rfl (S_assign rfl (.tmp rfl)) ?_
  refine AL_nil ?_
  refine AC_cond (.tmp rfl) (fun hb5 => ?_) (fun hb5 => ?_)
  · try simp only [zA, zO, zN, zM, zP, zQ, zD, zF, gd] at hb5
    obtain rfl : f = 103 := u8_eq hb5
    have hfo : 0 ≤ x.grace ∧ x.grace ≤ 1000 := field_ok hu hfe
    refine AC_region ?_
    refine AL_p rfl rfl (S_move rfl (.tmp rfl)) ?_
    refine AL_p rfl rfl (S_field 10 rfl (.tmp rfl) (by kernel_rfl)) ?_
    refine AL_p rfl rfl (S_load 0 rfl (.tmp rfl) rfl rfl (by kernel_rfl)) ?_
    refine AL_step rfl rfl (S_call rfl (AEvs.cons (.tmp rfl) (AEvs.cons (.tmp rfl) AEvs.nil)) (ACalls.preQ (pre := [_]) (F := F) (w_NumN b u2 q2 _ c hq2 (by first | omega | (refine Nat.le_trans (Nat.add_le_add_right (wput_len _ _ _) _) ?_; (try simp only [List.length_append]); omega)) x.grace (by omega) (by omega) _))) ?_
    rintro _ _ ⟨_, ⟨u2, q2, hq2, rfl, rfl⟩, rfl⟩
    refine AL_nil ?_
    refine ret_none (((b, .cells [addrB u2 b 99 3, bufAV q2 (wput c l (fieldB x 103)), .int .i64 (c)]) :: bufSt q2 5 (wput c l (fieldB x 103))) ++ F) rfl (Sub.l (List.sublist_cons_self _ _)) ⟨_, ⟨u2, q2, hq2, rfl, rfl⟩, rfl⟩ (.inr rfl)
  try simp only [zA, zO, zN, zM, zP, zQ, zD, zF, gd] at hb5
  have hf103 : ¬ f = 103 := fun h => hb5 (by rw [h]; rfl)
  refine AC_seq ?_
  refine AC_region ?_
  refine AL_p rfl rfl (S_eql rfl (.tmp rfl) (AEv.const _)) ?_
  refine AL_p rfl rfl (S_assign rfl (.tmp rfl)) ?_
  refine AL_nil ?_
  refine AC_cond (.tmp rfl) (fun hb6 => ?_) (fun hb6 => ?_)
  · try simp only [zA, zO, zN, zM, zP, zQ, zD, zF, gd] at hb6
    obtain rfl : f = 99 := u8_eq hb6
    have hfo : 0 ≤ x.ctr ∧ x.ctr ≤ 3 := field_ok hu hfe
    refine AC_region ?_
    refine AL_p rfl rfl (S_move rfl (.tmp rfl)) ?_
    refine AL_p rfl rfl (S_field 11 rfl (.tmp rfl) (by kernel_rfl)) ?_
    refine AL_p rfl rfl (S_load 0 rfl (.tmp rfl) rfl rfl (by kernel_rfl)) ?_
    refine AL_step rfl rfl (S_call rfl (AEvs.cons (.tmp rfl) (AEvs.cons (.tmp rfl) AEvs.nil)) (ACalls.preQ (pre := [_]) (F := F) (w_NumN b u2 q2 _ c hq2 (by first | omega | (refine Nat.le_trans (Nat.add_le_add_right (wput_len _ _ _) _) ?_; (try simp only [List.length_append]); omega)) x.ctr (by omega) (by omega) _))) ?_
    rintro _ _ ⟨_, ⟨u2, q2, hq2, rfl, rfl⟩, rfl⟩
    refine AL_nil ?_
    refine ret_none (((b, .cells [addrB u2 b 99 3, bufAV q2 (wput c l (fieldB x 99)), .int .i64 (c)]) :: bufSt q2 5 (wput c l (fieldB x 99))) ++ F) rfl (Sub.l (List.sublist_cons_self _ _)) ⟨_, ⟨u2, q2, hq2, rfl, rfl⟩, rfl⟩ (.inr rfl)
  try simp only [zA, zO, zN, zM, zP, zQ, zD, zF, gd] at hb6
  have hf99 : ¬ f = 99 := fun h => hb6 (by rw [h]; rfl)
  refine AC_seq ?_
  refine AC_region ?_
  refine AL_p rfl rfl (S_eql rfl (.tmp rfl) (AEv.const _)) ?_
  refine AL_p rfl rfl (S_assign rfl (.tmp rfl)) ?_
  refine AL_nil ?_
  refine AC_cond (.tmp rfl) (fun hb7 => ?_) (fun hb7 => ?_)
  · try simp only [zA, zO, zN, zM, zP, zQ, zD, zF, gd] at hb7
    obtain rfl : f = 105 := u8_eq hb7
    have hfo : 0 ≤ x.id ∧ x.id ≤ 1073741824 := field_ok hu hfe
    refine AC_region ?_
    refine AL_p rfl rfl (S_move rfl (.tmp rfl)) ?_
    refine AL_p rfl rfl (S_field 12 rfl (.tmp rfl) (by kernel_rfl)) ?_
    refine AL_p rfl rfl (S_load 0 rfl (.tmp rfl) rfl rfl (by kernel_rfl)) ?_
    refine AL_step rfl rfl (S_call rfl (AEvs.cons (.tmp rfl) (AEvs.cons (.tmp rfl) AEvs.nil)) (ACalls.preQ (pre := [_]) (F := F) (w_NumN b u2 q2 _ c hq2 (by first | omega | (refine Nat.le_trans (Nat.add_le_add_right (wput_len _ _ _) _) ?_; (try simp only [List.length_append]); omega)) x.id (by omega) (by omega) _))) ?_
    rintro _ _ ⟨_, ⟨u2, q2, hq2, rfl, rfl⟩, rfl⟩
    refine AL_nil ?_
    refine ret_none (((b, .cells [addrB u2 b 99 3, bufAV q2 (wput c l (fieldB x 105)), .int .i64 (c)]) :: bufSt q2 5 (wput c l (fieldB x 105))) ++ F) rfl (Sub.l (List.sublist_cons_self _ _)) ⟨_, ⟨u2, q2, hq2, rfl, rfl⟩, rfl⟩ (.inr rfl)
  try simp only [zA, zO, zN, zM, zP, zQ, zD, zF, gd] at hb7
  have hf105 : ¬ f = 105 := fun h => hb7 (by rw [h]; rfl)
  refine AC_seq ?_
  refine AC_region ?_
  refine AL_p rfl rfl (S_eql rfl (.tmp rfl) (AEv.const _)) ?_
  refine AL_p rfl rfl (S_assign rfl (.tmp rfl)) ?_
  refine AL_nil ?_
  refine AC_cond (.tmp rfl) (fun hb8 => ?_) (fun hb8 => ?_)
  · try simp only [zA, zO, zN, zM, zP, zQ, zD, zF, gd] at hb8
    obtain rfl : f = 109 := u8_eq hb8
    have hfo : 0 ≤ x.most ∧ x.most ≤ 32 := field_ok hu hfe
    refine AC_region ?_
    refine AL_p rfl rfl (S_move rfl (.tmp rfl)) ?_
    refine AL_p rfl rfl (S_field 13 rfl (.tmp rfl) (by kernel_rfl)) ?_
    refine AL_p rfl rfl (S_load 0 rfl (.tmp rfl) rfl rfl (by kernel_rfl)) ?_
    refine AL_step rfl rfl (S_call rfl (AEvs.cons (.tmp rfl) (AEvs.cons (.tmp rfl) AEvs.nil)) (ACalls.preQ (pre := [_]) (F := F) (w_NumN b u2 q2 _ c hq2 (by first | omega | (refine Nat.le_trans (Nat.add_le_add_right (wput_len _ _ _) _) ?_; (try simp only [List.length_append]); omega)) x.most (by omega) (by omega) _))) ?_
    rintro _ _ ⟨_, ⟨u2, q2, hq2, rfl, rfl⟩, rfl⟩
    refine AL_nil ?_
    refine ret_none (((b, .cells [addrB u2 b 99 3, bufAV q2 (wput c l (fieldB x 109)), .int .i64 (c)]) :: bufSt q2 5 (wput c l (fieldB x 109))) ++ F) rfl (Sub.l (List.sublist_cons_self _ _)) ⟨_, ⟨u2, q2, hq2, rfl, rfl⟩, rfl⟩ (.inr rfl)
  try simp only [zA, zO, zN, zM, zP, zQ, zD, zF, gd] at hb8
  have hf109 : ¬ f = 109 := fun h => hb8 (by rw [h]; rfl)
  refine AC_seq ?_
  refine AC_region ?_
  refine AL_p rfl rfl (S_eql rfl (.tmp rfl) (AEv.const _)) ?_
  refine AL_p rfl rfl (S_assign rfl (.tmp rfl)) ?_
  refine AL_nil ?_
  refine AC_cond (.tmp rfl) (fun hb9 => ?_) (fun hb9 => ?_)
  · try simp only [zA, zO, zN, zM, zP, zQ, zD, zF, gd] at hb9
    obtain rfl : f = 100 := u8_eq hb9
    have hfo : (x.data.length : Int) ≤ 32 := field_ok hu hfe
    refine AC_region ?_
    refine AL_p rfl rfl (S_move rfl (.tmp rfl)) ?_
    refine AL_p rfl rfl (S_field 14 rfl (.tmp rfl) (by kernel_rfl)) ?_
    refine AL_p rfl rfl (S_load 0 rfl (.tmp rfl) rfl rfl (by kernel_rfl)) ?_
    refine AL_step rfl rfl (S_call rfl (AEvs.cons (.tmp rfl) (AEvs.cons (.tmp rfl) AEvs.nil)) (ACalls.preQ (pre := [_]) (F := F) (w_TextN b u2 q2 _ c hq2 (by first | omega | (refine Nat.le_trans (Nat.add_le_add_right (wput_len _ _ _) _) ?_; (try simp only [List.length_append]); omega)) x.data (by omega) (by first | omega | (refine Nat.le_trans (Nat.add_le_add_right (wput_len _ _ _) _) ?_; (try simp only [List.length_append]); omega)) _))) ?_
    rintro _ _ ⟨_, ⟨u2, q2, hq2, rfl, rfl⟩, rfl⟩
    refine AL_nil ?_
    refine ret_none (((b, .cells [addrB u2 b 99 3, bufAV q2 (wput c l (fieldB x 100)), .int .i64 (c)]) :: bufSt q2 5 (wput c l (fieldB x 100))) ++ F) rfl (Sub.l (List.sublist_cons_self _ _)) ⟨_, ⟨u2, q2, hq2, rfl, rfl⟩, rfl⟩ (.inr rfl)
  try simp only [zA, zO, zN, zM, zP, zQ, zD, zF, gd] at hb9
  have hf100 : ¬ f = 100 := fun h => hb9 (by rw [h]; rfl)
  refine AC_seq ?_
  refine AC_region ?_
  refine AL_p rfl rfl (S_eql rfl (.tmp rfl) (AEv.const _)) ?_
  refine AL_p rfl rfl (S_assign rfl (.tmp rfl)) ?_
  refine AL_nil ?_
  refine AC_cond (.tmp rfl) (fun hb10 => ?_) (fun hb10 => ?_)
  · try simp only [zA, zO, zN, zM, zP, zQ, zD, zF, gd] at hb10
    obtain rfl : f = 108 := u8_eq hb10
    have hfo : LabsOk x.sel := field_ok hu hfe
    have hfl := hfo.1
    refine AC_region ?_
    refine AL_p rfl rfl (S_move rfl (.tmp rfl)) ?_
    refine AL_p rfl rfl (S_field 15 rfl (.tmp rfl) (by kernel_rfl)) ?_
    refine AL_p rfl rfl (S_load 0 rfl (.tmp rfl) rfl rfl (by kernel_rfl)) ?_
    refine AL_step rfl rfl (S_call rfl (AEvs.cons (.tmp rfl) (AEvs.cons (.tmp rfl) AEvs.nil)) (ACalls.preQ (pre := [_]) (F := F) (PutLabels_ok b u2 q2 _ c hq2 x.sel (by first | omega | (refine Nat.le_trans (Nat.add_le_add_right (wput_len _ _ _) _) ?_; (try simp only [List.length_append]); omega)) (by omega) (fun y hy => ⟨by have := (hfo.2 y hy).1; omega, by have := (hfo.2 y hy).2; omega⟩) _))) ?_
    rintro _ _ ⟨_, ⟨u2, q2, hq2, rfl, rfl⟩, rfl⟩
    refine AL_nil ?_
    refine ret_none (((b, .cells [addrB u2 b 99 3, bufAV q2 (wput c l (fieldB x 108)), .int .i64 (c)]) :: bufSt q2 5 (wput c l (fieldB x 108))) ++ F) rfl (Sub.l (List.sublist_cons_self _ _)) ⟨_, ⟨u2, q2, hq2, rfl, rfl⟩, rfl⟩ (.inr rfl)
  try simp only [zA, zO, zN, zM, zP, zQ, zD, zF, gd] at hb10
  have hf108 : ¬ f = 108 := fun h => hb10 (by rw [h]; rfl)
  have hx : fieldB x f = [] := by unfold fieldB; simp only [hf117, hf114, hf115, hf103, hf99, hf105, hf109, hf100, hf108, if_false]
  refine AC_skip ?_
  refine ret_none (((b, .cells [addrB u2 b 99 3, bufAV q2 (l), .int .i64 (c)]) :: bufSt q2 5 (l)) ++ F) rfl (Sub.l (List.sublist_cons_self _ _)) ⟨_, ⟨u2, q2, by rw [hx, wput_nil]; exact hq2, rfl, by rw [hx, wput_nil]⟩, rfl⟩ (.inr rfl)

set_option maxRecDepth 100000 in
/-- provost/ask.Bytes -/
theorem ask_Bytes_ok (x : Cal) (hx0 : ShortA x) (hu : x.rev < 18446744073709551616) : GCalls Tryz.prog tabs 10 [calAV x] (.tup [.S (if checkA x = none then calB x else []), .int .i64 (erCode (checkA x))]) := by
  intro st hG
  refine ACalls_of (N := 42) Tryz.func10 (by kernel_rfl) rfl rfl rfl ?_
  refine AC_seq ?_
  refine AC_region ?_
  refine AL_step rfl rfl (S_box rfl (.tmp rfl)) ?_
  rintro _ _ ⟨b1, rfl, rfl⟩
  refine AL_p rfl rfl (S_assign rfl (AEv.S _)) ?_
  refine AL_p rfl rfl (S_assign rfl (AEv.const _)) ?_
  refine AL_nil ?_
  refine AC_seq ?_
  refine AC_seq ?_
  refine AC_region ?_
  refine AL_p rfl rfl (S_loadN (m := 16) 0 rfl (.tmp rfl) rfl (by kernel_rfl) (by first | exact Nat.le_of_ble_eq_true rfl | (simp; omega) | simp)) ?_
  refine AL_p rfl rfl (S_gcall rfl (AEvs.cons (.tmp rfl) AEvs.nil) ((ask_Check_ok x hx0) _ (fun p hp => by repeat (first | exact hG p hp | refine List.mem_cons_of_mem _ ?_ | refine List.mem_append_right _ ?_)))) ?_
  refine AL_p rfl rfl (S_assign rfl (.tmp rfl)) ?_
  refine AL_nil ?_
  refine AC_seq ?_
  refine AC_region ?_
  refine AL_p rfl rfl (S_move rfl (.tmp rfl)) ?_
  refine AL_p rfl rfl (S_neqE (er_is 31 143 (checkA x)) rfl (.tmp rfl) (by kernel_rfl)) ?_
  refine AL_nil ?_
  refine AC_cond (.tmp rfl) (fun hb2 => ?_) (fun hb2 => ?_)
  · try simp only [zA, zO, zN, zM, zP, zQ, zD, zF, gd] at hb2
    have hk : ¬ checkA x = none := fun h => by rw [h] at hb2; simp at hb2
    refine AC_seq ?_
    refine AC_region ?_
    refine AL_p rfl rfl (S_move rfl (.tmp rfl)) ?_
    refine AL_p rfl rfl (S_gcall rfl (AEvs.cons (.tmp rfl) AEvs.nil) ((fail_Code_ok (checkA x)) _ (fun p hp => by repeat (first | exact hG p hp | refine List.mem_cons_of_mem _ ?_ | refine List.mem_append_right _ ?_)))) ?_
    refine AL_p rfl rfl (S_assign rfl (AEv.S _)) ?_
    refine AL_p rfl rfl (S_assign rfl (.tmp rfl)) ?_
    refine AL_nil ?_
    refine AC_ret ?_
    refine ret_tmps (ts := [2, 3]) st rfl (by decide) rfl (Sub.l (List.sublist_cons_self _ _)) (Conv.refl (Sub.l (List.sublist_cons_self _ _)) _) ⟨by rw [if_neg hk] <;> rfl, rfl⟩ (.inl rfl)
  try simp only [zA, zO, zN, zM, zP, zQ, zD, zF, gd] at hb2
  have hk : checkA x = none := by simpa using hb2
  obtain ⟨hcal, hff⟩ := checkA_ok hu hk
  have hk1 := hcal.1.1
  have hk2 := hcal.1.2
  have hfw := fields_few x.kind.toNat
  have hkl := numB_len (n := x.kind) (by omega)
  have h00 : ([] : List UInt8).length = 0 := rfl
  refine AC_skip ?_
  refine AC_seq ?_
  refine AC_region ?_
  refine AL_step rfl rfl (S_call rfl AEvs.nil (wire_Write_ok _)) ?_
  rintro _ _ ⟨_, ⟨b4, rfl, rfl⟩, rfl⟩
  refine AL_p rfl rfl (S_assign rfl (.tmp rfl)) ?_
  refine AL_nil ?_
  refine AC_seq ?_
  refine AC_region ?_
  refine AL_p rfl rfl (S_move rfl (.tmp rfl)) ?_
  refine AL_p rfl rfl (S_field 0 rfl (.tmp rfl) (by kernel_rfl)) ?_
  refine AL_p rfl rfl (S_load 1 rfl (.tmp rfl) rfl rfl (by kernel_rfl)) ?_
  refine AL_step rfl rfl (S_call rfl (AEvs.cons (.tmp rfl) (AEvs.cons (.tmp rfl) AEvs.nil)) (w_NumN b4 false .nil [] 0 rfl (by decide) x.kind (by omega) (by omega) _)) ?_
  rintro _ _ ⟨_, ⟨u2, q2, hq2, rfl, rfl⟩, rfl⟩
  refine AL_nil ?_
  refine AC_seq ?_
  refine AC_seq ?_
  refine AC_region ?_
  refine AL_p rfl rfl (S_field 0 rfl (.tmp rfl) (by kernel_rfl)) ?_
  refine AL_p rfl rfl (S_loadM rfl (.tmp rfl) (by repeat (first | exact List.mem_cons_self | refine List.mem_append_right _ ?_ | refine List.mem_cons_of_mem _ ?_)) rfl (by kernel_rfl)) ?_
  refine AL_p rfl rfl (S_elemA (e := 57) (len := 13) (i := x.kind) 2 rfl (AEv.global _) (.tmp rfl) (by kernel_rfl) (by kernel_rfl) (by omega) (by omega)) ?_
  refine AL_p rfl rfl (S_field 1 rfl (.tmp rfl) (by kernel_rfl)) ?_
  refine AL_p rfl rfl (S_loadK (vs := kindsV) (u := .string ⟨(kindA x.kind.toNat).2.toArray⟩) rfl (.tmp rfl) (by repeat (first | exact hG _ tab_kinds | exact List.mem_cons_self | refine List.mem_append_right _ ?_ | refine List.mem_cons_of_mem _ ?_)) (kindT_fields (by omega) (by omega)) (by kernel_rfl)) ?_
  refine AL_p rfl rfl (S_lenS (ts := #[]) rfl (.tmp rfl) (by kernel_rfl)) ?_
  refine AL_p rfl rfl (S_move rfl (AEv.const _)) ?_
  refine AL_nil ?_
  refine AC_block ?_
  refine AC_loopK (G := Nat × Bool × Buf) [(1, _), (2, _), (3, _), (5, _), (23, _)] (fun g => g.1 ≤ (kindA x.kind.toNat).2.length ∧ g.2.2.ok (wput 0 [] (numB x.kind ++ ((kindA x.kind.toNat).2.take g.1).flatMap (fieldB x)))) (fun g => [(24, .int .i64 (g.1 : Int))]) (fun g => ((b4, .cells [addrB g.2.1 b4 99 3, bufAV g.2.2 (wput 0 [] (numB x.kind ++ ((kindA x.kind.toNat).2.take g.1).flatMap (fieldB x))), .int .i64 (0)]) :: bufSt g.2.2 5 (wput 0 [] (numB x.kind ++ ((kindA x.kind.toNat).2.take g.1).flatMap (fieldB x)))) ++ ((b1, .cells (calL x)) :: st)) (fun g => (kindA x.kind.toNat).2.length - g.1) ((0, u2, q2)) (⟨Nat.zero_le _, by simpa using hq2⟩) (by simp only [List.take_zero, List.flatMap_nil, List.append_nil]; exact (Sub.l (List.Sublist.refl _))) (.cons rfl (Le.refl _) (.cons rfl (Le.refl _) (.cons rfl (Le.refl _) (.cons rfl (Le.refl _) (.cons rfl (Le.refl _) .nil))))) (.cons rfl (by first | exact Le.refl _ | exact Le.nils | exact Le.row _ _ _ _ | exact Le.of_eq (by first | rfl | (simp; done) | (push_cast; rfl) | (simp; omega))) .nil) ?_
  rintro ⟨i, u2, q2⟩ ⟨hi, hq2⟩
  try dsimp only
  simp only [List.cons_append, List.nil_append]
  dsimp only at hi hq2
  have hfm := flatB_len (e := fieldB x) (B := 20000) (l := (kindA x.kind.toNat).2.take i) fun f hf => fieldB_few hu (hff f (List.mem_of_mem_take hf))
  rw [List.length_take, show min i (kindA x.kind.toNat).2.length = i by omega] at hfm
  refine AC_seq ?_
  refine AC_region ?_
  refine AL_p rfl rfl (S_lss rfl (.tmp rfl) (.tmp rfl)) ?_
  refine AL_nil ?_
  refine AC_seq ?_
  refine AC_cond (.tmp rfl) (fun hb3 => ?_) (fun hb3 => ?_)
  · try simp only [zA, zO, zN, zM, zP, zQ, zD, zF, gd] at hb3
    have hil : i < (kindA x.kind.toNat).2.length := by omega
    refine AC_skip ?_
    refine AC_seq ?_
    refine AC_block ?_
    refine AC_seq ?_
    refine AC_region ?_
    refine AL_p rfl rfl (S_move rfl (.tmp rfl)) ?_
    refine AL_p rfl rfl (S_assign rfl (.tmp rfl)) ?_
    refine AL_nil ?_
    refine AC_plan (σ := [(0, 0), (1, 0), (2, 0), (3, 0), (4, 0), (5, 0), (6, 0), (7, 0), (8, 0), (9, 2)]) (by kernel_rfl) ((b1, Ob.cells (calL x)) :: Gs tabs) (by kernel_rfl) (fun r hr => by
      rcases List.mem_cons.1 hr with rfl | hr
      · repeat (first | exact List.mem_cons_self | refine List.mem_append_right _ ?_ | refine List.mem_cons_of_mem _ ?_)
      · repeat (first | exact hG r hr | refine List.mem_append_right _ ?_ | refine List.mem_cons_of_mem _ ?_)) ?_
    refine AG.f rfl rfl (fun st' hst => Q_p rfl (S_move rfl (.tmp rfl))) ?_
    refine AG.f rfl rfl (fun st' hst => Q_p rfl (S_loadNM (m := 16) rfl (.tmp rfl) (hst _ (List.mem_of_getElem? (i := 0) rfl)) (by kernel_rfl) (by first | exact Nat.le_of_ble_eq_true rfl | (simp; omega) | simp))) ?_
    refine AG.f rfl rfl (fun st' hst => Q_p rfl (S_field 0 rfl (.tmp rfl) (by kernel_rfl))) ?_
    refine AG.f rfl rfl (fun st' hst => Q_p rfl (S_loadM rfl (.tmp rfl) (hst _ (List.mem_of_getElem? (i := 0) rfl)) rfl (by kernel_rfl))) ?_
    refine AG.f rfl rfl (fun st' hst => Q_p rfl (S_elemA (e := 57) (len := 13) (i := x.kind) 2 rfl (AEv.global _) (.tmp rfl) (by kernel_rfl) (by kernel_rfl) (by omega) (by omega))) ?_
    refine AG.f rfl rfl (fun st' hst => Q_p rfl (S_field 1 rfl (.tmp rfl) (by kernel_rfl))) ?_
    refine AG.f rfl rfl (fun st' hst => Q_p rfl (S_loadK (vs := kindsV) (u := .string ⟨(kindA x.kind.toNat).2.toArray⟩) rfl (.tmp rfl) (hst _ (List.mem_cons_of_mem _ tab_kinds)) (kindT_fields (by omega) (by omega)) (by kernel_rfl))) ?_
    refine AG.f rfl rfl (fun st' hst => Q_p rfl (S_move rfl (.tmp rfl))) ?_
    refine AG.f rfl rfl (fun st' hst => Q_p rfl ((S_index rfl (.tmp rfl) (.tmp rfl) (by kernel_rfl) (by omega) (by omega)).ofV (congrArg _ (atL_get hil)))) ?_
    refine AG.h rfl rfl rfl (S_call rfl (AEvs.cons (.tmp rfl) (AEvs.cons (.tmp rfl) (AEvs.cons (.tmp rfl) AEvs.nil))) (ask_put_ok b4 u2 q2 _ 0 hq2 (by first | omega | (refine Nat.le_trans (Nat.add_le_add_right (wput_len _ _ _) _) ?_; (try simp only [List.length_append]); omega)) x ((kindA x.kind.toNat).2[i]'hil) hx0 hu (hff _ (List.getElem_mem hil)) _ (fun r hr => List.mem_cons_of_mem _ (hG r hr)))) ?_
    rintro _ _ ⟨_, ⟨u2, q2, hq2, rfl, rfl⟩, rfl⟩
    rw [wput_wput] at hq2 ⊢
    refine AG.nil ?_
    refine AC_region ?_
    refine AL_p rfl rfl (S_addI rfl (.tmp rfl) (AEv.const _) (by omega) (by omega)) ?_
    refine AL_p rfl rfl (S_move rfl (.tmp rfl)) ?_
    refine AL_nil ?_
    refine ⟨(i + 1, u2, q2), ⟨by dsimp only; omega, by dsimp only; rw [flatB_next hil]; exact hq2⟩, by dsimp only; omega, by dsimp only; rw [flatB_next hil]; exact (Sub.l (List.Sublist.refl _)), (.cons rfl (by first | exact Le.refl _ | exact Le.nils | exact Le.row _ _ _ _ | exact Le.of_eq (by first | rfl | (simp; done) | (push_cast; rfl) | (simp; omega))) .nil), (.cons rfl (Le.refl _) (.cons rfl (Le.refl _) (.cons rfl (Le.refl _) (.cons rfl (Le.refl _) (.cons rfl (Le.refl _) .nil)))))⟩
  try simp only [zA, zO, zN, zM, zP, zQ, zD, zF, gd] at hb3
  rw [show (kindA x.kind.toNat).2.take i = (kindA x.kind.toNat).2 from List.take_of_length_le (by omega)] at hq2 ⊢
  refine AC_exit ?_
  refine AC_seq ?_
  refine AC_region ?_
  refine AL_p rfl rfl (S_move rfl (.tmp rfl)) ?_
  refine AL_step rfl rfl (S_call rfl (AEvs.cons (.tmp rfl) AEvs.nil) (w_End_ok b4 u2 q2 _ _ hq2 _)) ?_
  rintro _ _ ⟨_, ⟨cs2, rfl, rfl⟩, rfl⟩
  refine AL_p rfl rfl (S_extract 0 rfl (.tmp rfl) rfl) ?_
  refine AL_p rfl rfl (S_extract 1 rfl (.tmp rfl) rfl) ?_
  refine AL_p rfl rfl (S_assign rfl (.tmp rfl)) ?_
  refine AL_p rfl rfl (S_assign rfl (.tmp rfl)) ?_
  refine AL_nil ?_
  refine AC_ret ?_
  refine ret_tmps (ts := [2, 3]) st rfl (by decide) rfl (Sub.l ((List.sublist_cons_self _ _).trans (List.sublist_cons_self _ _))) (Conv.refl (Sub.l ((List.sublist_cons_self _ _).trans (List.sublist_cons_self _ _))) _) ⟨by rw [if_pos hk, hk] <;> rfl, rfl⟩ (.inl rfl)

end Go.Proofs.YtcbnokpgklmndaaGreatDoor

/-
The walks of Go functions in the logic AL: what each of them answers.
Conditions: those of each theorem.
-/
set_option linter.unusedVariables false
set_option linter.unusedSimpArgs false
namespace Go.Proofs.YtcbnokpgklmndaaGreatDoor
open Go.AL Go.NumSpec

set_option maxRecDepth 100000 in
set_option maxHeartbeats 2000000 in
/-- provost/ask.take -/
theorem ask_take_ok (b bc : Nat) (s : List UInt8) (c : Int) (x : Cal) (f : UInt8) (F : St) : ACalls Tryz.prog 42 [.ptr b 0, .ptr bc 0, .int .u8 (f.toNat : Int)] ([(bc, Ob.cells (calL x)), (b, Ob.cells [.S s, .int .i64 c])] ++ F) (fun v st' => ∃ foot', (v = .tup [] ∧ foot' = [(bc, Ob.cells (calL (oneR f x s c).1)), (b, Ob.cells [.S (oneR f x s c).2.1, .int .i64 (oneR f x s c).2.2])]) ∧ st' = foot' ++ F) := by
  refine ACalls_of (N := 70) Tryz.func42 (by kernel_rfl) rfl rfl rfl ?_
  refine AC_seq ?_
  refine AC_region ?_
  refine AL_p rfl rfl (S_move rfl (.tmp rfl)) ?_
  refine AL_nil ?_
  refine AC_block ?_
  refine AC_seq ?_
  refine AC_region ?_
  refine AL_p rfl rfl (S_eql rfl (.tmp rfl) (AEv.const _)) ?_
  refine AL_p rfl rfl (S_assign rfl (.tmp rfl)) ?_
  refine AL_nil ?_
  refine AC_cond (.tmp rfl) (fun hb1 => ?_) (fun hb1 => ?_)
  · try simp only [zA, zO, zN, zM, zP, zQ, zD, zF, gd] at hb1
    obtain rfl : f = 117 := u8_eq hb1
    refine AC_region ?_
    refine AL_p rfl rfl (S_move rfl (.tmp rfl)) ?_
    refine AL_p rfl rfl (S_move rfl (.tmp rfl)) ?_
    refine AL_step rfl rfl (S_call rfl (AEvs.cons (.tmp rfl) (AEvs.cons (AEv.const _) AEvs.nil)) (ACalls.preQ (pre := [_]) (F := F) (r_Num_ok b _ _ 1073741824 (by decide) _))) ?_
    rintro _ _ ⟨_, ⟨rfl, rfl⟩, rfl⟩
    refine AL_p rfl rfl (S_nilCheck rfl (.tmp rfl)) ?_
    refine AL_p rfl rfl (S_field 1 rfl (.tmp rfl) (by kernel_rfl)) ?_
    refine AL_step rfl rfl (S_store 0 rfl (.tmp rfl) (.tmp rfl) rfl (by first | exact Nat.le_of_ble_eq_true rfl | simp) rfl (by kernel_rfl)) ?_
    rintro _ _ ⟨rfl, rfl⟩
    refine AL_nil ?_
    refine ret_none ([(bc, Ob.cells (calL (oneR 117 x s c).1)), (b, Ob.cells [.S (oneR 117 x s c).2.1, .int .i64 (oneR 117 x s c).2.2])] ++ F) rfl (Sub.l (List.Sublist.refl _)) ⟨_, ⟨rfl, rfl⟩, rfl⟩ (.inr rfl)
  try simp only [zA, zO, zN, zM, zP, zQ, zD, zF, gd] at hb1
  have hf117 : ¬ f = 117 := fun h => hb1 (by rw [h]; rfl)
  refine AC_seq ?_
  refine AC_region ?_
  refine AL_p rfl rfl (S_eql rfl (.tmp rfl) (AEv.const _)) ?_
  refine AL_p rfl rfl (S_assign rfl (.tmp rfl)) ?_
  refine AL_nil ?_
  refine AC_cond (.tmp rfl) (fun hb2 => ?_) (fun hb2 => ?_)
  · try simp only [zA, zO, zN, zM, zP, zQ, zD, zF, gd] at hb2
    obtain rfl : f = 114 := u8_eq hb2
    refine AC_region ?_
    refine AL_p rfl rfl (S_move rfl (.tmp rfl)) ?_
    refine AL_p rfl rfl (S_move rfl (.tmp rfl)) ?_
    refine AL_step rfl rfl (S_call rfl (AEvs.cons (.tmp rfl) AEvs.nil) (ACalls.preQ (pre := [_]) (F := F) (r_Big_ok b _ _ _))) ?_
    rintro _ _ ⟨_, ⟨rfl, rfl⟩, rfl⟩
    refine AL_p rfl rfl (S_nilCheck rfl (.tmp rfl)) ?_
    refine AL_p rfl rfl (S_field 2 rfl (.tmp rfl) (by kernel_rfl)) ?_
    refine AL_step rfl rfl (S_store 0 rfl (.tmp rfl) (.tmp rfl) rfl (by first | exact Nat.le_of_ble_eq_true rfl | simp) rfl (by kernel_rfl)) ?_
    rintro _ _ ⟨rfl, rfl⟩
    refine AL_nil ?_
    refine ret_none ([(bc, Ob.cells (calL (oneR 114 x s c).1)), (b, Ob.cells [.S (oneR 114 x s c).2.1, .int .i64 (oneR 114 x s c).2.2])] ++ F) rfl (Sub.l (List.Sublist.refl _)) ⟨_, ⟨rfl, rfl⟩, rfl⟩ (.inr rfl)
  try simp only [zA, zO, zN, zM, zP, zQ, zD, zF, gd] at hb2
  have hf114 : ¬ f = 114 := fun h => hb2 (by rw [h]; rfl)
  refine AC_seq ?_
  refine AC_region ?_
  refine AL_p rfl rfl (S_eql rfl (.tmp rfl) (AEv.const _)) ?_
  refine AL_p rfl rfl (S_assign rfl (.tmp rfl)) ?_
  refine AL_nil ?_
  refine AC_cond (.tmp rfl) (fun hb3 => ?_) (fun hb3 => ?_)
  · try simp only [zA, zO, zN, zM, zP, zQ, zD, zF, gd] at hb3
    obtain rfl : f = 115 := u8_eq hb3
    refine AC_region ?_
    refine AL_p rfl rfl (S_move rfl (.tmp rfl)) ?_
    refine AL_p rfl rfl (S_move rfl (.tmp rfl)) ?_
    refine AL_step rfl rfl (S_call rfl (AEvs.cons (.tmp rfl) AEvs.nil) (ACalls.preQ (pre := [_]) (F := F) (pack_Raw_ok b _ _ _))) ?_
    rintro _ _ ⟨_, ⟨rfl, rfl⟩, rfl⟩
    refine AL_p rfl rfl (S_nilCheck rfl (.tmp rfl)) ?_
    refine AL_p rfl rfl (S_field 3 rfl (.tmp rfl) (by kernel_rfl)) ?_
    refine AL_step rfl rfl (S_storeN 0 rfl (.tmp rfl) (.tmp rfl) rfl (by first | exact Nat.le_of_ble_eq_true rfl | (simp; omega) | simp) (by first | rfl | simp [AV.one, Value.oneCell']) (by kernel_rfl)) ?_
    rintro _ _ ⟨rfl, rfl⟩
    refine AL_nil ?_
    refine ret_none ([(bc, Ob.cells (calL (oneR 115 x s c).1)), (b, Ob.cells [.S (oneR 115 x s c).2.1, .int .i64 (oneR 115 x s c).2.2])] ++ F) rfl (Sub.l (List.Sublist.refl _)) ⟨_, ⟨rfl, rfl⟩, rfl⟩ (.inr rfl)
  try simp only [zA, zO, zN, zM, zP, zQ, zD, zF, gd] at hb3
  have hf115 : ¬ f = 115 := fun h => hb3 (by rw [h]; rfl)
  refine AC_seq ?_
  refine AC_region ?_
  refine AL_p rfl rfl (S_eql rfl (.tmp rfl) (AEv.const _)) ?_
  refine AL_p rfl rfl (S_assign rfl (.tmp rfl)) ?_
  refine AL_nil ?_
  refine AC_cond (.tmp rfl) (fun hb4 => ?_) (fun hb4 => ?_)
  · try simp only [zA, zO, zN, zM, zP, zQ, zD, zF, gd] at hb4
    obtain rfl : f = 103 := u8_eq hb4
    refine AC_region ?_
    refine AL_p rfl rfl (S_move rfl (.tmp rfl)) ?_
    refine AL_p rfl rfl (S_move rfl (.tmp rfl)) ?_
    refine AL_step rfl rfl (S_call rfl (AEvs.cons (.tmp rfl) (AEvs.cons (AEv.const _) AEvs.nil)) (ACalls.preQ (pre := [_]) (F := F) (r_Num_ok b _ _ 1000 (by decide) _))) ?_
    rintro _ _ ⟨_, ⟨rfl, rfl⟩, rfl⟩
    refine AL_p rfl rfl (S_nilCheck rfl (.tmp rfl)) ?_
    refine AL_p rfl rfl (S_field 10 rfl (.tmp rfl) (by kernel_rfl)) ?_
    refine AL_step rfl rfl (S_store 0 rfl (.tmp rfl) (.tmp rfl) rfl (by first | exact Nat.le_of_ble_eq_true rfl | simp) rfl (by kernel_rfl)) ?_
    rintro _ _ ⟨rfl, rfl⟩
    refine AL_nil ?_
    refine ret_none ([(bc, Ob.cells (calL (oneR 103 x s c).1)), (b, Ob.cells [.S (oneR 103 x s c).2.1, .int .i64 (oneR 103 x s c).2.2])] ++ F) rfl (Sub.l (List.Sublist.refl _)) ⟨_, ⟨rfl, rfl⟩, rfl⟩ (.inr rfl)
  try simp only [zA, zO, zN, zM, zP, zQ, zD, zF, gd] at hb4
  have hf103 : ¬ f = 103 := fun h => hb4 (by rw [h]; rfl)
  refine AC_seq ?_
  refine AC_region ?_
  refine AL_p rfl rfl (S_eql rfl (.tmp rfl) (AEv.const _)) ?_
  refine AL_p rfl rfl (S_assign rfl (.tmp rfl)) ?_
  refine AL_nil ?_
  refine AC_cond (.tmp rfl) (fun hb5 => ?_) (fun hb5 => ?_)
  · try simp only [zA, zO, zN, zM, zP, zQ, zD, zF, gd] at hb5
    obtain rfl : f = 99 := u8_eq hb5
    refine AC_region ?_
    refine AL_p rfl rfl (S_move rfl (.tmp rfl)) ?_
    refine AL_p rfl rfl (S_move rfl (.tmp rfl)) ?_
    refine AL_step rfl rfl (S_call rfl (AEvs.cons (.tmp rfl) (AEvs.cons (AEv.const _) AEvs.nil)) (ACalls.preQ (pre := [_]) (F := F) (r_Num_ok b _ _ 3 (by decide) _))) ?_
    rintro _ _ ⟨_, ⟨rfl, rfl⟩, rfl⟩
    refine AL_p rfl rfl (S_nilCheck rfl (.tmp rfl)) ?_
    refine AL_p rfl rfl (S_field 11 rfl (.tmp rfl) (by kernel_rfl)) ?_
    refine AL_step rfl rfl (S_store 0 rfl (.tmp rfl) (.tmp rfl) rfl (by first | exact Nat.le_of_ble_eq_true rfl | simp) rfl (by kernel_rfl)) ?_
    rintro _ _ ⟨rfl, rfl⟩
    refine AL_nil ?_
    refine ret_none ([(bc, Ob.cells (calL (oneR 99 x s c).1)), (b, Ob.cells [.S (oneR 99 x s c).2.1, .int .i64 (oneR 99 x s c).2.2])] ++ F) rfl (Sub.l (List.Sublist.refl _)) ⟨_, ⟨rfl, rfl⟩, rfl⟩ (.inr rfl)
  try simp only [zA, zO, zN, zM, zP, zQ, zD, zF, gd] at hb5
  have hf99 : ¬ f = 99 := fun h => hb5 (by rw [h]; rfl)
  refine AC_seq ?_
  refine AC_region ?_
  refine AL_p rfl rfl (S_eql rfl (.tmp rfl) (AEv.const _)) ?_
  refine AL_p rfl rfl (S_assign rfl (.tmp rfl)) ?_
  refine AL_nil ?_
  refine AC_cond (.tmp rfl) (fun hb6 => ?_) (fun hb6 => ?_)
  · try simp only [zA, zO, zN, zM, zP, zQ, zD, zF, gd] at hb6
    obtain rfl : f = 105 := u8_eq hb6
    refine AC_region ?_
    refine AL_p rfl rfl (S_move rfl (.tmp rfl)) ?_
    refine AL_p rfl rfl (S_move rfl (.tmp rfl)) ?_
    refine AL_step rfl rfl (S_call rfl (AEvs.cons (.tmp rfl) (AEvs.cons (AEv.const _) AEvs.nil)) (ACalls.preQ (pre := [_]) (F := F) (r_Num_ok b _ _ 1073741824 (by decide) _))) ?_
    rintro _ _ ⟨_, ⟨rfl, rfl⟩, rfl⟩
    refine AL_p rfl rfl (S_nilCheck rfl (.tmp rfl)) ?_
    refine AL_p rfl rfl (S_field 12 rfl (.tmp rfl) (by kernel_rfl)) ?_
    refine AL_step rfl rfl (S_store 0 rfl (.tmp rfl) (.tmp rfl) rfl (by first | exact Nat.le_of_ble_eq_true rfl | simp) rfl (by kernel_rfl)) ?_
    rintro _ _ ⟨rfl, rfl⟩
    refine AL_nil ?_
    refine ret_none ([(bc, Ob.cells (calL (oneR 105 x s c).1)), (b, Ob.cells [.S (oneR 105 x s c).2.1, .int .i64 (oneR 105 x s c).2.2])] ++ F) rfl (Sub.l (List.Sublist.refl _)) ⟨_, ⟨rfl, rfl⟩, rfl⟩ (.inr rfl)
  try simp only [zA, zO, zN, zM, zP, zQ, zD, zF, gd] at hb6
  have hf105 : ¬ f = 105 := fun h => hb6 (by rw [h]; rfl)
  refine AC_seq ?_
  refine AC_region ?_
  refine AL_p rfl rfl (S_eql rfl (.tmp rfl) (AEv.const _)) ?_
  refine AL_p rfl rfl (S_assign rfl (.tmp rfl)) ?_
  refine AL_nil ?_
  refine AC_cond (.tmp rfl) (fun hb7 => ?_) (fun hb7 => ?_)
  · try simp only [zA, zO, zN, zM, zP, zQ, zD, zF, gd] at hb7
    obtain rfl : f = 109 := u8_eq hb7
    refine AC_region ?_
    refine AL_p rfl rfl (S_move rfl (.tmp rfl)) ?_
    refine AL_p rfl rfl (S_move rfl (.tmp rfl)) ?_
    refine AL_step rfl rfl (S_call rfl (AEvs.cons (.tmp rfl) (AEvs.cons (AEv.const _) AEvs.nil)) (ACalls.preQ (pre := [_]) (F := F) (r_Num_ok b _ _ 32 (by decide) _))) ?_
    rintro _ _ ⟨_, ⟨rfl, rfl⟩, rfl⟩
    refine AL_p rfl rfl (S_nilCheck rfl (.tmp rfl)) ?_
    refine AL_p rfl rfl (S_field 13 rfl (.tmp rfl) (by kernel_rfl)) ?_
    refine AL_step rfl rfl (S_store 0 rfl (.tmp rfl) (.tmp rfl) rfl (by first | exact Nat.le_of_ble_eq_true rfl | simp) rfl (by kernel_rfl)) ?_
    rintro _ _ ⟨rfl, rfl⟩
    refine AL_nil ?_
    refine ret_none ([(bc, Ob.cells (calL (oneR 109 x s c).1)), (b, Ob.cells [.S (oneR 109 x s c).2.1, .int .i64 (oneR 109 x s c).2.2])] ++ F) rfl (Sub.l (List.Sublist.refl _)) ⟨_, ⟨rfl, rfl⟩, rfl⟩ (.inr rfl)
  try simp only [zA, zO, zN, zM, zP, zQ, zD, zF, gd] at hb7
  have hf109 : ¬ f = 109 := fun h => hb7 (by rw [h]; rfl)
  refine AC_seq ?_
  refine AC_region ?_
  refine AL_p rfl rfl (S_eql rfl (.tmp rfl) (AEv.const _)) ?_
  refine AL_p rfl rfl (S_assign rfl (.tmp rfl)) ?_
  refine AL_nil ?_
  refine AC_cond (.tmp rfl) (fun hb8 => ?_) (fun hb8 => ?_)
  · try simp only [zA, zO, zN, zM, zP, zQ, zD, zF, gd] at hb8
    obtain rfl : f = 100 := u8_eq hb8
    refine AC_region ?_
    refine AL_p rfl rfl (S_move rfl (.tmp rfl)) ?_
    refine AL_p rfl rfl (S_move rfl (.tmp rfl)) ?_
    refine AL_step rfl rfl (S_call rfl (AEvs.cons (.tmp rfl) (AEvs.cons (AEv.const _) AEvs.nil)) (ACalls.preQ (pre := [_]) (F := F) (r_Text_ok b _ _ 32 (by decide) _))) ?_
    rintro _ _ ⟨_, ⟨rfl, rfl⟩, rfl⟩
    refine AL_p rfl rfl (S_nilCheck rfl (.tmp rfl)) ?_
    refine AL_p rfl rfl (S_field 14 rfl (.tmp rfl) (by kernel_rfl)) ?_
    refine AL_step rfl rfl (S_store 0 rfl (.tmp rfl) (.tmp rfl) rfl (by first | exact Nat.le_of_ble_eq_true rfl | simp) rfl (by kernel_rfl)) ?_
    rintro _ _ ⟨rfl, rfl⟩
    refine AL_nil ?_
    refine ret_none ([(bc, Ob.cells (calL (oneR 100 x s c).1)), (b, Ob.cells [.S (oneR 100 x s c).2.1, .int .i64 (oneR 100 x s c).2.2])] ++ F) rfl (Sub.l (List.Sublist.refl _)) ⟨_, ⟨rfl, rfl⟩, rfl⟩ (.inr rfl)
  try simp only [zA, zO, zN, zM, zP, zQ, zD, zF, gd] at hb8
  have hf100 : ¬ f = 100 := fun h => hb8 (by rw [h]; rfl)
  refine AC_seq ?_
  refine AC_region ?_
  refine AL_p rfl rfl (S_eql rfl (.tmp rfl) (AEv.const _)) ?_
  refine AL_p rfl rfl (S_assign rfl (.tmp rfl)) ?_
  refine AL_nil ?_
  refine AC_cond (.tmp rfl) (fun hb9 => ?_) (fun hb9 => ?_)
  · try simp only [zA, zO, zN, zM, zP, zQ, zD, zF, gd] at hb9
    obtain rfl : f = 108 := u8_eq hb9
    refine AC_region ?_
    refine AL_p rfl rfl (S_move rfl (.tmp rfl)) ?_
    refine AL_p rfl rfl (S_move rfl (.tmp rfl)) ?_
    refine AL_step rfl rfl (S_call rfl (AEvs.cons (.tmp rfl) AEvs.nil) (ACalls.preQ (pre := [_]) (F := F) (TakeLabels_ok b _ _ _))) ?_
    rintro _ _ ⟨_, ⟨rfl, rfl⟩, rfl⟩
    refine AL_p rfl rfl (S_nilCheck rfl (.tmp rfl)) ?_
    refine AL_p rfl rfl (S_field 15 rfl (.tmp rfl) (by kernel_rfl)) ?_
    refine AL_step rfl rfl (S_store 0 rfl (.tmp rfl) (.tmp rfl) rfl (by first | exact Nat.le_of_ble_eq_true rfl | simp) rfl (by kernel_rfl)) ?_
    rintro _ _ ⟨rfl, rfl⟩
    refine AL_nil ?_
    refine ret_none ([(bc, Ob.cells (calL (oneR 108 x s c).1)), (b, Ob.cells [.S (oneR 108 x s c).2.1, .int .i64 (oneR 108 x s c).2.2])] ++ F) rfl (Sub.l (List.Sublist.refl _)) ⟨_, ⟨rfl, rfl⟩, rfl⟩ (.inr rfl)
  try simp only [zA, zO, zN, zM, zP, zQ, zD, zF, gd] at hb9
  have hf108 : ¬ f = 108 := fun h => hb9 (by rw [h]; rfl)
  have hx : oneR f x s c = (x, s, c) := by unfold oneR; simp only [hf117, hf114, hf115, hf103, hf99, hf105, hf109, hf100, hf108, if_false]
  refine AC_skip ?_
  refine ret_none ([(bc, Ob.cells (calL x)), (b, Ob.cells [.S s, .int .i64 c])] ++ F) rfl (Sub.l (List.Sublist.refl _)) ⟨_, ⟨rfl, by rw [hx]⟩, rfl⟩ (.inr rfl)

end Go.Proofs.YtcbnokpgklmndaaGreatDoor

/-
The walks of Go functions in the logic AL: what each of them answers.
Conditions: those of each theorem.
-/
set_option linter.unusedVariables false
set_option linter.unusedSimpArgs false
namespace Go.Proofs.YtcbnokpgklmndaaGreatDoor
open Go.AL Go.NumSpec

set_option maxRecDepth 100000 in
set_option maxHeartbeats 2000000 in
/-- provost/ask.Of -/
theorem ask_Of_ok (s : List UInt8) : GCalls Tryz.prog tabs 14 [.S s] (.tup [calAV (ofA s), erV 31 143 (ofAE s)]) := by
  intro st hG
  refine ACalls_of (N := 59) Tryz.func14 (by kernel_rfl) rfl rfl rfl ?_
  have hfw := fields_few (numR s 0 12).1.toNat
  refine AC_seq ?_
  refine AC_region ?_
  refine AL_step rfl rfl (S_alloc [.int .i64 0, .int .i64 0, .int .u64 0, .string ⟨#[]⟩, .slice none 0 0, .slice none 0 0, .slice none 0 0, .int .i64 0, .int .i64 0, .int .i64 0, .int .i64 0, .int .i64 0, .int .i64 0, .int .i64 0, .string ⟨#[]⟩, .slice none 0 0] rfl (by kernel_rfl)) ?_
  rintro _ _ ⟨b2, rfl, rfl⟩
  refine AL_p rfl rfl (S_assign rfl (AEv.const _)) ?_
  refine AL_nil ?_
  refine AC_seq ?_
  refine AC_region ?_
  refine AL_p rfl rfl (S_move rfl (.tmp rfl)) ?_
  refine AL_step rfl rfl (S_call rfl (AEvs.cons (.tmp rfl) AEvs.nil) (wire_Read_ok s _)) ?_
  rintro _ _ ⟨_, ⟨b4, rfl, rfl⟩, rfl⟩
  refine AL_p rfl rfl (S_assign rfl (.tmp rfl)) ?_
  refine AL_nil ?_
  refine AC_seq ?_
  refine AC_region ?_
  refine AL_p rfl rfl (S_move rfl (.tmp rfl)) ?_
  refine AL_step rfl rfl (S_call rfl (AEvs.cons (.tmp rfl) (AEvs.cons (AEv.const _) AEvs.nil)) (r_Num_ok b4 s 0 12 (by decide) _)) ?_
  rintro _ _ ⟨_, ⟨rfl, rfl⟩, rfl⟩
  refine AL_p rfl rfl (S_build (t := 28) (pl := [(0, 1), (1, 1), (2, 1), (3, 7), (10, 1), (11, 1), (12, 1), (13, 1), (14, 1), (15, 1)]) (zs := [.int .i64 0, .int .i64 0, .int .u64 0, .string ⟨#[]⟩, .slice none 0 0, .slice none 0 0, .slice none 0 0, .int .i64 0, .int .i64 0, .int .i64 0, .int .i64 0, .int .i64 0, .int .i64 0, .int .i64 0, .string ⟨#[]⟩, .slice none 0 0]) rfl (AEvs.cons (.tmp rfl) AEvs.nil) (by kernel_rfl) rfl) ?_
  refine AL_step rfl rfl (S_alloc [.int .i64 0, .int .i64 0, .int .u64 0, .string ⟨#[]⟩, .slice none 0 0, .slice none 0 0, .slice none 0 0, .int .i64 0, .int .i64 0, .int .i64 0, .int .i64 0, .int .i64 0, .int .i64 0, .int .i64 0, .string ⟨#[]⟩, .slice none 0 0] rfl (by kernel_rfl)) ?_
  rintro _ _ ⟨b5, rfl, rfl⟩
  refine AL_step rfl rfl (S_storeW 0 rfl (.tmp rfl) ((AEv.tmp rfl).le (z := calAV (cal0 (numR s 0 12).1)) (by exact (Les.agg (.cons (Le.refl _) (.cons (Le.refl _) (.cons (Le.refl _) (.cons (Le.refl _) (.cons (Le.nils) (.cons (Le.nils) (.cons (Le.nils) (.cons (Le.refl _) (.cons (Le.refl _) (.cons (Le.refl _) (.cons (Le.refl _) (.cons (Le.refl _) (.cons (Le.refl _) (.cons (Le.refl _) (.cons (Le.refl _) (.cons (Le.nils) .nil))))))))))))))))))) rfl rfl rfl (by kernel_rfl)) ?_
  rintro _ _ ⟨rfl, rfl⟩
  refine AL_nil ?_
  refine AC_seq ?_
  refine AC_region ?_
  refine AL_p rfl rfl (S_field 0 rfl (.tmp rfl) (by kernel_rfl)) ?_
  refine AL_p rfl rfl (S_load 0 rfl (.tmp rfl) rfl rfl (by kernel_rfl)) ?_
  refine AL_p rfl rfl (S_gcall rfl (AEvs.cons (.tmp rfl) AEvs.nil) ((ask_of_ok (numR s 0 12).1) _ (fun p hp => by repeat (first | exact hG p hp | refine List.mem_cons_of_mem _ ?_ | refine List.mem_append_right _ ?_)))) ?_
  refine AL_p rfl rfl (S_move rfl (.tmp rfl)) ?_
  refine AL_p rfl rfl (S_extract 0 rfl (.tmp rfl) rfl) ?_
  refine AL_p rfl rfl (S_extract 1 rfl (.tmp rfl) rfl) ?_
  refine AL_step rfl rfl (S_alloc [.string ⟨#[]⟩, .string ⟨#[]⟩] rfl (by kernel_rfl)) ?_
  rintro _ _ ⟨b6, rfl, rfl⟩
  refine AL_step rfl rfl (S_storeW 0 rfl (.tmp rfl) (.tmp rfl) rfl rfl rfl (by kernel_rfl)) ?_
  rintro _ _ ⟨rfl, rfl⟩
  refine AL_p rfl rfl (S_assign rfl (.tmp rfl)) ?_
  refine AL_nil ?_
  refine AC_seq ?_
  refine AC_seq ?_
  refine AC_region ?_
  refine AL_p rfl rfl (S_field 1 rfl (.tmp rfl) (by kernel_rfl)) ?_
  refine AL_p rfl rfl (S_load 0 rfl (.tmp rfl) rfl rfl (by kernel_rfl)) ?_
  refine AL_p rfl rfl (S_lenS (ts := #[]) rfl (.tmp rfl) (by kernel_rfl)) ?_
  refine AL_p rfl rfl (S_move rfl (AEv.const _)) ?_
  refine AL_nil ?_
  refine AC_block ?_
  refine AC_loopK (G := Nat) [(2, _), (3, _), (4, _), (5, _), (6, _), (23, _)] (fun g => g ≤ (kindA (numR s 0 12).1.toNat).2.length) (fun g => [(24, .int .i64 (g : Int))]) (fun g => (b6, .cells [.S (kindA (numR s 0 12).1.toNat).1, .S (kindA (numR s 0 12).1.toNat).2]) :: (b5, .cells (calL (rdF ((kindA (numR s 0 12).1.toNat).2.take g) (cal0 (numR s 0 12).1) (numR s 0 12).2.1 (numR s 0 12).2.2).1)) :: (b4, .cells [.S (rdF ((kindA (numR s 0 12).1.toNat).2.take g) (cal0 (numR s 0 12).1) (numR s 0 12).2.1 (numR s 0 12).2.2).2.1, .int .i64 (rdF ((kindA (numR s 0 12).1.toNat).2.take g) (cal0 (numR s 0 12).1) (numR s 0 12).2.1 (numR s 0 12).2.2).2.2]) :: (b2, .cells [.int .i64 0, .int .i64 0, .int .u64 0, .S [], .nils, .nils, .nils, .int .i64 0, .int .i64 0, .int .i64 0, .int .i64 0, .int .i64 0, .int .i64 0, .int .i64 0, .S [], .nils]) :: st) (fun g => (kindA (numR s 0 12).1.toNat).2.length - g) (0) (Nat.zero_le _) (Sub.l (List.Sublist.refl _)) (.cons rfl (Le.refl _) (.cons rfl (Le.refl _) (.cons rfl (Le.refl _) (.cons rfl (Le.refl _) (.cons rfl (Le.refl _) (.cons rfl (Le.refl _) .nil)))))) (.cons rfl (by first | exact Le.refl _ | exact Le.nils | exact Le.row _ _ _ _ | exact Le.of_eq (by first | rfl | (simp; done) | (push_cast; rfl) | (simp; omega))) .nil) ?_
  rintro i hi
  try dsimp only
  simp only [List.cons_append, List.nil_append]
  refine AC_seq ?_
  refine AC_region ?_
  refine AL_p rfl rfl (S_lss rfl (.tmp rfl) (.tmp rfl)) ?_
  refine AL_nil ?_
  refine AC_seq ?_
  refine AC_cond (.tmp rfl) (fun hb4 => ?_) (fun hb4 => ?_)
  · try simp only [zA, zO, zN, zM, zP, zQ, zD, zF, gd] at hb4
    have hil : i < (kindA (numR s 0 12).1.toNat).2.length := by omega
    refine AC_skip ?_
    refine AC_seq ?_
    refine AC_block ?_
    refine AC_seq ?_
    refine AC_region ?_
    refine AL_p rfl rfl (S_move rfl (.tmp rfl)) ?_
    refine AL_p rfl rfl (S_assign rfl (.tmp rfl)) ?_
    refine AL_nil ?_
    refine AC_region ?_
    refine AL_p rfl rfl (S_move rfl (.tmp rfl)) ?_
    refine AL_p rfl rfl (S_field 1 rfl (.tmp rfl) (by kernel_rfl)) ?_
    refine AL_p rfl rfl (S_load 0 rfl (.tmp rfl) rfl rfl (by kernel_rfl)) ?_
    refine AL_p rfl rfl (S_move rfl (.tmp rfl)) ?_
    refine AL_p rfl rfl ((S_index rfl (.tmp rfl) (.tmp rfl) (by kernel_rfl) (by omega) (by omega)).ofV (congrArg _ (atL_get hil))) ?_
    refine AL_step rfl rfl (S_call rfl (AEvs.cons (.tmp rfl) (AEvs.cons (.tmp rfl) (AEvs.cons (.tmp rfl) AEvs.nil))) (ACalls.preQ (pre := [_]) (F := _ :: st) (ask_take_ok b4 b5 (rdF ((kindA (numR s 0 12).1.toNat).2.take i) (cal0 (numR s 0 12).1) (numR s 0 12).2.1 (numR s 0 12).2.2).2.1 (rdF ((kindA (numR s 0 12).1.toNat).2.take i) (cal0 (numR s 0 12).1) (numR s 0 12).2.1 (numR s 0 12).2.2).2.2 (rdF ((kindA (numR s 0 12).1.toNat).2.take i) (cal0 (numR s 0 12).1) (numR s 0 12).2.1 (numR s 0 12).2.2).1 ((kindA (numR s 0 12).1.toNat).2[i]'hil) _))) ?_
    rintro _ _ ⟨_, ⟨rfl, rfl⟩, rfl⟩
    refine AL_nil ?_
    refine AC_region ?_
    refine AL_p rfl rfl (S_addI rfl (.tmp rfl) (AEv.const _) (by omega) (by omega)) ?_
    refine AL_p rfl rfl (S_move rfl (.tmp rfl)) ?_
    refine AL_nil ?_
    refine ⟨i + 1, by omega, by omega, by rw [rdF_take hil]; exact (Sub.l (List.Sublist.refl _)), (.cons rfl (by first | exact Le.refl _ | exact Le.nils | exact Le.row _ _ _ _ | exact Le.of_eq (by first | rfl | (simp; done) | (push_cast; rfl) | (simp; omega))) .nil), (.cons rfl (Le.refl _) (.cons rfl (Le.refl _) (.cons rfl (Le.refl _) (.cons rfl (Le.refl _) (.cons rfl (Le.refl _) (.cons rfl (Le.refl _) .nil))))))⟩
  try simp only [zA, zO, zN, zM, zP, zQ, zD, zF, gd] at hb4
  rw [show (kindA (numR s 0 12).1.toNat).2.take i = (kindA (numR s 0 12).1.toNat).2 from List.take_of_length_le (by omega), ← calRd_at s]
  refine AC_exit ?_
  refine AC_seq ?_
  refine AC_region ?_
  refine AL_p rfl rfl (S_move rfl (.tmp rfl)) ?_
  refine AL_p rfl rfl (S_keep (S_call rfl (AEvs.cons (.tmp rfl) AEvs.nil) (ACalls.preQ (pre := [_, _]) (F := _ :: st) (r_Code_ok b4 _ _ _))) (by rintro _ _ ⟨_, ⟨rfl, rfl⟩, rfl⟩; exact ⟨rfl, rfl⟩)) ?_
  refine AL_p rfl rfl (S_buildSlice (e := 9) 1 rfl (AEvs.cons (AEv.S _) AEvs.nil) rfl (by kernel_rfl) (by kernel_rfl) (by intro y hy; simp only [List.mem_cons, List.not_mem_nil, or_false] at hy; rcases hy with rfl <;> exact ⟨rfl, rfl⟩) (by decide) (by decide) (by decide)) ?_
  refine AL_p rfl rfl (S_pcall rfl (AEvs.cons (.tmp rfl) (AEvs.cons (.tmp rfl) AEvs.nil)) (fail_New_ok (calRd s 0).2.2 [wireN] (by simp))) ?_
  refine AL_p rfl rfl (S_assign rfl (.tmp rfl)) ?_
  refine AL_nil ?_
  refine AC_joinK (G := Unit) [(2, _), (3, _), (4, _), (5, _)] (fun _ => True) (fun _ => [(9, erV 31 143 (wireA s))]) (fun _ => (b6, .cells [.S (kindA (numR s 0 12).1.toNat).1, .S (kindA (numR s 0 12).1.toNat).2]) :: (b5, .cells (calL (calRd s 0).1)) :: (b2, .cells [.int .i64 0, .int .i64 0, .int .u64 0, .S [], .nils, .nils, .nils, .int .i64 0, .int .i64 0, .int .i64 0, .int .i64 0, .int .i64 0, .int .i64 0, .int .i64 0, .S [], .nils]) :: st) (.cons rfl (Le.refl _) (.cons rfl (Le.refl _) (.cons rfl (Le.refl _) (.cons rfl (Le.refl _) .nil)))) ?_ ?_
  · refine AC_seq ?_
    refine AC_region ?_
    refine AL_p rfl rfl (S_move rfl (.tmp rfl)) ?_
    refine AL_p rfl rfl (S_eqlE (er_is 31 143 (erNew (calRd s 0).2.2 [wireN])) rfl (.tmp rfl) (by kernel_rfl)) ?_
    refine AL_p rfl rfl (S_move rfl (.tmp rfl)) ?_
    refine AL_g rfl rfl (.tmp rfl) rfl (fun hg5 => S_field 0 rfl (.tmp rfl) (by kernel_rfl)) ?_
    refine AL_g rfl rfl (.tmp rfl) rfl (fun hg8 => S_load 1 rfl (AEv.cond (.tmp rfl) (by first | assumption | exact gdAnd (by assumption) (by assumption))) rfl rfl (by kernel_rfl)) ?_
    refine AL_g rfl rfl (.tmp rfl) rfl (fun hg11 => S_gtr rfl (AEv.cond (.tmp rfl) (by first | assumption | exact gdAnd (by assumption) (by assumption))) (AEv.const _)) ?_
    refine AL_p rfl rfl (S_and rfl (.tmp rfl) (fun hp14 => (AEv.cond (.tmp rfl) (by first | assumption | exact gdT hp14 | exact gdF hp14 | exact gdAnd (by assumption) (gdT hp14) | exact gdAnd (by assumption) (gdF hp14))))) ?_
    refine AL_nil ?_
    refine AC_cond (.tmp rfl) (fun hb15 => ?_) (fun hb15 => ?_)
    · try simp only [zA, zO, zN, zM, zP, zQ, zD, zF, gd] at hb15
      have hw : wireA s = erNew (endR (calRd s 0).2.1 (calRd s 0).2.2) [wireN] := wire_end hb15.1 hb15.2
      refine AC_region ?_
      refine AL_p rfl rfl (S_move rfl (.tmp rfl)) ?_
      refine AL_step rfl rfl (S_call rfl (AEvs.cons (.tmp rfl) AEvs.nil) (ACalls.preQ (pre := [_, _]) (F := _ :: st) (r_End_ok b4 _ _ _))) ?_
      rintro _ _ ⟨_, ⟨rfl, rfl⟩, rfl⟩
      refine AL_p rfl rfl (S_buildSlice (e := 9) 1 rfl (AEvs.cons (AEv.S _) AEvs.nil) rfl (by kernel_rfl) (by kernel_rfl) (by intro y hy; simp only [List.mem_cons, List.not_mem_nil, or_false] at hy; rcases hy with rfl <;> exact ⟨rfl, rfl⟩) (by decide) (by decide) (by decide)) ?_
      refine AL_p rfl rfl (S_pcall rfl (AEvs.cons (.tmp rfl) (AEvs.cons (.tmp rfl) AEvs.nil)) (fail_New_ok (endR (calRd s 0).2.1 (calRd s 0).2.2) [wireN] (by simp))) ?_
      refine AL_p rfl rfl (S_assign rfl (.tmp rfl)) ?_
      refine AL_nil ?_
      exact ⟨(), trivial, (Sub.l (.cons_cons _ (.cons_cons _ (List.sublist_cons_self _ _)))), (.cons rfl (Le.of_eq (congrArg (erV 31 143) hw.symm)) .nil), (.cons rfl (Le.refl _) (.cons rfl (Le.refl _) (.cons rfl (Le.refl _) (.cons rfl (Le.refl _) .nil))))⟩
    try simp only [zA, zO, zN, zM, zP, zQ, zD, zF, gd] at hb15
    have hw : wireA s = erNew (calRd s 0).2.2 [wireN] := wire_code hb15
    refine AC_skip ?_
    exact ⟨(), trivial, (Sub.l (.cons_cons _ (.cons_cons _ (List.sublist_cons_self _ _)))), (.cons rfl (Le.of_eq (congrArg (erV 31 143) hw.symm)) .nil), (.cons rfl (Le.refl _) (.cons rfl (Le.refl _) (.cons rfl (Le.refl _) (.cons rfl (Le.refl _) .nil))))⟩
  rintro _ _
  try dsimp only
  simp only [List.cons_append, List.nil_append]
  refine AC_seq ?_
  refine AC_seq ?_
  refine AC_region ?_
  refine AL_p rfl rfl (S_move rfl (.tmp rfl)) ?_
  refine AL_p rfl rfl (S_loadN (m := 16) 1 rfl (.tmp rfl) rfl (by kernel_rfl) (by first | exact Nat.le_of_ble_eq_true rfl | (simp; omega) | simp)) ?_
  refine AL_p rfl rfl (S_gcall rfl (AEvs.cons (y := calAV (calRd s 0).1) (.tmp rfl) AEvs.nil) ((ask_Check_ok (calRd s 0).1 (calRd_short s)) _ (fun p hp => by repeat (first | exact hG p hp | refine List.mem_cons_of_mem _ ?_ | refine List.mem_append_right _ ?_)))) ?_
  refine AL_p rfl rfl (S_buildSlice (e := 38) 1 rfl (AEvs.cons (.tmp rfl) (AEvs.cons (.tmp rfl) AEvs.nil)) rfl (by kernel_rfl) (by kernel_rfl) (by intro y hy; simp only [List.mem_cons, List.not_mem_nil, or_false] at hy; rcases hy with rfl | rfl <;> exact ⟨er_flat _ _ _, by rw [er_cells]; rfl⟩) (by decide) (by decide) (by decide)) ?_
  refine AL_p rfl rfl (S_pcall rfl (AEvs.cons (.tmp rfl) AEvs.nil) (fail_First_ok [wireA s, checkA (calRd s 0).1] (by simp))) ?_
  refine AL_p rfl rfl (S_assign rfl (.tmp rfl)) ?_
  refine AL_nil ?_
  refine AC_seq ?_
  refine AC_region ?_
  refine AL_p rfl rfl (S_move rfl (.tmp rfl)) ?_
  refine AL_p rfl rfl (S_neqE (er_is 31 143 (ofAE s)) rfl (.tmp rfl) (by kernel_rfl)) ?_
  refine AL_nil ?_
  refine AC_cond (.tmp rfl) (fun hb16 => ?_) (fun hb16 => ?_)
  · try simp only [zA, zO, zN, zM, zP, zQ, zD, zF, gd] at hb16
    have hx : ofA s = cal0 0 := ofA_some fun h => by rw [h] at hb16; simp at hb16
    refine AC_seq ?_
    refine AC_region ?_
    refine AL_p rfl rfl (S_build (t := 28) (pl := [(0, 1), (1, 1), (2, 1), (3, 7), (10, 1), (11, 1), (12, 1), (13, 1), (14, 1), (15, 1)]) (zs := [.int .i64 0, .int .i64 0, .int .u64 0, .string ⟨#[]⟩, .slice none 0 0, .slice none 0 0, .slice none 0 0, .int .i64 0, .int .i64 0, .int .i64 0, .int .i64 0, .int .i64 0, .int .i64 0, .int .i64 0, .string ⟨#[]⟩, .slice none 0 0]) rfl AEvs.nil (by kernel_rfl) rfl) ?_
    refine AL_p rfl rfl (S_move rfl (.tmp rfl)) ?_
    refine AL_step rfl rfl (S_storeW 2 rfl (.tmp rfl) (.tmp rfl) rfl rfl rfl (by kernel_rfl)) ?_
    rintro _ _ ⟨rfl, rfl⟩
    refine AL_p rfl rfl (S_assign rfl (.tmp rfl)) ?_
    refine AL_nil ?_
    refine AC_ret ?_
    refine ret_outs st rfl (by decide) (OutsR.row 2 rfl rfl (by kernel_rfl) (OutsR.tmp rfl OutsR.nil)) (Sub.l (((List.sublist_cons_self _ _).trans (List.sublist_cons_self _ _)).trans (List.sublist_cons_self _ _))) (Conv.le (Sub.l (((List.sublist_cons_self _ _).trans (List.sublist_cons_self _ _)).trans (List.sublist_cons_self _ _))) (Les.tup (.cons (Les.agg (.cons (Le.refl _) (.cons (Le.refl _) (.cons (Le.refl _) (.cons (Le.refl _) (.cons (Le.nils) (.cons (Le.nils) (.cons (Le.nils) (.cons (Le.refl _) (.cons (Le.refl _) (.cons (Le.refl _) (.cons (Le.refl _) (.cons (Le.refl _) (.cons (Le.refl _) (.cons (Le.refl _) (.cons (Le.refl _) (.cons (Le.nils) .nil))))))))))))))))) (.cons (Le.refl _) .nil)))) ⟨by rw [hx] <;> rfl, rfl⟩ (.inl rfl)
  try simp only [zA, zO, zN, zM, zP, zQ, zD, zF, gd] at hb16
  have hk : ofAE s = none := by simpa using hb16
  have hx : ofA s = (calRd s 0).1 := if_pos hk
  refine AC_skip ?_
  refine AC_seq ?_
  refine AC_region ?_
  refine AL_p rfl rfl (S_loadN (m := 16) 1 rfl (.tmp rfl) rfl (by kernel_rfl) (by first | exact Nat.le_of_ble_eq_true rfl | (simp; omega) | simp)) ?_
  refine AL_step rfl rfl (S_storeW 2 rfl (.tmp rfl) (.tmp rfl) rfl rfl rfl (by kernel_rfl)) ?_
  rintro _ _ ⟨rfl, rfl⟩
  refine AL_p rfl rfl (S_assign rfl (AEv.const _)) ?_
  refine AL_nil ?_
  refine AC_ret ?_
  refine ret_outs st rfl (by decide) (OutsR.row 2 rfl rfl (by kernel_rfl) (OutsR.tmp rfl OutsR.nil)) (Sub.l (((List.sublist_cons_self _ _).trans (List.sublist_cons_self _ _)).trans (List.sublist_cons_self _ _))) (Conv.refl (Sub.l (((List.sublist_cons_self _ _).trans (List.sublist_cons_self _ _)).trans (List.sublist_cons_self _ _))) _) ⟨by rw [hx, hk] <;> rfl, rfl⟩ (.inl rfl)

end Go.Proofs.YtcbnokpgklmndaaGreatDoor

/-
The walks of Go functions in the logic AL: what each of them answers.
Conditions: those of each theorem.
-/
set_option linter.unusedVariables false
set_option linter.unusedSimpArgs false
namespace Go.Proofs.YtcbnokpgklmndaaGreatDoor
open Go.AL Go.NumSpec

set_option maxRecDepth 100000 in
/-- provost/provostbook.SameCall -/
theorem book_SameCall_ok (a b : Cal) (ha : ShortA a) (hb : ShortA b) : PCalls Tryz.prog 15 [calAV a, calAV b] (.bool (sameA a b)) := by
  intro st
  refine ACalls_of (N := 73) Tryz.func15 (by kernel_rfl) rfl rfl rfl ?_
  refine AC_seq ?_
  refine AC_region ?_
  refine AL_step rfl rfl (S_box rfl (.tmp rfl)) ?_
  rintro _ _ ⟨b2, rfl, rfl⟩
  refine AL_step rfl rfl (S_box rfl (.tmp rfl)) ?_
  rintro _ _ ⟨b3, rfl, rfl⟩
  refine AL_p rfl rfl (S_assign rfl (AEv.const _)) ?_
  refine AL_nil ?_
  refine AC_seq ?_
  refine AC_region ?_
  refine AL_p rfl rfl (S_field 0 rfl (.tmp rfl) (by kernel_rfl)) ?_
  refine AL_p rfl rfl (S_load 1 rfl (.tmp rfl) rfl rfl (by kernel_rfl)) ?_
  refine AL_p rfl rfl (S_field 0 rfl (.tmp rfl) (by kernel_rfl)) ?_
  refine AL_p rfl rfl (S_load 0 rfl (.tmp rfl) rfl rfl (by kernel_rfl)) ?_
  refine AL_p rfl rfl (S_eql rfl (.tmp rfl) (.tmp rfl)) ?_
  refine AL_p rfl rfl (S_move rfl (.tmp rfl)) ?_
  refine AL_g rfl rfl (.tmp rfl) rfl (fun hg3 => S_field 1 rfl (.tmp rfl) (by kernel_rfl)) ?_
  refine AL_g rfl rfl (.tmp rfl) rfl (fun hg6 => S_load 1 rfl (AEv.cond (.tmp rfl) (by first | assumption | exact gdAnd (by assumption) (by assumption))) rfl rfl (by kernel_rfl)) ?_
  refine AL_g rfl rfl (.tmp rfl) rfl (fun hg9 => S_field 1 rfl (.tmp rfl) (by kernel_rfl)) ?_
  refine AL_g rfl rfl (.tmp rfl) rfl (fun hg12 => S_load 0 rfl (AEv.cond (.tmp rfl) (by first | assumption | exact gdAnd (by assumption) (by assumption))) rfl rfl (by kernel_rfl)) ?_
  refine AL_g rfl rfl (.tmp rfl) rfl (fun hg15 => S_eql rfl (AEv.cond (.tmp rfl) (by first | assumption | exact gdAnd (by assumption) (by assumption))) (AEv.cond (.tmp rfl) (by first | assumption | exact gdAnd (by assumption) (by assumption)))) ?_
  refine AL_p rfl rfl (S_and rfl (.tmp rfl) (fun hp18 => (AEv.cond (.tmp rfl) (by first | assumption | exact gdT hp18 | exact gdF hp18 | exact gdAnd (by assumption) (gdT hp18) | exact gdAnd (by assumption) (gdF hp18))))) ?_
  refine AL_p rfl rfl (S_move rfl (.tmp rfl)) ?_
  refine AL_g rfl rfl (.tmp rfl) rfl (fun hg19 => S_field 2 rfl (.tmp rfl) (by kernel_rfl)) ?_
  refine AL_g rfl rfl (.tmp rfl) rfl (fun hg22 => S_load 1 rfl (AEv.cond (.tmp rfl) (by first | assumption | exact gdAnd (by assumption) (by assumption))) rfl rfl (by kernel_rfl)) ?_
  refine AL_g rfl rfl (.tmp rfl) rfl (fun hg25 => S_field 2 rfl (.tmp rfl) (by kernel_rfl)) ?_
  refine AL_g rfl rfl (.tmp rfl) rfl (fun hg28 => S_load 0 rfl (AEv.cond (.tmp rfl) (by first | assumption | exact gdAnd (by assumption) (by assumption))) rfl rfl (by kernel_rfl)) ?_
  refine AL_g rfl rfl (.tmp rfl) rfl (fun hg31 => S_eql rfl (AEv.cond (.tmp rfl) (by first | assumption | exact gdAnd (by assumption) (by assumption))) (AEv.cond (.tmp rfl) (by first | assumption | exact gdAnd (by assumption) (by assumption)))) ?_
  refine AL_p rfl rfl (S_and rfl (.tmp rfl) (fun hp34 => (AEv.cond (.tmp rfl) (by first | assumption | exact gdT hp34 | exact gdF hp34 | exact gdAnd (by assumption) (gdT hp34) | exact gdAnd (by assumption) (gdF hp34))))) ?_
  refine AL_p rfl rfl (S_move rfl (.tmp rfl)) ?_
  refine AL_g rfl rfl (.tmp rfl) rfl (fun hg35 => S_field 3 rfl (.tmp rfl) (by kernel_rfl)) ?_
  refine AL_g rfl rfl (.tmp rfl) rfl (fun hg38 => S_loadN (m := 7) 1 rfl (AEv.cond (.tmp rfl) (by first | assumption | exact gdAnd (by assumption) (by assumption))) rfl (by kernel_rfl) (by first | exact Nat.le_of_ble_eq_true rfl | (simp; omega) | simp)) ?_
  refine AL_g rfl rfl (.tmp rfl) rfl (fun hg41 => S_field 3 rfl (.tmp rfl) (by kernel_rfl)) ?_
  refine AL_g rfl rfl (.tmp rfl) rfl (fun hg44 => S_loadN (m := 7) 0 rfl (AEv.cond (.tmp rfl) (by first | assumption | exact gdAnd (by assumption) (by assumption))) rfl (by kernel_rfl) (by first | exact Nat.le_of_ble_eq_true rfl | (simp; omega) | simp)) ?_
  refine AL_g rfl rfl (.tmp rfl) rfl (fun hg47 => S_pcall rfl (AEvs.cons (AEv.cond (.tmp rfl) (by first | assumption | exact gdAnd (by assumption) (by assumption))) (AEvs.cons (AEv.cond (.tmp rfl) (by first | assumption | exact gdAnd (by assumption) (by assumption))) AEvs.nil)) (book_SameSpec_ok a.spec b.spec (light_short ha.1) (light_short hb.1))) ?_
  refine AL_p rfl rfl (S_and rfl (.tmp rfl) (fun hp50 => (AEv.cond (.tmp rfl) (by first | assumption | exact gdT hp50 | exact gdF hp50 | exact gdAnd (by assumption) (gdT hp50) | exact gdAnd (by assumption) (gdF hp50))))) ?_
  refine AL_p rfl rfl (S_move rfl (.tmp rfl)) ?_
  refine AL_g rfl rfl (.tmp rfl) rfl (fun hg51 => S_field 10 rfl (.tmp rfl) (by kernel_rfl)) ?_
  refine AL_g rfl rfl (.tmp rfl) rfl (fun hg54 => S_load 1 rfl (AEv.cond (.tmp rfl) (by first | assumption | exact gdAnd (by assumption) (by assumption))) rfl rfl (by kernel_rfl)) ?_
  refine AL_g rfl rfl (.tmp rfl) rfl (fun hg57 => S_field 10 rfl (.tmp rfl) (by kernel_rfl)) ?_
  refine AL_g rfl rfl (.tmp rfl) rfl (fun hg60 => S_load 0 rfl (AEv.cond (.tmp rfl) (by first | assumption | exact gdAnd (by assumption) (by assumption))) rfl rfl (by kernel_rfl)) ?_
  refine AL_g rfl rfl (.tmp rfl) rfl (fun hg63 => S_eql rfl (AEv.cond (.tmp rfl) (by first | assumption | exact gdAnd (by assumption) (by assumption))) (AEv.cond (.tmp rfl) (by first | assumption | exact gdAnd (by assumption) (by assumption)))) ?_
  refine AL_p rfl rfl (S_and rfl (.tmp rfl) (fun hp66 => (AEv.cond (.tmp rfl) (by first | assumption | exact gdT hp66 | exact gdF hp66 | exact gdAnd (by assumption) (gdT hp66) | exact gdAnd (by assumption) (gdF hp66))))) ?_
  refine AL_p rfl rfl (S_move rfl (.tmp rfl)) ?_
  refine AL_g rfl rfl (.tmp rfl) rfl (fun hg67 => S_field 11 rfl (.tmp rfl) (by kernel_rfl)) ?_
  refine AL_g rfl rfl (.tmp rfl) rfl (fun hg70 => S_load 1 rfl (AEv.cond (.tmp rfl) (by first | assumption | exact gdAnd (by assumption) (by assumption))) rfl rfl (by kernel_rfl)) ?_
  refine AL_g rfl rfl (.tmp rfl) rfl (fun hg73 => S_field 11 rfl (.tmp rfl) (by kernel_rfl)) ?_
  refine AL_g rfl rfl (.tmp rfl) rfl (fun hg76 => S_load 0 rfl (AEv.cond (.tmp rfl) (by first | assumption | exact gdAnd (by assumption) (by assumption))) rfl rfl (by kernel_rfl)) ?_
  refine AL_g rfl rfl (.tmp rfl) rfl (fun hg79 => S_eql rfl (AEv.cond (.tmp rfl) (by first | assumption | exact gdAnd (by assumption) (by assumption))) (AEv.cond (.tmp rfl) (by first | assumption | exact gdAnd (by assumption) (by assumption)))) ?_
  refine AL_p rfl rfl (S_and rfl (.tmp rfl) (fun hp82 => (AEv.cond (.tmp rfl) (by first | assumption | exact gdT hp82 | exact gdF hp82 | exact gdAnd (by assumption) (gdT hp82) | exact gdAnd (by assumption) (gdF hp82))))) ?_
  refine AL_p rfl rfl (S_move rfl (.tmp rfl)) ?_
  refine AL_g rfl rfl (.tmp rfl) rfl (fun hg83 => S_field 12 rfl (.tmp rfl) (by kernel_rfl)) ?_
  refine AL_g rfl rfl (.tmp rfl) rfl (fun hg86 => S_load 1 rfl (AEv.cond (.tmp rfl) (by first | assumption | exact gdAnd (by assumption) (by assumption))) rfl rfl (by kernel_rfl)) ?_
  refine AL_g rfl rfl (.tmp rfl) rfl (fun hg89 => S_field 12 rfl (.tmp rfl) (by kernel_rfl)) ?_
  refine AL_g rfl rfl (.tmp rfl) rfl (fun hg92 => S_load 0 rfl (AEv.cond (.tmp rfl) (by first | assumption | exact gdAnd (by assumption) (by assumption))) rfl rfl (by kernel_rfl)) ?_
  refine AL_g rfl rfl (.tmp rfl) rfl (fun hg95 => S_eql rfl (AEv.cond (.tmp rfl) (by first | assumption | exact gdAnd (by assumption) (by assumption))) (AEv.cond (.tmp rfl) (by first | assumption | exact gdAnd (by assumption) (by assumption)))) ?_
  refine AL_p rfl rfl (S_and rfl (.tmp rfl) (fun hp98 => (AEv.cond (.tmp rfl) (by first | assumption | exact gdT hp98 | exact gdF hp98 | exact gdAnd (by assumption) (gdT hp98) | exact gdAnd (by assumption) (gdF hp98))))) ?_
  refine AL_p rfl rfl (S_move rfl (.tmp rfl)) ?_
  refine AL_g rfl rfl (.tmp rfl) rfl (fun hg99 => S_field 13 rfl (.tmp rfl) (by kernel_rfl)) ?_
  refine AL_g rfl rfl (.tmp rfl) rfl (fun hg102 => S_load 1 rfl (AEv.cond (.tmp rfl) (by first | assumption | exact gdAnd (by assumption) (by assumption))) rfl rfl (by kernel_rfl)) ?_
  refine AL_g rfl rfl (.tmp rfl) rfl (fun hg105 => S_field 13 rfl (.tmp rfl) (by kernel_rfl)) ?_
  refine AL_g rfl rfl (.tmp rfl) rfl (fun hg108 => S_load 0 rfl (AEv.cond (.tmp rfl) (by first | assumption | exact gdAnd (by assumption) (by assumption))) rfl rfl (by kernel_rfl)) ?_
  refine AL_g rfl rfl (.tmp rfl) rfl (fun hg111 => S_eql rfl (AEv.cond (.tmp rfl) (by first | assumption | exact gdAnd (by assumption) (by assumption))) (AEv.cond (.tmp rfl) (by first | assumption | exact gdAnd (by assumption) (by assumption)))) ?_
  refine AL_p rfl rfl (S_and rfl (.tmp rfl) (fun hp114 => (AEv.cond (.tmp rfl) (by first | assumption | exact gdT hp114 | exact gdF hp114 | exact gdAnd (by assumption) (gdT hp114) | exact gdAnd (by assumption) (gdF hp114))))) ?_
  refine AL_p rfl rfl (S_move rfl (.tmp rfl)) ?_
  refine AL_g rfl rfl (.tmp rfl) rfl (fun hg115 => S_field 14 rfl (.tmp rfl) (by kernel_rfl)) ?_
  refine AL_g rfl rfl (.tmp rfl) rfl (fun hg118 => S_load 1 rfl (AEv.cond (.tmp rfl) (by first | assumption | exact gdAnd (by assumption) (by assumption))) rfl rfl (by kernel_rfl)) ?_
  refine AL_g rfl rfl (.tmp rfl) rfl (fun hg121 => S_field 14 rfl (.tmp rfl) (by kernel_rfl)) ?_
  refine AL_g rfl rfl (.tmp rfl) rfl (fun hg124 => S_load 0 rfl (AEv.cond (.tmp rfl) (by first | assumption | exact gdAnd (by assumption) (by assumption))) rfl rfl (by kernel_rfl)) ?_
  refine AL_g rfl rfl (.tmp rfl) rfl (fun hg127 => S_eqS rfl (AEv.cond (.tmp rfl) (by first | assumption | exact gdAnd (by assumption) (by assumption))) (AEv.cond (.tmp rfl) (by first | assumption | exact gdAnd (by assumption) (by assumption)))) ?_
  refine AL_p rfl rfl (S_and rfl (.tmp rfl) (fun hp130 => (AEv.cond (.tmp rfl) (by first | assumption | exact gdT hp130 | exact gdF hp130 | exact gdAnd (by assumption) (gdT hp130) | exact gdAnd (by assumption) (gdF hp130))))) ?_
  refine AL_p rfl rfl (S_move rfl (.tmp rfl)) ?_
  refine AL_g rfl rfl (.tmp rfl) rfl (fun hg131 => S_field 15 rfl (.tmp rfl) (by kernel_rfl)) ?_
  refine AL_g rfl rfl (.tmp rfl) rfl (fun hg134 => S_load 1 rfl (AEv.cond (.tmp rfl) (by first | assumption | exact gdAnd (by assumption) (by assumption))) rfl rfl (by kernel_rfl)) ?_
  refine AL_g rfl rfl (.tmp rfl) rfl (fun hg137 => S_field 15 rfl (.tmp rfl) (by kernel_rfl)) ?_
  refine AL_g rfl rfl (.tmp rfl) rfl (fun hg140 => S_load 0 rfl (AEv.cond (.tmp rfl) (by first | assumption | exact gdAnd (by assumption) (by assumption))) rfl rfl (by kernel_rfl)) ?_
  refine AL_g rfl rfl (.tmp rfl) rfl (fun hg143 => S_pcall rfl (AEvs.cons (AEv.cond (.tmp rfl) (by first | assumption | exact gdAnd (by assumption) (by assumption))) (AEvs.cons (AEv.cond (.tmp rfl) (by first | assumption | exact gdAnd (by assumption) (by assumption))) AEvs.nil)) (book_SameLabels_ok a.sel b.sel ha.2.1 hb.2.1)) ?_
  refine AL_p rfl rfl (S_and rfl (.tmp rfl) (fun hp146 => (AEv.cond (.tmp rfl) (by first | assumption | exact gdT hp146 | exact gdF hp146 | exact gdAnd (by assumption) (gdT hp146) | exact gdAnd (by assumption) (gdF hp146))))) ?_
  refine AL_p rfl rfl (S_assign rfl (.tmp rfl)) ?_
  refine AL_nil ?_
  refine AC_ret ?_
  refine ret_tmp st rfl rfl (Sub.l ((List.sublist_cons_self _ _).trans (List.sublist_cons_self _ _))) (Conv.refl (Sub.l ((List.sublist_cons_self _ _).trans (List.sublist_cons_self _ _))) _) ⟨congrArg AV.bool (by simp only [sameA, Int.ofNat_inj]), rfl⟩ (.inl rfl)

set_option maxRecDepth 100000 in
/-- provost/provostlaw08.light -/
theorem law08_light_ok (x : Cal) : PCalls Tryz.prog 8 [calAV x] (.bool (lightA x)) := by
  intro st
  refine ACalls_of (N := 18) Tryz.func8 (by kernel_rfl) rfl rfl rfl ?_
  refine AC_seq ?_
  refine AC_region ?_
  refine AL_step rfl rfl (S_box rfl (.tmp rfl)) ?_
  rintro _ _ ⟨b1, rfl, rfl⟩
  refine AL_p rfl rfl (S_assign rfl (AEv.const _)) ?_
  refine AL_nil ?_
  refine AC_seq ?_
  refine AC_region ?_
  refine AL_p rfl rfl (S_field 3 rfl (.tmp rfl) (by kernel_rfl)) ?_
  refine AL_p rfl rfl (S_loadN (m := 7) 0 rfl (.tmp rfl) rfl (by kernel_rfl) (by first | exact Nat.le_of_ble_eq_true rfl | (simp; omega) | simp)) ?_
  refine AL_p rfl rfl (S_pcall rfl (AEvs.cons (.tmp rfl) AEvs.nil) (book_LightSpec_ok x.spec)) ?_
  refine AL_p rfl rfl (S_move rfl (.tmp rfl)) ?_
  refine AL_g rfl rfl (.tmp rfl) rfl (fun hg2 => S_field 15 rfl (.tmp rfl) (by kernel_rfl)) ?_
  refine AL_g rfl rfl (.tmp rfl) rfl (fun hg5 => S_load 0 rfl (AEv.cond (.tmp rfl) (by first | assumption | exact gdAnd (by assumption) (by assumption))) rfl rfl (by kernel_rfl)) ?_
  refine AL_g rfl rfl (.tmp rfl) rfl (fun hg8 => S_build (t := 26) (pl := [(0, 1), (1, 1), (2, 1), (3, 1), (4, 1), (5, 1), (6, 1)]) (zs := [.string ⟨#[]⟩, .slice none 0 0, .slice none 0 0, .slice none 0 0, .int .i64 0, .int .i64 0, .int .i64 0]) rfl (AEvs.cons (AEv.cond (.tmp rfl) (by first | assumption | exact gdAnd (by assumption) (by assumption))) AEvs.nil) (by kernel_rfl) rfl) ?_
  refine AL_g rfl rfl (.tmp rfl) rfl (fun hg11 => S_pcall rfl (AEvs.cons (y := spcAV (onlyL x.sel)) ((AEv.cond (.tmp rfl) (by first | assumption | exact gdAnd (by assumption) (by assumption))).le (by exact (Les.agg (.cons (Le.refl _) (.cons (Le.refl _) (.cons Le.nils (.cons Le.nils (.cons (Le.refl _) (.cons (Le.refl _) (.cons (Le.refl _) .nil)))))))))) AEvs.nil) (book_LightSpec_ok (onlyL x.sel))) ?_
  refine AL_p rfl rfl (S_and rfl (.tmp rfl) (fun hp14 => (AEv.cond (.tmp rfl) (by first | assumption | exact gdT hp14 | exact gdF hp14 | exact gdAnd (by assumption) (gdT hp14) | exact gdAnd (by assumption) (gdF hp14))))) ?_
  refine AL_p rfl rfl (S_move rfl (.tmp rfl)) ?_
  refine AL_g rfl rfl (.tmp rfl) rfl (fun hg15 => S_field 14 rfl (.tmp rfl) (by kernel_rfl)) ?_
  refine AL_g rfl rfl (.tmp rfl) rfl (fun hg18 => S_load 0 rfl (AEv.cond (.tmp rfl) (by first | assumption | exact gdAnd (by assumption) (by assumption))) rfl rfl (by kernel_rfl)) ?_
  refine AL_g rfl rfl (.tmp rfl) rfl (fun hg21 => S_lenS (ts := #[]) rfl (AEv.cond (.tmp rfl) (by first | assumption | exact gdAnd (by assumption) (by assumption))) (by kernel_rfl)) ?_
  refine AL_g rfl rfl (.tmp rfl) rfl (fun hg24 => S_lss rfl (AEv.cond (.tmp rfl) (by first | assumption | exact gdAnd (by assumption) (by assumption))) (AEv.const _)) ?_
  refine AL_p rfl rfl (S_and rfl (.tmp rfl) (fun hp27 => (AEv.cond (.tmp rfl) (by first | assumption | exact gdT hp27 | exact gdF hp27 | exact gdAnd (by assumption) (gdT hp27) | exact gdAnd (by assumption) (gdF hp27))))) ?_
  refine AL_p rfl rfl (S_assign rfl (.tmp rfl)) ?_
  refine AL_nil ?_
  refine AC_ret ?_
  refine ret_tmp st rfl rfl (Sub.l (List.sublist_cons_self _ _)) (Conv.refl (Sub.l (List.sublist_cons_self _ _)) _) ⟨rfl, rfl⟩ (.inl rfl)

set_option maxRecDepth 100000 in
/-- provost/provostlaw08.works -/
theorem law08_works_ok : GCalls Tryz.prog tabs 9 [] (.bool true) := by
  intro st hG
  refine ACalls_of (N := 49) Tryz.func9 (by kernel_rfl) rfl rfl rfl ?_
  refine AC_seq ?_
  refine AC_region ?_
  refine AL_p rfl rfl (S_assign rfl (AEv.const _)) ?_
  refine AL_nil ?_
  refine AC_seq ?_
  refine AC_region ?_
  refine AL_p rfl rfl (S_build (t := 28) (pl := [(0, 1), (1, 1), (2, 1), (3, 7), (10, 1), (11, 1), (12, 1), (13, 1), (14, 1), (15, 1)]) (zs := [.int .i64 0, .int .i64 0, .int .u64 0, .string ⟨#[]⟩, .slice none 0 0, .slice none 0 0, .slice none 0 0, .int .i64 0, .int .i64 0, .int .i64 0, .int .i64 0, .int .i64 0, .int .i64 0, .int .i64 0, .string ⟨#[]⟩, .slice none 0 0]) rfl (AEvs.cons (AEv.const _) (AEvs.cons (AEv.const _) AEvs.nil)) (by kernel_rfl) rfl) ?_
  refine AL_p rfl rfl (S_gcall rfl (AEvs.cons (y := calAV wA) ((AEv.tmp rfl).le (by exact (Les.agg (.cons (Le.refl _) (.cons (Le.refl _) (.cons (Le.refl _) (.cons (Le.refl _) (.cons (Le.nils) (.cons (Le.nils) (.cons (Le.nils) (.cons (Le.refl _) (.cons (Le.refl _) (.cons (Le.refl _) (.cons (Le.refl _) (.cons (Le.refl _) (.cons (Le.refl _) (.cons (Le.refl _) (.cons (Le.refl _) (.cons (Le.nils) .nil))))))))))))))))))) AEvs.nil) ((GCalls.of_eq (ask_Bytes_ok wA wA_short (by decide)) wA_bytes) _ (fun p hp => by repeat (first | exact hG p hp | refine List.mem_cons_of_mem _ ?_ | refine List.mem_append_right _ ?_)))) ?_
  refine AL_p rfl rfl (S_move rfl (.tmp rfl)) ?_
  refine AL_p rfl rfl (S_extract 0 rfl (.tmp rfl) rfl) ?_
  refine AL_p rfl rfl (S_extract 1 rfl (.tmp rfl) rfl) ?_
  refine AL_p rfl rfl (S_assign rfl (.tmp rfl)) ?_
  refine AL_p rfl rfl (S_assign rfl (.tmp rfl)) ?_
  refine AL_nil ?_
  refine AC_seq ?_
  refine AC_region ?_
  refine AL_p rfl rfl (S_gcall rfl (AEvs.cons (AEv.S _) AEvs.nil) ((GCalls.of_eq (ask_Of_ok [12, 5]) (congrArg (fun x : Cal × Er => AV.tup [calAV x.1, erV 31 143 x.2]) (show (ofA [12, 5], ofAE [12, 5]) = (wA, none) from wA_of))) _ (fun p hp => by repeat (first | exact hG p hp | refine List.mem_cons_of_mem _ ?_ | refine List.mem_append_right _ ?_)))) ?_
  refine AL_p rfl rfl (S_move rfl (.tmp rfl)) ?_
  refine AL_p rfl rfl (S_extract 0 rfl (.tmp rfl) rfl) ?_
  refine AL_p rfl rfl (S_extract 1 rfl (.tmp rfl) rfl) ?_
  refine AL_step rfl rfl (S_alloc [.int .i64 0, .int .i64 0, .int .u64 0, .string ⟨#[]⟩, .slice none 0 0, .slice none 0 0, .slice none 0 0, .int .i64 0, .int .i64 0, .int .i64 0, .int .i64 0, .int .i64 0, .int .i64 0, .int .i64 0, .string ⟨#[]⟩, .slice none 0 0] rfl (by kernel_rfl)) ?_
  rintro _ _ ⟨b3, rfl, rfl⟩
  refine AL_step rfl rfl (S_storeW 0 rfl (.tmp rfl) (.tmp rfl) rfl rfl rfl (by kernel_rfl)) ?_
  rintro _ _ ⟨rfl, rfl⟩
  refine AL_p rfl rfl (S_assign rfl (.tmp rfl)) ?_
  refine AL_nil ?_
  refine AC_seq ?_
  refine AC_region ?_
  refine AL_p rfl rfl (S_gcall rfl (AEvs.cons (AEv.S _) AEvs.nil) ((GCalls.of_eq (ask_Of_ok [0]) (congrArg (fun x : Cal × Er => AV.tup [calAV x.1, erV 31 143 x.2]) (show (ofA [0], ofAE [0]) = (cal0 0, (some (80, [kindN]))) from zero_of))) _ (fun p hp => by repeat (first | exact hG p hp | refine List.mem_cons_of_mem _ ?_ | refine List.mem_append_right _ ?_)))) ?_
  refine AL_p rfl rfl (S_move rfl (.tmp rfl)) ?_
  refine AL_p rfl rfl (S_extract 0 rfl (.tmp rfl) rfl) ?_
  refine AL_p rfl rfl (S_extract 1 rfl (.tmp rfl) rfl) ?_
  refine AL_step rfl rfl (S_alloc [.int .i64 0, .int .i64 0, .int .u64 0, .string ⟨#[]⟩, .slice none 0 0, .slice none 0 0, .slice none 0 0, .int .i64 0, .int .i64 0, .int .i64 0, .int .i64 0, .int .i64 0, .int .i64 0, .int .i64 0, .string ⟨#[]⟩, .slice none 0 0] rfl (by kernel_rfl)) ?_
  rintro _ _ ⟨b5, rfl, rfl⟩
  refine AL_step rfl rfl (S_storeW 0 rfl (.tmp rfl) (.tmp rfl) rfl rfl rfl (by kernel_rfl)) ?_
  rintro _ _ ⟨rfl, rfl⟩
  refine AL_p rfl rfl (S_assign rfl (.tmp rfl)) ?_
  refine AL_nil ?_
  refine AC_seq ?_
  refine AC_region ?_
  refine AL_p rfl rfl (S_move rfl (.tmp rfl)) ?_
  refine AL_p rfl rfl (S_eqS rfl (.tmp rfl) (AEv.S _)) ?_
  refine AL_p rfl rfl (S_move rfl (.tmp rfl)) ?_
  refine AL_g rfl rfl (.tmp rfl) rfl (fun hg3 => S_move rfl (.tmp rfl)) ?_
  refine AL_g rfl rfl (.tmp rfl) rfl (fun hg6 => S_eql rfl (AEv.cond (.tmp rfl) (by first | assumption | exact gdAnd (by assumption) (by assumption))) (AEv.const _)) ?_
  refine AL_p rfl rfl (S_and rfl (.tmp rfl) (fun hp9 => (AEv.cond (.tmp rfl) (by first | assumption | exact gdT hp9 | exact gdF hp9 | exact gdAnd (by assumption) (gdT hp9) | exact gdAnd (by assumption) (gdF hp9))))) ?_
  refine AL_p rfl rfl (S_move rfl (.tmp rfl)) ?_
  refine AL_g rfl rfl (.tmp rfl) rfl (fun hg10 => S_move rfl (.tmp rfl)) ?_
  refine AL_g rfl rfl (.tmp rfl) rfl (fun hg13 => S_eqlE (er_is 31 143 (none)) rfl (AEv.cond (.tmp rfl) (by first | assumption | exact gdAnd (by assumption) (by assumption))) (by kernel_rfl)) ?_
  refine AL_p rfl rfl (S_and rfl (.tmp rfl) (fun hp16 => (AEv.cond (.tmp rfl) (by first | assumption | exact gdT hp16 | exact gdF hp16 | exact gdAnd (by assumption) (gdT hp16) | exact gdAnd (by assumption) (gdF hp16))))) ?_
  refine AL_p rfl rfl (S_move rfl (.tmp rfl)) ?_
  refine AL_g rfl rfl (.tmp rfl) rfl (fun hg17 => S_field 0 rfl (.tmp rfl) (by kernel_rfl)) ?_
  refine AL_g rfl rfl (.tmp rfl) rfl (fun hg20 => S_load 1 rfl (AEv.cond (.tmp rfl) (by first | assumption | exact gdAnd (by assumption) (by assumption))) rfl rfl (by kernel_rfl)) ?_
  refine AL_g rfl rfl (.tmp rfl) rfl (fun hg23 => S_eql rfl (AEv.cond (.tmp rfl) (by first | assumption | exact gdAnd (by assumption) (by assumption))) (AEv.const _)) ?_
  refine AL_p rfl rfl (S_and rfl (.tmp rfl) (fun hp26 => (AEv.cond (.tmp rfl) (by first | assumption | exact gdT hp26 | exact gdF hp26 | exact gdAnd (by assumption) (gdT hp26) | exact gdAnd (by assumption) (gdF hp26))))) ?_
  refine AL_p rfl rfl (S_move rfl (.tmp rfl)) ?_
  refine AL_g rfl rfl (.tmp rfl) rfl (fun hg27 => S_field 12 rfl (.tmp rfl) (by kernel_rfl)) ?_
  refine AL_g rfl rfl (.tmp rfl) rfl (fun hg30 => S_load 1 rfl (AEv.cond (.tmp rfl) (by first | assumption | exact gdAnd (by assumption) (by assumption))) rfl rfl (by kernel_rfl)) ?_
  refine AL_g rfl rfl (.tmp rfl) rfl (fun hg33 => S_eql rfl (AEv.cond (.tmp rfl) (by first | assumption | exact gdAnd (by assumption) (by assumption))) (AEv.const _)) ?_
  refine AL_p rfl rfl (S_and rfl (.tmp rfl) (fun hp36 => (AEv.cond (.tmp rfl) (by first | assumption | exact gdT hp36 | exact gdF hp36 | exact gdAnd (by assumption) (gdT hp36) | exact gdAnd (by assumption) (gdF hp36))))) ?_
  refine AL_p rfl rfl (S_move rfl (.tmp rfl)) ?_
  refine AL_g rfl rfl (.tmp rfl) rfl (fun hg37 => S_move rfl (.tmp rfl)) ?_
  refine AL_g rfl rfl (.tmp rfl) rfl (fun hg40 => S_gcall rfl (AEvs.cons (AEv.cond (.tmp rfl) (by first | assumption | exact gdAnd (by assumption) (by assumption))) AEvs.nil) ((fail_Code_ok (some (80, [kindN]))) _ (fun p hp => by repeat (first | exact hG p hp | refine List.mem_cons_of_mem _ ?_ | refine List.mem_append_right _ ?_)))) ?_
  refine AL_g rfl rfl (.tmp rfl) rfl (fun hg43 => S_eql rfl (AEv.cond (.tmp rfl) (by first | assumption | exact gdAnd (by assumption) (by assumption))) (AEv.const _)) ?_
  refine AL_p rfl rfl (S_and rfl (.tmp rfl) (fun hp46 => (AEv.cond (.tmp rfl) (by first | assumption | exact gdT hp46 | exact gdF hp46 | exact gdAnd (by assumption) (gdT hp46) | exact gdAnd (by assumption) (gdF hp46))))) ?_
  refine AL_p rfl rfl (S_move rfl (.tmp rfl)) ?_
  refine AL_g rfl rfl (.tmp rfl) rfl (fun hg47 => S_gcall rfl (AEvs.cons (AEv.const _) AEvs.nil) ((ask_Name_ok 1) _ (fun p hp => by repeat (first | exact hG p hp | refine List.mem_cons_of_mem _ ?_ | refine List.mem_append_right _ ?_)))) ?_
  refine AL_g rfl rfl (.tmp rfl) rfl (fun hg50 => S_eqS rfl (AEv.cond (.tmp rfl) (by first | assumption | exact gdAnd (by assumption) (by assumption))) (AEv.S _)) ?_
  refine AL_p rfl rfl (S_and rfl (.tmp rfl) (fun hp53 => (AEv.cond (.tmp rfl) (by first | assumption | exact gdT hp53 | exact gdF hp53 | exact gdAnd (by assumption) (gdT hp53) | exact gdAnd (by assumption) (gdF hp53))))) ?_
  refine AL_p rfl rfl (S_assign rfl (.tmp rfl)) ?_
  refine AL_nil ?_
  refine AC_ret ?_
  refine ret_tmp st rfl rfl (Sub.l ((List.sublist_cons_self _ _).trans (List.sublist_cons_self _ _))) (Conv.refl (Sub.l ((List.sublist_cons_self _ _).trans (List.sublist_cons_self _ _))) _) ⟨rfl, rfl⟩ (.inl rfl)

set_option maxRecDepth 100000 in
/-- provost/provostlaw08.AskBack -/
theorem law_AskBack (x : Cal) (hu : x.rev < 18446744073709551616) (t : List UInt8) : GCalls Tryz.prog tabs 4 [calAV x, .S t] (.bool true) := by
  intro st hG
  refine ACalls_of (N := 83) Tryz.func4 (by kernel_rfl) rfl rfl rfl ?_
  refine AC_seq ?_
  refine AC_region ?_
  refine AL_step rfl rfl (S_box rfl (.tmp rfl)) ?_
  rintro _ _ ⟨b2, rfl, rfl⟩
  refine AL_p rfl rfl (S_assign rfl (AEv.const _)) ?_
  refine AL_nil ?_
  refine AC_seq ?_
  refine AC_seq ?_
  refine AC_region ?_
  refine AL_p rfl rfl (S_gcall rfl AEvs.nil ((law08_works_ok) _ (fun p hp => by repeat (first | exact hG p hp | refine List.mem_cons_of_mem _ ?_ | refine List.mem_append_right _ ?_)))) ?_
  refine AL_p rfl rfl (S_not rfl (.tmp rfl)) ?_
  refine AL_nil ?_
  refine AC_cond (.tmp rfl) (fun hb2 => ?_) (fun hb2 => ?_)
  · simp at hb2; done
  try simp only [zA, zO, zN, zM, zP, zQ, zD, zF, gd] at hb2
  refine AC_skip ?_
  refine AC_seq ?_
  refine AC_seq ?_
  refine AC_region ?_
  refine AL_p rfl rfl (S_loadN (m := 16) 0 rfl (.tmp rfl) rfl (by kernel_rfl) (by first | exact Nat.le_of_ble_eq_true rfl | (simp; omega) | simp)) ?_
  refine AL_p rfl rfl (S_pcall rfl (AEvs.cons (.tmp rfl) AEvs.nil) (law08_light_ok x)) ?_
  refine AL_p rfl rfl (S_not rfl (.tmp rfl)) ?_
  refine AL_p rfl rfl (S_move rfl (.tmp rfl)) ?_
  refine AL_g rfl rfl (.tmp rfl) rfl (fun hg3 => S_move rfl (.tmp rfl)) ?_
  refine AL_g rfl rfl (.tmp rfl) rfl (fun hg6 => S_lenS (ts := #[]) rfl (AEv.cond (.tmp rfl) (by first | assumption | exact gdAnd (by assumption) (by assumption))) (by kernel_rfl)) ?_
  refine AL_g rfl rfl (.tmp rfl) rfl (fun hg9 => S_gtr rfl (AEv.cond (.tmp rfl) (by first | assumption | exact gdAnd (by assumption) (by assumption))) (AEv.const _)) ?_
  refine AL_p rfl rfl (S_or rfl (.tmp rfl) (fun hp12 => (AEv.cond (.tmp rfl) (by first | assumption | exact gdT hp12 | exact gdF hp12 | exact gdAnd (by assumption) (gdT hp12) | exact gdAnd (by assumption) (gdF hp12))))) ?_
  refine AL_nil ?_
  refine AC_cond (.tmp rfl) (fun hb13 => ?_) (fun hb13 => ?_)
  · try simp only [zA, zO, zN, zM, zP, zQ, zD, zF, gd] at hb13
    refine AC_seq ?_
    refine AC_region ?_
    refine AL_p rfl rfl (S_assign rfl (AEv.const _)) ?_
    refine AL_nil ?_
    refine AC_ret ?_
    refine ret_tmp st rfl rfl (Sub.l (List.sublist_cons_self _ _)) (Conv.refl (Sub.l (List.sublist_cons_self _ _)) _) ⟨rfl, rfl⟩ (.inl rfl)
  try simp only [zA, zO, zN, zM, zP, zQ, zD, zF, gd] at hb13
  have hl : lightA x = true := by simpa using hb13.1
  have hsx := lightA_short hl
  refine AC_skip ?_
  refine AC_seq ?_
  refine AC_region ?_
  refine AL_p rfl rfl (S_loadN (m := 16) 0 rfl (.tmp rfl) rfl (by kernel_rfl) (by first | exact Nat.le_of_ble_eq_true rfl | (simp; omega) | simp)) ?_
  refine AL_p rfl rfl (S_gcall rfl (AEvs.cons (.tmp rfl) AEvs.nil) ((ask_Bytes_ok x hsx hu) _ (fun p hp => by repeat (first | exact hG p hp | refine List.mem_cons_of_mem _ ?_ | refine List.mem_append_right _ ?_)))) ?_
  refine AL_p rfl rfl (S_move rfl (.tmp rfl)) ?_
  refine AL_p rfl rfl (S_extract 0 rfl (.tmp rfl) rfl) ?_
  refine AL_p rfl rfl (S_extract 1 rfl (.tmp rfl) rfl) ?_
  refine AL_p rfl rfl (S_assign rfl (.tmp rfl)) ?_
  refine AL_p rfl rfl (S_assign rfl (.tmp rfl)) ?_
  refine AL_nil ?_
  refine AC_seq ?_
  refine AC_seq ?_
  refine AC_region ?_
  refine AL_p rfl rfl (S_move rfl (.tmp rfl)) ?_
  refine AL_p rfl rfl (S_eql rfl (.tmp rfl) (AEv.const _)) ?_
  refine AL_p rfl rfl (S_loadN (m := 16) 0 rfl (.tmp rfl) rfl (by kernel_rfl) (by first | exact Nat.le_of_ble_eq_true rfl | (simp; omega) | simp)) ?_
  refine AL_p rfl rfl (S_gcall rfl (AEvs.cons (.tmp rfl) AEvs.nil) ((ask_Check_ok x hsx) _ (fun p hp => by repeat (first | exact hG p hp | refine List.mem_cons_of_mem _ ?_ | refine List.mem_append_right _ ?_)))) ?_
  refine AL_p rfl rfl (S_eqlE (er_is 31 143 ((checkA x))) rfl (.tmp rfl) (by kernel_rfl)) ?_
  refine AL_p rfl rfl (S_neB rfl (.tmp rfl) (.tmp rfl) (by kernel_rfl)) ?_
  refine AL_p rfl rfl (S_move rfl (.tmp rfl)) ?_
  refine AL_g rfl rfl (.tmp rfl) rfl (fun hg14 => S_move rfl (.tmp rfl)) ?_
  refine AL_g rfl rfl (.tmp rfl) rfl (fun hg17 => S_eql rfl (AEv.cond (.tmp rfl) (by first | assumption | exact gdAnd (by assumption) (by assumption))) (AEv.const _)) ?_
  refine AL_g rfl rfl (.tmp rfl) rfl (fun hg20 => S_move rfl (.tmp rfl)) ?_
  refine AL_g rfl rfl (.tmp rfl) rfl (fun hg23 => S_neS rfl (AEv.cond (.tmp rfl) (by first | assumption | exact gdAnd (by assumption) (by assumption))) (AEv.S _)) ?_
  refine AL_g rfl rfl (.tmp rfl) rfl (fun hg26 => S_neB rfl (AEv.cond (.tmp rfl) (by first | assumption | exact gdAnd (by assumption) (by assumption))) (AEv.cond (.tmp rfl) (by first | assumption | exact gdAnd (by assumption) (by assumption))) (by kernel_rfl)) ?_
  refine AL_p rfl rfl (S_or rfl (.tmp rfl) (fun hp29 => (AEv.cond (.tmp rfl) (by first | assumption | exact gdT hp29 | exact gdF hp29 | exact gdAnd (by assumption) (gdT hp29) | exact gdAnd (by assumption) (gdF hp29))))) ?_
  refine AL_nil ?_
  refine AC_cond (.tmp rfl) (fun hb30 => ?_) (fun hb30 => ?_)
  · exfalso; (try simp only [zA, zO, zN, zM, zP, zQ, zD, zF, gd] at hb30); exact ask_six hb30
  try simp only [zA, zO, zN, zM, zP, zQ, zD, zF, gd] at hb30
  refine AC_skip ?_
  refine AC_joinK (G := Unit) [(1, _), (2, _), (5, _), (6, _)] (fun _ => True) (fun _ => []) (fun _ => (b2, .cells (calL x)) :: st) (.cons rfl (Le.refl _) (.cons rfl (Le.refl _) (.cons rfl (Le.refl _) (.cons rfl (Le.refl _) .nil)))) ?_ ?_
  · refine AC_seq ?_
    refine AC_region ?_
    refine AL_p rfl rfl (S_move rfl (.tmp rfl)) ?_
    refine AL_p rfl rfl (S_eql rfl (.tmp rfl) (AEv.const _)) ?_
    refine AL_nil ?_
    refine AC_cond (.tmp rfl) (fun hb31 => ?_) (fun hb31 => ?_)
    · try simp only [zA, zO, zN, zM, zP, zQ, zD, zF, gd] at hb31
      have hk : checkA x = none := check_code hb31
      refine AC_seq ?_
      refine AC_region ?_
      refine AL_p rfl rfl (S_move rfl (.tmp rfl)) ?_
      refine AL_p rfl rfl (S_gcall rfl (AEvs.cons (.tmp rfl) AEvs.nil) ((GCalls.of_eq (ask_Of_ok (if (checkA x) = none then calB x else [])) (congrArg (fun x : Cal × Er => AV.tup [calAV x.1, erV 31 143 x.2]) (show (ofA (if (checkA x) = none then calB x else []), ofAE (if (checkA x) = none then calB x else [])) = (x, none) from (by rw [if_pos hk, (askOf_bytes hu hk).1, (askOf_bytes hu hk).2])))) _ (fun p hp => by repeat (first | exact hG p hp | refine List.mem_cons_of_mem _ ?_ | refine List.mem_append_right _ ?_)))) ?_
      refine AL_p rfl rfl (S_move rfl (.tmp rfl)) ?_
      refine AL_p rfl rfl (S_extract 0 rfl (.tmp rfl) rfl) ?_
      refine AL_p rfl rfl (S_extract 1 rfl (.tmp rfl) rfl) ?_
      refine AL_step rfl rfl (S_alloc [.int .i64 0, .int .i64 0, .int .u64 0, .string ⟨#[]⟩, .slice none 0 0, .slice none 0 0, .slice none 0 0, .int .i64 0, .int .i64 0, .int .i64 0, .int .i64 0, .int .i64 0, .int .i64 0, .int .i64 0, .string ⟨#[]⟩, .slice none 0 0] rfl (by kernel_rfl)) ?_
      rintro _ _ ⟨b7, rfl, rfl⟩
      refine AL_step rfl rfl (S_storeW 0 rfl (.tmp rfl) (.tmp rfl) rfl rfl rfl (by kernel_rfl)) ?_
      rintro _ _ ⟨rfl, rfl⟩
      refine AL_p rfl rfl (S_assign rfl (.tmp rfl)) ?_
      refine AL_nil ?_
      refine AC_seq ?_
      refine AC_region ?_
      refine AL_p rfl rfl (S_move rfl (.tmp rfl)) ?_
      refine AL_p rfl rfl (S_neqE (er_is 31 143 (none)) rfl (.tmp rfl) (by kernel_rfl)) ?_
      refine AL_p rfl rfl (S_move rfl (.tmp rfl)) ?_
      refine AL_g rfl rfl (.tmp rfl) rfl (fun hg33 => S_loadN (m := 16) 1 rfl (.tmp rfl) rfl (by kernel_rfl) (by first | exact Nat.le_of_ble_eq_true rfl | (simp; omega) | simp)) ?_
      refine AL_g rfl rfl (.tmp rfl) rfl (fun hg36 => S_loadN (m := 16) 0 rfl (.tmp rfl) rfl (by kernel_rfl) (by first | exact Nat.le_of_ble_eq_true rfl | (simp; omega) | simp)) ?_
      refine AL_g rfl rfl (.tmp rfl) rfl (fun hg39 => S_pcall rfl (AEvs.cons (AEv.cond (.tmp rfl) (by first | assumption | exact gdAnd (by assumption) (by assumption))) (AEvs.cons (AEv.cond (.tmp rfl) (by first | assumption | exact gdAnd (by assumption) (by assumption))) AEvs.nil)) (book_SameCall_ok x x hsx hsx)) ?_
      refine AL_g rfl rfl (.tmp rfl) rfl (fun hg42 => S_not rfl (AEv.cond (.tmp rfl) (by first | assumption | exact gdAnd (by assumption) (by assumption)))) ?_
      refine AL_p rfl rfl (S_or rfl (.tmp rfl) (fun hp45 => (AEv.cond (.tmp rfl) (by first | assumption | exact gdT hp45 | exact gdF hp45 | exact gdAnd (by assumption) (gdT hp45) | exact gdAnd (by assumption) (gdF hp45))))) ?_
      refine AL_nil ?_
      refine AC_cond (.tmp rfl) (fun hb46 => ?_) (fun hb46 => ?_)
      · exfalso; (try simp only [zA, zO, zN, zM, zP, zQ, zD, zF, gd] at hb46); rw [sameA_refl] at hb46; simp at hb46
      try simp only [zA, zO, zN, zM, zP, zQ, zD, zF, gd] at hb46
      refine AC_skip ?_
      exact ⟨(), trivial, (Sub.l (List.sublist_cons_self _ _)), .nil, (.cons rfl (Le.refl _) (.cons rfl (Le.refl _) (.cons rfl (Le.refl _) (.cons rfl (Le.refl _) .nil))))⟩
    try simp only [zA, zO, zN, zM, zP, zQ, zD, zF, gd] at hb31
    refine AC_skip ?_
    exact ⟨(), trivial, (Sub.l (List.Sublist.refl _)), .nil, (.cons rfl (Le.refl _) (.cons rfl (Le.refl _) (.cons rfl (Le.refl _) (.cons rfl (Le.refl _) .nil))))⟩
  rintro _ _
  try dsimp only
  simp only [List.cons_append, List.nil_append]
  refine AC_seq ?_
  refine AC_region ?_
  refine AL_p rfl rfl (S_move rfl (.tmp rfl)) ?_
  refine AL_p rfl rfl (S_gcall rfl (AEvs.cons (.tmp rfl) AEvs.nil) ((ask_Of_ok t) _ (fun p hp => by repeat (first | exact hG p hp | refine List.mem_cons_of_mem _ ?_ | refine List.mem_append_right _ ?_)))) ?_
  refine AL_p rfl rfl (S_move rfl (.tmp rfl)) ?_
  refine AL_p rfl rfl (S_extract 0 rfl (.tmp rfl) rfl) ?_
  refine AL_p rfl rfl (S_extract 1 rfl (.tmp rfl) rfl) ?_
  refine AL_step rfl rfl (S_alloc [.int .i64 0, .int .i64 0, .int .u64 0, .string ⟨#[]⟩, .slice none 0 0, .slice none 0 0, .slice none 0 0, .int .i64 0, .int .i64 0, .int .i64 0, .int .i64 0, .int .i64 0, .int .i64 0, .int .i64 0, .string ⟨#[]⟩, .slice none 0 0] rfl (by kernel_rfl)) ?_
  rintro _ _ ⟨b9, rfl, rfl⟩
  refine AL_step rfl rfl (S_storeW 0 rfl (.tmp rfl) (.tmp rfl) rfl rfl rfl (by kernel_rfl)) ?_
  rintro _ _ ⟨rfl, rfl⟩
  refine AL_p rfl rfl (S_assign rfl (.tmp rfl)) ?_
  refine AL_nil ?_
  refine AC_seq ?_
  refine AC_seq ?_
  refine AC_region ?_
  refine AL_p rfl rfl (S_move rfl (.tmp rfl)) ?_
  refine AL_p rfl rfl (S_neqE (er_is 31 143 (ofAE t)) rfl (.tmp rfl) (by kernel_rfl)) ?_
  refine AL_nil ?_
  refine AC_cond (.tmp rfl) (fun hb48 => ?_) (fun hb48 => ?_)
  · try simp only [zA, zO, zN, zM, zP, zQ, zD, zF, gd] at hb48
    have hx : ofA t = cal0 0 := ofA_some fun h => by rw [h] at hb48; simp at hb48
    refine AC_seq ?_
    refine AC_region ?_
    refine AL_p rfl rfl (S_loadN (m := 16) 0 rfl (.tmp rfl) rfl (by kernel_rfl) (by first | exact Nat.le_of_ble_eq_true rfl | (simp; omega) | simp)) ?_
    refine AL_p rfl rfl (S_build (t := 28) (pl := [(0, 1), (1, 1), (2, 1), (3, 7), (10, 1), (11, 1), (12, 1), (13, 1), (14, 1), (15, 1)]) (zs := [.int .i64 0, .int .i64 0, .int .u64 0, .string ⟨#[]⟩, .slice none 0 0, .slice none 0 0, .slice none 0 0, .int .i64 0, .int .i64 0, .int .i64 0, .int .i64 0, .int .i64 0, .int .i64 0, .int .i64 0, .string ⟨#[]⟩, .slice none 0 0]) rfl AEvs.nil (by kernel_rfl) rfl) ?_
    refine AL_p rfl rfl (S_pcall rfl (AEvs.cons (.tmp rfl) (AEvs.cons (y := calAV (cal0 0)) ((AEv.tmp rfl).le (by exact (Les.agg (.cons (Le.refl _) (.cons (Le.refl _) (.cons (Le.refl _) (.cons (Le.refl _) (.cons (Le.nils) (.cons (Le.nils) (.cons (Le.nils) (.cons (Le.refl _) (.cons (Le.refl _) (.cons (Le.refl _) (.cons (Le.refl _) (.cons (Le.refl _) (.cons (Le.refl _) (.cons (Le.refl _) (.cons (Le.refl _) (.cons (Le.nils) .nil))))))))))))))))))) AEvs.nil)) (book_SameCall_ok (ofA t) (cal0 0) (ofA_short t) (cal0_short 0))) ?_
    refine AL_p rfl rfl (S_assign rfl (.tmp rfl)) ?_
    refine AL_nil ?_
    refine AC_ret ?_
    refine ret_tmp st rfl rfl (Sub.l ((List.sublist_cons_self _ _).trans (List.sublist_cons_self _ _))) (Conv.refl (Sub.l ((List.sublist_cons_self _ _).trans (List.sublist_cons_self _ _))) _) ⟨congrArg AV.bool (by rw [hx]; exact sameA_refl _), rfl⟩ (.inl rfl)
  try simp only [zA, zO, zN, zM, zP, zQ, zD, zF, gd] at hb48
  have hk2 : ofAE t = none := by simpa using hb48
  obtain ⟨hc1, hc2, hc3⟩ := askOf_canon hk2
  refine AC_skip ?_
  refine AC_seq ?_
  refine AC_region ?_
  refine AL_p rfl rfl (S_loadN (m := 16) 0 rfl (.tmp rfl) rfl (by kernel_rfl) (by first | exact Nat.le_of_ble_eq_true rfl | (simp; omega) | simp)) ?_
  refine AL_p rfl rfl (S_gcall rfl (AEvs.cons (.tmp rfl) AEvs.nil) ((GCalls.of_eq (ask_Bytes_ok (ofA t) (ofA_short t) (ofA_rev t)) (askBytes_eq (askOf_canon hk2).1)) _ (fun p hp => by repeat (first | exact hG p hp | refine List.mem_cons_of_mem _ ?_ | refine List.mem_append_right _ ?_)))) ?_
  refine AL_p rfl rfl (S_move rfl (.tmp rfl)) ?_
  refine AL_p rfl rfl (S_extract 0 rfl (.tmp rfl) rfl) ?_
  refine AL_p rfl rfl (S_extract 1 rfl (.tmp rfl) rfl) ?_
  refine AL_p rfl rfl (S_assign rfl (.tmp rfl)) ?_
  refine AL_p rfl rfl (S_assign rfl (.tmp rfl)) ?_
  refine AL_nil ?_
  refine AC_seq ?_
  refine AC_region ?_
  refine AL_p rfl rfl (S_loadN (m := 16) 0 rfl (.tmp rfl) rfl (by kernel_rfl) (by first | exact Nat.le_of_ble_eq_true rfl | (simp; omega) | simp)) ?_
  refine AL_p rfl rfl (S_gcall rfl (AEvs.cons (.tmp rfl) AEvs.nil) ((ask_Check_ok (ofA t) (ofA_short t)) _ (fun p hp => by repeat (first | exact hG p hp | refine List.mem_cons_of_mem _ ?_ | refine List.mem_append_right _ ?_)))) ?_
  refine AL_p rfl rfl (S_eqlE (er_is 31 143 (checkA (ofA t))) rfl (.tmp rfl) (by kernel_rfl)) ?_
  refine AL_p rfl rfl (S_move rfl (.tmp rfl)) ?_
  refine AL_g rfl rfl (.tmp rfl) rfl (fun hg49 => S_move rfl (.tmp rfl)) ?_
  refine AL_g rfl rfl (.tmp rfl) rfl (fun hg52 => S_eql rfl (AEv.cond (.tmp rfl) (by first | assumption | exact gdAnd (by assumption) (by assumption))) (AEv.const _)) ?_
  refine AL_p rfl rfl (S_and rfl (.tmp rfl) (fun hp55 => (AEv.cond (.tmp rfl) (by first | assumption | exact gdT hp55 | exact gdF hp55 | exact gdAnd (by assumption) (gdT hp55) | exact gdAnd (by assumption) (gdF hp55))))) ?_
  refine AL_p rfl rfl (S_move rfl (.tmp rfl)) ?_
  refine AL_g rfl rfl (.tmp rfl) rfl (fun hg56 => S_move rfl (.tmp rfl)) ?_
  refine AL_g rfl rfl (.tmp rfl) rfl (fun hg59 => S_move rfl (.tmp rfl)) ?_
  refine AL_g rfl rfl (.tmp rfl) rfl (fun hg62 => S_eqS rfl (AEv.cond (.tmp rfl) (by first | assumption | exact gdAnd (by assumption) (by assumption))) (AEv.cond (.tmp rfl) (by first | assumption | exact gdAnd (by assumption) (by assumption)))) ?_
  refine AL_p rfl rfl (S_and rfl (.tmp rfl) (fun hp65 => (AEv.cond (.tmp rfl) (by first | assumption | exact gdT hp65 | exact gdF hp65 | exact gdAnd (by assumption) (gdT hp65) | exact gdAnd (by assumption) (gdF hp65))))) ?_
  refine AL_p rfl rfl (S_assign rfl (.tmp rfl)) ?_
  refine AL_nil ?_
  refine AC_ret ?_
  refine ret_tmp st rfl rfl (Sub.l ((List.sublist_cons_self _ _).trans (List.sublist_cons_self _ _))) (Conv.refl (Sub.l ((List.sublist_cons_self _ _).trans (List.sublist_cons_self _ _))) _) ⟨congrArg AV.bool (by rw [hc1, hc2]; simp), rfl⟩ (.inl rfl)

set_option maxRecDepth 100000 in
/-- provost/provostlaw08.AskUnlike -/
theorem law_AskUnlike (x y : Cal) (hux : x.rev < 18446744073709551616) (huy : y.rev < 18446744073709551616) : GCalls Tryz.prog tabs 5 [calAV x, calAV y] (.bool true) := by
  intro st hG
  refine ACalls_of (N := 70) Tryz.func5 (by kernel_rfl) rfl rfl rfl ?_
  refine AC_seq ?_
  refine AC_region ?_
  refine AL_step rfl rfl (S_box rfl (.tmp rfl)) ?_
  rintro _ _ ⟨b2, rfl, rfl⟩
  refine AL_step rfl rfl (S_box rfl (.tmp rfl)) ?_
  rintro _ _ ⟨b3, rfl, rfl⟩
  refine AL_p rfl rfl (S_assign rfl (AEv.const _)) ?_
  refine AL_nil ?_
  refine AC_seq ?_
  refine AC_seq ?_
  refine AC_region ?_
  refine AL_p rfl rfl (S_gcall rfl AEvs.nil ((law08_works_ok) _ (fun p hp => by repeat (first | exact hG p hp | refine List.mem_cons_of_mem _ ?_ | refine List.mem_append_right _ ?_)))) ?_
  refine AL_p rfl rfl (S_not rfl (.tmp rfl)) ?_
  refine AL_nil ?_
  refine AC_cond (.tmp rfl) (fun hb3 => ?_) (fun hb3 => ?_)
  · simp at hb3; done
  try simp only [zA, zO, zN, zM, zP, zQ, zD, zF, gd] at hb3
  refine AC_skip ?_
  refine AC_seq ?_
  refine AC_seq ?_
  refine AC_region ?_
  refine AL_p rfl rfl (S_loadN (m := 16) 1 rfl (.tmp rfl) rfl (by kernel_rfl) (by first | exact Nat.le_of_ble_eq_true rfl | (simp; omega) | simp)) ?_
  refine AL_p rfl rfl (S_pcall rfl (AEvs.cons (.tmp rfl) AEvs.nil) (law08_light_ok x)) ?_
  refine AL_p rfl rfl (S_not rfl (.tmp rfl)) ?_
  refine AL_p rfl rfl (S_move rfl (.tmp rfl)) ?_
  refine AL_g rfl rfl (.tmp rfl) rfl (fun hg4 => S_loadN (m := 16) 0 rfl (.tmp rfl) rfl (by kernel_rfl) (by first | exact Nat.le_of_ble_eq_true rfl | (simp; omega) | simp)) ?_
  refine AL_g rfl rfl (.tmp rfl) rfl (fun hg7 => S_pcall rfl (AEvs.cons (AEv.cond (.tmp rfl) (by first | assumption | exact gdAnd (by assumption) (by assumption))) AEvs.nil) (law08_light_ok y)) ?_
  refine AL_g rfl rfl (.tmp rfl) rfl (fun hg10 => S_not rfl (AEv.cond (.tmp rfl) (by first | assumption | exact gdAnd (by assumption) (by assumption)))) ?_
  refine AL_p rfl rfl (S_or rfl (.tmp rfl) (fun hp13 => (AEv.cond (.tmp rfl) (by first | assumption | exact gdT hp13 | exact gdF hp13 | exact gdAnd (by assumption) (gdT hp13) | exact gdAnd (by assumption) (gdF hp13))))) ?_
  refine AL_p rfl rfl (S_move rfl (.tmp rfl)) ?_
  refine AL_g rfl rfl (.tmp rfl) rfl (fun hg14 => S_loadN (m := 16) 1 rfl (.tmp rfl) rfl (by kernel_rfl) (by first | exact Nat.le_of_ble_eq_true rfl | (simp; omega) | simp)) ?_
  refine AL_g rfl rfl (.tmp rfl) rfl (fun hg17 => S_gcall rfl (AEvs.cons (AEv.cond (.tmp rfl) (by first | assumption | exact gdAnd (by assumption) (by assumption))) AEvs.nil) ((ask_Check_ok x (by first | assumption | exact lightA_short (by cases h9 : lightA x <;> simp_all [gd]))) _ (fun p hp => by repeat (first | exact hG p hp | refine List.mem_cons_of_mem _ ?_ | refine List.mem_append_right _ ?_)))) ?_
  refine AL_g rfl rfl (.tmp rfl) rfl (fun hg20 => S_neqE (er_is 31 143 ((checkA x))) rfl (AEv.cond (.tmp rfl) (by first | assumption | exact gdAnd (by assumption) (by assumption))) (by kernel_rfl)) ?_
  refine AL_p rfl rfl (S_or rfl (.tmp rfl) (fun hp23 => (AEv.cond (.tmp rfl) (by first | assumption | exact gdT hp23 | exact gdF hp23 | exact gdAnd (by assumption) (gdT hp23) | exact gdAnd (by assumption) (gdF hp23))))) ?_
  refine AL_p rfl rfl (S_move rfl (.tmp rfl)) ?_
  refine AL_g rfl rfl (.tmp rfl) rfl (fun hg24 => S_loadN (m := 16) 0 rfl (.tmp rfl) rfl (by kernel_rfl) (by first | exact Nat.le_of_ble_eq_true rfl | (simp; omega) | simp)) ?_
  refine AL_g rfl rfl (.tmp rfl) rfl (fun hg27 => S_gcall rfl (AEvs.cons (AEv.cond (.tmp rfl) (by first | assumption | exact gdAnd (by assumption) (by assumption))) AEvs.nil) ((ask_Check_ok y (by first | assumption | exact lightA_short (by cases h9 : lightA y <;> simp_all [gd]))) _ (fun p hp => by repeat (first | exact hG p hp | refine List.mem_cons_of_mem _ ?_ | refine List.mem_append_right _ ?_)))) ?_
  refine AL_g rfl rfl (.tmp rfl) rfl (fun hg30 => S_neqE (er_is 31 143 (checkA y)) rfl (AEv.cond (.tmp rfl) (by first | assumption | exact gdAnd (by assumption) (by assumption))) (by kernel_rfl)) ?_
  refine AL_p rfl rfl (S_or rfl (.tmp rfl) (fun hp33 => (AEv.cond (.tmp rfl) (by first | assumption | exact gdT hp33 | exact gdF hp33 | exact gdAnd (by assumption) (gdT hp33) | exact gdAnd (by assumption) (gdF hp33))))) ?_
  refine AL_nil ?_
  refine AC_cond (.tmp rfl) (fun hb34 => ?_) (fun hb34 => ?_)
  · try simp only [zA, zO, zN, zM, zP, zQ, zD, zF, gd] at hb34
    refine AC_seq ?_
    refine AC_region ?_
    refine AL_p rfl rfl (S_assign rfl (AEv.const _)) ?_
    refine AL_nil ?_
    refine AC_ret ?_
    refine ret_tmp st rfl rfl (Sub.l ((List.sublist_cons_self _ _).trans (List.sublist_cons_self _ _))) (Conv.refl (Sub.l ((List.sublist_cons_self _ _).trans (List.sublist_cons_self _ _))) _) ⟨rfl, rfl⟩ (.inl rfl)
  try simp only [zA, zO, zN, zM, zP, zQ, zD, zF, gd] at hb34
  have hlx : lightA x = true := by simpa using hb34.1.1.1
  have hly : lightA y = true := by simpa using hb34.1.1.2
  have hkx : checkA x = none := by simpa using hb34.1.2
  have hky : checkA y = none := by simpa using hb34.2
  have hsx := lightA_short hlx
  have hsy := lightA_short hly
  refine AC_skip ?_
  refine AC_seq ?_
  refine AC_region ?_
  refine AL_p rfl rfl (S_loadN (m := 16) 1 rfl (.tmp rfl) rfl (by kernel_rfl) (by first | exact Nat.le_of_ble_eq_true rfl | (simp; omega) | simp)) ?_
  refine AL_p rfl rfl (S_gcall rfl (AEvs.cons (.tmp rfl) AEvs.nil) ((GCalls.of_eq (ask_Bytes_ok x hsx hux) (askBytes_eq hkx)) _ (fun p hp => by repeat (first | exact hG p hp | refine List.mem_cons_of_mem _ ?_ | refine List.mem_append_right _ ?_)))) ?_
  refine AL_p rfl rfl (S_move rfl (.tmp rfl)) ?_
  refine AL_p rfl rfl (S_extract 0 rfl (.tmp rfl) rfl) ?_
  refine AL_p rfl rfl (S_extract 1 rfl (.tmp rfl) rfl) ?_
  refine AL_p rfl rfl (S_assign rfl (.tmp rfl)) ?_
  refine AL_p rfl rfl (S_assign rfl (.tmp rfl)) ?_
  refine AL_nil ?_
  refine AC_seq ?_
  refine AC_region ?_
  refine AL_p rfl rfl (S_loadN (m := 16) 0 rfl (.tmp rfl) rfl (by kernel_rfl) (by first | exact Nat.le_of_ble_eq_true rfl | (simp; omega) | simp)) ?_
  refine AL_p rfl rfl (S_gcall rfl (AEvs.cons (.tmp rfl) AEvs.nil) ((GCalls.of_eq (ask_Bytes_ok y hsy huy) (askBytes_eq hky)) _ (fun p hp => by repeat (first | exact hG p hp | refine List.mem_cons_of_mem _ ?_ | refine List.mem_append_right _ ?_)))) ?_
  refine AL_p rfl rfl (S_move rfl (.tmp rfl)) ?_
  refine AL_p rfl rfl (S_extract 0 rfl (.tmp rfl) rfl) ?_
  refine AL_p rfl rfl (S_extract 1 rfl (.tmp rfl) rfl) ?_
  refine AL_p rfl rfl (S_assign rfl (.tmp rfl)) ?_
  refine AL_p rfl rfl (S_assign rfl (.tmp rfl)) ?_
  refine AL_nil ?_
  refine AC_seq ?_
  refine AC_seq ?_
  refine AC_region ?_
  refine AL_p rfl rfl (S_move rfl (.tmp rfl)) ?_
  refine AL_p rfl rfl (S_neq rfl (.tmp rfl) (AEv.const _)) ?_
  refine AL_p rfl rfl (S_move rfl (.tmp rfl)) ?_
  refine AL_g rfl rfl (.tmp rfl) rfl (fun hg35 => S_move rfl (.tmp rfl)) ?_
  refine AL_g rfl rfl (.tmp rfl) rfl (fun hg38 => S_neq rfl (AEv.cond (.tmp rfl) (by first | assumption | exact gdAnd (by assumption) (by assumption))) (AEv.const _)) ?_
  refine AL_p rfl rfl (S_or rfl (.tmp rfl) (fun hp41 => (AEv.cond (.tmp rfl) (by first | assumption | exact gdT hp41 | exact gdF hp41 | exact gdAnd (by assumption) (gdT hp41) | exact gdAnd (by assumption) (gdF hp41))))) ?_
  refine AL_nil ?_
  refine AC_cond (.tmp rfl) (fun hb42 => ?_) (fun hb42 => ?_)
  · simp at hb42; done
  try simp only [zA, zO, zN, zM, zP, zQ, zD, zF, gd] at hb42
  refine AC_skip ?_
  refine AC_seq ?_
  refine AC_region ?_
  refine AL_p rfl rfl (S_move rfl (.tmp rfl)) ?_
  refine AL_p rfl rfl (S_lenS (ts := #[]) rfl (.tmp rfl) (by kernel_rfl)) ?_
  refine AL_p rfl rfl (S_move rfl (.tmp rfl)) ?_
  refine AL_p rfl rfl (S_lenS (ts := #[]) rfl (.tmp rfl) (by kernel_rfl)) ?_
  refine AL_p rfl rfl (S_lss rfl (.tmp rfl) (.tmp rfl)) ?_
  refine AL_p rfl rfl (S_move rfl (.tmp rfl)) ?_
  refine AL_g rfl rfl (.tmp rfl) rfl (fun hg43 => S_move rfl (.tmp rfl)) ?_
  refine AL_g rfl rfl (.tmp rfl) rfl (fun hg46 => S_move rfl (.tmp rfl)) ?_
  refine AL_g rfl rfl (.tmp rfl) rfl (fun hg49 => S_lenS (ts := #[]) rfl (AEv.cond (.tmp rfl) (by first | assumption | exact gdAnd (by assumption) (by assumption))) (by kernel_rfl)) ?_
  refine AL_g rfl rfl (.tmp rfl) rfl (fun hg52 => S_sliceH rfl (AEv.cond (.tmp rfl) (by first | assumption | exact gdAnd (by assumption) (by assumption))) (AEv.cond (.tmp rfl) (by first | assumption | exact gdAnd (by assumption) (by assumption))) (by kernel_rfl) (by (try simp only [gd, Bool.and_eq_true, Bool.or_eq_true, Bool.not_eq_true', Bool.not_eq_false', decide_eq_true_eq, decide_eq_false_iff_not, Bool.or_eq_false_iff, Bool.and_eq_false_iff] at *); omega) (by (try simp only [gd, Bool.and_eq_true, Bool.or_eq_true, Bool.not_eq_true', Bool.not_eq_false', decide_eq_true_eq, decide_eq_false_iff_not, Bool.or_eq_false_iff, Bool.and_eq_false_iff] at *); omega)) ?_
  refine AL_g rfl rfl (.tmp rfl) rfl (fun hg55 => S_move rfl (.tmp rfl)) ?_
  refine AL_g rfl rfl (.tmp rfl) rfl (fun hg58 => S_eqS rfl (AEv.cond (.tmp rfl) (by first | assumption | exact gdAnd (by assumption) (by assumption))) (AEv.cond (.tmp rfl) (by first | assumption | exact gdAnd (by assumption) (by assumption)))) ?_
  refine AL_p rfl rfl (S_and rfl (.tmp rfl) (fun hp61 => (AEv.cond (.tmp rfl) (by first | assumption | exact gdT hp61 | exact gdF hp61 | exact gdAnd (by assumption) (gdT hp61) | exact gdAnd (by assumption) (gdF hp61))))) ?_
  refine AL_p rfl rfl (S_assign rfl (.tmp rfl)) ?_
  refine AL_nil ?_
  refine AC_seq ?_
  refine AC_region ?_
  refine AL_p rfl rfl (S_move rfl (.tmp rfl)) ?_
  refine AL_p rfl rfl (S_move rfl (.tmp rfl)) ?_
  refine AL_p rfl rfl (S_eqS rfl (.tmp rfl) (.tmp rfl)) ?_
  refine AL_p rfl rfl (S_loadN (m := 16) 1 rfl (.tmp rfl) rfl (by kernel_rfl) (by first | exact Nat.le_of_ble_eq_true rfl | (simp; omega) | simp)) ?_
  refine AL_p rfl rfl (S_loadN (m := 16) 0 rfl (.tmp rfl) rfl (by kernel_rfl) (by first | exact Nat.le_of_ble_eq_true rfl | (simp; omega) | simp)) ?_
  refine AL_p rfl rfl (S_pcall rfl (AEvs.cons (.tmp rfl) (AEvs.cons (.tmp rfl) AEvs.nil)) (book_SameCall_ok x y hsx hsy)) ?_
  refine AL_p rfl rfl (S_eqB rfl (.tmp rfl) (.tmp rfl) (by kernel_rfl)) ?_
  refine AL_p rfl rfl (S_move rfl (.tmp rfl)) ?_
  refine AL_g rfl rfl (.tmp rfl) rfl (fun hg62 => S_move rfl (.tmp rfl)) ?_
  refine AL_g rfl rfl (.tmp rfl) rfl (fun hg65 => S_not rfl (AEv.cond (.tmp rfl) (by first | assumption | exact gdAnd (by assumption) (by assumption)))) ?_
  refine AL_p rfl rfl (S_and rfl (.tmp rfl) (fun hp68 => (AEv.cond (.tmp rfl) (by first | assumption | exact gdT hp68 | exact gdF hp68 | exact gdAnd (by assumption) (gdT hp68) | exact gdAnd (by assumption) (gdF hp68))))) ?_
  refine AL_p rfl rfl (S_assign rfl (.tmp rfl)) ?_
  refine AL_nil ?_
  refine AC_ret ?_
  refine ret_tmp st rfl rfl (Sub.l ((List.sublist_cons_self _ _).trans (List.sublist_cons_self _ _))) (Conv.refl (Sub.l ((List.sublist_cons_self _ _).trans (List.sublist_cons_self _ _))) _) ⟨congrArg AV.bool (unlike_fin hux huy hkx hky), rfl⟩ (.inl rfl)

end Go.Proofs.YtcbnokpgklmndaaGreatDoor

/-
The walks of Go functions in the logic AL: what each of them answers.
Conditions: those of each theorem.
-/
set_option linter.unusedVariables false
set_option linter.unusedSimpArgs false
namespace Go.Proofs.YtcbnokpgklmndaaGreatDoor
open Go.AL Go.NumSpec

set_option maxRecDepth 100000 in
/-- provost/ask.Kind -/
theorem ask_Kind_ok (w : List UInt8) : GCalls Tryz.prog tabs 18 [.S w] (.int .i64 ((findK w : Nat) : Int)) := by
  intro st hG
  refine ACalls_of (N := 20) Tryz.func18 (by kernel_rfl) rfl rfl rfl ?_
  refine AC_seq ?_
  refine AC_region ?_
  refine AL_p rfl rfl (S_assign rfl (AEv.const _)) ?_
  refine AL_nil ?_
  refine AC_seq ?_
  refine AC_seq ?_
  refine AC_region ?_
  refine AL_p rfl rfl (S_loadKs (vs := kindsV) (m := 26) rfl (AEv.global _) (hG _ tab_kinds) (by kernel_rfl) (by decide)) ?_
  refine AL_p rfl rfl (S_move rfl (AEv.const _)) ?_
  refine AL_nil ?_
  refine AC_block ?_
  refine AC_loopK (G := Nat) [(0, _), (5, _)] (fun g => g ≤ 13 ∧ ∀ j, j < 13 → j < g → 0 < j → (kindA j).1 ≠ w) (fun g => [(6, .int .i64 (g : Int))]) (fun g => st) (fun g => 13 - g) (0) (⟨Nat.zero_le _, fun j _ h => absurd h (Nat.not_lt_zero _)⟩) (Sub.l (List.Sublist.refl _)) (.cons rfl (Le.refl _) (.cons rfl (Le.refl _) .nil)) (.cons rfl (by first | exact Le.refl _ | exact Le.nils | exact Le.row _ _ _ _ | exact Le.of_eq (by first | rfl | (simp; done) | (push_cast; rfl) | (simp; omega))) .nil) ?_
  rintro i ⟨hi, hall⟩
  try dsimp only
  simp only [List.cons_append, List.nil_append]
  refine AC_seq ?_
  refine AC_region ?_
  refine AL_p rfl rfl (S_lss rfl (.tmp rfl) (AEv.const _)) ?_
  refine AL_nil ?_
  refine AC_seq ?_
  refine AC_cond (.tmp rfl) (fun hb1 => ?_) (fun hb1 => ?_)
  · try simp only [zA, zO, zN, zM, zP, zQ, zD, zF, gd] at hb1
    have hil : i < 13 := by omega
    refine AC_skip ?_
    refine AC_seq ?_
    refine AC_block ?_
    refine AC_seq ?_
    refine AC_region ?_
    refine AL_p rfl rfl (S_move rfl (.tmp rfl)) ?_
    refine AL_p rfl rfl ((S_idxRow (e := 57) (len := 13) (m := 2) rfl (.tmp rfl) (.tmp rfl) (by kernel_rfl) (by kernel_rfl) (by omega) (by omega) (by rw [show (((kindsV.drop 0).take 26).map AV.lit).length = 26 from rfl]; omega)).ofV (V' := .agg [.S (kindA (i : Int).toNat).1, .S (kindA (i : Int).toNat).2]) (congrArg AV.agg (kind_cell (by omega) (by omega)))) ?_
    refine AL_step rfl rfl (S_alloc [.string ⟨#[]⟩, .string ⟨#[]⟩] rfl (by kernel_rfl)) ?_
    rintro _ _ ⟨b4, rfl, rfl⟩
    refine AL_p rfl rfl (S_assign rfl (.tmp rfl)) ?_
    refine AL_step rfl rfl (S_storeW 0 rfl (.tmp rfl) (.tmp rfl) rfl rfl rfl (by kernel_rfl)) ?_
    rintro _ _ ⟨rfl, rfl⟩
    refine AL_nil ?_
    refine AC_seq ?_
    refine AC_region ?_
    refine AL_p rfl rfl (S_move rfl (.tmp rfl)) ?_
    refine AL_p rfl rfl (S_gtr rfl (.tmp rfl) (AEv.const _)) ?_
    refine AL_p rfl rfl (S_move rfl (.tmp rfl)) ?_
    refine AL_g rfl rfl (.tmp rfl) rfl (fun hg3 => S_field 0 rfl (.tmp rfl) (by kernel_rfl)) ?_
    refine AL_g rfl rfl (.tmp rfl) rfl (fun hg6 => S_load 0 rfl (AEv.cond (.tmp rfl) (by first | assumption | exact gdAnd (by assumption) (by assumption))) rfl rfl (by kernel_rfl)) ?_
    refine AL_g rfl rfl (.tmp rfl) rfl (fun hg9 => S_move rfl (.tmp rfl)) ?_
    refine AL_g rfl rfl (.tmp rfl) rfl (fun hg12 => S_eqS rfl (AEv.cond (.tmp rfl) (by first | assumption | exact gdAnd (by assumption) (by assumption))) (AEv.cond (.tmp rfl) (by first | assumption | exact gdAnd (by assumption) (by assumption)))) ?_
    refine AL_p rfl rfl (S_and rfl (.tmp rfl) (fun hp15 => (AEv.cond (.tmp rfl) (by first | assumption | exact gdT hp15 | exact gdF hp15 | exact gdAnd (by assumption) (gdT hp15) | exact gdAnd (by assumption) (gdF hp15))))) ?_
    refine AL_nil ?_
    refine AC_cond (.tmp rfl) (fun hb16 => ?_) (fun hb16 => ?_)
    · try simp only [zA, zO, zN, zM, zP, zQ, zD, zF, gd] at hb16
      have hx := findK_hit (w := w) (i := i) (by omega) hil (by simpa using hb16.2)
      refine AC_seq ?_
      refine AC_region ?_
      refine AL_p rfl rfl (S_move rfl (.tmp rfl)) ?_
      refine AL_p rfl rfl (S_assign rfl (.tmp rfl)) ?_
      refine AL_nil ?_
      refine AC_ret ?_
      refine ret_tmp st rfl rfl (Sub.l (List.sublist_cons_self _ _)) (Conv.refl (Sub.l (List.sublist_cons_self _ _)) _) ⟨by rw [hx], rfl⟩ (.inl rfl)
    try simp only [zA, zO, zN, zM, zP, zQ, zD, zF, gd] at hb16
    have hno : 0 < i → (kindA i).1 ≠ w := fun h0 h9 => hb16.elim (fun h => h (by omega)) fun h => h (by simpa using h9)
    refine AC_skip ?_
    refine AC_region ?_
    refine AL_p rfl rfl (S_addI rfl (.tmp rfl) (AEv.const _) (by omega) (by omega)) ?_
    refine AL_p rfl rfl (S_move rfl (.tmp rfl)) ?_
    refine AL_nil ?_
    refine ⟨i + 1, ⟨by omega, fun j hj h h0 => ?_⟩, by omega, (Sub.l (List.sublist_cons_self _ _)), (.cons rfl (by first | exact Le.refl _ | exact Le.nils | exact Le.row _ _ _ _ | exact Le.of_eq (by first | rfl | (simp; done) | (push_cast; rfl) | (simp; omega))) .nil), (.cons rfl (Le.refl _) (.cons rfl (Le.refl _) .nil))⟩
    rcases Nat.lt_or_ge j i with h9 | h9
    · exact hall j hj h9 h0
    · have e9 : j = i := by omega
      subst e9
      exact hno h0
  try simp only [zA, zO, zN, zM, zP, zQ, zD, zF, gd] at hb1
  have hx := findK_none (w := w) fun j hj h0 => hall j hj (by omega) h0
  refine AC_exit ?_
  refine AC_seq ?_
  refine AC_region ?_
  refine AL_p rfl rfl (S_assign rfl (AEv.const _)) ?_
  refine AL_nil ?_
  refine AC_ret ?_
  refine ret_tmp st rfl rfl (Sub.l (List.Sublist.refl _)) (Conv.refl (Sub.l (List.Sublist.refl _)) _) ⟨by rw [hx]; rfl, rfl⟩ (.inl rfl)

set_option maxRecDepth 100000 in
/-- provost/ask.Writes -/
theorem ask_Writes_ok (v : Int) : PCalls Tryz.prog 19 [.int .i64 v] (.bool (decide (1 ≤ v ∧ v ≤ 3))) := by
  intro st
  refine ACalls_of (N := 8) Tryz.func19 (by kernel_rfl) rfl rfl rfl ?_
  refine AC_seq ?_
  refine AC_region ?_
  refine AL_p rfl rfl (S_assign rfl (AEv.const _)) ?_
  refine AL_nil ?_
  refine AC_seq ?_
  refine AC_seq ?_
  refine AC_region ?_
  refine AL_p rfl rfl (S_move rfl (.tmp rfl)) ?_
  refine AL_nil ?_
  refine AC_block ?_
  refine AC_seq ?_
  refine AC_seq ?_
  refine AC_region ?_
  refine AL_p rfl rfl (S_eql rfl (.tmp rfl) (AEv.const _)) ?_
  refine AL_p rfl rfl (S_assign rfl (.tmp rfl)) ?_
  refine AL_nil ?_
  refine AC_cond (.tmp rfl) (fun hb1 => ?_) (fun hb1 => ?_)
  · try simp only [zA, zO, zN, zM, zP, zQ, zD, zF, gd] at hb1
    refine AC_skip ?_
    refine AC_cond (.tmp rfl) (fun hb2 => ?_) (fun hb2 => ?_)
    · try simp only [zA, zO, zN, zM, zP, zQ, zD, zF, gd] at hb2
      refine AC_seq ?_
      refine AC_region ?_
      refine AL_p rfl rfl (S_assign rfl (AEv.const _)) ?_
      refine AL_nil ?_
      refine AC_ret ?_
      refine ret_tmp st rfl rfl (Sub.l (List.Sublist.refl _)) (Conv.refl (Sub.l (List.Sublist.refl _)) _) ⟨congrArg AV.bool (by first | exact (decide_eq_true (by omega)).symm | exact (decide_eq_false (by omega)).symm), rfl⟩ (.inl rfl)
    try simp only [zA, zO, zN, zM, zP, zQ, zD, zF, gd] at hb2
    refine AC_skip ?_
    refine AC_seq ?_
    refine AC_region ?_
    refine AL_p rfl rfl (S_assign rfl (AEv.const _)) ?_
    refine AL_nil ?_
    refine AC_ret ?_
    refine ret_tmp st rfl rfl (Sub.l (List.Sublist.refl _)) (Conv.refl (Sub.l (List.Sublist.refl _)) _) ⟨congrArg AV.bool (by first | exact (decide_eq_true (by omega)).symm | exact (decide_eq_false (by omega)).symm), rfl⟩ (.inl rfl)
  try simp only [zA, zO, zN, zM, zP, zQ, zD, zF, gd] at hb1
  refine AC_seq ?_
  refine AC_region ?_
  refine AL_p rfl rfl (S_eql rfl (.tmp rfl) (AEv.const _)) ?_
  refine AL_p rfl rfl (S_assign rfl (.tmp rfl)) ?_
  refine AL_nil ?_
  refine AC_cond (.tmp rfl) (fun hb3 => ?_) (fun hb3 => ?_)
  · try simp only [zA, zO, zN, zM, zP, zQ, zD, zF, gd] at hb3
    refine AC_skip ?_
    refine AC_cond (.tmp rfl) (fun hb4 => ?_) (fun hb4 => ?_)
    · try simp only [zA, zO, zN, zM, zP, zQ, zD, zF, gd] at hb4
      refine AC_seq ?_
      refine AC_region ?_
      refine AL_p rfl rfl (S_assign rfl (AEv.const _)) ?_
      refine AL_nil ?_
      refine AC_ret ?_
      refine ret_tmp st rfl rfl (Sub.l (List.Sublist.refl _)) (Conv.refl (Sub.l (List.Sublist.refl _)) _) ⟨congrArg AV.bool (by first | exact (decide_eq_true (by omega)).symm | exact (decide_eq_false (by omega)).symm), rfl⟩ (.inl rfl)
    try simp only [zA, zO, zN, zM, zP, zQ, zD, zF, gd] at hb4
    refine AC_skip ?_
    refine AC_seq ?_
    refine AC_region ?_
    refine AL_p rfl rfl (S_assign rfl (AEv.const _)) ?_
    refine AL_nil ?_
    refine AC_ret ?_
    refine ret_tmp st rfl rfl (Sub.l (List.Sublist.refl _)) (Conv.refl (Sub.l (List.Sublist.refl _)) _) ⟨congrArg AV.bool (by first | exact (decide_eq_true (by omega)).symm | exact (decide_eq_false (by omega)).symm), rfl⟩ (.inl rfl)
  try simp only [zA, zO, zN, zM, zP, zQ, zD, zF, gd] at hb3
  refine AC_region ?_
  refine AL_p rfl rfl (S_eql rfl (.tmp rfl) (AEv.const _)) ?_
  refine AL_p rfl rfl (S_assign rfl (.tmp rfl)) ?_
  refine AL_nil ?_
  refine AC_cond (.tmp rfl) (fun hb5 => ?_) (fun hb5 => ?_)
  · try simp only [zA, zO, zN, zM, zP, zQ, zD, zF, gd] at hb5
    refine AC_seq ?_
    refine AC_region ?_
    refine AL_p rfl rfl (S_assign rfl (AEv.const _)) ?_
    refine AL_nil ?_
    refine AC_ret ?_
    refine ret_tmp st rfl rfl (Sub.l (List.Sublist.refl _)) (Conv.refl (Sub.l (List.Sublist.refl _)) _) ⟨congrArg AV.bool (by first | exact (decide_eq_true (by omega)).symm | exact (decide_eq_false (by omega)).symm), rfl⟩ (.inl rfl)
  try simp only [zA, zO, zN, zM, zP, zQ, zD, zF, gd] at hb5
  refine AC_skip ?_
  refine AC_seq ?_
  refine AC_region ?_
  refine AL_p rfl rfl (S_assign rfl (AEv.const _)) ?_
  refine AL_nil ?_
  refine AC_ret ?_
  refine ret_tmp st rfl rfl (Sub.l (List.Sublist.refl _)) (Conv.refl (Sub.l (List.Sublist.refl _)) _) ⟨congrArg AV.bool (by first | exact (decide_eq_true (by omega)).symm | exact (decide_eq_false (by omega)).symm), rfl⟩ (.inl rfl)

set_option maxRecDepth 100000 in
/-- provost/provostref08.Names -/
theorem ref08_Names_ok : PCalls Tryz.prog 16 [] (.sl (strsV namesK)) := by
  intro st
  refine ACalls_of (N := 2) Tryz.func16 (by kernel_rfl) rfl rfl rfl ?_
  refine AC_seq ?_
  refine AC_region ?_
  refine AL_p rfl rfl (S_assign rfl (AEv.const _)) ?_
  refine AL_nil ?_
  refine AC_seq ?_
  refine AC_region ?_
  refine AL_p rfl rfl (S_buildSlice (e := 9) 1 rfl (AEvs.cons (AEv.S _) (AEvs.cons (AEv.S _) (AEvs.cons (AEv.S _) (AEvs.cons (AEv.S _) (AEvs.cons (AEv.S _) (AEvs.cons (AEv.S _) (AEvs.cons (AEv.S _) (AEvs.cons (AEv.S _) (AEvs.cons (AEv.S _) (AEvs.cons (AEv.S _) (AEvs.cons (AEv.S _) (AEvs.cons (AEv.S _) (AEvs.cons (AEv.S _) AEvs.nil))))))))))))) rfl (by kernel_rfl) (by kernel_rfl) (by intro y hy; simp only [List.mem_cons, List.not_mem_nil, or_false] at hy; rcases hy with rfl | rfl | rfl | rfl | rfl | rfl | rfl | rfl | rfl | rfl | rfl | rfl | rfl <;> exact ⟨rfl, rfl⟩) (by decide) (by decide) (by decide)) ?_
  refine AL_p rfl rfl (S_assign rfl (.tmp rfl)) ?_
  refine AL_nil ?_
  refine AC_ret ?_
  refine ret_tmp st rfl rfl (Sub.l (List.Sublist.refl _)) (Conv.refl (Sub.l (List.Sublist.refl _)) _) ⟨rfl, rfl⟩ (.inl rfl)

set_option maxRecDepth 100000 in
/-- provost/provostlaw08.AskNames -/
theorem law_AskNames (k : Int) (w : List UInt8) : GCalls Tryz.prog tabs 6 [.int .i64 k, .S w] (.bool true) := by
  intro st hG
  refine ACalls_of (N := 54) Tryz.func6 (by kernel_rfl) rfl rfl rfl ?_
  have hnl : namesK.length = 13 := rfl
  have hkl : kindsT.length = 13 := rfl
  refine AC_seq ?_
  refine AC_region ?_
  refine AL_p rfl rfl (S_assign rfl (AEv.const _)) ?_
  refine AL_nil ?_
  refine AC_seq ?_
  refine AC_region ?_
  refine AL_p rfl rfl (S_pcall rfl AEvs.nil (ref08_Names_ok)) ?_
  refine AL_p rfl rfl (S_assign rfl (.tmp rfl)) ?_
  refine AL_nil ?_
  refine AC_seq ?_
  refine AC_region ?_
  refine AL_p rfl rfl (S_assign rfl (AEv.S _)) ?_
  refine AL_p rfl rfl (S_assign rfl (AEv.const _)) ?_
  refine AL_nil ?_
  refine AC_seq ?_
  refine AC_seq ?_
  refine AC_region ?_
  refine AL_p rfl rfl (S_assign rfl (AEv.const _)) ?_
  refine AL_nil ?_
  refine AC_block ?_
  refine AC_loopK (G := Nat × List UInt8 × Nat) [(0, _), (1, _), (4, _), (5, _)] (fun g => 1 ≤ g.1 ∧ g.1 ≤ 13 ∧ g.2.1 = nameTo k g.1 ∧ KI w g.1 g.2.2) (fun g => [(6, .S g.2.1), (7, .int .i64 ((g.2.2 : Nat) : Int)), (8, .int .i64 (g.1 : Int))]) (fun g => st) (fun g => 13 - g.1) ((1, [], 0)) (⟨Nat.le_refl _, by decide, (show nameTo k 1 = [] from if_neg (by omega)).symm, ki_start w⟩) (Sub.l (List.Sublist.refl _)) (.cons rfl (Le.refl _) (.cons rfl (Le.refl _) (.cons rfl (Le.refl _) (.cons rfl (Le.refl _) .nil)))) (.cons rfl (by first | exact Le.refl _ | exact Le.nils | exact Le.row _ _ _ _ | exact Le.of_eq (by first | rfl | (simp; done) | (push_cast; rfl) | (simp; omega))) (.cons rfl (by first | exact Le.refl _ | exact Le.nils | exact Le.row _ _ _ _ | exact Le.of_eq (by first | rfl | (simp; done) | (push_cast; rfl) | (simp; omega))) (.cons rfl (by first | exact Le.refl _ | exact Le.nils | exact Le.row _ _ _ _ | exact Le.of_eq (by first | rfl | (simp; done) | (push_cast; rfl) | (simp; omega))) .nil))) ?_
  rintro ⟨i, nm, kk⟩ ⟨hi1, hi2, hnm, hkk⟩
  try dsimp only
  simp only [List.cons_append, List.nil_append]
  dsimp only at hi1 hi2 hnm hkk
  refine AC_seq ?_
  refine AC_seq ?_
  refine AC_region ?_
  refine AL_p rfl rfl (S_move rfl (.tmp rfl)) ?_
  refine AL_p rfl rfl (S_move rfl (.tmp rfl)) ?_
  refine AL_p rfl rfl (by first | exact S_lenM (e := 9) rfl (.tmp rfl) (by kernel_rfl) | exact S_len (e := 9) rfl (.tmp rfl) (by kernel_rfl)) ?_
  refine AL_p rfl rfl (S_lss rfl (.tmp rfl) (.tmp rfl)) ?_
  refine AL_nil ?_
  refine AC_cond (.tmp rfl) (fun hb1 => ?_) (fun hb1 => ?_)
  · try simp only [zA, zO, zN, zM, zP, zQ, zD, zF, gd] at hb1
    have h9 : (i : Int) < 13 := by first | exact hb1 | simpa using hb1
    have hil : i < namesK.length := by omega
    refine AC_skip ?_
    refine AC_seq ?_
    refine AC_block ?_
    refine AC_seq ?_
    refine AC_seq ?_
    refine AC_region ?_
    refine AL_p rfl rfl (S_move rfl (.tmp rfl)) ?_
    refine AL_p rfl rfl (S_move rfl (.tmp rfl)) ?_
    refine AL_p rfl rfl (S_eql rfl (.tmp rfl) (.tmp rfl)) ?_
    refine AL_nil ?_
    refine AC_cond (.tmp rfl) (fun hb2 => ?_) (fun hb2 => ?_)
    · try simp only [zA, zO, zN, zM, zP, zQ, zD, zF, gd] at hb2
      have hik : (i : Int) = k := hb2
      refine AC_region ?_
      refine AL_p rfl rfl (S_move rfl (.tmp rfl)) ?_
      refine AL_p rfl rfl (S_move rfl (.tmp rfl)) ?_
      refine AL_p rfl rfl (S_elemN (e := 9) 1 rfl (.tmp rfl) (.tmp rfl) (by kernel_rfl) (by kernel_rfl) (by omega) (fun _ => rfl)) ?_
      refine AL_p rfl rfl (S_loadP rfl (.tmp rfl) rfl (by kernel_rfl)) ?_
      refine AL_p rfl rfl (S_assign rfl (.tmp rfl)) ?_
      refine AL_nil ?_
      refine AC_seq ?_
      refine AC_region ?_
      refine AL_p rfl rfl (S_move rfl (.tmp rfl)) ?_
      refine AL_p rfl rfl (S_move rfl (.tmp rfl)) ?_
      refine AL_p rfl rfl (S_elemN (e := 9) 1 rfl (.tmp rfl) (.tmp rfl) (by kernel_rfl) (by kernel_rfl) (by omega) (fun _ => rfl)) ?_
      refine AL_p rfl rfl (S_loadP rfl (.tmp rfl) rfl (by kernel_rfl)) ?_
      refine AL_p rfl rfl (S_move rfl (.tmp rfl)) ?_
      refine AL_p rfl rfl (S_eqS rfl (.tmp rfl) (.tmp rfl)) ?_
      refine AL_nil ?_
      refine AC_cond (.tmp rfl) (fun hb3 => ?_) (fun hb3 => ?_)
      · try simp only [zA, zO, zN, zM, zP, zQ, zD, zF, gd] at hb3
        have hw : namesK[i] = w := by simpa using hb3
        refine AC_region ?_
        refine AL_p rfl rfl (S_move rfl (.tmp rfl)) ?_
        refine AL_p rfl rfl (S_assign rfl (.tmp rfl)) ?_
        refine AL_nil ?_
        refine AC_region ?_
        refine AL_p rfl rfl (S_move rfl (.tmp rfl)) ?_
        refine AL_p rfl rfl (S_addI rfl (.tmp rfl) (AEv.const _) (by omega) (by omega)) ?_
        refine AL_p rfl rfl (S_assign rfl (.tmp rfl)) ?_
        refine AL_nil ?_
        refine ⟨(i + 1, namesK[i], i), ⟨by dsimp only; omega, by dsimp only; omega, by dsimp only; subst hik; exact nameK_hit hi1 hil, ki_hit hi1 hil hw⟩, by dsimp only; omega, (Sub.l (List.Sublist.refl _)), (.cons rfl (by first | exact Le.refl _ | exact Le.nils | exact Le.row _ _ _ _ | exact Le.of_eq (by first | rfl | (simp; done) | (push_cast; rfl) | (simp; omega))) (.cons rfl (by first | exact Le.refl _ | exact Le.nils | exact Le.row _ _ _ _ | exact Le.of_eq (by first | rfl | (simp; done) | (push_cast; rfl) | (simp; omega))) (.cons rfl (by first | exact Le.refl _ | exact Le.nils | exact Le.row _ _ _ _ | exact Le.of_eq (by first | rfl | (simp; done) | (push_cast; rfl) | (simp; omega))) .nil))), (.cons rfl (Le.refl _) (.cons rfl (Le.refl _) (.cons rfl (Le.refl _) (.cons rfl (Le.refl _) .nil))))⟩
      try simp only [zA, zO, zN, zM, zP, zQ, zD, zF, gd] at hb3
      have hw : ¬ namesK[i] = w := by simpa using hb3
      refine AC_skip ?_
      refine AC_region ?_
      refine AL_p rfl rfl (S_move rfl (.tmp rfl)) ?_
      refine AL_p rfl rfl (S_addI rfl (.tmp rfl) (AEv.const _) (by omega) (by omega)) ?_
      refine AL_p rfl rfl (S_assign rfl (.tmp rfl)) ?_
      refine AL_nil ?_
      refine ⟨(i + 1, namesK[i], kk), ⟨by dsimp only; omega, by dsimp only; omega, by dsimp only; subst hik; exact nameK_hit hi1 hil, ki_miss hil hw hkk⟩, by dsimp only; omega, (Sub.l (List.Sublist.refl _)), (.cons rfl (by first | exact Le.refl _ | exact Le.nils | exact Le.row _ _ _ _ | exact Le.of_eq (by first | rfl | (simp; done) | (push_cast; rfl) | (simp; omega))) (.cons rfl (by first | exact Le.refl _ | exact Le.nils | exact Le.row _ _ _ _ | exact Le.of_eq (by first | rfl | (simp; done) | (push_cast; rfl) | (simp; omega))) (.cons rfl (by first | exact Le.refl _ | exact Le.nils | exact Le.row _ _ _ _ | exact Le.of_eq (by first | rfl | (simp; done) | (push_cast; rfl) | (simp; omega))) .nil))), (.cons rfl (Le.refl _) (.cons rfl (Le.refl _) (.cons rfl (Le.refl _) (.cons rfl (Le.refl _) .nil))))⟩
    try simp only [zA, zO, zN, zM, zP, zQ, zD, zF, gd] at hb2
    have hik : ¬ (i : Int) = k := hb2
    refine AC_skip ?_
    refine AC_seq ?_
    refine AC_region ?_
    refine AL_p rfl rfl (S_move rfl (.tmp rfl)) ?_
    refine AL_p rfl rfl (S_move rfl (.tmp rfl)) ?_
    refine AL_p rfl rfl (S_elemN (e := 9) 1 rfl (.tmp rfl) (.tmp rfl) (by kernel_rfl) (by kernel_rfl) (by omega) (fun _ => rfl)) ?_
    refine AL_p rfl rfl (S_loadP rfl (.tmp rfl) rfl (by kernel_rfl)) ?_
    refine AL_p rfl rfl (S_move rfl (.tmp rfl)) ?_
    refine AL_p rfl rfl (S_eqS rfl (.tmp rfl) (.tmp rfl)) ?_
    refine AL_nil ?_
    refine AC_cond (.tmp rfl) (fun hb4 => ?_) (fun hb4 => ?_)
    · try simp only [zA, zO, zN, zM, zP, zQ, zD, zF, gd] at hb4
      have hw : namesK[i] = w := by simpa using hb4
      refine AC_region ?_
      refine AL_p rfl rfl (S_move rfl (.tmp rfl)) ?_
      refine AL_p rfl rfl (S_assign rfl (.tmp rfl)) ?_
      refine AL_nil ?_
      refine AC_region ?_
      refine AL_p rfl rfl (S_move rfl (.tmp rfl)) ?_
      refine AL_p rfl rfl (S_addI rfl (.tmp rfl) (AEv.const _) (by omega) (by omega)) ?_
      refine AL_p rfl rfl (S_assign rfl (.tmp rfl)) ?_
      refine AL_nil ?_
      refine ⟨(i + 1, nm, i), ⟨by dsimp only; omega, by dsimp only; omega, by dsimp only; rw [hnm]; exact nameK_miss hik, ki_hit hi1 hil hw⟩, by dsimp only; omega, (Sub.l (List.Sublist.refl _)), (.cons rfl (by first | exact Le.refl _ | exact Le.nils | exact Le.row _ _ _ _ | exact Le.of_eq (by first | rfl | (simp; done) | (push_cast; rfl) | (simp; omega))) (.cons rfl (by first | exact Le.refl _ | exact Le.nils | exact Le.row _ _ _ _ | exact Le.of_eq (by first | rfl | (simp; done) | (push_cast; rfl) | (simp; omega))) (.cons rfl (by first | exact Le.refl _ | exact Le.nils | exact Le.row _ _ _ _ | exact Le.of_eq (by first | rfl | (simp; done) | (push_cast; rfl) | (simp; omega))) .nil))), (.cons rfl (Le.refl _) (.cons rfl (Le.refl _) (.cons rfl (Le.refl _) (.cons rfl (Le.refl _) .nil))))⟩
    try simp only [zA, zO, zN, zM, zP, zQ, zD, zF, gd] at hb4
    have hw : ¬ namesK[i] = w := by simpa using hb4
    refine AC_skip ?_
    refine AC_region ?_
    refine AL_p rfl rfl (S_move rfl (.tmp rfl)) ?_
    refine AL_p rfl rfl (S_addI rfl (.tmp rfl) (AEv.const _) (by omega) (by omega)) ?_
    refine AL_p rfl rfl (S_assign rfl (.tmp rfl)) ?_
    refine AL_nil ?_
    refine ⟨(i + 1, nm, kk), ⟨by dsimp only; omega, by dsimp only; omega, by dsimp only; rw [hnm]; exact nameK_miss hik, ki_miss hil hw hkk⟩, by dsimp only; omega, (Sub.l (List.Sublist.refl _)), (.cons rfl (by first | exact Le.refl _ | exact Le.nils | exact Le.row _ _ _ _ | exact Le.of_eq (by first | rfl | (simp; done) | (push_cast; rfl) | (simp; omega))) (.cons rfl (by first | exact Le.refl _ | exact Le.nils | exact Le.row _ _ _ _ | exact Le.of_eq (by first | rfl | (simp; done) | (push_cast; rfl) | (simp; omega))) (.cons rfl (by first | exact Le.refl _ | exact Le.nils | exact Le.row _ _ _ _ | exact Le.of_eq (by first | rfl | (simp; done) | (push_cast; rfl) | (simp; omega))) .nil))), (.cons rfl (Le.refl _) (.cons rfl (Le.refl _) (.cons rfl (Le.refl _) (.cons rfl (Le.refl _) .nil))))⟩
  try simp only [zA, zO, zN, zM, zP, zQ, zD, zF, gd] at hb1
  have h9 : ¬ (i : Int) < 13 := by first | exact hb1 | simpa using hb1
  obtain rfl : i = 13 := by omega
  have hx := ki_end hkk
  rw [nameK_all] at hnm
  refine AC_exit ?_
  refine AC_seq ?_
  refine AC_region ?_
  refine AL_p rfl rfl (S_move rfl (.tmp rfl)) ?_
  refine AL_p rfl rfl (S_gcall rfl (AEvs.cons (.tmp rfl) AEvs.nil) ((ask_Name_ok k) _ (fun p hp => by repeat (first | exact hG p hp | refine List.mem_cons_of_mem _ ?_ | refine List.mem_append_right _ ?_)))) ?_
  refine AL_p rfl rfl (S_move rfl (.tmp rfl)) ?_
  refine AL_p rfl rfl (S_eqS rfl (.tmp rfl) (.tmp rfl)) ?_
  refine AL_p rfl rfl (S_move rfl (.tmp rfl)) ?_
  refine AL_g rfl rfl (.tmp rfl) rfl (fun hg5 => S_move rfl (.tmp rfl)) ?_
  refine AL_g rfl rfl (.tmp rfl) rfl (fun hg8 => S_gcall rfl (AEvs.cons (AEv.cond (.tmp rfl) (by first | assumption | exact gdAnd (by assumption) (by assumption))) AEvs.nil) ((ask_Kind_ok w) _ (fun p hp => by repeat (first | exact hG p hp | refine List.mem_cons_of_mem _ ?_ | refine List.mem_append_right _ ?_)))) ?_
  refine AL_g rfl rfl (.tmp rfl) rfl (fun hg11 => S_move rfl (.tmp rfl)) ?_
  refine AL_g rfl rfl (.tmp rfl) rfl (fun hg14 => S_eql rfl (AEv.cond (.tmp rfl) (by first | assumption | exact gdAnd (by assumption) (by assumption))) (AEv.cond (.tmp rfl) (by first | assumption | exact gdAnd (by assumption) (by assumption)))) ?_
  refine AL_p rfl rfl (S_and rfl (.tmp rfl) (fun hp17 => (AEv.cond (.tmp rfl) (by first | assumption | exact gdT hp17 | exact gdF hp17 | exact gdAnd (by assumption) (gdT hp17) | exact gdAnd (by assumption) (gdF hp17))))) ?_
  refine AL_p rfl rfl (S_move rfl (.tmp rfl)) ?_
  refine AL_g rfl rfl (.tmp rfl) rfl (fun hg18 => S_move rfl (.tmp rfl)) ?_
  refine AL_g rfl rfl (.tmp rfl) rfl (fun hg21 => S_pcall rfl (AEvs.cons (AEv.cond (.tmp rfl) (by first | assumption | exact gdAnd (by assumption) (by assumption))) AEvs.nil) (ask_Writes_ok k)) ?_
  refine AL_g rfl rfl (.tmp rfl) rfl (fun hg24 => S_move rfl (.tmp rfl)) ?_
  refine AL_g rfl rfl (.tmp rfl) rfl (fun hg27 => S_geq rfl (AEv.cond (.tmp rfl) (by first | assumption | exact gdAnd (by assumption) (by assumption))) (AEv.const _)) ?_
  refine AL_g rfl rfl (.tmp rfl) rfl (fun hg30 => S_move rfl (AEv.cond (.tmp rfl) (by first | assumption | exact gdAnd (by assumption) (by assumption)))) ?_
  refine AL_gg rfl rfl (.tmp rfl) rfl (fun hg33 hg34 hg35 => S_move rfl (.tmp rfl)) ?_
  refine AL_gg rfl rfl (.tmp rfl) rfl (fun hg36 hg37 hg38 => S_leq rfl (AEv.cond (.tmp rfl) (by first | assumption | exact gdAnd (by assumption) (by assumption))) (AEv.const _)) ?_
  refine AL_g rfl rfl (.tmp rfl) rfl (fun hg39 => S_and rfl (AEv.cond (.tmp rfl) (by first | assumption | exact gdAnd (by assumption) (by assumption))) (fun hp42 => (AEv.cond (.tmp rfl) (by first | assumption | exact gdT hp42 | exact gdF hp42 | exact gdAnd (by assumption) (gdT hp42) | exact gdAnd (by assumption) (gdF hp42))))) ?_
  refine AL_g rfl rfl (.tmp rfl) rfl (fun hg43 => S_eqB rfl (AEv.cond (.tmp rfl) (by first | assumption | exact gdAnd (by assumption) (by assumption))) (AEv.cond (.tmp rfl) (by first | assumption | exact gdAnd (by assumption) (by assumption))) (by kernel_rfl)) ?_
  refine AL_p rfl rfl (S_and rfl (.tmp rfl) (fun hp46 => (AEv.cond (.tmp rfl) (by first | assumption | exact gdT hp46 | exact gdF hp46 | exact gdAnd (by assumption) (gdT hp46) | exact gdAnd (by assumption) (gdF hp46))))) ?_
  refine AL_p rfl rfl (S_move rfl (.tmp rfl)) ?_
  refine AL_g rfl rfl (.tmp rfl) rfl (fun hg47 => S_gcall rfl AEvs.nil ((law08_works_ok) _ (fun p hp => by repeat (first | exact hG p hp | refine List.mem_cons_of_mem _ ?_ | refine List.mem_append_right _ ?_)))) ?_
  refine AL_p rfl rfl (S_and rfl (.tmp rfl) (fun hp50 => (AEv.cond (.tmp rfl) (by first | assumption | exact gdT hp50 | exact gdF hp50 | exact gdAnd (by assumption) (gdT hp50) | exact gdAnd (by assumption) (gdF hp50))))) ?_
  refine AL_p rfl rfl (S_assign rfl (.tmp rfl)) ?_
  refine AL_nil ?_
  refine AC_ret ?_
  refine ret_tmp st rfl rfl (Sub.l (List.Sublist.refl _)) (Conv.refl (Sub.l (List.Sublist.refl _)) _) ⟨congrArg AV.bool (by rw [hnm, hx]; by_cases h1 : 1 ≤ k <;> by_cases h3 : k ≤ 3 <;> simp [h1, h3]), rfl⟩ (.inl rfl)

end Go.Proofs.YtcbnokpgklmndaaGreatDoor
