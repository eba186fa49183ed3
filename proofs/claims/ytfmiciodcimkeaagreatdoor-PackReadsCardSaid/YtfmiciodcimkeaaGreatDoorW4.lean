/- A part of the proof: what the program's functions answer.
Conditions: none beyond each theorem's own. -/
import Derived.Test.YtfmiciodcimkeaaGreatDoorW3
/-
The walks of Go functions in the logic AL: what each of them answers.
Conditions: those of each theorem.
-/
set_option linter.unusedVariables false
set_option linter.unusedSimpArgs false
namespace Go.Proofs.YtfmiciodcimkeaaGreatDoor
open Go.AL Go.NumSpec

set_option maxRecDepth 100000 in
/-- provost/provostref07.three -/
theorem ref07_three_ok (S r : List UInt8) (c : Int) (hr : r <:+ S) (hS : S.length ≤ 1000000) : PCalls Tryz.prog 108 [rdR S (r) (c)] (.tup [rdR S ((triRd r c).2.1) ((triRd r c).2.2), resAV (triRd r c).1]) := by
  intro st
  refine ACalls_of (N := 37) Tryz.func108 (by kernel_rfl) rfl rfl rfl ?_
  refine AC_seq ?_
  refine AC_region ?_
  refine AL_step rfl rfl (S_box rfl (.tmp rfl)) ?_
  rintro _ _ ⟨b1, rfl, rfl⟩
  refine AL_step rfl rfl (S_alloc [.string ⟨#[]⟩, .int .i64 0, .int .i64 0] rfl (by kernel_rfl)) ?_
  rintro _ _ ⟨b2, rfl, rfl⟩
  refine AL_step rfl rfl (S_alloc [.int .i64 0, .int .i64 0, .int .i64 0] rfl (by kernel_rfl)) ?_
  rintro _ _ ⟨b3, rfl, rfl⟩
  refine AL_nil ?_
  refine AC_seq ?_
  refine AC_region ?_
  refine AL_step rfl rfl (S_alloc [.int .i64 0, .int .i64 0, .int .i64 0] rfl (by kernel_rfl)) ?_
  rintro _ _ ⟨b4, rfl, rfl⟩
  refine AL_nil ?_
  refine AC_seq ?_
  refine AC_region ?_
  refine AL_p rfl rfl (S_loadN (m := 3) 3 rfl (.tmp rfl) rfl (by kernel_rfl) (by first | exact Nat.le_of_ble_eq_true rfl | (simp; omega) | simp)) ?_
  refine AL_p rfl rfl (S_pcall rfl (AEvs.cons (.tmp rfl) (AEvs.cons (AEv.const _) AEvs.nil)) (ref04_Num_ok S r c hr hS 1099511627776 (by decide))) ?_
  generalize h1 : numR r c 1099511627776 = r1
  have q1 : r1.2.1 <:+ S := by rw [← h1]; exact (numR_suf _ _ _).trans hr
  refine AL_p rfl rfl (S_move rfl (.tmp rfl)) ?_
  refine AL_p rfl rfl (S_extract 0 rfl (.tmp rfl) rfl) ?_
  refine AL_p rfl rfl (S_extract 1 rfl (.tmp rfl) rfl) ?_
  refine AL_step rfl rfl (S_alloc [.string ⟨#[]⟩, .int .i64 0, .int .i64 0] rfl (by kernel_rfl)) ?_
  rintro _ _ ⟨b5, rfl, rfl⟩
  refine AL_step rfl rfl (S_storeW 0 rfl (.tmp rfl) (.tmp rfl) rfl rfl rfl (by kernel_rfl)) ?_
  rintro _ _ ⟨rfl, rfl⟩
  refine AL_p rfl rfl (S_assign rfl (.tmp rfl)) ?_
  refine AL_nil ?_
  refine AC_seq ?_
  refine AC_region ?_
  refine AL_p rfl rfl (S_loadN (m := 3) 0 rfl (.tmp rfl) rfl (by kernel_rfl) (by first | exact Nat.le_of_ble_eq_true rfl | (simp; omega) | simp)) ?_
  refine AL_step rfl rfl (S_storeN 4 rfl (.tmp rfl) (.tmp rfl) rfl (by first | exact Nat.le_of_ble_eq_true rfl | (simp; omega) | simp) (by first | rfl | simp [AV.one, Value.oneCell']) (by kernel_rfl)) ?_
  rintro _ _ ⟨rfl, rfl⟩
  refine AL_nil ?_
  refine AC_seq ?_
  refine AC_region ?_
  refine AL_p rfl rfl (S_move rfl (.tmp rfl)) ?_
  refine AL_p rfl rfl (S_field 0 rfl (.tmp rfl) (by kernel_rfl)) ?_
  refine AL_step rfl rfl (S_store 1 rfl (.tmp rfl) (.tmp rfl) rfl (by first | exact Nat.le_of_ble_eq_true rfl | simp) rfl (by kernel_rfl)) ?_
  rintro _ _ ⟨rfl, rfl⟩
  refine AL_nil ?_
  refine AC_seq ?_
  refine AC_region ?_
  refine AL_p rfl rfl (S_loadN (m := 3) 4 rfl (.tmp rfl) rfl (by kernel_rfl) (by first | exact Nat.le_of_ble_eq_true rfl | (simp; omega) | simp)) ?_
  refine AL_p rfl rfl (S_pcall rfl (AEvs.cons (.tmp rfl) (AEvs.cons (AEv.const _) AEvs.nil)) (ref04_Num_ok S r1.2.1 r1.2.2 q1 hS 1099511627776 (by decide))) ?_
  generalize h2 : numR r1.2.1 r1.2.2 1099511627776 = r2
  have q2 : r2.2.1 <:+ S := by rw [← h2]; exact (numR_suf _ _ _).trans q1
  refine AL_p rfl rfl (S_move rfl (.tmp rfl)) ?_
  refine AL_p rfl rfl (S_extract 0 rfl (.tmp rfl) rfl) ?_
  refine AL_p rfl rfl (S_extract 1 rfl (.tmp rfl) rfl) ?_
  refine AL_step rfl rfl (S_alloc [.string ⟨#[]⟩, .int .i64 0, .int .i64 0] rfl (by kernel_rfl)) ?_
  rintro _ _ ⟨b7, rfl, rfl⟩
  refine AL_step rfl rfl (S_storeW 0 rfl (.tmp rfl) (.tmp rfl) rfl rfl rfl (by kernel_rfl)) ?_
  rintro _ _ ⟨rfl, rfl⟩
  refine AL_p rfl rfl (S_assign rfl (.tmp rfl)) ?_
  refine AL_nil ?_
  refine AC_seq ?_
  refine AC_region ?_
  refine AL_p rfl rfl (S_loadN (m := 3) 0 rfl (.tmp rfl) rfl (by kernel_rfl) (by first | exact Nat.le_of_ble_eq_true rfl | (simp; omega) | simp)) ?_
  refine AL_step rfl rfl (S_storeN 5 rfl (.tmp rfl) (.tmp rfl) rfl (by first | exact Nat.le_of_ble_eq_true rfl | (simp; omega) | simp) (by first | rfl | simp [AV.one, Value.oneCell']) (by kernel_rfl)) ?_
  rintro _ _ ⟨rfl, rfl⟩
  refine AL_nil ?_
  refine AC_seq ?_
  refine AC_region ?_
  refine AL_p rfl rfl (S_move rfl (.tmp rfl)) ?_
  refine AL_p rfl rfl (S_field 1 rfl (.tmp rfl) (by kernel_rfl)) ?_
  refine AL_step rfl rfl (S_store 2 rfl (.tmp rfl) (.tmp rfl) rfl (by first | exact Nat.le_of_ble_eq_true rfl | simp) rfl (by kernel_rfl)) ?_
  rintro _ _ ⟨rfl, rfl⟩
  refine AL_nil ?_
  refine AC_seq ?_
  refine AC_region ?_
  refine AL_p rfl rfl (S_loadN (m := 3) 5 rfl (.tmp rfl) rfl (by kernel_rfl) (by first | exact Nat.le_of_ble_eq_true rfl | (simp; omega) | simp)) ?_
  refine AL_p rfl rfl (S_pcall rfl (AEvs.cons (.tmp rfl) (AEvs.cons (AEv.const _) AEvs.nil)) (ref04_Num_ok S r2.2.1 r2.2.2 q2 hS 1099511627776 (by decide))) ?_
  generalize h3 : numR r2.2.1 r2.2.2 1099511627776 = r3
  have q3 : r3.2.1 <:+ S := by rw [← h3]; exact (numR_suf _ _ _).trans q2
  refine AL_p rfl rfl (S_move rfl (.tmp rfl)) ?_
  refine AL_p rfl rfl (S_extract 0 rfl (.tmp rfl) rfl) ?_
  refine AL_p rfl rfl (S_extract 1 rfl (.tmp rfl) rfl) ?_
  refine AL_step rfl rfl (S_alloc [.string ⟨#[]⟩, .int .i64 0, .int .i64 0] rfl (by kernel_rfl)) ?_
  rintro _ _ ⟨b9, rfl, rfl⟩
  refine AL_step rfl rfl (S_storeW 0 rfl (.tmp rfl) (.tmp rfl) rfl rfl rfl (by kernel_rfl)) ?_
  rintro _ _ ⟨rfl, rfl⟩
  refine AL_p rfl rfl (S_assign rfl (.tmp rfl)) ?_
  refine AL_nil ?_
  refine AC_seq ?_
  refine AC_region ?_
  refine AL_p rfl rfl (S_loadN (m := 3) 0 rfl (.tmp rfl) rfl (by kernel_rfl) (by first | exact Nat.le_of_ble_eq_true rfl | (simp; omega) | simp)) ?_
  refine AL_step rfl rfl (S_storeN 6 rfl (.tmp rfl) (.tmp rfl) rfl (by first | exact Nat.le_of_ble_eq_true rfl | (simp; omega) | simp) (by first | rfl | simp [AV.one, Value.oneCell']) (by kernel_rfl)) ?_
  rintro _ _ ⟨rfl, rfl⟩
  refine AL_nil ?_
  refine AC_seq ?_
  refine AC_region ?_
  refine AL_p rfl rfl (S_move rfl (.tmp rfl)) ?_
  refine AL_p rfl rfl (S_field 2 rfl (.tmp rfl) (by kernel_rfl)) ?_
  refine AL_step rfl rfl (S_store 3 rfl (.tmp rfl) (.tmp rfl) rfl (by first | exact Nat.le_of_ble_eq_true rfl | simp) rfl (by kernel_rfl)) ?_
  rintro _ _ ⟨rfl, rfl⟩
  refine AL_nil ?_
  refine AC_seq ?_
  refine AC_plan (σ := [(0, 0), (1, 0), (2, 1), (3, 2)]) (by kernel_rfl) [(b1, Ob.cells (rdL S r3.2.1 r3.2.2)), (b4, Ob.cells [.int .i64 r1.1, .int .i64 r2.1, .int .i64 r3.1])] (by kernel_rfl) (fun r hr => by simp only [List.mem_cons, List.not_mem_nil, or_false] at hr; rcases hr with rfl | rfl <;> repeat (first | exact List.mem_cons_self | refine List.mem_cons_of_mem _ ?_)) ?_
  refine AG.f rfl rfl (fun st' hst => Q_p rfl (S_loadNM (m := 3) rfl (.tmp rfl) (hst _ (List.mem_of_getElem? (i := 0) rfl)) (by kernel_rfl) (by first | exact Nat.le_of_ble_eq_true rfl | (simp; omega) | simp))) ?_
  refine AG.f rfl rfl (fun st' hst => Q_p rfl (S_loadNM (m := 3) rfl (.tmp rfl) (hst _ (List.mem_of_getElem? (i := 1) rfl)) (by kernel_rfl) (by first | exact Nat.le_of_ble_eq_true rfl | (simp; omega) | simp))) ?_
  refine AG.s rfl rfl rfl (S_storeW 5 rfl (.tmp rfl) (.tmp rfl) rfl rfl rfl (by kernel_rfl)) ?_ ?_
  · rintro _ _ ⟨rfl, rfl⟩ r hr; simp only [List.mem_cons, List.not_mem_nil, or_false] at hr; rcases hr with rfl | rfl <;> repeat (first | exact List.mem_cons_self | refine List.mem_cons_of_mem _ ?_)
  rintro _ _ ⟨rfl, rfl⟩
  refine AG.h rfl rfl rfl (S_storeW 4 rfl (.tmp rfl) (.tmp rfl) rfl rfl rfl (by kernel_rfl)) ?_
  rintro _ _ ⟨rfl, rfl⟩
  refine AG.nil ?_
  refine AC_ret ?_
  refine ret_outs st rfl (by decide) (OutsR.row 5 rfl rfl (by kernel_rfl) (OutsR.row 4 rfl rfl (by kernel_rfl) OutsR.nil)) (Sub.l (List.Sublist.cons _ (List.Sublist.cons _ (List.Sublist.cons _ (List.Sublist.cons _ (List.Sublist.cons _ (List.Sublist.cons _ (List.Sublist.cons _ (List.Sublist.refl _))))))))) (Conv.refl (Sub.l (List.Sublist.cons _ (List.Sublist.cons _ (List.Sublist.cons _ (List.Sublist.cons _ (List.Sublist.cons _ (List.Sublist.cons _ (List.Sublist.cons _ (List.Sublist.refl _))))))))) _) ⟨by subst h3 h2 h1; rfl, rfl⟩ (.inl rfl)

set_option maxRecDepth 100000 in
/-- provost/provostref07.TakeLabels -/
theorem ref07_TakeLabels_ok (S r : List UInt8) (c : Int) (hr : r <:+ S) (hS : S.length ≤ 1000000) : PCalls Tryz.prog 27 [rdR S (r) (c)] (.tup [rdR S ((labsP r c).2.1) ((labsP r c).2.2), .sl (labsV (labsP r c).1)]) := by
  intro st
  refine ACalls_of (N := 49) Tryz.func27 (by kernel_rfl) rfl rfl rfl ?_
  have hn0 := numR_nonneg r c 4
  have hn1 := numR_le (s := r) (c := c) (most := 4)
  have hns : (numR r c 4).2.1 <:+ S := (numR_suf r c 4).trans hr
  refine AC_seq ?_
  refine AC_region ?_
  refine AL_step rfl rfl (S_box rfl (.tmp rfl)) ?_
  rintro _ _ ⟨b1, rfl, rfl⟩
  refine AL_step rfl rfl (S_alloc [.string ⟨#[]⟩, .int .i64 0, .int .i64 0] rfl (by kernel_rfl)) ?_
  rintro _ _ ⟨b2, rfl, rfl⟩
  refine AL_p rfl rfl (S_assign rfl (AEv.const _)) ?_
  refine AL_nil ?_
  refine AC_seq ?_
  refine AC_region ?_
  refine AL_p rfl rfl (S_assign rfl (AEv.const _)) ?_
  refine AL_nil ?_
  refine AC_seq ?_
  refine AC_region ?_
  refine AL_p rfl rfl (S_loadN (m := 3) 1 rfl (.tmp rfl) rfl (by kernel_rfl) (by first | exact Nat.le_of_ble_eq_true rfl | (simp; omega) | simp)) ?_
  refine AL_p rfl rfl (S_pcall rfl (AEvs.cons (.tmp rfl) (AEvs.cons (AEv.const _) AEvs.nil)) (ref04_Num_ok S r c hr hS 4 (by decide))) ?_
  refine AL_p rfl rfl (S_move rfl (.tmp rfl)) ?_
  refine AL_p rfl rfl (S_extract 0 rfl (.tmp rfl) rfl) ?_
  refine AL_p rfl rfl (S_extract 1 rfl (.tmp rfl) rfl) ?_
  refine AL_step rfl rfl (S_storeN 1 rfl (.tmp rfl) (.tmp rfl) rfl (by first | exact Nat.le_of_ble_eq_true rfl | (simp; omega) | simp) (by first | rfl | simp [AV.one, Value.oneCell']) (by kernel_rfl)) ?_
  rintro _ _ ⟨rfl, rfl⟩
  refine AL_p rfl rfl (S_assign rfl (.tmp rfl)) ?_
  refine AL_nil ?_
  refine AC_seq ?_
  refine AC_seq ?_
  refine AC_region ?_
  refine AL_p rfl rfl (S_assign rfl (AEv.const _)) ?_
  refine AL_nil ?_
  refine AC_block ?_
  refine AC_loopK (G := Nat × List Lab × List UInt8 × Int × Own) [(1, _), (2, _), (3, _), (5, _)] (fun g => PIv labRd (numR r c 4).1.toNat (numR r c 4).2.1 (numR r c 4).2.2 g.1 g.2.1 g.2.2.1 g.2.2.2.1 ∧ g.2.2.2.2.ok (g.2.1.map labAV) ∧ g.2.2.1 <:+ S) (fun g => [(4, ownAV g.2.2.2.2 2 (g.2.1.map labAV)), (6, .int .i64 (g.1 : Int))]) (fun g => (b2, .cells [.S [], .int .i64 0, .int .i64 0]) :: (b1, .cells (rdL S g.2.2.1 g.2.2.2.1)) :: (ownSt g.2.2.2.2 71 2 ((g.2.1).map labAV) ++ st)) (fun g => (numR r c 4).1.toNat - g.1) ((0, [], (numR r c 4).2.1, (numR r c 4).2.2, .nil)) (⟨pi_start0 _ _ _, rfl, hns⟩) (Sub.l (List.Sublist.refl _)) (.cons rfl (Le.refl _) (.cons rfl (Le.refl _) (.cons rfl (Le.refl _) (.cons rfl (Le.refl _) .nil)))) (.cons rfl (by first | exact Le.refl _ | exact Le.nils | exact Le.row _ _ _ _ | exact Le.of_eq (by first | rfl | (simp; done) | (push_cast; rfl) | (simp; omega))) (.cons rfl (by first | exact Le.refl _ | exact Le.nils | exact Le.row _ _ _ _ | exact Le.of_eq (by first | rfl | (simp; done) | (push_cast; rfl) | (simp; omega))) .nil)) ?_
  rintro ⟨i, out, s', c', p⟩ ⟨hI, hq, hs⟩
  try dsimp only
  simp only [List.cons_append, List.nil_append]
  dsimp only at hI hq hs
  have hI1 := hI.1
  have hI2 := hI.2.1
  refine AC_seq ?_
  refine AC_seq ?_
  refine AC_region ?_
  refine AL_p rfl rfl (S_move rfl (.tmp rfl)) ?_
  refine AL_p rfl rfl (S_move rfl (.tmp rfl)) ?_
  refine AL_p rfl rfl (S_lss rfl (.tmp rfl) (.tmp rfl)) ?_
  refine AL_p rfl rfl (S_move rfl (.tmp rfl)) ?_
  refine AL_g rfl rfl (.tmp rfl) rfl (fun hg3 => S_field 2 rfl (.tmp rfl) (by kernel_rfl)) ?_
  refine AL_g rfl rfl (.tmp rfl) rfl (fun hg6 => S_load 1 rfl (AEv.cond (.tmp rfl) (by first | assumption | exact gdAnd (by assumption) (by assumption))) rfl rfl (by kernel_rfl)) ?_
  refine AL_g rfl rfl (.tmp rfl) rfl (fun hg9 => S_eql rfl (AEv.cond (.tmp rfl) (by first | assumption | exact gdAnd (by assumption) (by assumption))) (AEv.const _)) ?_
  refine AL_p rfl rfl (S_and rfl (.tmp rfl) (fun hp12 => (AEv.cond (.tmp rfl) (by first | assumption | exact gdT hp12 | exact gdF hp12 | exact gdAnd (by assumption) (gdT hp12) | exact gdAnd (by assumption) (gdF hp12))))) ?_
  refine AL_nil ?_
  refine AC_cond (.tmp rfl) (fun hb13 => ?_) (fun hb13 => ?_)
  · try simp only [zA, zO, zN, zM, zP, zQ, zD, zF, gd] at hb13
    have hil : i < (numR r c 4).1.toNat := by omega
    obtain rfl : c' = 0 := by omega
    refine AC_skip ?_
    refine AC_seq ?_
    refine AC_block ?_
    refine AC_seq ?_
    refine AC_region ?_
    refine AL_step rfl rfl (S_alloc [.string ⟨#[]⟩, .string ⟨#[]⟩] rfl (by kernel_rfl)) ?_
    rintro _ _ ⟨b7, rfl, rfl⟩
    refine AL_nil ?_
    refine AC_seq ?_
    refine AC_region ?_
    refine AL_p rfl rfl (S_loadN (m := 3) 2 rfl (.tmp rfl) rfl (by kernel_rfl) (by first | exact Nat.le_of_ble_eq_true rfl | (simp; omega) | simp)) ?_
    refine AL_p rfl rfl (S_pcall rfl (AEvs.cons (.tmp rfl) (AEvs.cons (AEv.const _) AEvs.nil)) (ref04_Text_ok S s' 0 hs hS 33 (by decide))) ?_
    generalize h1 : wtextR s' 0 33 = r1
    have q1 : r1.2.1 <:+ S := by rw [← h1]; exact (wtextR_suf _ _ _).trans hs
    refine AL_p rfl rfl (S_move rfl (.tmp rfl)) ?_
    refine AL_p rfl rfl (S_extract 0 rfl (.tmp rfl) rfl) ?_
    refine AL_p rfl rfl (S_extract 1 rfl (.tmp rfl) rfl) ?_
    refine AL_step rfl rfl (S_alloc [.string ⟨#[]⟩, .int .i64 0, .int .i64 0] rfl (by kernel_rfl)) ?_
    rintro _ _ ⟨b9, rfl, rfl⟩
    refine AL_step rfl rfl (S_storeW 0 rfl (.tmp rfl) (.tmp rfl) rfl rfl rfl (by kernel_rfl)) ?_
    rintro _ _ ⟨rfl, rfl⟩
    refine AL_p rfl rfl (S_assign rfl (.tmp rfl)) ?_
    refine AL_nil ?_
    refine AC_seq ?_
    refine AC_region ?_
    refine AL_p rfl rfl (S_loadN (m := 3) 0 rfl (.tmp rfl) rfl (by kernel_rfl) (by first | exact Nat.le_of_ble_eq_true rfl | (simp; omega) | simp)) ?_
    refine AL_step rfl rfl (S_storeN 3 rfl (.tmp rfl) (.tmp rfl) rfl (by first | exact Nat.le_of_ble_eq_true rfl | (simp; omega) | simp) (by first | rfl | simp [AV.one, Value.oneCell']) (by kernel_rfl)) ?_
    rintro _ _ ⟨rfl, rfl⟩
    refine AL_nil ?_
    refine AC_seq ?_
    refine AC_region ?_
    refine AL_p rfl rfl (S_move rfl (.tmp rfl)) ?_
    refine AL_p rfl rfl (S_field 0 rfl (.tmp rfl) (by kernel_rfl)) ?_
    refine AL_step rfl rfl (S_store 1 rfl (.tmp rfl) (.tmp rfl) rfl (by first | exact Nat.le_of_ble_eq_true rfl | simp) rfl (by kernel_rfl)) ?_
    rintro _ _ ⟨rfl, rfl⟩
    refine AL_nil ?_
    refine AC_seq ?_
    refine AC_region ?_
    refine AL_p rfl rfl (S_loadN (m := 3) 3 rfl (.tmp rfl) rfl (by kernel_rfl) (by first | exact Nat.le_of_ble_eq_true rfl | (simp; omega) | simp)) ?_
    refine AL_p rfl rfl (S_pcall rfl (AEvs.cons (.tmp rfl) (AEvs.cons (AEv.const _) AEvs.nil)) (ref04_Text_ok S r1.2.1 r1.2.2 q1 hS 16 (by decide))) ?_
    generalize h2 : wtextR r1.2.1 r1.2.2 16 = r2
    have q2 : r2.2.1 <:+ S := by rw [← h2]; exact (wtextR_suf _ _ _).trans q1
    refine AL_p rfl rfl (S_move rfl (.tmp rfl)) ?_
    refine AL_p rfl rfl (S_extract 0 rfl (.tmp rfl) rfl) ?_
    refine AL_p rfl rfl (S_extract 1 rfl (.tmp rfl) rfl) ?_
    refine AL_step rfl rfl (S_alloc [.string ⟨#[]⟩, .int .i64 0, .int .i64 0] rfl (by kernel_rfl)) ?_
    rintro _ _ ⟨b10, rfl, rfl⟩
    refine AL_step rfl rfl (S_storeW 0 rfl (.tmp rfl) (.tmp rfl) rfl rfl rfl (by kernel_rfl)) ?_
    rintro _ _ ⟨rfl, rfl⟩
    refine AL_p rfl rfl (S_assign rfl (.tmp rfl)) ?_
    refine AL_nil ?_
    refine AC_seq ?_
    refine AC_region ?_
    refine AL_p rfl rfl (S_loadN (m := 3) 0 rfl (.tmp rfl) rfl (by kernel_rfl) (by first | exact Nat.le_of_ble_eq_true rfl | (simp; omega) | simp)) ?_
    refine AL_step rfl rfl (S_storeN 4 rfl (.tmp rfl) (.tmp rfl) rfl (by first | exact Nat.le_of_ble_eq_true rfl | (simp; omega) | simp) (by first | rfl | simp [AV.one, Value.oneCell']) (by kernel_rfl)) ?_
    rintro _ _ ⟨rfl, rfl⟩
    refine AL_nil ?_
    refine AC_seq ?_
    refine AC_region ?_
    refine AL_p rfl rfl (S_move rfl (.tmp rfl)) ?_
    refine AL_p rfl rfl (S_field 1 rfl (.tmp rfl) (by kernel_rfl)) ?_
    refine AL_step rfl rfl (S_store 2 rfl (.tmp rfl) (.tmp rfl) rfl (by first | exact Nat.le_of_ble_eq_true rfl | simp) rfl (by kernel_rfl)) ?_
    rintro _ _ ⟨rfl, rfl⟩
    refine AL_nil ?_
    refine AC_region ?_
    refine AL_p rfl rfl (S_move rfl (.tmp rfl)) ?_
    refine AL_p rfl rfl (S_loadN (m := 2) 2 rfl (.tmp rfl) rfl (by kernel_rfl) (by first | exact Nat.le_of_ble_eq_true rfl | (simp; omega) | simp)) ?_
    refine AL_p rfl rfl (S_buildSlice (e := 71) 2 rfl (AEvs.cons (.tmp rfl) AEvs.nil) rfl (by kernel_rfl) (by kernel_rfl) (by intro y hy; simp only [List.mem_cons, List.not_mem_nil, or_false] at hy; rcases hy with rfl <;> exact ⟨rfl, rfl⟩) (by decide) (by decide) (by decide)) ?_
    refine AL_step rfl rfl (S_appendM (f := labAV) (l := out) (l2 := [(r1.1, r2.1)]) (e := 71) (size := 2) (bytes := 32) (p := p) ([_, _, _, _, _]) (st) rfl (.tmp rfl) (.tmp rfl) rfl hq (by kernel_rfl) (by simp) (fun _ => ⟨rfl, rfl⟩) (by simp only [List.length_singleton]; omega) (by simp only [List.length_singleton]; omega)) ?_
    rintro _ _ ⟨b8, k8, cap8, hx8, rfl, rfl⟩
    refine AL_p rfl rfl (S_assign rfl (.tmp rfl)) ?_
    refine AL_nil ?_
    refine AC_region ?_
    refine AL_p rfl rfl (S_move rfl (.tmp rfl)) ?_
    refine AL_p rfl rfl (S_addI rfl (.tmp rfl) (AEv.const _) (by omega) (by omega)) ?_
    refine AL_p rfl rfl (S_assign rfl (.tmp rfl)) ?_
    refine AL_nil ?_
    have hfin := labP_eq h1 h2
    refine ⟨(i + 1, out ++ [(r1.1, r2.1)], r2.2.1, r2.2.2, .row b8 k8 cap8), ⟨?_, hx8, q2⟩, by dsimp only; omega, (Sub.l (List.Sublist.cons _ (List.Sublist.cons _ (List.Sublist.cons _ (List.Sublist.refl _))))), (.cons rfl (by first | exact Le.refl _ | exact Le.nils | exact Le.row _ _ _ _ | exact Le.of_eq (by first | rfl | (simp; done) | (push_cast; rfl) | (simp; omega))) (.cons rfl (by first | exact Le.refl _ | exact Le.nils | exact Le.row _ _ _ _ | exact Le.of_eq (by first | rfl | (simp; done) | (push_cast; rfl) | (simp; omega))) .nil)), (.cons rfl (Le.refl _) (.cons rfl (Le.refl _) (.cons rfl (Le.refl _) (.cons rfl (Le.refl _) .nil))))⟩
    have h9 := pi_more hI hil
    rw [hfin] at h9
    exact h9
  try simp only [zA, zO, zN, zM, zP, zQ, zD, zF, gd] at hb13
  have hx : labsP r c = (out, s', c') := pi_stop hI (by omega)
  refine AC_exit ?_
  refine AC_seq ?_
  refine AC_region ?_
  refine AL_p rfl rfl (S_loadN (m := 3) 1 rfl (.tmp rfl) rfl (by kernel_rfl) (by first | exact Nat.le_of_ble_eq_true rfl | (simp; omega) | simp)) ?_
  refine AL_p rfl rfl (S_move rfl (.tmp rfl)) ?_
  refine AL_step rfl rfl (S_storeW 0 rfl (.tmp rfl) (.tmp rfl) rfl rfl rfl (by kernel_rfl)) ?_
  rintro _ _ ⟨rfl, rfl⟩
  refine AL_p rfl rfl (S_assign rfl (.tmp rfl)) ?_
  refine AL_nil ?_
  refine AC_ret ?_
  refine ret_outs st rfl (by decide) (OutsR.row 0 rfl rfl (by kernel_rfl) (OutsR.tmp rfl OutsR.nil)) (Sub.l ((List.sublist_append_right _ _).cons _ |>.cons _)) (Conv.le (Sub.l ((List.sublist_append_right _ _).cons _ |>.cons _)) (Les.tup (.cons (Le.refl _) (.cons (Le_own hq) .nil)))) ⟨by rw [hx]; rfl, rfl⟩ (.inl rfl)

set_option maxRecDepth 100000 in
/-- provost/provostref07.takes -/
theorem ref07_takes_ok (S r : List UInt8) (c : Int) (hr : r <:+ S) (hS : S.length ≤ 1000000) (most : Int) (h0 : 0 ≤ most) (h1m : most ≤ 1000) : PCalls Tryz.prog 74 [rdR S (r) (c), .int .i64 most] (.tup [rdR S ((pallR ctrP most r c).2.1) ((pallR ctrP most r c).2.2), .sl (ctrsV (pallR ctrP most r c).1)]) := by
  intro st
  refine ACalls_of (N := 127) Tryz.func74 (by kernel_rfl) rfl rfl rfl ?_
  have hn0 := numR_nonneg r c most
  have hn1 := numR_le (s := r) (c := c) (most := most)
  have hns : (numR r c most).2.1 <:+ S := (numR_suf r c most).trans hr
  refine AC_seq ?_
  refine AC_region ?_
  refine AL_step rfl rfl (S_box rfl (.tmp rfl)) ?_
  rintro _ _ ⟨b2, rfl, rfl⟩
  refine AL_step rfl rfl (S_alloc [.string ⟨#[]⟩, .int .i64 0, .int .i64 0] rfl (by kernel_rfl)) ?_
  rintro _ _ ⟨b4, rfl, rfl⟩
  refine AL_p rfl rfl (S_assign rfl (AEv.const _)) ?_
  refine AL_nil ?_
  refine AC_seq ?_
  refine AC_region ?_
  refine AL_p rfl rfl (S_assign rfl (AEv.const _)) ?_
  refine AL_nil ?_
  refine AC_seq ?_
  refine AC_region ?_
  refine AL_p rfl rfl (S_loadN (m := 3) 1 rfl (.tmp rfl) rfl (by kernel_rfl) (by first | exact Nat.le_of_ble_eq_true rfl | (simp; omega) | simp)) ?_
  refine AL_p rfl rfl (S_move rfl (.tmp rfl)) ?_
  refine AL_p rfl rfl (S_pcall rfl (AEvs.cons (.tmp rfl) (AEvs.cons (.tmp rfl) AEvs.nil)) (ref04_Num_ok S r c hr hS most ⟨by omega, by omega⟩)) ?_
  refine AL_p rfl rfl (S_move rfl (.tmp rfl)) ?_
  refine AL_p rfl rfl (S_extract 0 rfl (.tmp rfl) rfl) ?_
  refine AL_p rfl rfl (S_extract 1 rfl (.tmp rfl) rfl) ?_
  refine AL_step rfl rfl (S_storeN 1 rfl (.tmp rfl) (.tmp rfl) rfl (by first | exact Nat.le_of_ble_eq_true rfl | (simp; omega) | simp) (by first | rfl | simp [AV.one, Value.oneCell']) (by kernel_rfl)) ?_
  rintro _ _ ⟨rfl, rfl⟩
  refine AL_p rfl rfl (S_assign rfl (.tmp rfl)) ?_
  refine AL_nil ?_
  refine AC_seq ?_
  refine AC_seq ?_
  refine AC_region ?_
  refine AL_p rfl rfl (S_assign rfl (AEv.const _)) ?_
  refine AL_nil ?_
  refine AC_block ?_
  refine AC_loopK (G := Nat × List Ctr × List UInt8 × Int × Own) [(2, _), (4, _), (5, _), (7, _)] (fun g => PIv ctrP (numR r c most).1.toNat (numR r c most).2.1 (numR r c most).2.2 g.1 g.2.1 g.2.2.1 g.2.2.2.1 ∧ g.2.2.2.2.ok (g.2.1.map ctrAV) ∧ g.2.2.1 <:+ S) (fun g => [(6, ownAV g.2.2.2.2 11 (g.2.1.map ctrAV)), (8, .int .i64 (g.1 : Int))]) (fun g => (b4, .cells [.S [], .int .i64 0, .int .i64 0]) :: (b2, .cells (rdL S g.2.2.1 g.2.2.2.1)) :: (ownSt g.2.2.2.2 79 11 ((g.2.1).map ctrAV) ++ st)) (fun g => (numR r c most).1.toNat - g.1) ((0, [], (numR r c most).2.1, (numR r c most).2.2, .nil)) (⟨pi_start0 _ _ _, rfl, hns⟩) (Sub.l (List.Sublist.refl _)) (.cons rfl (Le.refl _) (.cons rfl (Le.refl _) (.cons rfl (Le.refl _) (.cons rfl (Le.refl _) .nil)))) (.cons rfl (by first | exact Le.refl _ | exact Le.nils | exact Le.row _ _ _ _ | exact Le.of_eq (by first | rfl | (simp; done) | (push_cast; rfl) | (simp; omega))) (.cons rfl (by first | exact Le.refl _ | exact Le.nils | exact Le.row _ _ _ _ | exact Le.of_eq (by first | rfl | (simp; done) | (push_cast; rfl) | (simp; omega))) .nil)) ?_
  rintro ⟨i, out, s', c', p⟩ ⟨hI, hq, hs⟩
  try dsimp only
  simp only [List.cons_append, List.nil_append]
  dsimp only at hI hq hs
  have hI1 := hI.1
  have hI2 := hI.2.1
  refine AC_seq ?_
  refine AC_seq ?_
  refine AC_region ?_
  refine AL_p rfl rfl (S_move rfl (.tmp rfl)) ?_
  refine AL_p rfl rfl (S_move rfl (.tmp rfl)) ?_
  refine AL_p rfl rfl (S_lss rfl (.tmp rfl) (.tmp rfl)) ?_
  refine AL_p rfl rfl (S_move rfl (.tmp rfl)) ?_
  refine AL_g rfl rfl (.tmp rfl) rfl (fun hg3 => S_field 2 rfl (.tmp rfl) (by kernel_rfl)) ?_
  refine AL_g rfl rfl (.tmp rfl) rfl (fun hg6 => S_load 1 rfl (AEv.cond (.tmp rfl) (by first | assumption | exact gdAnd (by assumption) (by assumption))) rfl rfl (by kernel_rfl)) ?_
  refine AL_g rfl rfl (.tmp rfl) rfl (fun hg9 => S_eql rfl (AEv.cond (.tmp rfl) (by first | assumption | exact gdAnd (by assumption) (by assumption))) (AEv.const _)) ?_
  refine AL_p rfl rfl (S_and rfl (.tmp rfl) (fun hp12 => (AEv.cond (.tmp rfl) (by first | assumption | exact gdT hp12 | exact gdF hp12 | exact gdAnd (by assumption) (gdT hp12) | exact gdAnd (by assumption) (gdF hp12))))) ?_
  refine AL_nil ?_
  refine AC_cond (.tmp rfl) (fun hb13 => ?_) (fun hb13 => ?_)
  · try simp only [zA, zO, zN, zM, zP, zQ, zD, zF, gd] at hb13
    have hil : i < (numR r c most).1.toNat := by omega
    obtain rfl : c' = 0 := by omega
    refine AC_skip ?_
    refine AC_seq ?_
    refine AC_block ?_
    refine AC_seq ?_
    refine AC_region ?_
    refine AL_step rfl rfl (S_alloc [.string ⟨#[]⟩, .string ⟨#[]⟩, .int .i64 0, .int .i64 0, .int .i64 0, .int .i64 0, .int .i64 0, .int .i64 0, .slice none 0 0, .int .i64 0, .int .i64 0] rfl (by kernel_rfl)) ?_
    rintro _ _ ⟨b9, rfl, rfl⟩
    refine AL_nil ?_
    refine AC_seq ?_
    refine AC_region ?_
    refine AL_p rfl rfl (S_loadN (m := 3) 2 rfl (.tmp rfl) rfl (by kernel_rfl) (by first | exact Nat.le_of_ble_eq_true rfl | (simp; omega) | simp)) ?_
    refine AL_p rfl rfl (S_pcall rfl (AEvs.cons (.tmp rfl) (AEvs.cons (AEv.const _) AEvs.nil)) (ref04_Text_ok S s' 0 hs hS 16 (by decide))) ?_
    generalize h1 : wtextR s' 0 16 = r1
    have q1 : r1.2.1 <:+ S := by rw [← h1]; exact (wtextR_suf _ _ _).trans hs
    refine AL_p rfl rfl (S_move rfl (.tmp rfl)) ?_
    refine AL_p rfl rfl (S_extract 0 rfl (.tmp rfl) rfl) ?_
    refine AL_p rfl rfl (S_extract 1 rfl (.tmp rfl) rfl) ?_
    refine AL_step rfl rfl (S_alloc [.string ⟨#[]⟩, .int .i64 0, .int .i64 0] rfl (by kernel_rfl)) ?_
    rintro _ _ ⟨b10, rfl, rfl⟩
    refine AL_step rfl rfl (S_storeW 0 rfl (.tmp rfl) (.tmp rfl) rfl rfl rfl (by kernel_rfl)) ?_
    rintro _ _ ⟨rfl, rfl⟩
    refine AL_p rfl rfl (S_assign rfl (.tmp rfl)) ?_
    refine AL_nil ?_
    refine AC_seq ?_
    refine AC_region ?_
    refine AL_p rfl rfl (S_loadN (m := 3) 0 rfl (.tmp rfl) rfl (by kernel_rfl) (by first | exact Nat.le_of_ble_eq_true rfl | (simp; omega) | simp)) ?_
    refine AL_step rfl rfl (S_storeN 3 rfl (.tmp rfl) (.tmp rfl) rfl (by first | exact Nat.le_of_ble_eq_true rfl | (simp; omega) | simp) (by first | rfl | simp [AV.one, Value.oneCell']) (by kernel_rfl)) ?_
    rintro _ _ ⟨rfl, rfl⟩
    refine AL_nil ?_
    refine AC_seq ?_
    refine AC_region ?_
    refine AL_p rfl rfl (S_move rfl (.tmp rfl)) ?_
    refine AL_p rfl rfl (S_field 0 rfl (.tmp rfl) (by kernel_rfl)) ?_
    refine AL_step rfl rfl (S_store 1 rfl (.tmp rfl) (.tmp rfl) rfl (by first | exact Nat.le_of_ble_eq_true rfl | simp) rfl (by kernel_rfl)) ?_
    rintro _ _ ⟨rfl, rfl⟩
    refine AL_nil ?_
    refine AC_seq ?_
    refine AC_region ?_
    refine AL_p rfl rfl (S_loadN (m := 3) 3 rfl (.tmp rfl) rfl (by kernel_rfl) (by first | exact Nat.le_of_ble_eq_true rfl | (simp; omega) | simp)) ?_
    refine AL_p rfl rfl (S_pcall rfl (AEvs.cons (.tmp rfl) (AEvs.cons (AEv.const _) AEvs.nil)) (ref04_Text_ok S r1.2.1 r1.2.2 q1 hS 33 (by decide))) ?_
    generalize h2 : wtextR r1.2.1 r1.2.2 33 = r2
    have q2 : r2.2.1 <:+ S := by rw [← h2]; exact (wtextR_suf _ _ _).trans q1
    refine AL_p rfl rfl (S_move rfl (.tmp rfl)) ?_
    refine AL_p rfl rfl (S_extract 0 rfl (.tmp rfl) rfl) ?_
    refine AL_p rfl rfl (S_extract 1 rfl (.tmp rfl) rfl) ?_
    refine AL_step rfl rfl (S_alloc [.string ⟨#[]⟩, .int .i64 0, .int .i64 0] rfl (by kernel_rfl)) ?_
    rintro _ _ ⟨b12, rfl, rfl⟩
    refine AL_step rfl rfl (S_storeW 0 rfl (.tmp rfl) (.tmp rfl) rfl rfl rfl (by kernel_rfl)) ?_
    rintro _ _ ⟨rfl, rfl⟩
    refine AL_p rfl rfl (S_assign rfl (.tmp rfl)) ?_
    refine AL_nil ?_
    refine AC_seq ?_
    refine AC_region ?_
    refine AL_p rfl rfl (S_loadN (m := 3) 0 rfl (.tmp rfl) rfl (by kernel_rfl) (by first | exact Nat.le_of_ble_eq_true rfl | (simp; omega) | simp)) ?_
    refine AL_step rfl rfl (S_storeN 4 rfl (.tmp rfl) (.tmp rfl) rfl (by first | exact Nat.le_of_ble_eq_true rfl | (simp; omega) | simp) (by first | rfl | simp [AV.one, Value.oneCell']) (by kernel_rfl)) ?_
    rintro _ _ ⟨rfl, rfl⟩
    refine AL_nil ?_
    refine AC_seq ?_
    refine AC_region ?_
    refine AL_p rfl rfl (S_move rfl (.tmp rfl)) ?_
    refine AL_p rfl rfl (S_field 1 rfl (.tmp rfl) (by kernel_rfl)) ?_
    refine AL_step rfl rfl (S_store 2 rfl (.tmp rfl) (.tmp rfl) rfl (by first | exact Nat.le_of_ble_eq_true rfl | simp) rfl (by kernel_rfl)) ?_
    rintro _ _ ⟨rfl, rfl⟩
    refine AL_nil ?_
    refine AC_seq ?_
    refine AC_region ?_
    refine AL_p rfl rfl (S_loadN (m := 3) 4 rfl (.tmp rfl) rfl (by kernel_rfl) (by first | exact Nat.le_of_ble_eq_true rfl | (simp; omega) | simp)) ?_
    refine AL_p rfl rfl (S_pcall rfl (AEvs.cons (.tmp rfl) AEvs.nil) (ref07_three_ok S r2.2.1 r2.2.2 q2 hS)) ?_
    generalize h3 : triRd r2.2.1 r2.2.2 = r3
    have q3 : r3.2.1 <:+ S := by rw [← h3]; exact (tri_suf _ _).trans q2
    refine AL_p rfl rfl (S_move rfl (.tmp rfl)) ?_
    refine AL_p rfl rfl (S_extract 0 rfl (.tmp rfl) rfl) ?_
    refine AL_p rfl rfl (S_extract 1 rfl (.tmp rfl) rfl) ?_
    refine AL_step rfl rfl (S_alloc [.string ⟨#[]⟩, .int .i64 0, .int .i64 0] rfl (by kernel_rfl)) ?_
    rintro _ _ ⟨b14, rfl, rfl⟩
    refine AL_step rfl rfl (S_alloc [.int .i64 0, .int .i64 0, .int .i64 0] rfl (by kernel_rfl)) ?_
    rintro _ _ ⟨b15, rfl, rfl⟩
    refine AL_step rfl rfl (S_storeW 1 rfl (.tmp rfl) (.tmp rfl) rfl rfl rfl (by kernel_rfl)) ?_
    rintro _ _ ⟨rfl, rfl⟩
    refine AL_step rfl rfl (S_storeW 0 rfl (.tmp rfl) (.tmp rfl) rfl rfl rfl (by kernel_rfl)) ?_
    rintro _ _ ⟨rfl, rfl⟩
    refine AL_nil ?_
    refine AC_seq ?_
    refine AC_region ?_
    refine AL_p rfl rfl (S_loadN (m := 3) 1 rfl (.tmp rfl) rfl (by kernel_rfl) (by first | exact Nat.le_of_ble_eq_true rfl | (simp; omega) | simp)) ?_
    refine AL_step rfl rfl (S_storeN 6 rfl (.tmp rfl) (.tmp rfl) rfl (by first | exact Nat.le_of_ble_eq_true rfl | (simp; omega) | simp) (by first | rfl | simp [AV.one, Value.oneCell']) (by kernel_rfl)) ?_
    rintro _ _ ⟨rfl, rfl⟩
    refine AL_nil ?_
    refine AC_seq ?_
    refine AC_region ?_
    refine AL_p rfl rfl (S_loadN (m := 3) 0 rfl (.tmp rfl) rfl (by kernel_rfl) (by first | exact Nat.le_of_ble_eq_true rfl | (simp; omega) | simp)) ?_
    refine AL_p rfl rfl (S_field 2 rfl (.tmp rfl) (by kernel_rfl)) ?_
    refine AL_step rfl rfl (S_storeN 4 rfl (.tmp rfl) (.tmp rfl) rfl (by first | exact Nat.le_of_ble_eq_true rfl | (simp; omega) | simp) (by first | rfl | simp [AV.one, Value.oneCell']) (by kernel_rfl)) ?_
    rintro _ _ ⟨rfl, rfl⟩
    refine AL_nil ?_
    refine AC_seq ?_
    refine AC_region ?_
    refine AL_p rfl rfl (S_loadN (m := 3) 6 rfl (.tmp rfl) rfl (by kernel_rfl) (by first | exact Nat.le_of_ble_eq_true rfl | (simp; omega) | simp)) ?_
    refine AL_p rfl rfl (S_pcall rfl (AEvs.cons (.tmp rfl) AEvs.nil) (ref07_three_ok S r3.2.1 r3.2.2 q3 hS)) ?_
    generalize h4 : triRd r3.2.1 r3.2.2 = r4
    have q4 : r4.2.1 <:+ S := by rw [← h4]; exact (tri_suf _ _).trans q3
    refine AL_p rfl rfl (S_move rfl (.tmp rfl)) ?_
    refine AL_p rfl rfl (S_extract 0 rfl (.tmp rfl) rfl) ?_
    refine AL_p rfl rfl (S_extract 1 rfl (.tmp rfl) rfl) ?_
    refine AL_step rfl rfl (S_alloc [.string ⟨#[]⟩, .int .i64 0, .int .i64 0] rfl (by kernel_rfl)) ?_
    rintro _ _ ⟨b16, rfl, rfl⟩
    refine AL_step rfl rfl (S_alloc [.int .i64 0, .int .i64 0, .int .i64 0] rfl (by kernel_rfl)) ?_
    rintro _ _ ⟨b17, rfl, rfl⟩
    refine AL_step rfl rfl (S_storeW 1 rfl (.tmp rfl) (.tmp rfl) rfl rfl rfl (by kernel_rfl)) ?_
    rintro _ _ ⟨rfl, rfl⟩
    refine AL_step rfl rfl (S_storeW 0 rfl (.tmp rfl) (.tmp rfl) rfl rfl rfl (by kernel_rfl)) ?_
    rintro _ _ ⟨rfl, rfl⟩
    refine AL_nil ?_
    refine AC_seq ?_
    refine AC_region ?_
    refine AL_p rfl rfl (S_loadN (m := 3) 1 rfl (.tmp rfl) rfl (by kernel_rfl) (by first | exact Nat.le_of_ble_eq_true rfl | (simp; omega) | simp)) ?_
    refine AL_step rfl rfl (S_storeN 8 rfl (.tmp rfl) (.tmp rfl) rfl (by first | exact Nat.le_of_ble_eq_true rfl | (simp; omega) | simp) (by first | rfl | simp [AV.one, Value.oneCell']) (by kernel_rfl)) ?_
    rintro _ _ ⟨rfl, rfl⟩
    refine AL_nil ?_
    refine AC_seq ?_
    refine AC_region ?_
    refine AL_p rfl rfl (S_loadN (m := 3) 0 rfl (.tmp rfl) rfl (by kernel_rfl) (by first | exact Nat.le_of_ble_eq_true rfl | (simp; omega) | simp)) ?_
    refine AL_p rfl rfl (S_field 5 rfl (.tmp rfl) (by kernel_rfl)) ?_
    refine AL_step rfl rfl (S_storeN 6 rfl (.tmp rfl) (.tmp rfl) rfl (by first | exact Nat.le_of_ble_eq_true rfl | (simp; omega) | simp) (by first | rfl | simp [AV.one, Value.oneCell']) (by kernel_rfl)) ?_
    rintro _ _ ⟨rfl, rfl⟩
    refine AL_nil ?_
    refine AC_seq ?_
    refine AC_region ?_
    refine AL_p rfl rfl (S_loadN (m := 3) 8 rfl (.tmp rfl) rfl (by kernel_rfl) (by first | exact Nat.le_of_ble_eq_true rfl | (simp; omega) | simp)) ?_
    refine AL_p rfl rfl (S_pcall rfl (AEvs.cons (.tmp rfl) (AEvs.cons (AEv.const _) AEvs.nil)) (ref04_Num_ok S r4.2.1 r4.2.2 q4 hS 3 (by decide))) ?_
    generalize h5 : numR r4.2.1 r4.2.2 3 = r5
    have q5 : r5.2.1 <:+ S := by rw [← h5]; exact (numR_suf _ _ _).trans q4
    have hp0 : 0 ≤ r5.1 := by rw [← h5]; exact numR_nonneg _ _ _
    have hp1 : r5.1 ≤ 3 := by rw [← h5]; have := numR_le (s := r4.2.1) (c := r4.2.2) (most := 3); omega
    refine AL_p rfl rfl (S_move rfl (.tmp rfl)) ?_
    refine AL_p rfl rfl (S_extract 0 rfl (.tmp rfl) rfl) ?_
    refine AL_p rfl rfl (S_extract 1 rfl (.tmp rfl) rfl) ?_
    refine AL_step rfl rfl (S_alloc [.string ⟨#[]⟩, .int .i64 0, .int .i64 0] rfl (by kernel_rfl)) ?_
    rintro _ _ ⟨b18, rfl, rfl⟩
    refine AL_step rfl rfl (S_storeW 0 rfl (.tmp rfl) (.tmp rfl) rfl rfl rfl (by kernel_rfl)) ?_
    rintro _ _ ⟨rfl, rfl⟩
    refine AL_p rfl rfl (S_assign rfl (.tmp rfl)) ?_
    refine AL_nil ?_
    refine AC_seq ?_
    refine AC_region ?_
    refine AL_p rfl rfl (S_loadN (m := 3) 0 rfl (.tmp rfl) rfl (by kernel_rfl) (by first | exact Nat.le_of_ble_eq_true rfl | (simp; omega) | simp)) ?_
    refine AL_step rfl rfl (S_storeN 9 rfl (.tmp rfl) (.tmp rfl) rfl (by first | exact Nat.le_of_ble_eq_true rfl | (simp; omega) | simp) (by first | rfl | simp [AV.one, Value.oneCell']) (by kernel_rfl)) ?_
    rintro _ _ ⟨rfl, rfl⟩
    refine AL_nil ?_
    refine AC_seq ?_
    refine AC_seq ?_
    refine AC_region ?_
    refine AL_p rfl rfl (S_assign rfl (AEv.const _)) ?_
    refine AL_nil ?_
    refine AC_block ?_
    refine AC_loopK (G := Nat × List Int × List UInt8 × Int × Own) [(2, _), (4, _), (5, _), (6, _), (7, _), (8, _), (9, _), (19, _)] (fun g => PIv (numRd 65535) r5.1.toNat r5.2.1 r5.2.2 g.1 g.2.1 g.2.2.1 g.2.2.2.1 ∧ g.2.2.2.2.ok (intsV g.2.1) ∧ g.2.2.1 <:+ S) (fun g => [(20, .int .i64 (g.1 : Int))]) (fun g => (b9, .cells [.S r1.1, .S r2.1, .int .i64 r3.1.1, .int .i64 r3.1.2.1, .int .i64 r3.1.2.2, .int .i64 r4.1.1, .int .i64 r4.1.2.1, .int .i64 r4.1.2.2, ownAV g.2.2.2.2 1 (intsV g.2.1), .int .i64 0, .int .i64 0]) :: (b4, .cells [.S [], .int .i64 0, .int .i64 0]) :: (b2, .cells (rdL S g.2.2.1 g.2.2.2.1)) :: (ownSt g.2.2.2.2 3 1 (intsV g.2.1) ++ (ownSt p 79 11 ((out).map ctrAV) ++ st))) (fun g => r5.1.toNat - g.1) ((0, [], r5.2.1, r5.2.2, .nil)) (⟨pi_start0 _ _ _, rfl, q5⟩) (Sub.l (List.Sublist.cons _ (List.Sublist.cons _ (List.Sublist.cons _ (List.Sublist.cons _ (List.Sublist.cons _ (List.Sublist.cons _ (List.Sublist.cons _ (List.Sublist.refl _))))))))) (.cons rfl (Le.refl _) (.cons rfl (Le.refl _) (.cons rfl (Le.refl _) (.cons rfl (Le.refl _) (.cons rfl (Le.refl _) (.cons rfl (Le.refl _) (.cons rfl (Le.refl _) (.cons rfl (Le.refl _) .nil)))))))) (.cons rfl (by first | exact Le.refl _ | exact Le.nils | exact Le.row _ _ _ _ | exact Le.of_eq (by first | rfl | (simp; done) | (push_cast; rfl) | (simp; omega))) .nil) ?_
    rintro ⟨j, outp, s2, c2, q⟩ ⟨hI9, hq9, hs2⟩
    try dsimp only
    simp only [List.cons_append, List.nil_append]
    dsimp only at hI9 hq9 hs2
    have hI91 := hI9.1
    have hI92 := hI9.2.1
    refine AC_seq ?_
    refine AC_seq ?_
    refine AC_region ?_
    refine AL_p rfl rfl (S_move rfl (.tmp rfl)) ?_
    refine AL_p rfl rfl (S_move rfl (.tmp rfl)) ?_
    refine AL_p rfl rfl (S_lss rfl (.tmp rfl) (.tmp rfl)) ?_
    refine AL_p rfl rfl (S_move rfl (.tmp rfl)) ?_
    refine AL_g rfl rfl (.tmp rfl) rfl (fun hg22 => S_field 2 rfl (.tmp rfl) (by kernel_rfl)) ?_
    refine AL_g rfl rfl (.tmp rfl) rfl (fun hg25 => S_load 2 rfl (AEv.cond (.tmp rfl) (by first | assumption | exact gdAnd (by assumption) (by assumption))) rfl rfl (by kernel_rfl)) ?_
    refine AL_g rfl rfl (.tmp rfl) rfl (fun hg28 => S_eql rfl (AEv.cond (.tmp rfl) (by first | assumption | exact gdAnd (by assumption) (by assumption))) (AEv.const _)) ?_
    refine AL_p rfl rfl (S_and rfl (.tmp rfl) (fun hp31 => (AEv.cond (.tmp rfl) (by first | assumption | exact gdT hp31 | exact gdF hp31 | exact gdAnd (by assumption) (gdT hp31) | exact gdAnd (by assumption) (gdF hp31))))) ?_
    refine AL_nil ?_
    refine AC_cond (.tmp rfl) (fun hb32 => ?_) (fun hb32 => ?_)
    · try simp only [zA, zO, zN, zM, zP, zQ, zD, zF, gd] at hb32
      have hjl : j < r5.1.toNat := by omega
      obtain rfl : c2 = 0 := by omega
      refine AC_skip ?_
      refine AC_seq ?_
      refine AC_block ?_
      refine AC_seq ?_
      refine AC_region ?_
      refine AL_p rfl rfl (S_loadN (m := 3) 2 rfl (.tmp rfl) rfl (by kernel_rfl) (by first | exact Nat.le_of_ble_eq_true rfl | (simp; omega) | simp)) ?_
      refine AL_p rfl rfl (S_pcall rfl (AEvs.cons (.tmp rfl) (AEvs.cons (AEv.const _) AEvs.nil)) (ref04_Num_ok S s2 0 hs2 hS 65535 (by decide))) ?_
      refine AL_p rfl rfl (S_move rfl (.tmp rfl)) ?_
      refine AL_p rfl rfl (S_extract 0 rfl (.tmp rfl) rfl) ?_
      refine AL_p rfl rfl (S_extract 1 rfl (.tmp rfl) rfl) ?_
      refine AL_step rfl rfl (S_alloc [.string ⟨#[]⟩, .int .i64 0, .int .i64 0] rfl (by kernel_rfl)) ?_
      rintro _ _ ⟨b21, rfl, rfl⟩
      refine AL_step rfl rfl (S_storeW 0 rfl (.tmp rfl) (.tmp rfl) rfl rfl rfl (by kernel_rfl)) ?_
      rintro _ _ ⟨rfl, rfl⟩
      refine AL_p rfl rfl (S_assign rfl (.tmp rfl)) ?_
      refine AL_nil ?_
      refine AC_seq ?_
      refine AC_region ?_
      refine AL_p rfl rfl (S_loadN (m := 3) 0 rfl (.tmp rfl) rfl (by kernel_rfl) (by first | exact Nat.le_of_ble_eq_true rfl | (simp; omega) | simp)) ?_
      refine AL_step rfl rfl (S_storeN 3 rfl (.tmp rfl) (.tmp rfl) rfl (by first | exact Nat.le_of_ble_eq_true rfl | (simp; omega) | simp) (by first | rfl | simp [AV.one, Value.oneCell']) (by kernel_rfl)) ?_
      rintro _ _ ⟨rfl, rfl⟩
      refine AL_nil ?_
      refine AC_region ?_
      refine AL_p rfl rfl (S_field 8 rfl (.tmp rfl) (by kernel_rfl)) ?_
      refine AL_p rfl rfl (S_load 1 rfl (.tmp rfl) rfl rfl (by kernel_rfl)) ?_
      refine AL_p rfl rfl (S_move rfl (.tmp rfl)) ?_
      refine AL_p rfl rfl (S_buildSlice (e := 3) 1 rfl (AEvs.cons (.tmp rfl) AEvs.nil) rfl (by kernel_rfl) (by kernel_rfl) (by intro y hy; simp only [List.mem_cons, List.not_mem_nil, or_false] at hy; rcases hy with rfl <;> exact ⟨rfl, rfl⟩) (by decide) (by decide) (by decide)) ?_
      refine AL_step rfl rfl (S_appendM (f := (fun n : Int => AV.int .i64 n)) (l := outp) (l2 := [(numR s2 0 65535).1]) (e := 3) (size := 1) (bytes := 8) (p := q) ([_, _, _, _]) (ownSt p 79 11 ((out).map ctrAV) ++ st) rfl (.tmp rfl) (.tmp rfl) rfl hq9 (by kernel_rfl) (by simp) (fun _ => ⟨rfl, rfl⟩) (by simp only [List.length_singleton]; omega) (by simp only [List.length_singleton]; omega)) ?_
      rintro _ _ ⟨b8, k8, cap8, hx8, rfl, rfl⟩
      refine AL_p rfl rfl (S_field 8 rfl (.tmp rfl) (by kernel_rfl)) ?_
      refine AL_step rfl rfl (S_store 1 rfl (.tmp rfl) (.tmp rfl) rfl (by first | exact Nat.le_of_ble_eq_true rfl | simp) (by first | rfl | exact ownAV_one _ _ _) (by kernel_rfl)) ?_
      rintro _ _ ⟨rfl, rfl⟩
      refine AL_nil ?_
      refine AC_region ?_
      refine AL_p rfl rfl (S_move rfl (.tmp rfl)) ?_
      refine AL_p rfl rfl (S_addI rfl (.tmp rfl) (AEv.const _) (by omega) (by omega)) ?_
      refine AL_p rfl rfl (S_assign rfl (.tmp rfl)) ?_
      refine AL_nil ?_
      refine ⟨(j + 1, outp ++ [(numR s2 0 65535).1], (numR s2 0 65535).2.1, (numR s2 0 65535).2.2, .row b8 k8 cap8), ⟨pi_more hI9 hjl, hx8, (numR_suf _ _ _).trans hs2⟩, by dsimp only; omega, (Sub.l (List.Sublist.cons _ (List.Sublist.refl _))), (.cons rfl (by first | exact Le.refl _ | exact Le.nils | exact Le.row _ _ _ _ | exact Le.of_eq (by first | rfl | (simp; done) | (push_cast; rfl) | (simp; omega))) .nil), (.cons rfl (Le.refl _) (.cons rfl (Le.refl _) (.cons rfl (Le.refl _) (.cons rfl (Le.refl _) (.cons rfl (Le.refl _) (.cons rfl (Le.refl _) (.cons rfl (Le.refl _) (.cons rfl (Le.refl _) .nil))))))))⟩
    try simp only [zA, zO, zN, zM, zP, zQ, zD, zF, gd] at hb32
    have hpp := pi_stop hI9 (by omega)
    refine AC_exit ?_
    refine AC_seq ?_
    refine AC_region ?_
    refine AL_p rfl rfl (S_loadN (m := 3) 2 rfl (.tmp rfl) rfl (by kernel_rfl) (by first | exact Nat.le_of_ble_eq_true rfl | (simp; omega) | simp)) ?_
    refine AL_p rfl rfl (S_pcall rfl (AEvs.cons (.tmp rfl) (AEvs.cons (AEv.const _) AEvs.nil)) (ref04_Num_ok S s2 c2 hs2 hS 1000 (by decide))) ?_
    generalize h6 : numR s2 c2 1000 = r6
    have q6 : r6.2.1 <:+ S := by rw [← h6]; exact (numR_suf _ _ _).trans hs2
    refine AL_p rfl rfl (S_move rfl (.tmp rfl)) ?_
    refine AL_p rfl rfl (S_extract 0 rfl (.tmp rfl) rfl) ?_
    refine AL_p rfl rfl (S_extract 1 rfl (.tmp rfl) rfl) ?_
    refine AL_step rfl rfl (S_alloc [.string ⟨#[]⟩, .int .i64 0, .int .i64 0] rfl (by kernel_rfl)) ?_
    rintro _ _ ⟨b23, rfl, rfl⟩
    refine AL_step rfl rfl (S_storeW 0 rfl (.tmp rfl) (.tmp rfl) rfl rfl rfl (by kernel_rfl)) ?_
    rintro _ _ ⟨rfl, rfl⟩
    refine AL_p rfl rfl (S_assign rfl (.tmp rfl)) ?_
    refine AL_nil ?_
    refine AC_seq ?_
    refine AC_region ?_
    refine AL_p rfl rfl (S_loadN (m := 3) 0 rfl (.tmp rfl) rfl (by kernel_rfl) (by first | exact Nat.le_of_ble_eq_true rfl | (simp; omega) | simp)) ?_
    refine AL_step rfl rfl (S_storeN 3 rfl (.tmp rfl) (.tmp rfl) rfl (by first | exact Nat.le_of_ble_eq_true rfl | (simp; omega) | simp) (by first | rfl | simp [AV.one, Value.oneCell']) (by kernel_rfl)) ?_
    rintro _ _ ⟨rfl, rfl⟩
    refine AL_nil ?_
    refine AC_seq ?_
    refine AC_region ?_
    refine AL_p rfl rfl (S_move rfl (.tmp rfl)) ?_
    refine AL_p rfl rfl (S_field 9 rfl (.tmp rfl) (by kernel_rfl)) ?_
    refine AL_p rfl rfl (S_field 0 rfl (.tmp rfl) (by kernel_rfl)) ?_
    refine AL_step rfl rfl (S_store 1 rfl (.tmp rfl) (.tmp rfl) rfl (by first | exact Nat.le_of_ble_eq_true rfl | simp) rfl (by kernel_rfl)) ?_
    rintro _ _ ⟨rfl, rfl⟩
    refine AL_nil ?_
    refine AC_seq ?_
    refine AC_region ?_
    refine AL_p rfl rfl (S_loadN (m := 3) 3 rfl (.tmp rfl) rfl (by kernel_rfl) (by first | exact Nat.le_of_ble_eq_true rfl | (simp; omega) | simp)) ?_
    refine AL_p rfl rfl (S_pcall rfl (AEvs.cons (.tmp rfl) (AEvs.cons (AEv.const _) AEvs.nil)) (ref04_Num_ok S r6.2.1 r6.2.2 q6 hS 10 (by decide))) ?_
    generalize h7 : numR r6.2.1 r6.2.2 10 = r7
    have q7 : r7.2.1 <:+ S := by rw [← h7]; exact (numR_suf _ _ _).trans q6
    refine AL_p rfl rfl (S_move rfl (.tmp rfl)) ?_
    refine AL_p rfl rfl (S_extract 0 rfl (.tmp rfl) rfl) ?_
    refine AL_p rfl rfl (S_extract 1 rfl (.tmp rfl) rfl) ?_
    refine AL_step rfl rfl (S_alloc [.string ⟨#[]⟩, .int .i64 0, .int .i64 0] rfl (by kernel_rfl)) ?_
    rintro _ _ ⟨b25, rfl, rfl⟩
    refine AL_step rfl rfl (S_storeW 0 rfl (.tmp rfl) (.tmp rfl) rfl rfl rfl (by kernel_rfl)) ?_
    rintro _ _ ⟨rfl, rfl⟩
    refine AL_p rfl rfl (S_assign rfl (.tmp rfl)) ?_
    refine AL_nil ?_
    refine AC_seq ?_
    refine AC_region ?_
    refine AL_p rfl rfl (S_loadN (m := 3) 0 rfl (.tmp rfl) rfl (by kernel_rfl) (by first | exact Nat.le_of_ble_eq_true rfl | (simp; omega) | simp)) ?_
    refine AL_step rfl rfl (S_storeN 4 rfl (.tmp rfl) (.tmp rfl) rfl (by first | exact Nat.le_of_ble_eq_true rfl | (simp; omega) | simp) (by first | rfl | simp [AV.one, Value.oneCell']) (by kernel_rfl)) ?_
    rintro _ _ ⟨rfl, rfl⟩
    refine AL_nil ?_
    refine AC_seq ?_
    refine AC_region ?_
    refine AL_p rfl rfl (S_move rfl (.tmp rfl)) ?_
    refine AL_p rfl rfl (S_field 9 rfl (.tmp rfl) (by kernel_rfl)) ?_
    refine AL_p rfl rfl (S_field 1 rfl (.tmp rfl) (by kernel_rfl)) ?_
    refine AL_step rfl rfl (S_store 2 rfl (.tmp rfl) (.tmp rfl) rfl (by first | exact Nat.le_of_ble_eq_true rfl | simp) rfl (by kernel_rfl)) ?_
    rintro _ _ ⟨rfl, rfl⟩
    refine AL_nil ?_
    refine AC_region ?_
    refine AL_p rfl rfl (S_move rfl (.tmp rfl)) ?_
    refine AL_p rfl rfl ((S_loadN (m := 11) 2 rfl (.tmp rfl) rfl (by kernel_rfl) (by exact Nat.le_of_ble_eq_true rfl)).leV (V' := ctrAV (⟨r1.1, r2.1, r3.1, r4.1, outp, (r6.1, r7.1)⟩ : Ctr)) (by exact (Les.agg (.cons (Le.refl _) (.cons (Le.refl _) (.cons (Le.refl _) (.cons (Le.refl _) (.cons (Le.refl _) (.cons (Le.refl _) (.cons (Le.refl _) (.cons (Le.refl _) (.cons (Le_own hq9) (.cons (Le.refl _) (.cons (Le.refl _) .nil)))))))))))))) ?_
    refine AL_p rfl rfl (S_buildSlice (e := 79) 11 rfl (AEvs.cons (.tmp rfl) AEvs.nil) rfl (by kernel_rfl) (by kernel_rfl) (by intro y hy; simp only [List.mem_cons, List.not_mem_nil, or_false] at hy; rcases hy with rfl <;> exact ⟨rfl, rfl⟩) (by decide) (by decide) (by decide)) ?_
    refine AL_step rfl rfl (S_appendM (f := ctrAV) (l := out) (l2 := [(⟨r1.1, r2.1, r3.1, r4.1, outp, (r6.1, r7.1)⟩ : Ctr)]) (e := 79) (size := 11) (bytes := 120) (p := p) ([_, _, _, _, _] ++ ownSt q 3 1 (intsV outp)) (st) rfl (.tmp rfl) (.tmp rfl) (List.append_assoc [_, _, _, _, _] _ _).symm hq (by kernel_rfl) (by simp) (fun _ => ⟨rfl, rfl⟩) (by simp only [List.length_singleton]; omega) (by simp only [List.length_singleton]; omega)) ?_
    rintro _ _ ⟨b8, k8, cap8, hx8, rfl, rfl⟩
    refine AL_p rfl rfl (S_assign rfl (.tmp rfl)) ?_
    refine AL_nil ?_
    refine AC_region ?_
    refine AL_p rfl rfl (S_move rfl (.tmp rfl)) ?_
    refine AL_p rfl rfl (S_addI rfl (.tmp rfl) (AEv.const _) (by omega) (by omega)) ?_
    refine AL_p rfl rfl (S_assign rfl (.tmp rfl)) ?_
    refine AL_nil ?_
    have hfin := ctrP_eq h1 h2 h3 h4 h5 hpp h6 h7
    refine ⟨(i + 1, out ++ [(⟨r1.1, r2.1, r3.1, r4.1, outp, (r6.1, r7.1)⟩ : Ctr)], r7.2.1, r7.2.2, .row b8 k8 cap8), ⟨?_, hx8, q7⟩, by dsimp only; omega, Sub.l (by rw [List.append_assoc]; exact .cons _ (.cons _ (.cons _ (.cons_cons _ (.cons_cons _ (List.sublist_append_right _ _)))))), (.cons rfl (by first | exact Le.refl _ | exact Le.nils | exact Le.row _ _ _ _ | exact Le.of_eq (by first | rfl | (simp; done) | (push_cast; rfl) | (simp; omega))) (.cons rfl (by first | exact Le.refl _ | exact Le.nils | exact Le.row _ _ _ _ | exact Le.of_eq (by first | rfl | (simp; done) | (push_cast; rfl) | (simp; omega))) .nil)), (.cons rfl (Le.refl _) (.cons rfl (Le.refl _) (.cons rfl (Le.refl _) (.cons rfl (Le.refl _) .nil))))⟩
    have h9 := pi_more hI hil
    rw [hfin] at h9
    exact h9
  try simp only [zA, zO, zN, zM, zP, zQ, zD, zF, gd] at hb13
  have hx : pallR ctrP most r c = (out, s', c') := pi_stop hI (by omega)
  refine AC_exit ?_
  refine AC_seq ?_
  refine AC_region ?_
  refine AL_p rfl rfl (S_loadN (m := 3) 1 rfl (.tmp rfl) rfl (by kernel_rfl) (by first | exact Nat.le_of_ble_eq_true rfl | (simp; omega) | simp)) ?_
  refine AL_p rfl rfl (S_move rfl (.tmp rfl)) ?_
  refine AL_step rfl rfl (S_storeW 0 rfl (.tmp rfl) (.tmp rfl) rfl rfl rfl (by kernel_rfl)) ?_
  rintro _ _ ⟨rfl, rfl⟩
  refine AL_p rfl rfl (S_assign rfl (.tmp rfl)) ?_
  refine AL_nil ?_
  refine AC_ret ?_
  refine ret_outs st rfl (by decide) (OutsR.row 0 rfl rfl (by kernel_rfl) (OutsR.tmp rfl OutsR.nil)) (Sub.l ((List.sublist_append_right _ _).cons _ |>.cons _)) (Conv.le (Sub.l ((List.sublist_append_right _ _).cons _ |>.cons _)) (Les.tup (.cons (Le.refl _) (.cons (Le_own hq) .nil)))) ⟨by rw [hx]; rfl, rfl⟩ (.inl rfl)

set_option maxRecDepth 100000 in
set_option maxHeartbeats 4000000 in
/-- provost/provostref07.Take -/
theorem ref07_Take_ok (S r : List UInt8) (c : Int) (hr : r <:+ S) (hS : S.length ≤ 1000000) : PCalls Tryz.prog 33 [rdR S (r) (c)] (.tup [rdR S ((spcP r c).2.1) ((spcP r c).2.2), spcAV (spcP r c).1]) := by
  intro st
  refine ACalls_of (N := 77) Tryz.func33 (by kernel_rfl) rfl rfl rfl ?_
  refine AC_seq ?_
  refine AC_region ?_
  refine AL_step rfl rfl (S_box rfl (.tmp rfl)) ?_
  rintro _ _ ⟨b1, rfl, rfl⟩
  refine AL_step rfl rfl (S_alloc [.string ⟨#[]⟩, .int .i64 0, .int .i64 0] rfl (by kernel_rfl)) ?_
  rintro _ _ ⟨b2, rfl, rfl⟩
  refine AL_step rfl rfl (S_alloc [.string ⟨#[]⟩, .slice none 0 0, .slice none 0 0, .slice none 0 0, .int .i64 0, .int .i64 0, .int .i64 0] rfl (by kernel_rfl)) ?_
  rintro _ _ ⟨b3, rfl, rfl⟩
  refine AL_nil ?_
  refine AC_seq ?_
  refine AC_region ?_
  refine AL_step rfl rfl (S_alloc [.string ⟨#[]⟩, .slice none 0 0, .slice none 0 0, .slice none 0 0, .int .i64 0, .int .i64 0, .int .i64 0] rfl (by kernel_rfl)) ?_
  rintro _ _ ⟨b4, rfl, rfl⟩
  refine AL_nil ?_
  refine AC_seq ?_
  refine AC_region ?_
  refine AL_p rfl rfl (S_loadN (m := 3) 3 rfl (.tmp rfl) rfl (by kernel_rfl) (by first | exact Nat.le_of_ble_eq_true rfl | (simp; omega) | simp)) ?_
  refine AL_p rfl rfl (S_pcall rfl (AEvs.cons (.tmp rfl) (AEvs.cons (AEv.const _) AEvs.nil)) (ref04_Text_ok S r c hr hS 16 (by decide))) ?_
  generalize h1 : wtextR r c 16 = r1
  have q1 : r1.2.1 <:+ S := by rw [← h1]; exact (wtextR_suf _ _ _).trans hr
  refine AL_p rfl rfl (S_move rfl (.tmp rfl)) ?_
  refine AL_p rfl rfl (S_extract 0 rfl (.tmp rfl) rfl) ?_
  refine AL_p rfl rfl (S_extract 1 rfl (.tmp rfl) rfl) ?_
  refine AL_step rfl rfl (S_alloc [.string ⟨#[]⟩, .int .i64 0, .int .i64 0] rfl (by kernel_rfl)) ?_
  rintro _ _ ⟨b5, rfl, rfl⟩
  refine AL_step rfl rfl (S_storeW 0 rfl (.tmp rfl) (.tmp rfl) rfl rfl rfl (by kernel_rfl)) ?_
  rintro _ _ ⟨rfl, rfl⟩
  refine AL_p rfl rfl (S_assign rfl (.tmp rfl)) ?_
  refine AL_nil ?_
  refine AC_seq ?_
  refine AC_region ?_
  refine AL_p rfl rfl (S_loadN (m := 3) 0 rfl (.tmp rfl) rfl (by kernel_rfl) (by first | exact Nat.le_of_ble_eq_true rfl | (simp; omega) | simp)) ?_
  refine AL_step rfl rfl (S_storeN 4 rfl (.tmp rfl) (.tmp rfl) rfl (by first | exact Nat.le_of_ble_eq_true rfl | (simp; omega) | simp) (by first | rfl | simp [AV.one, Value.oneCell']) (by kernel_rfl)) ?_
  rintro _ _ ⟨rfl, rfl⟩
  refine AL_nil ?_
  refine AC_seq ?_
  refine AC_region ?_
  refine AL_p rfl rfl (S_move rfl (.tmp rfl)) ?_
  refine AL_p rfl rfl (S_field 0 rfl (.tmp rfl) (by kernel_rfl)) ?_
  refine AL_step rfl rfl (S_store 1 rfl (.tmp rfl) (.tmp rfl) rfl (by first | exact Nat.le_of_ble_eq_true rfl | simp) rfl (by kernel_rfl)) ?_
  rintro _ _ ⟨rfl, rfl⟩
  refine AL_nil ?_
  refine AC_seq ?_
  refine AC_region ?_
  refine AL_p rfl rfl (S_loadN (m := 3) 4 rfl (.tmp rfl) rfl (by kernel_rfl) (by first | exact Nat.le_of_ble_eq_true rfl | (simp; omega) | simp)) ?_
  refine AL_p rfl rfl (S_pcall rfl (AEvs.cons (.tmp rfl) AEvs.nil) (ref07_TakeLabels_ok S r1.2.1 r1.2.2 q1 hS)) ?_
  generalize h2 : labsP r1.2.1 r1.2.2 = r2
  have q2 : r2.2.1 <:+ S := by rw [← h2]; exact (pall_suf lab_suf 4 _ _).trans q1
  refine AL_p rfl rfl (S_move rfl (.tmp rfl)) ?_
  refine AL_p rfl rfl (S_extract 0 rfl (.tmp rfl) rfl) ?_
  refine AL_p rfl rfl (S_extract 1 rfl (.tmp rfl) rfl) ?_
  refine AL_step rfl rfl (S_alloc [.string ⟨#[]⟩, .int .i64 0, .int .i64 0] rfl (by kernel_rfl)) ?_
  rintro _ _ ⟨b7, rfl, rfl⟩
  refine AL_step rfl rfl (S_storeW 0 rfl (.tmp rfl) (.tmp rfl) rfl rfl rfl (by kernel_rfl)) ?_
  rintro _ _ ⟨rfl, rfl⟩
  refine AL_p rfl rfl (S_assign rfl (.tmp rfl)) ?_
  refine AL_nil ?_
  refine AC_seq ?_
  refine AC_region ?_
  refine AL_p rfl rfl (S_loadN (m := 3) 0 rfl (.tmp rfl) rfl (by kernel_rfl) (by first | exact Nat.le_of_ble_eq_true rfl | (simp; omega) | simp)) ?_
  refine AL_step rfl rfl (S_storeN 5 rfl (.tmp rfl) (.tmp rfl) rfl (by first | exact Nat.le_of_ble_eq_true rfl | (simp; omega) | simp) (by first | rfl | simp [AV.one, Value.oneCell']) (by kernel_rfl)) ?_
  rintro _ _ ⟨rfl, rfl⟩
  refine AL_nil ?_
  refine AC_seq ?_
  refine AC_region ?_
  refine AL_p rfl rfl (S_move rfl (.tmp rfl)) ?_
  refine AL_p rfl rfl (S_field 1 rfl (.tmp rfl) (by kernel_rfl)) ?_
  refine AL_step rfl rfl (S_store 2 rfl (.tmp rfl) (.tmp rfl) rfl (by first | exact Nat.le_of_ble_eq_true rfl | simp) rfl (by kernel_rfl)) ?_
  rintro _ _ ⟨rfl, rfl⟩
  refine AL_nil ?_
  refine AC_seq ?_
  refine AC_region ?_
  refine AL_p rfl rfl (S_loadN (m := 3) 5 rfl (.tmp rfl) rfl (by kernel_rfl) (by first | exact Nat.le_of_ble_eq_true rfl | (simp; omega) | simp)) ?_
  refine AL_p rfl rfl (S_pcall rfl (AEvs.cons (.tmp rfl) (AEvs.cons (AEv.const _) AEvs.nil)) (ref07_takes_ok S r2.2.1 r2.2.2 q2 hS 3 (by decide) (by decide))) ?_
  generalize h3 : pallR ctrP 3 r2.2.1 r2.2.2 = r3
  have q3 : r3.2.1 <:+ S := by rw [← h3]; exact (pall_suf ctrP_suf _ _ _).trans q2
  refine AL_p rfl rfl (S_move rfl (.tmp rfl)) ?_
  refine AL_p rfl rfl (S_extract 0 rfl (.tmp rfl) rfl) ?_
  refine AL_p rfl rfl (S_extract 1 rfl (.tmp rfl) rfl) ?_
  refine AL_step rfl rfl (S_alloc [.string ⟨#[]⟩, .int .i64 0, .int .i64 0] rfl (by kernel_rfl)) ?_
  rintro _ _ ⟨b9, rfl, rfl⟩
  refine AL_step rfl rfl (S_storeW 0 rfl (.tmp rfl) (.tmp rfl) rfl rfl rfl (by kernel_rfl)) ?_
  rintro _ _ ⟨rfl, rfl⟩
  refine AL_p rfl rfl (S_assign rfl (.tmp rfl)) ?_
  refine AL_nil ?_
  refine AC_seq ?_
  refine AC_region ?_
  refine AL_p rfl rfl (S_loadN (m := 3) 0 rfl (.tmp rfl) rfl (by kernel_rfl) (by first | exact Nat.le_of_ble_eq_true rfl | (simp; omega) | simp)) ?_
  refine AL_step rfl rfl (S_storeN 6 rfl (.tmp rfl) (.tmp rfl) rfl (by first | exact Nat.le_of_ble_eq_true rfl | (simp; omega) | simp) (by first | rfl | simp [AV.one, Value.oneCell']) (by kernel_rfl)) ?_
  rintro _ _ ⟨rfl, rfl⟩
  refine AL_nil ?_
  refine AC_seq ?_
  refine AC_region ?_
  refine AL_p rfl rfl (S_move rfl (.tmp rfl)) ?_
  refine AL_p rfl rfl (S_field 2 rfl (.tmp rfl) (by kernel_rfl)) ?_
  refine AL_step rfl rfl (S_store 3 rfl (.tmp rfl) (.tmp rfl) rfl (by first | exact Nat.le_of_ble_eq_true rfl | simp) rfl (by kernel_rfl)) ?_
  rintro _ _ ⟨rfl, rfl⟩
  refine AL_nil ?_
  refine AC_seq ?_
  refine AC_region ?_
  refine AL_p rfl rfl (S_loadN (m := 3) 6 rfl (.tmp rfl) rfl (by kernel_rfl) (by first | exact Nat.le_of_ble_eq_true rfl | (simp; omega) | simp)) ?_
  refine AL_p rfl rfl (S_pcall rfl (AEvs.cons (.tmp rfl) (AEvs.cons (AEv.const _) AEvs.nil)) (ref07_takes_ok S r3.2.1 r3.2.2 q3 hS 4 (by decide) (by decide))) ?_
  generalize h4 : pallR ctrP 4 r3.2.1 r3.2.2 = r4
  have q4 : r4.2.1 <:+ S := by rw [← h4]; exact (pall_suf ctrP_suf _ _ _).trans q3
  refine AL_p rfl rfl (S_move rfl (.tmp rfl)) ?_
  refine AL_p rfl rfl (S_extract 0 rfl (.tmp rfl) rfl) ?_
  refine AL_p rfl rfl (S_extract 1 rfl (.tmp rfl) rfl) ?_
  refine AL_step rfl rfl (S_alloc [.string ⟨#[]⟩, .int .i64 0, .int .i64 0] rfl (by kernel_rfl)) ?_
  rintro _ _ ⟨b11, rfl, rfl⟩
  refine AL_step rfl rfl (S_storeW 0 rfl (.tmp rfl) (.tmp rfl) rfl rfl rfl (by kernel_rfl)) ?_
  rintro _ _ ⟨rfl, rfl⟩
  refine AL_p rfl rfl (S_assign rfl (.tmp rfl)) ?_
  refine AL_nil ?_
  refine AC_seq ?_
  refine AC_region ?_
  refine AL_p rfl rfl (S_loadN (m := 3) 0 rfl (.tmp rfl) rfl (by kernel_rfl) (by first | exact Nat.le_of_ble_eq_true rfl | (simp; omega) | simp)) ?_
  refine AL_step rfl rfl (S_storeN 7 rfl (.tmp rfl) (.tmp rfl) rfl (by first | exact Nat.le_of_ble_eq_true rfl | (simp; omega) | simp) (by first | rfl | simp [AV.one, Value.oneCell']) (by kernel_rfl)) ?_
  rintro _ _ ⟨rfl, rfl⟩
  refine AL_nil ?_
  refine AC_seq ?_
  refine AC_region ?_
  refine AL_p rfl rfl (S_move rfl (.tmp rfl)) ?_
  refine AL_p rfl rfl (S_field 3 rfl (.tmp rfl) (by kernel_rfl)) ?_
  refine AL_step rfl rfl (S_store 4 rfl (.tmp rfl) (.tmp rfl) rfl (by first | exact Nat.le_of_ble_eq_true rfl | simp) rfl (by kernel_rfl)) ?_
  rintro _ _ ⟨rfl, rfl⟩
  refine AL_nil ?_
  refine AC_seq ?_
  refine AC_region ?_
  refine AL_p rfl rfl (S_loadN (m := 3) 7 rfl (.tmp rfl) rfl (by kernel_rfl) (by first | exact Nat.le_of_ble_eq_true rfl | (simp; omega) | simp)) ?_
  refine AL_p rfl rfl (S_pcall rfl (AEvs.cons (.tmp rfl) (AEvs.cons (AEv.const _) AEvs.nil)) (ref04_Num_ok S r4.2.1 r4.2.2 q4 hS 3 (by decide))) ?_
  generalize h5 : numR r4.2.1 r4.2.2 3 = r5
  have q5 : r5.2.1 <:+ S := by rw [← h5]; exact (numR_suf _ _ _).trans q4
  refine AL_p rfl rfl (S_move rfl (.tmp rfl)) ?_
  refine AL_p rfl rfl (S_extract 0 rfl (.tmp rfl) rfl) ?_
  refine AL_p rfl rfl (S_extract 1 rfl (.tmp rfl) rfl) ?_
  refine AL_step rfl rfl (S_alloc [.string ⟨#[]⟩, .int .i64 0, .int .i64 0] rfl (by kernel_rfl)) ?_
  rintro _ _ ⟨b13, rfl, rfl⟩
  refine AL_step rfl rfl (S_storeW 0 rfl (.tmp rfl) (.tmp rfl) rfl rfl rfl (by kernel_rfl)) ?_
  rintro _ _ ⟨rfl, rfl⟩
  refine AL_p rfl rfl (S_assign rfl (.tmp rfl)) ?_
  refine AL_nil ?_
  refine AC_seq ?_
  refine AC_region ?_
  refine AL_p rfl rfl (S_loadN (m := 3) 0 rfl (.tmp rfl) rfl (by kernel_rfl) (by first | exact Nat.le_of_ble_eq_true rfl | (simp; omega) | simp)) ?_
  refine AL_step rfl rfl (S_storeN 8 rfl (.tmp rfl) (.tmp rfl) rfl (by first | exact Nat.le_of_ble_eq_true rfl | (simp; omega) | simp) (by first | rfl | simp [AV.one, Value.oneCell']) (by kernel_rfl)) ?_
  rintro _ _ ⟨rfl, rfl⟩
  refine AL_nil ?_
  refine AC_seq ?_
  refine AC_region ?_
  refine AL_p rfl rfl (S_move rfl (.tmp rfl)) ?_
  refine AL_p rfl rfl (S_field 4 rfl (.tmp rfl) (by kernel_rfl)) ?_
  refine AL_step rfl rfl (S_store 5 rfl (.tmp rfl) (.tmp rfl) rfl (by first | exact Nat.le_of_ble_eq_true rfl | simp) rfl (by kernel_rfl)) ?_
  rintro _ _ ⟨rfl, rfl⟩
  refine AL_nil ?_
  refine AC_seq ?_
  refine AC_region ?_
  refine AL_p rfl rfl (S_loadN (m := 3) 8 rfl (.tmp rfl) rfl (by kernel_rfl) (by first | exact Nat.le_of_ble_eq_true rfl | (simp; omega) | simp)) ?_
  refine AL_p rfl rfl (S_pcall rfl (AEvs.cons (.tmp rfl) (AEvs.cons (AEv.const _) AEvs.nil)) (ref04_Num_ok S r5.2.1 r5.2.2 q5 hS 1000 (by decide))) ?_
  generalize h6 : numR r5.2.1 r5.2.2 1000 = r6
  have q6 : r6.2.1 <:+ S := by rw [← h6]; exact (numR_suf _ _ _).trans q5
  refine AL_p rfl rfl (S_move rfl (.tmp rfl)) ?_
  refine AL_p rfl rfl (S_extract 0 rfl (.tmp rfl) rfl) ?_
  refine AL_p rfl rfl (S_extract 1 rfl (.tmp rfl) rfl) ?_
  refine AL_step rfl rfl (S_alloc [.string ⟨#[]⟩, .int .i64 0, .int .i64 0] rfl (by kernel_rfl)) ?_
  rintro _ _ ⟨b15, rfl, rfl⟩
  refine AL_step rfl rfl (S_storeW 0 rfl (.tmp rfl) (.tmp rfl) rfl rfl rfl (by kernel_rfl)) ?_
  rintro _ _ ⟨rfl, rfl⟩
  refine AL_p rfl rfl (S_assign rfl (.tmp rfl)) ?_
  refine AL_nil ?_
  refine AC_seq ?_
  refine AC_region ?_
  refine AL_p rfl rfl (S_loadN (m := 3) 0 rfl (.tmp rfl) rfl (by kernel_rfl) (by first | exact Nat.le_of_ble_eq_true rfl | (simp; omega) | simp)) ?_
  refine AL_step rfl rfl (S_storeN 9 rfl (.tmp rfl) (.tmp rfl) rfl (by first | exact Nat.le_of_ble_eq_true rfl | (simp; omega) | simp) (by first | rfl | simp [AV.one, Value.oneCell']) (by kernel_rfl)) ?_
  rintro _ _ ⟨rfl, rfl⟩
  refine AL_nil ?_
  refine AC_seq ?_
  refine AC_region ?_
  refine AL_p rfl rfl (S_move rfl (.tmp rfl)) ?_
  refine AL_p rfl rfl (S_field 5 rfl (.tmp rfl) (by kernel_rfl)) ?_
  refine AL_step rfl rfl (S_store 6 rfl (.tmp rfl) (.tmp rfl) rfl (by first | exact Nat.le_of_ble_eq_true rfl | simp) rfl (by kernel_rfl)) ?_
  rintro _ _ ⟨rfl, rfl⟩
  refine AL_nil ?_
  refine AC_seq ?_
  refine AC_region ?_
  refine AL_p rfl rfl (S_loadN (m := 3) 9 rfl (.tmp rfl) rfl (by kernel_rfl) (by first | exact Nat.le_of_ble_eq_true rfl | (simp; omega) | simp)) ?_
  refine AL_p rfl rfl (S_pcall rfl (AEvs.cons (.tmp rfl) (AEvs.cons (AEv.const _) AEvs.nil)) (ref04_Num_ok S r6.2.1 r6.2.2 q6 hS 10 (by decide))) ?_
  generalize h7 : numR r6.2.1 r6.2.2 10 = r7
  have q7 : r7.2.1 <:+ S := by rw [← h7]; exact (numR_suf _ _ _).trans q6
  refine AL_p rfl rfl (S_move rfl (.tmp rfl)) ?_
  refine AL_p rfl rfl (S_extract 0 rfl (.tmp rfl) rfl) ?_
  refine AL_p rfl rfl (S_extract 1 rfl (.tmp rfl) rfl) ?_
  refine AL_step rfl rfl (S_alloc [.string ⟨#[]⟩, .int .i64 0, .int .i64 0] rfl (by kernel_rfl)) ?_
  rintro _ _ ⟨b17, rfl, rfl⟩
  refine AL_step rfl rfl (S_storeW 0 rfl (.tmp rfl) (.tmp rfl) rfl rfl rfl (by kernel_rfl)) ?_
  rintro _ _ ⟨rfl, rfl⟩
  refine AL_p rfl rfl (S_assign rfl (.tmp rfl)) ?_
  refine AL_nil ?_
  refine AC_seq ?_
  refine AC_region ?_
  refine AL_p rfl rfl (S_loadN (m := 3) 0 rfl (.tmp rfl) rfl (by kernel_rfl) (by first | exact Nat.le_of_ble_eq_true rfl | (simp; omega) | simp)) ?_
  refine AL_step rfl rfl (S_storeN 10 rfl (.tmp rfl) (.tmp rfl) rfl (by first | exact Nat.le_of_ble_eq_true rfl | (simp; omega) | simp) (by first | rfl | simp [AV.one, Value.oneCell']) (by kernel_rfl)) ?_
  rintro _ _ ⟨rfl, rfl⟩
  refine AL_nil ?_
  refine AC_seq ?_
  refine AC_region ?_
  refine AL_p rfl rfl (S_move rfl (.tmp rfl)) ?_
  refine AL_p rfl rfl (S_field 6 rfl (.tmp rfl) (by kernel_rfl)) ?_
  refine AL_step rfl rfl (S_store 7 rfl (.tmp rfl) (.tmp rfl) rfl (by first | exact Nat.le_of_ble_eq_true rfl | simp) rfl (by kernel_rfl)) ?_
  rintro _ _ ⟨rfl, rfl⟩
  refine AL_nil ?_
  refine AC_seq ?_
  refine AC_plan (σ := [(0, 0), (1, 0), (2, 1), (3, 2)]) (by kernel_rfl) [(b1, Ob.cells (rdL S r7.2.1 r7.2.2)), (b4, Ob.cells [.S r1.1, .sl (labsV r2.1), .sl (ctrsV r3.1), .sl (ctrsV r4.1), .int .i64 r5.1, .int .i64 r6.1, .int .i64 r7.1])] (by kernel_rfl) (fun r hr => by simp only [List.mem_cons, List.not_mem_nil, or_false] at hr; rcases hr with rfl | rfl <;> repeat (first | exact List.mem_cons_self | refine List.mem_cons_of_mem _ ?_)) ?_
  refine AG.f rfl rfl (fun st' hst => Q_p rfl (S_loadNM (m := 3) rfl (.tmp rfl) (hst _ (List.mem_of_getElem? (i := 0) rfl)) (by kernel_rfl) (by first | exact Nat.le_of_ble_eq_true rfl | (simp; omega) | simp))) ?_
  refine AG.f rfl rfl (fun st' hst => Q_p rfl (S_loadNM (m := 7) rfl (.tmp rfl) (hst _ (List.mem_of_getElem? (i := 1) rfl)) (by kernel_rfl) (by first | exact Nat.le_of_ble_eq_true rfl | (simp; omega) | simp))) ?_
  refine AG.s rfl rfl rfl (S_storeW 9 rfl (.tmp rfl) (.tmp rfl) rfl rfl rfl (by kernel_rfl)) ?_ ?_
  · rintro _ _ ⟨rfl, rfl⟩ r hr; simp only [List.mem_cons, List.not_mem_nil, or_false] at hr; rcases hr with rfl | rfl <;> repeat (first | exact List.mem_cons_self | refine List.mem_cons_of_mem _ ?_)
  rintro _ _ ⟨rfl, rfl⟩
  refine AG.h rfl rfl rfl (S_storeW 8 rfl (.tmp rfl) (.tmp rfl) rfl rfl rfl (by kernel_rfl)) ?_
  rintro _ _ ⟨rfl, rfl⟩
  refine AG.nil ?_
  refine AC_ret ?_
  refine ret_outs st rfl (by decide) (OutsR.row 9 rfl rfl (by kernel_rfl) (OutsR.row 8 rfl rfl (by kernel_rfl) OutsR.nil)) (Sub.l (List.Sublist.cons _ (List.Sublist.cons _ (List.Sublist.cons _ (List.Sublist.cons _ (List.Sublist.cons _ (List.Sublist.cons _ (List.Sublist.cons _ (List.Sublist.cons _ (List.Sublist.cons _ (List.Sublist.cons _ (List.Sublist.cons _ (List.Sublist.refl _))))))))))))) (Conv.refl (Sub.l (List.Sublist.cons _ (List.Sublist.cons _ (List.Sublist.cons _ (List.Sublist.cons _ (List.Sublist.cons _ (List.Sublist.cons _ (List.Sublist.cons _ (List.Sublist.cons _ (List.Sublist.cons _ (List.Sublist.cons _ (List.Sublist.cons _ (List.Sublist.refl _))))))))))))) _) ⟨by subst h7 h6 h5 h4 h3 h2 h1; rfl, rfl⟩ (.inl rfl)

end Go.Proofs.YtfmiciodcimkeaaGreatDoor

/-
The walks of Go functions in the logic AL: what each of them answers.
Conditions: those of each theorem.
-/
set_option linter.unusedVariables false
set_option linter.unusedSimpArgs false
namespace Go.Proofs.YtfmiciodcimkeaaGreatDoor
open Go.AL Go.NumSpec

set_option maxRecDepth 100000 in
set_option maxHeartbeats 1000000 in
/-- provost/provostref06.one -/
theorem ref06_one_ok (c : Ctr) (ahead : List Ctr) (init : Bool) (hn : c.name.length ≤ 1000000) (him : c.image.length ≤ 1000000) (hpc : c.ports.length ≤ 1000000) (ha : ahead.length ≤ 1000000) (hap : ∀ x ∈ ahead, x.ports.length ≤ 1000000) : PCalls Tryz.prog 46 [ctrAV c, .sl (ctrsV ahead), .bool init] (cpAV (ctrE (ahead.map Ctr.name) (ahead.flatMap Ctr.ports) c (if init = true then 0 else 3) (if init = true then 0 else 1000))) := by
  intro st
  refine ACalls_of (N := 175) Tryz.func46 (by kernel_rfl) rfl rfl rfl ?_
  refine AC_seq ?_
  refine AC_region ?_
  refine AL_step rfl rfl (S_box rfl (.tmp rfl)) ?_
  rintro _ _ ⟨b3, rfl, rfl⟩
  refine AL_p rfl rfl (S_assign rfl (AEv.const _)) ?_
  refine AL_p rfl rfl (S_assign rfl (AEv.S _)) ?_
  refine AL_nil ?_
  refine AC_seq ?_
  refine AC_seq ?_
  refine AC_region ?_
  refine AL_p rfl rfl (S_field 0 rfl (.tmp rfl) (by kernel_rfl)) ?_
  refine AL_p rfl rfl (S_load 0 rfl (.tmp rfl) rfl rfl (by kernel_rfl)) ?_
  refine AL_p rfl rfl (S_pcall rfl (AEvs.cons (.tmp rfl) AEvs.nil) (ref03_Name_ok c.name (by omega))) ?_
  refine AL_p rfl rfl (S_not rfl (.tmp rfl)) ?_
  refine AL_nil ?_
  refine AC_cond (.tmp rfl) (fun hb2 => ?_) (fun hb2 => ?_)
  · try simp only [zA, zO, zN, zM, zP, zQ, zD, zF, gd] at hb2
    have hx := one_1 (ps := (ahead.flatMap Ctr.ports)) (a := (if init = true then 0 else 3)) (b := (if init = true then 0 else 1000)) (nameE_bad (ns := (ahead.map Ctr.name)) (c := c) hb2)
    refine AC_seq ?_
    refine AC_region ?_
    refine AL_p rfl rfl (S_assign rfl (AEv.const _)) ?_
    refine AL_p rfl rfl (S_assign rfl (AEv.S _)) ?_
    refine AL_nil ?_
    refine AC_ret ?_
    refine ret_tmps (ts := [6, 7]) st rfl (by decide) rfl (Sub.l (List.Sublist.cons _ (List.Sublist.refl _))) (Conv.refl (Sub.l (List.Sublist.cons _ (List.Sublist.refl _))) _) ⟨cp_some hx rfl, rfl⟩ (.inl rfl)
  try simp only [zA, zO, zN, zM, zP, zQ, zD, zF, gd] at hb2
  have hnv : nameV c.name = true := hb2
  refine AC_skip ?_
  refine AC_seq ?_
  refine AC_seq ?_
  refine AC_region ?_
  refine AL_p rfl rfl (S_assign rfl (AEv.const _)) ?_
  refine AL_nil ?_
  refine AC_block ?_
  refine AC_loopK (G := Nat) [(1, _), (2, _), (3, _)] (fun g => g ≤ ahead.length ∧ c.name ∉ (ahead.take g).map Ctr.name) (fun g => [(8, .int .i64 (g : Int))]) (fun g => (b3, .cells (ctrL c)) :: st) (fun g => ahead.length - g) (0) (⟨Nat.zero_le _, by simp⟩) (Sub.l (List.Sublist.refl _)) (.cons rfl (Le.refl _) (.cons rfl (Le.refl _) (.cons rfl (Le.refl _) .nil))) (.cons rfl (by first | exact Le.refl _ | exact Le.nils | exact Le.row _ _ _ _ | exact Le.of_eq (by first | rfl | (simp; done) | (push_cast; rfl) | (simp; omega))) .nil) ?_
  rintro i ⟨hi, hno⟩
  try dsimp only
  simp only [List.cons_append, List.nil_append]
  refine AC_seq ?_
  refine AC_seq ?_
  refine AC_region ?_
  refine AL_p rfl rfl (S_move rfl (.tmp rfl)) ?_
  refine AL_p rfl rfl (S_move rfl (.tmp rfl)) ?_
  refine AL_p rfl rfl (by first | exact S_lenM (e := 79) rfl (.tmp rfl) (by kernel_rfl) | exact S_len (e := 79) rfl (.tmp rfl) (by kernel_rfl)) ?_
  refine AL_p rfl rfl (S_lss rfl (.tmp rfl) (.tmp rfl)) ?_
  refine AL_nil ?_
  refine AC_cond (.tmp rfl) (fun hb3 => ?_) (fun hb3 => ?_)
  · try simp only [zA, zO, zN, zM, zP, zQ, zD, zF, gd] at hb3
    have hil : i < ahead.length := by omega
    refine AC_skip ?_
    refine AC_seq ?_
    refine AC_block ?_
    refine AC_seq ?_
    refine AC_draw (by kernel_rfl) (by kernel_rfl) (.cons rfl (Q_p rfl (S_move rfl (.tmp rfl))) <|
        .cons rfl (Q_p rfl (S_move rfl (.tmp rfl))) <|
        .cons rfl (Q_p rfl (S_elemN (e := 79) 11 rfl (.tmp rfl) (.tmp rfl) (by kernel_rfl) (by kernel_rfl) (by omega) (fun _ => rfl))) <|
        .cons rfl (Q_p rfl (S_fieldP 0 rfl (.tmp rfl) (by kernel_rfl))) <|
        .cons rfl (Q_p rfl (S_loadP rfl (.tmp rfl) rfl (by kernel_rfl))) <|
        .cons rfl (Q_p rfl (S_field 0 rfl (.tmp rfl) (by kernel_rfl))) <|
        .cons rfl (Q_p rfl (S_load 0 rfl (.tmp rfl) rfl rfl (by kernel_rfl))) <|
        .cons rfl (Q_p rfl (S_eqS rfl (.tmp rfl) (.tmp rfl))) <|
        .nil) ?_
    refine AC_cond (.tmp rfl) (fun hb4 => ?_) (fun hb4 => ?_)
    · try simp only [zA, zO, zN, zM, zP, zQ, zD, zF, gd] at hb4
      have hx := one_1 (ps := (ahead.flatMap Ctr.ports)) (a := (if init = true then 0 else 3)) (b := (if init = true then 0 else 1000)) (nameE_there (ns := (ahead.map Ctr.name)) (c := c) hnv (by have := hb4; rw [← this]; exact List.mem_map_of_mem (List.getElem_mem hil)))
      refine AC_seq ?_
      refine AC_region ?_
      refine AL_p rfl rfl (S_assign rfl (AEv.const _)) ?_
      refine AL_p rfl rfl (S_assign rfl (AEv.S _)) ?_
      refine AL_nil ?_
      refine AC_ret ?_
      refine ret_tmps (ts := [6, 7]) st rfl (by decide) rfl (Sub.l (List.Sublist.cons _ (List.Sublist.refl _))) (Conv.refl (Sub.l (List.Sublist.cons _ (List.Sublist.refl _))) _) ⟨cp_some hx rfl, rfl⟩ (.inl rfl)
    try simp only [zA, zO, zN, zM, zP, zQ, zD, zF, gd] at hb4
    have hne : (ahead[i]'hil).name ≠ c.name := hb4
    refine AC_skip ?_
    refine AC_region ?_
    refine AL_p rfl rfl (S_move rfl (.tmp rfl)) ?_
    refine AL_p rfl rfl (S_addI rfl (.tmp rfl) (AEv.const _) (by omega) (by omega)) ?_
    refine AL_p rfl rfl (S_assign rfl (.tmp rfl)) ?_
    refine AL_nil ?_
    exact ⟨i + 1, ⟨by omega, by
      rw [List.take_succ_eq_append_getElem hil, List.map_append]
      intro h
      rcases List.mem_append.1 h with h | h
      · exact hno h
      · simp only [List.map_cons, List.map_nil, List.mem_singleton] at h; exact hne h.symm⟩, by omega, (Sub.l (List.Sublist.refl _)), (.cons rfl (by first | exact Le.refl _ | exact Le.nils | exact Le.row _ _ _ _ | exact Le.of_eq (by first | rfl | (simp; done) | (push_cast; rfl) | (simp; omega))) .nil), (.cons rfl (Le.refl _) (.cons rfl (Le.refl _) (.cons rfl (Le.refl _) .nil)))⟩
  try simp only [zA, zO, zN, zM, zP, zQ, zD, zF, gd] at hb3
  have hn0 : nameE (ahead.map Ctr.name) c.name = none := nameE_ok hnv (by rw [List.take_of_length_le (by omega)] at hno; exact hno)
  refine AC_exit ?_
  refine AC_seq ?_
  refine AC_region ?_
  refine AL_p rfl rfl (S_field 1 rfl (.tmp rfl) (by kernel_rfl)) ?_
  refine AL_p rfl rfl (S_load 0 rfl (.tmp rfl) rfl rfl (by kernel_rfl)) ?_
  refine AL_p rfl rfl (S_pcall rfl (AEvs.cons (.tmp rfl) AEvs.nil) (ref03_Split_ok c.image (by omega))) ?_
  refine AL_p rfl rfl (S_move rfl (.tmp rfl)) ?_
  refine AL_p rfl rfl (S_extract 0 rfl (.tmp rfl) rfl) ?_
  refine AL_p rfl rfl (S_extract 1 rfl (.tmp rfl) rfl) ?_
  refine AL_p rfl rfl (S_extract 2 rfl (.tmp rfl) rfl) ?_
  refine AL_p rfl rfl (S_assign rfl (.tmp rfl)) ?_
  refine AL_p rfl rfl (S_assign rfl (.tmp rfl)) ?_
  refine AL_p rfl rfl (S_assign rfl (.tmp rfl)) ?_
  refine AL_nil ?_
  refine AC_seq ?_
  refine AC_seq ?_
  refine AC_region ?_
  refine AL_p rfl rfl (S_move rfl (.tmp rfl)) ?_
  refine AL_p rfl rfl (S_not rfl (.tmp rfl)) ?_
  refine AL_nil ?_
  refine AC_cond (.tmp rfl) (fun hb5 => ?_) (fun hb5 => ?_)
  · try simp only [zA, zO, zN, zM, zP, zQ, zD, zF, gd] at hb5
    have hx := one_2 (ps := (ahead.flatMap Ctr.ports)) (a := (if init = true then 0 else 3)) (b := (if init = true then 0 else 1000)) hn0 (show imgE c = some (33, [[105, 109, 97, 103, 101]]) by unfold imgE; rw [hb5]; rfl)
    refine AC_seq ?_
    refine AC_region ?_
    refine AL_p rfl rfl (S_assign rfl (AEv.const _)) ?_
    refine AL_p rfl rfl (S_assign rfl (AEv.S _)) ?_
    refine AL_nil ?_
    refine AC_ret ?_
    refine ret_tmps (ts := [6, 7]) st rfl (by decide) rfl (Sub.l (List.Sublist.cons _ (List.Sublist.refl _))) (Conv.refl (Sub.l (List.Sublist.cons _ (List.Sublist.refl _))) _) ⟨cp_some hx rfl, rfl⟩ (.inl rfl)
  try simp only [zA, zO, zN, zM, zP, zQ, zD, zF, gd] at hb5
  have hi0 : imgE c = none := by unfold imgE; rw [hb5]; rfl
  refine AC_skip ?_
  refine AC_seq ?_
  refine AC_region ?_
  refine AL_p rfl rfl (S_buildSlice (e := 9) 1 rfl (AEvs.cons (AEv.S _) (AEvs.cons (AEv.S _) (AEvs.cons (AEv.S _) AEvs.nil))) rfl (by kernel_rfl) (by kernel_rfl) (by intro y hy; simp only [List.mem_cons, List.not_mem_nil, or_false] at hy; rcases hy with rfl | rfl | rfl <;> exact ⟨rfl, rfl⟩) (by decide) (by decide) (by decide)) ?_
  refine AL_p rfl rfl (S_assign rfl (.tmp rfl)) ?_
  refine AL_nil ?_
  refine AC_seq ?_
  refine AC_region ?_
  refine AL_p rfl rfl (S_field 2 rfl (.tmp rfl) (by kernel_rfl)) ?_
  refine AL_p rfl rfl (S_loadN (m := 3) 0 rfl (.tmp rfl) rfl (by kernel_rfl) (by first | exact Nat.le_of_ble_eq_true rfl | (simp; omega) | simp)) ?_
  refine AL_p rfl rfl (S_pcall rfl (AEvs.cons (y := resAV c.req) (.tmp rfl) AEvs.nil) (ref06_three_ok c.req)) ?_
  refine AL_p rfl rfl (S_build (t := 144) (pl := [(0, 1), (1, 1), (2, 1)]) (zs := [.int .i64 0, .int .i64 0, .int .i64 0]) rfl AEvs.nil (by kernel_rfl) rfl) ?_
  refine AL_p rfl rfl (S_pcall rfl (AEvs.cons (y := resAV c.req) (.tmp rfl) (AEvs.cons (y := resAV (0, 0, 0)) (.tmp rfl) (AEvs.cons (AEv.const _) AEvs.nil))) (ref06_numbers_ok c.req (0, 0, 0) false)) ?_
  refine AL_p rfl rfl (S_assign rfl (.tmp rfl)) ?_
  refine AL_nil ?_
  refine AC_seq ?_
  refine AC_seq ?_
  refine AC_region ?_
  refine AL_p rfl rfl (S_move rfl (.tmp rfl)) ?_
  refine AL_p rfl rfl (S_geq rfl (.tmp rfl) (AEv.const _)) ?_
  refine AL_nil ?_
  refine AC_cond (.tmp rfl) (fun hb6 => ?_) (fun hb6 => ?_)
  · try simp only [zA, zO, zN, zM, zP, zQ, zD, zF, gd] at hb6
    have hx := one_3 (ps := (ahead.flatMap Ctr.ports)) (a := (if init = true then 0 else 3)) (b := (if init = true then 0 else 1000)) hn0 hi0 (show reqE c.req = _ by rw [req_nums, if_pos (by omega)])
    have hk9 : (numsI c.req (0, 0, 0) false).toNat < numN.length := by have := (numsI_range c.req (0, 0, 0) false).2; show _ < 3; omega
    have hk8 := num_len hk9
    refine AC_seq ?_
    refine AC_draw (by kernel_rfl) (by kernel_rfl) (.cons rfl (Q_p rfl (S_move rfl (.tmp rfl))) <|
        .cons rfl (Q_p rfl (S_move rfl (.tmp rfl))) <|
        .cons rfl (Q_p rfl (S_elemN (e := 9) (f := fun s => .S s) (l := numN) (i := (numsI c.req (0, 0, 0) false).toNat) 1 rfl (.tmp rfl) ((AEv.tmp rfl).le (Le.of_eq (congrArg (AV.int _) (show (numsI c.req (0, 0, 0) false) = (((numsI c.req (0, 0, 0) false).toNat : Nat) : Int) by omega)))) (by kernel_rfl) (by kernel_rfl) (by have := (numsI_range c.req (0, 0, 0) false).2; show _ < 3; omega) (fun _ => rfl))) <|
        .cons rfl (Q_p rfl (S_loadP rfl (.tmp rfl) rfl (by kernel_rfl))) <|
        .cons rfl (Q_p rfl (S_cat rfl (AEv.S _) (.tmp rfl) (by first | omega | (simp only [List.length_append, List.length_cons, List.length_nil]; omega)))) <|
        .cons rfl (Q_p rfl (S_assign rfl (AEv.const _))) <|
        .cons rfl (Q_p rfl (S_assign rfl (.tmp rfl))) <|
        .nil) ?_
    refine AC_ret ?_
    refine ret_tmps (ts := [6, 7]) st rfl (by decide) rfl (Sub.l (List.Sublist.cons _ (List.Sublist.refl _))) (Conv.refl (Sub.l (List.Sublist.cons _ (List.Sublist.refl _))) _) ⟨cp_some hx (by rw [join_two]; exact num_text [114, 101, 113] hk9), rfl⟩ (.inl rfl)
  try simp only [zA, zO, zN, zM, zP, zQ, zD, zF, gd] at hb6
  have hr0 : reqE c.req = none := by rw [req_nums, if_neg (by omega)]
  refine AC_skip ?_
  refine AC_seq ?_
  refine AC_draw (by kernel_rfl) (by kernel_rfl) (.cons rfl (Q_p rfl (S_field 5 rfl (.tmp rfl) (by kernel_rfl))) <|
      .cons rfl (Q_p rfl (S_loadN (m := 3) 0 rfl (.tmp rfl) rfl (by kernel_rfl) (by first | exact Nat.le_of_ble_eq_true rfl | (simp; omega) | simp))) <|
      .cons rfl (Q_p rfl (S_pcall rfl (AEvs.cons (y := resAV c.lim) (.tmp rfl) AEvs.nil) (ref06_three_ok c.lim))) <|
      .cons rfl (Q_p rfl (S_field 2 rfl (.tmp rfl) (by kernel_rfl))) <|
      .cons rfl (Q_p rfl (S_loadN (m := 3) 0 rfl (.tmp rfl) rfl (by kernel_rfl) (by first | exact Nat.le_of_ble_eq_true rfl | (simp; omega) | simp))) <|
      .cons rfl (Q_p rfl (S_pcall rfl (AEvs.cons (y := resAV c.req) (.tmp rfl) AEvs.nil) (ref06_three_ok c.req))) <|
      .cons rfl (Q_p rfl (S_pcall rfl (AEvs.cons (.tmp rfl) (AEvs.cons (.tmp rfl) (AEvs.cons (AEv.const _) AEvs.nil))) (ref06_numbers_ok c.lim c.req true))) <|
      .cons rfl (Q_p rfl (S_assign rfl (.tmp rfl))) <|
      .nil) ?_
  refine AC_seq ?_
  refine AC_seq ?_
  refine AC_region ?_
  refine AL_p rfl rfl (S_move rfl (.tmp rfl)) ?_
  refine AL_p rfl rfl (S_geq rfl (.tmp rfl) (AEv.const _)) ?_
  refine AL_nil ?_
  refine AC_cond (.tmp rfl) (fun hb7 => ?_) (fun hb7 => ?_)
  · try simp only [zA, zO, zN, zM, zP, zQ, zD, zF, gd] at hb7
    have hx := one_4 (ps := (ahead.flatMap Ctr.ports)) (a := (if init = true then 0 else 3)) (b := (if init = true then 0 else 1000)) hn0 hi0 hr0 (show limE c.lim c.req = _ by rw [lim_nums, if_pos (by omega)])
    have hk9 : (numsI c.lim c.req true).toNat < numN.length := by have := (numsI_range c.lim c.req true).2; show _ < 3; omega
    have hk8 := num_len hk9
    refine AC_seq ?_
    refine AC_draw (by kernel_rfl) (by kernel_rfl) (.cons rfl (Q_p rfl (S_move rfl (.tmp rfl))) <|
        .cons rfl (Q_p rfl (S_move rfl (.tmp rfl))) <|
        .cons rfl (Q_p rfl (S_elemN (e := 9) (f := fun s => .S s) (l := numN) (i := (numsI c.lim c.req true).toNat) 1 rfl (.tmp rfl) ((AEv.tmp rfl).le (Le.of_eq (congrArg (AV.int _) (show (numsI c.lim c.req true) = (((numsI c.lim c.req true).toNat : Nat) : Int) by omega)))) (by kernel_rfl) (by kernel_rfl) (by have := (numsI_range c.lim c.req true).2; show _ < 3; omega) (fun _ => rfl))) <|
        .cons rfl (Q_p rfl (S_loadP rfl (.tmp rfl) rfl (by kernel_rfl))) <|
        .cons rfl (Q_p rfl (S_cat rfl (AEv.S _) (.tmp rfl) (by first | omega | (simp only [List.length_append, List.length_cons, List.length_nil]; omega)))) <|
        .cons rfl (Q_p rfl (S_assign rfl (AEv.const _))) <|
        .cons rfl (Q_p rfl (S_assign rfl (.tmp rfl))) <|
        .nil) ?_
    refine AC_ret ?_
    refine ret_tmps (ts := [6, 7]) st rfl (by decide) rfl (Sub.l (List.Sublist.cons _ (List.Sublist.refl _))) (Conv.refl (Sub.l (List.Sublist.cons _ (List.Sublist.refl _))) _) ⟨cp_some hx (by rw [join_two]; exact num_text [108, 105, 109] hk9), rfl⟩ (.inl rfl)
  try simp only [zA, zO, zN, zM, zP, zQ, zD, zF, gd] at hb7
  have hl0 : limE c.lim c.req = none := by rw [lim_nums, if_neg (by omega)]
  refine AC_skip ?_
  refine AC_seq ?_
  refine AC_seq ?_
  refine AC_region ?_
  refine AL_p rfl rfl (S_field 8 rfl (.tmp rfl) (by kernel_rfl)) ?_
  refine AL_p rfl rfl (S_load 0 rfl (.tmp rfl) rfl rfl (by kernel_rfl)) ?_
  refine AL_p rfl rfl (by first | exact S_lenM (e := 3) rfl (.tmp rfl) (by kernel_rfl) | exact S_len (e := 3) rfl (.tmp rfl) (by kernel_rfl)) ?_
  refine AL_p rfl rfl (S_gtr rfl (.tmp rfl) (AEv.const _)) ?_
  refine AL_p rfl rfl (S_move rfl (.tmp rfl)) ?_
  refine AL_g rfl rfl (.tmp rfl) rfl (fun hg8 => S_move rfl (.tmp rfl)) ?_
  refine AL_g rfl rfl (.tmp rfl) rfl (fun hg11 => S_move rfl (AEv.cond (.tmp rfl) (by first | assumption | exact gdAnd (by assumption) (by assumption)))) ?_
  refine AL_gg rfl rfl (.tmp rfl) rfl (fun hg14 hg15 hg16 => S_field 8 rfl (.tmp rfl) (by kernel_rfl)) ?_
  refine AL_gg rfl rfl (.tmp rfl) rfl (fun hg17 hg18 hg19 => S_load 0 rfl (AEv.cond (.tmp rfl) (by first | assumption | exact gdAnd (by assumption) (by assumption))) rfl rfl (by kernel_rfl)) ?_
  refine AL_gg rfl rfl (.tmp rfl) rfl (fun hg20 hg21 hg22 => by first | exact S_lenM (e := 3) rfl (AEv.cond (.tmp rfl) (by first | assumption | exact gdAnd (by assumption) (by assumption))) (by kernel_rfl) | exact S_len (e := 3) rfl (AEv.cond (.tmp rfl) (by first | assumption | exact gdAnd (by assumption) (by assumption))) (by kernel_rfl)) ?_
  refine AL_gg rfl rfl (.tmp rfl) rfl (fun hg23 hg24 hg25 => S_gtr rfl (AEv.cond (.tmp rfl) (by first | assumption | exact gdAnd (by assumption) (by assumption))) (AEv.const _)) ?_
  refine AL_g rfl rfl (.tmp rfl) rfl (fun hg26 => S_and rfl (AEv.cond (.tmp rfl) (by first | assumption | exact gdAnd (by assumption) (by assumption))) (fun hp29 => (AEv.cond (.tmp rfl) (by first | assumption | exact gdT hp29 | exact gdF hp29 | exact gdAnd (by assumption) (gdT hp29) | exact gdAnd (by assumption) (gdF hp29))))) ?_
  refine AL_p rfl rfl (S_or rfl (.tmp rfl) (fun hp30 => (AEv.cond (.tmp rfl) (by first | assumption | exact gdT hp30 | exact gdF hp30 | exact gdAnd (by assumption) (gdT hp30) | exact gdAnd (by assumption) (gdF hp30))))) ?_
  refine AL_nil ?_
  refine AC_cond (.tmp rfl) (fun hb31 => ?_) (fun hb31 => ?_)
  · try simp only [zA, zO, zN, zM, zP, zQ, zD, zF, gd] at hb31
    have hx := one_5 (a := (if init = true then 0 else 3)) (b := (if init = true then 0 else 1000)) hn0 hi0 hr0 hl0 (port_many (ps := (ahead.flatMap Ctr.ports)) (l := c.ports) (n := (if init = true then 0 else 3)) (by cases init <;> simp only [Bool.true_eq_false, Bool.false_eq_true, false_or, or_false, true_or, or_true, false_and, and_false, true_and, and_true, if_true, if_false, reduceIte] at hb31 ⊢ <;> omega))
    refine AC_seq ?_
    refine AC_region ?_
    refine AL_p rfl rfl (S_assign rfl (AEv.const _)) ?_
    refine AL_p rfl rfl (S_assign rfl (AEv.S _)) ?_
    refine AL_nil ?_
    refine AC_ret ?_
    refine ret_tmps (ts := [6, 7]) st rfl (by decide) rfl (Sub.l (List.Sublist.cons _ (List.Sublist.refl _))) (Conv.refl (Sub.l (List.Sublist.cons _ (List.Sublist.refl _))) _) ⟨cp_some hx rfl, rfl⟩ (.inl rfl)
  try simp only [zA, zO, zN, zM, zP, zQ, zD, zF, gd] at hb31
  have hpm : atMostE portsN (c.ports.length : Int) 0 (if init = true then 0 else 3) = none := by
    unfold atMostE; rw [if_neg]; cases init <;> simp only [Bool.true_eq_false, Bool.false_eq_true, false_or, or_false, true_or, or_true, false_and, and_false, true_and, and_true, if_true, if_false, reduceIte] at hb31 ⊢ <;> omega
  refine AC_skip ?_
  refine AC_seq ?_
  refine AC_seq ?_
  refine AC_region ?_
  refine AL_p rfl rfl (S_assign rfl (AEv.const _)) ?_
  refine AL_nil ?_
  refine AC_block ?_
  refine AC_loopK (G := Nat) [(1, _), (2, _), (3, _)] (fun g => g ≤ c.ports.length ∧ ∀ j, j < g → portAt (ahead.flatMap Ctr.ports) c.ports j = none) (fun g => [(14, .int .i64 (g : Int))]) (fun g => (b3, .cells (ctrL c)) :: st) (fun g => c.ports.length - g) (0) (⟨Nat.zero_le _, fun j h => absurd h (Nat.not_lt_zero _)⟩) (Sub.l (List.Sublist.refl _)) (.cons rfl (Le.refl _) (.cons rfl (Le.refl _) (.cons rfl (Le.refl _) .nil))) (.cons rfl (by first | exact Le.refl _ | exact Le.nils | exact Le.row _ _ _ _ | exact Le.of_eq (by first | rfl | (simp; done) | (push_cast; rfl) | (simp; omega))) .nil) ?_
  rintro i ⟨hi, hall⟩
  try dsimp only
  simp only [List.cons_append, List.nil_append]
  refine AC_seq ?_
  refine AC_seq ?_
  refine AC_region ?_
  refine AL_p rfl rfl (S_move rfl (.tmp rfl)) ?_
  refine AL_p rfl rfl (S_field 8 rfl (.tmp rfl) (by kernel_rfl)) ?_
  refine AL_p rfl rfl (S_load 0 rfl (.tmp rfl) rfl rfl (by kernel_rfl)) ?_
  refine AL_p rfl rfl (by first | exact S_lenM (e := 3) rfl (.tmp rfl) (by kernel_rfl) | exact S_len (e := 3) rfl (.tmp rfl) (by kernel_rfl)) ?_
  refine AL_p rfl rfl (S_lss rfl (.tmp rfl) (.tmp rfl)) ?_
  refine AL_nil ?_
  refine AC_cond (.tmp rfl) (fun hb32 => ?_) (fun hb32 => ?_)
  · try simp only [zA, zO, zN, zM, zP, zQ, zD, zF, gd] at hb32
    have hil : i < c.ports.length := by omega
    have hif : fits (i : Int) := by unfold fits; omega
    have hgd : c.ports.getD i 0 = c.ports[i] := by rw [List.getD_eq_getElem?_getD, List.getElem?_eq_getElem hil]; rfl
    refine AC_skip ?_
    refine AC_seq ?_
    refine AC_block ?_
    refine AC_seq ?_
    refine AC_seq ?_
    refine AC_region ?_
    refine AL_p rfl rfl (S_field 8 rfl (.tmp rfl) (by kernel_rfl)) ?_
    refine AL_p rfl rfl (S_load 0 rfl (.tmp rfl) rfl rfl (by kernel_rfl)) ?_
    refine AL_p rfl rfl (S_move rfl (.tmp rfl)) ?_
    refine AL_p rfl rfl (S_elemN (e := 3) 1 rfl (.tmp rfl) (.tmp rfl) (by kernel_rfl) (by kernel_rfl) (by omega) (fun _ => rfl)) ?_
    refine AL_p rfl rfl (S_loadP rfl (.tmp rfl) rfl (by kernel_rfl)) ?_
    refine AL_p rfl rfl (S_lss rfl (.tmp rfl) (AEv.const _)) ?_
    refine AL_p rfl rfl (S_move rfl (.tmp rfl)) ?_
    refine AL_g rfl rfl (.tmp rfl) rfl (fun hg33 => S_field 8 rfl (.tmp rfl) (by kernel_rfl)) ?_
    refine AL_g rfl rfl (.tmp rfl) rfl (fun hg36 => S_load 0 rfl (AEv.cond (.tmp rfl) (by first | assumption | exact gdAnd (by assumption) (by assumption))) rfl rfl (by kernel_rfl)) ?_
    refine AL_g rfl rfl (.tmp rfl) rfl (fun hg39 => S_move rfl (.tmp rfl)) ?_
    refine AL_g rfl rfl (.tmp rfl) rfl (fun hg42 => S_elemN (e := 3) 1 rfl (AEv.cond (.tmp rfl) (by first | assumption | exact gdAnd (by assumption) (by assumption))) (AEv.cond (.tmp rfl) (by first | assumption | exact gdAnd (by assumption) (by assumption))) (by kernel_rfl) (by kernel_rfl) (by (try simp only [gd, Bool.and_eq_true, Bool.or_eq_true, Bool.not_eq_true', Bool.not_eq_false', decide_eq_true_eq, decide_eq_false_iff_not, Bool.or_eq_false_iff, Bool.and_eq_false_iff] at *); omega) (fun _ => rfl)) ?_
    refine AL_g rfl rfl (.tmp rfl) rfl (fun hg45 => S_loadP rfl (AEv.cond (.tmp rfl) (by first | assumption | exact gdAnd (by assumption) (by assumption))) rfl (by kernel_rfl)) ?_
    refine AL_g rfl rfl (.tmp rfl) rfl (fun hg48 => S_gtr rfl (AEv.cond (.tmp rfl) (by first | assumption | exact gdAnd (by assumption) (by assumption))) (AEv.const _)) ?_
    refine AL_p rfl rfl (S_or rfl (.tmp rfl) (fun hp51 => (AEv.cond (.tmp rfl) (by first | assumption | exact gdT hp51 | exact gdF hp51 | exact gdAnd (by assumption) (gdT hp51) | exact gdAnd (by assumption) (gdF hp51))))) ?_
    refine AL_nil ?_
    refine AC_cond (.tmp rfl) (fun hb52 => ?_) (fun hb52 => ?_)
    · try simp only [zA, zO, zN, zM, zP, zQ, zD, zF, gd] at hb52
      have hx := one_5 (a := (if init = true then 0 else 3)) (b := (if init = true then 0 else 1000)) hn0 hi0 hr0 hl0 (port_at hpm hil (portAt_range (ps := (ahead.flatMap Ctr.ports)) hil (by simpa using hb52)) hall)
      refine AC_seq ?_
      refine AC_region ?_
      refine AL_p rfl rfl (S_move rfl (.tmp rfl)) ?_
      refine AL_p rfl rfl (S_pcall rfl (AEvs.cons (AEv.S _) (AEvs.cons (.tmp rfl) AEvs.nil)) (ref06_at_ok portsN (by decide) (i : Int) hif)) ?_
      refine AL_p rfl rfl (S_assign rfl (AEv.const _)) ?_
      refine AL_p rfl rfl (S_assign rfl (.tmp rfl)) ?_
      refine AL_nil ?_
      refine AC_ret ?_
      refine ret_tmps (ts := [6, 7]) st rfl (by decide) rfl (Sub.l (List.Sublist.cons _ (List.Sublist.refl _))) (Conv.refl (Sub.l (List.Sublist.cons _ (List.Sublist.refl _))) _) ⟨cp_some hx (Lib.join_one _ _).symm, rfl⟩ (.inl rfl)
    try simp only [zA, zO, zN, zM, zP, zQ, zD, zF, gd] at hb52
    have hr1 : 1 ≤ (c.ports[i]'hil) ∧ (c.ports[i]'hil) ≤ 65535 := by omega
    refine AC_skip ?_
    refine AC_seq ?_
    refine AC_draw (by kernel_rfl) (by kernel_rfl) (.cons rfl (Q_p rfl (S_move rfl (.tmp rfl))) <|
        .cons rfl (Q_p rfl (S_field 8 rfl (.tmp rfl) (by kernel_rfl))) <|
        .cons rfl (Q_p rfl (S_load 0 rfl (.tmp rfl) rfl rfl (by kernel_rfl))) <|
        .cons rfl (Q_p rfl (S_move rfl (.tmp rfl))) <|
        .cons rfl (Q_p rfl (S_elemN (e := 3) 1 rfl (.tmp rfl) (.tmp rfl) (by kernel_rfl) (by kernel_rfl) (by omega) (fun _ => rfl))) <|
        .cons rfl (Q_p rfl (S_loadP rfl (.tmp rfl) rfl (by kernel_rfl))) <|
        .cons rfl (Q_p rfl (S_pcall rfl (AEvs.cons (.tmp rfl) (AEvs.cons (.tmp rfl) AEvs.nil)) (ref06_Has_ok ahead (c.ports[i]'hil) (by omega) hap))) <|
        .cons rfl (Q_p rfl (S_move rfl (.tmp rfl))) <|
        .cons rfl (Q_g rfl rfl (.tmp rfl) (fun hg53 => S_field 8 rfl (.tmp rfl) (by kernel_rfl))) <|
        .cons rfl (Q_g rfl rfl (.tmp rfl) (fun hg56 => S_load 0 rfl (AEv.cond (.tmp rfl) (by first | assumption | exact gdAnd (by assumption) (by assumption))) rfl rfl (by kernel_rfl))) <|
        .cons rfl (Q_g rfl rfl (.tmp rfl) (fun hg59 => S_move rfl (.tmp rfl))) <|
        .cons rfl (Q_g rfl rfl (.tmp rfl) (fun hg62 => S_cutHM (e := 3) 1 rfl (AEv.cond (.tmp rfl) (by first | assumption | exact gdAnd (by assumption) (by assumption))) (AEv.cond (.tmp rfl) (by first | assumption | exact gdAnd (by assumption) (by assumption))) (by kernel_rfl) (by kernel_rfl) (fun _ => rfl) (by (try simp only [gd, Bool.and_eq_true, Bool.or_eq_true, Bool.not_eq_true', Bool.not_eq_false', decide_eq_true_eq, decide_eq_false_iff_not, Bool.or_eq_false_iff, Bool.and_eq_false_iff] at *); omega))) <|
        .cons rfl (Q_g rfl rfl (.tmp rfl) (fun hg65 => S_build (t := 79) (pl := [(0, 1), (1, 1), (2, 3), (5, 3), (8, 1), (9, 2)]) (zs := [.string ⟨#[]⟩, .string ⟨#[]⟩, .int .i64 0, .int .i64 0, .int .i64 0, .int .i64 0, .int .i64 0, .int .i64 0, .slice none 0 0, .int .i64 0, .int .i64 0]) rfl (AEvs.cons (AEv.cond (.tmp rfl) (by first | assumption | exact gdAnd (by assumption) (by assumption))) AEvs.nil) (by kernel_rfl) rfl)) <|
        .cons rfl (Q_g rfl rfl (.tmp rfl) (fun hg68 => S_buildSlice (e := 79) 11 rfl (AEvs.cons (AEv.cond (.tmp rfl) (by first | assumption | exact gdAnd (by assumption) (by assumption))) AEvs.nil) rfl (by kernel_rfl) (by kernel_rfl) (by intro y hy; simp only [List.mem_cons, List.not_mem_nil, or_false] at hy; rcases hy with rfl <;> exact ⟨rfl, rfl⟩) (by decide) (by decide) (by decide))) <|
        .cons rfl (Q_g rfl rfl (.tmp rfl) (fun hg71 => S_field 8 rfl (.tmp rfl) (by kernel_rfl))) <|
        .cons rfl (Q_g rfl rfl (.tmp rfl) (fun hg74 => S_load 0 rfl (AEv.cond (.tmp rfl) (by first | assumption | exact gdAnd (by assumption) (by assumption))) rfl rfl (by kernel_rfl))) <|
        .cons rfl (Q_g rfl rfl (.tmp rfl) (fun hg77 => S_move rfl (.tmp rfl))) <|
        .cons rfl (Q_g rfl rfl (.tmp rfl) (fun hg80 => S_elemN (e := 3) 1 rfl (AEv.cond (.tmp rfl) (by first | assumption | exact gdAnd (by assumption) (by assumption))) (AEv.cond (.tmp rfl) (by first | assumption | exact gdAnd (by assumption) (by assumption))) (by kernel_rfl) (by kernel_rfl) (by (try simp only [gd, Bool.and_eq_true, Bool.or_eq_true, Bool.not_eq_true', Bool.not_eq_false', decide_eq_true_eq, decide_eq_false_iff_not, Bool.or_eq_false_iff, Bool.and_eq_false_iff] at *); omega) (fun _ => rfl))) <|
        .cons rfl (Q_g rfl rfl (.tmp rfl) (fun hg83 => S_loadP rfl (AEv.cond (.tmp rfl) (by first | assumption | exact gdAnd (by assumption) (by assumption))) rfl (by kernel_rfl))) <|
        .cons rfl (Q_g rfl rfl (.tmp rfl) (fun hg86 => S_pcall rfl (AEvs.cons (y := .sl (ctrsV [⟨[], [], (0, 0, 0), (0, 0, 0), c.ports.take i, (0, 0)⟩])) (AEv.cond (.tmp rfl) (by first | assumption | exact gdAnd (by assumption) (by assumption))) (AEvs.cons (AEv.cond (.tmp rfl) (by first | assumption | exact gdAnd (by assumption) (by assumption))) AEvs.nil)) (ref06_Has_ok [⟨[], [], (0, 0, 0), (0, 0, 0), c.ports.take i, (0, 0)⟩] (c.ports[i]'hil) (Nat.le_of_ble_eq_true rfl) (by intro x hx; rw [List.mem_singleton.1 hx]; simp only [List.length_take]; omega)))) <|
        .cons rfl (Q_p rfl (S_or rfl (.tmp rfl) (fun hp89 => (AEv.cond (.tmp rfl) (by first | assumption | exact gdT hp89 | exact gdF hp89 | exact gdAnd (by assumption) (gdT hp89) | exact gdAnd (by assumption) (gdF hp89)))))) <|
        .nil) ?_
    refine AC_cond (.tmp rfl) (fun hb90 => ?_) (fun hb90 => ?_)
    · try simp only [zA, zO, zN, zM, zP, zQ, zD, zF, gd] at hb90
      have hx := one_5 (a := (if init = true then 0 else 3)) (b := (if init = true then 0 else 1000)) hn0 hi0 hr0 hl0 (port_at hpm hil (portAt_there (ps := (ahead.flatMap Ctr.ports)) hil hr1 (by simpa using hb90)) hall)
      refine AC_seq ?_
      refine AC_region ?_
      refine AL_p rfl rfl (S_move rfl (.tmp rfl)) ?_
      refine AL_p rfl rfl (S_pcall rfl (AEvs.cons (AEv.S _) (AEvs.cons (.tmp rfl) AEvs.nil)) (ref06_at_ok portsN (by decide) (i : Int) hif)) ?_
      refine AL_p rfl rfl (S_assign rfl (AEv.const _)) ?_
      refine AL_p rfl rfl (S_assign rfl (.tmp rfl)) ?_
      refine AL_nil ?_
      refine AC_ret ?_
      refine ret_tmps (ts := [6, 7]) st rfl (by decide) rfl (Sub.l (List.Sublist.cons _ (List.Sublist.refl _))) (Conv.refl (Sub.l (List.Sublist.cons _ (List.Sublist.refl _))) _) ⟨cp_some hx (Lib.join_one _ _).symm, rfl⟩ (.inl rfl)
    try simp only [zA, zO, zN, zM, zP, zQ, zD, zF, gd] at hb90
    have hr2 : (c.ports[i]'hil) ∉ (ahead.flatMap Ctr.ports) ++ c.ports.take i := by simpa using hb90
    refine AC_skip ?_
    refine AC_region ?_
    refine AL_p rfl rfl (S_move rfl (.tmp rfl)) ?_
    refine AL_p rfl rfl (S_addI rfl (.tmp rfl) (AEv.const _) (by omega) (by omega)) ?_
    refine AL_p rfl rfl (S_assign rfl (.tmp rfl)) ?_
    refine AL_nil ?_
    refine ⟨i + 1, ⟨by omega, fun j h => ?_⟩, by omega, (Sub.l (List.Sublist.refl _)), (.cons rfl (by first | exact Le.refl _ | exact Le.nils | exact Le.row _ _ _ _ | exact Le.of_eq (by first | rfl | (simp; done) | (push_cast; rfl) | (simp; omega))) .nil), (.cons rfl (Le.refl _) (.cons rfl (Le.refl _) (.cons rfl (Le.refl _) .nil)))⟩
    rcases Nat.lt_or_ge j i with h' | h'
    · exact hall j h'
    · have : j = i := by omega
      subst this
      exact portAt_ok hil hr1 hr2
  try simp only [zA, zO, zN, zM, zP, zQ, zD, zF, gd] at hb32
  have hp0 : portE (ahead.flatMap Ctr.ports) c.ports (if init = true then 0 else 3) = none := portE_in hpm fun j hj => hall j (by omega)
  refine AC_exit ?_
  refine AC_seq ?_
  refine AC_seq ?_
  refine AC_region ?_
  refine AL_p rfl rfl (S_field 9 rfl (.tmp rfl) (by kernel_rfl)) ?_
  refine AL_p rfl rfl (S_field 0 rfl (.tmp rfl) (by kernel_rfl)) ?_
  refine AL_p rfl rfl (S_load 0 rfl (.tmp rfl) rfl rfl (by kernel_rfl)) ?_
  refine AL_p rfl rfl (S_lss rfl (.tmp rfl) (AEv.const _)) ?_
  refine AL_p rfl rfl (S_move rfl (.tmp rfl)) ?_
  refine AL_g rfl rfl (.tmp rfl) rfl (fun hg91 => S_field 9 rfl (.tmp rfl) (by kernel_rfl)) ?_
  refine AL_g rfl rfl (.tmp rfl) rfl (fun hg94 => S_field 0 rfl (AEv.cond (.tmp rfl) (by first | assumption | exact gdAnd (by assumption) (by assumption))) (by kernel_rfl)) ?_
  refine AL_g rfl rfl (.tmp rfl) rfl (fun hg97 => S_load 0 rfl (AEv.cond (.tmp rfl) (by first | assumption | exact gdAnd (by assumption) (by assumption))) rfl rfl (by kernel_rfl)) ?_
  refine AL_g rfl rfl (.tmp rfl) rfl (fun hg100 => S_gtr rfl (AEv.cond (.tmp rfl) (by first | assumption | exact gdAnd (by assumption) (by assumption))) (AEv.const _)) ?_
  refine AL_p rfl rfl (S_or rfl (.tmp rfl) (fun hp103 => (AEv.cond (.tmp rfl) (by first | assumption | exact gdT hp103 | exact gdF hp103 | exact gdAnd (by assumption) (gdT hp103) | exact gdAnd (by assumption) (gdF hp103))))) ?_
  refine AL_p rfl rfl (S_move rfl (.tmp rfl)) ?_
  refine AL_g rfl rfl (.tmp rfl) rfl (fun hg104 => S_move rfl (.tmp rfl)) ?_
  refine AL_g rfl rfl (.tmp rfl) rfl (fun hg107 => S_move rfl (AEv.cond (.tmp rfl) (by first | assumption | exact gdAnd (by assumption) (by assumption)))) ?_
  refine AL_gg rfl rfl (.tmp rfl) rfl (fun hg110 hg111 hg112 => S_field 9 rfl (.tmp rfl) (by kernel_rfl)) ?_
  refine AL_gg rfl rfl (.tmp rfl) rfl (fun hg113 hg114 hg115 => S_field 0 rfl (AEv.cond (.tmp rfl) (by first | assumption | exact gdAnd (by assumption) (by assumption))) (by kernel_rfl)) ?_
  refine AL_gg rfl rfl (.tmp rfl) rfl (fun hg116 hg117 hg118 => S_load 0 rfl (AEv.cond (.tmp rfl) (by first | assumption | exact gdAnd (by assumption) (by assumption))) rfl rfl (by kernel_rfl)) ?_
  refine AL_gg rfl rfl (.tmp rfl) rfl (fun hg119 hg120 hg121 => S_gtr rfl (AEv.cond (.tmp rfl) (by first | assumption | exact gdAnd (by assumption) (by assumption))) (AEv.const _)) ?_
  refine AL_g rfl rfl (.tmp rfl) rfl (fun hg122 => S_and rfl (AEv.cond (.tmp rfl) (by first | assumption | exact gdAnd (by assumption) (by assumption))) (fun hp125 => (AEv.cond (.tmp rfl) (by first | assumption | exact gdT hp125 | exact gdF hp125 | exact gdAnd (by assumption) (gdT hp125) | exact gdAnd (by assumption) (gdF hp125))))) ?_
  refine AL_p rfl rfl (S_or rfl (.tmp rfl) (fun hp126 => (AEv.cond (.tmp rfl) (by first | assumption | exact gdT hp126 | exact gdF hp126 | exact gdAnd (by assumption) (gdT hp126) | exact gdAnd (by assumption) (gdF hp126))))) ?_
  refine AL_nil ?_
  refine AC_cond (.tmp rfl) (fun hb127 => ?_) (fun hb127 => ?_)
  · try simp only [zA, zO, zN, zM, zP, zQ, zD, zF, gd] at hb127
    have hpr : c.probe.1 < 0 ∨ (if init = true then 0 else 1000) < c.probe.1 := by cases init <;> simp only [Bool.true_eq_false, Bool.false_eq_true, false_or, or_false, true_or, or_true, false_and, and_false, true_and, and_true, if_true, if_false, reduceIte] at hb127 ⊢ <;> omega
    have hx := (one_6 (a := (if init = true then 0 else 3)) (b := (if init = true then 0 else 1000)) hn0 hi0 hr0 hl0 hp0).trans (probe_every hpr)
    refine AC_seq ?_
    refine AC_region ?_
    refine AL_p rfl rfl (S_assign rfl (AEv.const _)) ?_
    refine AL_p rfl rfl (S_assign rfl (AEv.S _)) ?_
    refine AL_nil ?_
    refine AC_ret ?_
    refine ret_tmps (ts := [6, 7]) st rfl (by decide) rfl (Sub.l (List.Sublist.cons _ (List.Sublist.refl _))) (Conv.refl (Sub.l (List.Sublist.cons _ (List.Sublist.refl _))) _) ⟨cp_some hx rfl, rfl⟩ (.inl rfl)
  try simp only [zA, zO, zN, zM, zP, zQ, zD, zF, gd] at hb127
  have hpr : ¬ (c.probe.1 < 0 ∨ (if init = true then 0 else 1000) < c.probe.1) := by cases init <;> simp only [Bool.true_eq_false, Bool.false_eq_true, false_or, or_false, true_or, or_true, false_and, and_false, true_and, and_true, if_true, if_false, reduceIte] at hb127 ⊢ <;> omega
  refine AC_skip ?_
  refine AC_seq ?_
  refine AC_seq ?_
  refine AC_region ?_
  refine AL_p rfl rfl (S_field 9 rfl (.tmp rfl) (by kernel_rfl)) ?_
  refine AL_p rfl rfl (S_field 0 rfl (.tmp rfl) (by kernel_rfl)) ?_
  refine AL_p rfl rfl (S_load 0 rfl (.tmp rfl) rfl rfl (by kernel_rfl)) ?_
  refine AL_p rfl rfl (S_eql rfl (.tmp rfl) (AEv.const _)) ?_
  refine AL_p rfl rfl (S_move rfl (.tmp rfl)) ?_
  refine AL_g rfl rfl (.tmp rfl) rfl (fun hg128 => S_field 9 rfl (.tmp rfl) (by kernel_rfl)) ?_
  refine AL_g rfl rfl (.tmp rfl) rfl (fun hg131 => S_field 1 rfl (AEv.cond (.tmp rfl) (by first | assumption | exact gdAnd (by assumption) (by assumption))) (by kernel_rfl)) ?_
  refine AL_g rfl rfl (.tmp rfl) rfl (fun hg134 => S_load 0 rfl (AEv.cond (.tmp rfl) (by first | assumption | exact gdAnd (by assumption) (by assumption))) rfl rfl (by kernel_rfl)) ?_
  refine AL_g rfl rfl (.tmp rfl) rfl (fun hg137 => S_neq rfl (AEv.cond (.tmp rfl) (by first | assumption | exact gdAnd (by assumption) (by assumption))) (AEv.const _)) ?_
  refine AL_p rfl rfl (S_and rfl (.tmp rfl) (fun hp140 => (AEv.cond (.tmp rfl) (by first | assumption | exact gdT hp140 | exact gdF hp140 | exact gdAnd (by assumption) (gdT hp140) | exact gdAnd (by assumption) (gdF hp140))))) ?_
  refine AL_p rfl rfl (S_move rfl (.tmp rfl)) ?_
  refine AL_g rfl rfl (.tmp rfl) rfl (fun hg141 => S_field 9 rfl (.tmp rfl) (by kernel_rfl)) ?_
  refine AL_g rfl rfl (.tmp rfl) rfl (fun hg144 => S_field 0 rfl (AEv.cond (.tmp rfl) (by first | assumption | exact gdAnd (by assumption) (by assumption))) (by kernel_rfl)) ?_
  refine AL_g rfl rfl (.tmp rfl) rfl (fun hg147 => S_load 0 rfl (AEv.cond (.tmp rfl) (by first | assumption | exact gdAnd (by assumption) (by assumption))) rfl rfl (by kernel_rfl)) ?_
  refine AL_g rfl rfl (.tmp rfl) rfl (fun hg150 => S_gtr rfl (AEv.cond (.tmp rfl) (by first | assumption | exact gdAnd (by assumption) (by assumption))) (AEv.const _)) ?_
  refine AL_g rfl rfl (.tmp rfl) rfl (fun hg153 => S_move rfl (AEv.cond (.tmp rfl) (by first | assumption | exact gdAnd (by assumption) (by assumption)))) ?_
  refine AL_gg rfl rfl (.tmp rfl) rfl (fun hg156 hg157 hg158 => S_field 9 rfl (.tmp rfl) (by kernel_rfl)) ?_
  refine AL_gg rfl rfl (.tmp rfl) rfl (fun hg159 hg160 hg161 => S_field 1 rfl (AEv.cond (.tmp rfl) (by first | assumption | exact gdAnd (by assumption) (by assumption))) (by kernel_rfl)) ?_
  refine AL_gg rfl rfl (.tmp rfl) rfl (fun hg162 hg163 hg164 => S_load 0 rfl (AEv.cond (.tmp rfl) (by first | assumption | exact gdAnd (by assumption) (by assumption))) rfl rfl (by kernel_rfl)) ?_
  refine AL_gg rfl rfl (.tmp rfl) rfl (fun hg165 hg166 hg167 => S_lss rfl (AEv.cond (.tmp rfl) (by first | assumption | exact gdAnd (by assumption) (by assumption))) (AEv.const _)) ?_
  refine AL_gg rfl rfl (.tmp rfl) rfl (fun hg168 hg169 hg170 => S_move rfl (AEv.cond (.tmp rfl) (by first | assumption | exact gdAnd (by assumption) (by assumption)))) ?_
  refine AL_gg rfl rfl (.tmp rfl) rfl (fun hg171 hg172 hg173 => S_field 9 rfl (.tmp rfl) (by kernel_rfl)) ?_
  refine AL_gg rfl rfl (.tmp rfl) rfl (fun hg174 hg175 hg176 => S_field 1 rfl (AEv.cond (.tmp rfl) (by first | assumption | exact gdAnd (by assumption) (by assumption))) (by kernel_rfl)) ?_
  refine AL_gg rfl rfl (.tmp rfl) rfl (fun hg177 hg178 hg179 => S_load 0 rfl (AEv.cond (.tmp rfl) (by first | assumption | exact gdAnd (by assumption) (by assumption))) rfl rfl (by kernel_rfl)) ?_
  refine AL_gg rfl rfl (.tmp rfl) rfl (fun hg180 hg181 hg182 => S_gtr rfl (AEv.cond (.tmp rfl) (by first | assumption | exact gdAnd (by assumption) (by assumption))) (AEv.const _)) ?_
  refine AL_gg rfl rfl (.tmp rfl) rfl (fun hg183 hg184 hg185 => S_or rfl (AEv.cond (.tmp rfl) (by first | assumption | exact gdAnd (by assumption) (by assumption))) (fun hp186 => (AEv.cond (.tmp rfl) (by first | assumption | exact gdT hp186 | exact gdF hp186 | exact gdAnd (by assumption) (gdT hp186) | exact gdAnd (by assumption) (gdF hp186))))) ?_
  refine AL_g rfl rfl (.tmp rfl) rfl (fun hg187 => S_and rfl (AEv.cond (.tmp rfl) (by first | assumption | exact gdAnd (by assumption) (by assumption))) (fun hp190 => (AEv.cond (.tmp rfl) (by first | assumption | exact gdT hp190 | exact gdF hp190 | exact gdAnd (by assumption) (gdT hp190) | exact gdAnd (by assumption) (gdF hp190))))) ?_
  refine AL_p rfl rfl (S_or rfl (.tmp rfl) (fun hp191 => (AEv.cond (.tmp rfl) (by first | assumption | exact gdT hp191 | exact gdF hp191 | exact gdAnd (by assumption) (gdT hp191) | exact gdAnd (by assumption) (gdF hp191))))) ?_
  refine AL_nil ?_
  refine AC_cond (.tmp rfl) (fun hb192 => ?_) (fun hb192 => ?_)
  · try simp only [zA, zO, zN, zM, zP, zQ, zD, zF, gd] at hb192
    have hx := (one_6 (a := (if init = true then 0 else 3)) (b := (if init = true then 0 else 1000)) hn0 hi0 hr0 hl0 hp0).trans ((probe_rest hpr).trans (if_pos (by cases init <;> simp only [Bool.true_eq_false, Bool.false_eq_true, false_or, or_false, true_or, or_true, false_and, and_false, true_and, and_true, if_true, if_false, reduceIte] at hb192 hpr ⊢ <;> omega)))
    refine AC_seq ?_
    refine AC_region ?_
    refine AL_p rfl rfl (S_assign rfl (AEv.const _)) ?_
    refine AL_p rfl rfl (S_assign rfl (AEv.S _)) ?_
    refine AL_nil ?_
    refine AC_ret ?_
    refine ret_tmps (ts := [6, 7]) st rfl (by decide) rfl (Sub.l (List.Sublist.cons _ (List.Sublist.refl _))) (Conv.refl (Sub.l (List.Sublist.cons _ (List.Sublist.refl _))) _) ⟨cp_some hx rfl, rfl⟩ (.inl rfl)
  try simp only [zA, zO, zN, zM, zP, zQ, zD, zF, gd] at hb192
  have hx := (one_6 (a := (if init = true then 0 else 3)) (b := (if init = true then 0 else 1000)) hn0 hi0 hr0 hl0 hp0).trans ((probe_rest hpr).trans (if_neg (by cases init <;> simp only [Bool.true_eq_false, Bool.false_eq_true, false_or, or_false, true_or, or_true, false_and, and_false, true_and, and_true, if_true, if_false, reduceIte] at hb192 hpr ⊢ <;> omega)))
  refine AC_skip ?_
  refine AC_seq ?_
  refine AC_region ?_
  refine AL_p rfl rfl (S_assign rfl (AEv.const _)) ?_
  refine AL_p rfl rfl (S_assign rfl (AEv.S _)) ?_
  refine AL_nil ?_
  refine AC_ret ?_
  refine ret_tmps (ts := [6, 7]) st rfl (by decide) rfl (Sub.l (List.Sublist.cons _ (List.Sublist.refl _))) (Conv.refl (Sub.l (List.Sublist.cons _ (List.Sublist.refl _))) _) ⟨cp_none hx, rfl⟩ (.inl rfl)

set_option maxRecDepth 100000 in
set_option maxHeartbeats 1000000 in
/-- provost/provostref06.Check -/
theorem ref06_Check_ok (s : Spc) (hs : lightS s = true) : PCalls Tryz.prog 16 [spcAV s] (cpAV (checkE s)) := by
  intro st
  refine ACalls_of (N := 127) Tryz.func16 (by kernel_rfl) rfl rfl rfl ?_
  obtain ⟨h1, h2, h3, h4, h5, h6, h7⟩ := lightS_out hs
  have hpi : ∀ c ∈ s.init, c.name.length ≤ 100 ∧ c.image.length ≤ 100 ∧ c.ports.length ≤ 10 := fun c hc => of_decide_eq_true (h6 c hc)
  have hpm : ∀ c ∈ s.main, c.name.length ≤ 100 ∧ c.image.length ≤ 100 ∧ c.ports.length ≤ 10 := fun c hc => of_decide_eq_true (h7 c hc)
  refine AC_seq ?_
  refine AC_region ?_
  refine AL_step rfl rfl (S_box rfl (.tmp rfl)) ?_
  rintro _ _ ⟨b1, rfl, rfl⟩
  refine AL_p rfl rfl (S_assign rfl (AEv.const _)) ?_
  refine AL_p rfl rfl (S_assign rfl (AEv.S _)) ?_
  refine AL_nil ?_
  refine AC_seq ?_
  refine AC_seq ?_
  refine AC_region ?_
  refine AL_p rfl rfl (S_field 0 rfl (.tmp rfl) (by kernel_rfl)) ?_
  refine AL_p rfl rfl (S_load 0 rfl (.tmp rfl) rfl rfl (by kernel_rfl)) ?_
  refine AL_p rfl rfl (S_pcall rfl (AEvs.cons (.tmp rfl) AEvs.nil) (ref03_Name_ok s.name (by omega))) ?_
  refine AL_p rfl rfl (S_not rfl (.tmp rfl)) ?_
  refine AL_nil ?_
  refine AC_cond (.tmp rfl) (fun hb2 => ?_) (fun hb2 => ?_)
  · try simp only [zA, zO, zN, zM, zP, zQ, zD, zF, gd] at hb2
    have hx : (checkE s) = some (30, [nameN]) := check_bad1 (firstE_hd (by rw [hb2]; rfl))
    refine AC_seq ?_
    refine AC_region ?_
    refine AL_p rfl rfl (S_assign rfl (AEv.const _)) ?_
    refine AL_p rfl rfl (S_assign rfl (AEv.S _)) ?_
    refine AL_nil ?_
    refine AC_ret ?_
    refine ret_tmps (ts := [2, 3]) st rfl (by decide) rfl (Sub.l (List.Sublist.cons _ (List.Sublist.refl _))) (Conv.refl (Sub.l (List.Sublist.cons _ (List.Sublist.refl _))) _) ⟨cp_some hx rfl, rfl⟩ (.inl rfl)
  try simp only [zA, zO, zN, zM, zP, zQ, zD, zF, gd] at hb2
  have hnm : erNew (saysV (nameV s.name) 30) [nameN] = none := by rw [hb2]; rfl
  refine AC_skip ?_
  refine AC_seq ?_
  refine AC_region ?_
  refine AL_p rfl rfl (S_field 1 rfl (.tmp rfl) (by kernel_rfl)) ?_
  refine AL_p rfl rfl (S_load 0 rfl (.tmp rfl) rfl rfl (by kernel_rfl)) ?_
  refine AL_p rfl rfl (S_pcall rfl (AEvs.cons (AEv.S _) (AEvs.cons (.tmp rfl) AEvs.nil)) (ref06_Labels_ok labelsN (by decide) s.labels (fun x hx => by have := h5 x hx; omega))) ?_
  refine AL_p rfl rfl (S_move rfl (.tmp rfl)) ?_
  refine AL_p rfl rfl (S_extract 0 rfl (.tmp rfl) rfl) ?_
  refine AL_p rfl rfl (S_extract 1 rfl (.tmp rfl) rfl) ?_
  refine AL_p rfl rfl (S_assign rfl (.tmp rfl)) ?_
  refine AL_p rfl rfl (S_assign rfl (.tmp rfl)) ?_
  refine AL_nil ?_
  refine AC_seq ?_
  refine AC_seq ?_
  refine AC_region ?_
  refine AL_p rfl rfl (S_move rfl (.tmp rfl)) ?_
  refine AL_p rfl rfl (S_neq rfl (.tmp rfl) (AEv.const _)) ?_
  refine AL_nil ?_
  refine AC_cond (.tmp rfl) (fun hb3 => ?_) (fun hb3 => ?_)
  · try simp only [zA, zO, zN, zM, zP, zQ, zD, zF, gd] at hb3
    have hne : labelsE labelsN s.labels ≠ none := fun h => hb3 (by rw [h]; rfl)
    obtain ⟨x, hx⟩ : ∃ x, labelsE labelsN s.labels = some x := Option.ne_none_iff_exists'.1 hne
    have hx2 : (checkE s) = some x := check_bad1 ((firstE_tl hnm).trans (firstE_hd hx))
    refine AC_seq ?_
    refine AC_region ?_
    refine AL_p rfl rfl (S_move rfl (.tmp rfl)) ?_
    refine AL_p rfl rfl (S_move rfl (.tmp rfl)) ?_
    refine AL_p rfl rfl (S_assign rfl (.tmp rfl)) ?_
    refine AL_p rfl rfl (S_assign rfl (.tmp rfl)) ?_
    refine AL_nil ?_
    refine AC_ret ?_
    refine ret_tmps (ts := [2, 3]) st rfl (by decide) rfl (Sub.l (List.Sublist.cons _ (List.Sublist.refl _))) (Conv.refl (Sub.l (List.Sublist.cons _ (List.Sublist.refl _))) _) ⟨congrArg cpAV (hx.trans hx2.symm), rfl⟩ (.inl rfl)
  try simp only [zA, zO, zN, zM, zP, zQ, zD, zF, gd] at hb3
  have hlb : labelsE labelsN s.labels = none := (well_labels _ _).code.1 (by simpa using hb3)
  refine AC_skip ?_
  refine AC_seq ?_
  refine AC_seq ?_
  refine AC_region ?_
  refine AL_p rfl rfl (S_field 2 rfl (.tmp rfl) (by kernel_rfl)) ?_
  refine AL_p rfl rfl (S_load 0 rfl (.tmp rfl) rfl rfl (by kernel_rfl)) ?_
  refine AL_p rfl rfl (by first | exact S_lenM (e := 79) rfl (.tmp rfl) (by kernel_rfl) | exact S_len (e := 79) rfl (.tmp rfl) (by kernel_rfl)) ?_
  refine AL_p rfl rfl (S_gtr rfl (.tmp rfl) (AEv.const _)) ?_
  refine AL_nil ?_
  refine AC_cond (.tmp rfl) (fun hb4 => ?_) (fun hb4 => ?_)
  · try simp only [zA, zO, zN, zM, zP, zQ, zD, zF, gd] at hb4
    have hx : (checkE s) = some (2, [initN]) := check_bad1 ((firstE_tl hnm).trans ((firstE_tl hlb).trans (firstE_hd (by unfold atMostE; rw [if_pos (by omega)]))))
    refine AC_seq ?_
    refine AC_region ?_
    refine AL_p rfl rfl (S_assign rfl (AEv.const _)) ?_
    refine AL_p rfl rfl (S_assign rfl (AEv.S _)) ?_
    refine AL_nil ?_
    refine AC_ret ?_
    refine ret_tmps (ts := [2, 3]) st rfl (by decide) rfl (Sub.l (List.Sublist.cons _ (List.Sublist.refl _))) (Conv.refl (Sub.l (List.Sublist.cons _ (List.Sublist.refl _))) _) ⟨cp_some hx rfl, rfl⟩ (.inl rfl)
  try simp only [zA, zO, zN, zM, zP, zQ, zD, zF, gd] at hb4
  have hc1 : firstE (check1 s) = none := (firstE_tl hnm).trans ((firstE_tl hlb).trans ((firstE_tl (by unfold atMostE; rw [if_neg (by omega)])).trans rfl))
  refine AC_skip ?_
  refine AC_seq ?_
  refine AC_region ?_
  refine AL_p rfl rfl (S_assign rfl (AEv.const _)) ?_
  refine AL_nil ?_
  refine AC_seq ?_
  refine AC_seq ?_
  refine AC_region ?_
  refine AL_p rfl rfl (S_assign rfl (AEv.const _)) ?_
  refine AL_nil ?_
  refine AC_block ?_
  refine AC_loopK (G := Nat × Own) [(1, _)] (fun g => g.1 ≤ s.init.length ∧ g.2.ok ((s.init.take g.1).map ctrAV) ∧ ∀ j, j < g.1 → ctrAt [] [] s.init 0 0 j = none) (fun g => [(6, ownAV g.2 11 ((s.init.take g.1).map ctrAV)), (7, .int .i64 (g.1 : Int))]) (fun g => (b1, .cells (spcL s)) :: (ownSt g.2 79 11 ((s.init.take g.1).map ctrAV) ++ st)) (fun g => s.init.length - g.1) ((0, .nil)) (⟨Nat.zero_le _, by simp [Own.ok], fun j h => absurd h (Nat.not_lt_zero _)⟩) (Sub.l (List.Sublist.refl _)) (.cons rfl (Le.refl _) .nil) (.cons rfl (by first | exact Le.refl _ | exact Le.nils | exact Le.row _ _ _ _ | exact Le.of_eq (by first | rfl | (simp; done) | (push_cast; rfl) | (simp; omega))) (.cons rfl (by first | exact Le.refl _ | exact Le.nils | exact Le.row _ _ _ _ | exact Le.of_eq (by first | rfl | (simp; done) | (push_cast; rfl) | (simp; omega))) .nil)) ?_
  rintro ⟨i, p⟩ ⟨hi, hq, hall⟩
  try dsimp only
  simp only [List.cons_append, List.nil_append]
  dsimp only at hi hq hall
  refine AC_seq ?_
  refine AC_seq ?_
  refine AC_region ?_
  refine AL_p rfl rfl (S_move rfl (.tmp rfl)) ?_
  refine AL_p rfl rfl (S_field 2 rfl (.tmp rfl) (by kernel_rfl)) ?_
  refine AL_p rfl rfl (S_load 0 rfl (.tmp rfl) rfl rfl (by kernel_rfl)) ?_
  refine AL_p rfl rfl (by first | exact S_lenM (e := 79) rfl (.tmp rfl) (by kernel_rfl) | exact S_len (e := 79) rfl (.tmp rfl) (by kernel_rfl)) ?_
  refine AL_p rfl rfl (S_lss rfl (.tmp rfl) (.tmp rfl)) ?_
  refine AL_nil ?_
  refine AC_cond (.tmp rfl) (fun hb5 => ?_) (fun hb5 => ?_)
  · try simp only [zA, zO, zN, zM, zP, zQ, zD, zF, gd] at hb5
    have hil : i < s.init.length := by omega
    have hif : fits (i : Int) := by unfold fits; omega
    have hat := at_short (name := initN) (by decide) hil (by omega)
    have hsh := (short_ctr (ns := namesTo [] s.init i) (ps := portsTo [] s.init i) (a := 0) (b := 0) (c := s.init[i]'hil) (by have := hpi _ (List.getElem_mem hil); omega)).text
    refine AC_skip ?_
    refine AC_seq ?_
    refine AC_block ?_
    refine AC_seq ?_
    refine AC_region ?_
    refine AL_p rfl rfl (S_field 2 rfl (.tmp rfl) (by kernel_rfl)) ?_
    refine AL_p rfl rfl (S_load 0 rfl (.tmp rfl) rfl rfl (by kernel_rfl)) ?_
    refine AL_p rfl rfl (S_move rfl (.tmp rfl)) ?_
    refine AL_p rfl rfl (S_elemN (e := 79) 11 rfl (.tmp rfl) (.tmp rfl) (by kernel_rfl) (by kernel_rfl) (by omega) (fun _ => rfl)) ?_
    refine AL_p rfl rfl (S_loadPN (m := 11) rfl (.tmp rfl) (by kernel_rfl) (by first | exact Nat.le_of_ble_eq_true rfl | (simp; omega) | simp)) ?_
    refine AL_p rfl rfl (S_move rfl (.tmp rfl)) ?_
    refine AL_p rfl rfl (S_pcall rfl (AEvs.cons (y := ctrAV (s.init[i]'hil)) (.tmp rfl) (AEvs.cons ((AEv.tmp rfl).le (Le_own hq)) (AEvs.cons (AEv.const _) AEvs.nil))) ((ref06_one_ok (s.init[i]'hil) (s.init.take i) true (by have := hpi _ (List.getElem_mem hil); omega) (by have := hpi _ (List.getElem_mem hil); omega) (by have := hpi _ (List.getElem_mem hil); omega) (by rw [List.length_take]; omega) (fun x hx => by have := hpi x (List.mem_of_mem_take hx); omega)).of_eq (show _ = cpAV (ctrE (namesTo [] s.init i) (portsTo [] s.init i) (s.init[i]'hil) 0 0) from rfl))) ?_
    refine AL_p rfl rfl (S_move rfl (.tmp rfl)) ?_
    refine AL_p rfl rfl (S_extract 0 rfl (.tmp rfl) rfl) ?_
    refine AL_p rfl rfl (S_extract 1 rfl (.tmp rfl) rfl) ?_
    refine AL_p rfl rfl (S_assign rfl (.tmp rfl)) ?_
    refine AL_p rfl rfl (S_assign rfl (.tmp rfl)) ?_
    refine AL_nil ?_
    refine AC_seq ?_
    refine AC_seq ?_
    refine AC_region ?_
    refine AL_p rfl rfl (S_move rfl (.tmp rfl)) ?_
    refine AL_p rfl rfl (S_neq rfl (.tmp rfl) (AEv.const _)) ?_
    refine AL_nil ?_
    refine AC_cond (.tmp rfl) (fun hb6 => ?_) (fun hb6 => ?_)
    · try simp only [zA, zO, zN, zM, zP, zQ, zD, zF, gd] at hb6
      have hne : (ctrE (namesTo [] s.init i) (portsTo [] s.init i) (s.init[i]'hil) 0 0) ≠ none := fun h => hb6 (congrArg erCode h)
      have hx : (checkE s) = erIn (ctrE (namesTo [] s.init i) (portsTo [] s.init i) (s.init[i]'hil) 0 0) (atT initN (i : Int)) := by
        obtain ⟨y, hy⟩ := Option.ne_none_iff_exists'.1 hne
        obtain ⟨z, hz⟩ : ∃ z, erIn (ctrE (namesTo [] s.init i) (portsTo [] s.init i) (s.init[i]'hil) 0 0) (atT initN (i : Int)) = some z := by rw [hy]; exact ⟨_, rfl⟩
        rw [hz]
        exact check_bad2 hc1 (firstE_hd (eachE_at hil (by rw [ctrAt_at hil, hz]) (fun j hj => by rw [hall j hj]; rfl)))
      refine AC_seq ?_
      refine AC_region ?_
      refine AL_p rfl rfl (S_move rfl (.tmp rfl)) ?_
      refine AL_p rfl rfl (S_move rfl (.tmp rfl)) ?_
      refine AL_p rfl rfl (S_pcall rfl (AEvs.cons (AEv.S _) (AEvs.cons (.tmp rfl) AEvs.nil)) (ref06_at_ok initN (by decide) (i : Int) hif)) ?_
      refine AL_p rfl rfl (S_cat rfl (.tmp rfl) (AEv.S _) (by first | omega | (simp only [List.length_append, List.length_cons, List.length_nil]; omega))) ?_
      refine AL_p rfl rfl (S_move rfl (.tmp rfl)) ?_
      refine AL_p rfl rfl (S_cat rfl (.tmp rfl) (.tmp rfl) (by first | omega | (simp only [List.length_append, List.length_cons, List.length_nil]; omega))) ?_
      refine AL_p rfl rfl (S_assign rfl (.tmp rfl)) ?_
      refine AL_p rfl rfl (S_assign rfl (.tmp rfl)) ?_
      refine AL_nil ?_
      refine AC_ret ?_
      refine ret_tmps (ts := [2, 3]) st rfl (by decide) rfl (Sub.l (List.Sublist.cons _ (List.sublist_append_right _ _))) (Conv.refl (Sub.l (List.Sublist.cons _ (List.sublist_append_right _ _))) _) ⟨cp_in (well_ctr _ _ _ _ _) hne hx rfl, rfl⟩ (.inl rfl)
    try simp only [zA, zO, zN, zM, zP, zQ, zD, zF, gd] at hb6
    have hnn : (ctrE (namesTo [] s.init i) (portsTo [] s.init i) (s.init[i]'hil) 0 0) = none := (well_ctr _ _ _ _ _).code.1 hb6
    refine AC_skip ?_
    refine AC_region ?_
    refine AL_p rfl rfl (S_move rfl (.tmp rfl)) ?_
    refine AL_p rfl rfl (S_field 2 rfl (.tmp rfl) (by kernel_rfl)) ?_
    refine AL_p rfl rfl (S_load 0 rfl (.tmp rfl) rfl rfl (by kernel_rfl)) ?_
    refine AL_p rfl rfl (S_move rfl (.tmp rfl)) ?_
    refine AL_p rfl rfl (S_elemN (e := 79) 11 rfl (.tmp rfl) (.tmp rfl) (by kernel_rfl) (by kernel_rfl) (by omega) (fun _ => rfl)) ?_
    refine AL_p rfl rfl (S_loadPN (m := 11) rfl (.tmp rfl) (by kernel_rfl) (by first | exact Nat.le_of_ble_eq_true rfl | (simp; omega) | simp)) ?_
    refine AL_p rfl rfl (S_buildSlice (e := 79) 11 rfl (AEvs.cons (.tmp rfl) AEvs.nil) rfl (by kernel_rfl) (by kernel_rfl) (by intro y hy; simp only [List.mem_cons, List.not_mem_nil, or_false] at hy; rcases hy with rfl <;> exact ⟨rfl, rfl⟩) (by decide) (by decide) (by decide)) ?_
    refine AL_step rfl rfl (S_appendT (f := ctrAV) (l := s.init) (i := i) (e := 79) (size := 11) (bytes := 120) (p := p) (by omega) ([_]) (st) rfl (.tmp rfl) (.tmp rfl) rfl hq (by kernel_rfl) (fun _ => ⟨rfl, rfl⟩) (by omega) (by omega)) ?_
    rintro _ _ ⟨b8, k8, cap8, hx8, rfl, rfl⟩
    refine AL_p rfl rfl (S_assign rfl (.tmp rfl)) ?_
    refine AL_nil ?_
    refine AC_region ?_
    refine AL_p rfl rfl (S_move rfl (.tmp rfl)) ?_
    refine AL_p rfl rfl (S_addI rfl (.tmp rfl) (AEv.const _) (by omega) (by omega)) ?_
    refine AL_p rfl rfl (S_assign rfl (.tmp rfl)) ?_
    refine AL_nil ?_
    refine ⟨(i + 1, .row b8 k8 cap8), ⟨by dsimp only; omega, hx8, fun j h => ?_⟩, by dsimp only; omega, (Sub.l (List.Sublist.refl _)), (.cons rfl (by first | exact Le.refl _ | exact Le.nils | exact Le.row _ _ _ _ | exact Le.of_eq (by first | rfl | (simp; done) | (push_cast; rfl) | (simp; omega))) (.cons rfl (by first | exact Le.refl _ | exact Le.nils | exact Le.row _ _ _ _ | exact Le.of_eq (by first | rfl | (simp; done) | (push_cast; rfl) | (simp; omega))) .nil)), (.cons rfl (Le.refl _) .nil)⟩
    rcases Nat.lt_or_ge j i with h' | h'
    · exact hall j h'
    · have : j = i := by dsimp only at h; omega
      subst this
      rw [ctrAt_at hil]; exact hnn
  try simp only [zA, zO, zN, zM, zP, zQ, zD, zF, gd] at hb5
  obtain rfl : i = s.init.length := by omega
  rw [List.take_length] at hq ⊢
  have hci : ctrsE initN [] [] s.init 0 0 = none := eachE_all fun j hj => by rw [hall j hj]; rfl
  refine AC_exit ?_
  refine AC_seq ?_
  refine AC_seq ?_
  refine AC_region ?_
  refine AL_p rfl rfl (S_field 3 rfl (.tmp rfl) (by kernel_rfl)) ?_
  refine AL_p rfl rfl (S_load 0 rfl (.tmp rfl) rfl rfl (by kernel_rfl)) ?_
  refine AL_p rfl rfl (by first | exact S_lenM (e := 79) rfl (.tmp rfl) (by kernel_rfl) | exact S_len (e := 79) rfl (.tmp rfl) (by kernel_rfl)) ?_
  refine AL_p rfl rfl (S_lss rfl (.tmp rfl) (AEv.const _)) ?_
  refine AL_p rfl rfl (S_move rfl (.tmp rfl)) ?_
  refine AL_g rfl rfl (.tmp rfl) rfl (fun hg9 => S_field 3 rfl (.tmp rfl) (by kernel_rfl)) ?_
  refine AL_g rfl rfl (.tmp rfl) rfl (fun hg12 => S_load 0 rfl (AEv.cond (.tmp rfl) (by first | assumption | exact gdAnd (by assumption) (by assumption))) rfl rfl (by kernel_rfl)) ?_
  refine AL_g rfl rfl (.tmp rfl) rfl (fun hg15 => by first | exact S_lenM (e := 79) rfl (AEv.cond (.tmp rfl) (by first | assumption | exact gdAnd (by assumption) (by assumption))) (by kernel_rfl) | exact S_len (e := 79) rfl (AEv.cond (.tmp rfl) (by first | assumption | exact gdAnd (by assumption) (by assumption))) (by kernel_rfl)) ?_
  refine AL_g rfl rfl (.tmp rfl) rfl (fun hg18 => S_gtr rfl (AEv.cond (.tmp rfl) (by first | assumption | exact gdAnd (by assumption) (by assumption))) (AEv.const _)) ?_
  refine AL_p rfl rfl (S_or rfl (.tmp rfl) (fun hp21 => (AEv.cond (.tmp rfl) (by first | assumption | exact gdT hp21 | exact gdF hp21 | exact gdAnd (by assumption) (gdT hp21) | exact gdAnd (by assumption) (gdF hp21))))) ?_
  refine AL_nil ?_
  refine AC_cond (.tmp rfl) (fun hb22 => ?_) (fun hb22 => ?_)
  · try simp only [zA, zO, zN, zM, zP, zQ, zD, zF, gd] at hb22
    have hx : (checkE s) = some (2, [mainN]) := check_bad2 hc1 ((firstE_tl hci).trans (firstE_hd (by unfold atMostE; rw [if_pos (by omega)])))
    refine AC_seq ?_
    refine AC_region ?_
    refine AL_p rfl rfl (S_assign rfl (AEv.const _)) ?_
    refine AL_p rfl rfl (S_assign rfl (AEv.S _)) ?_
    refine AL_nil ?_
    refine AC_ret ?_
    refine ret_tmps (ts := [2, 3]) st rfl (by decide) rfl (Sub.l (List.Sublist.cons _ (List.sublist_append_right _ _))) (Conv.refl (Sub.l (List.Sublist.cons _ (List.sublist_append_right _ _))) _) ⟨cp_some hx rfl, rfl⟩ (.inl rfl)
  try simp only [zA, zO, zN, zM, zP, zQ, zD, zF, gd] at hb22
  have hc2 : firstE (check2 s) = none := (firstE_tl hci).trans ((firstE_tl (by unfold atMostE; rw [if_neg (by omega)])).trans rfl)
  refine AC_skip ?_
  refine AC_seq ?_
  refine AC_seq ?_
  refine AC_region ?_
  refine AL_p rfl rfl (S_assign rfl (AEv.const _)) ?_
  refine AL_nil ?_
  refine AC_block ?_
  refine AC_loopK (G := Nat × Own) [(1, _)] (fun g => g.1 ≤ s.main.length ∧ g.2.ok ((s.init ++ s.main.take g.1).map ctrAV) ∧ ∀ j, j < g.1 → ctrAt (namesTo [] s.init s.init.length) (portsTo [] s.init s.init.length) s.main 3 1000 j = none) (fun g => [(6, ownAV g.2 11 ((s.init ++ s.main.take g.1).map ctrAV)), (8, .int .i64 (g.1 : Int))]) (fun g => (b1, .cells (spcL s)) :: (ownSt g.2 79 11 ((s.init ++ s.main.take g.1).map ctrAV) ++ st)) (fun g => s.main.length - g.1) ((0, p)) (⟨Nat.zero_le _, by simpa using hq, fun j h => absurd h (Nat.not_lt_zero _)⟩) (by simp only [List.take_zero, List.append_nil]; exact Sub.l (List.Sublist.refl _)) (.cons rfl (Le.refl _) .nil) (.cons rfl (by first | exact Le.refl _ | exact Le.nils | exact Le.row _ _ _ _ | exact Le.of_eq (by first | rfl | (simp; done) | (push_cast; rfl) | (simp; omega))) (.cons rfl (by first | exact Le.refl _ | exact Le.nils | exact Le.row _ _ _ _ | exact Le.of_eq (by first | rfl | (simp; done) | (push_cast; rfl) | (simp; omega))) .nil)) ?_
  rintro ⟨i, p⟩ ⟨hi, hq, hall⟩
  try dsimp only
  simp only [List.cons_append, List.nil_append]
  dsimp only at hi hq hall
  refine AC_seq ?_
  refine AC_seq ?_
  refine AC_region ?_
  refine AL_p rfl rfl (S_move rfl (.tmp rfl)) ?_
  refine AL_p rfl rfl (S_field 3 rfl (.tmp rfl) (by kernel_rfl)) ?_
  refine AL_p rfl rfl (S_load 0 rfl (.tmp rfl) rfl rfl (by kernel_rfl)) ?_
  refine AL_p rfl rfl (by first | exact S_lenM (e := 79) rfl (.tmp rfl) (by kernel_rfl) | exact S_len (e := 79) rfl (.tmp rfl) (by kernel_rfl)) ?_
  refine AL_p rfl rfl (S_lss rfl (.tmp rfl) (.tmp rfl)) ?_
  refine AL_nil ?_
  refine AC_cond (.tmp rfl) (fun hb23 => ?_) (fun hb23 => ?_)
  · try simp only [zA, zO, zN, zM, zP, zQ, zD, zF, gd] at hb23
    have hil : i < s.main.length := by omega
    have hif : fits (i : Int) := by unfold fits; omega
    have hat := at_short (name := mainN) (by decide) hil (by omega)
    have hsh := (short_ctr (ns := (s.init ++ s.main.take i).map Ctr.name) (ps := (s.init ++ s.main.take i).flatMap Ctr.ports) (a := 3) (b := 1000) (c := s.main[i]'hil) (by have := hpm _ (List.getElem_mem hil); omega)).text
    refine AC_skip ?_
    refine AC_seq ?_
    refine AC_block ?_
    refine AC_seq ?_
    refine AC_region ?_
    refine AL_p rfl rfl (S_field 3 rfl (.tmp rfl) (by kernel_rfl)) ?_
    refine AL_p rfl rfl (S_load 0 rfl (.tmp rfl) rfl rfl (by kernel_rfl)) ?_
    refine AL_p rfl rfl (S_move rfl (.tmp rfl)) ?_
    refine AL_p rfl rfl (S_elemN (e := 79) 11 rfl (.tmp rfl) (.tmp rfl) (by kernel_rfl) (by kernel_rfl) (by omega) (fun _ => rfl)) ?_
    refine AL_p rfl rfl (S_loadPN (m := 11) rfl (.tmp rfl) (by kernel_rfl) (by first | exact Nat.le_of_ble_eq_true rfl | (simp; omega) | simp)) ?_
    refine AL_p rfl rfl (S_move rfl (.tmp rfl)) ?_
    refine AL_p rfl rfl (S_pcall rfl (AEvs.cons (y := ctrAV (s.main[i]'hil)) (.tmp rfl) (AEvs.cons ((AEv.tmp rfl).le (Le_own hq)) (AEvs.cons (AEv.const _) AEvs.nil))) ((ref06_one_ok (s.main[i]'hil) (s.init ++ s.main.take i) false (by have := hpm _ (List.getElem_mem hil); omega) (by have := hpm _ (List.getElem_mem hil); omega) (by have := hpm _ (List.getElem_mem hil); omega) (by rw [List.length_append, List.length_take]; omega) (fun x hx => (List.mem_append.1 hx).elim (fun hx => by have := hpi x hx; omega) (fun hx => by have := hpm x (List.mem_of_mem_take hx); omega))).of_eq (show _ = cpAV (ctrE ((s.init ++ s.main.take i).map Ctr.name) ((s.init ++ s.main.take i).flatMap Ctr.ports) (s.main[i]'hil) 3 1000) from rfl))) ?_
    refine AL_p rfl rfl (S_move rfl (.tmp rfl)) ?_
    refine AL_p rfl rfl (S_extract 0 rfl (.tmp rfl) rfl) ?_
    refine AL_p rfl rfl (S_extract 1 rfl (.tmp rfl) rfl) ?_
    refine AL_p rfl rfl (S_assign rfl (.tmp rfl)) ?_
    refine AL_p rfl rfl (S_assign rfl (.tmp rfl)) ?_
    refine AL_nil ?_
    refine AC_seq ?_
    refine AC_seq ?_
    refine AC_region ?_
    refine AL_p rfl rfl (S_move rfl (.tmp rfl)) ?_
    refine AL_p rfl rfl (S_neq rfl (.tmp rfl) (AEv.const _)) ?_
    refine AL_nil ?_
    refine AC_cond (.tmp rfl) (fun hb24 => ?_) (fun hb24 => ?_)
    · try simp only [zA, zO, zN, zM, zP, zQ, zD, zF, gd] at hb24
      have hne : (ctrE ((s.init ++ s.main.take i).map Ctr.name) ((s.init ++ s.main.take i).flatMap Ctr.ports) (s.main[i]'hil) 3 1000) ≠ none := fun h => hb24 (congrArg erCode h)
      have hx : (checkE s) = erIn (ctrE ((s.init ++ s.main.take i).map Ctr.name) ((s.init ++ s.main.take i).flatMap Ctr.ports) (s.main[i]'hil) 3 1000) (atT mainN (i : Int)) := by
        obtain ⟨y, hy⟩ := Option.ne_none_iff_exists'.1 hne
        obtain ⟨z, hz⟩ : ∃ z, erIn (ctrE ((s.init ++ s.main.take i).map Ctr.name) ((s.init ++ s.main.take i).flatMap Ctr.ports) (s.main[i]'hil) 3 1000) (atT mainN (i : Int)) = some z := by rw [hy]; exact ⟨_, rfl⟩
        rw [hz]
        exact (check_good hc1 hc2).trans (firstE_hd (eachE_at hil (by rw [ctrAt_at hil, seen_names, seen_ports, hz]) (fun j hj => by rw [hall j hj]; rfl)))
      refine AC_seq ?_
      refine AC_region ?_
      refine AL_p rfl rfl (S_move rfl (.tmp rfl)) ?_
      refine AL_p rfl rfl (S_move rfl (.tmp rfl)) ?_
      refine AL_p rfl rfl (S_pcall rfl (AEvs.cons (AEv.S _) (AEvs.cons (.tmp rfl) AEvs.nil)) (ref06_at_ok mainN (by decide) (i : Int) hif)) ?_
      refine AL_p rfl rfl (S_cat rfl (.tmp rfl) (AEv.S _) (by first | omega | (simp only [List.length_append, List.length_cons, List.length_nil]; omega))) ?_
      refine AL_p rfl rfl (S_move rfl (.tmp rfl)) ?_
      refine AL_p rfl rfl (S_cat rfl (.tmp rfl) (.tmp rfl) (by first | omega | (simp only [List.length_append, List.length_cons, List.length_nil]; omega))) ?_
      refine AL_p rfl rfl (S_assign rfl (.tmp rfl)) ?_
      refine AL_p rfl rfl (S_assign rfl (.tmp rfl)) ?_
      refine AL_nil ?_
      refine AC_ret ?_
      refine ret_tmps (ts := [2, 3]) st rfl (by decide) rfl (Sub.l (List.Sublist.cons _ (List.sublist_append_right _ _))) (Conv.refl (Sub.l (List.Sublist.cons _ (List.sublist_append_right _ _))) _) ⟨cp_in (well_ctr _ _ _ _ _) hne hx rfl, rfl⟩ (.inl rfl)
    try simp only [zA, zO, zN, zM, zP, zQ, zD, zF, gd] at hb24
    have hnn : (ctrE ((s.init ++ s.main.take i).map Ctr.name) ((s.init ++ s.main.take i).flatMap Ctr.ports) (s.main[i]'hil) 3 1000) = none := (well_ctr _ _ _ _ _).code.1 hb24
    refine AC_skip ?_
    refine AC_region ?_
    refine AL_p rfl rfl (S_move rfl (.tmp rfl)) ?_
    refine AL_p rfl rfl (S_field 3 rfl (.tmp rfl) (by kernel_rfl)) ?_
    refine AL_p rfl rfl (S_load 0 rfl (.tmp rfl) rfl rfl (by kernel_rfl)) ?_
    refine AL_p rfl rfl (S_move rfl (.tmp rfl)) ?_
    refine AL_p rfl rfl (S_elemN (e := 79) 11 rfl (.tmp rfl) (.tmp rfl) (by kernel_rfl) (by kernel_rfl) (by omega) (fun _ => rfl)) ?_
    refine AL_p rfl rfl (S_loadPN (m := 11) rfl (.tmp rfl) (by kernel_rfl) (by first | exact Nat.le_of_ble_eq_true rfl | (simp; omega) | simp)) ?_
    refine AL_p rfl rfl (S_buildSlice (e := 79) 11 rfl (AEvs.cons (.tmp rfl) AEvs.nil) rfl (by kernel_rfl) (by kernel_rfl) (by intro y hy; simp only [List.mem_cons, List.not_mem_nil, or_false] at hy; rcases hy with rfl <;> exact ⟨rfl, rfl⟩) (by decide) (by decide) (by decide)) ?_
    refine AL_step rfl rfl (S_appendM (f := ctrAV) (l := s.init ++ s.main.take i) (l2 := [(s.main[i]'hil)]) (e := 79) (size := 11) (bytes := 120) (p := p) ([_]) (st) rfl (.tmp rfl) (.tmp rfl) rfl hq (by kernel_rfl) (by simp) (fun _ => ⟨rfl, rfl⟩) (by simp only [List.length_append, List.length_take, List.length_singleton]; omega) (by simp only [List.length_append, List.length_take, List.length_singleton]; omega)) ?_
    rintro _ _ ⟨b8, k8, cap8, hx8, rfl, rfl⟩
    refine AL_p rfl rfl (S_assign rfl (.tmp rfl)) ?_
    refine AL_nil ?_
    refine AC_region ?_
    refine AL_p rfl rfl (S_move rfl (.tmp rfl)) ?_
    refine AL_p rfl rfl (S_addI rfl (.tmp rfl) (AEv.const _) (by omega) (by omega)) ?_
    refine AL_p rfl rfl (S_assign rfl (.tmp rfl)) ?_
    refine AL_nil ?_
    have e9 : s.init ++ s.main.take i ++ [(s.main[i]'hil)] = s.init ++ s.main.take (i + 1) := by rw [List.append_assoc, take_snoc]
    rw [e9] at hx8 ⊢
    refine ⟨(i + 1, .row b8 k8 cap8), ⟨by dsimp only; omega, hx8, fun j h => ?_⟩, by dsimp only; omega, (Sub.l (List.Sublist.refl _)), (.cons rfl (by first | exact Le.refl _ | exact Le.nils | exact Le.row _ _ _ _ | exact Le.of_eq (by first | rfl | (simp; done) | (push_cast; rfl) | (simp; omega))) (.cons rfl (by first | exact Le.refl _ | exact Le.nils | exact Le.row _ _ _ _ | exact Le.of_eq (by first | rfl | (simp; done) | (push_cast; rfl) | (simp; omega))) .nil)), (.cons rfl (Le.refl _) .nil)⟩
    rcases Nat.lt_or_ge j i with h' | h'
    · exact hall j h'
    · have : j = i := by dsimp only at h; omega
      subst this
      rw [ctrAt_at hil, seen_names, seen_ports]; exact hnn
  try simp only [zA, zO, zN, zM, zP, zQ, zD, zF, gd] at hb23
  have hcm : ctrsE mainN (namesTo [] s.init s.init.length) (portsTo [] s.init s.init.length) s.main 3 1000 = none := eachE_all fun j hj => by rw [hall j (by omega)]; rfl
  have hc3 := (check_good hc1 hc2).trans (firstE_tl hcm)
  refine AC_exit ?_
  refine AC_seq ?_
  refine AC_seq ?_
  refine AC_region ?_
  refine AL_p rfl rfl (S_field 4 rfl (.tmp rfl) (by kernel_rfl)) ?_
  refine AL_p rfl rfl (S_load 0 rfl (.tmp rfl) rfl rfl (by kernel_rfl)) ?_
  refine AL_p rfl rfl (S_lss rfl (.tmp rfl) (AEv.const _)) ?_
  refine AL_p rfl rfl (S_move rfl (.tmp rfl)) ?_
  refine AL_g rfl rfl (.tmp rfl) rfl (fun hg27 => S_field 4 rfl (.tmp rfl) (by kernel_rfl)) ?_
  refine AL_g rfl rfl (.tmp rfl) rfl (fun hg30 => S_load 0 rfl (AEv.cond (.tmp rfl) (by first | assumption | exact gdAnd (by assumption) (by assumption))) rfl rfl (by kernel_rfl)) ?_
  refine AL_g rfl rfl (.tmp rfl) rfl (fun hg33 => S_gtr rfl (AEv.cond (.tmp rfl) (by first | assumption | exact gdAnd (by assumption) (by assumption))) (AEv.const _)) ?_
  refine AL_p rfl rfl (S_or rfl (.tmp rfl) (fun hp36 => (AEv.cond (.tmp rfl) (by first | assumption | exact gdT hp36 | exact gdF hp36 | exact gdAnd (by assumption) (gdT hp36) | exact gdAnd (by assumption) (gdF hp36))))) ?_
  refine AL_nil ?_
  refine AC_cond (.tmp rfl) (fun hb37 => ?_) (fun hb37 => ?_)
  · try simp only [zA, zO, zN, zM, zP, zQ, zD, zF, gd] at hb37
    have hx : (checkE s) = some (1, [[114, 101, 115, 116, 97, 114, 116]]) := hc3.trans (firstE_hd (by unfold withinE; rw [if_pos (by omega)]))
    refine AC_seq ?_
    refine AC_region ?_
    refine AL_p rfl rfl (S_assign rfl (AEv.const _)) ?_
    refine AL_p rfl rfl (S_assign rfl (AEv.S _)) ?_
    refine AL_nil ?_
    refine AC_ret ?_
    refine ret_tmps (ts := [2, 3]) st rfl (by decide) rfl (Sub.l (List.Sublist.cons _ (List.sublist_append_right _ _))) (Conv.refl (Sub.l (List.Sublist.cons _ (List.sublist_append_right _ _))) _) ⟨cp_some hx rfl, rfl⟩ (.inl rfl)
  try simp only [zA, zO, zN, zM, zP, zQ, zD, zF, gd] at hb37
  have hc4 := hc3.trans (firstE_tl (by unfold withinE; rw [if_neg (by omega)]))
  refine AC_skip ?_
  refine AC_seq ?_
  refine AC_seq ?_
  refine AC_region ?_
  refine AL_p rfl rfl (S_field 5 rfl (.tmp rfl) (by kernel_rfl)) ?_
  refine AL_p rfl rfl (S_load 0 rfl (.tmp rfl) rfl rfl (by kernel_rfl)) ?_
  refine AL_p rfl rfl (S_lss rfl (.tmp rfl) (AEv.const _)) ?_
  refine AL_p rfl rfl (S_move rfl (.tmp rfl)) ?_
  refine AL_g rfl rfl (.tmp rfl) rfl (fun hg38 => S_field 5 rfl (.tmp rfl) (by kernel_rfl)) ?_
  refine AL_g rfl rfl (.tmp rfl) rfl (fun hg41 => S_load 0 rfl (AEv.cond (.tmp rfl) (by first | assumption | exact gdAnd (by assumption) (by assumption))) rfl rfl (by kernel_rfl)) ?_
  refine AL_g rfl rfl (.tmp rfl) rfl (fun hg44 => S_gtr rfl (AEv.cond (.tmp rfl) (by first | assumption | exact gdAnd (by assumption) (by assumption))) (AEv.const _)) ?_
  refine AL_p rfl rfl (S_or rfl (.tmp rfl) (fun hp47 => (AEv.cond (.tmp rfl) (by first | assumption | exact gdT hp47 | exact gdF hp47 | exact gdAnd (by assumption) (gdT hp47) | exact gdAnd (by assumption) (gdF hp47))))) ?_
  refine AL_nil ?_
  refine AC_cond (.tmp rfl) (fun hb48 => ?_) (fun hb48 => ?_)
  · try simp only [zA, zO, zN, zM, zP, zQ, zD, zF, gd] at hb48
    have hx : (checkE s) = some (1, [[103, 114, 97, 99, 101]]) := hc4.trans (firstE_hd (by unfold withinE; rw [if_pos (by omega)]))
    refine AC_seq ?_
    refine AC_region ?_
    refine AL_p rfl rfl (S_assign rfl (AEv.const _)) ?_
    refine AL_p rfl rfl (S_assign rfl (AEv.S _)) ?_
    refine AL_nil ?_
    refine AC_ret ?_
    refine ret_tmps (ts := [2, 3]) st rfl (by decide) rfl (Sub.l (List.Sublist.cons _ (List.sublist_append_right _ _))) (Conv.refl (Sub.l (List.Sublist.cons _ (List.sublist_append_right _ _))) _) ⟨cp_some hx rfl, rfl⟩ (.inl rfl)
  try simp only [zA, zO, zN, zM, zP, zQ, zD, zF, gd] at hb48
  have hc5 := hc4.trans (firstE_tl (by unfold withinE; rw [if_neg (by omega)]))
  refine AC_skip ?_
  refine AC_seq ?_
  refine AC_seq ?_
  refine AC_region ?_
  refine AL_p rfl rfl (S_field 6 rfl (.tmp rfl) (by kernel_rfl)) ?_
  refine AL_p rfl rfl (S_load 0 rfl (.tmp rfl) rfl rfl (by kernel_rfl)) ?_
  refine AL_p rfl rfl (S_lss rfl (.tmp rfl) (AEv.const _)) ?_
  refine AL_p rfl rfl (S_move rfl (.tmp rfl)) ?_
  refine AL_g rfl rfl (.tmp rfl) rfl (fun hg49 => S_field 6 rfl (.tmp rfl) (by kernel_rfl)) ?_
  refine AL_g rfl rfl (.tmp rfl) rfl (fun hg52 => S_load 0 rfl (AEv.cond (.tmp rfl) (by first | assumption | exact gdAnd (by assumption) (by assumption))) rfl rfl (by kernel_rfl)) ?_
  refine AL_g rfl rfl (.tmp rfl) rfl (fun hg55 => S_gtr rfl (AEv.cond (.tmp rfl) (by first | assumption | exact gdAnd (by assumption) (by assumption))) (AEv.const _)) ?_
  refine AL_p rfl rfl (S_or rfl (.tmp rfl) (fun hp58 => (AEv.cond (.tmp rfl) (by first | assumption | exact gdT hp58 | exact gdF hp58 | exact gdAnd (by assumption) (gdT hp58) | exact gdAnd (by assumption) (gdF hp58))))) ?_
  refine AL_nil ?_
  refine AC_cond (.tmp rfl) (fun hb59 => ?_) (fun hb59 => ?_)
  · try simp only [zA, zO, zN, zM, zP, zQ, zD, zF, gd] at hb59
    have hx : (checkE s) = some (1, [[112, 114, 105, 111]]) := hc5.trans (firstE_hd (by unfold withinE; rw [if_pos (by omega)]))
    refine AC_seq ?_
    refine AC_region ?_
    refine AL_p rfl rfl (S_assign rfl (AEv.const _)) ?_
    refine AL_p rfl rfl (S_assign rfl (AEv.S _)) ?_
    refine AL_nil ?_
    refine AC_ret ?_
    refine ret_tmps (ts := [2, 3]) st rfl (by decide) rfl (Sub.l (List.Sublist.cons _ (List.sublist_append_right _ _))) (Conv.refl (Sub.l (List.Sublist.cons _ (List.sublist_append_right _ _))) _) ⟨cp_some hx rfl, rfl⟩ (.inl rfl)
  try simp only [zA, zO, zN, zM, zP, zQ, zD, zF, gd] at hb59
  have hx : (checkE s) = none := hc5.trans ((firstE_tl (by unfold withinE; rw [if_neg (by omega)])).trans rfl)
  refine AC_skip ?_
  refine AC_seq ?_
  refine AC_region ?_
  refine AL_p rfl rfl (S_assign rfl (AEv.const _)) ?_
  refine AL_p rfl rfl (S_assign rfl (AEv.S _)) ?_
  refine AL_nil ?_
  refine AC_ret ?_
  refine ret_tmps (ts := [2, 3]) st rfl (by decide) rfl (Sub.l (List.Sublist.cons _ (List.sublist_append_right _ _))) (Conv.refl (Sub.l (List.Sublist.cons _ (List.sublist_append_right _ _))) _) ⟨cp_none hx, rfl⟩ (.inl rfl)

end Go.Proofs.YtfmiciodcimkeaaGreatDoor

/-
The walks of Go functions in the logic AL: what each of them answers.
Conditions: those of each theorem.
-/
set_option linter.unusedVariables false
set_option linter.unusedSimpArgs false
namespace Go.Proofs.YtfmiciodcimkeaaGreatDoor
open Go.AL Go.NumSpec

set_option maxRecDepth 100000 in
/-- provost/provostref07.Of -/
theorem ref07_Of_ok (s : List UInt8) (hs : s.length ≤ 1000000) : PCalls Tryz.prog 34 [.S s] (.tup [spcAV (ofS s), .int .i64 (erCode (ofE s)), .S (erText (ofE s))]) := by
  intro st
  refine ACalls_of (N := 43) Tryz.func34 (by kernel_rfl) rfl rfl rfl ?_
  have hsl := suf_len (spcP_suf s 0)
  have hend := end_suf (s := (spcP s 0).2.1) (c := (spcP s 0).2.2)
  refine AC_seq ?_
  refine AC_region ?_
  refine AL_step rfl rfl (S_alloc [.string ⟨#[]⟩, .slice none 0 0, .slice none 0 0, .slice none 0 0, .int .i64 0, .int .i64 0, .int .i64 0] rfl (by kernel_rfl)) ?_
  rintro _ _ ⟨b2, rfl, rfl⟩
  refine AL_p rfl rfl (S_assign rfl (AEv.const _)) ?_
  refine AL_p rfl rfl (S_assign rfl (AEv.S _)) ?_
  refine AL_nil ?_
  refine AC_seq ?_
  refine AC_region ?_
  refine AL_p rfl rfl (S_move rfl (.tmp rfl)) ?_
  refine AL_p rfl rfl (S_build (t := 56) (pl := [(0, 1), (1, 1), (2, 1)]) (zs := [.string ⟨#[]⟩, .int .i64 0, .int .i64 0]) rfl (AEvs.cons (.tmp rfl) AEvs.nil) (by kernel_rfl) rfl) ?_
  refine AL_p rfl rfl (S_pcall rfl (AEvs.cons (y := rdR s s 0) ((AEv.tmp rfl).le (Le.of_eq (rd_all s).symm)) AEvs.nil) (ref07_Take_ok s s 0 (List.suffix_refl _) hs)) ?_
  refine AL_p rfl rfl (S_move rfl (.tmp rfl)) ?_
  refine AL_p rfl rfl (S_extract 0 rfl (.tmp rfl) rfl) ?_
  refine AL_p rfl rfl (S_extract 1 rfl (.tmp rfl) rfl) ?_
  refine AL_step rfl rfl (S_alloc [.string ⟨#[]⟩, .int .i64 0, .int .i64 0] rfl (by kernel_rfl)) ?_
  rintro _ _ ⟨b5, rfl, rfl⟩
  refine AL_step rfl rfl (S_alloc [.string ⟨#[]⟩, .slice none 0 0, .slice none 0 0, .slice none 0 0, .int .i64 0, .int .i64 0, .int .i64 0] rfl (by kernel_rfl)) ?_
  rintro _ _ ⟨b6, rfl, rfl⟩
  refine AL_step rfl rfl (S_storeW 1 rfl (.tmp rfl) (.tmp rfl) rfl rfl rfl (by kernel_rfl)) ?_
  rintro _ _ ⟨rfl, rfl⟩
  refine AL_step rfl rfl (S_storeW 0 rfl (.tmp rfl) (.tmp rfl) rfl rfl rfl (by kernel_rfl)) ?_
  rintro _ _ ⟨rfl, rfl⟩
  refine AL_nil ?_
  refine AC_joinK (G := Unit) [(0, _), (2, _), (3, _), (4, _), (5, _), (6, _)] (fun _ => True) (fun _ => []) (fun _ => (b6, .cells (spcL (spcP s 0).1)) :: (b5, Ob.cells [.S s, .int .i64 ((s.length - (spcP s 0).2.1.length : Nat) : Int), .int .i64 (endR (spcP s 0).2.1 (spcP s 0).2.2)]) :: (b2, .cells [.S [], .nils, .nils, .nils, .int .i64 0, .int .i64 0, .int .i64 0]) :: st) (.cons rfl (Le.refl _) (.cons rfl (Le.refl _) (.cons rfl (Le.refl _) (.cons rfl (Le.refl _) (.cons rfl (Le.refl _) (.cons rfl (Le.refl _) .nil)))))) ?_ ?_
  · refine AC_seq ?_
    refine AC_region ?_
    refine AL_p rfl rfl (S_field 2 rfl (.tmp rfl) (by kernel_rfl)) ?_
    refine AL_p rfl rfl (S_load 1 rfl (.tmp rfl) rfl rfl (by kernel_rfl)) ?_
    refine AL_p rfl rfl (S_eql rfl (.tmp rfl) (AEv.const _)) ?_
    refine AL_p rfl rfl (S_move rfl (.tmp rfl)) ?_
    refine AL_g rfl rfl (.tmp rfl) rfl (fun hg4 => S_field 1 rfl (.tmp rfl) (by kernel_rfl)) ?_
    refine AL_g rfl rfl (.tmp rfl) rfl (fun hg7 => S_load 1 rfl (AEv.cond (.tmp rfl) (by first | assumption | exact gdAnd (by assumption) (by assumption))) rfl rfl (by kernel_rfl)) ?_
    refine AL_g rfl rfl (.tmp rfl) rfl (fun hg10 => S_move rfl (.tmp rfl)) ?_
    refine AL_g rfl rfl (.tmp rfl) rfl (fun hg13 => S_lenS (ts := #[]) rfl (AEv.cond (.tmp rfl) (by first | assumption | exact gdAnd (by assumption) (by assumption))) (by kernel_rfl)) ?_
    refine AL_g rfl rfl (.tmp rfl) rfl (fun hg16 => S_lss rfl (AEv.cond (.tmp rfl) (by first | assumption | exact gdAnd (by assumption) (by assumption))) (AEv.cond (.tmp rfl) (by first | assumption | exact gdAnd (by assumption) (by assumption)))) ?_
    refine AL_p rfl rfl (S_and rfl (.tmp rfl) (fun hp19 => (AEv.cond (.tmp rfl) (by first | assumption | exact gdT hp19 | exact gdF hp19 | exact gdAnd (by assumption) (gdT hp19) | exact gdAnd (by assumption) (gdF hp19))))) ?_
    refine AL_nil ?_
    refine AC_cond (.tmp rfl) (fun hb20 => ?_) (fun hb20 => ?_)
    · try simp only [zA, zO, zN, zM, zP, zQ, zD, zF, gd] at hb20
      have hc1 : (spcP s 0).2.2 = 0 := hb20.1
      have hc2 : (spcP s 0).2.1 ≠ [] := fun h => by have h9 := hb20.2; rw [h] at h9; simp at h9
      refine AC_region ?_
      refine AL_p rfl rfl (S_field 2 rfl (.tmp rfl) (by kernel_rfl)) ?_
      refine AL_step rfl rfl (S_store 1 rfl (.tmp rfl) (AEv.const _) rfl (by first | exact Nat.le_of_ble_eq_true rfl | simp) rfl (by kernel_rfl)) ?_
      rintro _ _ ⟨rfl, rfl⟩
      refine AL_nil ?_
      exact ⟨(), trivial, by rw [show endR (spcP s 0).2.1 (spcP s 0).2.2 = 3 by rw [hend, if_pos ⟨hc1, hc2⟩]]; exact (Sub.l (List.Sublist.refl _)), .nil, (.cons rfl (Le.refl _) (.cons rfl (Le.refl _) (.cons rfl (Le.refl _) (.cons rfl (Le.refl _) (.cons rfl (Le.refl _) (.cons rfl (Le.refl _) .nil))))))⟩
    try simp only [zA, zO, zN, zM, zP, zQ, zD, zF, gd] at hb20
    have hc3 : ¬ ((spcP s 0).2.2 = 0 ∧ (spcP s 0).2.1 ≠ []) := fun h => by
      have h9 := List.length_pos_iff.2 h.2
      rcases hb20 with h8 | h8
      · exact h8 h.1
      · omega
    refine AC_skip ?_
    exact ⟨(), trivial, by rw [show endR (spcP s 0).2.1 (spcP s 0).2.2 = (spcP s 0).2.2 by rw [hend, if_neg hc3]]; exact (Sub.l (List.Sublist.refl _)), .nil, (.cons rfl (Le.refl _) (.cons rfl (Le.refl _) (.cons rfl (Le.refl _) (.cons rfl (Le.refl _) (.cons rfl (Le.refl _) (.cons rfl (Le.refl _) .nil))))))⟩
  rintro _ _
  try dsimp only
  simp only [List.cons_append, List.nil_append]
  refine AC_seq ?_
  refine AC_seq ?_
  refine AC_region ?_
  refine AL_p rfl rfl (S_field 2 rfl (.tmp rfl) (by kernel_rfl)) ?_
  refine AL_p rfl rfl (S_load 1 rfl (.tmp rfl) rfl rfl (by kernel_rfl)) ?_
  refine AL_p rfl rfl (S_neq rfl (.tmp rfl) (AEv.const _)) ?_
  refine AL_nil ?_
  refine AC_cond (.tmp rfl) (fun hb21 => ?_) (fun hb21 => ?_)
  · try simp only [zA, zO, zN, zM, zP, zQ, zD, zF, gd] at hb21
    obtain ⟨hx1, hx2, hx3⟩ := ofP_bad hb21
    refine AC_seq ?_
    refine AC_plan (σ := [(0, 0), (1, 0), (2, 0), (3, 1), (4, 0), (5, 0)]) (by kernel_rfl) [(b5, Ob.cells [.S s, .int .i64 ((s.length - (spcP s 0).2.1.length : Nat) : Int), .int .i64 (endR (spcP s 0).2.1 (spcP s 0).2.2)])] (by kernel_rfl) (fun r hr => by rw [List.mem_singleton.1 hr]; exact List.mem_of_getElem? (i := 1) rfl) ?_
    refine AG.f rfl rfl (fun st' hst => Q_p rfl (S_build (t := 25) (pl := [(0, 1), (1, 1), (2, 1), (3, 1), (4, 1), (5, 1), (6, 1)]) (zs := [.string ⟨#[]⟩, .slice none 0 0, .slice none 0 0, .slice none 0 0, .int .i64 0, .int .i64 0, .int .i64 0]) rfl AEvs.nil (by kernel_rfl) rfl)) ?_
    refine AG.f rfl rfl (fun st' hst => Q_p rfl (S_field 2 rfl (.tmp rfl) (by kernel_rfl))) ?_
    refine AG.f rfl rfl (fun st' hst => Q_p rfl (S_loadM rfl (.tmp rfl) (hst _ (List.mem_of_getElem? (i := 0) rfl)) rfl (by kernel_rfl))) ?_
    refine AG.s rfl rfl rfl (S_storeW 2 rfl (.tmp rfl) (.tmp rfl) rfl rfl rfl (by kernel_rfl)) ?_ ?_
    · rintro _ _ ⟨rfl, rfl⟩ r hr; rw [List.mem_singleton.1 hr]; exact List.mem_of_getElem? (i := 1) rfl
    rintro _ _ ⟨rfl, rfl⟩
    refine AG.f rfl rfl (fun st' hst => Q_p rfl (S_assign rfl (.tmp rfl))) ?_
    refine AG.f rfl rfl (fun st' hst => Q_p rfl (S_assign rfl (AEv.S _))) ?_
    refine AG.nil ?_
    refine AC_ret ?_
    refine ret_outs st rfl (by decide) (OutsR.row 2 rfl rfl (by kernel_rfl) (OutsR.tmp rfl (OutsR.tmp rfl OutsR.nil))) (Sub.l (List.Sublist.cons _ (List.Sublist.cons _ (List.Sublist.cons _ (List.Sublist.refl _))))) (Conv.le (Sub.l (List.Sublist.cons _ (List.Sublist.cons _ (List.Sublist.cons _ (List.Sublist.refl _))))) (Les.tup (.cons (Les.agg (.cons (Le.refl _) (.cons Le.nils (.cons Le.nils (.cons Le.nils (.cons (Le.refl _) (.cons (Le.refl _) (.cons (Le.refl _) .nil)))))))) (.cons (Le.refl _) (.cons (Le.refl _) .nil))))) ⟨by rw [hx1, hx2, hx3]; rfl, rfl⟩ (.inl rfl)
  try simp only [zA, zO, zN, zM, zP, zQ, zD, zF, gd] at hb21
  have he0 : endR (spcP s 0).2.1 (spcP s 0).2.2 = 0 := by simpa using hb21
  obtain ⟨hv1, hv2, hlg⟩ := ofP_good he0
  refine AC_skip ?_
  refine AC_seq ?_
  refine AC_region ?_
  refine AL_p rfl rfl (S_loadN (m := 7) 0 rfl (.tmp rfl) rfl (by kernel_rfl) (by first | exact Nat.le_of_ble_eq_true rfl | (simp; omega) | simp)) ?_
  refine AL_p rfl rfl (S_pcall rfl (AEvs.cons (.tmp rfl) AEvs.nil) (ref06_Check_ok (spcP s 0).1 hlg)) ?_
  refine AL_p rfl rfl (S_move rfl (.tmp rfl)) ?_
  refine AL_p rfl rfl (S_extract 0 rfl (.tmp rfl) rfl) ?_
  refine AL_p rfl rfl (S_extract 1 rfl (.tmp rfl) rfl) ?_
  refine AL_p rfl rfl (S_assign rfl (.tmp rfl)) ?_
  refine AL_p rfl rfl (S_assign rfl (.tmp rfl)) ?_
  refine AL_nil ?_
  refine AC_seq ?_
  refine AC_seq ?_
  refine AC_region ?_
  refine AL_p rfl rfl (S_move rfl (.tmp rfl)) ?_
  refine AL_p rfl rfl (S_neq rfl (.tmp rfl) (AEv.const _)) ?_
  refine AL_nil ?_
  refine AC_cond (.tmp rfl) (fun hb22 => ?_) (fun hb22 => ?_)
  · try simp only [zA, zO, zN, zM, zP, zQ, zD, zF, gd] at hb22
    have hx1 : ofS s = spc0 := of_some fun h => by rw [← hv2, h] at hb22; exact hb22 rfl
    refine AC_seq ?_
    refine AC_region ?_
    refine AL_p rfl rfl (S_build (t := 25) (pl := [(0, 1), (1, 1), (2, 1), (3, 1), (4, 1), (5, 1), (6, 1)]) (zs := [.string ⟨#[]⟩, .slice none 0 0, .slice none 0 0, .slice none 0 0, .int .i64 0, .int .i64 0, .int .i64 0]) rfl AEvs.nil (by kernel_rfl) rfl) ?_
    refine AL_p rfl rfl (S_move rfl (.tmp rfl)) ?_
    refine AL_p rfl rfl (S_move rfl (.tmp rfl)) ?_
    refine AL_step rfl rfl (S_storeW 2 rfl (.tmp rfl) (.tmp rfl) rfl rfl rfl (by kernel_rfl)) ?_
    rintro _ _ ⟨rfl, rfl⟩
    refine AL_p rfl rfl (S_assign rfl (.tmp rfl)) ?_
    refine AL_p rfl rfl (S_assign rfl (.tmp rfl)) ?_
    refine AL_nil ?_
    refine AC_ret ?_
    refine ret_outs st rfl (by decide) (OutsR.row 2 rfl rfl (by kernel_rfl) (OutsR.tmp rfl (OutsR.tmp rfl OutsR.nil))) (Sub.l (List.Sublist.cons _ (List.Sublist.cons _ (List.Sublist.cons _ (List.Sublist.refl _))))) (Conv.le (Sub.l (List.Sublist.cons _ (List.Sublist.cons _ (List.Sublist.cons _ (List.Sublist.refl _))))) (Les.tup (.cons (Les.agg (.cons (Le.refl _) (.cons Le.nils (.cons Le.nils (.cons Le.nils (.cons (Le.refl _) (.cons (Le.refl _) (.cons (Le.refl _) .nil)))))))) (.cons (Le.refl _) (.cons (Le.refl _) .nil))))) ⟨by rw [hx1, hv2]; rfl, rfl⟩ (.inl rfl)
  try simp only [zA, zO, zN, zM, zP, zQ, zD, zF, gd] at hb22
  have hn : checkE (spcP s 0).1 = none := (well_check _).code.1 (by simpa using hb22)
  have hx1 := (of_none (hv2.trans hn)).1
  refine AC_skip ?_
  refine AC_seq ?_
  refine AC_region ?_
  refine AL_p rfl rfl (S_loadN (m := 7) 0 rfl (.tmp rfl) rfl (by kernel_rfl) (by first | exact Nat.le_of_ble_eq_true rfl | (simp; omega) | simp)) ?_
  refine AL_step rfl rfl (S_storeW 2 rfl (.tmp rfl) (.tmp rfl) rfl rfl rfl (by kernel_rfl)) ?_
  rintro _ _ ⟨rfl, rfl⟩
  refine AL_p rfl rfl (S_assign rfl (AEv.const _)) ?_
  refine AL_p rfl rfl (S_assign rfl (AEv.S _)) ?_
  refine AL_nil ?_
  refine AC_ret ?_
  refine ret_outs st rfl (by decide) (OutsR.row 2 rfl rfl (by kernel_rfl) (OutsR.tmp rfl (OutsR.tmp rfl OutsR.nil))) (Sub.l (List.Sublist.cons _ (List.Sublist.cons _ (List.Sublist.cons _ (List.Sublist.refl _))))) (Conv.refl (Sub.l (List.Sublist.cons _ (List.Sublist.cons _ (List.Sublist.cons _ (List.Sublist.refl _))))) _) ⟨by rw [hx1, hv2, hn, ← hv1]; rfl, rfl⟩ (.inl rfl)

set_option maxRecDepth 100000 in
/-- provost/provostlaw07.PackRaws -/
theorem law_PackRaws (s : List UInt8) : GCalls Tryz.prog tabs 7 [.S s] (.bool true) := by
  intro st hG
  refine ACalls_of (N := 51) Tryz.func7 (by kernel_rfl) rfl rfl rfl ?_
  refine AC_seq ?_
  refine AC_region ?_
  refine AL_p rfl rfl (S_assign rfl (AEv.const _)) ?_
  refine AL_nil ?_
  refine AC_seq ?_
  refine AC_seq ?_
  refine AC_region ?_
  refine AL_p rfl rfl (S_move rfl (.tmp rfl)) ?_
  refine AL_p rfl rfl (S_lenS (ts := #[]) rfl (.tmp rfl) (by kernel_rfl)) ?_
  refine AL_p rfl rfl (S_gtr rfl (.tmp rfl) (AEv.const _)) ?_
  refine AL_nil ?_
  refine AC_cond (.tmp rfl) (fun hb1 => ?_) (fun hb1 => ?_)
  · try simp only [zA, zO, zN, zM, zP, zQ, zD, zF, gd] at hb1
    refine AC_seq ?_
    refine AC_region ?_
    refine AL_p rfl rfl (S_gcall rfl AEvs.nil ((law07_works_ok) _ (fun p hp => by repeat (first | exact hG p hp | refine List.mem_cons_of_mem _ ?_ | refine List.mem_append_right _ ?_)))) ?_
    refine AL_p rfl rfl (S_assign rfl (.tmp rfl)) ?_
    refine AL_nil ?_
    refine AC_ret ?_
    refine ret_tmp st rfl rfl (Sub.l (List.Sublist.refl _)) (Conv.refl (Sub.l (List.Sublist.refl _)) _) ⟨rfl, rfl⟩ (.inl rfl)
  try simp only [zA, zO, zN, zM, zP, zQ, zD, zF, gd] at hb1
  have hs3 : s.length ≤ 3000 := by omega
  refine AC_skip ?_
  refine AC_seq ?_
  refine AC_region ?_
  refine AL_p rfl rfl (S_move rfl (.tmp rfl)) ?_
  refine AL_step rfl rfl (S_call rfl (AEvs.cons (.tmp rfl) AEvs.nil) (wire_Read_ok s st)) ?_
  rintro _ _ ⟨_, ⟨b3, rfl, rfl⟩, rfl⟩
  refine AL_p rfl rfl (S_assign rfl (.tmp rfl)) ?_
  refine AL_nil ?_
  refine AC_seq ?_
  refine AC_seq ?_
  refine AC_region ?_
  refine AL_p rfl rfl (S_move rfl (.tmp rfl)) ?_
  refine AL_p rfl rfl (S_eqlNil rfl (.tmp rfl) (AEv.const _) (by kernel_rfl)) ?_
  refine AL_nil ?_
  refine AC_cond (.tmp rfl) (fun hb2 => ?_) (fun hb2 => ?_)
  · simp at hb2; done
  try simp only [zA, zO, zN, zM, zP, zQ, zD, zF, gd] at hb2
  have hra := rd_at (spcP_suf s 0)
  have ha := spc_agree s 0
  refine AC_skip ?_
  refine AC_seq ?_
  refine AC_region ?_
  refine AL_p rfl rfl (S_move rfl (.tmp rfl)) ?_
  refine AL_step rfl rfl (S_call rfl (AEvs.cons (.tmp rfl) AEvs.nil) (pack_Raw_ok b3 s 0 st)) ?_
  rintro _ _ ⟨_, ⟨rfl, rfl⟩, rfl⟩
  refine AL_step rfl rfl (S_alloc [.string ⟨#[]⟩, .slice none 0 0, .slice none 0 0, .slice none 0 0, .int .i64 0, .int .i64 0, .int .i64 0] rfl (by kernel_rfl)) ?_
  rintro _ _ ⟨b4, rfl, rfl⟩
  refine AL_step rfl rfl (S_storeW 0 rfl (.tmp rfl) (.tmp rfl) rfl rfl rfl (by kernel_rfl)) ?_
  rintro _ _ ⟨rfl, rfl⟩
  refine AL_nil ?_
  refine AC_seq ?_
  refine AC_region ?_
  refine AL_p rfl rfl (S_move rfl (.tmp rfl)) ?_
  refine AL_p rfl rfl (S_build (t := 56) (pl := [(0, 1), (1, 1), (2, 1)]) (zs := [.string ⟨#[]⟩, .int .i64 0, .int .i64 0]) rfl (AEvs.cons (.tmp rfl) AEvs.nil) (by kernel_rfl) rfl) ?_
  refine AL_p rfl rfl (S_pcall rfl (AEvs.cons (y := rdR s s 0) ((AEv.tmp rfl).le (Le.of_eq (rd_all s).symm)) AEvs.nil) (ref07_Take_ok s s 0 (List.suffix_refl _) (by omega))) ?_
  refine AL_p rfl rfl (S_move rfl (.tmp rfl)) ?_
  refine AL_p rfl rfl (S_extract 0 rfl (.tmp rfl) rfl) ?_
  refine AL_p rfl rfl (S_extract 1 rfl (.tmp rfl) rfl) ?_
  refine AL_step rfl rfl (S_alloc [.string ⟨#[]⟩, .int .i64 0, .int .i64 0] rfl (by kernel_rfl)) ?_
  rintro _ _ ⟨b5, rfl, rfl⟩
  refine AL_step rfl rfl (S_alloc [.string ⟨#[]⟩, .slice none 0 0, .slice none 0 0, .slice none 0 0, .int .i64 0, .int .i64 0, .int .i64 0] rfl (by kernel_rfl)) ?_
  rintro _ _ ⟨b6, rfl, rfl⟩
  refine AL_step rfl rfl (S_storeW 1 rfl (.tmp rfl) (.tmp rfl) rfl rfl rfl (by kernel_rfl)) ?_
  rintro _ _ ⟨rfl, rfl⟩
  refine AL_step rfl rfl (S_storeW 0 rfl (.tmp rfl) (.tmp rfl) rfl rfl rfl (by kernel_rfl)) ?_
  rintro _ _ ⟨rfl, rfl⟩
  refine AL_nil ?_
  refine AC_seq ?_
  refine AC_draw (by kernel_rfl) (by kernel_rfl) (.cons rfl (Q_p rfl (S_move rfl (.tmp rfl))) <|
      .cons rfl (Q_p rfl (S_keep (S_call rfl (AEvs.cons (.tmp rfl) AEvs.nil) (ACalls.preQ (pre := [_, _, _]) (F := _) (r_Code_ok b3 _ _ _))) (by rintro _ _ ⟨_, ⟨rfl, rfl⟩, rfl⟩; exact ⟨rfl, rfl⟩))) <|
      .cons rfl (Q_p rfl (S_field 2 rfl (.tmp rfl) (by kernel_rfl))) <|
      .cons rfl (Q_p rfl (S_load 1 rfl (.tmp rfl) rfl rfl (by kernel_rfl))) <|
      .cons rfl (Q_p rfl (S_eql rfl (.tmp rfl) (.tmp rfl))) <|
      .cons rfl (Q_p rfl (S_move rfl (.tmp rfl))) <|
      .cons rfl (Q_g rfl rfl (.tmp rfl) (fun hg6 => S_field 2 rfl (.tmp rfl) (by kernel_rfl))) <|
      .cons rfl (Q_g rfl rfl (.tmp rfl) (fun hg9 => S_load 1 rfl (AEv.cond (.tmp rfl) (by first | assumption | exact gdAnd (by assumption) (by assumption))) rfl rfl (by kernel_rfl))) <|
      .cons rfl (Q_g rfl rfl (.tmp rfl) (fun hg12 => S_neq rfl (AEv.cond (.tmp rfl) (by first | assumption | exact gdAnd (by assumption) (by assumption))) (AEv.const _))) <|
      .cons rfl (Q_g rfl rfl (.tmp rfl) (fun hg15 => S_move rfl (AEv.cond (.tmp rfl) (by first | assumption | exact gdAnd (by assumption) (by assumption))))) <|
      .cons rfl (Q_gg rfl rfl (.tmp rfl) (fun hg18 hg19 hg20 => S_loadN (m := 7) 2 rfl (.tmp rfl) rfl (by kernel_rfl) (by first | exact Nat.le_of_ble_eq_true rfl | (simp; omega) | simp))) <|
      .cons rfl (Q_gg rfl rfl (.tmp rfl) (fun hg21 hg22 hg23 => S_loadN (m := 7) 0 rfl (.tmp rfl) rfl (by kernel_rfl) (by first | exact Nat.le_of_ble_eq_true rfl | (simp; omega) | simp))) <|
      .cons rfl (Q_gg rfl rfl (.tmp rfl) (fun hg24 hg25 hg26 => S_pcall rfl (AEvs.cons (AEv.cond (.tmp rfl) (by first | assumption | exact gdAnd (by assumption) (by assumption))) (AEvs.cons (AEv.cond (.tmp rfl) (by first | assumption | exact gdAnd (by assumption) (by assumption))) AEvs.nil)) (book_SameSpec_ok (spcRd s 0).1 (spcP s 0).1 (light_short (spcRd_light s 0)) (spcP_short s 0)))) <|
      .cons rfl (Q_gg rfl rfl (.tmp rfl) (fun hg27 hg28 hg29 => S_move rfl (AEv.cond (.tmp rfl) (by first | assumption | exact gdAnd (by assumption) (by assumption))))) <|
      .cons rfl (Q_gg rfl rfl (.tmp rfl) (fun hg30 hg31 hg32 => S_move rfl (.tmp rfl))) <|
      .cons rfl (Q_gg rfl rfl (.tmp rfl) (fun hg33 hg34 hg35 => S_keep (S_call rfl (AEvs.cons (AEv.cond (.tmp rfl) (by first | assumption | exact gdAnd (by assumption) (by assumption))) AEvs.nil) (ACalls.preQ (pre := [_, _, _]) (F := _) (r_Left_ok b3 _ _ _))) (by rintro _ _ ⟨_, ⟨rfl, rfl⟩, rfl⟩; exact ⟨rfl, rfl⟩))) <|
      .cons rfl (Q_gg rfl rfl (.tmp rfl) (fun hg36 hg37 hg38 => S_move rfl (.tmp rfl))) <|
      .cons rfl (Q_gg rfl rfl (.tmp rfl) (fun hg39 hg40 hg41 => S_lenS (ts := #[]) rfl (AEv.cond (.tmp rfl) (by first | assumption | exact gdAnd (by assumption) (by assumption))) (by kernel_rfl))) <|
      .cons rfl (Q_gg rfl rfl (.tmp rfl) (fun hg42 hg43 hg44 => S_field 1 rfl (.tmp rfl) (by kernel_rfl))) <|
      .cons rfl (Q_gg rfl rfl (.tmp rfl) (fun hg45 hg46 hg47 => S_load 1 rfl (AEv.cond (.tmp rfl) (by first | assumption | exact gdAnd (by assumption) (by assumption))) rfl rfl (by kernel_rfl))) <|
      .cons rfl (Q_gg rfl rfl (.tmp rfl) (fun hg48 hg49 hg50 => S_subI rfl (AEv.cond (.tmp rfl) (by first | assumption | exact gdAnd (by assumption) (by assumption))) (AEv.cond (.tmp rfl) (by first | assumption | exact gdAnd (by assumption) (by assumption))) (by (try simp only [gd, Bool.and_eq_true, Bool.or_eq_true, Bool.not_eq_true', Bool.not_eq_false', decide_eq_true_eq, decide_eq_false_iff_not, Bool.or_eq_false_iff, Bool.and_eq_false_iff] at *); omega) (by (try simp only [gd, Bool.and_eq_true, Bool.or_eq_true, Bool.not_eq_true', Bool.not_eq_false', decide_eq_true_eq, decide_eq_false_iff_not, Bool.or_eq_false_iff, Bool.and_eq_false_iff] at *); omega))) <|
      .cons rfl (Q_gg rfl rfl (.tmp rfl) (fun hg51 hg52 hg53 => S_eql rfl (AEv.cond (.tmp rfl) (by first | assumption | exact gdAnd (by assumption) (by assumption))) (AEv.cond (.tmp rfl) (by first | assumption | exact gdAnd (by assumption) (by assumption))))) <|
      .cons rfl (Q_gg rfl rfl (.tmp rfl) (fun hg54 hg55 hg56 => S_and rfl (AEv.cond (.tmp rfl) (by first | assumption | exact gdAnd (by assumption) (by assumption))) (fun hp57 => (AEv.cond (.tmp rfl) (by first | assumption | exact gdT hp57 | exact gdF hp57 | exact gdAnd (by assumption) (gdT hp57) | exact gdAnd (by assumption) (gdF hp57)))))) <|
      .cons rfl (Q_g rfl rfl (.tmp rfl) (fun hg58 => S_or rfl (AEv.cond (.tmp rfl) (by first | assumption | exact gdAnd (by assumption) (by assumption))) (fun hp61 => (AEv.cond (.tmp rfl) (by first | assumption | exact gdT hp61 | exact gdF hp61 | exact gdAnd (by assumption) (gdT hp61) | exact gdAnd (by assumption) (gdF hp61)))))) <|
      .cons rfl (Q_p rfl (S_and rfl (.tmp rfl) (fun hp62 => (AEv.cond (.tmp rfl) (by first | assumption | exact gdT hp62 | exact gdF hp62 | exact gdAnd (by assumption) (gdT hp62) | exact gdAnd (by assumption) (gdF hp62)))))) <|
      .cons rfl (Q_p rfl (S_move rfl (.tmp rfl))) <|
      .cons rfl (Q_g rfl rfl (.tmp rfl) (fun hg63 => S_gcall rfl AEvs.nil ((law07_works_ok) _ (fun p hp => by repeat (first | exact hG p hp | refine List.mem_cons_of_mem _ ?_ | refine List.mem_append_right _ ?_))))) <|
      .cons rfl (Q_p rfl (S_and rfl (.tmp rfl) (fun hp66 => (AEv.cond (.tmp rfl) (by first | assumption | exact gdT hp66 | exact gdF hp66 | exact gdAnd (by assumption) (gdT hp66) | exact gdAnd (by assumption) (gdF hp66)))))) <|
      .cons rfl (Q_p rfl (S_assign rfl (.tmp rfl))) <|
      .nil) ?_
  refine AC_ret ?_
  refine ret_tmp st rfl rfl (Sub.l (List.Sublist.cons _ (List.Sublist.cons _ (List.Sublist.cons _ (List.Sublist.cons _ (List.Sublist.refl _)))))) (Conv.refl (Sub.l (List.Sublist.cons _ (List.Sublist.cons _ (List.Sublist.cons _ (List.Sublist.cons _ (List.Sublist.refl _)))))) _) ⟨congrArg AV.bool (by rw [hra, ← ha.1]; by_cases hc : (spcRd s 0).2.2 = 0 <;> simp [hc]; rw [← ha.2 hc]; exact sameS_refl _), rfl⟩ (.inl rfl)

set_option maxRecDepth 100000 in
/-- provost/provostlaw07.PackReads -/
theorem law_PackReads (s : List UInt8) : GCalls Tryz.prog tabs 8 [.S s] (.bool true) := by
  intro st hG
  refine ACalls_of (N := 101) Tryz.func8 (by kernel_rfl) rfl rfl rfl ?_
  refine AC_seq ?_
  refine AC_region ?_
  refine AL_p rfl rfl (S_assign rfl (AEv.const _)) ?_
  refine AL_nil ?_
  refine AC_seq ?_
  refine AC_seq ?_
  refine AC_region ?_
  refine AL_p rfl rfl (S_move rfl (.tmp rfl)) ?_
  refine AL_p rfl rfl (S_lenS (ts := #[]) rfl (.tmp rfl) (by kernel_rfl)) ?_
  refine AL_p rfl rfl (S_gtr rfl (.tmp rfl) (AEv.const _)) ?_
  refine AL_nil ?_
  refine AC_cond (.tmp rfl) (fun hb1 => ?_) (fun hb1 => ?_)
  · try simp only [zA, zO, zN, zM, zP, zQ, zD, zF, gd] at hb1
    refine AC_seq ?_
    refine AC_region ?_
    refine AL_p rfl rfl (S_gcall rfl AEvs.nil ((law07_works_ok) _ (fun p hp => by repeat (first | exact hG p hp | refine List.mem_cons_of_mem _ ?_ | refine List.mem_append_right _ ?_)))) ?_
    refine AL_p rfl rfl (S_assign rfl (.tmp rfl)) ?_
    refine AL_nil ?_
    refine AC_ret ?_
    refine ret_tmp st rfl rfl (Sub.l (List.Sublist.refl _)) (Conv.refl (Sub.l (List.Sublist.refl _)) _) ⟨rfl, rfl⟩ (.inl rfl)
  try simp only [zA, zO, zN, zM, zP, zQ, zD, zF, gd] at hb1
  have hs3 : s.length ≤ 3000 := by omega
  refine AC_skip ?_
  refine AC_seq ?_
  refine AC_region ?_
  refine AL_p rfl rfl (S_move rfl (.tmp rfl)) ?_
  refine AL_p rfl rfl (S_gcall rfl (AEvs.cons (.tmp rfl) AEvs.nil) ((pack_Of_ok s) _ (fun p hp => by repeat (first | exact hG p hp | refine List.mem_cons_of_mem _ ?_ | refine List.mem_append_right _ ?_)))) ?_
  refine AL_p rfl rfl (S_move rfl (.tmp rfl)) ?_
  refine AL_p rfl rfl (S_extract 0 rfl (.tmp rfl) rfl) ?_
  refine AL_p rfl rfl (S_extract 1 rfl (.tmp rfl) rfl) ?_
  refine AL_step rfl rfl (S_alloc [.string ⟨#[]⟩, .slice none 0 0, .slice none 0 0, .slice none 0 0, .int .i64 0, .int .i64 0, .int .i64 0] rfl (by kernel_rfl)) ?_
  rintro _ _ ⟨b3, rfl, rfl⟩
  refine AL_step rfl rfl (S_storeW 0 rfl (.tmp rfl) (.tmp rfl) rfl rfl rfl (by kernel_rfl)) ?_
  rintro _ _ ⟨rfl, rfl⟩
  refine AL_p rfl rfl (S_assign rfl (.tmp rfl)) ?_
  refine AL_nil ?_
  refine AC_seq ?_
  refine AC_region ?_
  refine AL_p rfl rfl (S_move rfl (.tmp rfl)) ?_
  refine AL_p rfl rfl (S_pcall rfl (AEvs.cons (.tmp rfl) AEvs.nil) (ref07_Of_ok s (by omega))) ?_
  refine AL_p rfl rfl (S_move rfl (.tmp rfl)) ?_
  refine AL_p rfl rfl (S_extract 0 rfl (.tmp rfl) rfl) ?_
  refine AL_p rfl rfl (S_extract 1 rfl (.tmp rfl) rfl) ?_
  refine AL_p rfl rfl (S_extract 2 rfl (.tmp rfl) rfl) ?_
  refine AL_step rfl rfl (S_alloc [.string ⟨#[]⟩, .slice none 0 0, .slice none 0 0, .slice none 0 0, .int .i64 0, .int .i64 0, .int .i64 0] rfl (by kernel_rfl)) ?_
  rintro _ _ ⟨b5, rfl, rfl⟩
  refine AL_step rfl rfl (S_storeW 0 rfl (.tmp rfl) (.tmp rfl) rfl rfl rfl (by kernel_rfl)) ?_
  rintro _ _ ⟨rfl, rfl⟩
  refine AL_p rfl rfl (S_assign rfl (.tmp rfl)) ?_
  refine AL_p rfl rfl (S_assign rfl (.tmp rfl)) ?_
  refine AL_nil ?_
  refine AC_seq ?_
  refine AC_seq ?_
  refine AC_region ?_
  refine AL_p rfl rfl (S_loadN (m := 7) 1 rfl (.tmp rfl) rfl (by kernel_rfl) (by first | exact Nat.le_of_ble_eq_true rfl | (simp; omega) | simp)) ?_
  refine AL_p rfl rfl (S_loadN (m := 7) 0 rfl (.tmp rfl) rfl (by kernel_rfl) (by first | exact Nat.le_of_ble_eq_true rfl | (simp; omega) | simp)) ?_
  refine AL_p rfl rfl (S_pcall rfl (AEvs.cons (.tmp rfl) (AEvs.cons (.tmp rfl) AEvs.nil)) (book_SameSpec_ok (ofS s) (ofS s) (light_short (ofS_light s)) (light_short (ofS_light s)))) ?_
  refine AL_p rfl rfl (S_not rfl (.tmp rfl)) ?_
  refine AL_p rfl rfl (S_move rfl (.tmp rfl)) ?_
  refine AL_g rfl rfl (.tmp rfl) rfl (fun hg4 => S_move rfl (.tmp rfl)) ?_
  refine AL_g rfl rfl (.tmp rfl) rfl (fun hg7 => S_eqlE (er_is 28 167 (ofE s)) rfl (AEv.cond (.tmp rfl) (by first | assumption | exact gdAnd (by assumption) (by assumption))) (by kernel_rfl)) ?_
  refine AL_g rfl rfl (.tmp rfl) rfl (fun hg10 => S_move rfl (.tmp rfl)) ?_
  refine AL_g rfl rfl (.tmp rfl) rfl (fun hg13 => S_eql rfl (AEv.cond (.tmp rfl) (by first | assumption | exact gdAnd (by assumption) (by assumption))) (AEv.const _)) ?_
  refine AL_g rfl rfl (.tmp rfl) rfl (fun hg16 => S_neB rfl (AEv.cond (.tmp rfl) (by first | assumption | exact gdAnd (by assumption) (by assumption))) (AEv.cond (.tmp rfl) (by first | assumption | exact gdAnd (by assumption) (by assumption))) (by kernel_rfl)) ?_
  refine AL_p rfl rfl (S_or rfl (.tmp rfl) (fun hp19 => (AEv.cond (.tmp rfl) (by first | assumption | exact gdT hp19 | exact gdF hp19 | exact gdAnd (by assumption) (gdT hp19) | exact gdAnd (by assumption) (gdF hp19))))) ?_
  refine AL_p rfl rfl (S_move rfl (.tmp rfl)) ?_
  refine AL_g rfl rfl (.tmp rfl) rfl (fun hg20 => S_move rfl (.tmp rfl)) ?_
  refine AL_g rfl rfl (.tmp rfl) rfl (fun hg23 => S_gcall rfl (AEvs.cons (AEv.cond (.tmp rfl) (by first | assumption | exact gdAnd (by assumption) (by assumption))) AEvs.nil) ((fail_Code_ok (ofE s)) _ (fun p hp => by repeat (first | exact hG p hp | refine List.mem_cons_of_mem _ ?_ | refine List.mem_append_right _ ?_)))) ?_
  refine AL_g rfl rfl (.tmp rfl) rfl (fun hg26 => S_move rfl (.tmp rfl)) ?_
  refine AL_g rfl rfl (.tmp rfl) rfl (fun hg29 => S_neq rfl (AEv.cond (.tmp rfl) (by first | assumption | exact gdAnd (by assumption) (by assumption))) (AEv.cond (.tmp rfl) (by first | assumption | exact gdAnd (by assumption) (by assumption)))) ?_
  refine AL_p rfl rfl (S_or rfl (.tmp rfl) (fun hp32 => (AEv.cond (.tmp rfl) (by first | assumption | exact gdT hp32 | exact gdF hp32 | exact gdAnd (by assumption) (gdT hp32) | exact gdAnd (by assumption) (gdF hp32))))) ?_
  refine AL_p rfl rfl (S_move rfl (.tmp rfl)) ?_
  refine AL_g rfl rfl (.tmp rfl) rfl (fun hg33 => S_move rfl (.tmp rfl)) ?_
  refine AL_g rfl rfl (.tmp rfl) rfl (fun hg36 => S_gcall rfl (AEvs.cons (AEv.cond (.tmp rfl) (by first | assumption | exact gdAnd (by assumption) (by assumption))) AEvs.nil) ((fail_Text_ok (ofE s) (by have := (ofE_short s).path; omega) (by have := (ofE_short s).text; unfold erText at this; omega)) _ (fun p hp => by repeat (first | exact hG p hp | refine List.mem_cons_of_mem _ ?_ | refine List.mem_append_right _ ?_)))) ?_
  refine AL_g rfl rfl (.tmp rfl) rfl (fun hg39 => S_move rfl (.tmp rfl)) ?_
  refine AL_g rfl rfl (.tmp rfl) rfl (fun hg42 => S_neS rfl (AEv.cond (.tmp rfl) (by first | assumption | exact gdAnd (by assumption) (by assumption))) (AEv.cond (.tmp rfl) (by first | assumption | exact gdAnd (by assumption) (by assumption)))) ?_
  refine AL_p rfl rfl (S_or rfl (.tmp rfl) (fun hp45 => (AEv.cond (.tmp rfl) (by first | assumption | exact gdT hp45 | exact gdF hp45 | exact gdAnd (by assumption) (gdT hp45) | exact gdAnd (by assumption) (gdF hp45))))) ?_
  refine AL_nil ?_
  refine AC_cond (.tmp rfl) (fun hb46 => ?_) (fun hb46 => ?_)
  · exfalso; (try simp only [zA, zO, zN, zM, zP, zQ, zD, zF, gd] at hb46); rw [(ofE_well s).isNone, sameS_refl] at hb46; simp [erText] at hb46
  try simp only [zA, zO, zN, zM, zP, zQ, zD, zF, gd] at hb46
  refine AC_skip ?_
  refine AC_seq ?_
  refine AC_region ?_
  refine AL_p rfl rfl (S_move rfl (.tmp rfl)) ?_
  refine AL_step rfl rfl (S_call rfl (AEvs.cons (.tmp rfl) AEvs.nil) (wire_Read_ok s _)) ?_
  rintro _ _ ⟨_, ⟨b8, rfl, rfl⟩, rfl⟩
  refine AL_p rfl rfl (S_assign rfl (.tmp rfl)) ?_
  refine AL_nil ?_
  refine AC_seq ?_
  refine AC_seq ?_
  refine AC_region ?_
  refine AL_p rfl rfl (S_move rfl (.tmp rfl)) ?_
  refine AL_p rfl rfl (S_eqlNil rfl (.tmp rfl) (AEv.const _) (by kernel_rfl)) ?_
  refine AL_nil ?_
  refine AC_cond (.tmp rfl) (fun hb47 => ?_) (fun hb47 => ?_)
  · simp at hb47; done
  try simp only [zA, zO, zN, zM, zP, zQ, zD, zF, gd] at hb47
  have hra := rd_at (spcP_suf s 0)
  have ha := spc_agree s 0
  refine AC_skip ?_
  refine AC_seq ?_
  refine AC_region ?_
  refine AL_p rfl rfl (S_move rfl (.tmp rfl)) ?_
  refine AL_step rfl rfl (S_call rfl (AEvs.cons (.tmp rfl) AEvs.nil) (pack_Take_ok b8 s 0 _ (fun p hp => List.mem_cons_of_mem _ (List.mem_cons_of_mem _ (hG p hp))))) ?_
  rintro _ _ ⟨_, ⟨rfl, rfl⟩, rfl⟩
  refine AL_step rfl rfl (S_alloc [.string ⟨#[]⟩, .slice none 0 0, .slice none 0 0, .slice none 0 0, .int .i64 0, .int .i64 0, .int .i64 0] rfl (by kernel_rfl)) ?_
  rintro _ _ ⟨b9, rfl, rfl⟩
  refine AL_step rfl rfl (S_storeW 0 rfl (.tmp rfl) (.tmp rfl) rfl rfl rfl (by kernel_rfl)) ?_
  rintro _ _ ⟨rfl, rfl⟩
  refine AL_nil ?_
  refine AC_seq ?_
  refine AC_region ?_
  refine AL_p rfl rfl (S_move rfl (.tmp rfl)) ?_
  refine AL_p rfl rfl (S_build (t := 56) (pl := [(0, 1), (1, 1), (2, 1)]) (zs := [.string ⟨#[]⟩, .int .i64 0, .int .i64 0]) rfl (AEvs.cons (.tmp rfl) AEvs.nil) (by kernel_rfl) rfl) ?_
  refine AL_p rfl rfl (S_pcall rfl (AEvs.cons (y := rdR s s 0) ((AEv.tmp rfl).le (Le.of_eq (rd_all s).symm)) AEvs.nil) (ref07_Take_ok s s 0 (List.suffix_refl _) (by omega))) ?_
  refine AL_p rfl rfl (S_move rfl (.tmp rfl)) ?_
  refine AL_p rfl rfl (S_extract 0 rfl (.tmp rfl) rfl) ?_
  refine AL_p rfl rfl (S_extract 1 rfl (.tmp rfl) rfl) ?_
  refine AL_step rfl rfl (S_alloc [.string ⟨#[]⟩, .int .i64 0, .int .i64 0] rfl (by kernel_rfl)) ?_
  rintro _ _ ⟨b10, rfl, rfl⟩
  refine AL_step rfl rfl (S_alloc [.string ⟨#[]⟩, .slice none 0 0, .slice none 0 0, .slice none 0 0, .int .i64 0, .int .i64 0, .int .i64 0] rfl (by kernel_rfl)) ?_
  rintro _ _ ⟨b11, rfl, rfl⟩
  refine AL_step rfl rfl (S_storeW 1 rfl (.tmp rfl) (.tmp rfl) rfl rfl rfl (by kernel_rfl)) ?_
  rintro _ _ ⟨rfl, rfl⟩
  refine AL_step rfl rfl (S_storeW 0 rfl (.tmp rfl) (.tmp rfl) rfl rfl rfl (by kernel_rfl)) ?_
  rintro _ _ ⟨rfl, rfl⟩
  refine AL_nil ?_
  refine AC_seq ?_
  refine AC_region ?_
  refine AL_p rfl rfl (S_field 2 rfl (.tmp rfl) (by kernel_rfl)) ?_
  refine AL_p rfl rfl (S_load 1 rfl (.tmp rfl) rfl rfl (by kernel_rfl)) ?_
  refine AL_p rfl rfl (S_assign rfl (.tmp rfl)) ?_
  refine AL_nil ?_
  refine AC_joinK (G := Unit) [(0, _), (2, _), (8, _), (9, _), (10, _), (11, _)] (fun _ => True) (fun _ => [(12, .int .i64 (takeC s 0))]) (fun _ => (b11, .cells (spcL (spcP s 0).1)) :: (b10, .cells (rdL s (spcP s 0).2.1 (spcP s 0).2.2)) :: (b9, .cells (spcL (takeS s 0))) :: ([(b8, Ob.cells [.S ((spcRd s 0).2.1), .int .i64 (takeC s 0)])] ++ ((b5, .cells (spcL (ofS s))) :: (b3, .cells (spcL (ofS s))) :: st))) (.cons rfl (Le.refl _) (.cons rfl (Le.refl _) (.cons rfl (Le.refl _) (.cons rfl (Le.refl _) (.cons rfl (Le.refl _) (.cons rfl (Le.refl _) .nil)))))) ?_ ?_
  · refine AC_seq ?_
    refine AC_region ?_
    refine AL_p rfl rfl (S_move rfl (.tmp rfl)) ?_
    refine AL_p rfl rfl (S_eql rfl (.tmp rfl) (AEv.const _)) ?_
    refine AL_nil ?_
    refine AC_cond (.tmp rfl) (fun hb51 => ?_) (fun hb51 => ?_)
    · try simp only [zA, zO, zN, zM, zP, zQ, zD, zF, gd] at hb51
      have hc : (spcP s 0).2.2 = 0 := hb51
      refine AC_region ?_
      refine AL_p rfl rfl (S_loadN (m := 7) 0 rfl (.tmp rfl) rfl (by kernel_rfl) (by first | exact Nat.le_of_ble_eq_true rfl | (simp; omega) | simp)) ?_
      refine AL_p rfl rfl (S_pcall rfl (AEvs.cons (.tmp rfl) AEvs.nil) (ref06_Check_ok (spcP s 0).1 (takeC_good hc).2.2)) ?_
      refine AL_p rfl rfl (S_move rfl (.tmp rfl)) ?_
      refine AL_p rfl rfl (S_extract 0 rfl (.tmp rfl) rfl) ?_
      refine AL_p rfl rfl (S_extract 1 rfl (.tmp rfl) rfl) ?_
      refine AL_p rfl rfl (S_assign rfl (.tmp rfl)) ?_
      refine AL_nil ?_
      exact ⟨(), trivial, (Sub.l (List.Sublist.refl _)), (.cons rfl (Le.of_eq (congrArg (AV.int .i64) (by first | exact (takeC_good hc).1.symm | exact (takeC_bad hc).symm))) .nil), (.cons rfl (Le.refl _) (.cons rfl (Le.refl _) (.cons rfl (Le.refl _) (.cons rfl (Le.refl _) (.cons rfl (Le.refl _) (.cons rfl (Le.refl _) .nil))))))⟩
    try simp only [zA, zO, zN, zM, zP, zQ, zD, zF, gd] at hb51
    have hc : (spcP s 0).2.2 ≠ 0 := hb51
    refine AC_skip ?_
    exact ⟨(), trivial, (Sub.l (List.Sublist.refl _)), (.cons rfl (Le.of_eq (congrArg (AV.int .i64) (by first | exact (takeC_good hc).1.symm | exact (takeC_bad hc).symm))) .nil), (.cons rfl (Le.refl _) (.cons rfl (Le.refl _) (.cons rfl (Le.refl _) (.cons rfl (Le.refl _) (.cons rfl (Le.refl _) (.cons rfl (Le.refl _) .nil))))))⟩
  rintro _ _
  try dsimp only
  simp only [List.cons_append, List.nil_append]
  refine AC_seq ?_
  refine AC_seq ?_
  refine AC_region ?_
  refine AL_p rfl rfl (S_move rfl (.tmp rfl)) ?_
  refine AL_p rfl rfl (S_neq rfl (.tmp rfl) (AEv.const _)) ?_
  refine AL_nil ?_
  refine AC_cond (.tmp rfl) (fun hb52 => ?_) (fun hb52 => ?_)
  · try simp only [zA, zO, zN, zM, zP, zQ, zD, zF, gd] at hb52
    have hx : takeS s 0 = spc0 := by unfold takeS; rw [if_neg hb52]
    have hcn : takeC s 0 ≠ 0 := hb52
    refine AC_region ?_
    refine AL_p rfl rfl (S_build (t := 25) (pl := [(0, 1), (1, 1), (2, 1), (3, 1), (4, 1), (5, 1), (6, 1)]) (zs := [.string ⟨#[]⟩, .slice none 0 0, .slice none 0 0, .slice none 0 0, .int .i64 0, .int .i64 0, .int .i64 0]) rfl AEvs.nil (by kernel_rfl) rfl) ?_
    refine AL_step rfl rfl (S_storeW 0 rfl (.tmp rfl) (.tmp rfl) rfl rfl rfl (by kernel_rfl)) ?_
    rintro _ _ ⟨rfl, rfl⟩
    refine AL_nil ?_
    refine AC_seq ?_
    refine AC_draw (by kernel_rfl) (by kernel_rfl) (.cons rfl (Q_p rfl (S_loadN (m := 7) 2 rfl (.tmp rfl) rfl (by kernel_rfl) (by first | exact Nat.le_of_ble_eq_true rfl | (simp; omega) | simp))) <|
        .cons rfl (Q_p rfl (S_loadN (m := 7) 0 rfl (.tmp rfl) rfl (by kernel_rfl) (by first | exact Nat.le_of_ble_eq_true rfl | (simp; omega) | simp))) <|
        .cons rfl (Q_p rfl (S_pcall rfl (AEvs.cons (.tmp rfl) (AEvs.cons (y := spcAV spc0) ((AEv.tmp rfl).le (by exact (Les.agg (.cons (Le.refl _) (.cons Le.nils (.cons Le.nils (.cons Le.nils (.cons (Le.refl _) (.cons (Le.refl _) (.cons (Le.refl _) .nil)))))))))) AEvs.nil)) (book_SameSpec_ok (takeS s 0) spc0 (by rw [hx]; exact light_short spc0_light) (light_short spc0_light)))) <|
        .cons rfl (Q_p rfl (S_move rfl (.tmp rfl))) <|
        .cons rfl (Q_g rfl rfl (.tmp rfl) (fun hg53 => S_move rfl (.tmp rfl))) <|
        .cons rfl (Q_g rfl rfl (.tmp rfl) (fun hg56 => S_keep (S_call rfl (AEvs.cons (AEv.cond (.tmp rfl) (by first | assumption | exact gdAnd (by assumption) (by assumption))) AEvs.nil) (ACalls.preQ (pre := [_, _, _]) (F := _) (r_Code_ok b8 _ _ _))) (by rintro _ _ ⟨_, ⟨rfl, rfl⟩, rfl⟩; exact ⟨rfl, rfl⟩))) <|
        .cons rfl (Q_g rfl rfl (.tmp rfl) (fun hg59 => S_move rfl (.tmp rfl))) <|
        .cons rfl (Q_g rfl rfl (.tmp rfl) (fun hg62 => S_eql rfl (AEv.cond (.tmp rfl) (by first | assumption | exact gdAnd (by assumption) (by assumption))) (AEv.cond (.tmp rfl) (by first | assumption | exact gdAnd (by assumption) (by assumption))))) <|
        .cons rfl (Q_p rfl (S_and rfl (.tmp rfl) (fun hp65 => (AEv.cond (.tmp rfl) (by first | assumption | exact gdT hp65 | exact gdF hp65 | exact gdAnd (by assumption) (gdT hp65) | exact gdAnd (by assumption) (gdF hp65)))))) <|
        .cons rfl (Q_p rfl (S_move rfl (.tmp rfl))) <|
        .cons rfl (Q_g rfl rfl (.tmp rfl) (fun hg66 => S_move rfl (.tmp rfl))) <|
        .cons rfl (Q_g rfl rfl (.tmp rfl) (fun hg69 => S_neq rfl (AEv.cond (.tmp rfl) (by first | assumption | exact gdAnd (by assumption) (by assumption))) (AEv.const _))) <|
        .cons rfl (Q_g rfl rfl (.tmp rfl) (fun hg72 => S_move rfl (AEv.cond (.tmp rfl) (by first | assumption | exact gdAnd (by assumption) (by assumption))))) <|
        .cons rfl (Q_gg rfl rfl (.tmp rfl) (fun hg75 hg76 hg77 => S_move rfl (.tmp rfl))) <|
        .cons rfl (Q_gg rfl rfl (.tmp rfl) (fun hg78 hg79 hg80 => S_keep (S_call rfl (AEvs.cons (AEv.cond (.tmp rfl) (by first | assumption | exact gdAnd (by assumption) (by assumption))) AEvs.nil) (ACalls.preQ (pre := [_, _, _]) (F := _) (r_Left_ok b8 _ _ _))) (by rintro _ _ ⟨_, ⟨rfl, rfl⟩, rfl⟩; exact ⟨rfl, rfl⟩))) <|
        .cons rfl (Q_gg rfl rfl (.tmp rfl) (fun hg81 hg82 hg83 => S_move rfl (.tmp rfl))) <|
        .cons rfl (Q_gg rfl rfl (.tmp rfl) (fun hg84 hg85 hg86 => S_lenS (ts := #[]) rfl (AEv.cond (.tmp rfl) (by first | assumption | exact gdAnd (by assumption) (by assumption))) (by kernel_rfl))) <|
        .cons rfl (Q_gg rfl rfl (.tmp rfl) (fun hg87 hg88 hg89 => S_field 1 rfl (.tmp rfl) (by kernel_rfl))) <|
        .cons rfl (Q_gg rfl rfl (.tmp rfl) (fun hg90 hg91 hg92 => S_load 1 rfl (AEv.cond (.tmp rfl) (by first | assumption | exact gdAnd (by assumption) (by assumption))) rfl rfl (by kernel_rfl))) <|
        .cons rfl (Q_gg rfl rfl (.tmp rfl) (fun hg93 hg94 hg95 => S_subI rfl (AEv.cond (.tmp rfl) (by first | assumption | exact gdAnd (by assumption) (by assumption))) (AEv.cond (.tmp rfl) (by first | assumption | exact gdAnd (by assumption) (by assumption))) (by (try simp only [gd, Bool.and_eq_true, Bool.or_eq_true, Bool.not_eq_true', Bool.not_eq_false', decide_eq_true_eq, decide_eq_false_iff_not, Bool.or_eq_false_iff, Bool.and_eq_false_iff] at *); omega) (by (try simp only [gd, Bool.and_eq_true, Bool.or_eq_true, Bool.not_eq_true', Bool.not_eq_false', decide_eq_true_eq, decide_eq_false_iff_not, Bool.or_eq_false_iff, Bool.and_eq_false_iff] at *); omega))) <|
        .cons rfl (Q_gg rfl rfl (.tmp rfl) (fun hg96 hg97 hg98 => S_eql rfl (AEv.cond (.tmp rfl) (by first | assumption | exact gdAnd (by assumption) (by assumption))) (AEv.cond (.tmp rfl) (by first | assumption | exact gdAnd (by assumption) (by assumption))))) <|
        .cons rfl (Q_g rfl rfl (.tmp rfl) (fun hg99 => S_or rfl (AEv.cond (.tmp rfl) (by first | assumption | exact gdAnd (by assumption) (by assumption))) (fun hp102 => (AEv.cond (.tmp rfl) (by first | assumption | exact gdT hp102 | exact gdF hp102 | exact gdAnd (by assumption) (gdT hp102) | exact gdAnd (by assumption) (gdF hp102)))))) <|
        .cons rfl (Q_p rfl (S_and rfl (.tmp rfl) (fun hp103 => (AEv.cond (.tmp rfl) (by first | assumption | exact gdT hp103 | exact gdF hp103 | exact gdAnd (by assumption) (gdT hp103) | exact gdAnd (by assumption) (gdF hp103)))))) <|
        .cons rfl (Q_p rfl (S_move rfl (.tmp rfl))) <|
        .cons rfl (Q_g rfl rfl (.tmp rfl) (fun hg104 => S_gcall rfl AEvs.nil ((law07_works_ok) _ (fun p hp => by repeat (first | exact hG p hp | refine List.mem_cons_of_mem _ ?_ | refine List.mem_append_right _ ?_))))) <|
        .cons rfl (Q_p rfl (S_and rfl (.tmp rfl) (fun hp107 => (AEv.cond (.tmp rfl) (by first | assumption | exact gdT hp107 | exact gdF hp107 | exact gdAnd (by assumption) (gdT hp107) | exact gdAnd (by assumption) (gdF hp107)))))) <|
        .cons rfl (Q_p rfl (S_assign rfl (.tmp rfl))) <|
        .nil) ?_
    refine AC_ret ?_
    refine ret_tmp st rfl rfl (Sub.l (List.Sublist.cons _ (List.Sublist.cons _ (List.Sublist.cons _ (List.Sublist.cons _ (List.Sublist.cons _ (List.Sublist.cons _ (List.Sublist.refl _)))))))) (Conv.refl (Sub.l (List.Sublist.cons _ (List.Sublist.cons _ (List.Sublist.cons _ (List.Sublist.cons _ (List.Sublist.cons _ (List.Sublist.cons _ (List.Sublist.refl _)))))))) _) ⟨congrArg AV.bool (by rw [hx, sameS_refl]; simp [hcn]), rfl⟩ (.inl rfl)
  try simp only [zA, zO, zN, zM, zP, zQ, zD, zF, gd] at hb52
  have hc0 : takeC s 0 = 0 := by simpa using hb52
  have hx : takeS s 0 = (spcRd s 0).1 := by unfold takeS; rw [if_pos hc0]
  have hv := (takeC_good (takeC_zero hc0)).2.1
  refine AC_skip ?_
  refine AC_seq ?_
  refine AC_draw (by kernel_rfl) (by kernel_rfl) (.cons rfl (Q_p rfl (S_loadN (m := 7) 2 rfl (.tmp rfl) rfl (by kernel_rfl) (by first | exact Nat.le_of_ble_eq_true rfl | (simp; omega) | simp))) <|
      .cons rfl (Q_p rfl (S_loadN (m := 7) 0 rfl (.tmp rfl) rfl (by kernel_rfl) (by first | exact Nat.le_of_ble_eq_true rfl | (simp; omega) | simp))) <|
      .cons rfl (Q_p rfl (S_pcall rfl (AEvs.cons (.tmp rfl) (AEvs.cons (.tmp rfl) AEvs.nil)) (book_SameSpec_ok (takeS s 0) (spcP s 0).1 (by rw [hx]; exact light_short (spcRd_light s 0)) (spcP_short s 0)))) <|
      .cons rfl (Q_p rfl (S_move rfl (.tmp rfl))) <|
      .cons rfl (Q_g rfl rfl (.tmp rfl) (fun hg108 => S_move rfl (.tmp rfl))) <|
      .cons rfl (Q_g rfl rfl (.tmp rfl) (fun hg111 => S_keep (S_call rfl (AEvs.cons (AEv.cond (.tmp rfl) (by first | assumption | exact gdAnd (by assumption) (by assumption))) AEvs.nil) (ACalls.preQ (pre := [_, _, _]) (F := _) (r_Code_ok b8 _ _ _))) (by rintro _ _ ⟨_, ⟨rfl, rfl⟩, rfl⟩; exact ⟨rfl, rfl⟩))) <|
      .cons rfl (Q_g rfl rfl (.tmp rfl) (fun hg114 => S_move rfl (.tmp rfl))) <|
      .cons rfl (Q_g rfl rfl (.tmp rfl) (fun hg117 => S_eql rfl (AEv.cond (.tmp rfl) (by first | assumption | exact gdAnd (by assumption) (by assumption))) (AEv.cond (.tmp rfl) (by first | assumption | exact gdAnd (by assumption) (by assumption))))) <|
      .cons rfl (Q_p rfl (S_and rfl (.tmp rfl) (fun hp120 => (AEv.cond (.tmp rfl) (by first | assumption | exact gdT hp120 | exact gdF hp120 | exact gdAnd (by assumption) (gdT hp120) | exact gdAnd (by assumption) (gdF hp120)))))) <|
      .cons rfl (Q_p rfl (S_move rfl (.tmp rfl))) <|
      .cons rfl (Q_g rfl rfl (.tmp rfl) (fun hg121 => S_move rfl (.tmp rfl))) <|
      .cons rfl (Q_g rfl rfl (.tmp rfl) (fun hg124 => S_neq rfl (AEv.cond (.tmp rfl) (by first | assumption | exact gdAnd (by assumption) (by assumption))) (AEv.const _))) <|
      .cons rfl (Q_g rfl rfl (.tmp rfl) (fun hg127 => S_move rfl (AEv.cond (.tmp rfl) (by first | assumption | exact gdAnd (by assumption) (by assumption))))) <|
      .cons rfl (Q_gg rfl rfl (.tmp rfl) (fun hg130 hg131 hg132 => S_move rfl (.tmp rfl))) <|
      .cons rfl (Q_gg rfl rfl (.tmp rfl) (fun hg133 hg134 hg135 => S_keep (S_call rfl (AEvs.cons (AEv.cond (.tmp rfl) (by first | assumption | exact gdAnd (by assumption) (by assumption))) AEvs.nil) (ACalls.preQ (pre := [_, _, _]) (F := _) (r_Left_ok b8 _ _ _))) (by rintro _ _ ⟨_, ⟨rfl, rfl⟩, rfl⟩; exact ⟨rfl, rfl⟩))) <|
      .cons rfl (Q_gg rfl rfl (.tmp rfl) (fun hg136 hg137 hg138 => S_move rfl (.tmp rfl))) <|
      .cons rfl (Q_gg rfl rfl (.tmp rfl) (fun hg139 hg140 hg141 => S_lenS (ts := #[]) rfl (AEv.cond (.tmp rfl) (by first | assumption | exact gdAnd (by assumption) (by assumption))) (by kernel_rfl))) <|
      .cons rfl (Q_gg rfl rfl (.tmp rfl) (fun hg142 hg143 hg144 => S_field 1 rfl (.tmp rfl) (by kernel_rfl))) <|
      .cons rfl (Q_gg rfl rfl (.tmp rfl) (fun hg145 hg146 hg147 => S_load 1 rfl (AEv.cond (.tmp rfl) (by first | assumption | exact gdAnd (by assumption) (by assumption))) rfl rfl (by kernel_rfl))) <|
      .cons rfl (Q_gg rfl rfl (.tmp rfl) (fun hg148 hg149 hg150 => S_subI rfl (AEv.cond (.tmp rfl) (by first | assumption | exact gdAnd (by assumption) (by assumption))) (AEv.cond (.tmp rfl) (by first | assumption | exact gdAnd (by assumption) (by assumption))) (by (try simp only [gd, Bool.and_eq_true, Bool.or_eq_true, Bool.not_eq_true', Bool.not_eq_false', decide_eq_true_eq, decide_eq_false_iff_not, Bool.or_eq_false_iff, Bool.and_eq_false_iff] at *); omega) (by (try simp only [gd, Bool.and_eq_true, Bool.or_eq_true, Bool.not_eq_true', Bool.not_eq_false', decide_eq_true_eq, decide_eq_false_iff_not, Bool.or_eq_false_iff, Bool.and_eq_false_iff] at *); omega))) <|
      .cons rfl (Q_gg rfl rfl (.tmp rfl) (fun hg151 hg152 hg153 => S_eql rfl (AEv.cond (.tmp rfl) (by first | assumption | exact gdAnd (by assumption) (by assumption))) (AEv.cond (.tmp rfl) (by first | assumption | exact gdAnd (by assumption) (by assumption))))) <|
      .cons rfl (Q_g rfl rfl (.tmp rfl) (fun hg154 => S_or rfl (AEv.cond (.tmp rfl) (by first | assumption | exact gdAnd (by assumption) (by assumption))) (fun hp157 => (AEv.cond (.tmp rfl) (by first | assumption | exact gdT hp157 | exact gdF hp157 | exact gdAnd (by assumption) (gdT hp157) | exact gdAnd (by assumption) (gdF hp157)))))) <|
      .cons rfl (Q_p rfl (S_and rfl (.tmp rfl) (fun hp158 => (AEv.cond (.tmp rfl) (by first | assumption | exact gdT hp158 | exact gdF hp158 | exact gdAnd (by assumption) (gdT hp158) | exact gdAnd (by assumption) (gdF hp158)))))) <|
      .cons rfl (Q_p rfl (S_move rfl (.tmp rfl))) <|
      .cons rfl (Q_g rfl rfl (.tmp rfl) (fun hg159 => S_gcall rfl AEvs.nil ((law07_works_ok) _ (fun p hp => by repeat (first | exact hG p hp | refine List.mem_cons_of_mem _ ?_ | refine List.mem_append_right _ ?_))))) <|
      .cons rfl (Q_p rfl (S_and rfl (.tmp rfl) (fun hp162 => (AEv.cond (.tmp rfl) (by first | assumption | exact gdT hp162 | exact gdF hp162 | exact gdAnd (by assumption) (gdT hp162) | exact gdAnd (by assumption) (gdF hp162)))))) <|
      .cons rfl (Q_p rfl (S_assign rfl (.tmp rfl))) <|
      .nil) ?_
  refine AC_ret ?_
  refine ret_tmp st rfl rfl (Sub.l (List.Sublist.cons _ (List.Sublist.cons _ (List.Sublist.cons _ (List.Sublist.cons _ (List.Sublist.cons _ (List.Sublist.cons _ (List.Sublist.refl _)))))))) (Conv.refl (Sub.l (List.Sublist.cons _ (List.Sublist.cons _ (List.Sublist.cons _ (List.Sublist.cons _ (List.Sublist.cons _ (List.Sublist.cons _ (List.Sublist.refl _)))))))) _) ⟨congrArg AV.bool (by rw [hra, ← ha.1, hx, hv, sameS_refl]; simp [hc0]), rfl⟩ (.inl rfl)

end Go.Proofs.YtfmiciodcimkeaaGreatDoor

/-
The walks of Go functions in the logic AL: what each of them answers.
Conditions: those of each theorem.
-/
set_option linter.unusedVariables false
set_option linter.unusedSimpArgs false
namespace Go.Proofs.YtfmiciodcimkeaaGreatDoor
open Go.AL Go.NumSpec

set_option maxRecDepth 100000 in
/-- provost/provostref07.number -/
theorem ref07_number_ok (n : Int) (h0 : 0 ≤ n) (hn : n ≤ 9223372036854775807) : PCalls Tryz.prog 50 [.int .i64 n] (.S (numB n)) := by
  intro st
  refine ACalls_of (N := 6) Tryz.func50 (by kernel_rfl) rfl rfl rfl ?_
  refine AC_seq ?_
  refine AC_region ?_
  refine AL_p rfl rfl (S_assign rfl (AEv.S _)) ?_
  refine AL_nil ?_
  refine AC_seq ?_
  refine AC_region ?_
  refine AL_p rfl rfl (S_move rfl (.tmp rfl)) ?_
  refine AL_p rfl rfl ((S_conv (k' := .u64) rfl (.tmp rfl) (by kernel_rfl) (by kernel_rfl)).ofV (V' := .int .u64 (((n).toNat : Nat) : Int)) (congrArg (AV.int .u64) (by rw [u64w]; omega))) ?_
  refine AL_p rfl rfl (S_pcall rfl (AEvs.cons (.tmp rfl) AEvs.nil) (ref_Put_ok n.toNat (by omega))) ?_
  refine AL_p rfl rfl (S_assign rfl (.tmp rfl)) ?_
  refine AL_nil ?_
  refine AC_ret ?_
  refine ret_tmp st rfl rfl (Sub.l (List.Sublist.refl _)) (Conv.refl (Sub.l (List.Sublist.refl _)) _) ⟨rfl, rfl⟩ (.inl rfl)

set_option maxRecDepth 100000 in
/-- provost/provostref04.Bytes -/
theorem ref04_Bytes_ok (s : List UInt8) (hs : s.length ≤ 1000000000) : PCalls Tryz.prog 48 [.S s] (.S (textB s)) := by
  intro st
  refine ACalls_of (N := 9) Tryz.func48 (by kernel_rfl) rfl rfl rfl ?_
  have hp := putL_few s.length (by omega)
  refine AC_seq ?_
  refine AC_region ?_
  refine AL_p rfl rfl (S_assign rfl (AEv.S _)) ?_
  refine AL_nil ?_
  refine AC_seq ?_
  refine AC_region ?_
  refine AL_p rfl rfl (S_move rfl (.tmp rfl)) ?_
  refine AL_p rfl rfl (S_lenS (ts := #[]) rfl (.tmp rfl) (by kernel_rfl)) ?_
  refine AL_p rfl rfl ((S_conv (k' := .u64) rfl (.tmp rfl) (by kernel_rfl) (by kernel_rfl)).ofV (V' := .int .u64 ((((s.length : Int)).toNat : Nat) : Int)) (congrArg (AV.int .u64) (by rw [u64w]; omega))) ?_
  refine AL_p rfl rfl (S_pcall rfl (AEvs.cons (.tmp rfl) AEvs.nil) (ref_Put_ok s.length (by omega))) ?_
  refine AL_p rfl rfl (S_move rfl (.tmp rfl)) ?_
  refine AL_p rfl rfl (S_cat rfl (.tmp rfl) (.tmp rfl) (by omega)) ?_
  refine AL_p rfl rfl (S_assign rfl (.tmp rfl)) ?_
  refine AL_nil ?_
  refine AC_ret ?_
  refine ret_tmp st rfl rfl (Sub.l (List.Sublist.refl _)) (Conv.refl (Sub.l (List.Sublist.refl _)) _) ⟨rfl, rfl⟩ (.inl rfl)

set_option maxRecDepth 100000 in
/-- provost/provostref07.Labels -/
theorem ref07_Labels_ok (l : List Lab) (hl : l.length ≤ 1000) (hls : ∀ x ∈ l, x.1.length ≤ 400 ∧ x.2.length ≤ 400) : PCalls Tryz.prog 28 [.sl (labsV l)] (.S (listB labB l)) := by
  intro st
  refine ACalls_of (N := 30) Tryz.func28 (by kernel_rfl) rfl rfl rfl ?_
  have hp := putL_few l.length (by omega)
  have hen : ∀ x ∈ l, (labB x).length ≤ 1000 := fun x hx => labB_len (hls x hx).1 (hls x hx).2
  refine AC_seq ?_
  refine AC_region ?_
  refine AL_p rfl rfl (S_assign rfl (AEv.S _)) ?_
  refine AL_nil ?_
  refine AC_seq ?_
  refine AC_region ?_
  refine AL_p rfl rfl (S_move rfl (.tmp rfl)) ?_
  refine AL_p rfl rfl (by first | exact S_lenM (e := 71) rfl (.tmp rfl) (by kernel_rfl) | exact S_len (e := 71) rfl (.tmp rfl) (by kernel_rfl)) ?_
  refine AL_p rfl rfl (S_pcall rfl (AEvs.cons (.tmp rfl) AEvs.nil) (ref07_number_ok (l.length : Int) (by omega) (by omega))) ?_
  refine AL_p rfl rfl (S_assign rfl (.tmp rfl)) ?_
  refine AL_nil ?_
  refine AC_seq ?_
  refine AC_seq ?_
  refine AC_region ?_
  refine AL_p rfl rfl (S_assign rfl (AEv.const _)) ?_
  refine AL_nil ?_
  refine AC_block ?_
  refine AC_loopK (G := Nat) [(0, _), (2, _)] (fun g => g ≤ l.length) (fun g => [(3, .S (putL l.length ++ (l.take g).flatMap labB)), (4, .int .i64 (g : Int))]) (fun g => st) (fun g => l.length - g) (0) (Nat.zero_le _) (Sub.l (List.Sublist.refl _)) (.cons rfl (Le.refl _) (.cons rfl (Le.refl _) .nil)) (.cons rfl (Le.of_eq (congrArg AV.S (by simp [numB]))) (.cons rfl (by first | exact Le.refl _ | exact Le.nils | exact Le.row _ _ _ _ | exact Le.of_eq (by first | rfl | (simp; done) | (push_cast; rfl) | (simp; omega))) .nil)) ?_
  rintro i hi
  try dsimp only
  simp only [List.cons_append, List.nil_append]
  have hfm := flatB_len (e := labB) (B := 1000) (l := l.take i) fun x hx => hen x (List.mem_of_mem_take hx)
  rw [List.length_take, show min i l.length = i by omega] at hfm
  refine AC_seq ?_
  refine AC_seq ?_
  refine AC_region ?_
  refine AL_p rfl rfl (S_move rfl (.tmp rfl)) ?_
  refine AL_p rfl rfl (S_move rfl (.tmp rfl)) ?_
  refine AL_p rfl rfl (by first | exact S_lenM (e := 71) rfl (.tmp rfl) (by kernel_rfl) | exact S_len (e := 71) rfl (.tmp rfl) (by kernel_rfl)) ?_
  refine AL_p rfl rfl (S_lss rfl (.tmp rfl) (.tmp rfl)) ?_
  refine AL_nil ?_
  refine AC_cond (.tmp rfl) (fun hb1 => ?_) (fun hb1 => ?_)
  · try simp only [zA, zO, zN, zM, zP, zQ, zD, zF, gd] at hb1
    have hil : i < l.length := by omega
    have hx := hls _ (List.getElem_mem hil)
    have n1 := textB_len (s := (l[i]'hil).1) (by omega)
    have n2 := textB_len (s := (l[i]'hil).2) (by omega)
    refine AC_skip ?_
    refine AC_seq ?_
    refine AC_block ?_
    refine AC_draw (by kernel_rfl) (by kernel_rfl) (.cons rfl (Q_p rfl (S_move rfl (.tmp rfl))) <|
        .cons rfl (Q_p rfl (S_move rfl (.tmp rfl))) <|
        .cons rfl (Q_p rfl (S_move rfl (.tmp rfl))) <|
        .cons rfl (Q_p rfl (S_elemN (e := 71) 2 rfl (.tmp rfl) (.tmp rfl) (by kernel_rfl) (by kernel_rfl) (by omega) (fun _ => rfl))) <|
        .cons rfl (Q_p rfl (S_fieldP 0 rfl (.tmp rfl) (by kernel_rfl))) <|
        .cons rfl (Q_p rfl (S_loadP rfl (.tmp rfl) rfl (by kernel_rfl))) <|
        .cons rfl (Q_p rfl (S_pcall rfl (AEvs.cons (.tmp rfl) AEvs.nil) (ref04_Bytes_ok (l[i]'hil).1 (by omega)))) <|
        .cons rfl (Q_p rfl (S_cat rfl (.tmp rfl) (.tmp rfl) (by simp only [List.length_append]; omega))) <|
        .cons rfl (Q_p rfl (S_move rfl (.tmp rfl))) <|
        .cons rfl (Q_p rfl (S_move rfl (.tmp rfl))) <|
        .cons rfl (Q_p rfl (S_elemN (e := 71) 2 rfl (.tmp rfl) (.tmp rfl) (by kernel_rfl) (by kernel_rfl) (by omega) (fun _ => rfl))) <|
        .cons rfl (Q_p rfl (S_fieldP 1 rfl (.tmp rfl) (by kernel_rfl))) <|
        .cons rfl (Q_p rfl (S_loadP rfl (.tmp rfl) rfl (by kernel_rfl))) <|
        .cons rfl (Q_p rfl (S_pcall rfl (AEvs.cons (.tmp rfl) AEvs.nil) (ref04_Bytes_ok (l[i]'hil).2 (by omega)))) <|
        .cons rfl (Q_p rfl (S_cat rfl (.tmp rfl) (.tmp rfl) (by simp only [List.length_append]; omega))) <|
        .cons rfl (Q_p rfl (S_assign rfl (.tmp rfl))) <|
        .nil) ?_
    refine AC_region ?_
    refine AL_p rfl rfl (S_move rfl (.tmp rfl)) ?_
    refine AL_p rfl rfl (S_addI rfl (.tmp rfl) (AEv.const _) (by omega) (by omega)) ?_
    refine AL_p rfl rfl (S_assign rfl (.tmp rfl)) ?_
    refine AL_nil ?_
    exact ⟨i + 1, by omega, by omega, (Sub.l (List.Sublist.refl _)), (.cons rfl (Le.of_eq (congrArg AV.S (by rw [listB_next hil]; simp [labB]))) (.cons rfl (by first | exact Le.refl _ | exact Le.nils | exact Le.row _ _ _ _ | exact Le.of_eq (by first | rfl | (simp; done) | (push_cast; rfl) | (simp; omega))) .nil)), (.cons rfl (Le.refl _) (.cons rfl (Le.refl _) .nil))⟩
  try simp only [zA, zO, zN, zM, zP, zQ, zD, zF, gd] at hb1
  have hx : l.take i = l := List.take_of_length_le (by omega)
  refine AC_exit ?_
  refine AC_seq ?_
  refine AC_region ?_
  refine AL_p rfl rfl (S_move rfl (.tmp rfl)) ?_
  refine AL_p rfl rfl (S_assign rfl (.tmp rfl)) ?_
  refine AL_nil ?_
  refine AC_ret ?_
  refine ret_tmp st rfl rfl (Sub.l (List.Sublist.refl _)) (Conv.refl (Sub.l (List.Sublist.refl _)) _) ⟨congrArg AV.S (by rw [hx]; rfl), rfl⟩ (.inl rfl)

end Go.Proofs.YtfmiciodcimkeaaGreatDoor

/-
The walks of Go functions in the logic AL: what each of them answers.
Conditions: those of each theorem.
-/
set_option linter.unusedVariables false
set_option linter.unusedSimpArgs false
namespace Go.Proofs.YtfmiciodcimkeaaGreatDoor
open Go.AL Go.NumSpec

set_option maxRecDepth 100000 in
/-- provost/provostlaw07.PackLabels -/
theorem law_PackLabels (l : List Lab) (s : List UInt8) : GCalls Tryz.prog tabs 6 [.sl (labsV l), .S s] (.bool true) := by
  intro st hG
  refine ACalls_of (N := 93) Tryz.func6 (by kernel_rfl) rfl rfl rfl ?_
  refine AC_seq ?_
  refine AC_region ?_
  refine AL_p rfl rfl (S_assign rfl (AEv.const _)) ?_
  refine AL_nil ?_
  refine AC_seq ?_
  refine AC_seq ?_
  refine AC_region ?_
  refine AL_p rfl rfl (S_move rfl (.tmp rfl)) ?_
  refine AL_p rfl rfl (by first | exact S_lenM (e := 71) rfl (.tmp rfl) (by kernel_rfl) | exact S_len (e := 71) rfl (.tmp rfl) (by kernel_rfl)) ?_
  refine AL_p rfl rfl (S_gtr rfl (.tmp rfl) (AEv.const _)) ?_
  refine AL_p rfl rfl (S_move rfl (.tmp rfl)) ?_
  refine AL_g rfl rfl (.tmp rfl) rfl (fun hg1 => S_move rfl (.tmp rfl)) ?_
  refine AL_g rfl rfl (.tmp rfl) rfl (fun hg4 => S_lenS (ts := #[]) rfl (AEv.cond (.tmp rfl) (by first | assumption | exact gdAnd (by assumption) (by assumption))) (by kernel_rfl)) ?_
  refine AL_g rfl rfl (.tmp rfl) rfl (fun hg7 => S_gtr rfl (AEv.cond (.tmp rfl) (by first | assumption | exact gdAnd (by assumption) (by assumption))) (AEv.const _)) ?_
  refine AL_p rfl rfl (S_or rfl (.tmp rfl) (fun hp10 => (AEv.cond (.tmp rfl) (by first | assumption | exact gdT hp10 | exact gdF hp10 | exact gdAnd (by assumption) (gdT hp10) | exact gdAnd (by assumption) (gdF hp10))))) ?_
  refine AL_p rfl rfl (S_move rfl (.tmp rfl)) ?_
  refine AL_g rfl rfl (.tmp rfl) rfl (fun hg11 => S_move rfl (.tmp rfl)) ?_
  refine AL_g rfl rfl (.tmp rfl) rfl (fun hg14 => S_build (t := 25) (pl := [(0, 1), (1, 1), (2, 1), (3, 1), (4, 1), (5, 1), (6, 1)]) (zs := [.string ⟨#[]⟩, .slice none 0 0, .slice none 0 0, .slice none 0 0, .int .i64 0, .int .i64 0, .int .i64 0]) rfl (AEvs.cons (AEv.cond (.tmp rfl) (by first | assumption | exact gdAnd (by assumption) (by assumption))) AEvs.nil) (by kernel_rfl) rfl) ?_
  refine AL_g rfl rfl (.tmp rfl) rfl (fun hg17 => S_pcall rfl (AEvs.cons (y := spcAV (onlyL l)) ((AEv.cond (.tmp rfl) (by first | assumption | exact gdAnd (by assumption) (by assumption))).le (by exact (Les.agg (.cons (Le.refl _) (.cons (Le.refl _) (.cons Le.nils (.cons Le.nils (.cons (Le.refl _) (.cons (Le.refl _) (.cons (Le.refl _) .nil)))))))))) AEvs.nil) (book_LightSpec_ok (onlyL l))) ?_
  refine AL_g rfl rfl (.tmp rfl) rfl (fun hg20 => S_not rfl (AEv.cond (.tmp rfl) (by first | assumption | exact gdAnd (by assumption) (by assumption)))) ?_
  refine AL_p rfl rfl (S_or rfl (.tmp rfl) (fun hp23 => (AEv.cond (.tmp rfl) (by first | assumption | exact gdT hp23 | exact gdF hp23 | exact gdAnd (by assumption) (gdT hp23) | exact gdAnd (by assumption) (gdF hp23))))) ?_
  refine AL_nil ?_
  refine AC_cond (.tmp rfl) (fun hb24 => ?_) (fun hb24 => ?_)
  · try simp only [zA, zO, zN, zM, zP, zQ, zD, zF, gd] at hb24
    refine AC_seq ?_
    refine AC_region ?_
    refine AL_p rfl rfl (S_gcall rfl AEvs.nil ((law07_works_ok) _ (fun p hp => by repeat (first | exact hG p hp | refine List.mem_cons_of_mem _ ?_ | refine List.mem_append_right _ ?_)))) ?_
    refine AL_p rfl rfl (S_assign rfl (.tmp rfl)) ?_
    refine AL_nil ?_
    refine AC_ret ?_
    refine ret_tmp st rfl rfl (Sub.l (List.Sublist.refl _)) (Conv.refl (Sub.l (List.Sublist.refl _)) _) ⟨rfl, rfl⟩ (.inl rfl)
  try simp only [zA, zO, zN, zM, zP, zQ, zD, zF, gd] at hb24
  have hla : lightS (onlyL l) = true := by simpa using hb24.2
  have hal := (onlyL_light hla).1
  have hls : ∀ x ∈ l, x.1.length ≤ 400 ∧ x.2.length ≤ 400 := fun x hx => ⟨by have := ((onlyL_light hla).2 x hx).1; omega, by have := ((onlyL_light hla).2 x hx).2; omega⟩
  have hs3 : s.length ≤ 3000 := by have := hb24.1.2; omega
  have hra := rd_at (pall_suf lab_suf 4 s 0)
  obtain ⟨hs1, hs2⟩ := labs_same s
  have hfw : (((labsRd s 0).1.length : Nat) : Int) ≤ 4 := allR_few (by decide) _ _
  have hfp : (if (labsP s 0).2.2 = 0 then (labsP s 0).1 else []).length ≤ 1000 := by rw [← hs1]; omega
  refine AC_skip ?_
  refine AC_seq ?_
  refine AC_region ?_
  refine AL_step rfl rfl (S_call rfl AEvs.nil (wire_Write_ok st)) ?_
  rintro _ _ ⟨_, ⟨bw, rfl, rfl⟩, rfl⟩
  refine AL_p rfl rfl (S_move rfl (.tmp rfl)) ?_
  refine AL_step rfl rfl (S_call rfl (AEvs.cons (.tmp rfl) AEvs.nil) (wire_Read_ok s _)) ?_
  rintro _ _ ⟨_, ⟨br, rfl, rfl⟩, rfl⟩
  refine AL_p rfl rfl (S_assign rfl (.tmp rfl)) ?_
  refine AL_p rfl rfl (S_assign rfl (.tmp rfl)) ?_
  refine AL_nil ?_
  refine AC_seq ?_
  refine AC_seq ?_
  refine AC_region ?_
  refine AL_p rfl rfl (S_move rfl (.tmp rfl)) ?_
  refine AL_p rfl rfl (S_eqlNil rfl (.tmp rfl) (AEv.const _) (by kernel_rfl)) ?_
  refine AL_p rfl rfl (S_move rfl (.tmp rfl)) ?_
  refine AL_g rfl rfl (.tmp rfl) rfl (fun hg25 => S_move rfl (.tmp rfl)) ?_
  refine AL_g rfl rfl (.tmp rfl) rfl (fun hg28 => S_eqlNil rfl (AEv.cond (.tmp rfl) (by first | assumption | exact gdAnd (by assumption) (by assumption))) (AEv.const _) (by kernel_rfl)) ?_
  refine AL_p rfl rfl (S_or rfl (.tmp rfl) (fun hp31 => (AEv.cond (.tmp rfl) (by first | assumption | exact gdT hp31 | exact gdF hp31 | exact gdAnd (by assumption) (gdT hp31) | exact gdAnd (by assumption) (gdF hp31))))) ?_
  refine AL_nil ?_
  refine AC_cond (.tmp rfl) (fun hb32 => ?_) (fun hb32 => ?_)
  · simp at hb32; done
  try simp only [zA, zO, zN, zM, zP, zQ, zD, zF, gd] at hb32
  refine AC_skip ?_
  refine AC_seq ?_
  refine AC_region ?_
  refine AL_p rfl rfl (S_move rfl (.tmp rfl)) ?_
  refine AL_p rfl rfl (S_move rfl (.tmp rfl)) ?_
  refine AL_step rfl rfl (S_call rfl (AEvs.cons (.tmp rfl) (AEvs.cons (.tmp rfl) AEvs.nil)) (ACalls.preQ (pre := [_]) (F := st) (PutLabels_ok bw false .nil [] 0 rfl l (by simp only [List.length_nil]; omega) (by omega) hls _))) ?_
  rintro _ _ ⟨_, ⟨u2, q2, hq2, rfl, rfl⟩, rfl⟩
  refine AL_nil ?_
  refine AC_seq ?_
  refine AC_region ?_
  refine AL_p rfl rfl (S_move rfl (.tmp rfl)) ?_
  refine AL_step rfl rfl (S_call rfl (AEvs.cons (.tmp rfl) AEvs.nil) (ACalls.preQ (pre := [_]) (F := st) (w_End_ok bw u2 q2 _ 0 hq2 _))) ?_
  rintro _ _ ⟨_, ⟨cs2, rfl, rfl⟩, rfl⟩
  refine AL_p rfl rfl (S_move rfl (.tmp rfl)) ?_
  refine AL_p rfl rfl (S_extract 0 rfl (.tmp rfl) rfl) ?_
  refine AL_p rfl rfl (S_extract 1 rfl (.tmp rfl) rfl) ?_
  refine AL_p rfl rfl (S_assign rfl (.tmp rfl)) ?_
  refine AL_p rfl rfl (S_assign rfl (.tmp rfl)) ?_
  refine AL_nil ?_
  refine AC_seq ?_
  refine AC_region ?_
  refine AL_p rfl rfl (S_move rfl (.tmp rfl)) ?_
  refine AL_step rfl rfl (S_call rfl (AEvs.cons (.tmp rfl) AEvs.nil) (TakeLabels_ok br s 0 _)) ?_
  rintro _ _ ⟨_, ⟨rfl, rfl⟩, rfl⟩
  refine AL_p rfl rfl (S_assign rfl (.tmp rfl)) ?_
  refine AL_nil ?_
  refine AC_seq ?_
  refine AC_region ?_
  refine AL_p rfl rfl (S_move rfl (.tmp rfl)) ?_
  refine AL_p rfl rfl (S_build (t := 56) (pl := [(0, 1), (1, 1), (2, 1)]) (zs := [.string ⟨#[]⟩, .int .i64 0, .int .i64 0]) rfl (AEvs.cons (.tmp rfl) AEvs.nil) (by kernel_rfl) rfl) ?_
  refine AL_p rfl rfl (S_pcall rfl (AEvs.cons (y := rdR s s 0) ((AEv.tmp rfl).le (Le.of_eq (rd_all s).symm)) AEvs.nil) (ref07_TakeLabels_ok s s 0 (List.suffix_refl _) (by omega))) ?_
  refine AL_p rfl rfl (S_move rfl (.tmp rfl)) ?_
  refine AL_p rfl rfl (S_extract 0 rfl (.tmp rfl) rfl) ?_
  refine AL_p rfl rfl (S_extract 1 rfl (.tmp rfl) rfl) ?_
  refine AL_step rfl rfl (S_alloc [.string ⟨#[]⟩, .int .i64 0, .int .i64 0] rfl (by kernel_rfl)) ?_
  rintro _ _ ⟨b10, rfl, rfl⟩
  refine AL_step rfl rfl (S_storeW 0 rfl (.tmp rfl) (.tmp rfl) rfl rfl rfl (by kernel_rfl)) ?_
  rintro _ _ ⟨rfl, rfl⟩
  refine AL_p rfl rfl (S_assign rfl (.tmp rfl)) ?_
  refine AL_nil ?_
  refine AC_joinK (G := Unit) [(0, _), (1, _), (4, _), (6, _), (7, _), (8, _), (9, _), (10, _)] (fun _ => True) (fun _ => [(11, .sl (labsV (if (labsP s 0).2.2 = 0 then (labsP s 0).1 else [])))]) (fun _ => (b10, .cells (rdL s (labsP s 0).2.1 (labsP s 0).2.2)) :: ([(br, Ob.cells [.S (labsRd s 0).2.1, .int .i64 (labsRd s 0).2.2])] ++ ([(bw, Ob.cells cs2)] ++ st))) (.cons rfl (Le.refl _) (.cons rfl (Le.refl _) (.cons rfl (Le.refl _) (.cons rfl (Le.refl _) (.cons rfl (Le.refl _) (.cons rfl (Le.refl _) (.cons rfl (Le.refl _) (.cons rfl (Le.refl _) .nil)))))))) ?_ ?_
  · refine AC_seq ?_
    refine AC_region ?_
    refine AL_p rfl rfl (S_field 2 rfl (.tmp rfl) (by kernel_rfl)) ?_
    refine AL_p rfl rfl (S_load 0 rfl (.tmp rfl) rfl rfl (by kernel_rfl)) ?_
    refine AL_p rfl rfl (S_neq rfl (.tmp rfl) (AEv.const _)) ?_
    refine AL_nil ?_
    refine AC_cond (.tmp rfl) (fun hb34 => ?_) (fun hb34 => ?_)
    · try simp only [zA, zO, zN, zM, zP, zQ, zD, zF, gd] at hb34
      have hc : ¬ (labsP s 0).2.2 = 0 := hb34
      refine AC_region ?_
      refine AL_p rfl rfl (S_assign rfl (AEv.const _)) ?_
      refine AL_nil ?_
      exact ⟨(), trivial, (Sub.l (List.Sublist.refl _)), (.cons rfl (by first | exact Le.of_eq (by rw [if_pos hc]) | (rw [if_neg hc]; exact Le.nils)) .nil), (.cons rfl (Le.refl _) (.cons rfl (Le.refl _) (.cons rfl (Le.refl _) (.cons rfl (Le.refl _) (.cons rfl (Le.refl _) (.cons rfl (Le.refl _) (.cons rfl (Le.refl _) (.cons rfl (Le.refl _) .nil))))))))⟩
    try simp only [zA, zO, zN, zM, zP, zQ, zD, zF, gd] at hb34
    have hc : (labsP s 0).2.2 = 0 := by simpa using hb34
    refine AC_skip ?_
    exact ⟨(), trivial, (Sub.l (List.Sublist.refl _)), (.cons rfl (by first | exact Le.of_eq (by rw [if_pos hc]) | (rw [if_neg hc]; exact Le.nils)) .nil), (.cons rfl (Le.refl _) (.cons rfl (Le.refl _) (.cons rfl (Le.refl _) (.cons rfl (Le.refl _) (.cons rfl (Le.refl _) (.cons rfl (Le.refl _) (.cons rfl (Le.refl _) (.cons rfl (Le.refl _) .nil))))))))⟩
  rintro _ _
  try dsimp only
  simp only [List.cons_append, List.nil_append]
  refine AC_seq ?_
  refine AC_draw (by kernel_rfl) (by kernel_rfl) (.cons rfl (Q_p rfl (S_move rfl (.tmp rfl))) <|
      .cons rfl (Q_p rfl (S_move rfl (.tmp rfl))) <|
      .cons rfl (Q_p rfl (S_pcall rfl (AEvs.cons (.tmp rfl) AEvs.nil) (ref07_Labels_ok l (by omega) hls))) <|
      .cons rfl (Q_p rfl (S_eqS rfl (.tmp rfl) (.tmp rfl))) <|
      .cons rfl (Q_p rfl (S_move rfl (.tmp rfl))) <|
      .cons rfl (Q_g rfl rfl (.tmp rfl) (fun hg35 => S_move rfl (.tmp rfl))) <|
      .cons rfl (Q_g rfl rfl (.tmp rfl) (fun hg38 => S_eql rfl (AEv.cond (.tmp rfl) (by first | assumption | exact gdAnd (by assumption) (by assumption))) (AEv.const _))) <|
      .cons rfl (Q_p rfl (S_and rfl (.tmp rfl) (fun hp41 => (AEv.cond (.tmp rfl) (by first | assumption | exact gdT hp41 | exact gdF hp41 | exact gdAnd (by assumption) (gdT hp41) | exact gdAnd (by assumption) (gdF hp41)))))) <|
      .cons rfl (Q_p rfl (S_move rfl (.tmp rfl))) <|
      .cons rfl (Q_g rfl rfl (.tmp rfl) (fun hg42 => S_move rfl (.tmp rfl))) <|
      .cons rfl (Q_g rfl rfl (.tmp rfl) (fun hg45 => S_move rfl (.tmp rfl))) <|
      .cons rfl (Q_g rfl rfl (.tmp rfl) (fun hg48 => S_pcall rfl (AEvs.cons (AEv.cond (.tmp rfl) (by first | assumption | exact gdAnd (by assumption) (by assumption))) (AEvs.cons (AEv.cond (.tmp rfl) (by first | assumption | exact gdAnd (by assumption) (by assumption))) AEvs.nil)) (book_SameLabels_ok (labsRd s 0).1 (if (labsP s 0).2.2 = 0 then (labsP s 0).1 else []) (by have := hfw; omega) (by have := hfp; omega)))) <|
      .cons rfl (Q_p rfl (S_and rfl (.tmp rfl) (fun hp51 => (AEv.cond (.tmp rfl) (by first | assumption | exact gdT hp51 | exact gdF hp51 | exact gdAnd (by assumption) (gdT hp51) | exact gdAnd (by assumption) (gdF hp51)))))) <|
      .cons rfl (Q_p rfl (S_move rfl (.tmp rfl))) <|
      .cons rfl (Q_g rfl rfl (.tmp rfl) (fun hg52 => S_move rfl (.tmp rfl))) <|
      .cons rfl (Q_g rfl rfl (.tmp rfl) (fun hg55 => S_keep (S_call rfl (AEvs.cons (AEv.cond (.tmp rfl) (by first | assumption | exact gdAnd (by assumption) (by assumption))) AEvs.nil) (ACalls.preQ (pre := [_]) (F := _) (r_Code_ok br _ _ _))) (by rintro _ _ ⟨_, ⟨rfl, rfl⟩, rfl⟩; exact ⟨rfl, rfl⟩))) <|
      .cons rfl (Q_g rfl rfl (.tmp rfl) (fun hg58 => S_field 2 rfl (.tmp rfl) (by kernel_rfl))) <|
      .cons rfl (Q_g rfl rfl (.tmp rfl) (fun hg61 => S_load 0 rfl (AEv.cond (.tmp rfl) (by first | assumption | exact gdAnd (by assumption) (by assumption))) rfl rfl (by kernel_rfl))) <|
      .cons rfl (Q_g rfl rfl (.tmp rfl) (fun hg64 => S_eql rfl (AEv.cond (.tmp rfl) (by first | assumption | exact gdAnd (by assumption) (by assumption))) (AEv.cond (.tmp rfl) (by first | assumption | exact gdAnd (by assumption) (by assumption))))) <|
      .cons rfl (Q_p rfl (S_and rfl (.tmp rfl) (fun hp67 => (AEv.cond (.tmp rfl) (by first | assumption | exact gdT hp67 | exact gdF hp67 | exact gdAnd (by assumption) (gdT hp67) | exact gdAnd (by assumption) (gdF hp67)))))) <|
      .cons rfl (Q_p rfl (S_move rfl (.tmp rfl))) <|
      .cons rfl (Q_g rfl rfl (.tmp rfl) (fun hg68 => S_field 2 rfl (.tmp rfl) (by kernel_rfl))) <|
      .cons rfl (Q_g rfl rfl (.tmp rfl) (fun hg71 => S_load 0 rfl (AEv.cond (.tmp rfl) (by first | assumption | exact gdAnd (by assumption) (by assumption))) rfl rfl (by kernel_rfl))) <|
      .cons rfl (Q_g rfl rfl (.tmp rfl) (fun hg74 => S_neq rfl (AEv.cond (.tmp rfl) (by first | assumption | exact gdAnd (by assumption) (by assumption))) (AEv.const _))) <|
      .cons rfl (Q_g rfl rfl (.tmp rfl) (fun hg77 => S_move rfl (AEv.cond (.tmp rfl) (by first | assumption | exact gdAnd (by assumption) (by assumption))))) <|
      .cons rfl (Q_gg rfl rfl (.tmp rfl) (fun hg80 hg81 hg82 => S_move rfl (.tmp rfl))) <|
      .cons rfl (Q_gg rfl rfl (.tmp rfl) (fun hg83 hg84 hg85 => S_keep (S_call rfl (AEvs.cons (AEv.cond (.tmp rfl) (by first | assumption | exact gdAnd (by assumption) (by assumption))) AEvs.nil) (ACalls.preQ (pre := [_]) (F := _) (r_Left_ok br _ _ _))) (by rintro _ _ ⟨_, ⟨rfl, rfl⟩, rfl⟩; exact ⟨rfl, rfl⟩))) <|
      .cons rfl (Q_gg rfl rfl (.tmp rfl) (fun hg86 hg87 hg88 => S_move rfl (.tmp rfl))) <|
      .cons rfl (Q_gg rfl rfl (.tmp rfl) (fun hg89 hg90 hg91 => S_lenS (ts := #[]) rfl (AEv.cond (.tmp rfl) (by first | assumption | exact gdAnd (by assumption) (by assumption))) (by kernel_rfl))) <|
      .cons rfl (Q_gg rfl rfl (.tmp rfl) (fun hg92 hg93 hg94 => S_field 1 rfl (.tmp rfl) (by kernel_rfl))) <|
      .cons rfl (Q_gg rfl rfl (.tmp rfl) (fun hg95 hg96 hg97 => S_load 0 rfl (AEv.cond (.tmp rfl) (by first | assumption | exact gdAnd (by assumption) (by assumption))) rfl rfl (by kernel_rfl))) <|
      .cons rfl (Q_gg rfl rfl (.tmp rfl) (fun hg98 hg99 hg100 => S_subI rfl (AEv.cond (.tmp rfl) (by first | assumption | exact gdAnd (by assumption) (by assumption))) (AEv.cond (.tmp rfl) (by first | assumption | exact gdAnd (by assumption) (by assumption))) (by (try simp only [gd, Bool.and_eq_true, Bool.or_eq_true, Bool.not_eq_true', Bool.not_eq_false', decide_eq_true_eq, decide_eq_false_iff_not, Bool.or_eq_false_iff, Bool.and_eq_false_iff] at *); omega) (by (try simp only [gd, Bool.and_eq_true, Bool.or_eq_true, Bool.not_eq_true', Bool.not_eq_false', decide_eq_true_eq, decide_eq_false_iff_not, Bool.or_eq_false_iff, Bool.and_eq_false_iff] at *); omega))) <|
      .cons rfl (Q_gg rfl rfl (.tmp rfl) (fun hg101 hg102 hg103 => S_eql rfl (AEv.cond (.tmp rfl) (by first | assumption | exact gdAnd (by assumption) (by assumption))) (AEv.cond (.tmp rfl) (by first | assumption | exact gdAnd (by assumption) (by assumption))))) <|
      .cons rfl (Q_g rfl rfl (.tmp rfl) (fun hg104 => S_or rfl (AEv.cond (.tmp rfl) (by first | assumption | exact gdAnd (by assumption) (by assumption))) (fun hp107 => (AEv.cond (.tmp rfl) (by first | assumption | exact gdT hp107 | exact gdF hp107 | exact gdAnd (by assumption) (gdT hp107) | exact gdAnd (by assumption) (gdF hp107)))))) <|
      .cons rfl (Q_p rfl (S_and rfl (.tmp rfl) (fun hp108 => (AEv.cond (.tmp rfl) (by first | assumption | exact gdT hp108 | exact gdF hp108 | exact gdAnd (by assumption) (gdT hp108) | exact gdAnd (by assumption) (gdF hp108)))))) <|
      .cons rfl (Q_p rfl (S_move rfl (.tmp rfl))) <|
      .cons rfl (Q_g rfl rfl (.tmp rfl) (fun hg109 => S_gcall rfl AEvs.nil ((law07_works_ok) _ (fun p hp => by repeat (first | exact hG p hp | refine List.mem_cons_of_mem _ ?_ | refine List.mem_append_right _ ?_))))) <|
      .cons rfl (Q_p rfl (S_and rfl (.tmp rfl) (fun hp112 => (AEv.cond (.tmp rfl) (by first | assumption | exact gdT hp112 | exact gdF hp112 | exact gdAnd (by assumption) (gdT hp112) | exact gdAnd (by assumption) (gdF hp112)))))) <|
      .cons rfl (Q_p rfl (S_assign rfl (.tmp rfl))) <|
      .nil) ?_
  refine AC_ret ?_
  refine ret_tmp st rfl rfl (Sub.l (List.Sublist.cons _ (List.Sublist.cons _ (List.Sublist.cons _ (List.Sublist.refl _))))) (Conv.refl (Sub.l (List.Sublist.cons _ (List.Sublist.cons _ (List.Sublist.cons _ (List.Sublist.refl _))))) _) ⟨congrArg AV.bool (by rw [← hs1, hs2]; simp [wput]; exact .inr (by have := hra; unfold labsP at this ⊢; omega)), rfl⟩ (.inl rfl)

end Go.Proofs.YtfmiciodcimkeaaGreatDoor
