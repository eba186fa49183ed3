/- A part of the proof: what the program's functions answer.
Conditions: none beyond each theorem's own. -/
import Derived.Test.YtcbnokpgklmndaaGreatDoorW2
/-
The walks of Go functions in the logic AL: what each of them answers.
Conditions: those of each theorem.
-/
set_option linter.unusedVariables false
set_option linter.unusedSimpArgs false
namespace Go.Proofs.YtcbnokpgklmndaaGreatDoor
open Go.AL Go.NumSpec

set_option maxRecDepth 100000 in
set_option maxHeartbeats 2000000 in
/-- provost/pack.takeRes -/
theorem takeRes_ok (b : Nat) (s : List UInt8) (c : Int) (F : St) : ACalls Tryz.prog 131 [.ptr b 0] ([(b, Ob.cells [.S (s), .int .i64 (c)])] ++ F) (fun x st' => ∃ foot', (x = resAV (triRd s c).1 ∧ foot' = [(b, Ob.cells [.S ((triRd s c).2.1), .int .i64 ((triRd s c).2.2)])]) ∧ st' = foot' ++ F) := by
  refine ACalls_of (N := 10) Tryz.func131 (by kernel_rfl) rfl rfl rfl ?_
  refine AC_seq ?_
  refine AC_region ?_
  refine AL_step rfl rfl (S_alloc [.int .i64 0, .int .i64 0, .int .i64 0] rfl (by kernel_rfl)) ?_
  rintro _ _ ⟨b2, rfl, rfl⟩
  refine AL_nil ?_
  refine AC_seq ?_
  refine AC_region ?_
  refine AL_p rfl rfl (S_move rfl (.tmp rfl)) ?_
  refine AL_step rfl rfl (S_call rfl (AEvs.cons (.tmp rfl) (AEvs.cons (AEv.const _) AEvs.nil)) (ACalls.preQ (pre := [_]) (F := F) (r_Num_ok b _ _ 1099511627776 (by decide) _))) ?_
  rintro _ _ ⟨_, ⟨rfl, rfl⟩, rfl⟩
  generalize h1 : numR s c 1099511627776 = r1
  refine AL_p rfl rfl (S_move rfl (.tmp rfl)) ?_
  refine AL_step rfl rfl (S_call rfl (AEvs.cons (.tmp rfl) (AEvs.cons (AEv.const _) AEvs.nil)) (ACalls.preQ (pre := [_]) (F := F) (r_Num_ok b _ _ 1099511627776 (by decide) _))) ?_
  rintro _ _ ⟨_, ⟨rfl, rfl⟩, rfl⟩
  generalize h2 : numR r1.2.1 r1.2.2 1099511627776 = r2
  refine AL_p rfl rfl (S_move rfl (.tmp rfl)) ?_
  refine AL_step rfl rfl (S_call rfl (AEvs.cons (.tmp rfl) (AEvs.cons (AEv.const _) AEvs.nil)) (ACalls.preQ (pre := [_]) (F := F) (r_Num_ok b _ _ 1099511627776 (by decide) _))) ?_
  rintro _ _ ⟨_, ⟨rfl, rfl⟩, rfl⟩
  generalize h3 : numR r2.2.1 r2.2.2 1099511627776 = r3
  refine AL_p rfl rfl (S_build (t := 109) (pl := [(0, 1), (1, 1), (2, 1)]) (zs := [.int .i64 0, .int .i64 0, .int .i64 0]) rfl (AEvs.cons (.tmp rfl) (AEvs.cons (.tmp rfl) (AEvs.cons (.tmp rfl) AEvs.nil))) (by kernel_rfl) rfl) ?_
  refine AL_step rfl rfl (S_storeW 0 rfl (.tmp rfl) (.tmp rfl) rfl rfl rfl (by kernel_rfl)) ?_
  rintro _ _ ⟨rfl, rfl⟩
  refine AL_nil ?_
  refine AC_ret ?_
  refine ret_cell 0 ([(b, Ob.cells [.S (r3.2.1), .int .i64 (r3.2.2)])] ++ F) rfl rfl rfl (by kernel_rfl) (Sub.l (List.sublist_cons_self _ _)) (Conv.refl (Sub.l (List.sublist_cons_self _ _)) _) ⟨_, ⟨by subst h3 h2 h1; rfl, by subst h3 h2 h1; rfl⟩, rfl⟩ (.inl rfl)

set_option maxRecDepth 100000 in
set_option maxHeartbeats 2000000 in
/-- provost/pack.takeContainer$1 -/
theorem takeC1_ok (b : Nat) (s : List UInt8) (c : Int) (br : Nat) (F : St) (hw : (br, Ob.cells [.ptr b 0]) ∈ F) : ACalls Tryz.prog 133 [.ptr br 0] ([(b, Ob.cells [.S (s), .int .i64 (c)])] ++ F) (fun x st' => ∃ foot', (x = .int .i64 (numRd 65535 s c).1 ∧ foot' = [(b, Ob.cells [.S ((numRd 65535 s c).2.1), .int .i64 ((numRd 65535 s c).2.2)])]) ∧ st' = foot' ++ F) := by
  refine ACalls_of (N := 4) Tryz.func133 (by kernel_rfl) rfl rfl rfl ?_
  refine AC_seq ?_
  refine AC_region ?_
  refine AL_p rfl rfl (S_assign rfl (AEv.const _)) ?_
  refine AL_nil ?_
  refine AC_seq ?_
  refine AC_region ?_
  refine AL_p rfl rfl (S_loadM (cs := [.ptr b 0]) rfl (.tmp rfl) (by repeat (first | exact hw | exact List.mem_cons_self | refine List.mem_cons_of_mem _ ?_)) rfl (by kernel_rfl)) ?_
  refine AL_step rfl rfl (S_call rfl (AEvs.cons (.tmp rfl) (AEvs.cons (AEv.const _) AEvs.nil)) (r_Num_ok b _ _ 65535 (by decide) F)) ?_
  rintro _ _ ⟨_, ⟨rfl, rfl⟩, rfl⟩
  refine AL_p rfl rfl (S_assign rfl (.tmp rfl)) ?_
  refine AL_nil ?_
  refine AC_ret ?_
  refine ret_tmp ([(b, Ob.cells [.S ((numRd 65535 s c).2.1), .int .i64 ((numRd 65535 s c).2.2)])] ++ F) rfl rfl (Sub.l (List.Sublist.refl _)) (Conv.refl (Sub.l (List.Sublist.refl _)) _) ⟨_, ⟨rfl, rfl⟩, rfl⟩ (.inl rfl)

set_option maxRecDepth 100000 in
set_option maxHeartbeats 2000000 in
/-- provost/pack.TakeLabels$1 -/
theorem takeL1_ok (b : Nat) (s : List UInt8) (c : Int) (br : Nat) (F : St) (hw : (br, Ob.cells [.ptr b 0]) ∈ F) : ACalls Tryz.prog 111 [.ptr br 0] ([(b, Ob.cells [.S (s), .int .i64 (c)])] ++ F) (fun x st' => ∃ foot', (x = labAV (labRd s c).1 ∧ foot' = [(b, Ob.cells [.S ((labRd s c).2.1), .int .i64 ((labRd s c).2.2)])]) ∧ st' = foot' ++ F) := by
  refine ACalls_of (N := 7) Tryz.func111 (by kernel_rfl) rfl rfl rfl ?_
  refine AC_seq ?_
  refine AC_region ?_
  refine AL_step rfl rfl (S_alloc [.string ⟨#[]⟩, .string ⟨#[]⟩] rfl (by kernel_rfl)) ?_
  rintro _ _ ⟨b1, rfl, rfl⟩
  refine AL_nil ?_
  refine AC_seq ?_
  refine AC_plan (σ := [(0, 0), (2, 0), (1, 1), (3, 2), (4, 0), (5, 2)]) (by kernel_rfl) [(br, Ob.cells [.ptr b 0])] (by kernel_rfl) (fun r hr => by rw [List.mem_singleton.1 hr]; exact (by repeat (first | exact hw | exact List.mem_cons_self | refine List.mem_cons_of_mem _ ?_))) ?_
  refine AG.f rfl rfl (fun st' hst => Q_p rfl (S_loadM (cs := [.ptr b 0]) rfl (.tmp rfl) (hst _ List.mem_cons_self) rfl (by kernel_rfl))) ?_
  refine AG.f rfl rfl (fun st' hst => Q_p rfl (S_loadM (cs := [.ptr b 0]) rfl (.tmp rfl) (hst _ List.mem_cons_self) rfl (by kernel_rfl))) ?_
  refine AG.s rfl rfl rfl (S_call rfl (AEvs.cons (.tmp rfl) (AEvs.cons (AEv.const _) AEvs.nil)) (ACalls.preQ (pre := [_]) (F := F) (r_Text_ok b _ _ 33 (by decide) _))) ?_ ?_
  · rintro _ _ ⟨_, ⟨rfl, rfl⟩, rfl⟩ r hr; rw [List.mem_singleton.1 hr]; exact (by repeat (first | exact hw | exact List.mem_cons_self | refine List.mem_cons_of_mem _ ?_))
  rintro _ _ ⟨_, ⟨rfl, rfl⟩, rfl⟩
  refine AG.h rfl rfl rfl (S_call rfl (AEvs.cons (.tmp rfl) (AEvs.cons (AEv.const _) AEvs.nil)) (ACalls.preQ (pre := [_]) (F := F) (r_Text_ok b _ _ 16 (by decide) _))) ?_
  rintro _ _ ⟨_, ⟨rfl, rfl⟩, rfl⟩
  refine AG.f rfl rfl (fun st' hst => Q_p rfl (S_build (t := 90) (pl := [(0, 1), (1, 1)]) (zs := [.string ⟨#[]⟩, .string ⟨#[]⟩]) rfl (AEvs.cons (.tmp rfl) (AEvs.cons (.tmp rfl) AEvs.nil)) (by kernel_rfl) rfl)) ?_
  refine AG.h rfl rfl rfl (S_storeW 0 rfl (.tmp rfl) (.tmp rfl) rfl rfl rfl (by kernel_rfl)) ?_
  rintro _ _ ⟨rfl, rfl⟩
  refine AG.nil ?_
  refine AC_ret ?_
  refine ret_cell 0 ([(b, Ob.cells [.S ((labRd s c).2.1), .int .i64 ((labRd s c).2.2)])] ++ F) rfl rfl rfl (by kernel_rfl) (Sub.l (List.sublist_cons_self _ _)) (Conv.refl (Sub.l (List.sublist_cons_self _ _)) _) ⟨_, ⟨rfl, rfl⟩, rfl⟩ (.inl rfl)

set_option maxRecDepth 100000 in
set_option maxHeartbeats 2000000 in
/-- provost/pack.takeAll[int] -/
theorem takeAllI_ok (b : Nat) (s : List UInt8) (c : Int) (br : Nat) (most : Int) (h0 : 0 ≤ most) (h1 : most ≤ 1000) (F : St) (hw : (br, Ob.cells [.ptr b 0]) ∈ F) : ACalls Tryz.prog 132 [.ptr b 0, .int .i64 most, .fn 133 [.pointer (some ⟨br, 0, none⟩)]] ([(b, Ob.cells [.S (s), .int .i64 (c)])] ++ F) (fun x st' => ∃ foot', (x = .sl ((allR (numRd 65535) most s c).1.map (fun n : Int => AV.int .i64 n)) ∧ foot' = [(b, Ob.cells [.S ((allR (numRd 65535) most s c).2.1), .int .i64 ((allR (numRd 65535) most s c).2.2)])]) ∧ st' = foot' ++ F) := by
  refine ACalls_of (N := 23) Tryz.func132 (by kernel_rfl) rfl rfl rfl ?_
  have hn1 := numR_le (s := s) (c := c) (most := most)
  have hn2 := numR_nonneg s c most
  refine AC_seq ?_
  refine AC_region ?_
  refine AL_p rfl rfl (S_assign rfl (AEv.const _)) ?_
  refine AL_nil ?_
  refine AC_seq ?_
  refine AC_region ?_
  refine AL_p rfl rfl (S_assign rfl (AEv.const _)) ?_
  refine AL_nil ?_
  refine AC_seq ?_
  refine AC_seq ?_
  refine AC_region ?_
  refine AL_p rfl rfl (S_move rfl (.tmp rfl)) ?_
  refine AL_p rfl rfl (S_move rfl (.tmp rfl)) ?_
  refine AL_step rfl rfl (S_call rfl (AEvs.cons (.tmp rfl) (AEvs.cons (.tmp rfl) AEvs.nil)) (r_Num_ok b _ _ most ⟨by omega, by omega⟩ F)) ?_
  rintro _ _ ⟨_, ⟨rfl, rfl⟩, rfl⟩
  refine AL_p rfl rfl (S_move rfl (AEv.const _)) ?_
  refine AL_nil ?_
  refine AC_block ?_
  refine AC_loopK (G := Nat × List Int × List UInt8 × Int × Own) [(0, _), (2, _), (10, _)] (fun g => TI (numRd 65535) (numR s c most).1.toNat (numR s c most).2.1 (numR s c most).2.2 g.1 g.2.1 g.2.2.1 g.2.2.2.1 ∧ g.2.2.2.2.ok (g.2.1.map (fun n : Int => AV.int .i64 n))) (fun g => [(7, ownAV g.2.2.2.2 1 (g.2.1.map (fun n : Int => AV.int .i64 n))), (11, .int .i64 (g.1 : Int))]) (fun g => (b, .cells [.S g.2.2.1, .int .i64 g.2.2.2.1]) :: (ownSt g.2.2.2.2 3 1 (g.2.1.map (fun n : Int => AV.int .i64 n)) ++ F)) (fun g => (numR s c most).1.toNat - g.1) ((0, [], (numR s c most).2.1, (numR s c most).2.2, .nil)) (⟨ti_start _ _ _, rfl⟩) (Sub.l (List.Sublist.refl _)) (.cons rfl (Le.refl _) (.cons rfl (Le.refl _) (.cons rfl (Le.refl _) .nil))) (.cons rfl (by first | exact Le.refl _ | exact Le.nils | exact Le.row _ _ _ _ | exact Le.of_eq (by first | rfl | (simp; done) | (push_cast; rfl) | (simp; omega))) (.cons rfl (by first | exact Le.refl _ | exact Le.nils | exact Le.row _ _ _ _ | exact Le.of_eq (by first | rfl | (simp; done) | (push_cast; rfl) | (simp; omega))) .nil)) ?_
  rintro ⟨i, out, s', c', p⟩ ⟨hI, hq⟩
  try dsimp only
  simp only [List.cons_append, List.nil_append]
  dsimp only at hI hq
  have hI1 := hI.1
  have hI2 := hI.2.1
  refine AC_seq ?_
  refine AC_region ?_
  refine AL_p rfl rfl (S_lss rfl (.tmp rfl) (.tmp rfl)) ?_
  refine AL_nil ?_
  refine AC_seq ?_
  refine AC_cond (.tmp rfl) (fun hb1 => ?_) (fun hb1 => ?_)
  · try simp only [zA, zO, zN, zM, zP, zQ, zD, zF, gd] at hb1
    have hil : i < (numR s c most).1.toNat := by omega
    refine AC_skip ?_
    refine AC_seq ?_
    refine AC_block ?_
    refine AC_seq ?_
    refine AC_region ?_
    refine AL_p rfl rfl (S_move rfl (.tmp rfl)) ?_
    refine AL_p rfl rfl (S_move rfl (.tmp rfl)) ?_
    refine AL_step rfl rfl (S_callF (caps := [.pointer (some ⟨br, 0, none⟩)]) rfl (.tmp rfl) AEvs.nil (takeC1_ok b s' c' br _ (List.mem_append_right _ hw))) ?_
    rintro _ _ ⟨_, ⟨rfl, rfl⟩, rfl⟩
    generalize hr : (numRd 65535) s' c' = r
    refine AL_p rfl rfl (S_buildSlice (e := 3) 1 rfl (AEvs.cons (.tmp rfl) AEvs.nil) rfl (by kernel_rfl) (by kernel_rfl) (by intro y hy; simp only [List.mem_cons, List.not_mem_nil, or_false] at hy; rcases hy with rfl <;> exact ⟨rfl, rfl⟩) (by decide) (by decide) (by decide)) ?_
    refine AL_step rfl rfl (S_appendM (f := (fun n : Int => AV.int .i64 n)) (l := out) (l2 := [r.1]) (e := 3) (size := 1) (bytes := 8) (p := p) ([_]) (F) rfl (.tmp rfl) (.tmp rfl) rfl hq (by kernel_rfl) (by simp) (fun _ => ⟨rfl, rfl⟩) (by simp only [List.length_singleton]; omega) (by simp only [List.length_singleton]; omega)) ?_
    rintro _ _ ⟨b8, k8, cap8, hx8, rfl, rfl⟩
    refine AL_p rfl rfl (S_assign rfl (.tmp rfl)) ?_
    refine AL_nil ?_
    refine AC_seq ?_
    refine AC_region ?_
    refine AL_p rfl rfl (S_move rfl (.tmp rfl)) ?_
    refine AL_step rfl rfl (S_call rfl (AEvs.cons (.tmp rfl) AEvs.nil) (r_Code_ok b _ _ _)) ?_
    rintro _ _ ⟨_, ⟨rfl, rfl⟩, rfl⟩
    refine AL_p rfl rfl (S_neq rfl (.tmp rfl) (AEv.const _)) ?_
    refine AL_nil ?_
    refine AC_cond (.tmp rfl) (fun hb4 => ?_) (fun hb4 => ?_)
    · try simp only [zA, zO, zN, zM, zP, zQ, zD, zF, gd] at hb4
      have hx : (allR (numRd 65535) most s c) = ([], r.2.1, r.2.2) := by have h9 := ti_bad hI hil (by rw [hr]; exact hb4); rw [hr] at h9; exact h9
      refine AC_seq ?_
      refine AC_region ?_
      refine AL_p rfl rfl (S_assign rfl (AEv.const _)) ?_
      refine AL_nil ?_
      refine AC_ret ?_
      refine ret_tmp ([(b, Ob.cells [.S (r.2.1), .int .i64 (r.2.2)])] ++ F) rfl rfl (Sub.l (List.Sublist.cons_cons _ (List.sublist_append_right _ _))) (Conv.le (Sub.l (List.Sublist.cons_cons _ (List.sublist_append_right _ _))) Le.nils) ⟨_, ⟨by rw [hx] <;> rfl, by rw [hx] <;> rfl⟩, rfl⟩ (.inl rfl)
    try simp only [zA, zO, zN, zM, zP, zQ, zD, zF, gd] at hb4
    have hc0 : r.2.2 = 0 := by simpa using hb4
    refine AC_skip ?_
    refine AC_region ?_
    refine AL_p rfl rfl (S_addI rfl (.tmp rfl) (AEv.const _) (by omega) (by omega)) ?_
    refine AL_p rfl rfl (S_move rfl (.tmp rfl)) ?_
    refine AL_nil ?_
    exact ⟨(i + 1, out ++ [r.1], r.2.1, r.2.2, .row b8 k8 cap8), ⟨by rw [← hr]; exact ti_next hI hil (by rw [hr]; exact hc0), hx8⟩, by dsimp only; omega, (Sub.l (List.Sublist.refl _)), (.cons rfl (by first | exact Le.refl _ | exact Le.nils | exact Le.row _ _ _ _ | exact Le.of_eq (by first | rfl | (simp; done) | (push_cast; rfl) | (simp; omega))) (.cons rfl (by first | exact Le.refl _ | exact Le.nils | exact Le.row _ _ _ _ | exact Le.of_eq (by first | rfl | (simp; done) | (push_cast; rfl) | (simp; omega))) .nil)), (.cons rfl (Le.refl _) (.cons rfl (Le.refl _) (.cons rfl (Le.refl _) .nil)))⟩
  try simp only [zA, zO, zN, zM, zP, zQ, zD, zF, gd] at hb1
  have hx : (allR (numRd 65535) most s c) = (out, s', c') := ti_end hI (by omega)
  refine AC_exit ?_
  refine AC_seq ?_
  refine AC_region ?_
  refine AL_p rfl rfl (S_move rfl (.tmp rfl)) ?_
  refine AL_p rfl rfl (S_assign rfl (.tmp rfl)) ?_
  refine AL_nil ?_
  refine AC_ret ?_
  refine ret_tmp ([(b, Ob.cells [.S (s'), .int .i64 (c')])] ++ F) rfl rfl (Sub.l (List.Sublist.cons_cons _ (List.sublist_append_right _ _))) (Conv.le (Sub.l (List.Sublist.cons_cons _ (List.sublist_append_right _ _))) (Le_own hq)) ⟨_, ⟨by rw [hx] <;> rfl, by rw [hx] <;> rfl⟩, rfl⟩ (.inl rfl)

set_option maxRecDepth 100000 in
set_option maxHeartbeats 2000000 in
/-- provost/pack.takeAll[provost/api.Label] -/
theorem takeAllL_ok (b : Nat) (s : List UInt8) (c : Int) (br : Nat) (most : Int) (h0 : 0 ≤ most) (h1 : most ≤ 1000) (F : St) (hw : (br, Ob.cells [.ptr b 0]) ∈ F) : ACalls Tryz.prog 110 [.ptr b 0, .int .i64 most, .fn 111 [.pointer (some ⟨br, 0, none⟩)]] ([(b, Ob.cells [.S (s), .int .i64 (c)])] ++ F) (fun x st' => ∃ foot', (x = .sl ((allR labRd most s c).1.map labAV) ∧ foot' = [(b, Ob.cells [.S ((allR labRd most s c).2.1), .int .i64 ((allR labRd most s c).2.2)])]) ∧ st' = foot' ++ F) := by
  refine ACalls_of (N := 23) Tryz.func110 (by kernel_rfl) rfl rfl rfl ?_
  have hn1 := numR_le (s := s) (c := c) (most := most)
  have hn2 := numR_nonneg s c most
  refine AC_seq ?_
  refine AC_region ?_
  refine AL_p rfl rfl (S_assign rfl (AEv.const _)) ?_
  refine AL_nil ?_
  refine AC_seq ?_
  refine AC_region ?_
  refine AL_p rfl rfl (S_assign rfl (AEv.const _)) ?_
  refine AL_nil ?_
  refine AC_seq ?_
  refine AC_seq ?_
  refine AC_region ?_
  refine AL_p rfl rfl (S_move rfl (.tmp rfl)) ?_
  refine AL_p rfl rfl (S_move rfl (.tmp rfl)) ?_
  refine AL_step rfl rfl (S_call rfl (AEvs.cons (.tmp rfl) (AEvs.cons (.tmp rfl) AEvs.nil)) (r_Num_ok b _ _ most ⟨by omega, by omega⟩ F)) ?_
  rintro _ _ ⟨_, ⟨rfl, rfl⟩, rfl⟩
  refine AL_p rfl rfl (S_move rfl (AEv.const _)) ?_
  refine AL_nil ?_
  refine AC_block ?_
  refine AC_loopK (G := Nat × List Lab × List UInt8 × Int × Own) [(0, _), (2, _), (10, _)] (fun g => TI labRd (numR s c most).1.toNat (numR s c most).2.1 (numR s c most).2.2 g.1 g.2.1 g.2.2.1 g.2.2.2.1 ∧ g.2.2.2.2.ok (g.2.1.map labAV)) (fun g => [(7, ownAV g.2.2.2.2 2 (g.2.1.map labAV)), (11, .int .i64 (g.1 : Int))]) (fun g => (b, .cells [.S g.2.2.1, .int .i64 g.2.2.2.1]) :: (ownSt g.2.2.2.2 90 2 (g.2.1.map labAV) ++ F)) (fun g => (numR s c most).1.toNat - g.1) ((0, [], (numR s c most).2.1, (numR s c most).2.2, .nil)) (⟨ti_start _ _ _, rfl⟩) (Sub.l (List.Sublist.refl _)) (.cons rfl (Le.refl _) (.cons rfl (Le.refl _) (.cons rfl (Le.refl _) .nil))) (.cons rfl (by first | exact Le.refl _ | exact Le.nils | exact Le.row _ _ _ _ | exact Le.of_eq (by first | rfl | (simp; done) | (push_cast; rfl) | (simp; omega))) (.cons rfl (by first | exact Le.refl _ | exact Le.nils | exact Le.row _ _ _ _ | exact Le.of_eq (by first | rfl | (simp; done) | (push_cast; rfl) | (simp; omega))) .nil)) ?_
  rintro ⟨i, out, s', c', p⟩ ⟨hI, hq⟩
  try dsimp only
  simp only [List.cons_append, List.nil_append]
  dsimp only at hI hq
  have hI1 := hI.1
  have hI2 := hI.2.1
  refine AC_seq ?_
  refine AC_region ?_
  refine AL_p rfl rfl (S_lss rfl (.tmp rfl) (.tmp rfl)) ?_
  refine AL_nil ?_
  refine AC_seq ?_
  refine AC_cond (.tmp rfl) (fun hb1 => ?_) (fun hb1 => ?_)
  · try simp only [zA, zO, zN, zM, zP, zQ, zD, zF, gd] at hb1
    have hil : i < (numR s c most).1.toNat := by omega
    refine AC_skip ?_
    refine AC_seq ?_
    refine AC_block ?_
    refine AC_seq ?_
    refine AC_region ?_
    refine AL_p rfl rfl (S_move rfl (.tmp rfl)) ?_
    refine AL_p rfl rfl (S_move rfl (.tmp rfl)) ?_
    refine AL_step rfl rfl (S_callF (caps := [.pointer (some ⟨br, 0, none⟩)]) rfl (.tmp rfl) AEvs.nil (takeL1_ok b s' c' br _ (List.mem_append_right _ hw))) ?_
    rintro _ _ ⟨_, ⟨rfl, rfl⟩, rfl⟩
    generalize hr : labRd s' c' = r
    refine AL_p rfl rfl (S_buildSlice (e := 90) 2 rfl (AEvs.cons (.tmp rfl) AEvs.nil) rfl (by kernel_rfl) (by kernel_rfl) (by intro y hy; simp only [List.mem_cons, List.not_mem_nil, or_false] at hy; rcases hy with rfl <;> exact ⟨rfl, rfl⟩) (by decide) (by decide) (by decide)) ?_
    refine AL_step rfl rfl (S_appendM (f := labAV) (l := out) (l2 := [r.1]) (e := 90) (size := 2) (bytes := 32) (p := p) ([_]) (F) rfl (.tmp rfl) (.tmp rfl) rfl hq (by kernel_rfl) (by simp) (fun _ => ⟨rfl, rfl⟩) (by simp only [List.length_singleton]; omega) (by simp only [List.length_singleton]; omega)) ?_
    rintro _ _ ⟨b8, k8, cap8, hx8, rfl, rfl⟩
    refine AL_p rfl rfl (S_assign rfl (.tmp rfl)) ?_
    refine AL_nil ?_
    refine AC_seq ?_
    refine AC_region ?_
    refine AL_p rfl rfl (S_move rfl (.tmp rfl)) ?_
    refine AL_step rfl rfl (S_call rfl (AEvs.cons (.tmp rfl) AEvs.nil) (r_Code_ok b _ _ _)) ?_
    rintro _ _ ⟨_, ⟨rfl, rfl⟩, rfl⟩
    refine AL_p rfl rfl (S_neq rfl (.tmp rfl) (AEv.const _)) ?_
    refine AL_nil ?_
    refine AC_cond (.tmp rfl) (fun hb4 => ?_) (fun hb4 => ?_)
    · try simp only [zA, zO, zN, zM, zP, zQ, zD, zF, gd] at hb4
      have hx : (allR labRd most s c) = ([], r.2.1, r.2.2) := by have h9 := ti_bad hI hil (by rw [hr]; exact hb4); rw [hr] at h9; exact h9
      refine AC_seq ?_
      refine AC_region ?_
      refine AL_p rfl rfl (S_assign rfl (AEv.const _)) ?_
      refine AL_nil ?_
      refine AC_ret ?_
      refine ret_tmp ([(b, Ob.cells [.S (r.2.1), .int .i64 (r.2.2)])] ++ F) rfl rfl (Sub.l (List.Sublist.cons_cons _ (List.sublist_append_right _ _))) (Conv.le (Sub.l (List.Sublist.cons_cons _ (List.sublist_append_right _ _))) Le.nils) ⟨_, ⟨by rw [hx] <;> rfl, by rw [hx] <;> rfl⟩, rfl⟩ (.inl rfl)
    try simp only [zA, zO, zN, zM, zP, zQ, zD, zF, gd] at hb4
    have hc0 : r.2.2 = 0 := by simpa using hb4
    refine AC_skip ?_
    refine AC_region ?_
    refine AL_p rfl rfl (S_addI rfl (.tmp rfl) (AEv.const _) (by omega) (by omega)) ?_
    refine AL_p rfl rfl (S_move rfl (.tmp rfl)) ?_
    refine AL_nil ?_
    exact ⟨(i + 1, out ++ [r.1], r.2.1, r.2.2, .row b8 k8 cap8), ⟨by rw [← hr]; exact ti_next hI hil (by rw [hr]; exact hc0), hx8⟩, by dsimp only; omega, (Sub.l (List.Sublist.refl _)), (.cons rfl (by first | exact Le.refl _ | exact Le.nils | exact Le.row _ _ _ _ | exact Le.of_eq (by first | rfl | (simp; done) | (push_cast; rfl) | (simp; omega))) (.cons rfl (by first | exact Le.refl _ | exact Le.nils | exact Le.row _ _ _ _ | exact Le.of_eq (by first | rfl | (simp; done) | (push_cast; rfl) | (simp; omega))) .nil)), (.cons rfl (Le.refl _) (.cons rfl (Le.refl _) (.cons rfl (Le.refl _) .nil)))⟩
  try simp only [zA, zO, zN, zM, zP, zQ, zD, zF, gd] at hb1
  have hx : (allR labRd most s c) = (out, s', c') := ti_end hI (by omega)
  refine AC_exit ?_
  refine AC_seq ?_
  refine AC_region ?_
  refine AL_p rfl rfl (S_move rfl (.tmp rfl)) ?_
  refine AL_p rfl rfl (S_assign rfl (.tmp rfl)) ?_
  refine AL_nil ?_
  refine AC_ret ?_
  refine ret_tmp ([(b, Ob.cells [.S (s'), .int .i64 (c')])] ++ F) rfl rfl (Sub.l (List.Sublist.cons_cons _ (List.sublist_append_right _ _))) (Conv.le (Sub.l (List.Sublist.cons_cons _ (List.sublist_append_right _ _))) (Le_own hq)) ⟨_, ⟨by rw [hx] <;> rfl, by rw [hx] <;> rfl⟩, rfl⟩ (.inl rfl)

set_option maxRecDepth 100000 in
set_option maxHeartbeats 2000000 in
/-- provost/pack.takeContainer -/
theorem takeContainer_ok (b : Nat) (s : List UInt8) (c : Int) (F : St) : ACalls Tryz.prog 108 [.ptr b 0] ([(b, Ob.cells [.S (s), .int .i64 (c)])] ++ F) (fun x st' => ∃ foot', (x = ctrAV (ctrRd s c).1 ∧ foot' = [(b, Ob.cells [.S ((ctrRd s c).2.1), .int .i64 ((ctrRd s c).2.2)])]) ∧ st' = foot' ++ F) := by
  refine ACalls_of (N := 28) Tryz.func108 (by kernel_rfl) rfl rfl rfl ?_
  refine AC_seq ?_
  refine AC_region ?_
  refine AL_step rfl rfl (S_box1 rfl (.tmp rfl) rfl) ?_
  rintro _ _ ⟨b1, rfl, rfl⟩
  refine AL_step rfl rfl (S_alloc [.string ⟨#[]⟩, .string ⟨#[]⟩, .int .i64 0, .int .i64 0, .int .i64 0, .int .i64 0, .int .i64 0, .int .i64 0, .slice none 0 0, .int .i64 0, .int .i64 0] rfl (by kernel_rfl)) ?_
  rintro _ _ ⟨b2, rfl, rfl⟩
  refine AL_nil ?_
  refine AC_seq ?_
  refine AC_ords (fun env' st' => ∃ b3, EnvLe env' [(1, .ptr b1 0), (2, .ptr b2 0), (3, .ptr b3 0)] ∧ st' = (b3, Ob.cells [.S (wtextR s c 16).1, .S (wtextR (wtextR s c 16).2.1 (wtextR s c 16).2.2 33).1, .int .i64 0, .int .i64 0, .int .i64 0, .int .i64 0, .int .i64 0, .int .i64 0, .nils, .int .i64 0, .int .i64 0]) :: (b2, Ob.cells [.S [], .S [], .int .i64 0, .int .i64 0, .int .i64 0, .int .i64 0, .int .i64 0, .int .i64 0, .nils, .int .i64 0, .int .i64 0]) :: (b1, Ob.cells [.ptr b 0]) :: ([(b, Ob.cells [.S ((wtextR (wtextR s c 16).2.1 (wtextR s c 16).2.2 33).2.1), .int .i64 ((wtextR (wtextR s c 16).2.1 (wtextR s c 16).2.2 33).2.2)])] ++ F)) (by kernel_rfl) ?_ ?_
  · refine AO_step (rs := [0, 2, 5]) (by kernel_rfl) rfl ?_
    refine .cons (.mk' rfl rfl rfl (S_loadM (cs := [.ptr b 0]) rfl (.tmp rfl) (by repeat (first | exact List.mem_cons_self | refine List.mem_cons_of_mem _ ?_)) rfl (by kernel_rfl)) ?_) ?_
    · rintro _ _ ⟨rfl, rfl⟩
      refine AO_step (rs := [1, 2, 5]) (by kernel_rfl) rfl ?_
      refine .cons (.mk' rfl rfl rfl (S_call rfl (AEvs.cons (.tmp rfl) (AEvs.cons (AEv.const _) AEvs.nil)) (ACalls.preQ (pre := [_, _]) (F := F) (r_Text_ok b _ _ 16 (by decide) _))) ?_) ?_
      · rintro _ _ ⟨_, ⟨rfl, rfl⟩, rfl⟩
        refine AO_step (rs := [2, 5]) (by kernel_rfl) rfl ?_
        refine .cons (.mk' rfl rfl rfl (S_loadM (cs := [.ptr b 0]) rfl (.tmp rfl) (by repeat (first | exact List.mem_cons_self | refine List.mem_cons_of_mem _ ?_)) rfl (by kernel_rfl)) ?_) ?_
        · rintro _ _ ⟨rfl, rfl⟩
          refine AO_step (rs := [3, 5]) (by kernel_rfl) rfl ?_
          refine .cons (.mk' rfl rfl rfl (S_call rfl (AEvs.cons (.tmp rfl) (AEvs.cons (AEv.const _) AEvs.nil)) (ACalls.preQ (pre := [_, _]) (F := F) (r_Text_ok b _ _ 33 (by decide) _))) ?_) ?_
          · rintro _ _ ⟨_, ⟨rfl, rfl⟩, rfl⟩
            refine AO_step (rs := [4, 5]) (by kernel_rfl) rfl ?_
            refine .cons (.mk' rfl rfl rfl (S_build (t := 114) (pl := [(0, 1), (1, 1), (2, 3), (5, 3), (8, 1), (9, 2)]) (zs := [.string ⟨#[]⟩, .string ⟨#[]⟩, .int .i64 0, .int .i64 0, .int .i64 0, .int .i64 0, .int .i64 0, .int .i64 0, .slice none 0 0, .int .i64 0, .int .i64 0]) rfl (AEvs.cons (.tmp rfl) (AEvs.cons (.tmp rfl) AEvs.nil)) (by kernel_rfl) rfl) ?_) ?_
            · rintro _ _ ⟨rfl, rfl⟩
              refine AO_step (rs := [5]) (by kernel_rfl) rfl ?_
              refine .cons (.mk' rfl rfl rfl (S_alloc [.string ⟨#[]⟩, .string ⟨#[]⟩, .int .i64 0, .int .i64 0, .int .i64 0, .int .i64 0, .int .i64 0, .int .i64 0, .slice none 0 0, .int .i64 0, .int .i64 0] rfl (by kernel_rfl)) ?_) ?_
              · rintro _ _ ⟨b3, rfl, rfl⟩
                refine AO_step (rs := [6]) (by kernel_rfl) rfl ?_
                refine .cons (.mk' rfl rfl rfl (S_storeW 0 rfl (.tmp rfl) (.tmp rfl) rfl rfl rfl (by kernel_rfl)) ?_) ?_
                · rintro _ _ ⟨rfl, rfl⟩
                  refine AO_fin (by kernel_rfl) ⟨rfl, b3, (.cons rfl (Le.refl _) (.cons rfl (Le.refl _) (.cons rfl (Le.refl _) .nil))), rfl⟩
                exact .nil
              exact .nil
            refine .cons (.mk' rfl rfl rfl (S_alloc [.string ⟨#[]⟩, .string ⟨#[]⟩, .int .i64 0, .int .i64 0, .int .i64 0, .int .i64 0, .int .i64 0, .int .i64 0, .slice none 0 0, .int .i64 0, .int .i64 0] rfl (by kernel_rfl)) ?_) ?_
            · rintro _ _ ⟨b3, rfl, rfl⟩
              refine AO_step (rs := [4]) (by kernel_rfl) rfl ?_
              refine .cons (.mk' rfl rfl rfl (S_build (t := 114) (pl := [(0, 1), (1, 1), (2, 3), (5, 3), (8, 1), (9, 2)]) (zs := [.string ⟨#[]⟩, .string ⟨#[]⟩, .int .i64 0, .int .i64 0, .int .i64 0, .int .i64 0, .int .i64 0, .int .i64 0, .slice none 0 0, .int .i64 0, .int .i64 0]) rfl (AEvs.cons (.tmp rfl) (AEvs.cons (.tmp rfl) AEvs.nil)) (by kernel_rfl) rfl) ?_) ?_
              · rintro _ _ ⟨rfl, rfl⟩
                refine AO_step (rs := [6]) (by kernel_rfl) rfl ?_
                refine .cons (.mk' rfl rfl rfl (S_storeW 0 rfl (.tmp rfl) (.tmp rfl) rfl rfl rfl (by kernel_rfl)) ?_) ?_
                · rintro _ _ ⟨rfl, rfl⟩
                  refine AO_fin (by kernel_rfl) ⟨rfl, b3, (.cons rfl (Le.refl _) (.cons rfl (Le.refl _) (.cons rfl (Le.refl _) .nil))), rfl⟩
                exact .nil
              exact .nil
            exact .nil
          refine .cons (.mk' rfl rfl rfl (S_alloc [.string ⟨#[]⟩, .string ⟨#[]⟩, .int .i64 0, .int .i64 0, .int .i64 0, .int .i64 0, .int .i64 0, .int .i64 0, .slice none 0 0, .int .i64 0, .int .i64 0] rfl (by kernel_rfl)) ?_) ?_
          · rintro _ _ ⟨b3, rfl, rfl⟩
            refine AO_step (rs := [3]) (by kernel_rfl) rfl ?_
            refine .cons (.mk' rfl rfl rfl (S_call rfl (AEvs.cons (.tmp rfl) (AEvs.cons (AEv.const _) AEvs.nil)) (ACalls.preQ (pre := [_, _, _]) (F := F) (r_Text_ok b _ _ 33 (by decide) _))) ?_) ?_
            · rintro _ _ ⟨_, ⟨rfl, rfl⟩, rfl⟩
              refine AO_step (rs := [4]) (by kernel_rfl) rfl ?_
              refine .cons (.mk' rfl rfl rfl (S_build (t := 114) (pl := [(0, 1), (1, 1), (2, 3), (5, 3), (8, 1), (9, 2)]) (zs := [.string ⟨#[]⟩, .string ⟨#[]⟩, .int .i64 0, .int .i64 0, .int .i64 0, .int .i64 0, .int .i64 0, .int .i64 0, .slice none 0 0, .int .i64 0, .int .i64 0]) rfl (AEvs.cons (.tmp rfl) (AEvs.cons (.tmp rfl) AEvs.nil)) (by kernel_rfl) rfl) ?_) ?_
              · rintro _ _ ⟨rfl, rfl⟩
                refine AO_step (rs := [6]) (by kernel_rfl) rfl ?_
                refine .cons (.mk' rfl rfl rfl (S_storeW 0 rfl (.tmp rfl) (.tmp rfl) rfl rfl rfl (by kernel_rfl)) ?_) ?_
                · rintro _ _ ⟨rfl, rfl⟩
                  refine AO_fin (by kernel_rfl) ⟨rfl, b3, (.cons rfl (Le.refl _) (.cons rfl (Le.refl _) (.cons rfl (Le.refl _) .nil))), rfl⟩
                exact .nil
              exact .nil
            exact .nil
          exact .nil
        refine .cons (.mk' rfl rfl rfl (S_alloc [.string ⟨#[]⟩, .string ⟨#[]⟩, .int .i64 0, .int .i64 0, .int .i64 0, .int .i64 0, .int .i64 0, .int .i64 0, .slice none 0 0, .int .i64 0, .int .i64 0] rfl (by kernel_rfl)) ?_) ?_
        · rintro _ _ ⟨b3, rfl, rfl⟩
          refine AO_step (rs := [2]) (by kernel_rfl) rfl ?_
          refine .cons (.mk' rfl rfl rfl (S_loadM (cs := [.ptr b 0]) rfl (.tmp rfl) (by repeat (first | exact List.mem_cons_self | refine List.mem_cons_of_mem _ ?_)) rfl (by kernel_rfl)) ?_) ?_
          · rintro _ _ ⟨rfl, rfl⟩
            refine AO_step (rs := [3]) (by kernel_rfl) rfl ?_
            refine .cons (.mk' rfl rfl rfl (S_call rfl (AEvs.cons (.tmp rfl) (AEvs.cons (AEv.const _) AEvs.nil)) (ACalls.preQ (pre := [_, _, _]) (F := F) (r_Text_ok b _ _ 33 (by decide) _))) ?_) ?_
            · rintro _ _ ⟨_, ⟨rfl, rfl⟩, rfl⟩
              refine AO_step (rs := [4]) (by kernel_rfl) rfl ?_
              refine .cons (.mk' rfl rfl rfl (S_build (t := 114) (pl := [(0, 1), (1, 1), (2, 3), (5, 3), (8, 1), (9, 2)]) (zs := [.string ⟨#[]⟩, .string ⟨#[]⟩, .int .i64 0, .int .i64 0, .int .i64 0, .int .i64 0, .int .i64 0, .int .i64 0, .slice none 0 0, .int .i64 0, .int .i64 0]) rfl (AEvs.cons (.tmp rfl) (AEvs.cons (.tmp rfl) AEvs.nil)) (by kernel_rfl) rfl) ?_) ?_
              · rintro _ _ ⟨rfl, rfl⟩
                refine AO_step (rs := [6]) (by kernel_rfl) rfl ?_
                refine .cons (.mk' rfl rfl rfl (S_storeW 0 rfl (.tmp rfl) (.tmp rfl) rfl rfl rfl (by kernel_rfl)) ?_) ?_
                · rintro _ _ ⟨rfl, rfl⟩
                  refine AO_fin (by kernel_rfl) ⟨rfl, b3, (.cons rfl (Le.refl _) (.cons rfl (Le.refl _) (.cons rfl (Le.refl _) .nil))), rfl⟩
                exact .nil
              exact .nil
            exact .nil
          exact .nil
        exact .nil
      refine .cons (.mk' rfl rfl rfl (S_loadM (cs := [.ptr b 0]) rfl (.tmp rfl) (by repeat (first | exact List.mem_cons_self | refine List.mem_cons_of_mem _ ?_)) rfl (by kernel_rfl)) ?_) ?_
      · rintro _ _ ⟨rfl, rfl⟩
        refine AO_step (rs := [1, 5]) (by kernel_rfl) rfl ?_
        refine .cons (.mk' rfl rfl rfl (S_call rfl (AEvs.cons (.tmp rfl) (AEvs.cons (AEv.const _) AEvs.nil)) (ACalls.preQ (pre := [_, _]) (F := F) (r_Text_ok b _ _ 16 (by decide) _))) ?_) ?_
        · rintro _ _ ⟨_, ⟨rfl, rfl⟩, rfl⟩
          refine AO_step (rs := [3, 5]) (by kernel_rfl) rfl ?_
          refine .cons (.mk' rfl rfl rfl (S_call rfl (AEvs.cons (.tmp rfl) (AEvs.cons (AEv.const _) AEvs.nil)) (ACalls.preQ (pre := [_, _]) (F := F) (r_Text_ok b _ _ 33 (by decide) _))) ?_) ?_
          · rintro _ _ ⟨_, ⟨rfl, rfl⟩, rfl⟩
            refine AO_step (rs := [4, 5]) (by kernel_rfl) rfl ?_
            refine .cons (.mk' rfl rfl rfl (S_build (t := 114) (pl := [(0, 1), (1, 1), (2, 3), (5, 3), (8, 1), (9, 2)]) (zs := [.string ⟨#[]⟩, .string ⟨#[]⟩, .int .i64 0, .int .i64 0, .int .i64 0, .int .i64 0, .int .i64 0, .int .i64 0, .slice none 0 0, .int .i64 0, .int .i64 0]) rfl (AEvs.cons (.tmp rfl) (AEvs.cons (.tmp rfl) AEvs.nil)) (by kernel_rfl) rfl) ?_) ?_
            · rintro _ _ ⟨rfl, rfl⟩
              refine AO_step (rs := [5]) (by kernel_rfl) rfl ?_
              refine .cons (.mk' rfl rfl rfl (S_alloc [.string ⟨#[]⟩, .string ⟨#[]⟩, .int .i64 0, .int .i64 0, .int .i64 0, .int .i64 0, .int .i64 0, .int .i64 0, .slice none 0 0, .int .i64 0, .int .i64 0] rfl (by kernel_rfl)) ?_) ?_
              · rintro _ _ ⟨b3, rfl, rfl⟩
                refine AO_step (rs := [6]) (by kernel_rfl) rfl ?_
                refine .cons (.mk' rfl rfl rfl (S_storeW 0 rfl (.tmp rfl) (.tmp rfl) rfl rfl rfl (by kernel_rfl)) ?_) ?_
                · rintro _ _ ⟨rfl, rfl⟩
                  refine AO_fin (by kernel_rfl) ⟨rfl, b3, (.cons rfl (Le.refl _) (.cons rfl (Le.refl _) (.cons rfl (Le.refl _) .nil))), rfl⟩
                exact .nil
              exact .nil
            refine .cons (.mk' rfl rfl rfl (S_alloc [.string ⟨#[]⟩, .string ⟨#[]⟩, .int .i64 0, .int .i64 0, .int .i64 0, .int .i64 0, .int .i64 0, .int .i64 0, .slice none 0 0, .int .i64 0, .int .i64 0] rfl (by kernel_rfl)) ?_) ?_
            · rintro _ _ ⟨b3, rfl, rfl⟩
              refine AO_step (rs := [4]) (by kernel_rfl) rfl ?_
              refine .cons (.mk' rfl rfl rfl (S_build (t := 114) (pl := [(0, 1), (1, 1), (2, 3), (5, 3), (8, 1), (9, 2)]) (zs := [.string ⟨#[]⟩, .string ⟨#[]⟩, .int .i64 0, .int .i64 0, .int .i64 0, .int .i64 0, .int .i64 0, .int .i64 0, .slice none 0 0, .int .i64 0, .int .i64 0]) rfl (AEvs.cons (.tmp rfl) (AEvs.cons (.tmp rfl) AEvs.nil)) (by kernel_rfl) rfl) ?_) ?_
              · rintro _ _ ⟨rfl, rfl⟩
                refine AO_step (rs := [6]) (by kernel_rfl) rfl ?_
                refine .cons (.mk' rfl rfl rfl (S_storeW 0 rfl (.tmp rfl) (.tmp rfl) rfl rfl rfl (by kernel_rfl)) ?_) ?_
                · rintro _ _ ⟨rfl, rfl⟩
                  refine AO_fin (by kernel_rfl) ⟨rfl, b3, (.cons rfl (Le.refl _) (.cons rfl (Le.refl _) (.cons rfl (Le.refl _) .nil))), rfl⟩
                exact .nil
              exact .nil
            exact .nil
          refine .cons (.mk' rfl rfl rfl (S_alloc [.string ⟨#[]⟩, .string ⟨#[]⟩, .int .i64 0, .int .i64 0, .int .i64 0, .int .i64 0, .int .i64 0, .int .i64 0, .slice none 0 0, .int .i64 0, .int .i64 0] rfl (by kernel_rfl)) ?_) ?_
          · rintro _ _ ⟨b3, rfl, rfl⟩
            refine AO_step (rs := [3]) (by kernel_rfl) rfl ?_
            refine .cons (.mk' rfl rfl rfl (S_call rfl (AEvs.cons (.tmp rfl) (AEvs.cons (AEv.const _) AEvs.nil)) (ACalls.preQ (pre := [_, _, _]) (F := F) (r_Text_ok b _ _ 33 (by decide) _))) ?_) ?_
            · rintro _ _ ⟨_, ⟨rfl, rfl⟩, rfl⟩
              refine AO_step (rs := [4]) (by kernel_rfl) rfl ?_
              refine .cons (.mk' rfl rfl rfl (S_build (t := 114) (pl := [(0, 1), (1, 1), (2, 3), (5, 3), (8, 1), (9, 2)]) (zs := [.string ⟨#[]⟩, .string ⟨#[]⟩, .int .i64 0, .int .i64 0, .int .i64 0, .int .i64 0, .int .i64 0, .int .i64 0, .slice none 0 0, .int .i64 0, .int .i64 0]) rfl (AEvs.cons (.tmp rfl) (AEvs.cons (.tmp rfl) AEvs.nil)) (by kernel_rfl) rfl) ?_) ?_
              · rintro _ _ ⟨rfl, rfl⟩
                refine AO_step (rs := [6]) (by kernel_rfl) rfl ?_
                refine .cons (.mk' rfl rfl rfl (S_storeW 0 rfl (.tmp rfl) (.tmp rfl) rfl rfl rfl (by kernel_rfl)) ?_) ?_
                · rintro _ _ ⟨rfl, rfl⟩
                  refine AO_fin (by kernel_rfl) ⟨rfl, b3, (.cons rfl (Le.refl _) (.cons rfl (Le.refl _) (.cons rfl (Le.refl _) .nil))), rfl⟩
                exact .nil
              exact .nil
            exact .nil
          exact .nil
        refine .cons (.mk' rfl rfl rfl (S_alloc [.string ⟨#[]⟩, .string ⟨#[]⟩, .int .i64 0, .int .i64 0, .int .i64 0, .int .i64 0, .int .i64 0, .int .i64 0, .slice none 0 0, .int .i64 0, .int .i64 0] rfl (by kernel_rfl)) ?_) ?_
        · rintro _ _ ⟨b3, rfl, rfl⟩
          refine AO_step (rs := [1]) (by kernel_rfl) rfl ?_
          refine .cons (.mk' rfl rfl rfl (S_call rfl (AEvs.cons (.tmp rfl) (AEvs.cons (AEv.const _) AEvs.nil)) (ACalls.preQ (pre := [_, _, _]) (F := F) (r_Text_ok b _ _ 16 (by decide) _))) ?_) ?_
          · rintro _ _ ⟨_, ⟨rfl, rfl⟩, rfl⟩
            refine AO_step (rs := [3]) (by kernel_rfl) rfl ?_
            refine .cons (.mk' rfl rfl rfl (S_call rfl (AEvs.cons (.tmp rfl) (AEvs.cons (AEv.const _) AEvs.nil)) (ACalls.preQ (pre := [_, _, _]) (F := F) (r_Text_ok b _ _ 33 (by decide) _))) ?_) ?_
            · rintro _ _ ⟨_, ⟨rfl, rfl⟩, rfl⟩
              refine AO_step (rs := [4]) (by kernel_rfl) rfl ?_
              refine .cons (.mk' rfl rfl rfl (S_build (t := 114) (pl := [(0, 1), (1, 1), (2, 3), (5, 3), (8, 1), (9, 2)]) (zs := [.string ⟨#[]⟩, .string ⟨#[]⟩, .int .i64 0, .int .i64 0, .int .i64 0, .int .i64 0, .int .i64 0, .int .i64 0, .slice none 0 0, .int .i64 0, .int .i64 0]) rfl (AEvs.cons (.tmp rfl) (AEvs.cons (.tmp rfl) AEvs.nil)) (by kernel_rfl) rfl) ?_) ?_
              · rintro _ _ ⟨rfl, rfl⟩
                refine AO_step (rs := [6]) (by kernel_rfl) rfl ?_
                refine .cons (.mk' rfl rfl rfl (S_storeW 0 rfl (.tmp rfl) (.tmp rfl) rfl rfl rfl (by kernel_rfl)) ?_) ?_
                · rintro _ _ ⟨rfl, rfl⟩
                  refine AO_fin (by kernel_rfl) ⟨rfl, b3, (.cons rfl (Le.refl _) (.cons rfl (Le.refl _) (.cons rfl (Le.refl _) .nil))), rfl⟩
                exact .nil
              exact .nil
            exact .nil
          exact .nil
        exact .nil
      refine .cons (.mk' rfl rfl rfl (S_alloc [.string ⟨#[]⟩, .string ⟨#[]⟩, .int .i64 0, .int .i64 0, .int .i64 0, .int .i64 0, .int .i64 0, .int .i64 0, .slice none 0 0, .int .i64 0, .int .i64 0] rfl (by kernel_rfl)) ?_) ?_
      · rintro _ _ ⟨b3, rfl, rfl⟩
        refine AO_step (rs := [1, 2]) (by kernel_rfl) rfl ?_
        refine .cons (.mk' rfl rfl rfl (S_call rfl (AEvs.cons (.tmp rfl) (AEvs.cons (AEv.const _) AEvs.nil)) (ACalls.preQ (pre := [_, _, _]) (F := F) (r_Text_ok b _ _ 16 (by decide) _))) ?_) ?_
        · rintro _ _ ⟨_, ⟨rfl, rfl⟩, rfl⟩
          refine AO_step (rs := [2]) (by kernel_rfl) rfl ?_
          refine .cons (.mk' rfl rfl rfl (S_loadM (cs := [.ptr b 0]) rfl (.tmp rfl) (by repeat (first | exact List.mem_cons_self | refine List.mem_cons_of_mem _ ?_)) rfl (by kernel_rfl)) ?_) ?_
          · rintro _ _ ⟨rfl, rfl⟩
            refine AO_step (rs := [3]) (by kernel_rfl) rfl ?_
            refine .cons (.mk' rfl rfl rfl (S_call rfl (AEvs.cons (.tmp rfl) (AEvs.cons (AEv.const _) AEvs.nil)) (ACalls.preQ (pre := [_, _, _]) (F := F) (r_Text_ok b _ _ 33 (by decide) _))) ?_) ?_
            · rintro _ _ ⟨_, ⟨rfl, rfl⟩, rfl⟩
              refine AO_step (rs := [4]) (by kernel_rfl) rfl ?_
              refine .cons (.mk' rfl rfl rfl (S_build (t := 114) (pl := [(0, 1), (1, 1), (2, 3), (5, 3), (8, 1), (9, 2)]) (zs := [.string ⟨#[]⟩, .string ⟨#[]⟩, .int .i64 0, .int .i64 0, .int .i64 0, .int .i64 0, .int .i64 0, .int .i64 0, .slice none 0 0, .int .i64 0, .int .i64 0]) rfl (AEvs.cons (.tmp rfl) (AEvs.cons (.tmp rfl) AEvs.nil)) (by kernel_rfl) rfl) ?_) ?_
              · rintro _ _ ⟨rfl, rfl⟩
                refine AO_step (rs := [6]) (by kernel_rfl) rfl ?_
                refine .cons (.mk' rfl rfl rfl (S_storeW 0 rfl (.tmp rfl) (.tmp rfl) rfl rfl rfl (by kernel_rfl)) ?_) ?_
                · rintro _ _ ⟨rfl, rfl⟩
                  refine AO_fin (by kernel_rfl) ⟨rfl, b3, (.cons rfl (Le.refl _) (.cons rfl (Le.refl _) (.cons rfl (Le.refl _) .nil))), rfl⟩
                exact .nil
              exact .nil
            exact .nil
          exact .nil
        refine .cons (.mk' rfl rfl rfl (S_loadM (cs := [.ptr b 0]) rfl (.tmp rfl) (by repeat (first | exact List.mem_cons_self | refine List.mem_cons_of_mem _ ?_)) rfl (by kernel_rfl)) ?_) ?_
        · rintro _ _ ⟨rfl, rfl⟩
          refine AO_step (rs := [1]) (by kernel_rfl) rfl ?_
          refine .cons (.mk' rfl rfl rfl (S_call rfl (AEvs.cons (.tmp rfl) (AEvs.cons (AEv.const _) AEvs.nil)) (ACalls.preQ (pre := [_, _, _]) (F := F) (r_Text_ok b _ _ 16 (by decide) _))) ?_) ?_
          · rintro _ _ ⟨_, ⟨rfl, rfl⟩, rfl⟩
            refine AO_step (rs := [3]) (by kernel_rfl) rfl ?_
            refine .cons (.mk' rfl rfl rfl (S_call rfl (AEvs.cons (.tmp rfl) (AEvs.cons (AEv.const _) AEvs.nil)) (ACalls.preQ (pre := [_, _, _]) (F := F) (r_Text_ok b _ _ 33 (by decide) _))) ?_) ?_
            · rintro _ _ ⟨_, ⟨rfl, rfl⟩, rfl⟩
              refine AO_step (rs := [4]) (by kernel_rfl) rfl ?_
              refine .cons (.mk' rfl rfl rfl (S_build (t := 114) (pl := [(0, 1), (1, 1), (2, 3), (5, 3), (8, 1), (9, 2)]) (zs := [.string ⟨#[]⟩, .string ⟨#[]⟩, .int .i64 0, .int .i64 0, .int .i64 0, .int .i64 0, .int .i64 0, .int .i64 0, .slice none 0 0, .int .i64 0, .int .i64 0]) rfl (AEvs.cons (.tmp rfl) (AEvs.cons (.tmp rfl) AEvs.nil)) (by kernel_rfl) rfl) ?_) ?_
              · rintro _ _ ⟨rfl, rfl⟩
                refine AO_step (rs := [6]) (by kernel_rfl) rfl ?_
                refine .cons (.mk' rfl rfl rfl (S_storeW 0 rfl (.tmp rfl) (.tmp rfl) rfl rfl rfl (by kernel_rfl)) ?_) ?_
                · rintro _ _ ⟨rfl, rfl⟩
                  refine AO_fin (by kernel_rfl) ⟨rfl, b3, (.cons rfl (Le.refl _) (.cons rfl (Le.refl _) (.cons rfl (Le.refl _) .nil))), rfl⟩
                exact .nil
              exact .nil
            exact .nil
          exact .nil
        exact .nil
      exact .nil
    refine .cons (.mk' rfl rfl rfl (S_loadM (cs := [.ptr b 0]) rfl (.tmp rfl) (by repeat (first | exact List.mem_cons_self | refine List.mem_cons_of_mem _ ?_)) rfl (by kernel_rfl)) ?_) ?_
    · rintro _ _ ⟨rfl, rfl⟩
      refine AO_step (rs := [0, 5]) (by kernel_rfl) rfl ?_
      refine .cons (.mk' rfl rfl rfl (S_loadM (cs := [.ptr b 0]) rfl (.tmp rfl) (by repeat (first | exact List.mem_cons_self | refine List.mem_cons_of_mem _ ?_)) rfl (by kernel_rfl)) ?_) ?_
      · rintro _ _ ⟨rfl, rfl⟩
        refine AO_step (rs := [1, 5]) (by kernel_rfl) rfl ?_
        refine .cons (.mk' rfl rfl rfl (S_call rfl (AEvs.cons (.tmp rfl) (AEvs.cons (AEv.const _) AEvs.nil)) (ACalls.preQ (pre := [_, _]) (F := F) (r_Text_ok b _ _ 16 (by decide) _))) ?_) ?_
        · rintro _ _ ⟨_, ⟨rfl, rfl⟩, rfl⟩
          refine AO_step (rs := [3, 5]) (by kernel_rfl) rfl ?_
          refine .cons (.mk' rfl rfl rfl (S_call rfl (AEvs.cons (.tmp rfl) (AEvs.cons (AEv.const _) AEvs.nil)) (ACalls.preQ (pre := [_, _]) (F := F) (r_Text_ok b _ _ 33 (by decide) _))) ?_) ?_
          · rintro _ _ ⟨_, ⟨rfl, rfl⟩, rfl⟩
            refine AO_step (rs := [4, 5]) (by kernel_rfl) rfl ?_
            refine .cons (.mk' rfl rfl rfl (S_build (t := 114) (pl := [(0, 1), (1, 1), (2, 3), (5, 3), (8, 1), (9, 2)]) (zs := [.string ⟨#[]⟩, .string ⟨#[]⟩, .int .i64 0, .int .i64 0, .int .i64 0, .int .i64 0, .int .i64 0, .int .i64 0, .slice none 0 0, .int .i64 0, .int .i64 0]) rfl (AEvs.cons (.tmp rfl) (AEvs.cons (.tmp rfl) AEvs.nil)) (by kernel_rfl) rfl) ?_) ?_
            · rintro _ _ ⟨rfl, rfl⟩
              refine AO_step (rs := [5]) (by kernel_rfl) rfl ?_
              refine .cons (.mk' rfl rfl rfl (S_alloc [.string ⟨#[]⟩, .string ⟨#[]⟩, .int .i64 0, .int .i64 0, .int .i64 0, .int .i64 0, .int .i64 0, .int .i64 0, .slice none 0 0, .int .i64 0, .int .i64 0] rfl (by kernel_rfl)) ?_) ?_
              · rintro _ _ ⟨b3, rfl, rfl⟩
                refine AO_step (rs := [6]) (by kernel_rfl) rfl ?_
                refine .cons (.mk' rfl rfl rfl (S_storeW 0 rfl (.tmp rfl) (.tmp rfl) rfl rfl rfl (by kernel_rfl)) ?_) ?_
                · rintro _ _ ⟨rfl, rfl⟩
                  refine AO_fin (by kernel_rfl) ⟨rfl, b3, (.cons rfl (Le.refl _) (.cons rfl (Le.refl _) (.cons rfl (Le.refl _) .nil))), rfl⟩
                exact .nil
              exact .nil
            refine .cons (.mk' rfl rfl rfl (S_alloc [.string ⟨#[]⟩, .string ⟨#[]⟩, .int .i64 0, .int .i64 0, .int .i64 0, .int .i64 0, .int .i64 0, .int .i64 0, .slice none 0 0, .int .i64 0, .int .i64 0] rfl (by kernel_rfl)) ?_) ?_
            · rintro _ _ ⟨b3, rfl, rfl⟩
              refine AO_step (rs := [4]) (by kernel_rfl) rfl ?_
              refine .cons (.mk' rfl rfl rfl (S_build (t := 114) (pl := [(0, 1), (1, 1), (2, 3), (5, 3), (8, 1), (9, 2)]) (zs := [.string ⟨#[]⟩, .string ⟨#[]⟩, .int .i64 0, .int .i64 0, .int .i64 0, .int .i64 0, .int .i64 0, .int .i64 0, .slice none 0 0, .int .i64 0, .int .i64 0]) rfl (AEvs.cons (.tmp rfl) (AEvs.cons (.tmp rfl) AEvs.nil)) (by kernel_rfl) rfl) ?_) ?_
              · rintro _ _ ⟨rfl, rfl⟩
                refine AO_step (rs := [6]) (by kernel_rfl) rfl ?_
                refine .cons (.mk' rfl rfl rfl (S_storeW 0 rfl (.tmp rfl) (.tmp rfl) rfl rfl rfl (by kernel_rfl)) ?_) ?_
                · rintro _ _ ⟨rfl, rfl⟩
                  refine AO_fin (by kernel_rfl) ⟨rfl, b3, (.cons rfl (Le.refl _) (.cons rfl (Le.refl _) (.cons rfl (Le.refl _) .nil))), rfl⟩
                exact .nil
              exact .nil
            exact .nil
          refine .cons (.mk' rfl rfl rfl (S_alloc [.string ⟨#[]⟩, .string ⟨#[]⟩, .int .i64 0, .int .i64 0, .int .i64 0, .int .i64 0, .int .i64 0, .int .i64 0, .slice none 0 0, .int .i64 0, .int .i64 0] rfl (by kernel_rfl)) ?_) ?_
          · rintro _ _ ⟨b3, rfl, rfl⟩
            refine AO_step (rs := [3]) (by kernel_rfl) rfl ?_
            refine .cons (.mk' rfl rfl rfl (S_call rfl (AEvs.cons (.tmp rfl) (AEvs.cons (AEv.const _) AEvs.nil)) (ACalls.preQ (pre := [_, _, _]) (F := F) (r_Text_ok b _ _ 33 (by decide) _))) ?_) ?_
            · rintro _ _ ⟨_, ⟨rfl, rfl⟩, rfl⟩
              refine AO_step (rs := [4]) (by kernel_rfl) rfl ?_
              refine .cons (.mk' rfl rfl rfl (S_build (t := 114) (pl := [(0, 1), (1, 1), (2, 3), (5, 3), (8, 1), (9, 2)]) (zs := [.string ⟨#[]⟩, .string ⟨#[]⟩, .int .i64 0, .int .i64 0, .int .i64 0, .int .i64 0, .int .i64 0, .int .i64 0, .slice none 0 0, .int .i64 0, .int .i64 0]) rfl (AEvs.cons (.tmp rfl) (AEvs.cons (.tmp rfl) AEvs.nil)) (by kernel_rfl) rfl) ?_) ?_
              · rintro _ _ ⟨rfl, rfl⟩
                refine AO_step (rs := [6]) (by kernel_rfl) rfl ?_
                refine .cons (.mk' rfl rfl rfl (S_storeW 0 rfl (.tmp rfl) (.tmp rfl) rfl rfl rfl (by kernel_rfl)) ?_) ?_
                · rintro _ _ ⟨rfl, rfl⟩
                  refine AO_fin (by kernel_rfl) ⟨rfl, b3, (.cons rfl (Le.refl _) (.cons rfl (Le.refl _) (.cons rfl (Le.refl _) .nil))), rfl⟩
                exact .nil
              exact .nil
            exact .nil
          exact .nil
        refine .cons (.mk' rfl rfl rfl (S_alloc [.string ⟨#[]⟩, .string ⟨#[]⟩, .int .i64 0, .int .i64 0, .int .i64 0, .int .i64 0, .int .i64 0, .int .i64 0, .slice none 0 0, .int .i64 0, .int .i64 0] rfl (by kernel_rfl)) ?_) ?_
        · rintro _ _ ⟨b3, rfl, rfl⟩
          refine AO_step (rs := [1]) (by kernel_rfl) rfl ?_
          refine .cons (.mk' rfl rfl rfl (S_call rfl (AEvs.cons (.tmp rfl) (AEvs.cons (AEv.const _) AEvs.nil)) (ACalls.preQ (pre := [_, _, _]) (F := F) (r_Text_ok b _ _ 16 (by decide) _))) ?_) ?_
          · rintro _ _ ⟨_, ⟨rfl, rfl⟩, rfl⟩
            refine AO_step (rs := [3]) (by kernel_rfl) rfl ?_
            refine .cons (.mk' rfl rfl rfl (S_call rfl (AEvs.cons (.tmp rfl) (AEvs.cons (AEv.const _) AEvs.nil)) (ACalls.preQ (pre := [_, _, _]) (F := F) (r_Text_ok b _ _ 33 (by decide) _))) ?_) ?_
            · rintro _ _ ⟨_, ⟨rfl, rfl⟩, rfl⟩
              refine AO_step (rs := [4]) (by kernel_rfl) rfl ?_
              refine .cons (.mk' rfl rfl rfl (S_build (t := 114) (pl := [(0, 1), (1, 1), (2, 3), (5, 3), (8, 1), (9, 2)]) (zs := [.string ⟨#[]⟩, .string ⟨#[]⟩, .int .i64 0, .int .i64 0, .int .i64 0, .int .i64 0, .int .i64 0, .int .i64 0, .slice none 0 0, .int .i64 0, .int .i64 0]) rfl (AEvs.cons (.tmp rfl) (AEvs.cons (.tmp rfl) AEvs.nil)) (by kernel_rfl) rfl) ?_) ?_
              · rintro _ _ ⟨rfl, rfl⟩
                refine AO_step (rs := [6]) (by kernel_rfl) rfl ?_
                refine .cons (.mk' rfl rfl rfl (S_storeW 0 rfl (.tmp rfl) (.tmp rfl) rfl rfl rfl (by kernel_rfl)) ?_) ?_
                · rintro _ _ ⟨rfl, rfl⟩
                  refine AO_fin (by kernel_rfl) ⟨rfl, b3, (.cons rfl (Le.refl _) (.cons rfl (Le.refl _) (.cons rfl (Le.refl _) .nil))), rfl⟩
                exact .nil
              exact .nil
            exact .nil
          exact .nil
        exact .nil
      refine .cons (.mk' rfl rfl rfl (S_alloc [.string ⟨#[]⟩, .string ⟨#[]⟩, .int .i64 0, .int .i64 0, .int .i64 0, .int .i64 0, .int .i64 0, .int .i64 0, .slice none 0 0, .int .i64 0, .int .i64 0] rfl (by kernel_rfl)) ?_) ?_
      · rintro _ _ ⟨b3, rfl, rfl⟩
        refine AO_step (rs := [0]) (by kernel_rfl) rfl ?_
        refine .cons (.mk' rfl rfl rfl (S_loadM (cs := [.ptr b 0]) rfl (.tmp rfl) (by repeat (first | exact List.mem_cons_self | refine List.mem_cons_of_mem _ ?_)) rfl (by kernel_rfl)) ?_) ?_
        · rintro _ _ ⟨rfl, rfl⟩
          refine AO_step (rs := [1]) (by kernel_rfl) rfl ?_
          refine .cons (.mk' rfl rfl rfl (S_call rfl (AEvs.cons (.tmp rfl) (AEvs.cons (AEv.const _) AEvs.nil)) (ACalls.preQ (pre := [_, _, _]) (F := F) (r_Text_ok b _ _ 16 (by decide) _))) ?_) ?_
          · rintro _ _ ⟨_, ⟨rfl, rfl⟩, rfl⟩
            refine AO_step (rs := [3]) (by kernel_rfl) rfl ?_
            refine .cons (.mk' rfl rfl rfl (S_call rfl (AEvs.cons (.tmp rfl) (AEvs.cons (AEv.const _) AEvs.nil)) (ACalls.preQ (pre := [_, _, _]) (F := F) (r_Text_ok b _ _ 33 (by decide) _))) ?_) ?_
            · rintro _ _ ⟨_, ⟨rfl, rfl⟩, rfl⟩
              refine AO_step (rs := [4]) (by kernel_rfl) rfl ?_
              refine .cons (.mk' rfl rfl rfl (S_build (t := 114) (pl := [(0, 1), (1, 1), (2, 3), (5, 3), (8, 1), (9, 2)]) (zs := [.string ⟨#[]⟩, .string ⟨#[]⟩, .int .i64 0, .int .i64 0, .int .i64 0, .int .i64 0, .int .i64 0, .int .i64 0, .slice none 0 0, .int .i64 0, .int .i64 0]) rfl (AEvs.cons (.tmp rfl) (AEvs.cons (.tmp rfl) AEvs.nil)) (by kernel_rfl) rfl) ?_) ?_
              · rintro _ _ ⟨rfl, rfl⟩
                refine AO_step (rs := [6]) (by kernel_rfl) rfl ?_
                refine .cons (.mk' rfl rfl rfl (S_storeW 0 rfl (.tmp rfl) (.tmp rfl) rfl rfl rfl (by kernel_rfl)) ?_) ?_
                · rintro _ _ ⟨rfl, rfl⟩
                  refine AO_fin (by kernel_rfl) ⟨rfl, b3, (.cons rfl (Le.refl _) (.cons rfl (Le.refl _) (.cons rfl (Le.refl _) .nil))), rfl⟩
                exact .nil
              exact .nil
            exact .nil
          exact .nil
        exact .nil
      exact .nil
    refine .cons (.mk' rfl rfl rfl (S_alloc [.string ⟨#[]⟩, .string ⟨#[]⟩, .int .i64 0, .int .i64 0, .int .i64 0, .int .i64 0, .int .i64 0, .int .i64 0, .slice none 0 0, .int .i64 0, .int .i64 0] rfl (by kernel_rfl)) ?_) ?_
    · rintro _ _ ⟨b3, rfl, rfl⟩
      refine AO_step (rs := [0, 2]) (by kernel_rfl) rfl ?_
      refine .cons (.mk' rfl rfl rfl (S_loadM (cs := [.ptr b 0]) rfl (.tmp rfl) (by repeat (first | exact List.mem_cons_self | refine List.mem_cons_of_mem _ ?_)) rfl (by kernel_rfl)) ?_) ?_
      · rintro _ _ ⟨rfl, rfl⟩
        refine AO_step (rs := [1, 2]) (by kernel_rfl) rfl ?_
        refine .cons (.mk' rfl rfl rfl (S_call rfl (AEvs.cons (.tmp rfl) (AEvs.cons (AEv.const _) AEvs.nil)) (ACalls.preQ (pre := [_, _, _]) (F := F) (r_Text_ok b _ _ 16 (by decide) _))) ?_) ?_
        · rintro _ _ ⟨_, ⟨rfl, rfl⟩, rfl⟩
          refine AO_step (rs := [2]) (by kernel_rfl) rfl ?_
          refine .cons (.mk' rfl rfl rfl (S_loadM (cs := [.ptr b 0]) rfl (.tmp rfl) (by repeat (first | exact List.mem_cons_self | refine List.mem_cons_of_mem _ ?_)) rfl (by kernel_rfl)) ?_) ?_
          · rintro _ _ ⟨rfl, rfl⟩
            refine AO_step (rs := [3]) (by kernel_rfl) rfl ?_
            refine .cons (.mk' rfl rfl rfl (S_call rfl (AEvs.cons (.tmp rfl) (AEvs.cons (AEv.const _) AEvs.nil)) (ACalls.preQ (pre := [_, _, _]) (F := F) (r_Text_ok b _ _ 33 (by decide) _))) ?_) ?_
            · rintro _ _ ⟨_, ⟨rfl, rfl⟩, rfl⟩
              refine AO_step (rs := [4]) (by kernel_rfl) rfl ?_
              refine .cons (.mk' rfl rfl rfl (S_build (t := 114) (pl := [(0, 1), (1, 1), (2, 3), (5, 3), (8, 1), (9, 2)]) (zs := [.string ⟨#[]⟩, .string ⟨#[]⟩, .int .i64 0, .int .i64 0, .int .i64 0, .int .i64 0, .int .i64 0, .int .i64 0, .slice none 0 0, .int .i64 0, .int .i64 0]) rfl (AEvs.cons (.tmp rfl) (AEvs.cons (.tmp rfl) AEvs.nil)) (by kernel_rfl) rfl) ?_) ?_
              · rintro _ _ ⟨rfl, rfl⟩
                refine AO_step (rs := [6]) (by kernel_rfl) rfl ?_
                refine .cons (.mk' rfl rfl rfl (S_storeW 0 rfl (.tmp rfl) (.tmp rfl) rfl rfl rfl (by kernel_rfl)) ?_) ?_
                · rintro _ _ ⟨rfl, rfl⟩
                  refine AO_fin (by kernel_rfl) ⟨rfl, b3, (.cons rfl (Le.refl _) (.cons rfl (Le.refl _) (.cons rfl (Le.refl _) .nil))), rfl⟩
                exact .nil
              exact .nil
            exact .nil
          exact .nil
        refine .cons (.mk' rfl rfl rfl (S_loadM (cs := [.ptr b 0]) rfl (.tmp rfl) (by repeat (first | exact List.mem_cons_self | refine List.mem_cons_of_mem _ ?_)) rfl (by kernel_rfl)) ?_) ?_
        · rintro _ _ ⟨rfl, rfl⟩
          refine AO_step (rs := [1]) (by kernel_rfl) rfl ?_
          refine .cons (.mk' rfl rfl rfl (S_call rfl (AEvs.cons (.tmp rfl) (AEvs.cons (AEv.const _) AEvs.nil)) (ACalls.preQ (pre := [_, _, _]) (F := F) (r_Text_ok b _ _ 16 (by decide) _))) ?_) ?_
          · rintro _ _ ⟨_, ⟨rfl, rfl⟩, rfl⟩
            refine AO_step (rs := [3]) (by kernel_rfl) rfl ?_
            refine .cons (.mk' rfl rfl rfl (S_call rfl (AEvs.cons (.tmp rfl) (AEvs.cons (AEv.const _) AEvs.nil)) (ACalls.preQ (pre := [_, _, _]) (F := F) (r_Text_ok b _ _ 33 (by decide) _))) ?_) ?_
            · rintro _ _ ⟨_, ⟨rfl, rfl⟩, rfl⟩
              refine AO_step (rs := [4]) (by kernel_rfl) rfl ?_
              refine .cons (.mk' rfl rfl rfl (S_build (t := 114) (pl := [(0, 1), (1, 1), (2, 3), (5, 3), (8, 1), (9, 2)]) (zs := [.string ⟨#[]⟩, .string ⟨#[]⟩, .int .i64 0, .int .i64 0, .int .i64 0, .int .i64 0, .int .i64 0, .int .i64 0, .slice none 0 0, .int .i64 0, .int .i64 0]) rfl (AEvs.cons (.tmp rfl) (AEvs.cons (.tmp rfl) AEvs.nil)) (by kernel_rfl) rfl) ?_) ?_
              · rintro _ _ ⟨rfl, rfl⟩
                refine AO_step (rs := [6]) (by kernel_rfl) rfl ?_
                refine .cons (.mk' rfl rfl rfl (S_storeW 0 rfl (.tmp rfl) (.tmp rfl) rfl rfl rfl (by kernel_rfl)) ?_) ?_
                · rintro _ _ ⟨rfl, rfl⟩
                  refine AO_fin (by kernel_rfl) ⟨rfl, b3, (.cons rfl (Le.refl _) (.cons rfl (Le.refl _) (.cons rfl (Le.refl _) .nil))), rfl⟩
                exact .nil
              exact .nil
            exact .nil
          exact .nil
        exact .nil
      refine .cons (.mk' rfl rfl rfl (S_loadM (cs := [.ptr b 0]) rfl (.tmp rfl) (by repeat (first | exact List.mem_cons_self | refine List.mem_cons_of_mem _ ?_)) rfl (by kernel_rfl)) ?_) ?_
      · rintro _ _ ⟨rfl, rfl⟩
        refine AO_step (rs := [0]) (by kernel_rfl) rfl ?_
        refine .cons (.mk' rfl rfl rfl (S_loadM (cs := [.ptr b 0]) rfl (.tmp rfl) (by repeat (first | exact List.mem_cons_self | refine List.mem_cons_of_mem _ ?_)) rfl (by kernel_rfl)) ?_) ?_
        · rintro _ _ ⟨rfl, rfl⟩
          refine AO_step (rs := [1]) (by kernel_rfl) rfl ?_
          refine .cons (.mk' rfl rfl rfl (S_call rfl (AEvs.cons (.tmp rfl) (AEvs.cons (AEv.const _) AEvs.nil)) (ACalls.preQ (pre := [_, _, _]) (F := F) (r_Text_ok b _ _ 16 (by decide) _))) ?_) ?_
          · rintro _ _ ⟨_, ⟨rfl, rfl⟩, rfl⟩
            refine AO_step (rs := [3]) (by kernel_rfl) rfl ?_
            refine .cons (.mk' rfl rfl rfl (S_call rfl (AEvs.cons (.tmp rfl) (AEvs.cons (AEv.const _) AEvs.nil)) (ACalls.preQ (pre := [_, _, _]) (F := F) (r_Text_ok b _ _ 33 (by decide) _))) ?_) ?_
            · rintro _ _ ⟨_, ⟨rfl, rfl⟩, rfl⟩
              refine AO_step (rs := [4]) (by kernel_rfl) rfl ?_
              refine .cons (.mk' rfl rfl rfl (S_build (t := 114) (pl := [(0, 1), (1, 1), (2, 3), (5, 3), (8, 1), (9, 2)]) (zs := [.string ⟨#[]⟩, .string ⟨#[]⟩, .int .i64 0, .int .i64 0, .int .i64 0, .int .i64 0, .int .i64 0, .int .i64 0, .slice none 0 0, .int .i64 0, .int .i64 0]) rfl (AEvs.cons (.tmp rfl) (AEvs.cons (.tmp rfl) AEvs.nil)) (by kernel_rfl) rfl) ?_) ?_
              · rintro _ _ ⟨rfl, rfl⟩
                refine AO_step (rs := [6]) (by kernel_rfl) rfl ?_
                refine .cons (.mk' rfl rfl rfl (S_storeW 0 rfl (.tmp rfl) (.tmp rfl) rfl rfl rfl (by kernel_rfl)) ?_) ?_
                · rintro _ _ ⟨rfl, rfl⟩
                  refine AO_fin (by kernel_rfl) ⟨rfl, b3, (.cons rfl (Le.refl _) (.cons rfl (Le.refl _) (.cons rfl (Le.refl _) .nil))), rfl⟩
                exact .nil
              exact .nil
            exact .nil
          exact .nil
        exact .nil
      exact .nil
    exact .nil
  rintro _ _ ⟨b3, henv, rfl⟩
  refine AC_weak _ henv ?_
  clear henv
  refine AC_seq ?_
  generalize h1 : wtextR s c 16 = r1
  generalize h2 : wtextR r1.2.1 r1.2.2 33 = r2
  refine AC_plan (σ := [(0, 0), (2, 0), (1, 1), (4, 0), (3, 1), (5, 2), (6, 0), (7, 2)]) (by kernel_rfl) [(b1, Ob.cells [.ptr b 0])] (by kernel_rfl) (fun r hr => by rw [List.mem_singleton.1 hr]; exact (by repeat (first | exact List.mem_cons_self | refine List.mem_cons_of_mem _ ?_))) ?_
  refine AG.f rfl rfl (fun st' hst => Q_p rfl (S_loadM (cs := [.ptr b 0]) rfl (.tmp rfl) (hst _ List.mem_cons_self) rfl (by kernel_rfl))) ?_
  refine AG.f rfl rfl (fun st' hst => Q_p rfl (S_loadM (cs := [.ptr b 0]) rfl (.tmp rfl) (hst _ List.mem_cons_self) rfl (by kernel_rfl))) ?_
  refine AG.s rfl rfl rfl (S_call rfl (AEvs.cons (.tmp rfl) AEvs.nil) (ACalls.preQ (pre := [_, _, _]) (F := F) (takeRes_ok b _ _ _))) ?_ ?_
  · rintro _ _ ⟨_, ⟨rfl, rfl⟩, rfl⟩ r hr; rw [List.mem_singleton.1 hr]; exact (by repeat (first | exact List.mem_cons_self | refine List.mem_cons_of_mem _ ?_))
  rintro _ _ ⟨_, ⟨rfl, rfl⟩, rfl⟩
  refine AG.f rfl rfl (fun st' hst => Q_p rfl (S_field 2 rfl (.tmp rfl) (by kernel_rfl))) ?_
  refine AG.s rfl rfl rfl (S_call rfl (AEvs.cons (.tmp rfl) AEvs.nil) (ACalls.preQ (pre := [_, _, _]) (F := F) (takeRes_ok b _ _ _))) ?_ ?_
  · rintro _ _ ⟨_, ⟨rfl, rfl⟩, rfl⟩ r hr; rw [List.mem_singleton.1 hr]; exact (by repeat (first | exact List.mem_cons_self | refine List.mem_cons_of_mem _ ?_))
  rintro _ _ ⟨_, ⟨rfl, rfl⟩, rfl⟩
  refine AG.h rfl rfl rfl (S_storeN 0 rfl (.tmp rfl) (.tmp rfl) rfl (by first | exact Nat.le_of_ble_eq_true rfl | (simp; omega) | simp) (by first | rfl | simp [AV.one, Value.oneCell']) (by kernel_rfl)) ?_
  rintro _ _ ⟨rfl, rfl⟩
  refine AG.f rfl rfl (fun st' hst => Q_p rfl (S_field 5 rfl (.tmp rfl) (by kernel_rfl))) ?_
  refine AG.h rfl rfl rfl (S_storeN 0 rfl (.tmp rfl) (.tmp rfl) rfl (by first | exact Nat.le_of_ble_eq_true rfl | (simp; omega) | simp) (by first | rfl | simp [AV.one, Value.oneCell']) (by kernel_rfl)) ?_
  rintro _ _ ⟨rfl, rfl⟩
  refine AG.nil ?_
  refine AC_seq ?_
  refine AC_region ?_
  refine AL_p rfl rfl (S_load 2 rfl (.tmp rfl) rfl rfl (by kernel_rfl)) ?_
  refine AL_p rfl rfl (S_makeFunc (caps := [_]) rfl (AEvs.cons (.tmp rfl) AEvs.nil)) ?_
  refine AL_step rfl rfl (S_call rfl (AEvs.cons (.tmp rfl) (AEvs.cons (AEv.const _) (AEvs.cons (.tmp rfl) AEvs.nil))) (ACalls.preQ (pre := [_, _, _]) (F := F) (takeAllI_ok b _ _ b1 3 (by decide) (by decide) _ (by repeat (first | exact List.mem_cons_self | refine List.mem_cons_of_mem _ ?_))))) ?_
  rintro _ _ ⟨_, ⟨rfl, rfl⟩, rfl⟩
  generalize h3 : triRd r2.2.1 r2.2.2 = r3
  generalize h4 : triRd r3.2.1 r3.2.2 = r4
  generalize h5 : allR (numRd 65535) 3 r4.2.1 r4.2.2 = r5
  refine AL_p rfl rfl (S_field 8 rfl (.tmp rfl) (by kernel_rfl)) ?_
  refine AL_step rfl rfl (S_store 0 rfl (.tmp rfl) (.tmp rfl) rfl (by first | exact Nat.le_of_ble_eq_true rfl | simp) rfl (by kernel_rfl)) ?_
  rintro _ _ ⟨rfl, rfl⟩
  refine AL_nil ?_
  refine AC_seq ?_
  refine AC_region ?_
  refine AL_p rfl rfl (S_load 2 rfl (.tmp rfl) rfl rfl (by kernel_rfl)) ?_
  refine AL_step rfl rfl (S_call rfl (AEvs.cons (.tmp rfl) (AEvs.cons (AEv.const _) AEvs.nil)) (ACalls.preQ (pre := [_, _, _]) (F := F) (r_Num_ok b _ _ 1000 (by decide) _))) ?_
  rintro _ _ ⟨_, ⟨rfl, rfl⟩, rfl⟩
  generalize h6 : numR r5.2.1 r5.2.2 1000 = r6
  refine AL_p rfl rfl (S_field 9 rfl (.tmp rfl) (by kernel_rfl)) ?_
  refine AL_p rfl rfl (S_field 0 rfl (.tmp rfl) (by kernel_rfl)) ?_
  refine AL_step rfl rfl (S_store 0 rfl (.tmp rfl) (.tmp rfl) rfl (by first | exact Nat.le_of_ble_eq_true rfl | simp) rfl (by kernel_rfl)) ?_
  rintro _ _ ⟨rfl, rfl⟩
  refine AL_nil ?_
  refine AC_seq ?_
  refine AC_region ?_
  refine AL_p rfl rfl (S_load 2 rfl (.tmp rfl) rfl rfl (by kernel_rfl)) ?_
  refine AL_step rfl rfl (S_call rfl (AEvs.cons (.tmp rfl) (AEvs.cons (AEv.const _) AEvs.nil)) (ACalls.preQ (pre := [_, _, _]) (F := F) (r_Num_ok b _ _ 10 (by decide) _))) ?_
  rintro _ _ ⟨_, ⟨rfl, rfl⟩, rfl⟩
  generalize h7 : numR r6.2.1 r6.2.2 10 = r7
  refine AL_p rfl rfl (S_field 9 rfl (.tmp rfl) (by kernel_rfl)) ?_
  refine AL_p rfl rfl (S_field 1 rfl (.tmp rfl) (by kernel_rfl)) ?_
  refine AL_step rfl rfl (S_store 0 rfl (.tmp rfl) (.tmp rfl) rfl (by first | exact Nat.le_of_ble_eq_true rfl | simp) rfl (by kernel_rfl)) ?_
  rintro _ _ ⟨rfl, rfl⟩
  refine AL_nil ?_
  refine AC_seq ?_
  refine AC_region ?_
  refine AL_p rfl rfl (S_loadN (m := 11) 0 rfl (.tmp rfl) rfl (by kernel_rfl) (by first | exact Nat.le_of_ble_eq_true rfl | (simp; omega) | simp)) ?_
  refine AL_step rfl rfl (S_storeW 1 rfl (.tmp rfl) (.tmp rfl) rfl rfl rfl (by kernel_rfl)) ?_
  rintro _ _ ⟨rfl, rfl⟩
  refine AL_nil ?_
  refine AC_ret ?_
  refine ret_cell 1 ([(b, Ob.cells [.S (r7.2.1), .int .i64 (r7.2.2)])] ++ F) rfl rfl rfl (by kernel_rfl) (Sub.l (((List.sublist_cons_self _ _).trans (List.sublist_cons_self _ _)).trans (List.sublist_cons_self _ _))) (Conv.refl (Sub.l (((List.sublist_cons_self _ _).trans (List.sublist_cons_self _ _)).trans (List.sublist_cons_self _ _))) _) ⟨_, ⟨by subst h7 h6 h5 h4 h3 h2 h1; rfl, by subst h7 h6 h5 h4 h3 h2 h1; rfl⟩, rfl⟩ (.inl rfl)

end Go.Proofs.YtcbnokpgklmndaaGreatDoor

/-
The walks of Go functions in the logic AL: what each of them answers.
Conditions: those of each theorem.
-/
set_option linter.unusedVariables false
set_option linter.unusedSimpArgs false
namespace Go.Proofs.YtcbnokpgklmndaaGreatDoor
open Go.AL Go.NumSpec

set_option maxRecDepth 100000 in
set_option maxHeartbeats 2000000 in
/-- provost/pack.Raw$1 -/
theorem takeP1_ok (b : Nat) (s : List UInt8) (c : Int) (br : Nat) (F : St) (hw : (br, Ob.cells [.ptr b 0]) ∈ F) : ACalls Tryz.prog 107 [.ptr br 0] ([(b, Ob.cells [.S (s), .int .i64 (c)])] ++ F) (fun x st' => ∃ foot', (x = ctrAV (ctrRd s c).1 ∧ foot' = [(b, Ob.cells [.S ((ctrRd s c).2.1), .int .i64 ((ctrRd s c).2.2)])]) ∧ st' = foot' ++ F) := by
  refine ACalls_of (N := 4) Tryz.func107 (by kernel_rfl) rfl rfl rfl ?_
  refine AC_seq ?_
  refine AC_region ?_
  refine AL_step rfl rfl (S_alloc [.string ⟨#[]⟩, .string ⟨#[]⟩, .int .i64 0, .int .i64 0, .int .i64 0, .int .i64 0, .int .i64 0, .int .i64 0, .slice none 0 0, .int .i64 0, .int .i64 0] rfl (by kernel_rfl)) ?_
  rintro _ _ ⟨b1, rfl, rfl⟩
  refine AL_nil ?_
  refine AC_seq ?_
  refine AC_region ?_
  refine AL_p rfl rfl (S_loadM (cs := [.ptr b 0]) rfl (.tmp rfl) (by repeat (first | exact hw | exact List.mem_cons_self | refine List.mem_cons_of_mem _ ?_)) rfl (by kernel_rfl)) ?_
  refine AL_step rfl rfl (S_call rfl (AEvs.cons (.tmp rfl) AEvs.nil) (ACalls.preQ (pre := [_]) (F := F) (takeContainer_ok b _ _ _))) ?_
  rintro _ _ ⟨_, ⟨rfl, rfl⟩, rfl⟩
  refine AL_step rfl rfl (S_storeW 0 rfl (.tmp rfl) (.tmp rfl) rfl rfl rfl (by kernel_rfl)) ?_
  rintro _ _ ⟨rfl, rfl⟩
  refine AL_nil ?_
  refine AC_ret ?_
  refine ret_cell 0 ([(b, Ob.cells [.S ((ctrRd s c).2.1), .int .i64 ((ctrRd s c).2.2)])] ++ F) rfl rfl rfl (by kernel_rfl) (Sub.l (List.sublist_cons_self _ _)) (Conv.refl (Sub.l (List.sublist_cons_self _ _)) _) ⟨_, ⟨rfl, rfl⟩, rfl⟩ (.inl rfl)

set_option maxRecDepth 100000 in
set_option maxHeartbeats 2000000 in
/-- provost/pack.takeAll[provost/api.Container] -/
theorem takeAllC_ok (b : Nat) (s : List UInt8) (c : Int) (br : Nat) (most : Int) (h0 : 0 ≤ most) (h1 : most ≤ 1000) (F : St) (hw : (br, Ob.cells [.ptr b 0]) ∈ F) : ACalls Tryz.prog 109 [.ptr b 0, .int .i64 most, .fn 107 [.pointer (some ⟨br, 0, none⟩)]] ([(b, Ob.cells [.S (s), .int .i64 (c)])] ++ F) (fun x st' => ∃ foot', (x = .sl ((allR ctrRd most s c).1.map ctrAV) ∧ foot' = [(b, Ob.cells [.S ((allR ctrRd most s c).2.1), .int .i64 ((allR ctrRd most s c).2.2)])]) ∧ st' = foot' ++ F) := by
  refine ACalls_of (N := 23) Tryz.func109 (by kernel_rfl) rfl rfl rfl ?_
  have hn1 := numR_le (s := s) (c := c) (most := most)
  have hn2 := numR_nonneg s c most
  refine AC_seq ?_
  refine AC_region ?_
  refine AL_p rfl rfl (S_assign rfl (AEv.const _)) ?_
  refine AL_nil ?_
  refine AC_seq ?_
  refine AC_region ?_
  refine AL_p rfl rfl (S_assign rfl (AEv.const _)) ?_
  refine AL_nil ?_
  refine AC_seq ?_
  refine AC_seq ?_
  refine AC_region ?_
  refine AL_p rfl rfl (S_move rfl (.tmp rfl)) ?_
  refine AL_p rfl rfl (S_move rfl (.tmp rfl)) ?_
  refine AL_step rfl rfl (S_call rfl (AEvs.cons (.tmp rfl) (AEvs.cons (.tmp rfl) AEvs.nil)) (r_Num_ok b _ _ most ⟨by omega, by omega⟩ F)) ?_
  rintro _ _ ⟨_, ⟨rfl, rfl⟩, rfl⟩
  refine AL_p rfl rfl (S_move rfl (AEv.const _)) ?_
  refine AL_nil ?_
  refine AC_block ?_
  refine AC_loopK (G := Nat × List Ctr × List UInt8 × Int × Own) [(0, _), (2, _), (10, _)] (fun g => TI ctrRd (numR s c most).1.toNat (numR s c most).2.1 (numR s c most).2.2 g.1 g.2.1 g.2.2.1 g.2.2.2.1 ∧ g.2.2.2.2.ok (g.2.1.map ctrAV)) (fun g => [(7, ownAV g.2.2.2.2 11 (g.2.1.map ctrAV)), (11, .int .i64 (g.1 : Int))]) (fun g => (b, .cells [.S g.2.2.1, .int .i64 g.2.2.2.1]) :: (ownSt g.2.2.2.2 114 11 (g.2.1.map ctrAV) ++ F)) (fun g => (numR s c most).1.toNat - g.1) ((0, [], (numR s c most).2.1, (numR s c most).2.2, .nil)) (⟨ti_start _ _ _, rfl⟩) (Sub.l (List.Sublist.refl _)) (.cons rfl (Le.refl _) (.cons rfl (Le.refl _) (.cons rfl (Le.refl _) .nil))) (.cons rfl (by first | exact Le.refl _ | exact Le.nils | exact Le.row _ _ _ _ | exact Le.of_eq (by first | rfl | (simp; done) | (push_cast; rfl) | (simp; omega))) (.cons rfl (by first | exact Le.refl _ | exact Le.nils | exact Le.row _ _ _ _ | exact Le.of_eq (by first | rfl | (simp; done) | (push_cast; rfl) | (simp; omega))) .nil)) ?_
  rintro ⟨i, out, s', c', p⟩ ⟨hI, hq⟩
  try dsimp only
  simp only [List.cons_append, List.nil_append]
  dsimp only at hI hq
  have hI1 := hI.1
  have hI2 := hI.2.1
  refine AC_seq ?_
  refine AC_region ?_
  refine AL_p rfl rfl (S_lss rfl (.tmp rfl) (.tmp rfl)) ?_
  refine AL_nil ?_
  refine AC_seq ?_
  refine AC_cond (.tmp rfl) (fun hb1 => ?_) (fun hb1 => ?_)
  · try simp only [zA, zO, zN, zM, zP, zQ, zD, zF, gd] at hb1
    have hil : i < (numR s c most).1.toNat := by omega
    refine AC_skip ?_
    refine AC_seq ?_
    refine AC_block ?_
    refine AC_seq ?_
    refine AC_region ?_
    refine AL_p rfl rfl (S_move rfl (.tmp rfl)) ?_
    refine AL_p rfl rfl (S_move rfl (.tmp rfl)) ?_
    refine AL_step rfl rfl (S_callF (caps := [.pointer (some ⟨br, 0, none⟩)]) rfl (.tmp rfl) AEvs.nil (takeP1_ok b s' c' br _ (List.mem_append_right _ hw))) ?_
    rintro _ _ ⟨_, ⟨rfl, rfl⟩, rfl⟩
    generalize hr : ctrRd s' c' = r
    refine AL_p rfl rfl (S_buildSlice (e := 114) 11 rfl (AEvs.cons (.tmp rfl) AEvs.nil) rfl (by kernel_rfl) (by kernel_rfl) (by intro y hy; simp only [List.mem_cons, List.not_mem_nil, or_false] at hy; rcases hy with rfl <;> exact ⟨rfl, rfl⟩) (by decide) (by decide) (by decide)) ?_
    refine AL_step rfl rfl (S_appendM (f := ctrAV) (l := out) (l2 := [r.1]) (e := 114) (size := 11) (bytes := 120) (p := p) ([_]) (F) rfl (.tmp rfl) (.tmp rfl) rfl hq (by kernel_rfl) (by simp) (fun _ => ⟨rfl, rfl⟩) (by simp only [List.length_singleton]; omega) (by simp only [List.length_singleton]; omega)) ?_
    rintro _ _ ⟨b8, k8, cap8, hx8, rfl, rfl⟩
    refine AL_p rfl rfl (S_assign rfl (.tmp rfl)) ?_
    refine AL_nil ?_
    refine AC_seq ?_
    refine AC_region ?_
    refine AL_p rfl rfl (S_move rfl (.tmp rfl)) ?_
    refine AL_step rfl rfl (S_call rfl (AEvs.cons (.tmp rfl) AEvs.nil) (r_Code_ok b _ _ _)) ?_
    rintro _ _ ⟨_, ⟨rfl, rfl⟩, rfl⟩
    refine AL_p rfl rfl (S_neq rfl (.tmp rfl) (AEv.const _)) ?_
    refine AL_nil ?_
    refine AC_cond (.tmp rfl) (fun hb4 => ?_) (fun hb4 => ?_)
    · try simp only [zA, zO, zN, zM, zP, zQ, zD, zF, gd] at hb4
      have hx : (allR ctrRd most s c) = ([], r.2.1, r.2.2) := by have h9 := ti_bad hI hil (by rw [hr]; exact hb4); rw [hr] at h9; exact h9
      refine AC_seq ?_
      refine AC_region ?_
      refine AL_p rfl rfl (S_assign rfl (AEv.const _)) ?_
      refine AL_nil ?_
      refine AC_ret ?_
      refine ret_tmp ([(b, Ob.cells [.S (r.2.1), .int .i64 (r.2.2)])] ++ F) rfl rfl (Sub.l (List.Sublist.cons_cons _ (List.sublist_append_right _ _))) (Conv.le (Sub.l (List.Sublist.cons_cons _ (List.sublist_append_right _ _))) Le.nils) ⟨_, ⟨by rw [hx] <;> rfl, by rw [hx] <;> rfl⟩, rfl⟩ (.inl rfl)
    try simp only [zA, zO, zN, zM, zP, zQ, zD, zF, gd] at hb4
    have hc0 : r.2.2 = 0 := by simpa using hb4
    refine AC_skip ?_
    refine AC_region ?_
    refine AL_p rfl rfl (S_addI rfl (.tmp rfl) (AEv.const _) (by omega) (by omega)) ?_
    refine AL_p rfl rfl (S_move rfl (.tmp rfl)) ?_
    refine AL_nil ?_
    exact ⟨(i + 1, out ++ [r.1], r.2.1, r.2.2, .row b8 k8 cap8), ⟨by rw [← hr]; exact ti_next hI hil (by rw [hr]; exact hc0), hx8⟩, by dsimp only; omega, (Sub.l (List.Sublist.refl _)), (.cons rfl (by first | exact Le.refl _ | exact Le.nils | exact Le.row _ _ _ _ | exact Le.of_eq (by first | rfl | (simp; done) | (push_cast; rfl) | (simp; omega))) (.cons rfl (by first | exact Le.refl _ | exact Le.nils | exact Le.row _ _ _ _ | exact Le.of_eq (by first | rfl | (simp; done) | (push_cast; rfl) | (simp; omega))) .nil)), (.cons rfl (Le.refl _) (.cons rfl (Le.refl _) (.cons rfl (Le.refl _) .nil)))⟩
  try simp only [zA, zO, zN, zM, zP, zQ, zD, zF, gd] at hb1
  have hx : (allR ctrRd most s c) = (out, s', c') := ti_end hI (by omega)
  refine AC_exit ?_
  refine AC_seq ?_
  refine AC_region ?_
  refine AL_p rfl rfl (S_move rfl (.tmp rfl)) ?_
  refine AL_p rfl rfl (S_assign rfl (.tmp rfl)) ?_
  refine AL_nil ?_
  refine AC_ret ?_
  refine ret_tmp ([(b, Ob.cells [.S (s'), .int .i64 (c')])] ++ F) rfl rfl (Sub.l (List.Sublist.cons_cons _ (List.sublist_append_right _ _))) (Conv.le (Sub.l (List.Sublist.cons_cons _ (List.sublist_append_right _ _))) (Le_own hq)) ⟨_, ⟨by rw [hx] <;> rfl, by rw [hx] <;> rfl⟩, rfl⟩ (.inl rfl)

set_option maxRecDepth 100000 in
set_option maxHeartbeats 2000000 in
/-- provost/pack.TakeLabels -/
theorem TakeLabels_ok (b : Nat) (s : List UInt8) (c : Int) (F : St) : ACalls Tryz.prog 74 [.ptr b 0] ([(b, Ob.cells [.S (s), .int .i64 (c)])] ++ F) (fun x st' => ∃ foot', (x = .sl (labsV (labsRd s c).1) ∧ foot' = [(b, Ob.cells [.S ((labsRd s c).2.1), .int .i64 ((labsRd s c).2.2)])]) ∧ st' = foot' ++ F) := by
  refine ACalls_of (N := 6) Tryz.func74 (by kernel_rfl) rfl rfl rfl ?_
  refine AC_seq ?_
  refine AC_region ?_
  refine AL_step rfl rfl (S_box1 rfl (.tmp rfl) rfl) ?_
  rintro _ _ ⟨b1, rfl, rfl⟩
  refine AL_p rfl rfl (S_assign rfl (AEv.const _)) ?_
  refine AL_nil ?_
  refine AC_seq ?_
  refine AC_region ?_
  refine AL_p rfl rfl (S_load 0 rfl (.tmp rfl) rfl rfl (by kernel_rfl)) ?_
  refine AL_p rfl rfl (S_makeFunc (caps := [_]) rfl (AEvs.cons (.tmp rfl) AEvs.nil)) ?_
  refine AL_step rfl rfl (S_call rfl (AEvs.cons (.tmp rfl) (AEvs.cons (AEv.const _) (AEvs.cons (.tmp rfl) AEvs.nil))) (ACalls.preQ (pre := [_]) (F := F) (takeAllL_ok b _ _ b1 4 (by decide) (by decide) _ (by repeat (first | exact List.mem_cons_self | refine List.mem_cons_of_mem _ ?_))))) ?_
  rintro _ _ ⟨_, ⟨rfl, rfl⟩, rfl⟩
  refine AL_p rfl rfl (S_assign rfl (.tmp rfl)) ?_
  refine AL_nil ?_
  refine AC_ret ?_
  refine ret_tmp ([(b, Ob.cells [.S ((labsRd s c).2.1), .int .i64 ((labsRd s c).2.2)])] ++ F) rfl rfl (Sub.l (List.sublist_cons_self _ _)) (Conv.refl (Sub.l (List.sublist_cons_self _ _)) _) ⟨_, ⟨rfl, rfl⟩, rfl⟩ (.inl rfl)

set_option maxRecDepth 100000 in
set_option maxHeartbeats 2000000 in
/-- provost/pack.Raw -/
theorem pack_Raw_ok (b : Nat) (s : List UInt8) (c : Int) (F : St) : ACalls Tryz.prog 72 [.ptr b 0] ([(b, Ob.cells [.S (s), .int .i64 (c)])] ++ F) (fun x st' => ∃ foot', (x = spcAV (spcRd s c).1 ∧ foot' = [(b, Ob.cells [.S ((spcRd s c).2.1), .int .i64 ((spcRd s c).2.2)])]) ∧ st' = foot' ++ F) := by
  refine ACalls_of (N := 30) Tryz.func72 (by kernel_rfl) rfl rfl rfl ?_
  refine AC_seq ?_
  refine AC_region ?_
  refine AL_step rfl rfl (S_box1 rfl (.tmp rfl) rfl) ?_
  rintro _ _ ⟨b1, rfl, rfl⟩
  refine AL_step rfl rfl (S_alloc [.string ⟨#[]⟩, .slice none 0 0, .slice none 0 0, .slice none 0 0, .int .i64 0, .int .i64 0, .int .i64 0] rfl (by kernel_rfl)) ?_
  rintro _ _ ⟨b2, rfl, rfl⟩
  refine AL_nil ?_
  refine AC_seq ?_
  refine AC_region ?_
  refine AL_p rfl rfl (S_load 1 rfl (.tmp rfl) rfl rfl (by kernel_rfl)) ?_
  refine AL_step rfl rfl (S_call rfl (AEvs.cons (.tmp rfl) (AEvs.cons (AEv.const _) AEvs.nil)) (ACalls.preQ (pre := [_, _]) (F := F) (r_Text_ok b _ _ 16 (by decide) _))) ?_
  rintro _ _ ⟨_, ⟨rfl, rfl⟩, rfl⟩
  generalize h1 : wtextR s c 16 = r1
  refine AL_p rfl rfl (S_build (t := 26) (pl := [(0, 1), (1, 1), (2, 1), (3, 1), (4, 1), (5, 1), (6, 1)]) (zs := [.string ⟨#[]⟩, .slice none 0 0, .slice none 0 0, .slice none 0 0, .int .i64 0, .int .i64 0, .int .i64 0]) rfl (AEvs.cons (.tmp rfl) AEvs.nil) (by kernel_rfl) rfl) ?_
  refine AL_step rfl rfl (S_alloc [.string ⟨#[]⟩, .slice none 0 0, .slice none 0 0, .slice none 0 0, .int .i64 0, .int .i64 0, .int .i64 0] rfl (by kernel_rfl)) ?_
  rintro _ _ ⟨b3, rfl, rfl⟩
  refine AL_step rfl rfl (S_storeW 0 rfl (.tmp rfl) (.tmp rfl) rfl rfl rfl (by kernel_rfl)) ?_
  rintro _ _ ⟨rfl, rfl⟩
  refine AL_nil ?_
  refine AC_seq ?_
  refine AC_region ?_
  refine AL_p rfl rfl (S_load 2 rfl (.tmp rfl) rfl rfl (by kernel_rfl)) ?_
  refine AL_step rfl rfl (S_call rfl (AEvs.cons (.tmp rfl) AEvs.nil) (ACalls.preQ (pre := [_, _, _]) (F := F) (TakeLabels_ok b _ _ _))) ?_
  rintro _ _ ⟨_, ⟨rfl, rfl⟩, rfl⟩
  generalize h2 : labsRd r1.2.1 r1.2.2 = r2
  refine AL_p rfl rfl (S_field 1 rfl (.tmp rfl) (by kernel_rfl)) ?_
  refine AL_step rfl rfl (S_store 0 rfl (.tmp rfl) (.tmp rfl) rfl (by first | exact Nat.le_of_ble_eq_true rfl | simp) rfl (by kernel_rfl)) ?_
  rintro _ _ ⟨rfl, rfl⟩
  refine AL_nil ?_
  refine AC_seq ?_
  refine AC_region ?_
  refine AL_p rfl rfl (S_makeFunc (caps := [_]) rfl (AEvs.cons (.tmp rfl) AEvs.nil)) ?_
  refine AL_p rfl rfl (S_assign rfl (.tmp rfl)) ?_
  refine AL_nil ?_
  refine AC_seq ?_
  refine AC_region ?_
  refine AL_p rfl rfl (S_load 2 rfl (.tmp rfl) rfl rfl (by kernel_rfl)) ?_
  refine AL_p rfl rfl (S_move rfl (.tmp rfl)) ?_
  refine AL_step rfl rfl (S_call rfl (AEvs.cons (.tmp rfl) (AEvs.cons (AEv.const _) (AEvs.cons (.tmp rfl) AEvs.nil))) (ACalls.preQ (pre := [_, _, _]) (F := F) (takeAllC_ok b _ _ b1 3 (by decide) (by decide) _ (by repeat (first | exact List.mem_cons_self | refine List.mem_cons_of_mem _ ?_))))) ?_
  rintro _ _ ⟨_, ⟨rfl, rfl⟩, rfl⟩
  generalize h3 : allR ctrRd 3 r2.2.1 r2.2.2 = r3
  refine AL_p rfl rfl (S_field 2 rfl (.tmp rfl) (by kernel_rfl)) ?_
  refine AL_step rfl rfl (S_store 0 rfl (.tmp rfl) (.tmp rfl) rfl (by first | exact Nat.le_of_ble_eq_true rfl | simp) rfl (by kernel_rfl)) ?_
  rintro _ _ ⟨rfl, rfl⟩
  refine AL_nil ?_
  refine AC_seq ?_
  refine AC_region ?_
  refine AL_p rfl rfl (S_load 2 rfl (.tmp rfl) rfl rfl (by kernel_rfl)) ?_
  refine AL_p rfl rfl (S_move rfl (.tmp rfl)) ?_
  refine AL_step rfl rfl (S_call rfl (AEvs.cons (.tmp rfl) (AEvs.cons (AEv.const _) (AEvs.cons (.tmp rfl) AEvs.nil))) (ACalls.preQ (pre := [_, _, _]) (F := F) (takeAllC_ok b _ _ b1 4 (by decide) (by decide) _ (by repeat (first | exact List.mem_cons_self | refine List.mem_cons_of_mem _ ?_))))) ?_
  rintro _ _ ⟨_, ⟨rfl, rfl⟩, rfl⟩
  generalize h4 : allR ctrRd 4 r3.2.1 r3.2.2 = r4
  refine AL_p rfl rfl (S_field 3 rfl (.tmp rfl) (by kernel_rfl)) ?_
  refine AL_step rfl rfl (S_store 0 rfl (.tmp rfl) (.tmp rfl) rfl (by first | exact Nat.le_of_ble_eq_true rfl | simp) rfl (by kernel_rfl)) ?_
  rintro _ _ ⟨rfl, rfl⟩
  refine AL_nil ?_
  refine AC_seq ?_
  refine AC_region ?_
  refine AL_p rfl rfl (S_load 2 rfl (.tmp rfl) rfl rfl (by kernel_rfl)) ?_
  refine AL_step rfl rfl (S_call rfl (AEvs.cons (.tmp rfl) (AEvs.cons (AEv.const _) AEvs.nil)) (ACalls.preQ (pre := [_, _, _]) (F := F) (r_Num_ok b _ _ 3 (by decide) _))) ?_
  rintro _ _ ⟨_, ⟨rfl, rfl⟩, rfl⟩
  generalize h5 : numR r4.2.1 r4.2.2 3 = r5
  refine AL_p rfl rfl (S_field 4 rfl (.tmp rfl) (by kernel_rfl)) ?_
  refine AL_step rfl rfl (S_store 0 rfl (.tmp rfl) (.tmp rfl) rfl (by first | exact Nat.le_of_ble_eq_true rfl | simp) rfl (by kernel_rfl)) ?_
  rintro _ _ ⟨rfl, rfl⟩
  refine AL_nil ?_
  refine AC_seq ?_
  refine AC_region ?_
  refine AL_p rfl rfl (S_load 2 rfl (.tmp rfl) rfl rfl (by kernel_rfl)) ?_
  refine AL_step rfl rfl (S_call rfl (AEvs.cons (.tmp rfl) (AEvs.cons (AEv.const _) AEvs.nil)) (ACalls.preQ (pre := [_, _, _]) (F := F) (r_Num_ok b _ _ 1000 (by decide) _))) ?_
  rintro _ _ ⟨_, ⟨rfl, rfl⟩, rfl⟩
  generalize h6 : numR r5.2.1 r5.2.2 1000 = r6
  refine AL_p rfl rfl (S_field 5 rfl (.tmp rfl) (by kernel_rfl)) ?_
  refine AL_step rfl rfl (S_store 0 rfl (.tmp rfl) (.tmp rfl) rfl (by first | exact Nat.le_of_ble_eq_true rfl | simp) rfl (by kernel_rfl)) ?_
  rintro _ _ ⟨rfl, rfl⟩
  refine AL_nil ?_
  refine AC_seq ?_
  refine AC_region ?_
  refine AL_p rfl rfl (S_load 2 rfl (.tmp rfl) rfl rfl (by kernel_rfl)) ?_
  refine AL_step rfl rfl (S_call rfl (AEvs.cons (.tmp rfl) (AEvs.cons (AEv.const _) AEvs.nil)) (ACalls.preQ (pre := [_, _, _]) (F := F) (r_Num_ok b _ _ 10 (by decide) _))) ?_
  rintro _ _ ⟨_, ⟨rfl, rfl⟩, rfl⟩
  generalize h7 : numR r6.2.1 r6.2.2 10 = r7
  refine AL_p rfl rfl (S_field 6 rfl (.tmp rfl) (by kernel_rfl)) ?_
  refine AL_step rfl rfl (S_store 0 rfl (.tmp rfl) (.tmp rfl) rfl (by first | exact Nat.le_of_ble_eq_true rfl | simp) rfl (by kernel_rfl)) ?_
  rintro _ _ ⟨rfl, rfl⟩
  refine AL_nil ?_
  refine AC_seq ?_
  refine AC_region ?_
  refine AL_p rfl rfl (S_loadN (m := 7) 0 rfl (.tmp rfl) rfl (by kernel_rfl) (by first | exact Nat.le_of_ble_eq_true rfl | (simp; omega) | simp)) ?_
  refine AL_step rfl rfl (S_storeW 1 rfl (.tmp rfl) (.tmp rfl) rfl rfl rfl (by kernel_rfl)) ?_
  rintro _ _ ⟨rfl, rfl⟩
  refine AL_nil ?_
  refine AC_ret ?_
  refine ret_cell 1 ([(b, Ob.cells [.S (r7.2.1), .int .i64 (r7.2.2)])] ++ F) rfl rfl rfl (by kernel_rfl) (Sub.l (((List.sublist_cons_self _ _).trans (List.sublist_cons_self _ _)).trans (List.sublist_cons_self _ _))) (Conv.refl (Sub.l (((List.sublist_cons_self _ _).trans (List.sublist_cons_self _ _)).trans (List.sublist_cons_self _ _))) _) ⟨_, ⟨by subst h7 h6 h5 h4 h3 h2 h1; rfl, by subst h7 h6 h5 h4 h3 h2 h1; rfl⟩, rfl⟩ (.inl rfl)

end Go.Proofs.YtcbnokpgklmndaaGreatDoor

/-
The walks of Go functions in the logic AL: what each of them answers.
Conditions: those of each theorem.
-/
set_option linter.unusedVariables false
set_option linter.unusedSimpArgs false
namespace Go.Proofs.YtcbnokpgklmndaaGreatDoor
open Go.AL Go.NumSpec

set_option maxRecDepth 100000 in
/-- provost/ask.of -/
theorem ask_of_ok (v : Int) : GCalls Tryz.prog tabs 36 [.int .i64 v] (.tup [.agg [.S (kindA v.toNat).1, .S (kindA v.toNat).2], .bool (decide (1 ≤ v ∧ v < 13))]) := by
  intro st hG
  refine ACalls_of (N := 14) Tryz.func36 (by kernel_rfl) rfl rfl rfl ?_
  refine AC_seq ?_
  refine AC_region ?_
  refine AL_step rfl rfl (S_alloc [.string ⟨#[]⟩, .string ⟨#[]⟩] rfl (by kernel_rfl)) ?_
  rintro _ _ ⟨b2, rfl, rfl⟩
  refine AL_p rfl rfl (S_assign rfl (AEv.const _)) ?_
  refine AL_nil ?_
  refine AC_seq ?_
  refine AC_seq ?_
  refine AC_region ?_
  refine AL_p rfl rfl (S_move rfl (.tmp rfl)) ?_
  refine AL_p rfl rfl (S_lss rfl (.tmp rfl) (AEv.const _)) ?_
  refine AL_p rfl rfl (S_move rfl (.tmp rfl)) ?_
  refine AL_g rfl rfl (.tmp rfl) rfl (fun hg2 => S_move rfl (.tmp rfl)) ?_
  refine AL_g rfl rfl (.tmp rfl) rfl (fun hg5 => S_geq rfl (AEv.cond (.tmp rfl) (by first | assumption | exact gdAnd (by assumption) (by assumption))) (AEv.const _)) ?_
  refine AL_p rfl rfl (S_or rfl (.tmp rfl) (fun hp8 => (AEv.cond (.tmp rfl) (by first | assumption | exact gdT hp8 | exact gdF hp8 | exact gdAnd (by assumption) (gdT hp8) | exact gdAnd (by assumption) (gdF hp8))))) ?_
  refine AL_nil ?_
  refine AC_cond (.tmp rfl) (fun hb9 => ?_) (fun hb9 => ?_)
  · try simp only [zA, zO, zN, zM, zP, zQ, zD, zF, gd] at hb9
    have hx := kind_out (v := v) (by omega)
    refine AC_seq ?_
    refine AC_region ?_
    refine AL_p rfl rfl (S_build (t := 57) (pl := [(0, 1), (1, 1)]) (zs := [.string ⟨#[]⟩, .string ⟨#[]⟩]) rfl AEvs.nil (by kernel_rfl) rfl) ?_
    refine AL_step rfl rfl (S_storeW 0 rfl (.tmp rfl) (.tmp rfl) rfl rfl rfl (by kernel_rfl)) ?_
    rintro _ _ ⟨rfl, rfl⟩
    refine AL_p rfl rfl (S_assign rfl (AEv.const _)) ?_
    refine AL_nil ?_
    refine AC_ret ?_
    refine ret_outs st rfl (by decide) (OutsR.row 0 rfl rfl (by kernel_rfl) (OutsR.tmp rfl OutsR.nil)) (Sub.l (List.sublist_cons_self _ _)) (Conv.refl (Sub.l (List.sublist_cons_self _ _)) _) ⟨by rw [hx, decide_eq_false (show ¬ (1 ≤ v ∧ v < 13) by omega)] <;> rfl, rfl⟩ (.inl rfl)
  try simp only [zA, zO, zN, zM, zP, zQ, zD, zF, gd] at hb9
  refine AC_skip ?_
  refine AC_seq ?_
  refine AC_region ?_
  refine AL_p rfl rfl (S_move rfl (.tmp rfl)) ?_
  refine AL_p rfl rfl (S_elemA (e := 57) (len := 13) (i := v) 2 rfl (AEv.global _) (.tmp rfl) (by kernel_rfl) (by kernel_rfl) (by omega) (by omega)) ?_
  refine AL_p rfl rfl ((S_loadKs (vs := kindsV) (m := 2) rfl (.tmp rfl) (List.mem_cons_of_mem _ (hG _ tab_kinds)) (by kernel_rfl) (by rw [show kindsV.length = 26 from rfl]; omega)).ofV (V' := .agg [.S (kindA v.toNat).1, .S (kindA v.toNat).2]) (congrArg AV.agg (kind_row (by omega) (by omega)))) ?_
  refine AL_step rfl rfl (S_storeW 0 rfl (.tmp rfl) (.tmp rfl) rfl rfl rfl (by kernel_rfl)) ?_
  rintro _ _ ⟨rfl, rfl⟩
  refine AL_p rfl rfl (S_assign rfl (AEv.const _)) ?_
  refine AL_nil ?_
  refine AC_ret ?_
  refine ret_outs st rfl (by decide) (OutsR.row 0 rfl rfl (by kernel_rfl) (OutsR.tmp rfl OutsR.nil)) (Sub.l (List.sublist_cons_self _ _)) (Conv.refl (Sub.l (List.sublist_cons_self _ _)) _) ⟨by rw [decide_eq_true (show 1 ≤ v ∧ v < 13 by omega)] <;> rfl, rfl⟩ (.inl rfl)

set_option maxRecDepth 100000 in
/-- provost/ask.Name -/
theorem ask_Name_ok (v : Int) : GCalls Tryz.prog tabs 17 [.int .i64 v] (.S (kindA v.toNat).1) := by
  intro st hG
  refine ACalls_of (N := 12) Tryz.func17 (by kernel_rfl) rfl rfl rfl ?_
  refine AC_seq ?_
  refine AC_region ?_
  refine AL_p rfl rfl (S_assign rfl (AEv.S _)) ?_
  refine AL_nil ?_
  refine AC_seq ?_
  refine AC_region ?_
  refine AL_p rfl rfl (S_move rfl (.tmp rfl)) ?_
  refine AL_p rfl rfl (S_gcall rfl (AEvs.cons (.tmp rfl) AEvs.nil) ((ask_of_ok v) _ (fun p hp => by first | exact hG p hp | (simp [hG p hp]; done)))) ?_
  refine AL_p rfl rfl (S_move rfl (.tmp rfl)) ?_
  refine AL_p rfl rfl (S_extract 0 rfl (.tmp rfl) rfl) ?_
  refine AL_p rfl rfl (S_extract 1 rfl (.tmp rfl) rfl) ?_
  refine AL_step rfl rfl (S_alloc [.string ⟨#[]⟩, .string ⟨#[]⟩] rfl (by kernel_rfl)) ?_
  rintro _ _ ⟨b3, rfl, rfl⟩
  refine AL_step rfl rfl (S_storeW 0 rfl (.tmp rfl) (.tmp rfl) rfl rfl rfl (by kernel_rfl)) ?_
  rintro _ _ ⟨rfl, rfl⟩
  refine AL_p rfl rfl (S_assign rfl (.tmp rfl)) ?_
  refine AL_nil ?_
  refine AC_seq ?_
  refine AC_region ?_
  refine AL_p rfl rfl (S_field 0 rfl (.tmp rfl) (by kernel_rfl)) ?_
  refine AL_p rfl rfl (S_load 0 rfl (.tmp rfl) rfl rfl (by kernel_rfl)) ?_
  refine AL_p rfl rfl (S_assign rfl (.tmp rfl)) ?_
  refine AL_nil ?_
  refine AC_ret ?_
  refine ret_tmp st rfl rfl (Sub.l (List.sublist_cons_self _ _)) (Conv.refl (Sub.l (List.sublist_cons_self _ _)) _) ⟨rfl, rfl⟩ (.inl rfl)

set_option maxRecDepth 100000 in
/-- provost/ask.within -/
theorem ask_within_ok (name : List UInt8) (n lo hi : Int) : PCalls Tryz.prog 66 [.S name, .int .i64 n, .int .i64 lo, .int .i64 hi] (erV 31 143 (withinE name n lo hi)) := by
  intro st
  refine ACalls_of (N := 20) Tryz.func66 (by kernel_rfl) rfl rfl rfl ?_
  refine AC_seq ?_
  refine AC_region ?_
  refine AL_p rfl rfl (S_assign rfl (AEv.const _)) ?_
  refine AL_nil ?_
  refine AC_seq ?_
  refine AC_seq ?_
  refine AC_region ?_
  refine AL_p rfl rfl (S_move rfl (.tmp rfl)) ?_
  refine AL_p rfl rfl (S_move rfl (.tmp rfl)) ?_
  refine AL_p rfl rfl (S_lss rfl (.tmp rfl) (.tmp rfl)) ?_
  refine AL_p rfl rfl (S_move rfl (.tmp rfl)) ?_
  refine AL_g rfl rfl (.tmp rfl) rfl (fun hg1 => S_move rfl (.tmp rfl)) ?_
  refine AL_g rfl rfl (.tmp rfl) rfl (fun hg4 => S_move rfl (.tmp rfl)) ?_
  refine AL_g rfl rfl (.tmp rfl) rfl (fun hg7 => S_gtr rfl (AEv.cond (.tmp rfl) (by first | assumption | exact gdAnd (by assumption) (by assumption))) (AEv.cond (.tmp rfl) (by first | assumption | exact gdAnd (by assumption) (by assumption)))) ?_
  refine AL_p rfl rfl (S_or rfl (.tmp rfl) (fun hp10 => (AEv.cond (.tmp rfl) (by first | assumption | exact gdT hp10 | exact gdF hp10 | exact gdAnd (by assumption) (gdT hp10) | exact gdAnd (by assumption) (gdF hp10))))) ?_
  refine AL_nil ?_
  refine AC_cond (.tmp rfl) (fun hb11 => ?_) (fun hb11 => ?_)
  · try simp only [zA, zO, zN, zM, zP, zQ, zD, zF, gd] at hb11
    refine AC_seq ?_
    refine AC_region ?_
    refine AL_p rfl rfl (S_move rfl (.tmp rfl)) ?_
    refine AL_p rfl rfl (S_buildSlice (e := 9) 1 rfl (AEvs.cons (.tmp rfl) AEvs.nil) rfl (by kernel_rfl) (by kernel_rfl) (by simp [AV.flat, AV.one, AV.cells, Value.oneCell']) (by decide) (by decide) (by decide)) ?_
    refine AL_p rfl rfl (S_pcall rfl (AEvs.cons (AEv.const _) (AEvs.cons (.tmp rfl) AEvs.nil)) (fail_New_ok 1 [name] (by simp))) ?_
    refine AL_p rfl rfl (S_assign rfl (.tmp rfl)) ?_
    refine AL_nil ?_
    refine AC_ret ?_
    refine ret_tmp st rfl rfl (Sub.l (List.Sublist.refl _)) (Conv.refl (Sub.l (List.Sublist.refl _)) _) ⟨by rw [withinE, if_pos (by omega)]; rfl, rfl⟩ (.inl rfl)
  try simp only [zA, zO, zN, zM, zP, zQ, zD, zF, gd] at hb11
  refine AC_skip ?_
  refine AC_seq ?_
  refine AC_region ?_
  refine AL_p rfl rfl (S_assign rfl (AEv.const _)) ?_
  refine AL_nil ?_
  refine AC_ret ?_
  refine ret_tmp st rfl rfl (Sub.l (List.Sublist.refl _)) (Conv.refl (Sub.l (List.Sublist.refl _)) _) ⟨by rw [withinE, if_neg (by omega)]; rfl, rfl⟩ (.inl rfl)

set_option maxRecDepth 100000 in
/-- provost/ask.field -/
theorem ask_field_ok (x : Cal) (f : UInt8) (hx0 : ShortA x) : GCalls Tryz.prog tabs 38 [calAV x, .int .u8 (f.toNat : Int)] (erV 31 143 (fieldE x f)) := by
  intro st hG
  refine ACalls_of (N := 50) Tryz.func38 (by kernel_rfl) rfl rfl rfl ?_
  refine AC_seq ?_
  refine AC_region ?_
  refine AL_step rfl rfl (S_box rfl (.tmp rfl)) ?_
  rintro _ _ ⟨b2, rfl, rfl⟩
  refine AL_p rfl rfl (S_assign rfl (AEv.const _)) ?_
  refine AL_nil ?_
  refine AC_seq ?_
  refine AC_seq ?_
  refine AC_region ?_
  refine AL_p rfl rfl (S_move rfl (.tmp rfl)) ?_
  refine AL_nil ?_
  refine AC_block ?_
  refine AC_seq ?_
  refine AC_region ?_
  refine AL_p rfl rfl (S_eql rfl (.tmp rfl) (AEv.const _)) ?_
  refine AL_p rfl rfl (S_assign rfl (.tmp rfl)) ?_
  refine AL_nil ?_
  refine AC_cond (.tmp rfl) (fun hb2 => ?_) (fun hb2 => ?_)
  · try simp only [zA, zO, zN, zM, zP, zQ, zD, zF, gd] at hb2
    obtain rfl : f = 117 := u8_eq hb2
    refine AC_seq ?_
    refine AC_region ?_
    refine AL_p rfl rfl (S_field 1 rfl (.tmp rfl) (by kernel_rfl)) ?_
    refine AL_p rfl rfl (S_load 0 rfl (.tmp rfl) rfl rfl (by kernel_rfl)) ?_
    refine AL_p rfl rfl (S_pcall rfl (AEvs.cons (AEv.S _) (AEvs.cons (.tmp rfl) (AEvs.cons (AEv.const _) (AEvs.cons (AEv.const _) AEvs.nil)))) (ask_within_ok [117, 105, 100] x.uid 1 1073741824)) ?_
    refine AL_p rfl rfl (S_assign rfl (.tmp rfl)) ?_
    refine AL_nil ?_
    refine AC_ret ?_
    refine ret_tmp st rfl rfl (Sub.l (List.sublist_cons_self _ _)) (Conv.refl (Sub.l (List.sublist_cons_self _ _)) _) ⟨rfl, rfl⟩ (.inl rfl)
  try simp only [zA, zO, zN, zM, zP, zQ, zD, zF, gd] at hb2
  have hf117 : ¬ f = 117 := fun h => hb2 (by rw [h]; rfl)
  refine AC_seq ?_
  refine AC_region ?_
  refine AL_p rfl rfl (S_eql rfl (.tmp rfl) (AEv.const _)) ?_
  refine AL_p rfl rfl (S_assign rfl (.tmp rfl)) ?_
  refine AL_nil ?_
  refine AC_cond (.tmp rfl) (fun hb3 => ?_) (fun hb3 => ?_)
  · try simp only [zA, zO, zN, zM, zP, zQ, zD, zF, gd] at hb3
    obtain rfl : f = 115 := u8_eq hb3
    refine AC_seq ?_
    refine AC_region ?_
    refine AL_p rfl rfl (S_field 3 rfl (.tmp rfl) (by kernel_rfl)) ?_
    refine AL_p rfl rfl (S_loadN (m := 7) 0 rfl (.tmp rfl) rfl (by kernel_rfl) (by first | exact Nat.le_of_ble_eq_true rfl | (simp; omega) | simp)) ?_
    refine AL_p rfl rfl (S_gcall rfl (AEvs.cons (.tmp rfl) AEvs.nil) ((spec_Check_ok x.spec hx0.1) _ (fun p hp => by repeat (first | exact hG p hp | refine List.mem_cons_of_mem _ ?_ | refine List.mem_append_right _ ?_)))) ?_
    refine AL_p rfl rfl (S_pcall rfl (AEvs.cons (.tmp rfl) (AEvs.cons (AEv.S _) AEvs.nil)) (fail_In_ok (checkE x.spec) [115, 112, 101, 99])) ?_
    refine AL_p rfl rfl (S_assign rfl (.tmp rfl)) ?_
    refine AL_nil ?_
    refine AC_ret ?_
    refine ret_tmp st rfl rfl (Sub.l (List.sublist_cons_self _ _)) (Conv.refl (Sub.l (List.sublist_cons_self _ _)) _) ⟨rfl, rfl⟩ (.inl rfl)
  try simp only [zA, zO, zN, zM, zP, zQ, zD, zF, gd] at hb3
  have hf115 : ¬ f = 115 := fun h => hb3 (by rw [h]; rfl)
  refine AC_seq ?_
  refine AC_region ?_
  refine AL_p rfl rfl (S_eql rfl (.tmp rfl) (AEv.const _)) ?_
  refine AL_p rfl rfl (S_assign rfl (.tmp rfl)) ?_
  refine AL_nil ?_
  refine AC_cond (.tmp rfl) (fun hb4 => ?_) (fun hb4 => ?_)
  · try simp only [zA, zO, zN, zM, zP, zQ, zD, zF, gd] at hb4
    obtain rfl : f = 103 := u8_eq hb4
    refine AC_seq ?_
    refine AC_region ?_
    refine AL_p rfl rfl (S_field 10 rfl (.tmp rfl) (by kernel_rfl)) ?_
    refine AL_p rfl rfl (S_load 0 rfl (.tmp rfl) rfl rfl (by kernel_rfl)) ?_
    refine AL_p rfl rfl (S_pcall rfl (AEvs.cons (AEv.S _) (AEvs.cons (.tmp rfl) (AEvs.cons (AEv.const _) (AEvs.cons (AEv.const _) AEvs.nil)))) (ask_within_ok [103, 114, 97, 99, 101] x.grace 0 1000)) ?_
    refine AL_p rfl rfl (S_assign rfl (.tmp rfl)) ?_
    refine AL_nil ?_
    refine AC_ret ?_
    refine ret_tmp st rfl rfl (Sub.l (List.sublist_cons_self _ _)) (Conv.refl (Sub.l (List.sublist_cons_self _ _)) _) ⟨rfl, rfl⟩ (.inl rfl)
  try simp only [zA, zO, zN, zM, zP, zQ, zD, zF, gd] at hb4
  have hf103 : ¬ f = 103 := fun h => hb4 (by rw [h]; rfl)
  refine AC_seq ?_
  refine AC_region ?_
  refine AL_p rfl rfl (S_eql rfl (.tmp rfl) (AEv.const _)) ?_
  refine AL_p rfl rfl (S_assign rfl (.tmp rfl)) ?_
  refine AL_nil ?_
  refine AC_cond (.tmp rfl) (fun hb5 => ?_) (fun hb5 => ?_)
  · try simp only [zA, zO, zN, zM, zP, zQ, zD, zF, gd] at hb5
    obtain rfl : f = 99 := u8_eq hb5
    refine AC_seq ?_
    refine AC_region ?_
    refine AL_p rfl rfl (S_field 11 rfl (.tmp rfl) (by kernel_rfl)) ?_
    refine AL_p rfl rfl (S_load 0 rfl (.tmp rfl) rfl rfl (by kernel_rfl)) ?_
    refine AL_p rfl rfl (S_pcall rfl (AEvs.cons (AEv.S _) (AEvs.cons (.tmp rfl) (AEvs.cons (AEv.const _) (AEvs.cons (AEv.const _) AEvs.nil)))) (ask_within_ok [99, 116, 114] x.ctr 0 3)) ?_
    refine AL_p rfl rfl (S_assign rfl (.tmp rfl)) ?_
    refine AL_nil ?_
    refine AC_ret ?_
    refine ret_tmp st rfl rfl (Sub.l (List.sublist_cons_self _ _)) (Conv.refl (Sub.l (List.sublist_cons_self _ _)) _) ⟨rfl, rfl⟩ (.inl rfl)
  try simp only [zA, zO, zN, zM, zP, zQ, zD, zF, gd] at hb5
  have hf99 : ¬ f = 99 := fun h => hb5 (by rw [h]; rfl)
  refine AC_seq ?_
  refine AC_region ?_
  refine AL_p rfl rfl (S_eql rfl (.tmp rfl) (AEv.const _)) ?_
  refine AL_p rfl rfl (S_assign rfl (.tmp rfl)) ?_
  refine AL_nil ?_
  refine AC_cond (.tmp rfl) (fun hb6 => ?_) (fun hb6 => ?_)
  · try simp only [zA, zO, zN, zM, zP, zQ, zD, zF, gd] at hb6
    obtain rfl : f = 105 := u8_eq hb6
    refine AC_seq ?_
    refine AC_region ?_
    refine AL_p rfl rfl (S_field 12 rfl (.tmp rfl) (by kernel_rfl)) ?_
    refine AL_p rfl rfl (S_load 0 rfl (.tmp rfl) rfl rfl (by kernel_rfl)) ?_
    refine AL_p rfl rfl (S_pcall rfl (AEvs.cons (AEv.S _) (AEvs.cons (.tmp rfl) (AEvs.cons (AEv.const _) (AEvs.cons (AEv.const _) AEvs.nil)))) (ask_within_ok [105, 100] x.id 1 1073741824)) ?_
    refine AL_p rfl rfl (S_assign rfl (.tmp rfl)) ?_
    refine AL_nil ?_
    refine AC_ret ?_
    refine ret_tmp st rfl rfl (Sub.l (List.sublist_cons_self _ _)) (Conv.refl (Sub.l (List.sublist_cons_self _ _)) _) ⟨rfl, rfl⟩ (.inl rfl)
  try simp only [zA, zO, zN, zM, zP, zQ, zD, zF, gd] at hb6
  have hf105 : ¬ f = 105 := fun h => hb6 (by rw [h]; rfl)
  refine AC_seq ?_
  refine AC_region ?_
  refine AL_p rfl rfl (S_eql rfl (.tmp rfl) (AEv.const _)) ?_
  refine AL_p rfl rfl (S_assign rfl (.tmp rfl)) ?_
  refine AL_nil ?_
  refine AC_cond (.tmp rfl) (fun hb7 => ?_) (fun hb7 => ?_)
  · try simp only [zA, zO, zN, zM, zP, zQ, zD, zF, gd] at hb7
    obtain rfl : f = 109 := u8_eq hb7
    refine AC_seq ?_
    refine AC_region ?_
    refine AL_p rfl rfl (S_field 13 rfl (.tmp rfl) (by kernel_rfl)) ?_
    refine AL_p rfl rfl (S_load 0 rfl (.tmp rfl) rfl rfl (by kernel_rfl)) ?_
    refine AL_p rfl rfl (S_pcall rfl (AEvs.cons (AEv.S _) (AEvs.cons (.tmp rfl) (AEvs.cons (AEv.const _) (AEvs.cons (AEv.const _) AEvs.nil)))) (ask_within_ok [109, 111, 115, 116] x.most 1 32)) ?_
    refine AL_p rfl rfl (S_assign rfl (.tmp rfl)) ?_
    refine AL_nil ?_
    refine AC_ret ?_
    refine ret_tmp st rfl rfl (Sub.l (List.sublist_cons_self _ _)) (Conv.refl (Sub.l (List.sublist_cons_self _ _)) _) ⟨rfl, rfl⟩ (.inl rfl)
  try simp only [zA, zO, zN, zM, zP, zQ, zD, zF, gd] at hb7
  have hf109 : ¬ f = 109 := fun h => hb7 (by rw [h]; rfl)
  refine AC_seq ?_
  refine AC_region ?_
  refine AL_p rfl rfl (S_eql rfl (.tmp rfl) (AEv.const _)) ?_
  refine AL_p rfl rfl (S_assign rfl (.tmp rfl)) ?_
  refine AL_nil ?_
  refine AC_cond (.tmp rfl) (fun hb8 => ?_) (fun hb8 => ?_)
  · try simp only [zA, zO, zN, zM, zP, zQ, zD, zF, gd] at hb8
    obtain rfl : f = 108 := u8_eq hb8
    refine AC_seq ?_
    refine AC_region ?_
    refine AL_p rfl rfl (S_field 15 rfl (.tmp rfl) (by kernel_rfl)) ?_
    refine AL_p rfl rfl (S_load 0 rfl (.tmp rfl) rfl rfl (by kernel_rfl)) ?_
    refine AL_p rfl rfl (S_gcall rfl (AEvs.cons (AEv.S _) (AEvs.cons (.tmp rfl) AEvs.nil)) ((spec_Labels_ok [115, 101, 108] (by decide) x.sel hx0.2.1 hx0.2.2) _ (fun p hp => by repeat (first | exact hG p hp | refine List.mem_cons_of_mem _ ?_ | refine List.mem_append_right _ ?_)))) ?_
    refine AL_p rfl rfl (S_assign rfl (.tmp rfl)) ?_
    refine AL_nil ?_
    refine AC_ret ?_
    refine ret_tmp st rfl rfl (Sub.l (List.sublist_cons_self _ _)) (Conv.refl (Sub.l (List.sublist_cons_self _ _)) _) ⟨rfl, rfl⟩ (.inl rfl)
  try simp only [zA, zO, zN, zM, zP, zQ, zD, zF, gd] at hb8
  have hf108 : ¬ f = 108 := fun h => hb8 (by rw [h]; rfl)
  refine AC_seq ?_
  refine AC_region ?_
  refine AL_p rfl rfl (S_eql rfl (.tmp rfl) (AEv.const _)) ?_
  refine AL_p rfl rfl (S_assign rfl (.tmp rfl)) ?_
  refine AL_nil ?_
  refine AC_cond (.tmp rfl) (fun hb9 => ?_) (fun hb9 => ?_)
  · try simp only [zA, zO, zN, zM, zP, zQ, zD, zF, gd] at hb9
    obtain rfl : f = 100 := u8_eq hb9
    refine AC_seq ?_
    refine AC_region ?_
    refine AL_p rfl rfl (S_field 14 rfl (.tmp rfl) (by kernel_rfl)) ?_
    refine AL_p rfl rfl (S_load 0 rfl (.tmp rfl) rfl rfl (by kernel_rfl)) ?_
    refine AL_p rfl rfl (S_lenS (ts := #[]) rfl (.tmp rfl) (by kernel_rfl)) ?_
    refine AL_p rfl rfl (S_gtr rfl (.tmp rfl) (AEv.const _)) ?_
    refine AL_nil ?_
    refine AC_cond (.tmp rfl) (fun hb10 => ?_) (fun hb10 => ?_)
    · try simp only [zA, zO, zN, zM, zP, zQ, zD, zF, gd] at hb10
      have hx : fieldE x 100 = some (2, [[100, 97, 116, 97]]) := by rw [field_data, if_pos (by omega)]
      refine AC_seq ?_
      refine AC_region ?_
      refine AL_p rfl rfl (S_buildSlice (e := 9) 1 rfl (AEvs.cons (AEv.S _) AEvs.nil) rfl (by kernel_rfl) (by kernel_rfl) (by intro y hy; simp only [List.mem_cons, List.not_mem_nil, or_false] at hy; rcases hy with rfl <;> exact ⟨rfl, rfl⟩) (by decide) (by decide) (by decide)) ?_
      refine AL_p rfl rfl (S_pcall rfl (AEvs.cons (AEv.const _) (AEvs.cons (.tmp rfl) AEvs.nil)) (fail_New_ok 2 [[100, 97, 116, 97]] (by simp))) ?_
      refine AL_p rfl rfl (S_assign rfl (.tmp rfl)) ?_
      refine AL_nil ?_
      refine AC_ret ?_
      refine ret_tmp st rfl rfl (Sub.l (List.sublist_cons_self _ _)) (Conv.refl (Sub.l (List.sublist_cons_self _ _)) _) ⟨by rw [hx] <;> rfl, rfl⟩ (.inl rfl)
    try simp only [zA, zO, zN, zM, zP, zQ, zD, zF, gd] at hb10
    have hx : fieldE x 100 = none := by rw [field_data, if_neg (by omega)]
    refine AC_skip ?_
    refine AC_seq ?_
    refine AC_region ?_
    refine AL_p rfl rfl (S_assign rfl (AEv.const _)) ?_
    refine AL_nil ?_
    refine AC_ret ?_
    refine ret_tmp st rfl rfl (Sub.l (List.sublist_cons_self _ _)) (Conv.refl (Sub.l (List.sublist_cons_self _ _)) _) ⟨by rw [hx] <;> rfl, rfl⟩ (.inl rfl)
  try simp only [zA, zO, zN, zM, zP, zQ, zD, zF, gd] at hb9
  have hf100 : ¬ f = 100 := fun h => hb9 (by rw [h]; rfl)
  have hx : fieldE x f = none := by unfold fieldE; simp only [hf117, hf115, hf103, hf99, hf105, hf109, hf108, hf100, if_false]
  refine AC_skip ?_
  refine AC_seq ?_
  refine AC_region ?_
  refine AL_p rfl rfl (S_assign rfl (AEv.const _)) ?_
  refine AL_nil ?_
  refine AC_ret ?_
  refine ret_tmp st rfl rfl (Sub.l (List.sublist_cons_self _ _)) (Conv.refl (Sub.l (List.sublist_cons_self _ _)) _) ⟨by rw [hx] <;> rfl, rfl⟩ (.inl rfl)

set_option maxRecDepth 100000 in
/-- provost/ask.copies -/
theorem copies_ok (bt : Nat) (o x : Cal) (f : UInt8) (F : St) : ACalls Tryz.prog 69 [.ptr bt 0, calAV x, .int .u8 (f.toNat : Int)] ([(bt, Ob.cells (calL o))] ++ F) (fun v st' => ∃ foot', (v = .tup [] ∧ foot' = [(bt, Ob.cells (calL (copyA f o x)))]) ∧ st' = foot' ++ F) := by
  refine ACalls_of (N := 70) Tryz.func69 (by kernel_rfl) rfl rfl rfl ?_
  refine AC_seq ?_
  refine AC_region ?_
  refine AL_step rfl rfl (S_box rfl (.tmp rfl)) ?_
  rintro _ _ ⟨b4, rfl, rfl⟩
  refine AL_nil ?_
  refine AC_seq ?_
  refine AC_region ?_
  refine AL_p rfl rfl (S_move rfl (.tmp rfl)) ?_
  refine AL_nil ?_
  refine AC_block ?_
  refine AC_seq ?_
  refine AC_region ?_
  refine AL_p rfl rfl (S_eql rfl (.tmp rfl) (AEv.const _)) ?_
  refine AL_p rfl rfl (S_assign rfl (.tmp rfl)) ?_
  refine AL_nil ?_
  refine AC_cond (.tmp rfl) (fun hb2 => ?_) (fun hb2 => ?_)
  · try simp only [zA, zO, zN, zM, zP, zQ, zD, zF, gd] at hb2
    obtain rfl : f = 117 := u8_eq hb2
    refine AC_region ?_
    refine AL_p rfl rfl (S_move rfl (.tmp rfl)) ?_
    refine AL_p rfl rfl (S_field 1 rfl (.tmp rfl) (by kernel_rfl)) ?_
    refine AL_p rfl rfl (S_load 0 rfl (.tmp rfl) rfl rfl (by kernel_rfl)) ?_
    refine AL_p rfl rfl (S_nilCheck rfl (.tmp rfl)) ?_
    refine AL_p rfl rfl (S_field 1 rfl (.tmp rfl) (by kernel_rfl)) ?_
    refine AL_step rfl rfl (S_store 1 rfl (.tmp rfl) (.tmp rfl) rfl (by first | exact Nat.le_of_ble_eq_true rfl | simp) rfl (by kernel_rfl)) ?_
    rintro _ _ ⟨rfl, rfl⟩
    refine AL_nil ?_
    refine ret_none ([(bt, Ob.cells (calL (copyA 117 o x)))] ++ F) rfl (Sub.l (List.sublist_cons_self _ _)) ⟨_, ⟨rfl, rfl⟩, rfl⟩ (.inr rfl)
  try simp only [zA, zO, zN, zM, zP, zQ, zD, zF, gd] at hb2
  have hf117 : ¬ f = 117 := fun h => hb2 (by rw [h]; rfl)
  refine AC_seq ?_
  refine AC_region ?_
  refine AL_p rfl rfl (S_eql rfl (.tmp rfl) (AEv.const _)) ?_
  refine AL_p rfl rfl (S_assign rfl (.tmp rfl)) ?_
  refine AL_nil ?_
  refine AC_cond (.tmp rfl) (fun hb3 => ?_) (fun hb3 => ?_)
  · try simp only [zA, zO, zN, zM, zP, zQ, zD, zF, gd] at hb3
    obtain rfl : f = 114 := u8_eq hb3
    refine AC_region ?_
    refine AL_p rfl rfl (S_move rfl (.tmp rfl)) ?_
    refine AL_p rfl rfl (S_field 2 rfl (.tmp rfl) (by kernel_rfl)) ?_
    refine AL_p rfl rfl (S_load 0 rfl (.tmp rfl) rfl rfl (by kernel_rfl)) ?_
    refine AL_p rfl rfl (S_nilCheck rfl (.tmp rfl)) ?_
    refine AL_p rfl rfl (S_field 2 rfl (.tmp rfl) (by kernel_rfl)) ?_
    refine AL_step rfl rfl (S_store 1 rfl (.tmp rfl) (.tmp rfl) rfl (by first | exact Nat.le_of_ble_eq_true rfl | simp) rfl (by kernel_rfl)) ?_
    rintro _ _ ⟨rfl, rfl⟩
    refine AL_nil ?_
    refine ret_none ([(bt, Ob.cells (calL (copyA 114 o x)))] ++ F) rfl (Sub.l (List.sublist_cons_self _ _)) ⟨_, ⟨rfl, rfl⟩, rfl⟩ (.inr rfl)
  try simp only [zA, zO, zN, zM, zP, zQ, zD, zF, gd] at hb3
  have hf114 : ¬ f = 114 := fun h => hb3 (by rw [h]; rfl)
  refine AC_seq ?_
  refine AC_region ?_
  refine AL_p rfl rfl (S_eql rfl (.tmp rfl) (AEv.const _)) ?_
  refine AL_p rfl rfl (S_assign rfl (.tmp rfl)) ?_
  refine AL_nil ?_
  refine AC_cond (.tmp rfl) (fun hb4 => ?_) (fun hb4 => ?_)
  · try simp only [zA, zO, zN, zM, zP, zQ, zD, zF, gd] at hb4
    obtain rfl : f = 115 := u8_eq hb4
    refine AC_region ?_
    refine AL_p rfl rfl (S_move rfl (.tmp rfl)) ?_
    refine AL_p rfl rfl (S_field 3 rfl (.tmp rfl) (by kernel_rfl)) ?_
    refine AL_p rfl rfl (S_loadN (m := 7) 0 rfl (.tmp rfl) rfl (by kernel_rfl) (by first | exact Nat.le_of_ble_eq_true rfl | (simp; omega) | simp)) ?_
    refine AL_p rfl rfl (S_nilCheck rfl (.tmp rfl)) ?_
    refine AL_p rfl rfl (S_field 3 rfl (.tmp rfl) (by kernel_rfl)) ?_
    refine AL_step rfl rfl (S_storeN 1 rfl (.tmp rfl) (.tmp rfl) rfl (by first | exact Nat.le_of_ble_eq_true rfl | (simp; omega) | simp) (by first | rfl | simp [AV.one, Value.oneCell']) (by kernel_rfl)) ?_
    rintro _ _ ⟨rfl, rfl⟩
    refine AL_nil ?_
    refine ret_none ([(bt, Ob.cells (calL (copyA 115 o x)))] ++ F) rfl (Sub.l (List.sublist_cons_self _ _)) ⟨_, ⟨rfl, rfl⟩, rfl⟩ (.inr rfl)
  try simp only [zA, zO, zN, zM, zP, zQ, zD, zF, gd] at hb4
  have hf115 : ¬ f = 115 := fun h => hb4 (by rw [h]; rfl)
  refine AC_seq ?_
  refine AC_region ?_
  refine AL_p rfl rfl (S_eql rfl (.tmp rfl) (AEv.const _)) ?_
  refine AL_p rfl rfl (S_assign rfl (.tmp rfl)) ?_
  refine AL_nil ?_
  refine AC_cond (.tmp rfl) (fun hb5 => ?_) (fun hb5 => ?_)
  · try simp only [zA, zO, zN, zM, zP, zQ, zD, zF, gd] at hb5
    obtain rfl : f = 103 := u8_eq hb5
    refine AC_region ?_
    refine AL_p rfl rfl (S_move rfl (.tmp rfl)) ?_
    refine AL_p rfl rfl (S_field 10 rfl (.tmp rfl) (by kernel_rfl)) ?_
    refine AL_p rfl rfl (S_load 0 rfl (.tmp rfl) rfl rfl (by kernel_rfl)) ?_
    refine AL_p rfl rfl (S_nilCheck rfl (.tmp rfl)) ?_
    refine AL_p rfl rfl (S_field 10 rfl (.tmp rfl) (by kernel_rfl)) ?_
    refine AL_step rfl rfl (S_store 1 rfl (.tmp rfl) (.tmp rfl) rfl (by first | exact Nat.le_of_ble_eq_true rfl | simp) rfl (by kernel_rfl)) ?_
    rintro _ _ ⟨rfl, rfl⟩
    refine AL_nil ?_
    refine ret_none ([(bt, Ob.cells (calL (copyA 103 o x)))] ++ F) rfl (Sub.l (List.sublist_cons_self _ _)) ⟨_, ⟨rfl, rfl⟩, rfl⟩ (.inr rfl)
  try simp only [zA, zO, zN, zM, zP, zQ, zD, zF, gd] at hb5
  have hf103 : ¬ f = 103 := fun h => hb5 (by rw [h]; rfl)
  refine AC_seq ?_
  refine AC_region ?_
  refine AL_p rfl rfl (S_eql rfl (.tmp rfl) (AEv.const _)) ?_
  refine AL_p rfl rfl (S_assign rfl (.tmp rfl)) ?_
  refine AL_nil ?_
  refine AC_cond (.tmp rfl) (fun hb6 => ?_) (fun hb6 => ?_)
  · try simp only [zA, zO, zN, zM, zP, zQ, zD, zF, gd] at hb6
    obtain rfl : f = 99 := u8_eq hb6
    refine AC_region ?_
    refine AL_p rfl rfl (S_move rfl (.tmp rfl)) ?_
    refine AL_p rfl rfl (S_field 11 rfl (.tmp rfl) (by kernel_rfl)) ?_
    refine AL_p rfl rfl (S_load 0 rfl (.tmp rfl) rfl rfl (by kernel_rfl)) ?_
    refine AL_p rfl rfl (S_nilCheck rfl (.tmp rfl)) ?_
    refine AL_p rfl rfl (S_field 11 rfl (.tmp rfl) (by kernel_rfl)) ?_
    refine AL_step rfl rfl (S_store 1 rfl (.tmp rfl) (.tmp rfl) rfl (by first | exact Nat.le_of_ble_eq_true rfl | simp) rfl (by kernel_rfl)) ?_
    rintro _ _ ⟨rfl, rfl⟩
    refine AL_nil ?_
    refine ret_none ([(bt, Ob.cells (calL (copyA 99 o x)))] ++ F) rfl (Sub.l (List.sublist_cons_self _ _)) ⟨_, ⟨rfl, rfl⟩, rfl⟩ (.inr rfl)
  try simp only [zA, zO, zN, zM, zP, zQ, zD, zF, gd] at hb6
  have hf99 : ¬ f = 99 := fun h => hb6 (by rw [h]; rfl)
  refine AC_seq ?_
  refine AC_region ?_
  refine AL_p rfl rfl (S_eql rfl (.tmp rfl) (AEv.const _)) ?_
  refine AL_p rfl rfl (S_assign rfl (.tmp rfl)) ?_
  refine AL_nil ?_
  refine AC_cond (.tmp rfl) (fun hb7 => ?_) (fun hb7 => ?_)
  · try simp only [zA, zO, zN, zM, zP, zQ, zD, zF, gd] at hb7
    obtain rfl : f = 105 := u8_eq hb7
    refine AC_region ?_
    refine AL_p rfl rfl (S_move rfl (.tmp rfl)) ?_
    refine AL_p rfl rfl (S_field 12 rfl (.tmp rfl) (by kernel_rfl)) ?_
    refine AL_p rfl rfl (S_load 0 rfl (.tmp rfl) rfl rfl (by kernel_rfl)) ?_
    refine AL_p rfl rfl (S_nilCheck rfl (.tmp rfl)) ?_
    refine AL_p rfl rfl (S_field 12 rfl (.tmp rfl) (by kernel_rfl)) ?_
    refine AL_step rfl rfl (S_store 1 rfl (.tmp rfl) (.tmp rfl) rfl (by first | exact Nat.le_of_ble_eq_true rfl | simp) rfl (by kernel_rfl)) ?_
    rintro _ _ ⟨rfl, rfl⟩
    refine AL_nil ?_
    refine ret_none ([(bt, Ob.cells (calL (copyA 105 o x)))] ++ F) rfl (Sub.l (List.sublist_cons_self _ _)) ⟨_, ⟨rfl, rfl⟩, rfl⟩ (.inr rfl)
  try simp only [zA, zO, zN, zM, zP, zQ, zD, zF, gd] at hb7
  have hf105 : ¬ f = 105 := fun h => hb7 (by rw [h]; rfl)
  refine AC_seq ?_
  refine AC_region ?_
  refine AL_p rfl rfl (S_eql rfl (.tmp rfl) (AEv.const _)) ?_
  refine AL_p rfl rfl (S_assign rfl (.tmp rfl)) ?_
  refine AL_nil ?_
  refine AC_cond (.tmp rfl) (fun hb8 => ?_) (fun hb8 => ?_)
  · try simp only [zA, zO, zN, zM, zP, zQ, zD, zF, gd] at hb8
    obtain rfl : f = 109 := u8_eq hb8
    refine AC_region ?_
    refine AL_p rfl rfl (S_move rfl (.tmp rfl)) ?_
    refine AL_p rfl rfl (S_field 13 rfl (.tmp rfl) (by kernel_rfl)) ?_
    refine AL_p rfl rfl (S_load 0 rfl (.tmp rfl) rfl rfl (by kernel_rfl)) ?_
    refine AL_p rfl rfl (S_nilCheck rfl (.tmp rfl)) ?_
    refine AL_p rfl rfl (S_field 13 rfl (.tmp rfl) (by kernel_rfl)) ?_
    refine AL_step rfl rfl (S_store 1 rfl (.tmp rfl) (.tmp rfl) rfl (by first | exact Nat.le_of_ble_eq_true rfl | simp) rfl (by kernel_rfl)) ?_
    rintro _ _ ⟨rfl, rfl⟩
    refine AL_nil ?_
    refine ret_none ([(bt, Ob.cells (calL (copyA 109 o x)))] ++ F) rfl (Sub.l (List.sublist_cons_self _ _)) ⟨_, ⟨rfl, rfl⟩, rfl⟩ (.inr rfl)
  try simp only [zA, zO, zN, zM, zP, zQ, zD, zF, gd] at hb8
  have hf109 : ¬ f = 109 := fun h => hb8 (by rw [h]; rfl)
  refine AC_seq ?_
  refine AC_region ?_
  refine AL_p rfl rfl (S_eql rfl (.tmp rfl) (AEv.const _)) ?_
  refine AL_p rfl rfl (S_assign rfl (.tmp rfl)) ?_
  refine AL_nil ?_
  refine AC_cond (.tmp rfl) (fun hb9 => ?_) (fun hb9 => ?_)
  · try simp only [zA, zO, zN, zM, zP, zQ, zD, zF, gd] at hb9
    obtain rfl : f = 108 := u8_eq hb9
    refine AC_region ?_
    refine AL_p rfl rfl (S_move rfl (.tmp rfl)) ?_
    refine AL_p rfl rfl (S_field 15 rfl (.tmp rfl) (by kernel_rfl)) ?_
    refine AL_p rfl rfl (S_load 0 rfl (.tmp rfl) rfl rfl (by kernel_rfl)) ?_
    refine AL_p rfl rfl (S_nilCheck rfl (.tmp rfl)) ?_
    refine AL_p rfl rfl (S_field 15 rfl (.tmp rfl) (by kernel_rfl)) ?_
    refine AL_step rfl rfl (S_store 1 rfl (.tmp rfl) (.tmp rfl) rfl (by first | exact Nat.le_of_ble_eq_true rfl | simp) rfl (by kernel_rfl)) ?_
    rintro _ _ ⟨rfl, rfl⟩
    refine AL_nil ?_
    refine ret_none ([(bt, Ob.cells (calL (copyA 108 o x)))] ++ F) rfl (Sub.l (List.sublist_cons_self _ _)) ⟨_, ⟨rfl, rfl⟩, rfl⟩ (.inr rfl)
  try simp only [zA, zO, zN, zM, zP, zQ, zD, zF, gd] at hb9
  have hf108 : ¬ f = 108 := fun h => hb9 (by rw [h]; rfl)
  refine AC_seq ?_
  refine AC_region ?_
  refine AL_p rfl rfl (S_eql rfl (.tmp rfl) (AEv.const _)) ?_
  refine AL_p rfl rfl (S_assign rfl (.tmp rfl)) ?_
  refine AL_nil ?_
  refine AC_cond (.tmp rfl) (fun hb10 => ?_) (fun hb10 => ?_)
  · try simp only [zA, zO, zN, zM, zP, zQ, zD, zF, gd] at hb10
    obtain rfl : f = 100 := u8_eq hb10
    refine AC_region ?_
    refine AL_p rfl rfl (S_move rfl (.tmp rfl)) ?_
    refine AL_p rfl rfl (S_field 14 rfl (.tmp rfl) (by kernel_rfl)) ?_
    refine AL_p rfl rfl (S_load 0 rfl (.tmp rfl) rfl rfl (by kernel_rfl)) ?_
    refine AL_p rfl rfl (S_nilCheck rfl (.tmp rfl)) ?_
    refine AL_p rfl rfl (S_field 14 rfl (.tmp rfl) (by kernel_rfl)) ?_
    refine AL_step rfl rfl (S_store 1 rfl (.tmp rfl) (.tmp rfl) rfl (by first | exact Nat.le_of_ble_eq_true rfl | simp) rfl (by kernel_rfl)) ?_
    rintro _ _ ⟨rfl, rfl⟩
    refine AL_nil ?_
    refine ret_none ([(bt, Ob.cells (calL (copyA 100 o x)))] ++ F) rfl (Sub.l (List.sublist_cons_self _ _)) ⟨_, ⟨rfl, rfl⟩, rfl⟩ (.inr rfl)
  try simp only [zA, zO, zN, zM, zP, zQ, zD, zF, gd] at hb10
  have hf100 : ¬ f = 100 := fun h => hb10 (by rw [h]; rfl)
  have hx : copyA f o x = o := by unfold copyA; simp only [hf117, hf114, hf115, hf103, hf99, hf105, hf109, hf108, hf100, if_false]
  refine AC_skip ?_
  refine ret_none ([(bt, Ob.cells (calL o))] ++ F) rfl (Sub.l (List.sublist_cons_self _ _)) ⟨_, ⟨rfl, by rw [hx]⟩, rfl⟩ (.inr rfl)

end Go.Proofs.YtcbnokpgklmndaaGreatDoor

/-
The walks of Go functions in the logic AL: what each of them answers.
Conditions: those of each theorem.
-/
set_option linter.unusedVariables false
set_option linter.unusedSimpArgs false
namespace Go.Proofs.YtcbnokpgklmndaaGreatDoor
open Go.AL Go.NumSpec

set_option maxRecDepth 100000 in
/-- slices.Equal[[]int,int] -/
theorem slices_EqualI_ok (l m : List (Int)) (hl : l.length ≤ 1000000) (hm : m.length ≤ 1000000) : PCalls Tryz.prog 145 [.sl (intsV l), .sl (intsV m)] (.bool (sameL (fun a b => decide (a = b)) l m)) := by
  intro st
  refine ACalls_of (N := 26) Tryz.func145 (by kernel_rfl) rfl rfl rfl ?_
  refine AC_seq ?_
  refine AC_region ?_
  refine AL_p rfl rfl (S_assign rfl (AEv.const _)) ?_
  refine AL_nil ?_
  refine AC_seq ?_
  refine AC_seq ?_
  refine AC_region ?_
  refine AL_p rfl rfl (S_move rfl (.tmp rfl)) ?_
  refine AL_p rfl rfl (by first | exact S_lenM (e := 3) rfl (.tmp rfl) (by kernel_rfl) | exact S_len (e := 3) rfl (.tmp rfl) (by kernel_rfl)) ?_
  refine AL_p rfl rfl (S_move rfl (.tmp rfl)) ?_
  refine AL_p rfl rfl (by first | exact S_lenM (e := 3) rfl (.tmp rfl) (by kernel_rfl) | exact S_len (e := 3) rfl (.tmp rfl) (by kernel_rfl)) ?_
  refine AL_p rfl rfl (S_neq rfl (.tmp rfl) (.tmp rfl)) ?_
  refine AL_nil ?_
  refine AC_cond (.tmp rfl) (fun hb1 => ?_) (fun hb1 => ?_)
  · try simp only [zA, zO, zN, zM, zP, zQ, zD, zF, gd] at hb1
    have hbad : sameL (fun a b => decide (a = b)) l m = false := sameL_len (by omega)
    refine AC_seq ?_
    refine AC_region ?_
    refine AL_p rfl rfl (S_assign rfl (AEv.const _)) ?_
    refine AL_nil ?_
    refine AC_ret ?_
    refine ret_tmp st rfl rfl (Sub.l (List.Sublist.refl _)) (Conv.refl (Sub.l (List.Sublist.refl _)) _) ⟨by rw [hbad], rfl⟩ (.inl rfl)
  try simp only [zA, zO, zN, zM, zP, zQ, zD, zF, gd] at hb1
  have hlen : l.length = m.length := by omega
  refine AC_skip ?_
  refine AC_seq ?_
  refine AC_seq ?_
  refine AC_region ?_
  refine AL_p rfl rfl (S_move rfl (.tmp rfl)) ?_
  refine AL_p rfl rfl (by first | exact S_lenM (e := 3) rfl (.tmp rfl) (by kernel_rfl) | exact S_len (e := 3) rfl (.tmp rfl) (by kernel_rfl)) ?_
  refine AL_p rfl rfl (S_move rfl (AEv.const _)) ?_
  refine AL_nil ?_
  refine AC_block ?_
  refine AC_loopK (G := Nat) [(0, _), (1, _), (12, _)] (fun i => i ≤ l.length ∧ ∀ j (h1 : j < l.length) (h2 : j < m.length), j < i → (fun a b => decide (a = b)) (l[j]'h1) (m[j]'h2) = true) (fun g => [(13, .int .i64 (g : Int))]) (fun g => st) (fun g => l.length - g) (0) (⟨Nat.zero_le _, fun j _ _ h => absurd h (Nat.not_lt_zero _)⟩) (Sub.l (List.Sublist.refl _)) (.cons rfl (Le.refl _) (.cons rfl (Le.refl _) (.cons rfl (Le.refl _) .nil))) (.cons rfl (by first | exact Le.refl _ | exact Le.nils | exact Le.row _ _ _ _ | exact Le.of_eq (by first | rfl | (simp; done) | (push_cast; rfl) | (simp; omega))) .nil) ?_
  rintro i ⟨hi, hall⟩
  try dsimp only
  simp only [List.cons_append, List.nil_append]
  refine AC_seq ?_
  refine AC_region ?_
  refine AL_p rfl rfl (S_lss rfl (.tmp rfl) (.tmp rfl)) ?_
  refine AL_nil ?_
  refine AC_seq ?_
  refine AC_cond (.tmp rfl) (fun hb2 => ?_) (fun hb2 => ?_)
  · try simp only [zA, zO, zN, zM, zP, zQ, zD, zF, gd] at hb2
    have hil : i < l.length := by omega
    refine AC_skip ?_
    refine AC_seq ?_
    refine AC_block ?_
    refine AC_seq ?_
    refine AC_region ?_
    refine AL_p rfl rfl (S_move rfl (.tmp rfl)) ?_
    refine AL_p rfl rfl (S_assign rfl (.tmp rfl)) ?_
    refine AL_nil ?_
    refine AC_seq ?_
    refine AC_draw (by kernel_rfl) (by kernel_rfl) (.cons rfl (Q_p rfl (S_move rfl (.tmp rfl))) <|
        .cons rfl (Q_p rfl (S_move rfl (.tmp rfl))) <|
        .cons rfl (Q_p rfl (S_elemN (e := 3) 1 rfl (.tmp rfl) (.tmp rfl) (by kernel_rfl) (by kernel_rfl) (by omega) (fun _ => rfl))) <|
        .cons rfl (Q_p rfl (S_loadP rfl (.tmp rfl) rfl (by kernel_rfl))) <|
        .cons rfl (Q_p rfl (S_move rfl (.tmp rfl))) <|
        .cons rfl (Q_p rfl (S_move rfl (.tmp rfl))) <|
        .cons rfl (Q_p rfl (S_elemN (e := 3) 1 rfl (.tmp rfl) (.tmp rfl) (by kernel_rfl) (by kernel_rfl) (by omega) (fun _ => rfl))) <|
        .cons rfl (Q_p rfl (S_loadP rfl (.tmp rfl) rfl (by kernel_rfl))) <|
        .cons rfl (Q_p rfl (S_neq rfl (.tmp rfl) (.tmp rfl))) <|
        .nil) ?_
    refine AC_cond (.tmp rfl) (fun hb3 => ?_) (fun hb3 => ?_)
    · try simp only [zA, zO, zN, zM, zP, zQ, zD, zF, gd] at hb3
      have hbad : sameL (fun a b => decide (a = b)) l m = false := sameL_bad hil (by omega) (by simpa using hb3)
      refine AC_seq ?_
      refine AC_region ?_
      refine AL_p rfl rfl (S_assign rfl (AEv.const _)) ?_
      refine AL_nil ?_
      refine AC_ret ?_
      refine ret_tmp st rfl rfl (Sub.l (List.Sublist.refl _)) (Conv.refl (Sub.l (List.Sublist.refl _)) _) ⟨by rw [hbad], rfl⟩ (.inl rfl)
    try simp only [zA, zO, zN, zM, zP, zQ, zD, zF, gd] at hb3
    have hne : (fun a b => decide (a = b)) (l[i]'hil) (m[i]'(by omega)) = true := by simpa using hb3
    refine AC_skip ?_
    refine AC_region ?_
    refine AL_p rfl rfl (S_addI rfl (.tmp rfl) (AEv.const _) (by omega) (by omega)) ?_
    refine AL_p rfl rfl (S_move rfl (.tmp rfl)) ?_
    refine AL_nil ?_
    refine ⟨i + 1, ⟨by omega, fun j h1 h2 h => ?_⟩, by omega, Sub.l (List.Sublist.refl _), (.cons rfl (by first | exact Le.refl _ | exact Le.nils | exact Le.row _ _ _ _ | exact Le.of_eq (by first | rfl | (simp; done) | (push_cast; rfl) | (simp; omega))) .nil), (.cons rfl (Le.refl _) (.cons rfl (Le.refl _) (.cons rfl (Le.refl _) .nil)))⟩
    rcases Nat.lt_or_ge j i with h' | h'
    · exact hall j h1 h2 h'
    · have : j = i := by omega
      subst this
      exact hne
  try simp only [zA, zO, zN, zM, zP, zQ, zD, zF, gd] at hb2
  have hgood : sameL (fun a b => decide (a = b)) l m = true := sameL_all hlen fun j h1 h2 => hall j h1 h2 (by omega)
  refine AC_exit ?_
  refine AC_seq ?_
  refine AC_region ?_
  refine AL_p rfl rfl (S_assign rfl (AEv.const _)) ?_
  refine AL_nil ?_
  refine AC_ret ?_
  refine ret_tmp st rfl rfl (Sub.l (List.Sublist.refl _)) (Conv.refl (Sub.l (List.Sublist.refl _)) _) ⟨by rw [hgood], rfl⟩ (.inl rfl)

set_option maxRecDepth 100000 in
/-- slices.Equal[[]provost/api.Label,provost/api.Label] -/
theorem slices_EqualL_ok (l m : List (Lab)) (hl : l.length ≤ 1000000) (hm : m.length ≤ 1000000) : PCalls Tryz.prog 102 [.sl (labsV l), .sl (labsV m)] (.bool (sameL (fun a b => decide (a = b)) l m)) := by
  intro st
  refine ACalls_of (N := 26) Tryz.func102 (by kernel_rfl) rfl rfl rfl ?_
  refine AC_seq ?_
  refine AC_region ?_
  refine AL_p rfl rfl (S_assign rfl (AEv.const _)) ?_
  refine AL_nil ?_
  refine AC_seq ?_
  refine AC_seq ?_
  refine AC_region ?_
  refine AL_p rfl rfl (S_move rfl (.tmp rfl)) ?_
  refine AL_p rfl rfl (by first | exact S_lenM (e := 90) rfl (.tmp rfl) (by kernel_rfl) | exact S_len (e := 90) rfl (.tmp rfl) (by kernel_rfl)) ?_
  refine AL_p rfl rfl (S_move rfl (.tmp rfl)) ?_
  refine AL_p rfl rfl (by first | exact S_lenM (e := 90) rfl (.tmp rfl) (by kernel_rfl) | exact S_len (e := 90) rfl (.tmp rfl) (by kernel_rfl)) ?_
  refine AL_p rfl rfl (S_neq rfl (.tmp rfl) (.tmp rfl)) ?_
  refine AL_nil ?_
  refine AC_cond (.tmp rfl) (fun hb1 => ?_) (fun hb1 => ?_)
  · try simp only [zA, zO, zN, zM, zP, zQ, zD, zF, gd] at hb1
    have hbad : sameL (fun a b => decide (a = b)) l m = false := sameL_len (by omega)
    refine AC_seq ?_
    refine AC_region ?_
    refine AL_p rfl rfl (S_assign rfl (AEv.const _)) ?_
    refine AL_nil ?_
    refine AC_ret ?_
    refine ret_tmp st rfl rfl (Sub.l (List.Sublist.refl _)) (Conv.refl (Sub.l (List.Sublist.refl _)) _) ⟨by rw [hbad], rfl⟩ (.inl rfl)
  try simp only [zA, zO, zN, zM, zP, zQ, zD, zF, gd] at hb1
  have hlen : l.length = m.length := by omega
  refine AC_skip ?_
  refine AC_seq ?_
  refine AC_seq ?_
  refine AC_region ?_
  refine AL_p rfl rfl (S_move rfl (.tmp rfl)) ?_
  refine AL_p rfl rfl (by first | exact S_lenM (e := 90) rfl (.tmp rfl) (by kernel_rfl) | exact S_len (e := 90) rfl (.tmp rfl) (by kernel_rfl)) ?_
  refine AL_p rfl rfl (S_move rfl (AEv.const _)) ?_
  refine AL_nil ?_
  refine AC_block ?_
  refine AC_loopK (G := Nat) [(0, _), (1, _), (12, _)] (fun i => i ≤ l.length ∧ ∀ j (h1 : j < l.length) (h2 : j < m.length), j < i → (fun a b => decide (a = b)) (l[j]'h1) (m[j]'h2) = true) (fun g => [(13, .int .i64 (g : Int))]) (fun g => st) (fun g => l.length - g) (0) (⟨Nat.zero_le _, fun j _ _ h => absurd h (Nat.not_lt_zero _)⟩) (Sub.l (List.Sublist.refl _)) (.cons rfl (Le.refl _) (.cons rfl (Le.refl _) (.cons rfl (Le.refl _) .nil))) (.cons rfl (by first | exact Le.refl _ | exact Le.nils | exact Le.row _ _ _ _ | exact Le.of_eq (by first | rfl | (simp; done) | (push_cast; rfl) | (simp; omega))) .nil) ?_
  rintro i ⟨hi, hall⟩
  try dsimp only
  simp only [List.cons_append, List.nil_append]
  refine AC_seq ?_
  refine AC_region ?_
  refine AL_p rfl rfl (S_lss rfl (.tmp rfl) (.tmp rfl)) ?_
  refine AL_nil ?_
  refine AC_seq ?_
  refine AC_cond (.tmp rfl) (fun hb2 => ?_) (fun hb2 => ?_)
  · try simp only [zA, zO, zN, zM, zP, zQ, zD, zF, gd] at hb2
    have hil : i < l.length := by omega
    refine AC_skip ?_
    refine AC_seq ?_
    refine AC_block ?_
    refine AC_seq ?_
    refine AC_region ?_
    refine AL_p rfl rfl (S_move rfl (.tmp rfl)) ?_
    refine AL_p rfl rfl (S_assign rfl (.tmp rfl)) ?_
    refine AL_nil ?_
    refine AC_seq ?_
    refine AC_draw (by kernel_rfl) (by kernel_rfl) (.cons rfl (Q_p rfl (S_move rfl (.tmp rfl))) <|
        .cons rfl (Q_p rfl (S_move rfl (.tmp rfl))) <|
        .cons rfl (Q_p rfl (S_elemN (e := 90) 2 rfl (.tmp rfl) (.tmp rfl) (by kernel_rfl) (by kernel_rfl) (by omega) (fun _ => rfl))) <|
        .cons rfl (Q_p rfl (S_loadPN (m := 2) rfl (.tmp rfl) (by kernel_rfl) (by first | exact Nat.le_of_ble_eq_true rfl | (simp; omega) | simp))) <|
        .cons rfl (Q_p rfl (S_move rfl (.tmp rfl))) <|
        .cons rfl (Q_p rfl (S_move rfl (.tmp rfl))) <|
        .cons rfl (Q_p rfl (S_elemN (e := 90) 2 rfl (.tmp rfl) (.tmp rfl) (by kernel_rfl) (by kernel_rfl) (by omega) (fun _ => rfl))) <|
        .cons rfl (Q_p rfl (S_loadPN (m := 2) rfl (.tmp rfl) (by kernel_rfl) (by first | exact Nat.le_of_ble_eq_true rfl | (simp; omega) | simp))) <|
        .cons rfl (Q_p rfl ((S_neqAgg rfl (.tmp rfl) (.tmp rfl) (by kernel_rfl) (EqAV.struct Tryz.underlying90 (by kernel_rfl) (EqFs.flat (by kernel_rfl) (by kernel_rfl) rfl rfl (EqAV.S (by kernel_rfl)) (EqFs.flat (by kernel_rfl) (by kernel_rfl) rfl rfl (EqAV.S (by kernel_rfl)) EqFs.nil)))).ofV (V' := .bool (!decide ((l[i]'hil) = (m[i]'(by omega))))) (congrArg AV.bool (congrArg Bool.not lab_eqB)))) <|
        .nil) ?_
    refine AC_cond (.tmp rfl) (fun hb3 => ?_) (fun hb3 => ?_)
    · try simp only [zA, zO, zN, zM, zP, zQ, zD, zF, gd] at hb3
      have hbad : sameL (fun a b => decide (a = b)) l m = false := sameL_bad hil (by omega) (by simpa using hb3)
      refine AC_seq ?_
      refine AC_region ?_
      refine AL_p rfl rfl (S_assign rfl (AEv.const _)) ?_
      refine AL_nil ?_
      refine AC_ret ?_
      refine ret_tmp st rfl rfl (Sub.l (List.Sublist.refl _)) (Conv.refl (Sub.l (List.Sublist.refl _)) _) ⟨by rw [hbad], rfl⟩ (.inl rfl)
    try simp only [zA, zO, zN, zM, zP, zQ, zD, zF, gd] at hb3
    have hne : (fun a b => decide (a = b)) (l[i]'hil) (m[i]'(by omega)) = true := by simpa using hb3
    refine AC_skip ?_
    refine AC_region ?_
    refine AL_p rfl rfl (S_addI rfl (.tmp rfl) (AEv.const _) (by omega) (by omega)) ?_
    refine AL_p rfl rfl (S_move rfl (.tmp rfl)) ?_
    refine AL_nil ?_
    refine ⟨i + 1, ⟨by omega, fun j h1 h2 h => ?_⟩, by omega, Sub.l (List.Sublist.refl _), (.cons rfl (by first | exact Le.refl _ | exact Le.nils | exact Le.row _ _ _ _ | exact Le.of_eq (by first | rfl | (simp; done) | (push_cast; rfl) | (simp; omega))) .nil), (.cons rfl (Le.refl _) (.cons rfl (Le.refl _) (.cons rfl (Le.refl _) .nil)))⟩
    rcases Nat.lt_or_ge j i with h' | h'
    · exact hall j h1 h2 h'
    · have : j = i := by omega
      subst this
      exact hne
  try simp only [zA, zO, zN, zM, zP, zQ, zD, zF, gd] at hb2
  have hgood : sameL (fun a b => decide (a = b)) l m = true := sameL_all hlen fun j h1 h2 => hall j h1 h2 (by omega)
  refine AC_exit ?_
  refine AC_seq ?_
  refine AC_region ?_
  refine AL_p rfl rfl (S_assign rfl (AEv.const _)) ?_
  refine AL_nil ?_
  refine AC_ret ?_
  refine ret_tmp st rfl rfl (Sub.l (List.Sublist.refl _)) (Conv.refl (Sub.l (List.Sublist.refl _)) _) ⟨by rw [hgood], rfl⟩ (.inl rfl)

set_option maxRecDepth 100000 in
/-- provost/spec.alike -/
theorem spec_alike_ok (a b : Ctr) (ha : a.ports.length ≤ 1000000) (hb : b.ports.length ≤ 1000000) : PCalls Tryz.prog 130 [ctrAV a, ctrAV b] (.bool (alikeC a b)) := by
  intro st
  refine ACalls_of (N := 38) Tryz.func130 (by kernel_rfl) rfl rfl rfl ?_
  refine AC_seq ?_
  refine AC_region ?_
  refine AL_step rfl rfl (S_box rfl (.tmp rfl)) ?_
  rintro _ _ ⟨b1, rfl, rfl⟩
  refine AL_step rfl rfl (S_box rfl (.tmp rfl)) ?_
  rintro _ _ ⟨b2, rfl, rfl⟩
  refine AL_p rfl rfl (S_assign rfl (AEv.const _)) ?_
  refine AL_nil ?_
  refine AC_seq ?_
  refine AC_region ?_
  refine AL_p rfl rfl (S_field 0 rfl (.tmp rfl) (by kernel_rfl)) ?_
  refine AL_p rfl rfl (S_load 1 rfl (.tmp rfl) rfl rfl (by kernel_rfl)) ?_
  refine AL_p rfl rfl (S_field 0 rfl (.tmp rfl) (by kernel_rfl)) ?_
  refine AL_p rfl rfl (S_load 0 rfl (.tmp rfl) rfl rfl (by kernel_rfl)) ?_
  refine AL_p rfl rfl (S_eqS rfl (.tmp rfl) (.tmp rfl)) ?_
  refine AL_p rfl rfl (S_move rfl (.tmp rfl)) ?_
  refine AL_g rfl rfl (.tmp rfl) rfl (fun hg3 => S_field 2 rfl (.tmp rfl) (by kernel_rfl)) ?_
  refine AL_g rfl rfl (.tmp rfl) rfl (fun hg6 => S_loadN (m := 3) 1 rfl (AEv.cond (.tmp rfl) (by first | assumption | exact gdAnd (by assumption) (by assumption))) rfl (by kernel_rfl) (by first | exact Nat.le_of_ble_eq_true rfl | (simp; omega) | simp)) ?_
  refine AL_g rfl rfl (.tmp rfl) rfl (fun hg9 => S_field 2 rfl (.tmp rfl) (by kernel_rfl)) ?_
  refine AL_g rfl rfl (.tmp rfl) rfl (fun hg12 => S_loadN (m := 3) 0 rfl (AEv.cond (.tmp rfl) (by first | assumption | exact gdAnd (by assumption) (by assumption))) rfl (by kernel_rfl) (by first | exact Nat.le_of_ble_eq_true rfl | (simp; omega) | simp)) ?_
  refine AL_g rfl rfl (.tmp rfl) rfl (fun hg15 => S_eqlAgg rfl (AEv.cond (.tmp rfl) (by first | assumption | exact gdAnd (by assumption) (by assumption))) (AEv.cond (.tmp rfl) (by first | assumption | exact gdAnd (by assumption) (by assumption))) (by kernel_rfl) (EqAV.struct Tryz.underlying109 (by kernel_rfl) (EqFs.flat (by kernel_rfl) (by kernel_rfl) rfl rfl (EqAV.int (k' := .i64) (by kernel_rfl)) (EqFs.flat (by kernel_rfl) (by kernel_rfl) rfl rfl (EqAV.int (k' := .i64) (by kernel_rfl)) (EqFs.flat (by kernel_rfl) (by kernel_rfl) rfl rfl (EqAV.int (k' := .i64) (by kernel_rfl)) EqFs.nil))))) ?_
  refine AL_p rfl rfl (S_and rfl (.tmp rfl) (fun hp18 => (AEv.cond (.tmp rfl) (by first | assumption | exact gdT hp18 | exact gdF hp18 | exact gdAnd (by assumption) (gdT hp18) | exact gdAnd (by assumption) (gdF hp18))))) ?_
  refine AL_p rfl rfl (S_move rfl (.tmp rfl)) ?_
  refine AL_g rfl rfl (.tmp rfl) rfl (fun hg19 => S_field 5 rfl (.tmp rfl) (by kernel_rfl)) ?_
  refine AL_g rfl rfl (.tmp rfl) rfl (fun hg22 => S_loadN (m := 3) 1 rfl (AEv.cond (.tmp rfl) (by first | assumption | exact gdAnd (by assumption) (by assumption))) rfl (by kernel_rfl) (by first | exact Nat.le_of_ble_eq_true rfl | (simp; omega) | simp)) ?_
  refine AL_g rfl rfl (.tmp rfl) rfl (fun hg25 => S_field 5 rfl (.tmp rfl) (by kernel_rfl)) ?_
  refine AL_g rfl rfl (.tmp rfl) rfl (fun hg28 => S_loadN (m := 3) 0 rfl (AEv.cond (.tmp rfl) (by first | assumption | exact gdAnd (by assumption) (by assumption))) rfl (by kernel_rfl) (by first | exact Nat.le_of_ble_eq_true rfl | (simp; omega) | simp)) ?_
  refine AL_g rfl rfl (.tmp rfl) rfl (fun hg31 => S_eqlAgg rfl (AEv.cond (.tmp rfl) (by first | assumption | exact gdAnd (by assumption) (by assumption))) (AEv.cond (.tmp rfl) (by first | assumption | exact gdAnd (by assumption) (by assumption))) (by kernel_rfl) (EqAV.struct Tryz.underlying109 (by kernel_rfl) (EqFs.flat (by kernel_rfl) (by kernel_rfl) rfl rfl (EqAV.int (k' := .i64) (by kernel_rfl)) (EqFs.flat (by kernel_rfl) (by kernel_rfl) rfl rfl (EqAV.int (k' := .i64) (by kernel_rfl)) (EqFs.flat (by kernel_rfl) (by kernel_rfl) rfl rfl (EqAV.int (k' := .i64) (by kernel_rfl)) EqFs.nil))))) ?_
  refine AL_p rfl rfl (S_and rfl (.tmp rfl) (fun hp34 => (AEv.cond (.tmp rfl) (by first | assumption | exact gdT hp34 | exact gdF hp34 | exact gdAnd (by assumption) (gdT hp34) | exact gdAnd (by assumption) (gdF hp34))))) ?_
  refine AL_p rfl rfl (S_move rfl (.tmp rfl)) ?_
  refine AL_g rfl rfl (.tmp rfl) rfl (fun hg35 => S_field 8 rfl (.tmp rfl) (by kernel_rfl)) ?_
  refine AL_g rfl rfl (.tmp rfl) rfl (fun hg38 => S_load 1 rfl (AEv.cond (.tmp rfl) (by first | assumption | exact gdAnd (by assumption) (by assumption))) rfl rfl (by kernel_rfl)) ?_
  refine AL_g rfl rfl (.tmp rfl) rfl (fun hg41 => S_field 8 rfl (.tmp rfl) (by kernel_rfl)) ?_
  refine AL_g rfl rfl (.tmp rfl) rfl (fun hg44 => S_load 0 rfl (AEv.cond (.tmp rfl) (by first | assumption | exact gdAnd (by assumption) (by assumption))) rfl rfl (by kernel_rfl)) ?_
  refine AL_g rfl rfl (.tmp rfl) rfl (fun hg47 => S_pcall rfl (AEvs.cons (AEv.cond (.tmp rfl) (by first | assumption | exact gdAnd (by assumption) (by assumption))) (AEvs.cons (AEv.cond (.tmp rfl) (by first | assumption | exact gdAnd (by assumption) (by assumption))) AEvs.nil)) (slices_EqualI_ok a.ports b.ports ha hb)) ?_
  refine AL_p rfl rfl (S_and rfl (.tmp rfl) (fun hp50 => (AEv.cond (.tmp rfl) (by first | assumption | exact gdT hp50 | exact gdF hp50 | exact gdAnd (by assumption) (gdT hp50) | exact gdAnd (by assumption) (gdF hp50))))) ?_
  refine AL_p rfl rfl (S_move rfl (.tmp rfl)) ?_
  refine AL_g rfl rfl (.tmp rfl) rfl (fun hg51 => S_field 9 rfl (.tmp rfl) (by kernel_rfl)) ?_
  refine AL_g rfl rfl (.tmp rfl) rfl (fun hg54 => S_loadN (m := 2) 1 rfl (AEv.cond (.tmp rfl) (by first | assumption | exact gdAnd (by assumption) (by assumption))) rfl (by kernel_rfl) (by first | exact Nat.le_of_ble_eq_true rfl | (simp; omega) | simp)) ?_
  refine AL_g rfl rfl (.tmp rfl) rfl (fun hg57 => S_field 9 rfl (.tmp rfl) (by kernel_rfl)) ?_
  refine AL_g rfl rfl (.tmp rfl) rfl (fun hg60 => S_loadN (m := 2) 0 rfl (AEv.cond (.tmp rfl) (by first | assumption | exact gdAnd (by assumption) (by assumption))) rfl (by kernel_rfl) (by first | exact Nat.le_of_ble_eq_true rfl | (simp; omega) | simp)) ?_
  refine AL_g rfl rfl (.tmp rfl) rfl (fun hg63 => S_eqlAgg rfl (AEv.cond (.tmp rfl) (by first | assumption | exact gdAnd (by assumption) (by assumption))) (AEv.cond (.tmp rfl) (by first | assumption | exact gdAnd (by assumption) (by assumption))) (by kernel_rfl) (EqAV.struct Tryz.underlying112 (by kernel_rfl) (EqFs.flat (by kernel_rfl) (by kernel_rfl) rfl rfl (EqAV.int (k' := .i64) (by kernel_rfl)) (EqFs.flat (by kernel_rfl) (by kernel_rfl) rfl rfl (EqAV.int (k' := .i64) (by kernel_rfl)) EqFs.nil)))) ?_
  refine AL_p rfl rfl (S_and rfl (.tmp rfl) (fun hp66 => (AEv.cond (.tmp rfl) (by first | assumption | exact gdT hp66 | exact gdF hp66 | exact gdAnd (by assumption) (gdT hp66) | exact gdAnd (by assumption) (gdF hp66))))) ?_
  refine AL_p rfl rfl (S_assign rfl (.tmp rfl)) ?_
  refine AL_nil ?_
  refine AC_ret ?_
  refine ret_tmp st rfl rfl (Sub.l (List.Sublist.cons _ (List.Sublist.cons _ (List.Sublist.refl _)))) (Conv.refl (Sub.l (List.Sublist.cons _ (List.Sublist.cons _ (List.Sublist.refl _)))) _) ⟨congrArg AV.bool (by rw [res_eqB, res_eqB, probe_eqB, sameL_eq]; simp only [alikeC, Bool.and_assoc]), rfl⟩ (.inl rfl)

set_option maxRecDepth 100000 in
/-- provost/spec.exact -/
theorem spec_exact_ok (a b : Ctr) (ha : a.ports.length ≤ 1000000) (hb : b.ports.length ≤ 1000000) : PCalls Tryz.prog 104 [ctrAV a, ctrAV b] (.bool (exactC a b)) := by
  intro st
  refine ACalls_of (N := 15) Tryz.func104 (by kernel_rfl) rfl rfl rfl ?_
  refine AC_seq ?_
  refine AC_region ?_
  refine AL_step rfl rfl (S_box rfl (.tmp rfl)) ?_
  rintro _ _ ⟨b1, rfl, rfl⟩
  refine AL_step rfl rfl (S_box rfl (.tmp rfl)) ?_
  rintro _ _ ⟨b2, rfl, rfl⟩
  refine AL_p rfl rfl (S_assign rfl (AEv.const _)) ?_
  refine AL_nil ?_
  refine AC_seq ?_
  refine AC_region ?_
  refine AL_p rfl rfl (S_loadN (m := 11) 1 rfl (.tmp rfl) rfl (by kernel_rfl) (by first | exact Nat.le_of_ble_eq_true rfl | (simp; omega) | simp)) ?_
  refine AL_p rfl rfl (S_loadN (m := 11) 0 rfl (.tmp rfl) rfl (by kernel_rfl) (by first | exact Nat.le_of_ble_eq_true rfl | (simp; omega) | simp)) ?_
  refine AL_p rfl rfl (S_pcall rfl (AEvs.cons (y := ctrAV a) (.tmp rfl) (AEvs.cons (y := ctrAV b) (.tmp rfl) AEvs.nil)) (spec_alike_ok a b ha hb)) ?_
  refine AL_p rfl rfl (S_move rfl (.tmp rfl)) ?_
  refine AL_g rfl rfl (.tmp rfl) rfl (fun hg3 => S_field 1 rfl (.tmp rfl) (by kernel_rfl)) ?_
  refine AL_g rfl rfl (.tmp rfl) rfl (fun hg6 => S_load 1 rfl (AEv.cond (.tmp rfl) (by first | assumption | exact gdAnd (by assumption) (by assumption))) rfl rfl (by kernel_rfl)) ?_
  refine AL_g rfl rfl (.tmp rfl) rfl (fun hg9 => S_field 1 rfl (.tmp rfl) (by kernel_rfl)) ?_
  refine AL_g rfl rfl (.tmp rfl) rfl (fun hg12 => S_load 0 rfl (AEv.cond (.tmp rfl) (by first | assumption | exact gdAnd (by assumption) (by assumption))) rfl rfl (by kernel_rfl)) ?_
  refine AL_g rfl rfl (.tmp rfl) rfl (fun hg15 => S_eqS rfl (AEv.cond (.tmp rfl) (by first | assumption | exact gdAnd (by assumption) (by assumption))) (AEv.cond (.tmp rfl) (by first | assumption | exact gdAnd (by assumption) (by assumption)))) ?_
  refine AL_p rfl rfl (S_and rfl (.tmp rfl) (fun hp18 => (AEv.cond (.tmp rfl) (by first | assumption | exact gdT hp18 | exact gdF hp18 | exact gdAnd (by assumption) (gdT hp18) | exact gdAnd (by assumption) (gdF hp18))))) ?_
  refine AL_p rfl rfl (S_assign rfl (.tmp rfl)) ?_
  refine AL_nil ?_
  refine AC_ret ?_
  refine ret_tmp st rfl rfl (Sub.l (List.Sublist.cons _ (List.Sublist.cons _ (List.Sublist.refl _)))) (Conv.refl (Sub.l (List.Sublist.cons _ (List.Sublist.cons _ (List.Sublist.refl _)))) _) ⟨rfl, rfl⟩ (.inl rfl)

set_option maxRecDepth 100000 in
/-- slices.EqualFunc[[]provost/api.Container,[]provost/api.Container,provost/api.Container,provost/api.Container] -/
theorem slices_EqualFunc_ok (l m : List Ctr) (hl : l.length ≤ 1000000) (hm : m.length ≤ 1000000) (hlp : ∀ c ∈ l, c.ports.length ≤ 1000000) (hmp : ∀ c ∈ m, c.ports.length ≤ 1000000) : PCalls Tryz.prog 129 [.sl (ctrsV l), .sl (ctrsV m), .fn 104 []] (.bool (sameL exactC l m)) := by
  intro st
  refine ACalls_of (N := 32) Tryz.func129 (by kernel_rfl) rfl rfl rfl ?_
  refine AC_seq ?_
  refine AC_region ?_
  refine AL_p rfl rfl (S_assign rfl (AEv.const _)) ?_
  refine AL_nil ?_
  refine AC_seq ?_
  refine AC_seq ?_
  refine AC_region ?_
  refine AL_p rfl rfl (S_move rfl (.tmp rfl)) ?_
  refine AL_p rfl rfl (by first | exact S_lenM (e := 114) rfl (.tmp rfl) (by kernel_rfl) | exact S_len (e := 114) rfl (.tmp rfl) (by kernel_rfl)) ?_
  refine AL_p rfl rfl (S_move rfl (.tmp rfl)) ?_
  refine AL_p rfl rfl (by first | exact S_lenM (e := 114) rfl (.tmp rfl) (by kernel_rfl) | exact S_len (e := 114) rfl (.tmp rfl) (by kernel_rfl)) ?_
  refine AL_p rfl rfl (S_neq rfl (.tmp rfl) (.tmp rfl)) ?_
  refine AL_nil ?_
  refine AC_cond (.tmp rfl) (fun hb1 => ?_) (fun hb1 => ?_)
  · try simp only [zA, zO, zN, zM, zP, zQ, zD, zF, gd] at hb1
    have hbad : sameL exactC l m = false := sameL_len (by omega)
    refine AC_seq ?_
    refine AC_region ?_
    refine AL_p rfl rfl (S_assign rfl (AEv.const _)) ?_
    refine AL_nil ?_
    refine AC_ret ?_
    refine ret_tmp st rfl rfl (Sub.l (List.Sublist.refl _)) (Conv.refl (Sub.l (List.Sublist.refl _)) _) ⟨by rw [hbad], rfl⟩ (.inl rfl)
  try simp only [zA, zO, zN, zM, zP, zQ, zD, zF, gd] at hb1
  have hlen : l.length = m.length := by omega
  refine AC_skip ?_
  refine AC_seq ?_
  refine AC_seq ?_
  refine AC_region ?_
  refine AL_p rfl rfl (S_move rfl (.tmp rfl)) ?_
  refine AL_p rfl rfl (by first | exact S_lenM (e := 114) rfl (.tmp rfl) (by kernel_rfl) | exact S_len (e := 114) rfl (.tmp rfl) (by kernel_rfl)) ?_
  refine AL_p rfl rfl (S_move rfl (AEv.const _)) ?_
  refine AL_nil ?_
  refine AC_block ?_
  refine AC_loopK (G := Nat) [(1, _), (2, _), (15, _), (16, _)] (fun i => i ≤ l.length ∧ ∀ j (h1 : j < l.length) (h2 : j < m.length), j < i → exactC (l[j]'h1) (m[j]'h2) = true) (fun g => [(17, .int .i64 (g : Int))]) (fun g => st) (fun g => l.length - g) (0) (⟨Nat.zero_le _, fun j _ _ h => absurd h (Nat.not_lt_zero _)⟩) (Sub.l (List.Sublist.refl _)) (.cons rfl (Le.refl _) (.cons rfl (Le.refl _) (.cons rfl (Le.refl _) (.cons rfl (Le.refl _) .nil)))) (.cons rfl (by first | exact Le.refl _ | exact Le.nils | exact Le.row _ _ _ _ | exact Le.of_eq (by first | rfl | (simp; done) | (push_cast; rfl) | (simp; omega))) .nil) ?_
  rintro i ⟨hi, hall⟩
  try dsimp only
  simp only [List.cons_append, List.nil_append]
  refine AC_seq ?_
  refine AC_region ?_
  refine AL_p rfl rfl (S_lss rfl (.tmp rfl) (.tmp rfl)) ?_
  refine AL_nil ?_
  refine AC_seq ?_
  refine AC_cond (.tmp rfl) (fun hb2 => ?_) (fun hb2 => ?_)
  · try simp only [zA, zO, zN, zM, zP, zQ, zD, zF, gd] at hb2
    have hil : i < l.length := by omega
    have him : i < m.length := by omega
    refine AC_skip ?_
    refine AC_seq ?_
    refine AC_block ?_
    refine AC_seq ?_
    refine AC_region ?_
    refine AL_p rfl rfl (S_move rfl (.tmp rfl)) ?_
    refine AL_p rfl rfl (S_elemN (e := 114) 11 rfl (.tmp rfl) (.tmp rfl) (by kernel_rfl) (by kernel_rfl) (by omega) (fun _ => rfl)) ?_
    refine AL_p rfl rfl (S_loadPN (m := 11) rfl (.tmp rfl) (by kernel_rfl) (by first | exact Nat.le_of_ble_eq_true rfl | (simp; omega) | simp)) ?_
    refine AL_step rfl rfl (S_alloc [.string ⟨#[]⟩, .string ⟨#[]⟩, .int .i64 0, .int .i64 0, .int .i64 0, .int .i64 0, .int .i64 0, .int .i64 0, .slice none 0 0, .int .i64 0, .int .i64 0] rfl (by kernel_rfl)) ?_
    rintro _ _ ⟨b8, rfl, rfl⟩
    refine AL_p rfl rfl (S_assign rfl (.tmp rfl)) ?_
    refine AL_step rfl rfl (S_storeW 0 rfl (.tmp rfl) (.tmp rfl) rfl rfl rfl (by kernel_rfl)) ?_
    rintro _ _ ⟨rfl, rfl⟩
    refine AL_nil ?_
    refine AC_seq ?_
    refine AC_region ?_
    refine AL_p rfl rfl (S_move rfl (.tmp rfl)) ?_
    refine AL_p rfl rfl (S_move rfl (.tmp rfl)) ?_
    refine AL_p rfl rfl (S_elemN (e := 114) 11 rfl (.tmp rfl) (.tmp rfl) (by kernel_rfl) (by kernel_rfl) (by omega) (fun _ => rfl)) ?_
    refine AL_p rfl rfl (S_loadPN (m := 11) rfl (.tmp rfl) (by kernel_rfl) (by first | exact Nat.le_of_ble_eq_true rfl | (simp; omega) | simp)) ?_
    refine AL_step rfl rfl (S_alloc [.string ⟨#[]⟩, .string ⟨#[]⟩, .int .i64 0, .int .i64 0, .int .i64 0, .int .i64 0, .int .i64 0, .int .i64 0, .slice none 0 0, .int .i64 0, .int .i64 0] rfl (by kernel_rfl)) ?_
    rintro _ _ ⟨b9, rfl, rfl⟩
    refine AL_step rfl rfl (S_storeW 0 rfl (.tmp rfl) (.tmp rfl) rfl rfl rfl (by kernel_rfl)) ?_
    rintro _ _ ⟨rfl, rfl⟩
    refine AL_nil ?_
    refine AC_seq ?_
    refine AC_region ?_
    refine AL_p rfl rfl (S_move rfl (.tmp rfl)) ?_
    refine AL_p rfl rfl (S_loadN (m := 11) 1 rfl (.tmp rfl) rfl (by kernel_rfl) (by first | exact Nat.le_of_ble_eq_true rfl | (simp; omega) | simp)) ?_
    refine AL_p rfl rfl (S_loadN (m := 11) 0 rfl (.tmp rfl) rfl (by kernel_rfl) (by first | exact Nat.le_of_ble_eq_true rfl | (simp; omega) | simp)) ?_
    refine AL_step rfl rfl (S_callF (caps := []) rfl (.tmp rfl) (AEvs.cons (y := ctrAV (l[i]'hil)) (.tmp rfl) (AEvs.cons (y := ctrAV (m[i]'him)) (.tmp rfl) AEvs.nil)) (spec_exact_ok (l[i]'hil) (m[i]'him) (hlp _ (List.getElem_mem _)) (hmp _ (List.getElem_mem _)) _)) ?_
    rintro _ _ ⟨rfl, rfl⟩
    refine AL_p rfl rfl (S_not rfl (.tmp rfl)) ?_
    refine AL_nil ?_
    refine AC_cond (.tmp rfl) (fun hb5 => ?_) (fun hb5 => ?_)
    · try simp only [zA, zO, zN, zM, zP, zQ, zD, zF, gd] at hb5
      have hbad : sameL exactC l m = false := sameL_bad hil him hb5
      refine AC_seq ?_
      refine AC_region ?_
      refine AL_p rfl rfl (S_assign rfl (AEv.const _)) ?_
      refine AL_nil ?_
      refine AC_ret ?_
      refine ret_tmp st rfl rfl (Sub.l (List.Sublist.cons _ (List.Sublist.cons _ (List.Sublist.refl _)))) (Conv.refl (Sub.l (List.Sublist.cons _ (List.Sublist.cons _ (List.Sublist.refl _)))) _) ⟨by rw [hbad], rfl⟩ (.inl rfl)
    try simp only [zA, zO, zN, zM, zP, zQ, zD, zF, gd] at hb5
    have hne : exactC (l[i]'hil) (m[i]'him) = true := hb5
    refine AC_skip ?_
    refine AC_region ?_
    refine AL_p rfl rfl (S_addI rfl (.tmp rfl) (AEv.const _) (by omega) (by omega)) ?_
    refine AL_p rfl rfl (S_move rfl (.tmp rfl)) ?_
    refine AL_nil ?_
    refine ⟨i + 1, ⟨by omega, fun j h1 h2 h => ?_⟩, by omega, (Sub.l (List.Sublist.cons _ (List.Sublist.cons _ (List.Sublist.refl _)))), (.cons rfl (by first | exact Le.refl _ | exact Le.nils | exact Le.row _ _ _ _ | exact Le.of_eq (by first | rfl | (simp; done) | (push_cast; rfl) | (simp; omega))) .nil), (.cons rfl (Le.refl _) (.cons rfl (Le.refl _) (.cons rfl (Le.refl _) (.cons rfl (Le.refl _) .nil))))⟩
    rcases Nat.lt_or_ge j i with h' | h'
    · exact hall j h1 h2 h'
    · have : j = i := by omega
      subst this
      exact hne
  try simp only [zA, zO, zN, zM, zP, zQ, zD, zF, gd] at hb2
  have hgood : sameL exactC l m = true := sameL_all hlen fun j h1 h2 => hall j h1 h2 (by omega)
  refine AC_exit ?_
  refine AC_seq ?_
  refine AC_region ?_
  refine AL_p rfl rfl (S_assign rfl (AEv.const _)) ?_
  refine AL_nil ?_
  refine AC_ret ?_
  refine ret_tmp st rfl rfl (Sub.l (List.Sublist.refl _)) (Conv.refl (Sub.l (List.Sublist.refl _)) _) ⟨by rw [hgood], rfl⟩ (.inl rfl)

set_option maxRecDepth 100000 in
/-- provost/spec.each[provost/api.Container] -/
theorem spec_each_ok (l m : List Ctr) (hl : l.length ≤ 1000000) (hm : m.length ≤ 1000000) (hlp : ∀ c ∈ l, c.ports.length ≤ 1000000) (hmp : ∀ c ∈ m, c.ports.length ≤ 1000000) : PCalls Tryz.prog 103 [.sl (ctrsV l), .sl (ctrsV m), .fn 104 []] (.bool (sameL exactC l m)) := by
  intro st
  refine ACalls_of (N := 11) Tryz.func103 (by kernel_rfl) rfl rfl rfl ?_
  refine AC_seq ?_
  refine AC_region ?_
  refine AL_p rfl rfl (S_assign rfl (AEv.const _)) ?_
  refine AL_nil ?_
  refine AC_seq ?_
  refine AC_region ?_
  refine AL_p rfl rfl (S_move rfl (.tmp rfl)) ?_
  refine AL_p rfl rfl (S_move rfl (.tmp rfl)) ?_
  refine AL_p rfl rfl (S_move rfl (.tmp rfl)) ?_
  refine AL_p rfl rfl (S_pcall rfl (AEvs.cons (.tmp rfl) (AEvs.cons (.tmp rfl) (AEvs.cons (.tmp rfl) AEvs.nil))) (slices_EqualFunc_ok _ _ (by omega) (by omega) (by assumption) (by assumption))) ?_
  refine AL_p rfl rfl (S_assign rfl (.tmp rfl)) ?_
  refine AL_nil ?_
  refine AC_ret ?_
  refine ret_tmp st rfl rfl (Sub.l (List.Sublist.refl _)) (Conv.refl (Sub.l (List.Sublist.refl _)) _) ⟨rfl, rfl⟩ (.inl rfl)

set_option maxRecDepth 100000 in
/-- provost/spec.Same -/
theorem spec_Same_ok (a b : Spc) (ha : shortS a) (hb : shortS b) : PCalls Tryz.prog 70 [spcAV a, spcAV b] (.bool (sameS a b)) := by
  intro st
  refine ACalls_of (N := 52) Tryz.func70 (by kernel_rfl) rfl rfl rfl ?_
  obtain ⟨a1, a2, a3, a4, a5⟩ := ha
  obtain ⟨b1', b2', b3', b4', b5'⟩ := hb
  refine AC_seq ?_
  refine AC_region ?_
  refine AL_step rfl rfl (S_box rfl (.tmp rfl)) ?_
  rintro _ _ ⟨b1, rfl, rfl⟩
  refine AL_step rfl rfl (S_box rfl (.tmp rfl)) ?_
  rintro _ _ ⟨b2, rfl, rfl⟩
  refine AL_p rfl rfl (S_assign rfl (AEv.const _)) ?_
  refine AL_nil ?_
  refine AC_seq ?_
  refine AC_region ?_
  refine AL_p rfl rfl (S_field 0 rfl (.tmp rfl) (by kernel_rfl)) ?_
  refine AL_p rfl rfl (S_load 1 rfl (.tmp rfl) rfl rfl (by kernel_rfl)) ?_
  refine AL_p rfl rfl (S_field 0 rfl (.tmp rfl) (by kernel_rfl)) ?_
  refine AL_p rfl rfl (S_load 0 rfl (.tmp rfl) rfl rfl (by kernel_rfl)) ?_
  refine AL_p rfl rfl (S_eqS rfl (.tmp rfl) (.tmp rfl)) ?_
  refine AL_p rfl rfl (S_move rfl (.tmp rfl)) ?_
  refine AL_g rfl rfl (.tmp rfl) rfl (fun hg3 => S_field 1 rfl (.tmp rfl) (by kernel_rfl)) ?_
  refine AL_g rfl rfl (.tmp rfl) rfl (fun hg6 => S_load 1 rfl (AEv.cond (.tmp rfl) (by first | assumption | exact gdAnd (by assumption) (by assumption))) rfl rfl (by kernel_rfl)) ?_
  refine AL_g rfl rfl (.tmp rfl) rfl (fun hg9 => S_field 1 rfl (.tmp rfl) (by kernel_rfl)) ?_
  refine AL_g rfl rfl (.tmp rfl) rfl (fun hg12 => S_load 0 rfl (AEv.cond (.tmp rfl) (by first | assumption | exact gdAnd (by assumption) (by assumption))) rfl rfl (by kernel_rfl)) ?_
  refine AL_g rfl rfl (.tmp rfl) rfl (fun hg15 => S_pcall rfl (AEvs.cons (AEv.cond (.tmp rfl) (by first | assumption | exact gdAnd (by assumption) (by assumption))) (AEvs.cons (AEv.cond (.tmp rfl) (by first | assumption | exact gdAnd (by assumption) (by assumption))) AEvs.nil)) (slices_EqualL_ok a.labels b.labels a1 b1')) ?_
  refine AL_p rfl rfl (S_and rfl (.tmp rfl) (fun hp18 => (AEv.cond (.tmp rfl) (by first | assumption | exact gdT hp18 | exact gdF hp18 | exact gdAnd (by assumption) (gdT hp18) | exact gdAnd (by assumption) (gdF hp18))))) ?_
  refine AL_p rfl rfl (S_move rfl (.tmp rfl)) ?_
  refine AL_g rfl rfl (.tmp rfl) rfl (fun hg19 => S_field 2 rfl (.tmp rfl) (by kernel_rfl)) ?_
  refine AL_g rfl rfl (.tmp rfl) rfl (fun hg22 => S_load 1 rfl (AEv.cond (.tmp rfl) (by first | assumption | exact gdAnd (by assumption) (by assumption))) rfl rfl (by kernel_rfl)) ?_
  refine AL_g rfl rfl (.tmp rfl) rfl (fun hg25 => S_field 2 rfl (.tmp rfl) (by kernel_rfl)) ?_
  refine AL_g rfl rfl (.tmp rfl) rfl (fun hg28 => S_load 0 rfl (AEv.cond (.tmp rfl) (by first | assumption | exact gdAnd (by assumption) (by assumption))) rfl rfl (by kernel_rfl)) ?_
  refine AL_g rfl rfl (.tmp rfl) rfl (fun hg31 => S_pcall rfl (AEvs.cons (AEv.cond (.tmp rfl) (by first | assumption | exact gdAnd (by assumption) (by assumption))) (AEvs.cons (AEv.cond (.tmp rfl) (by first | assumption | exact gdAnd (by assumption) (by assumption))) (AEvs.cons (AEv.func _) AEvs.nil))) (spec_each_ok a.init b.init a2 b2' a4 b4')) ?_
  refine AL_p rfl rfl (S_and rfl (.tmp rfl) (fun hp34 => (AEv.cond (.tmp rfl) (by first | assumption | exact gdT hp34 | exact gdF hp34 | exact gdAnd (by assumption) (gdT hp34) | exact gdAnd (by assumption) (gdF hp34))))) ?_
  refine AL_p rfl rfl (S_move rfl (.tmp rfl)) ?_
  refine AL_g rfl rfl (.tmp rfl) rfl (fun hg35 => S_field 3 rfl (.tmp rfl) (by kernel_rfl)) ?_
  refine AL_g rfl rfl (.tmp rfl) rfl (fun hg38 => S_load 1 rfl (AEv.cond (.tmp rfl) (by first | assumption | exact gdAnd (by assumption) (by assumption))) rfl rfl (by kernel_rfl)) ?_
  refine AL_g rfl rfl (.tmp rfl) rfl (fun hg41 => S_field 3 rfl (.tmp rfl) (by kernel_rfl)) ?_
  refine AL_g rfl rfl (.tmp rfl) rfl (fun hg44 => S_load 0 rfl (AEv.cond (.tmp rfl) (by first | assumption | exact gdAnd (by assumption) (by assumption))) rfl rfl (by kernel_rfl)) ?_
  refine AL_g rfl rfl (.tmp rfl) rfl (fun hg47 => S_pcall rfl (AEvs.cons (AEv.cond (.tmp rfl) (by first | assumption | exact gdAnd (by assumption) (by assumption))) (AEvs.cons (AEv.cond (.tmp rfl) (by first | assumption | exact gdAnd (by assumption) (by assumption))) (AEvs.cons (AEv.func _) AEvs.nil))) (spec_each_ok a.main b.main a3 b3' a5 b5')) ?_
  refine AL_p rfl rfl (S_and rfl (.tmp rfl) (fun hp50 => (AEv.cond (.tmp rfl) (by first | assumption | exact gdT hp50 | exact gdF hp50 | exact gdAnd (by assumption) (gdT hp50) | exact gdAnd (by assumption) (gdF hp50))))) ?_
  refine AL_p rfl rfl (S_move rfl (.tmp rfl)) ?_
  refine AL_g rfl rfl (.tmp rfl) rfl (fun hg51 => S_field 4 rfl (.tmp rfl) (by kernel_rfl)) ?_
  refine AL_g rfl rfl (.tmp rfl) rfl (fun hg54 => S_load 1 rfl (AEv.cond (.tmp rfl) (by first | assumption | exact gdAnd (by assumption) (by assumption))) rfl rfl (by kernel_rfl)) ?_
  refine AL_g rfl rfl (.tmp rfl) rfl (fun hg57 => S_field 4 rfl (.tmp rfl) (by kernel_rfl)) ?_
  refine AL_g rfl rfl (.tmp rfl) rfl (fun hg60 => S_load 0 rfl (AEv.cond (.tmp rfl) (by first | assumption | exact gdAnd (by assumption) (by assumption))) rfl rfl (by kernel_rfl)) ?_
  refine AL_g rfl rfl (.tmp rfl) rfl (fun hg63 => S_eql rfl (AEv.cond (.tmp rfl) (by first | assumption | exact gdAnd (by assumption) (by assumption))) (AEv.cond (.tmp rfl) (by first | assumption | exact gdAnd (by assumption) (by assumption)))) ?_
  refine AL_p rfl rfl (S_and rfl (.tmp rfl) (fun hp66 => (AEv.cond (.tmp rfl) (by first | assumption | exact gdT hp66 | exact gdF hp66 | exact gdAnd (by assumption) (gdT hp66) | exact gdAnd (by assumption) (gdF hp66))))) ?_
  refine AL_p rfl rfl (S_move rfl (.tmp rfl)) ?_
  refine AL_g rfl rfl (.tmp rfl) rfl (fun hg67 => S_field 5 rfl (.tmp rfl) (by kernel_rfl)) ?_
  refine AL_g rfl rfl (.tmp rfl) rfl (fun hg70 => S_load 1 rfl (AEv.cond (.tmp rfl) (by first | assumption | exact gdAnd (by assumption) (by assumption))) rfl rfl (by kernel_rfl)) ?_
  refine AL_g rfl rfl (.tmp rfl) rfl (fun hg73 => S_field 5 rfl (.tmp rfl) (by kernel_rfl)) ?_
  refine AL_g rfl rfl (.tmp rfl) rfl (fun hg76 => S_load 0 rfl (AEv.cond (.tmp rfl) (by first | assumption | exact gdAnd (by assumption) (by assumption))) rfl rfl (by kernel_rfl)) ?_
  refine AL_g rfl rfl (.tmp rfl) rfl (fun hg79 => S_eql rfl (AEv.cond (.tmp rfl) (by first | assumption | exact gdAnd (by assumption) (by assumption))) (AEv.cond (.tmp rfl) (by first | assumption | exact gdAnd (by assumption) (by assumption)))) ?_
  refine AL_p rfl rfl (S_and rfl (.tmp rfl) (fun hp82 => (AEv.cond (.tmp rfl) (by first | assumption | exact gdT hp82 | exact gdF hp82 | exact gdAnd (by assumption) (gdT hp82) | exact gdAnd (by assumption) (gdF hp82))))) ?_
  refine AL_p rfl rfl (S_move rfl (.tmp rfl)) ?_
  refine AL_g rfl rfl (.tmp rfl) rfl (fun hg83 => S_field 6 rfl (.tmp rfl) (by kernel_rfl)) ?_
  refine AL_g rfl rfl (.tmp rfl) rfl (fun hg86 => S_load 1 rfl (AEv.cond (.tmp rfl) (by first | assumption | exact gdAnd (by assumption) (by assumption))) rfl rfl (by kernel_rfl)) ?_
  refine AL_g rfl rfl (.tmp rfl) rfl (fun hg89 => S_field 6 rfl (.tmp rfl) (by kernel_rfl)) ?_
  refine AL_g rfl rfl (.tmp rfl) rfl (fun hg92 => S_load 0 rfl (AEv.cond (.tmp rfl) (by first | assumption | exact gdAnd (by assumption) (by assumption))) rfl rfl (by kernel_rfl)) ?_
  refine AL_g rfl rfl (.tmp rfl) rfl (fun hg95 => S_eql rfl (AEv.cond (.tmp rfl) (by first | assumption | exact gdAnd (by assumption) (by assumption))) (AEv.cond (.tmp rfl) (by first | assumption | exact gdAnd (by assumption) (by assumption)))) ?_
  refine AL_p rfl rfl (S_and rfl (.tmp rfl) (fun hp98 => (AEv.cond (.tmp rfl) (by first | assumption | exact gdT hp98 | exact gdF hp98 | exact gdAnd (by assumption) (gdT hp98) | exact gdAnd (by assumption) (gdF hp98))))) ?_
  refine AL_p rfl rfl (S_assign rfl (.tmp rfl)) ?_
  refine AL_nil ?_
  refine AC_ret ?_
  refine ret_tmp st rfl rfl (Sub.l (List.Sublist.cons _ (List.Sublist.cons _ (List.Sublist.refl _)))) (Conv.refl (Sub.l (List.Sublist.cons _ (List.Sublist.cons _ (List.Sublist.refl _)))) _) ⟨congrArg AV.bool (by rw [sameL_eq]; rfl), rfl⟩ (.inl rfl)

set_option maxRecDepth 100000 in
/-- provost/ask.clean -/
theorem ask_clean_ok (x : Cal) (k : Nat) (hx0 : ShortA x) : PCalls Tryz.prog 39 [calAV x, .agg [.S (kindA k).1, .S (kindA k).2]] (.bool (cleanB (onlyA (kindA k).2 x) x)) := by
  intro st
  refine ACalls_of (N := 88) Tryz.func39 (by kernel_rfl) rfl rfl rfl ?_
  have hfw := fields_few k
  refine AC_seq ?_
  refine AC_region ?_
  refine AL_step rfl rfl (S_box rfl (.tmp rfl)) ?_
  rintro _ _ ⟨b2, rfl, rfl⟩
  refine AL_step rfl rfl (S_box rfl (.tmp rfl)) ?_
  rintro _ _ ⟨b3, rfl, rfl⟩
  refine AL_p rfl rfl (S_assign rfl (AEv.const _)) ?_
  refine AL_nil ?_
  refine AC_seq ?_
  refine AC_region ?_
  refine AL_p rfl rfl (S_field 0 rfl (.tmp rfl) (by kernel_rfl)) ?_
  refine AL_p rfl rfl (S_load 1 rfl (.tmp rfl) rfl rfl (by kernel_rfl)) ?_
  refine AL_p rfl rfl (S_build (t := 28) (pl := [(0, 1), (1, 1), (2, 1), (3, 7), (10, 1), (11, 1), (12, 1), (13, 1), (14, 1), (15, 1)]) (zs := [.int .i64 0, .int .i64 0, .int .u64 0, .string ⟨#[]⟩, .slice none 0 0, .slice none 0 0, .slice none 0 0, .int .i64 0, .int .i64 0, .int .i64 0, .int .i64 0, .int .i64 0, .int .i64 0, .int .i64 0, .string ⟨#[]⟩, .slice none 0 0]) rfl (AEvs.cons (.tmp rfl) AEvs.nil) (by kernel_rfl) rfl) ?_
  refine AL_step rfl rfl (S_alloc [.int .i64 0, .int .i64 0, .int .u64 0, .string ⟨#[]⟩, .slice none 0 0, .slice none 0 0, .slice none 0 0, .int .i64 0, .int .i64 0, .int .i64 0, .int .i64 0, .int .i64 0, .int .i64 0, .int .i64 0, .string ⟨#[]⟩, .slice none 0 0] rfl (by kernel_rfl)) ?_
  rintro _ _ ⟨b5, rfl, rfl⟩
  refine AL_step rfl rfl (S_storeW 0 rfl (.tmp rfl) ((AEv.tmp rfl).le (z := calAV (cal0 x.kind)) (by exact (Les.agg (.cons (Le.refl _) (.cons (Le.refl _) (.cons (Le.refl _) (.cons (Le.refl _) (.cons (Le.nils) (.cons (Le.nils) (.cons (Le.nils) (.cons (Le.refl _) (.cons (Le.refl _) (.cons (Le.refl _) (.cons (Le.refl _) (.cons (Le.refl _) (.cons (Le.refl _) (.cons (Le.refl _) (.cons (Le.refl _) (.cons (Le.nils) .nil))))))))))))))))))) rfl rfl rfl (by kernel_rfl)) ?_
  rintro _ _ ⟨rfl, rfl⟩
  refine AL_nil ?_
  refine AC_seq ?_
  refine AC_seq ?_
  refine AC_region ?_
  refine AL_p rfl rfl (S_field 1 rfl (.tmp rfl) (by kernel_rfl)) ?_
  refine AL_p rfl rfl (S_load 1 rfl (.tmp rfl) rfl rfl (by kernel_rfl)) ?_
  refine AL_p rfl rfl (S_lenS (ts := #[]) rfl (.tmp rfl) (by kernel_rfl)) ?_
  refine AL_p rfl rfl (S_move rfl (AEv.const _)) ?_
  refine AL_nil ?_
  refine AC_block ?_
  refine AC_loopK (G := Nat) [(2, _), (3, _), (4, _), (5, _), (13, _)] (fun g => g ≤ (kindA k).2.length) (fun g => [(14, .int .i64 (g : Int))]) (fun g => (b5, .cells (calL (onlyA ((kindA k).2.take g) x))) :: (b3, .cells [.S (kindA k).1, .S (kindA k).2]) :: (b2, .cells (calL x)) :: st) (fun g => (kindA k).2.length - g) (0) (Nat.zero_le _) (Sub.l (List.Sublist.refl _)) (.cons rfl (Le.refl _) (.cons rfl (Le.refl _) (.cons rfl (Le.refl _) (.cons rfl (Le.refl _) (.cons rfl (Le.refl _) .nil))))) (.cons rfl (by first | exact Le.refl _ | exact Le.nils | exact Le.row _ _ _ _ | exact Le.of_eq (by first | rfl | (simp; done) | (push_cast; rfl) | (simp; omega))) .nil) ?_
  rintro i hi
  try dsimp only
  simp only [List.cons_append, List.nil_append]
  refine AC_seq ?_
  refine AC_region ?_
  refine AL_p rfl rfl (S_lss rfl (.tmp rfl) (.tmp rfl)) ?_
  refine AL_nil ?_
  refine AC_seq ?_
  refine AC_cond (.tmp rfl) (fun hb4 => ?_) (fun hb4 => ?_)
  · try simp only [zA, zO, zN, zM, zP, zQ, zD, zF, gd] at hb4
    have hil : i < (kindA k).2.length := by omega
    refine AC_skip ?_
    refine AC_seq ?_
    refine AC_block ?_
    refine AC_seq ?_
    refine AC_region ?_
    refine AL_p rfl rfl (S_move rfl (.tmp rfl)) ?_
    refine AL_p rfl rfl (S_assign rfl (.tmp rfl)) ?_
    refine AL_nil ?_
    refine AC_plan (σ := [(0, 0), (1, 0), (2, 0), (3, 0), (4, 0), (5, 2)]) (by kernel_rfl) [_, _, _] (by kernel_rfl) (fun r hr => List.mem_append_left _ hr) ?_
    refine AG.f rfl rfl (fun st' hst => Q_p rfl (S_loadNM (m := 16) rfl (.tmp rfl) (hst _ (List.mem_of_getElem? (i := 2) rfl)) (by kernel_rfl) (by first | exact Nat.le_of_ble_eq_true rfl | (simp; omega) | simp))) ?_
    refine AG.f rfl rfl (fun st' hst => Q_p rfl (S_field 1 rfl (.tmp rfl) (by kernel_rfl))) ?_
    refine AG.f rfl rfl (fun st' hst => Q_p rfl (S_loadM rfl (.tmp rfl) (hst _ (List.mem_of_getElem? (i := 1) rfl)) rfl (by kernel_rfl))) ?_
    refine AG.f rfl rfl (fun st' hst => Q_p rfl (S_move rfl (.tmp rfl))) ?_
    refine AG.f rfl rfl (fun st' hst => Q_p rfl ((S_index rfl (.tmp rfl) (.tmp rfl) (by kernel_rfl) (by omega) (by omega)).ofV (congrArg _ (atL_get hil)))) ?_
    refine AG.h rfl rfl rfl (S_call rfl (AEvs.cons (.tmp rfl) (AEvs.cons (.tmp rfl) (AEvs.cons (.tmp rfl) AEvs.nil))) (copies_ok b5 (onlyA ((kindA k).2.take i) x) x ((kindA k).2[i]'hil) _)) ?_
    rintro _ _ ⟨_, ⟨rfl, rfl⟩, rfl⟩
    refine AG.nil ?_
    refine AC_region ?_
    refine AL_p rfl rfl (S_addI rfl (.tmp rfl) (AEv.const _) (by omega) (by omega)) ?_
    refine AL_p rfl rfl (S_move rfl (.tmp rfl)) ?_
    refine AL_nil ?_
    refine ⟨i + 1, by omega, by omega, by rw [only_next hil]; exact (Sub.l (List.Sublist.refl _)), (.cons rfl (by first | exact Le.refl _ | exact Le.nils | exact Le.row _ _ _ _ | exact Le.of_eq (by first | rfl | (simp; done) | (push_cast; rfl) | (simp; omega))) .nil), (.cons rfl (Le.refl _) (.cons rfl (Le.refl _) (.cons rfl (Le.refl _) (.cons rfl (Le.refl _) (.cons rfl (Le.refl _) .nil)))))⟩
  try simp only [zA, zO, zN, zM, zP, zQ, zD, zF, gd] at hb4
  have hi9 : (kindA k).2.take i = (kindA k).2 := List.take_of_length_le (by omega)
  rw [hi9]
  refine AC_exit ?_
  refine AC_seq ?_
  refine AC_region ?_
  refine AL_p rfl rfl (S_field 1 rfl (.tmp rfl) (by kernel_rfl)) ?_
  refine AL_p rfl rfl (S_load 0 rfl (.tmp rfl) rfl rfl (by kernel_rfl)) ?_
  refine AL_p rfl rfl (S_field 1 rfl (.tmp rfl) (by kernel_rfl)) ?_
  refine AL_p rfl rfl (S_load 2 rfl (.tmp rfl) rfl rfl (by kernel_rfl)) ?_
  refine AL_p rfl rfl (S_eql rfl (.tmp rfl) (.tmp rfl)) ?_
  refine AL_p rfl rfl (S_move rfl (.tmp rfl)) ?_
  refine AL_g rfl rfl (.tmp rfl) rfl (fun hg5 => S_field 2 rfl (.tmp rfl) (by kernel_rfl)) ?_
  refine AL_g rfl rfl (.tmp rfl) rfl (fun hg8 => S_load 0 rfl (AEv.cond (.tmp rfl) (by first | assumption | exact gdAnd (by assumption) (by assumption))) rfl rfl (by kernel_rfl)) ?_
  refine AL_g rfl rfl (.tmp rfl) rfl (fun hg11 => S_field 2 rfl (.tmp rfl) (by kernel_rfl)) ?_
  refine AL_g rfl rfl (.tmp rfl) rfl (fun hg14 => S_load 2 rfl (AEv.cond (.tmp rfl) (by first | assumption | exact gdAnd (by assumption) (by assumption))) rfl rfl (by kernel_rfl)) ?_
  refine AL_g rfl rfl (.tmp rfl) rfl (fun hg17 => S_eql rfl (AEv.cond (.tmp rfl) (by first | assumption | exact gdAnd (by assumption) (by assumption))) (AEv.cond (.tmp rfl) (by first | assumption | exact gdAnd (by assumption) (by assumption)))) ?_
  refine AL_p rfl rfl (S_and rfl (.tmp rfl) (fun hp20 => (AEv.cond (.tmp rfl) (by first | assumption | exact gdT hp20 | exact gdF hp20 | exact gdAnd (by assumption) (gdT hp20) | exact gdAnd (by assumption) (gdF hp20))))) ?_
  refine AL_p rfl rfl (S_move rfl (.tmp rfl)) ?_
  refine AL_g rfl rfl (.tmp rfl) rfl (fun hg21 => S_field 10 rfl (.tmp rfl) (by kernel_rfl)) ?_
  refine AL_g rfl rfl (.tmp rfl) rfl (fun hg24 => S_load 0 rfl (AEv.cond (.tmp rfl) (by first | assumption | exact gdAnd (by assumption) (by assumption))) rfl rfl (by kernel_rfl)) ?_
  refine AL_g rfl rfl (.tmp rfl) rfl (fun hg27 => S_field 10 rfl (.tmp rfl) (by kernel_rfl)) ?_
  refine AL_g rfl rfl (.tmp rfl) rfl (fun hg30 => S_load 2 rfl (AEv.cond (.tmp rfl) (by first | assumption | exact gdAnd (by assumption) (by assumption))) rfl rfl (by kernel_rfl)) ?_
  refine AL_g rfl rfl (.tmp rfl) rfl (fun hg33 => S_eql rfl (AEv.cond (.tmp rfl) (by first | assumption | exact gdAnd (by assumption) (by assumption))) (AEv.cond (.tmp rfl) (by first | assumption | exact gdAnd (by assumption) (by assumption)))) ?_
  refine AL_p rfl rfl (S_and rfl (.tmp rfl) (fun hp36 => (AEv.cond (.tmp rfl) (by first | assumption | exact gdT hp36 | exact gdF hp36 | exact gdAnd (by assumption) (gdT hp36) | exact gdAnd (by assumption) (gdF hp36))))) ?_
  refine AL_p rfl rfl (S_move rfl (.tmp rfl)) ?_
  refine AL_g rfl rfl (.tmp rfl) rfl (fun hg37 => S_field 11 rfl (.tmp rfl) (by kernel_rfl)) ?_
  refine AL_g rfl rfl (.tmp rfl) rfl (fun hg40 => S_load 0 rfl (AEv.cond (.tmp rfl) (by first | assumption | exact gdAnd (by assumption) (by assumption))) rfl rfl (by kernel_rfl)) ?_
  refine AL_g rfl rfl (.tmp rfl) rfl (fun hg43 => S_field 11 rfl (.tmp rfl) (by kernel_rfl)) ?_
  refine AL_g rfl rfl (.tmp rfl) rfl (fun hg46 => S_load 2 rfl (AEv.cond (.tmp rfl) (by first | assumption | exact gdAnd (by assumption) (by assumption))) rfl rfl (by kernel_rfl)) ?_
  refine AL_g rfl rfl (.tmp rfl) rfl (fun hg49 => S_eql rfl (AEv.cond (.tmp rfl) (by first | assumption | exact gdAnd (by assumption) (by assumption))) (AEv.cond (.tmp rfl) (by first | assumption | exact gdAnd (by assumption) (by assumption)))) ?_
  refine AL_p rfl rfl (S_and rfl (.tmp rfl) (fun hp52 => (AEv.cond (.tmp rfl) (by first | assumption | exact gdT hp52 | exact gdF hp52 | exact gdAnd (by assumption) (gdT hp52) | exact gdAnd (by assumption) (gdF hp52))))) ?_
  refine AL_p rfl rfl (S_move rfl (.tmp rfl)) ?_
  refine AL_g rfl rfl (.tmp rfl) rfl (fun hg53 => S_field 12 rfl (.tmp rfl) (by kernel_rfl)) ?_
  refine AL_g rfl rfl (.tmp rfl) rfl (fun hg56 => S_load 0 rfl (AEv.cond (.tmp rfl) (by first | assumption | exact gdAnd (by assumption) (by assumption))) rfl rfl (by kernel_rfl)) ?_
  refine AL_g rfl rfl (.tmp rfl) rfl (fun hg59 => S_field 12 rfl (.tmp rfl) (by kernel_rfl)) ?_
  refine AL_g rfl rfl (.tmp rfl) rfl (fun hg62 => S_load 2 rfl (AEv.cond (.tmp rfl) (by first | assumption | exact gdAnd (by assumption) (by assumption))) rfl rfl (by kernel_rfl)) ?_
  refine AL_g rfl rfl (.tmp rfl) rfl (fun hg65 => S_eql rfl (AEv.cond (.tmp rfl) (by first | assumption | exact gdAnd (by assumption) (by assumption))) (AEv.cond (.tmp rfl) (by first | assumption | exact gdAnd (by assumption) (by assumption)))) ?_
  refine AL_p rfl rfl (S_and rfl (.tmp rfl) (fun hp68 => (AEv.cond (.tmp rfl) (by first | assumption | exact gdT hp68 | exact gdF hp68 | exact gdAnd (by assumption) (gdT hp68) | exact gdAnd (by assumption) (gdF hp68))))) ?_
  refine AL_p rfl rfl (S_move rfl (.tmp rfl)) ?_
  refine AL_g rfl rfl (.tmp rfl) rfl (fun hg69 => S_field 13 rfl (.tmp rfl) (by kernel_rfl)) ?_
  refine AL_g rfl rfl (.tmp rfl) rfl (fun hg72 => S_load 0 rfl (AEv.cond (.tmp rfl) (by first | assumption | exact gdAnd (by assumption) (by assumption))) rfl rfl (by kernel_rfl)) ?_
  refine AL_g rfl rfl (.tmp rfl) rfl (fun hg75 => S_field 13 rfl (.tmp rfl) (by kernel_rfl)) ?_
  refine AL_g rfl rfl (.tmp rfl) rfl (fun hg78 => S_load 2 rfl (AEv.cond (.tmp rfl) (by first | assumption | exact gdAnd (by assumption) (by assumption))) rfl rfl (by kernel_rfl)) ?_
  refine AL_g rfl rfl (.tmp rfl) rfl (fun hg81 => S_eql rfl (AEv.cond (.tmp rfl) (by first | assumption | exact gdAnd (by assumption) (by assumption))) (AEv.cond (.tmp rfl) (by first | assumption | exact gdAnd (by assumption) (by assumption)))) ?_
  refine AL_p rfl rfl (S_and rfl (.tmp rfl) (fun hp84 => (AEv.cond (.tmp rfl) (by first | assumption | exact gdT hp84 | exact gdF hp84 | exact gdAnd (by assumption) (gdT hp84) | exact gdAnd (by assumption) (gdF hp84))))) ?_
  refine AL_p rfl rfl (S_assign rfl (.tmp rfl)) ?_
  refine AL_nil ?_
  refine AC_seq ?_
  refine AC_region ?_
  refine AL_p rfl rfl (S_move rfl (.tmp rfl)) ?_
  refine AL_p rfl rfl (S_move rfl (.tmp rfl)) ?_
  refine AL_g rfl rfl (.tmp rfl) rfl (fun hg85 => S_field 14 rfl (.tmp rfl) (by kernel_rfl)) ?_
  refine AL_g rfl rfl (.tmp rfl) rfl (fun hg88 => S_load 0 rfl (AEv.cond (.tmp rfl) (by first | assumption | exact gdAnd (by assumption) (by assumption))) rfl rfl (by kernel_rfl)) ?_
  refine AL_g rfl rfl (.tmp rfl) rfl (fun hg91 => S_field 14 rfl (.tmp rfl) (by kernel_rfl)) ?_
  refine AL_g rfl rfl (.tmp rfl) rfl (fun hg94 => S_load 2 rfl (AEv.cond (.tmp rfl) (by first | assumption | exact gdAnd (by assumption) (by assumption))) rfl rfl (by kernel_rfl)) ?_
  refine AL_g rfl rfl (.tmp rfl) rfl (fun hg97 => S_eqS rfl (AEv.cond (.tmp rfl) (by first | assumption | exact gdAnd (by assumption) (by assumption))) (AEv.cond (.tmp rfl) (by first | assumption | exact gdAnd (by assumption) (by assumption)))) ?_
  refine AL_p rfl rfl (S_and rfl (.tmp rfl) (fun hp100 => (AEv.cond (.tmp rfl) (by first | assumption | exact gdT hp100 | exact gdF hp100 | exact gdAnd (by assumption) (gdT hp100) | exact gdAnd (by assumption) (gdF hp100))))) ?_
  refine AL_p rfl rfl (S_move rfl (.tmp rfl)) ?_
  refine AL_g rfl rfl (.tmp rfl) rfl (fun hg101 => S_field 15 rfl (.tmp rfl) (by kernel_rfl)) ?_
  refine AL_g rfl rfl (.tmp rfl) rfl (fun hg104 => S_load 0 rfl (AEv.cond (.tmp rfl) (by first | assumption | exact gdAnd (by assumption) (by assumption))) rfl rfl (by kernel_rfl)) ?_
  refine AL_g rfl rfl (.tmp rfl) rfl (fun hg107 => by first | exact S_lenM (e := 90) rfl (AEv.cond (.tmp rfl) (by first | assumption | exact gdAnd (by assumption) (by assumption))) (by kernel_rfl) | exact S_len (e := 90) rfl (AEv.cond (.tmp rfl) (by first | assumption | exact gdAnd (by assumption) (by assumption))) (by kernel_rfl)) ?_
  refine AL_g rfl rfl (.tmp rfl) rfl (fun hg110 => S_field 15 rfl (.tmp rfl) (by kernel_rfl)) ?_
  refine AL_g rfl rfl (.tmp rfl) rfl (fun hg113 => S_load 2 rfl (AEv.cond (.tmp rfl) (by first | assumption | exact gdAnd (by assumption) (by assumption))) rfl rfl (by kernel_rfl)) ?_
  refine AL_g rfl rfl (.tmp rfl) rfl (fun hg116 => by first | exact S_lenM (e := 90) rfl (AEv.cond (.tmp rfl) (by first | assumption | exact gdAnd (by assumption) (by assumption))) (by kernel_rfl) | exact S_len (e := 90) rfl (AEv.cond (.tmp rfl) (by first | assumption | exact gdAnd (by assumption) (by assumption))) (by kernel_rfl)) ?_
  refine AL_g rfl rfl (.tmp rfl) rfl (fun hg119 => S_eql rfl (AEv.cond (.tmp rfl) (by first | assumption | exact gdAnd (by assumption) (by assumption))) (AEv.cond (.tmp rfl) (by first | assumption | exact gdAnd (by assumption) (by assumption)))) ?_
  refine AL_p rfl rfl (S_and rfl (.tmp rfl) (fun hp122 => (AEv.cond (.tmp rfl) (by first | assumption | exact gdT hp122 | exact gdF hp122 | exact gdAnd (by assumption) (gdT hp122) | exact gdAnd (by assumption) (gdF hp122))))) ?_
  refine AL_p rfl rfl (S_move rfl (.tmp rfl)) ?_
  refine AL_g rfl rfl (.tmp rfl) rfl (fun hg123 => S_field 3 rfl (.tmp rfl) (by kernel_rfl)) ?_
  refine AL_g rfl rfl (.tmp rfl) rfl (fun hg126 => S_loadN (m := 7) 0 rfl (AEv.cond (.tmp rfl) (by first | assumption | exact gdAnd (by assumption) (by assumption))) rfl (by kernel_rfl) (by first | exact Nat.le_of_ble_eq_true rfl | (simp; omega) | simp)) ?_
  refine AL_g rfl rfl (.tmp rfl) rfl (fun hg129 => S_field 3 rfl (.tmp rfl) (by kernel_rfl)) ?_
  refine AL_g rfl rfl (.tmp rfl) rfl (fun hg132 => S_loadN (m := 7) 2 rfl (AEv.cond (.tmp rfl) (by first | assumption | exact gdAnd (by assumption) (by assumption))) rfl (by kernel_rfl) (by first | exact Nat.le_of_ble_eq_true rfl | (simp; omega) | simp)) ?_
  refine AL_g rfl rfl (.tmp rfl) rfl (fun hg135 => S_pcall rfl (AEvs.cons (AEv.cond (.tmp rfl) (by first | assumption | exact gdAnd (by assumption) (by assumption))) (AEvs.cons (AEv.cond (.tmp rfl) (by first | assumption | exact gdAnd (by assumption) (by assumption))) AEvs.nil)) (spec_Same_ok (onlyA (kindA k).2 x).spec x.spec (light_short (only_light hx0.1)) (light_short hx0.1))) ?_
  refine AL_p rfl rfl (S_and rfl (.tmp rfl) (fun hp138 => (AEv.cond (.tmp rfl) (by first | assumption | exact gdT hp138 | exact gdF hp138 | exact gdAnd (by assumption) (gdT hp138) | exact gdAnd (by assumption) (gdF hp138))))) ?_
  refine AL_p rfl rfl (S_assign rfl (.tmp rfl)) ?_
  refine AL_nil ?_
  refine AC_ret ?_
  refine ret_tmp st rfl rfl (Sub.l (((List.sublist_cons_self _ _).trans (List.sublist_cons_self _ _)).trans (List.sublist_cons_self _ _))) (Conv.refl (Sub.l (((List.sublist_cons_self _ _).trans (List.sublist_cons_self _ _)).trans (List.sublist_cons_self _ _))) _) ⟨congrArg AV.bool (by simp only [cleanB, Bool.and_assoc, Int.ofNat_inj]), rfl⟩ (.inl rfl)

set_option maxRecDepth 100000 in
/-- provost/ask.Check -/
theorem ask_Check_ok (x : Cal) (hx0 : ShortA x) : GCalls Tryz.prog tabs 13 [calAV x] (erV 31 143 (checkA x)) := by
  intro st hG
  refine ACalls_of (N := 39) Tryz.func13 (by kernel_rfl) rfl rfl rfl ?_
  have hfw := fields_few x.kind.toNat
  refine AC_seq ?_
  refine AC_region ?_
  refine AL_step rfl rfl (S_box rfl (.tmp rfl)) ?_
  rintro _ _ ⟨b1, rfl, rfl⟩
  refine AL_p rfl rfl (S_assign rfl (AEv.const _)) ?_
  refine AL_nil ?_
  refine AC_seq ?_
  refine AC_region ?_
  refine AL_p rfl rfl (S_field 0 rfl (.tmp rfl) (by kernel_rfl)) ?_
  refine AL_p rfl rfl (S_load 0 rfl (.tmp rfl) rfl rfl (by kernel_rfl)) ?_
  refine AL_p rfl rfl (S_gcall rfl (AEvs.cons (.tmp rfl) AEvs.nil) ((ask_of_ok x.kind) _ (fun p hp => by repeat (first | exact hG p hp | refine List.mem_cons_of_mem _ ?_ | refine List.mem_append_right _ ?_)))) ?_
  refine AL_p rfl rfl (S_move rfl (.tmp rfl)) ?_
  refine AL_p rfl rfl (S_extract 0 rfl (.tmp rfl) rfl) ?_
  refine AL_p rfl rfl (S_extract 1 rfl (.tmp rfl) rfl) ?_
  refine AL_step rfl rfl (S_alloc [.string ⟨#[]⟩, .string ⟨#[]⟩] rfl (by kernel_rfl)) ?_
  rintro _ _ ⟨b3, rfl, rfl⟩
  refine AL_step rfl rfl (S_storeW 0 rfl (.tmp rfl) (.tmp rfl) rfl rfl rfl (by kernel_rfl)) ?_
  rintro _ _ ⟨rfl, rfl⟩
  refine AL_p rfl rfl (S_assign rfl (.tmp rfl)) ?_
  refine AL_nil ?_
  refine AC_seq ?_
  refine AC_seq ?_
  refine AC_region ?_
  refine AL_p rfl rfl (S_move rfl (.tmp rfl)) ?_
  refine AL_p rfl rfl (S_not rfl (.tmp rfl)) ?_
  refine AL_nil ?_
  refine AC_cond (.tmp rfl) (fun hb3 => ?_) (fun hb3 => ?_)
  · try simp only [zA, zO, zN, zM, zP, zQ, zD, zF, gd] at hb3
    have hx : checkA x = some (80, [kindN]) := check_kind (by simpa using hb3)
    refine AC_seq ?_
    refine AC_region ?_
    refine AL_p rfl rfl (S_buildSlice (e := 9) 1 rfl (AEvs.cons (AEv.S _) AEvs.nil) rfl (by kernel_rfl) (by kernel_rfl) (by intro y hy; simp only [List.mem_cons, List.not_mem_nil, or_false] at hy; rcases hy with rfl <;> exact ⟨rfl, rfl⟩) (by decide) (by decide) (by decide)) ?_
    refine AL_p rfl rfl (S_pcall rfl (AEvs.cons (AEv.const _) (AEvs.cons (.tmp rfl) AEvs.nil)) (fail_New_ok 80 [kindN] (by simp))) ?_
    refine AL_p rfl rfl (S_assign rfl (.tmp rfl)) ?_
    refine AL_nil ?_
    refine AC_ret ?_
    refine ret_tmp st rfl rfl (Sub.l ((List.sublist_cons_self _ _).trans (List.sublist_cons_self _ _))) (Conv.refl (Sub.l ((List.sublist_cons_self _ _).trans (List.sublist_cons_self _ _))) _) ⟨by rw [hx] <;> rfl, rfl⟩ (.inl rfl)
  try simp only [zA, zO, zN, zM, zP, zQ, zD, zF, gd] at hb3
  have hk : 1 ≤ x.kind ∧ x.kind < 13 := by simpa using hb3
  refine AC_skip ?_
  refine AC_seq ?_
  refine AC_seq ?_
  refine AC_region ?_
  refine AL_p rfl rfl (S_field 1 rfl (.tmp rfl) (by kernel_rfl)) ?_
  refine AL_p rfl rfl (S_load 0 rfl (.tmp rfl) rfl rfl (by kernel_rfl)) ?_
  refine AL_p rfl rfl (S_lenS (ts := #[]) rfl (.tmp rfl) (by kernel_rfl)) ?_
  refine AL_p rfl rfl (S_move rfl (AEv.const _)) ?_
  refine AL_nil ?_
  refine AC_block ?_
  refine AC_loopK (G := Nat) [(1, _), (3, _), (19, _)] (fun g => g ≤ (kindA x.kind.toNat).2.length ∧ ∀ j (h : j < (kindA x.kind.toNat).2.length), j < g → fieldE x ((kindA x.kind.toNat).2[j]'h) = none) (fun g => [(20, .int .i64 (g : Int))]) (fun g => (b3, .cells [.S (kindA x.kind.toNat).1, .S (kindA x.kind.toNat).2]) :: (b1, .cells (calL x)) :: st) (fun g => (kindA x.kind.toNat).2.length - g) (0) (⟨Nat.zero_le _, fun j _ h => absurd h (Nat.not_lt_zero _)⟩) (Sub.l (List.Sublist.refl _)) (.cons rfl (Le.refl _) (.cons rfl (Le.refl _) (.cons rfl (Le.refl _) .nil))) (.cons rfl (by first | exact Le.refl _ | exact Le.nils | exact Le.row _ _ _ _ | exact Le.of_eq (by first | rfl | (simp; done) | (push_cast; rfl) | (simp; omega))) .nil) ?_
  rintro i ⟨hi, hall⟩
  try dsimp only
  simp only [List.cons_append, List.nil_append]
  refine AC_seq ?_
  refine AC_region ?_
  refine AL_p rfl rfl (S_lss rfl (.tmp rfl) (.tmp rfl)) ?_
  refine AL_nil ?_
  refine AC_seq ?_
  refine AC_cond (.tmp rfl) (fun hb4 => ?_) (fun hb4 => ?_)
  · try simp only [zA, zO, zN, zM, zP, zQ, zD, zF, gd] at hb4
    have hil : i < (kindA x.kind.toNat).2.length := by omega
    refine AC_skip ?_
    refine AC_seq ?_
    refine AC_block ?_
    refine AC_seq ?_
    refine AC_region ?_
    refine AL_p rfl rfl (S_move rfl (.tmp rfl)) ?_
    refine AL_p rfl rfl (S_assign rfl (.tmp rfl)) ?_
    refine AL_nil ?_
    refine AC_seq ?_
    refine AC_draw (by kernel_rfl) (by kernel_rfl) (.cons rfl (Q_p rfl (S_loadN (m := 16) 1 rfl (.tmp rfl) rfl (by kernel_rfl) (by first | exact Nat.le_of_ble_eq_true rfl | (simp; omega) | simp))) <|
        .cons rfl (Q_p rfl (S_field 1 rfl (.tmp rfl) (by kernel_rfl))) <|
        .cons rfl (Q_p rfl (S_load 0 rfl (.tmp rfl) rfl rfl (by kernel_rfl))) <|
        .cons rfl (Q_p rfl (S_move rfl (.tmp rfl))) <|
        .cons rfl (Q_p rfl ((S_index rfl (.tmp rfl) (.tmp rfl) (by kernel_rfl) (by omega) (by omega)).ofV (congrArg _ (atL_get hil)))) <|
        .cons rfl (Q_p rfl (S_gcall rfl (AEvs.cons (.tmp rfl) (AEvs.cons (.tmp rfl) AEvs.nil)) ((ask_field_ok x ((kindA x.kind.toNat).2[i]'hil) hx0) _ (fun p hp => by repeat (first | exact hG p hp | refine List.mem_cons_of_mem _ ?_ | refine List.mem_append_right _ ?_))))) <|
        .cons rfl (Q_p rfl (S_assign rfl (.tmp rfl))) <|
        .nil) ?_
    refine AC_seq ?_
    refine AC_region ?_
    refine AL_p rfl rfl (S_move rfl (.tmp rfl)) ?_
    refine AL_p rfl rfl (S_neqE (er_is 31 143 (fieldE x ((kindA x.kind.toNat).2[i]'hil))) rfl (.tmp rfl) (by kernel_rfl)) ?_
    refine AL_nil ?_
    refine AC_cond (.tmp rfl) (fun hb5 => ?_) (fun hb5 => ?_)
    · try simp only [zA, zO, zN, zM, zP, zQ, zD, zF, gd] at hb5
      have hx : checkA x = fieldE x ((kindA x.kind.toNat).2[i]'hil) := check_field hk hil (fun j h h9 => hall j h h9) (fun h => by rw [h] at hb5; simp at hb5)
      refine AC_seq ?_
      refine AC_region ?_
      refine AL_p rfl rfl (S_move rfl (.tmp rfl)) ?_
      refine AL_p rfl rfl (S_assign rfl (.tmp rfl)) ?_
      refine AL_nil ?_
      refine AC_ret ?_
      refine ret_tmp st rfl rfl (Sub.l ((List.sublist_cons_self _ _).trans (List.sublist_cons_self _ _))) (Conv.refl (Sub.l ((List.sublist_cons_self _ _).trans (List.sublist_cons_self _ _))) _) ⟨by rw [hx] <;> rfl, rfl⟩ (.inl rfl)
    try simp only [zA, zO, zN, zM, zP, zQ, zD, zF, gd] at hb5
    have hne : fieldE x ((kindA x.kind.toNat).2[i]'hil) = none := by simpa using hb5
    refine AC_skip ?_
    refine AC_region ?_
    refine AL_p rfl rfl (S_addI rfl (.tmp rfl) (AEv.const _) (by omega) (by omega)) ?_
    refine AL_p rfl rfl (S_move rfl (.tmp rfl)) ?_
    refine AL_nil ?_
    refine ⟨i + 1, ⟨by omega, fun j h1 h => ?_⟩, by omega, (Sub.l (List.Sublist.refl _)), (.cons rfl (by first | exact Le.refl _ | exact Le.nils | exact Le.row _ _ _ _ | exact Le.of_eq (by first | rfl | (simp; done) | (push_cast; rfl) | (simp; omega))) .nil), (.cons rfl (Le.refl _) (.cons rfl (Le.refl _) (.cons rfl (Le.refl _) .nil)))⟩
    rcases Nat.lt_or_ge j i with h' | h'
    · exact hall j h1 h'
    · have : j = i := by omega
      subst this
      exact hne
  try simp only [zA, zO, zN, zM, zP, zQ, zD, zF, gd] at hb4
  have hfn : ∀ f ∈ (kindA x.kind.toNat).2, fieldE x f = none := fun f hf => by
    obtain ⟨j, hj, rfl⟩ := List.getElem_of_mem hf
    exact hall j hj (by omega)
  refine AC_exit ?_
  refine AC_seq ?_
  refine AC_seq ?_
  refine AC_region ?_
  refine AL_p rfl rfl (S_loadN (m := 16) 1 rfl (.tmp rfl) rfl (by kernel_rfl) (by first | exact Nat.le_of_ble_eq_true rfl | (simp; omega) | simp)) ?_
  refine AL_p rfl rfl (S_loadN (m := 2) 0 rfl (.tmp rfl) rfl (by kernel_rfl) (by first | exact Nat.le_of_ble_eq_true rfl | (simp; omega) | simp)) ?_
  refine AL_p rfl rfl (S_pcall rfl (AEvs.cons (y := calAV x) (.tmp rfl) (AEvs.cons (y := .agg [.S (kindA x.kind.toNat).1, .S (kindA x.kind.toNat).2]) (.tmp rfl) AEvs.nil)) (ask_clean_ok x x.kind.toNat hx0)) ?_
  refine AL_p rfl rfl (S_not rfl (.tmp rfl)) ?_
  refine AL_nil ?_
  refine AC_cond (.tmp rfl) (fun hb6 => ?_) (fun hb6 => ?_)
  · try simp only [zA, zO, zN, zM, zP, zQ, zD, zF, gd] at hb6
    have hx : checkA x = some (4, [callN]) := check_unclean hk hfn (by simpa using hb6)
    refine AC_seq ?_
    refine AC_region ?_
    refine AL_p rfl rfl (S_buildSlice (e := 9) 1 rfl (AEvs.cons (AEv.S _) AEvs.nil) rfl (by kernel_rfl) (by kernel_rfl) (by intro y hy; simp only [List.mem_cons, List.not_mem_nil, or_false] at hy; rcases hy with rfl <;> exact ⟨rfl, rfl⟩) (by decide) (by decide) (by decide)) ?_
    refine AL_p rfl rfl (S_pcall rfl (AEvs.cons (AEv.const _) (AEvs.cons (.tmp rfl) AEvs.nil)) (fail_New_ok 4 [callN] (by simp))) ?_
    refine AL_p rfl rfl (S_assign rfl (.tmp rfl)) ?_
    refine AL_nil ?_
    refine AC_ret ?_
    refine ret_tmp st rfl rfl (Sub.l ((List.sublist_cons_self _ _).trans (List.sublist_cons_self _ _))) (Conv.refl (Sub.l ((List.sublist_cons_self _ _).trans (List.sublist_cons_self _ _))) _) ⟨by rw [hx] <;> rfl, rfl⟩ (.inl rfl)
  try simp only [zA, zO, zN, zM, zP, zQ, zD, zF, gd] at hb6
  have hx : checkA x = none := check_clean hk hfn (by simpa using hb6)
  refine AC_skip ?_
  refine AC_seq ?_
  refine AC_region ?_
  refine AL_p rfl rfl (S_assign rfl (AEv.const _)) ?_
  refine AL_nil ?_
  refine AC_ret ?_
  refine ret_tmp st rfl rfl (Sub.l ((List.sublist_cons_self _ _).trans (List.sublist_cons_self _ _))) (Conv.refl (Sub.l ((List.sublist_cons_self _ _).trans (List.sublist_cons_self _ _))) _) ⟨by rw [hx] <;> rfl, rfl⟩ (.inl rfl)

end Go.Proofs.YtcbnokpgklmndaaGreatDoor

/-
The walks of Go functions in the logic AL: what each of them answers.
Conditions: those of each theorem.
-/
set_option linter.unusedVariables false
set_option linter.unusedSimpArgs false
namespace Go.Proofs.YtcbnokpgklmndaaGreatDoor
open Go.AL Go.NumSpec

set_option maxRecDepth 100000 in
/-- provost/ask.put -/
theorem ask_put_ok (b : Nat) (u2 : Bool) (q2 : Buf) (l : List UInt8) (c : Int) (hq2 : q2.ok l)  (hl : l.length + 20000 ≤ 100000000000) (x : Cal) (f : UInt8) (hx0 : ShortA x) (hu : x.rev < 18446744073709551616) (hfe : fieldE x f = none) (F : St) (hG : ∀ r, r ∈ Gs tabs → r ∈ F) : ACalls Tryz.prog 25 [.ptr b 0, calAV x, .int .u8 (f.toNat : Int)] (((b, .cells [addrB u2 b 99 3, bufAV q2 (l), .int .i64 (c)]) :: bufSt q2 5 (l)) ++ F) (fun v9 st' => ∃ foot', (∃ (u' : Bool) (q' : Buf), q'.ok (wput c l (fieldB x f)) ∧ v9 = .tup [] ∧ foot' = (b, .cells [addrB u' b 99 3, bufAV q' (wput c l (fieldB x f)), .int .i64 (c)]) :: bufSt q' 5 (wput c l (fieldB x f))) ∧ st' = foot' ++ F) := by
  refine ACalls_of (N := 61) Tryz.func25 (by kernel_rfl) rfl rfl rfl ?_
  refine AC_seq ?_
  refine AC_region ?_
  refine AL_step rfl rfl (S_box rfl (.tmp rfl)) ?_
  rintro _ _ ⟨b4, rfl, rfl⟩
  refine AL_nil ?_
  refine AC_seq ?_
  refine AC_region ?_
  refine AL_p rfl rfl (S_move rfl (.tmp rfl)) ?_
  refine AL_nil ?_
  refine AC_block ?_
  refine AC_seq ?_
  refine AC_region ?_
  refine AL_p rfl rfl (S_eql rfl (.tmp rfl) (AEv.const _)) ?_
  refine AL_p rfl rfl (S_assign rfl (.tmp rfl)) ?_
  refine AL_nil ?_
  refine AC_cond (.tmp rfl) (fun hb2 => ?_) (fun hb2 => ?_)
  · try simp only [zA, zO, zN, zM, zP, zQ, zD, zF, gd] at hb2
    obtain rfl : f = 117 := u8_eq hb2
    have hfo : 0 ≤ x.uid ∧ x.uid ≤ 1073741824 := field_ok hu hfe
    refine AC_region ?_
    refine AL_p rfl rfl (S_move rfl (.tmp rfl)) ?_
    refine AL_p rfl rfl (S_field 1 rfl (.tmp rfl) (by kernel_rfl)) ?_
    refine AL_p rfl rfl (S_load 0 rfl (.tmp rfl) rfl rfl (by kernel_rfl)) ?_
    refine AL_step rfl rfl (S_call rfl (AEvs.cons (.tmp rfl) (AEvs.cons (.tmp rfl) AEvs.nil)) (ACalls.preQ (pre := [_]) (F := F) (w_NumN b u2 q2 _ c hq2 (by first | omega | (refine Nat.le_trans (Nat.add_le_add_right (wput_len _ _ _) _) ?_; (try simp only [List.length_append]); omega)) x.uid (by omega) (by omega) _))) ?_
    rintro _ _ ⟨_, ⟨u2, q2, hq2, rfl, rfl⟩, rfl⟩
    refine AL_nil ?_
    refine ret_none (((b, .cells [addrB u2 b 99 3, bufAV q2 (wput c l (fieldB x 117)), .int .i64 (c)]) :: bufSt q2 5 (wput c l (fieldB x 117))) ++ F) rfl (Sub.l (List.sublist_cons_self _ _)) ⟨_, ⟨u2, q2, hq2, rfl, rfl⟩, rfl⟩ (.inr rfl)
  try simp only [zA, zO, zN, zM, zP, zQ, zD, zF, gd] at hb2
  have hf117 : ¬ f = 117 := fun h => hb2 (by rw [h]; rfl)
  refine AC_seq ?_
  refine AC_region ?_
  refine AL_p rfl rfl (S_eql rfl (.tmp rfl) (AEv.const _)) ?_
  refine AL_p rfl rfl (S_assign rfl (.tmp rfl)) ?_
  refine AL_nil ?_
  refine AC_cond (.tmp rfl) (fun hb3 => ?_) (fun hb3 => ?_)
  · try simp only [zA, zO, zN, zM, zP, zQ, zD, zF, gd] at hb3
    obtain rfl : f = 114 := u8_eq hb3
    have hfo : x.rev < 18446744073709551616 := field_ok hu hfe
    refine AC_region ?_
    refine AL_p rfl rfl (S_move rfl (.tmp rfl)) ?_
    refine AL_p rfl rfl (S_field 2 rfl (.tmp rfl) (by kernel_rfl)) ?_
    refine AL_p rfl rfl (S_load 0 rfl (.tmp rfl) rfl rfl (by kernel_rfl)) ?_
    refine AL_step rfl rfl (S_call rfl (AEvs.cons (.tmp rfl) (AEvs.cons (.tmp rfl) AEvs.nil)) (ACalls.preQ (pre := [_]) (F := F) (w_Big_ok b u2 q2 _ c hq2 x.rev hfo (by omega) _))) ?_
    rintro _ _ ⟨_, ⟨u2, q2, hq2, rfl, rfl⟩, rfl⟩
    refine AL_nil ?_
    refine ret_none (((b, .cells [addrB u2 b 99 3, bufAV q2 (wput c l (fieldB x 114)), .int .i64 (c)]) :: bufSt q2 5 (wput c l (fieldB x 114))) ++ F) rfl (Sub.l (List.sublist_cons_self _ _)) ⟨_, ⟨u2, q2, hq2, rfl, rfl⟩, rfl⟩ (.inr rfl)
  try simp only [zA, zO, zN, zM, zP, zQ, zD, zF, gd] at hb3
  have hf114 : ¬ f = 114 := fun h => hb3 (by rw [h]; rfl)
  refine AC_seq ?_
  refine AC_region ?_
  refine AL_p rfl rfl (S_eql rfl (.tmp rfl) (AEv.const _)) ?_
  refine AL_p rfl rfl (S_assign rfl (.tmp rfl)) ?_
  refine AL_nil ?_
  refine AC_cond (.tmp rfl) (fun hb4 => ?_) (fun hb4 => ?_)
  · try simp only [zA, zO, zN, zM, zP, zQ, zD, zF, gd] at hb4
    obtain rfl : f = 115 := u8_eq hb4
    have hck : checkE x.spec = none := erIn_none hfe
    refine AC_region ?_
    refine AL_p rfl rfl (S_move rfl (.tmp rfl)) ?_
    refine AL_p rfl rfl (S_field 3 rfl (.tmp rfl) (by kernel_rfl)) ?_
    refine AL_p rfl rfl (S_loadN (m := 7) 0 rfl (.tmp rfl) rfl (by kernel_rfl) (by first | exact Nat.le_of_ble_eq_true rfl | (simp; omega) | simp)) ?_
    refine AL_step rfl rfl (S_call rfl (AEvs.cons (.tmp rfl) (AEvs.cons (.tmp rfl) AEvs.nil)) (ACalls.preQ (pre := [_]) (F := F) (pack_Put_ok b u2 q2 _ c hq2 (by first | omega | (refine Nat.le_trans (Nat.add_le_add_right (wput_len _ _ _) _) ?_; (try simp only [List.length_append]); omega)) x.spec hx0.1 _ (fun r hr => List.mem_append_right _ (hG r hr))))) ?_
    rintro _ _ ⟨_, ⟨u2, q2, hq2, rfl, rfl⟩, rfl⟩
    rw [if_pos hck] at hq2
    rw [if_pos hck, if_pos hck]
    refine AL_nil ?_
    refine ret_none (((b, .cells [addrB u2 b 99 3, bufAV q2 (wput c l (fieldB x 115)), .int .i64 (c)]) :: bufSt q2 5 (wput c l (fieldB x 115))) ++ F) rfl (Sub.l (List.sublist_cons_self _ _)) ⟨_, ⟨u2, q2, hq2, rfl, rfl⟩, rfl⟩ (.inr rfl)
  try simp only [zA, zO, zN, zM, zP, zQ, zD, zF, gd] at hb4
  have hf115 : ¬ f = 115 := fun h => hb4 (by rw [h]; rfl)
  refine AC_seq ?_
  refine AC_region ?_
  refine AL_p rfl rfl (S_eql rfl (.tmp rfl) (AEv.const _)) ?_
  refine AL_p rfl rfl (S_assign rfl (.tmp rfl)) ?_
  refine AL_nil ?_
  refine AC_cond (.tmp rfl) (fun hb5 => ?_) (fun hb5 => ?_)
  · try simp only [zA, zO, zN, zM, zP, zQ, zD, zF, gd] at hb5
    obtain rfl : f = 103 := u8_eq hb5
    have hfo : 0 ≤ x.grace ∧ x.grace ≤ 1000 := field_ok hu hfe
    refine AC_region ?_
    refine AL_p rfl rfl (S_move rfl (.tmp rfl)) ?_
    refine AL_p rfl rfl (S_field 10 rfl (.tmp rfl) (by kernel_rfl)) ?_
    refine AL_p rfl rfl (S_load 0 rfl (.tmp rfl) rfl rfl (by kernel_rfl)) ?_
    refine AL_step rfl rfl (S_call rfl (AEvs.cons (.tmp rfl) (AEvs.cons (.tmp rfl) AEvs.nil)) (ACalls.preQ (pre := [_]) (F := F) (w_NumN b u2 q2 _ c hq2 (by first | omega | (refine Nat.le_trans (Nat.add_le_add_right (wput_len _ _ _) _) ?_; (try simp only [List.length_append]); omega)) x.grace (by omega) (by omega) _))) ?_
    rintro _ _ ⟨_, ⟨u2, q2, hq2, rfl, rfl⟩, rfl⟩
    refine AL_nil ?_
    refine ret_none (((b, .cells [addrB u2 b 99 3, bufAV q2 (wput c l (fieldB x 103)), .int .i64 (c)]) :: bufSt q2 5 (wput c l (fieldB x 103))) ++ F) rfl (Sub.l (List.sublist_cons_self _ _)) ⟨_, ⟨u2, q2, hq2, rfl, rfl⟩, rfl⟩ (.inr rfl)
  try simp only [zA, zO, zN, zM, zP, zQ, zD, zF, gd] at hb5
  have hf103 : ¬ f = 103 := fun h => hb5 (by rw [h]; rfl)
  refine AC_seq ?_
  refine AC_region ?_
  refine AL_p rfl rfl (S_eql rfl (.tmp rfl) (AEv.const _)) ?_
  refine AL_p rfl rfl (S_assign rfl (.tmp rfl)) ?_
  refine AL_nil ?_
  refine AC_cond (.tmp rfl) (fun hb6 => ?_) (fun hb6 => ?_)
  · try simp only [zA, zO, zN, zM, zP, zQ, zD, zF, gd] at hb6
    obtain rfl : f = 99 := u8_eq hb6
    have hfo : 0 ≤ x.ctr ∧ x.ctr ≤ 3 := field_ok hu hfe
    refine AC_region ?_
    refine AL_p rfl rfl (S_move rfl (.tmp rfl)) ?_
    refine AL_p rfl rfl (S_field 11 rfl (.tmp rfl) (by kernel_rfl)) ?_
    refine AL_p rfl rfl (S_load 0 rfl (.tmp rfl) rfl rfl (by kernel_rfl)) ?_
    refine AL_step rfl rfl (S_call rfl (AEvs.cons (.tmp rfl) (AEvs.cons (.tmp rfl) AEvs.nil)) (ACalls.preQ (pre := [_]) (F := F) (w_NumN b u2 q2 _ c hq2 (by first | omega | (refine Nat.le_trans (Nat.add_le_add_right (wput_len _ _ _) _) ?_; (try simp only [List.length_append]); omega)) x.ctr (by omega) (by omega) _))) ?_
    rintro _ _ ⟨_, ⟨u2, q2, hq2, rfl, rfl⟩, rfl⟩
    refine AL_nil ?_
    refine ret_none (((b, .cells [addrB u2 b 99 3, bufAV q2 (wput c l (fieldB x 99)), .int .i64 (c)]) :: bufSt q2 5 (wput c l (fieldB x 99))) ++ F) rfl (Sub.l (List.sublist_cons_self _ _)) ⟨_, ⟨u2, q2, hq2, rfl, rfl⟩, rfl⟩ (.inr rfl)
  try simp only [zA, zO, zN, zM, zP, zQ, zD, zF, gd] at hb6
  have hf99 : ¬ f = 99 := fun h => hb6 (by rw [h]; rfl)
  refine AC_seq ?_
  refine AC_region ?_
  refine AL_p rfl rfl (S_eql rfl (.tmp rfl) (AEv.const _)) ?_
  refine AL_p rfl rfl (S_assign rfl (.tmp rfl)) ?_
  refine AL_nil ?_
  refine AC_cond (.tmp rfl) (fun hb7 => ?_) (fun hb7 => ?_)
  · try simp only [zA, zO, zN, zM, zP, zQ, zD, zF, gd] at hb7
    obtain rfl : f = 105 := u8_eq hb7
    have hfo : 0 ≤ x.id ∧ x.id ≤ 1073741824 := field_ok hu hfe
    refine AC_region ?_
    refine AL_p rfl rfl (S_move rfl (.tmp rfl)) ?_
    refine AL_p rfl rfl (S_field 12 rfl (.tmp rfl) (by kernel_rfl)) ?_
    refine AL_p rfl rfl (S_load 0 rfl (.tmp rfl) rfl rfl (by kernel_rfl)) ?_
    refine AL_step rfl rfl (S_call rfl (AEvs.cons (.tmp rfl) (AEvs.cons (.tmp rfl) AEvs.nil)) (ACalls.preQ (pre := [_]) (F := F) (w_NumN b u2 q2 _ c hq2 (by first | omega | (refine Nat.le_trans (Nat.add_le_add_right (wput_len _ _ _) _) ?_; (try simp only [List.length_append]); omega)) x.id (by omega) (by omega) _))) ?_
    rintro _ _ ⟨_, ⟨u2, q2, hq2, rfl, rfl⟩, rfl⟩
    refine AL_nil ?_
    refine ret_none (((b, .cells [addrB u2 b 99 3, bufAV q2 (wput c l (fieldB x 105)), .int .i64 (c)]) :: bufSt q2 5 (wput c l (fieldB x 105))) ++ F) rfl (Sub.l (List.sublist_cons_self _ _)) ⟨_, ⟨u2, q2, hq2, rfl, rfl⟩, rfl⟩ (.inr rfl)
  try simp only [zA, zO, zN, zM, zP, zQ, zD, zF, gd] at hb7
  have hf105 : ¬ f = 105 := fun h => hb7 (by rw [h]; rfl)
  refine AC_seq ?_
  refine AC_region ?_
  refine AL_p rfl rfl (S_eql rfl (.tmp rfl) (AEv.const _)) ?_
  refine AL_p rfl rfl (S_assign rfl (.tmp rfl)) ?_
  refine AL_nil ?_
  refine AC_cond (.tmp rfl) (fun hb8 => ?_) (fun hb8 => ?_)
  · try simp only [zA, zO, zN, zM, zP, zQ, zD, zF, gd] at hb8
    obtain rfl : f = 109 := u8_eq hb8
    have hfo : 0 ≤ x.most ∧ x.most ≤ 32 := field_ok hu hfe
    refine AC_region ?_
    refine AL_p rfl rfl (S_move rfl (.tmp rfl)) ?_
    refine AL_p rfl rfl (S_field 13 rfl (.tmp rfl) (by kernel_rfl)) ?_
    refine AL_p rfl rfl (S_load 0 rfl (.tmp rfl) rfl rfl (by kernel_rfl)) ?_
    refine AL_step rfl rfl (S_call rfl (AEvs.cons (.tmp rfl) (AEvs.cons (.tmp rfl) AEvs.nil)) (ACalls.preQ (pre := [_]) (F := F) (w_NumN b u2 q2 _ c hq2 (by first | omega | (refine Nat.le_trans (Nat.add_le_add_right (wput_len _ _ _) _) ?_; (try simp only [List.length_append]); omega)) x.most (by omega) (by omega) _))) ?_
    rintro _ _ ⟨_, ⟨u2, q2, hq2, rfl, rfl⟩, rfl⟩
    refine AL_nil ?_
    refine ret_none (((b, .cells [addrB u2 b 99 3, bufAV q2 (wput c l (fieldB x 109)), .int .i64 (c)]) :: bufSt q2 5 (wput c l (fieldB x 109))) ++ F) rfl (Sub.l (List.sublist_cons_self _ _)) ⟨_, ⟨u2, q2, hq2, rfl, rfl⟩, rfl⟩ (.inr rfl)
  try simp only [zA, zO, zN, zM, zP, zQ, zD, zF, gd] at hb8
  have hf109 : ¬ f = 109 := fun h => hb8 (by rw [h]; rfl)
  refine AC_seq ?_
  refine AC_region ?_
  refine AL_p rfl rfl (S_eql rfl (.tmp rfl) (AEv.const _)) ?_
  refine AL_p rfl rfl (S_assign rfl (.tmp rfl)) ?_
  refine AL_nil ?_
  refine AC_cond (.tmp rfl) (fun hb9 => ?_) (fun hb9 => ?_)
  · try simp only [zA, zO, zN, zM, zP, zQ, zD, zF, gd] at hb9
    obtain rfl : f = 100 := u8_eq hb9
    have hfo : (x.data.length : Int) ≤ 32 := field_ok hu hfe
    refine AC_region ?_
    refine AL_p rfl rfl (S_move rfl (.tmp rfl)) ?_
    refine AL_p rfl rfl (S_field 14 rfl (.tmp rfl) (by kernel_rfl)) ?_
    refine AL_p rfl rfl (S_load 0 rfl (.tmp rfl) rfl rfl (by kernel_rfl)) ?_
    refine AL_step rfl rfl (S_call rfl (AEvs.cons (.tmp rfl) (AEvs.cons (.tmp rfl) AEvs.nil)) (ACalls.preQ (pre := [_]) (F := F) (w_TextN b u2 q2 _ c hq2 (by first | omega | (refine Nat.le_trans (Nat.add_le_add_right (wput_len _ _ _) _) ?_; (try simp only [List.length_append]); omega)) x.data (by omega) (by first | omega | (refine Nat.le_trans (Nat.add_le_add_right (wput_len _ _ _) _) ?_; (try simp only [List.length_append]); omega)) _))) ?_
    rintro _ _ ⟨_, ⟨u2, q2, hq2, rfl, rfl⟩, rfl⟩
    refine AL_nil ?_
    refine ret_none (((b, .cells [addrB u2 b 99 3, bufAV q2 (wput c l (fieldB x 100)), .int .i64 (c)]) :: bufSt q2 5 (wput c l (fieldB x 100))) ++ F) rfl (Sub.l (List.sublist_cons_self _ _)) ⟨_, ⟨u2, q2, hq2, rfl, rfl⟩, rfl⟩ (.inr rfl)
  try simp only [zA, zO, zN, zM, zP, zQ, zD, zF, gd] at hb9
  have hf100 : ¬ f = 100 := fun h => hb9 (by rw [h]; rfl)
  refine AC_seq ?_
  refine AC_region ?_
  refine AL_p rfl rfl (S_eql rfl (.tmp rfl) (AEv.const _)) ?_
  refine AL_p rfl rfl (S_assign rfl (.tmp rfl)) ?_
  refine AL_nil ?_
  refine AC_cond (.tmp rfl) (fun hb10 => ?_) (fun hb10 => ?_)
  · try simp only [zA, zO, zN, zM, zP, zQ, zD, zF, gd] at hb10
    obtain rfl : f = 108 := u8_eq hb10
    have hfo : LabsOk x.sel := field_ok hu hfe
    have hfl := hfo.1
    refine AC_region ?_
    refine AL_p rfl rfl (S_move rfl (.tmp rfl)) ?_
    refine AL_p rfl rfl (S_field 15 rfl (.tmp rfl) (by kernel_rfl)) ?_
    refine AL_p rfl rfl (S_load 0 rfl (.tmp rfl) rfl rfl (by kernel_rfl)) ?_
    refine AL_step rfl rfl (S_call rfl (AEvs.cons (.tmp rfl) (AEvs.cons (.tmp rfl) AEvs.nil)) (ACalls.preQ (pre := [_]) (F := F) (PutLabels_ok b u2 q2 _ c hq2 x.sel (by first | omega | (refine Nat.le_trans (Nat.add_le_add_right (wput_len _ _ _) _) ?_; (try simp only [List.length_append]); omega)) (by omega) (fun y hy => ⟨by have := (hfo.2 y hy).1; omega, by have := (hfo.2 y hy).2; omega⟩) _))) ?_
    rintro _ _ ⟨_, ⟨u2, q2, hq2, rfl, rfl⟩, rfl⟩
    refine AL_nil ?_
    refine ret_none (((b, .cells [addrB u2 b 99 3, bufAV q2 (wput c l (fieldB x 108)), .int .i64 (c)]) :: bufSt q2 5 (wput c l (fieldB x 108))) ++ F) rfl (Sub.l (List.sublist_cons_self _ _)) ⟨_, ⟨u2, q2, hq2, rfl, rfl⟩, rfl⟩ (.inr rfl)
  try simp only [zA, zO, zN, zM, zP, zQ, zD, zF, gd] at hb10
  have hf108 : ¬ f = 108 := fun h => hb10 (by rw [h]; rfl)
  have hx : fieldB x f = [] := by unfold fieldB; simp only [hf117, hf114, hf115, hf103, hf99, hf105, hf109, hf100, hf108, if_false]
  refine AC_skip ?_
  refine ret_none (((b, .cells [addrB u2 b 99 3, bufAV q2 (l), .int .i64 (c)]) :: bufSt q2 5 (l)) ++ F) rfl (Sub.l (List.sublist_cons_self _ _)) ⟨_, ⟨u2, q2, by rw [hx, wput_nil]; exact hq2, rfl, by rw [hx, wput_nil]⟩, rfl⟩ (.inr rfl)

set_option maxRecDepth 100000 in
/-- provost/ask.Bytes -/
theorem ask_Bytes_ok (x : Cal) (hx0 : ShortA x) (hu : x.rev < 18446744073709551616) : GCalls Tryz.prog tabs 10 [calAV x] (.tup [.S (if checkA x = none then calB x else []), .int .i64 (erCode (checkA x))]) := by
  intro st hG
  refine ACalls_of (N := 42) Tryz.func10 (by kernel_rfl) rfl rfl rfl ?_
  refine AC_seq ?_
  refine AC_region ?_
  refine AL_step rfl rfl (S_box rfl (.tmp rfl)) ?_
  rintro _ _ ⟨b1, rfl, rfl⟩
  refine AL_p rfl rfl (S_assign rfl (AEv.S _)) ?_
  refine AL_p rfl rfl (S_assign rfl (AEv.const _)) ?_
  refine AL_nil ?_
  refine AC_seq ?_
  refine AC_seq ?_
  refine AC_region ?_
  refine AL_p rfl rfl (S_loadN (m := 16) 0 rfl (.tmp rfl) rfl (by kernel_rfl) (by first | exact Nat.le_of_ble_eq_true rfl | (simp; omega) | simp)) ?_
  refine AL_p rfl rfl (S_gcall rfl (AEvs.cons (.tmp rfl) AEvs.nil) ((ask_Check_ok x hx0) _ (fun p hp => by repeat (first | exact hG p hp | refine List.mem_cons_of_mem _ ?_ | refine List.mem_append_right _ ?_)))) ?_
  refine AL_p rfl rfl (S_assign rfl (.tmp rfl)) ?_
  refine AL_nil ?_
  refine AC_seq ?_
  refine AC_region ?_
  refine AL_p rfl rfl (S_move rfl (.tmp rfl)) ?_
  refine AL_p rfl rfl (S_neqE (er_is 31 143 (checkA x)) rfl (.tmp rfl) (by kernel_rfl)) ?_
  refine AL_nil ?_
  refine AC_cond (.tmp rfl) (fun hb2 => ?_) (fun hb2 => ?_)
  · try simp only [zA, zO, zN, zM, zP, zQ, zD, zF, gd] at hb2
    have hk : ¬ checkA x = none := fun h => by rw [h] at hb2; simp at hb2
    refine AC_seq ?_
    refine AC_region ?_
    refine AL_p rfl rfl (S_move rfl (.tmp rfl)) ?_
    refine AL_p rfl rfl (S_gcall rfl (AEvs.cons (.tmp rfl) AEvs.nil) ((fail_Code_ok (checkA x)) _ (fun p hp => by repeat (first | exact hG p hp | refine List.mem_cons_of_mem _ ?_ | refine List.mem_append_right _ ?_)))) ?_
    refine AL_p rfl rfl (S_assign rfl (AEv.S _)) ?_
    refine AL_p rfl rfl (S_assign rfl (.tmp rfl)) ?_
    refine AL_nil ?_
    refine AC_ret ?_
    refine ret_tmps (ts := [2, 3]) st rfl (by decide) rfl (Sub.l (List.sublist_cons_self _ _)) (Conv.refl (Sub.l (List.sublist_cons_self _ _)) _) ⟨by rw [if_neg hk] <;> rfl, rfl⟩ (.inl rfl)
  try simp only [zA, zO, zN, zM, zP, zQ, zD, zF, gd] at hb2
  have hk : checkA x = none := by simpa using hb2
  obtain ⟨hcal, hff⟩ := checkA_ok hu hk
  have hk1 := hcal.1.1
  have hk2 := hcal.1.2
  have hfw := fields_few x.kind.toNat
  have hkl := numB_len (n := x.kind) (by omega)
  have h00 : ([] : List UInt8).length = 0 := rfl
  refine AC_skip ?_
  refine AC_seq ?_
  refine AC_region ?_
  refine AL_step rfl rfl (S_call rfl AEvs.nil (wire_Write_ok _)) ?_
  rintro _ _ ⟨_, ⟨b4, rfl, rfl⟩, rfl⟩
  refine AL_p rfl rfl (S_assign rfl (.tmp rfl)) ?_
  refine AL_nil ?_
  refine AC_seq ?_
  refine AC_region ?_
  refine AL_p rfl rfl (S_move rfl (.tmp rfl)) ?_
  refine AL_p rfl rfl (S_field 0 rfl (.tmp rfl) (by kernel_rfl)) ?_
  refine AL_p rfl rfl (S_load 1 rfl (.tmp rfl) rfl rfl (by kernel_rfl)) ?_
  refine AL_step rfl rfl (S_call rfl (AEvs.cons (.tmp rfl) (AEvs.cons (.tmp rfl) AEvs.nil)) (w_NumN b4 false .nil [] 0 rfl (by decide) x.kind (by omega) (by omega) _)) ?_
  rintro _ _ ⟨_, ⟨u2, q2, hq2, rfl, rfl⟩, rfl⟩
  refine AL_nil ?_
  refine AC_seq ?_
  refine AC_seq ?_
  refine AC_region ?_
  refine AL_p rfl rfl (S_field 0 rfl (.tmp rfl) (by kernel_rfl)) ?_
  refine AL_p rfl rfl (S_loadM rfl (.tmp rfl) (by repeat (first | exact List.mem_cons_self | refine List.mem_append_right _ ?_ | refine List.mem_cons_of_mem _ ?_)) rfl (by kernel_rfl)) ?_
  refine AL_p rfl rfl (S_elemA (e := 57) (len := 13) (i := x.kind) 2 rfl (AEv.global _) (.tmp rfl) (by kernel_rfl) (by kernel_rfl) (by omega) (by omega)) ?_
  refine AL_p rfl rfl (S_field 1 rfl (.tmp rfl) (by kernel_rfl)) ?_
  refine AL_p rfl rfl (S_loadK (vs := kindsV) (u := .string ⟨(kindA x.kind.toNat).2.toArray⟩) rfl (.tmp rfl) (by repeat (first | exact hG _ tab_kinds | exact List.mem_cons_self | refine List.mem_append_right _ ?_ | refine List.mem_cons_of_mem _ ?_)) (kindT_fields (by omega) (by omega)) (by kernel_rfl)) ?_
  refine AL_p rfl rfl (S_lenS (ts := #[]) rfl (.tmp rfl) (by kernel_rfl)) ?_
  refine AL_p rfl rfl (S_move rfl (AEv.const _)) ?_
  refine AL_nil ?_
  refine AC_block ?_
  refine AC_loopK (G := Nat × Bool × Buf) [(1, _), (2, _), (3, _), (5, _), (23, _)] (fun g => g.1 ≤ (kindA x.kind.toNat).2.length ∧ g.2.2.ok (wput 0 [] (numB x.kind ++ ((kindA x.kind.toNat).2.take g.1).flatMap (fieldB x)))) (fun g => [(24, .int .i64 (g.1 : Int))]) (fun g => ((b4, .cells [addrB g.2.1 b4 99 3, bufAV g.2.2 (wput 0 [] (numB x.kind ++ ((kindA x.kind.toNat).2.take g.1).flatMap (fieldB x))), .int .i64 (0)]) :: bufSt g.2.2 5 (wput 0 [] (numB x.kind ++ ((kindA x.kind.toNat).2.take g.1).flatMap (fieldB x)))) ++ ((b1, .cells (calL x)) :: st)) (fun g => (kindA x.kind.toNat).2.length - g.1) ((0, u2, q2)) (⟨Nat.zero_le _, by simpa using hq2⟩) (by simp only [List.take_zero, List.flatMap_nil, List.append_nil]; exact (Sub.l (List.Sublist.refl _))) (.cons rfl (Le.refl _) (.cons rfl (Le.refl _) (.cons rfl (Le.refl _) (.cons rfl (Le.refl _) (.cons rfl (Le.refl _) .nil))))) (.cons rfl (by first | exact Le.refl _ | exact Le.nils | exact Le.row _ _ _ _ | exact Le.of_eq (by first | rfl | (simp; done) | (push_cast; rfl) | (simp; omega))) .nil) ?_
  rintro ⟨i, u2, q2⟩ ⟨hi, hq2⟩
  try dsimp only
  simp only [List.cons_append, List.nil_append]
  dsimp only at hi hq2
  have hfm := flatB_len (e := fieldB x) (B := 20000) (l := (kindA x.kind.toNat).2.take i) fun f hf => fieldB_few hu (hff f (List.mem_of_mem_take hf))
  rw [List.length_take, show min i (kindA x.kind.toNat).2.length = i by omega] at hfm
  refine AC_seq ?_
  refine AC_region ?_
  refine AL_p rfl rfl (S_lss rfl (.tmp rfl) (.tmp rfl)) ?_
  refine AL_nil ?_
  refine AC_seq ?_
  refine AC_cond (.tmp rfl) (fun hb3 => ?_) (fun hb3 => ?_)
  · try simp only [zA, zO, zN, zM, zP, zQ, zD, zF, gd] at hb3
    have hil : i < (kindA x.kind.toNat).2.length := by omega
    refine AC_skip ?_
    refine AC_seq ?_
    refine AC_block ?_
    refine AC_seq ?_
    refine AC_region ?_
    refine AL_p rfl rfl (S_move rfl (.tmp rfl)) ?_
    refine AL_p rfl rfl (S_assign rfl (.tmp rfl)) ?_
    refine AL_nil ?_
    refine AC_plan (σ := [(0, 0), (1, 0), (2, 0), (3, 0), (4, 0), (5, 0), (6, 0), (7, 0), (8, 0), (9, 2)]) (by kernel_rfl) ((b1, Ob.cells (calL x)) :: Gs tabs) (by kernel_rfl) (fun r hr => by
      rcases List.mem_cons.1 hr with rfl | hr
      · repeat (first | exact List.mem_cons_self | refine List.mem_append_right _ ?_ | refine List.mem_cons_of_mem _ ?_)
      · repeat (first | exact hG r hr | refine List.mem_append_right _ ?_ | refine List.mem_cons_of_mem _ ?_)) ?_
    refine AG.f rfl rfl (fun st' hst => Q_p rfl (S_move rfl (.tmp rfl))) ?_
    refine AG.f rfl rfl (fun st' hst => Q_p rfl (S_loadNM (m := 16) rfl (.tmp rfl) (hst _ (List.mem_of_getElem? (i := 0) rfl)) (by kernel_rfl) (by first | exact Nat.le_of_ble_eq_true rfl | (simp; omega) | simp))) ?_
    refine AG.f rfl rfl (fun st' hst => Q_p rfl (S_field 0 rfl (.tmp rfl) (by kernel_rfl))) ?_
    refine AG.f rfl rfl (fun st' hst => Q_p rfl (S_loadM rfl (.tmp rfl) (hst _ (List.mem_of_getElem? (i := 0) rfl)) rfl (by kernel_rfl))) ?_
    refine AG.f rfl rfl (fun st' hst => Q_p rfl (S_elemA (e := 57) (len := 13) (i := x.kind) 2 rfl (AEv.global _) (.tmp rfl) (by kernel_rfl) (by kernel_rfl) (by omega) (by omega))) ?_
    refine AG.f rfl rfl (fun st' hst => Q_p rfl (S_field 1 rfl (.tmp rfl) (by kernel_rfl))) ?_
    refine AG.f rfl rfl (fun st' hst => Q_p rfl (S_loadK (vs := kindsV) (u := .string ⟨(kindA x.kind.toNat).2.toArray⟩) rfl (.tmp rfl) (hst _ (List.mem_cons_of_mem _ tab_kinds)) (kindT_fields (by omega) (by omega)) (by kernel_rfl))) ?_
    refine AG.f rfl rfl (fun st' hst => Q_p rfl (S_move rfl (.tmp rfl))) ?_
    refine AG.f rfl rfl (fun st' hst => Q_p rfl ((S_index rfl (.tmp rfl) (.tmp rfl) (by kernel_rfl) (by omega) (by omega)).ofV (congrArg _ (atL_get hil)))) ?_
    refine AG.h rfl rfl rfl (S_call rfl (AEvs.cons (.tmp rfl) (AEvs.cons (.tmp rfl) (AEvs.cons (.tmp rfl) AEvs.nil))) (ask_put_ok b4 u2 q2 _ 0 hq2 (by first | omega | (refine Nat.le_trans (Nat.add_le_add_right (wput_len _ _ _) _) ?_; (try simp only [List.length_append]); omega)) x ((kindA x.kind.toNat).2[i]'hil) hx0 hu (hff _ (List.getElem_mem hil)) _ (fun r hr => List.mem_cons_of_mem _ (hG r hr)))) ?_
    rintro _ _ ⟨_, ⟨u2, q2, hq2, rfl, rfl⟩, rfl⟩
    rw [wput_wput] at hq2 ⊢
    refine AG.nil ?_
    refine AC_region ?_
    refine AL_p rfl rfl (S_addI rfl (.tmp rfl) (AEv.const _) (by omega) (by omega)) ?_
    refine AL_p rfl rfl (S_move rfl (.tmp rfl)) ?_
    refine AL_nil ?_
    refine ⟨(i + 1, u2, q2), ⟨by dsimp only; omega, by dsimp only; rw [flatB_next hil]; exact hq2⟩, by dsimp only; omega, by dsimp only; rw [flatB_next hil]; exact (Sub.l (List.Sublist.refl _)), (.cons rfl (by first | exact Le.refl _ | exact Le.nils | exact Le.row _ _ _ _ | exact Le.of_eq (by first | rfl | (simp; done) | (push_cast; rfl) | (simp; omega))) .nil), (.cons rfl (Le.refl _) (.cons rfl (Le.refl _) (.cons rfl (Le.refl _) (.cons rfl (Le.refl _) (.cons rfl (Le.refl _) .nil)))))⟩
  try simp only [zA, zO, zN, zM, zP, zQ, zD, zF, gd] at hb3
  rw [show (kindA x.kind.toNat).2.take i = (kindA x.kind.toNat).2 from List.take_of_length_le (by omega)] at hq2 ⊢
  refine AC_exit ?_
  refine AC_seq ?_
  refine AC_region ?_
  refine AL_p rfl rfl (S_move rfl (.tmp rfl)) ?_
  refine AL_step rfl rfl (S_call rfl (AEvs.cons (.tmp rfl) AEvs.nil) (w_End_ok b4 u2 q2 _ _ hq2 _)) ?_
  rintro _ _ ⟨_, ⟨cs2, rfl, rfl⟩, rfl⟩
  refine AL_p rfl rfl (S_extract 0 rfl (.tmp rfl) rfl) ?_
  refine AL_p rfl rfl (S_extract 1 rfl (.tmp rfl) rfl) ?_
  refine AL_p rfl rfl (S_assign rfl (.tmp rfl)) ?_
  refine AL_p rfl rfl (S_assign rfl (.tmp rfl)) ?_
  refine AL_nil ?_
  refine AC_ret ?_
  refine ret_tmps (ts := [2, 3]) st rfl (by decide) rfl (Sub.l ((List.sublist_cons_self _ _).trans (List.sublist_cons_self _ _))) (Conv.refl (Sub.l ((List.sublist_cons_self _ _).trans (List.sublist_cons_self _ _))) _) ⟨by rw [if_pos hk, hk] <;> rfl, rfl⟩ (.inl rfl)

end Go.Proofs.YtcbnokpgklmndaaGreatDoor

/-
The walks of Go functions in the logic AL: what each of them answers.
Conditions: those of each theorem.
-/
set_option linter.unusedVariables false
set_option linter.unusedSimpArgs false
namespace Go.Proofs.YtcbnokpgklmndaaGreatDoor
open Go.AL Go.NumSpec

set_option maxRecDepth 100000 in
set_option maxHeartbeats 2000000 in
/-- provost/ask.take -/
theorem ask_take_ok (b bc : Nat) (s : List UInt8) (c : Int) (x : Cal) (f : UInt8) (F : St) : ACalls Tryz.prog 42 [.ptr b 0, .ptr bc 0, .int .u8 (f.toNat : Int)] ([(bc, Ob.cells (calL x)), (b, Ob.cells [.S s, .int .i64 c])] ++ F) (fun v st' => ∃ foot', (v = .tup [] ∧ foot' = [(bc, Ob.cells (calL (oneR f x s c).1)), (b, Ob.cells [.S (oneR f x s c).2.1, .int .i64 (oneR f x s c).2.2])]) ∧ st' = foot' ++ F) := by
  refine ACalls_of (N := 70) Tryz.func42 (by kernel_rfl) rfl rfl rfl ?_
  refine AC_seq ?_
  refine AC_region ?_
  refine AL_p rfl rfl (S_move rfl (.tmp rfl)) ?_
  refine AL_nil ?_
  refine AC_block ?_
  refine AC_seq ?_
  refine AC_region ?_
  refine AL_p rfl rfl (S_eql rfl (.tmp rfl) (AEv.const _)) ?_
  refine AL_p rfl rfl (S_assign rfl (.tmp rfl)) ?_
  refine AL_nil ?_
  refine AC_cond (.tmp rfl) (fun hb1 => ?_) (fun hb1 => ?_)
  · try simp only [zA, zO, zN, zM, zP, zQ, zD, zF, gd] at hb1
    obtain rfl : f = 117 := u8_eq hb1
    refine AC_region ?_
    refine AL_p rfl rfl (S_move rfl (.tmp rfl)) ?_
    refine AL_p rfl rfl (S_move rfl (.tmp rfl)) ?_
    refine AL_step rfl rfl (S_call rfl (AEvs.cons (.tmp rfl) (AEvs.cons (AEv.const _) AEvs.nil)) (ACalls.preQ (pre := [_]) (F := F) (r_Num_ok b _ _ 1073741824 (by decide) _))) ?_
    rintro _ _ ⟨_, ⟨rfl, rfl⟩, rfl⟩
    refine AL_p rfl rfl (S_nilCheck rfl (.tmp rfl)) ?_
    refine AL_p rfl rfl (S_field 1 rfl (.tmp rfl) (by kernel_rfl)) ?_
    refine AL_step rfl rfl (S_store 0 rfl (.tmp rfl) (.tmp rfl) rfl (by first | exact Nat.le_of_ble_eq_true rfl | simp) rfl (by kernel_rfl)) ?_
    rintro _ _ ⟨rfl, rfl⟩
    refine AL_nil ?_
    refine ret_none ([(bc, Ob.cells (calL (oneR 117 x s c).1)), (b, Ob.cells [.S (oneR 117 x s c).2.1, .int .i64 (oneR 117 x s c).2.2])] ++ F) rfl (Sub.l (List.Sublist.refl _)) ⟨_, ⟨rfl, rfl⟩, rfl⟩ (.inr rfl)
  try simp only [zA, zO, zN, zM, zP, zQ, zD, zF, gd] at hb1
  have hf117 : ¬ f = 117 := fun h => hb1 (by rw [h]; rfl)
  refine AC_seq ?_
  refine AC_region ?_
  refine AL_p rfl rfl (S_eql rfl (.tmp rfl) (AEv.const _)) ?_
  refine AL_p rfl rfl (S_assign rfl (.tmp rfl)) ?_
  refine AL_nil ?_
  refine AC_cond (.tmp rfl) (fun hb2 => ?_) (fun hb2 => ?_)
  · try simp only [zA, zO, zN, zM, zP, zQ, zD, zF, gd] at hb2
    obtain rfl : f = 114 := u8_eq hb2
    refine AC_region ?_
    refine AL_p rfl rfl (S_move rfl (.tmp rfl)) ?_
    refine AL_p rfl rfl (S_move rfl (.tmp rfl)) ?_
    refine AL_step rfl rfl (S_call rfl (AEvs.cons (.tmp rfl) AEvs.nil) (ACalls.preQ (pre := [_]) (F := F) (r_Big_ok b _ _ _))) ?_
    rintro _ _ ⟨_, ⟨rfl, rfl⟩, rfl⟩
    refine AL_p rfl rfl (S_nilCheck rfl (.tmp rfl)) ?_
    refine AL_p rfl rfl (S_field 2 rfl (.tmp rfl) (by kernel_rfl)) ?_
    refine AL_step rfl rfl (S_store 0 rfl (.tmp rfl) (.tmp rfl) rfl (by first | exact Nat.le_of_ble_eq_true rfl | simp) rfl (by kernel_rfl)) ?_
    rintro _ _ ⟨rfl, rfl⟩
    refine AL_nil ?_
    refine ret_none ([(bc, Ob.cells (calL (oneR 114 x s c).1)), (b, Ob.cells [.S (oneR 114 x s c).2.1, .int .i64 (oneR 114 x s c).2.2])] ++ F) rfl (Sub.l (List.Sublist.refl _)) ⟨_, ⟨rfl, rfl⟩, rfl⟩ (.inr rfl)
  try simp only [zA, zO, zN, zM, zP, zQ, zD, zF, gd] at hb2
  have hf114 : ¬ f = 114 := fun h => hb2 (by rw [h]; rfl)
  refine AC_seq ?_
  refine AC_region ?_
  refine AL_p rfl rfl (S_eql rfl (.tmp rfl) (AEv.const _)) ?_
  refine AL_p rfl rfl (S_assign rfl (.tmp rfl)) ?_
  refine AL_nil ?_
  refine AC_cond (.tmp rfl) (fun hb3 => ?_) (fun hb3 => ?_)
  · try simp only [zA, zO, zN, zM, zP, zQ, zD, zF, gd] at hb3
    obtain rfl : f = 115 := u8_eq hb3
    refine AC_region ?_
    refine AL_p rfl rfl (S_move rfl (.tmp rfl)) ?_
    refine AL_p rfl rfl (S_move rfl (.tmp rfl)) ?_
    refine AL_step rfl rfl (S_call rfl (AEvs.cons (.tmp rfl) AEvs.nil) (ACalls.preQ (pre := [_]) (F := F) (pack_Raw_ok b _ _ _))) ?_
    rintro _ _ ⟨_, ⟨rfl, rfl⟩, rfl⟩
    refine AL_p rfl rfl (S_nilCheck rfl (.tmp rfl)) ?_
    refine AL_p rfl rfl (S_field 3 rfl (.tmp rfl) (by kernel_rfl)) ?_
    refine AL_step rfl rfl (S_storeN 0 rfl (.tmp rfl) (.tmp rfl) rfl (by first | exact Nat.le_of_ble_eq_true rfl | (simp; omega) | simp) (by first | rfl | simp [AV.one, Value.oneCell']) (by kernel_rfl)) ?_
    rintro _ _ ⟨rfl, rfl⟩
    refine AL_nil ?_
    refine ret_none ([(bc, Ob.cells (calL (oneR 115 x s c).1)), (b, Ob.cells [.S (oneR 115 x s c).2.1, .int .i64 (oneR 115 x s c).2.2])] ++ F) rfl (Sub.l (List.Sublist.refl _)) ⟨_, ⟨rfl, rfl⟩, rfl⟩ (.inr rfl)
  try simp only [zA, zO, zN, zM, zP, zQ, zD, zF, gd] at hb3
  have hf115 : ¬ f = 115 := fun h => hb3 (by rw [h]; rfl)
  refine AC_seq ?_
  refine AC_region ?_
  refine AL_p rfl rfl (S_eql rfl (.tmp rfl) (AEv.const _)) ?_
  refine AL_p rfl rfl (S_assign rfl (.tmp rfl)) ?_
  refine AL_nil ?_
  refine AC_cond (.tmp rfl) (fun hb4 => ?_) (fun hb4 => ?_)
  · try simp only [zA, zO, zN, zM, zP, zQ, zD, zF, gd] at hb4
    obtain rfl : f = 103 := u8_eq hb4
    refine AC_region ?_
    refine AL_p rfl rfl (S_move rfl (.tmp rfl)) ?_
    refine AL_p rfl rfl (S_move rfl (.tmp rfl)) ?_
    refine AL_step rfl rfl (S_call rfl (AEvs.cons (.tmp rfl) (AEvs.cons (AEv.const _) AEvs.nil)) (ACalls.preQ (pre := [_]) (F := F) (r_Num_ok b _ _ 1000 (by decide) _))) ?_
    rintro _ _ ⟨_, ⟨rfl, rfl⟩, rfl⟩
    refine AL_p rfl rfl (S_nilCheck rfl (.tmp rfl)) ?_
    refine AL_p rfl rfl (S_field 10 rfl (.tmp rfl) (by kernel_rfl)) ?_
    refine AL_step rfl rfl (S_store 0 rfl (.tmp rfl) (.tmp rfl) rfl (by first | exact Nat.le_of_ble_eq_true rfl | simp) rfl (by kernel_rfl)) ?_
    rintro _ _ ⟨rfl, rfl⟩
    refine AL_nil ?_
    refine ret_none ([(bc, Ob.cells (calL (oneR 103 x s c).1)), (b, Ob.cells [.S (oneR 103 x s c).2.1, .int .i64 (oneR 103 x s c).2.2])] ++ F) rfl (Sub.l (List.Sublist.refl _)) ⟨_, ⟨rfl, rfl⟩, rfl⟩ (.inr rfl)
  try simp only [zA, zO, zN, zM, zP, zQ, zD, zF, gd] at hb4
  have hf103 : ¬ f = 103 := fun h => hb4 (by rw [h]; rfl)
  refine AC_seq ?_
  refine AC_region ?_
  refine AL_p rfl rfl (S_eql rfl (.tmp rfl) (AEv.const _)) ?_
  refine AL_p rfl rfl (S_assign rfl (.tmp rfl)) ?_
  refine AL_nil ?_
  refine AC_cond (.tmp rfl) (fun hb5 => ?_) (fun hb5 => ?_)
  · try simp only [zA, zO, zN, zM, zP, zQ, zD, zF, gd] at hb5
    obtain rfl : f = 99 := u8_eq hb5
    refine AC_region ?_
    refine AL_p rfl rfl (S_move rfl (.tmp rfl)) ?_
    refine AL_p rfl rfl (S_move rfl (.tmp rfl)) ?_
    refine AL_step rfl rfl (S_call rfl (AEvs.cons (.tmp rfl) (AEvs.cons (AEv.const _) AEvs.nil)) (ACalls.preQ (pre := [_]) (F := F) (r_Num_ok b _ _ 3 (by decide) _))) ?_
    rintro _ _ ⟨_, ⟨rfl, rfl⟩, rfl⟩
    refine AL_p rfl rfl (S_nilCheck rfl (.tmp rfl)) ?_
    refine AL_p rfl rfl (S_field 11 rfl (.tmp rfl) (by kernel_rfl)) ?_
    refine AL_step rfl rfl (S_store 0 rfl (.tmp rfl) (.tmp rfl) rfl (by first | exact Nat.le_of_ble_eq_true rfl | simp) rfl (by kernel_rfl)) ?_
    rintro _ _ ⟨rfl, rfl⟩
    refine AL_nil ?_
    refine ret_none ([(bc, Ob.cells (calL (oneR 99 x s c).1)), (b, Ob.cells [.S (oneR 99 x s c).2.1, .int .i64 (oneR 99 x s c).2.2])] ++ F) rfl (Sub.l (List.Sublist.refl _)) ⟨_, ⟨rfl, rfl⟩, rfl⟩ (.inr rfl)
  try simp only [zA, zO, zN, zM, zP, zQ, zD, zF, gd] at hb5
  have hf99 : ¬ f = 99 := fun h => hb5 (by rw [h]; rfl)
  refine AC_seq ?_
  refine AC_region ?_
  refine AL_p rfl rfl (S_eql rfl (.tmp rfl) (AEv.const _)) ?_
  refine AL_p rfl rfl (S_assign rfl (.tmp rfl)) ?_
  refine AL_nil ?_
  refine AC_cond (.tmp rfl) (fun hb6 => ?_) (fun hb6 => ?_)
  · try simp only [zA, zO, zN, zM, zP, zQ, zD, zF, gd] at hb6
    obtain rfl : f = 105 := u8_eq hb6
    refine AC_region ?_
    refine AL_p rfl rfl (S_move rfl (.tmp rfl)) ?_
    refine AL_p rfl rfl (S_move rfl (.tmp rfl)) ?_
    refine AL_step rfl rfl (S_call rfl (AEvs.cons (.tmp rfl) (AEvs.cons (AEv.const _) AEvs.nil)) (ACalls.preQ (pre := [_]) (F := F) (r_Num_ok b _ _ 1073741824 (by decide) _))) ?_
    rintro _ _ ⟨_, ⟨rfl, rfl⟩, rfl⟩
    refine AL_p rfl rfl (S_nilCheck rfl (.tmp rfl)) ?_
    refine AL_p rfl rfl (S_field 12 rfl (.tmp rfl) (by kernel_rfl)) ?_
    refine AL_step rfl rfl (S_store 0 rfl (.tmp rfl) (.tmp rfl) rfl (by first | exact Nat.le_of_ble_eq_true rfl | simp) rfl (by kernel_rfl)) ?_
    rintro _ _ ⟨rfl, rfl⟩
    refine AL_nil ?_
    refine ret_none ([(bc, Ob.cells (calL (oneR 105 x s c).1)), (b, Ob.cells [.S (oneR 105 x s c).2.1, .int .i64 (oneR 105 x s c).2.2])] ++ F) rfl (Sub.l (List.Sublist.refl _)) ⟨_, ⟨rfl, rfl⟩, rfl⟩ (.inr rfl)
  try simp only [zA, zO, zN, zM, zP, zQ, zD, zF, gd] at hb6
  have hf105 : ¬ f = 105 := fun h => hb6 (by rw [h]; rfl)
  refine AC_seq ?_
  refine AC_region ?_
  refine AL_p rfl rfl (S_eql rfl (.tmp rfl) (AEv.const _)) ?_
  refine AL_p rfl rfl (S_assign rfl (.tmp rfl)) ?_
  refine AL_nil ?_
  refine AC_cond (.tmp rfl) (fun hb7 => ?_) (fun hb7 => ?_)
  · try simp only [zA, zO, zN, zM, zP, zQ, zD, zF, gd] at hb7
    obtain rfl : f = 109 := u8_eq hb7
    refine AC_region ?_
    refine AL_p rfl rfl (S_move rfl (.tmp rfl)) ?_
    refine AL_p rfl rfl (S_move rfl (.tmp rfl)) ?_
    refine AL_step rfl rfl (S_call rfl (AEvs.cons (.tmp rfl) (AEvs.cons (AEv.const _) AEvs.nil)) (ACalls.preQ (pre := [_]) (F := F) (r_Num_ok b _ _ 32 (by decide) _))) ?_
    rintro _ _ ⟨_, ⟨rfl, rfl⟩, rfl⟩
    refine AL_p rfl rfl (S_nilCheck rfl (.tmp rfl)) ?_
    refine AL_p rfl rfl (S_field 13 rfl (.tmp rfl) (by kernel_rfl)) ?_
    refine AL_step rfl rfl (S_store 0 rfl (.tmp rfl) (.tmp rfl) rfl (by first | exact Nat.le_of_ble_eq_true rfl | simp) rfl (by kernel_rfl)) ?_
    rintro _ _ ⟨rfl, rfl⟩
    refine AL_nil ?_
    refine ret_none ([(bc, Ob.cells (calL (oneR 109 x s c).1)), (b, Ob.cells [.S (oneR 109 x s c).2.1, .int .i64 (oneR 109 x s c).2.2])] ++ F) rfl (Sub.l (List.Sublist.refl _)) ⟨_, ⟨rfl, rfl⟩, rfl⟩ (.inr rfl)
  try simp only [zA, zO, zN, zM, zP, zQ, zD, zF, gd] at hb7
  have hf109 : ¬ f = 109 := fun h => hb7 (by rw [h]; rfl)
  refine AC_seq ?_
  refine AC_region ?_
  refine AL_p rfl rfl (S_eql rfl (.tmp rfl) (AEv.const _)) ?_
  refine AL_p rfl rfl (S_assign rfl (.tmp rfl)) ?_
  refine AL_nil ?_
  refine AC_cond (.tmp rfl) (fun hb8 => ?_) (fun hb8 => ?_)
  · try simp only [zA, zO, zN, zM, zP, zQ, zD, zF, gd] at hb8
    obtain rfl : f = 100 := u8_eq hb8
    refine AC_region ?_
    refine AL_p rfl rfl (S_move rfl (.tmp rfl)) ?_
    refine AL_p rfl rfl (S_move rfl (.tmp rfl)) ?_
    refine AL_step rfl rfl (S_call rfl (AEvs.cons (.tmp rfl) (AEvs.cons (AEv.const _) AEvs.nil)) (ACalls.preQ (pre := [_]) (F := F) (r_Text_ok b _ _ 32 (by decide) _))) ?_
    rintro _ _ ⟨_, ⟨rfl, rfl⟩, rfl⟩
    refine AL_p rfl rfl (S_nilCheck rfl (.tmp rfl)) ?_
    refine AL_p rfl rfl (S_field 14 rfl (.tmp rfl) (by kernel_rfl)) ?_
    refine AL_step rfl rfl (S_store 0 rfl (.tmp rfl) (.tmp rfl) rfl (by first | exact Nat.le_of_ble_eq_true rfl | simp) rfl (by kernel_rfl)) ?_
    rintro _ _ ⟨rfl, rfl⟩
    refine AL_nil ?_
    refine ret_none ([(bc, Ob.cells (calL (oneR 100 x s c).1)), (b, Ob.cells [.S (oneR 100 x s c).2.1, .int .i64 (oneR 100 x s c).2.2])] ++ F) rfl (Sub.l (List.Sublist.refl _)) ⟨_, ⟨rfl, rfl⟩, rfl⟩ (.inr rfl)
  try simp only [zA, zO, zN, zM, zP, zQ, zD, zF, gd] at hb8
  have hf100 : ¬ f = 100 := fun h => hb8 (by rw [h]; rfl)
  refine AC_seq ?_
  refine AC_region ?_
  refine AL_p rfl rfl (S_eql rfl (.tmp rfl) (AEv.const _)) ?_
  refine AL_p rfl rfl (S_assign rfl (.tmp rfl)) ?_
  refine AL_nil ?_
  refine AC_cond (.tmp rfl) (fun hb9 => ?_) (fun hb9 => ?_)
  · try simp only [zA, zO, zN, zM, zP, zQ, zD, zF, gd] at hb9
    obtain rfl : f = 108 := u8_eq hb9
    refine AC_region ?_
    refine AL_p rfl rfl (S_move rfl (.tmp rfl)) ?_
    refine AL_p rfl rfl (S_move rfl (.tmp rfl)) ?_
    refine AL_step rfl rfl (S_call rfl (AEvs.cons (.tmp rfl) AEvs.nil) (ACalls.preQ (pre := [_]) (F := F) (TakeLabels_ok b _ _ _))) ?_
    rintro _ _ ⟨_, ⟨rfl, rfl⟩, rfl⟩
    refine AL_p rfl rfl (S_nilCheck rfl (.tmp rfl)) ?_
    refine AL_p rfl rfl (S_field 15 rfl (.tmp rfl) (by kernel_rfl)) ?_
    refine AL_step rfl rfl (S_store 0 rfl (.tmp rfl) (.tmp rfl) rfl (by first | exact Nat.le_of_ble_eq_true rfl | simp) rfl (by kernel_rfl)) ?_
    rintro _ _ ⟨rfl, rfl⟩
    refine AL_nil ?_
    refine ret_none ([(bc, Ob.cells (calL (oneR 108 x s c).1)), (b, Ob.cells [.S (oneR 108 x s c).2.1, .int .i64 (oneR 108 x s c).2.2])] ++ F) rfl (Sub.l (List.Sublist.refl _)) ⟨_, ⟨rfl, rfl⟩, rfl⟩ (.inr rfl)
  try simp only [zA, zO, zN, zM, zP, zQ, zD, zF, gd] at hb9
  have hf108 : ¬ f = 108 := fun h => hb9 (by rw [h]; rfl)
  have hx : oneR f x s c = (x, s, c) := by unfold oneR; simp only [hf117, hf114, hf115, hf103, hf99, hf105, hf109, hf100, hf108, if_false]
  refine AC_skip ?_
  refine ret_none ([(bc, Ob.cells (calL x)), (b, Ob.cells [.S s, .int .i64 c])] ++ F) rfl (Sub.l (List.Sublist.refl _)) ⟨_, ⟨rfl, by rw [hx]⟩, rfl⟩ (.inr rfl)

end Go.Proofs.YtcbnokpgklmndaaGreatDoor

/-
The walks of Go functions in the logic AL: what each of them answers.
Conditions: those of each theorem.
-/
set_option linter.unusedVariables false
set_option linter.unusedSimpArgs false
namespace Go.Proofs.YtcbnokpgklmndaaGreatDoor
open Go.AL Go.NumSpec

set_option maxRecDepth 100000 in
set_option maxHeartbeats 2000000 in
/-- provost/ask.Of -/
theorem ask_Of_ok (s : List UInt8) : GCalls Tryz.prog tabs 14 [.S s] (.tup [calAV (ofA s), erV 31 143 (ofAE s)]) := by
  intro st hG
  refine ACalls_of (N := 59) Tryz.func14 (by kernel_rfl) rfl rfl rfl ?_
  have hfw := fields_few (numR s 0 12).1.toNat
  refine AC_seq ?_
  refine AC_region ?_
  refine AL_step rfl rfl (S_alloc [.int .i64 0, .int .i64 0, .int .u64 0, .string ⟨#[]⟩, .slice none 0 0, .slice none 0 0, .slice none 0 0, .int .i64 0, .int .i64 0, .int .i64 0, .int .i64 0, .int .i64 0, .int .i64 0, .int .i64 0, .string ⟨#[]⟩, .slice none 0 0] rfl (by kernel_rfl)) ?_
  rintro _ _ ⟨b2, rfl, rfl⟩
  refine AL_p rfl rfl (S_assign rfl (AEv.const _)) ?_
  refine AL_nil ?_
  refine AC_seq ?_
  refine AC_region ?_
  refine AL_p rfl rfl (S_move rfl (.tmp rfl)) ?_
  refine AL_step rfl rfl (S_call rfl (AEvs.cons (.tmp rfl) AEvs.nil) (wire_Read_ok s _)) ?_
  rintro _ _ ⟨_, ⟨b4, rfl, rfl⟩, rfl⟩
  refine AL_p rfl rfl (S_assign rfl (.tmp rfl)) ?_
  refine AL_nil ?_
  refine AC_seq ?_
  refine AC_region ?_
  refine AL_p rfl rfl (S_move rfl (.tmp rfl)) ?_
  refine AL_step rfl rfl (S_call rfl (AEvs.cons (.tmp rfl) (AEvs.cons (AEv.const _) AEvs.nil)) (r_Num_ok b4 s 0 12 (by decide) _)) ?_
  rintro _ _ ⟨_, ⟨rfl, rfl⟩, rfl⟩
  refine AL_p rfl rfl (S_build (t := 28) (pl := [(0, 1), (1, 1), (2, 1), (3, 7), (10, 1), (11, 1), (12, 1), (13, 1), (14, 1), (15, 1)]) (zs := [.int .i64 0, .int .i64 0, .int .u64 0, .string ⟨#[]⟩, .slice none 0 0, .slice none 0 0, .slice none 0 0, .int .i64 0, .int .i64 0, .int .i64 0, .int .i64 0, .int .i64 0, .int .i64 0, .int .i64 0, .string ⟨#[]⟩, .slice none 0 0]) rfl (AEvs.cons (.tmp rfl) AEvs.nil) (by kernel_rfl) rfl) ?_
  refine AL_step rfl rfl (S_alloc [.int .i64 0, .int .i64 0, .int .u64 0, .string ⟨#[]⟩, .slice none 0 0, .slice none 0 0, .slice none 0 0, .int .i64 0, .int .i64 0, .int .i64 0, .int .i64 0, .int .i64 0, .int .i64 0, .int .i64 0, .string ⟨#[]⟩, .slice none 0 0] rfl (by kernel_rfl)) ?_
  rintro _ _ ⟨b5, rfl, rfl⟩
  refine AL_step rfl rfl (S_storeW 0 rfl (.tmp rfl) ((AEv.tmp rfl).le (z := calAV (cal0 (numR s 0 12).1)) (by exact (Les.agg (.cons (Le.refl _) (.cons (Le.refl _) (.cons (Le.refl _) (.cons (Le.refl _) (.cons (Le.nils) (.cons (Le.nils) (.cons (Le.nils) (.cons (Le.refl _) (.cons (Le.refl _) (.cons (Le.refl _) (.cons (Le.refl _) (.cons (Le.refl _) (.cons (Le.refl _) (.cons (Le.refl _) (.cons (Le.refl _) (.cons (Le.nils) .nil))))))))))))))))))) rfl rfl rfl (by kernel_rfl)) ?_
  rintro _ _ ⟨rfl, rfl⟩
  refine AL_nil ?_
  refine AC_seq ?_
  refine AC_region ?_
  refine AL_p rfl rfl (S_field 0 rfl (.tmp rfl) (by kernel_rfl)) ?_
  refine AL_p rfl rfl (S_load 0 rfl (.tmp rfl) rfl rfl (by kernel_rfl)) ?_
  refine AL_p rfl rfl (S_gcall rfl (AEvs.cons (.tmp rfl) AEvs.nil) ((ask_of_ok (numR s 0 12).1) _ (fun p hp => by repeat (first | exact hG p hp | refine List.mem_cons_of_mem _ ?_ | refine List.mem_append_right _ ?_)))) ?_
  refine AL_p rfl rfl (S_move rfl (.tmp rfl)) ?_
  refine AL_p rfl rfl (S_extract 0 rfl (.tmp rfl) rfl) ?_
  refine AL_p rfl rfl (S_extract 1 rfl (.tmp rfl) rfl) ?_
  refine AL_step rfl rfl (S_alloc [.string ⟨#[]⟩, .string ⟨#[]⟩] rfl (by kernel_rfl)) ?_
  rintro _ _ ⟨b6, rfl, rfl⟩
  refine AL_step rfl rfl (S_storeW 0 rfl (.tmp rfl) (.tmp rfl) rfl rfl rfl (by kernel_rfl)) ?_
  rintro _ _ ⟨rfl, rfl⟩
  refine AL_p rfl rfl (S_assign rfl (.tmp rfl)) ?_
  refine AL_nil ?_
  refine AC_seq ?_
  refine AC_seq ?_
  refine AC_region ?_
  refine AL_p rfl rfl (S_field 1 rfl (.tmp rfl) (by kernel_rfl)) ?_
  refine AL_p rfl rfl (S_load 0 rfl (.tmp rfl) rfl rfl (by kernel_rfl)) ?_
  refine AL_p rfl rfl (S_lenS (ts := #[]) rfl (.tmp rfl) (by kernel_rfl)) ?_
  refine AL_p rfl rfl (S_move rfl (AEv.const _)) ?_
  refine AL_nil ?_
  refine AC_block ?_
  refine AC_loopK (G := Nat) [(2, _), (3, _), (4, _), (5, _), (6, _), (23, _)] (fun g => g ≤ (kindA (numR s 0 12).1.toNat).2.length) (fun g => [(24, .int .i64 (g : Int))]) (fun g => (b6, .cells [.S (kindA (numR s 0 12).1.toNat).1, .S (kindA (numR s 0 12).1.toNat).2]) :: (b5, .cells (calL (rdF ((kindA (numR s 0 12).1.toNat).2.take g) (cal0 (numR s 0 12).1) (numR s 0 12).2.1 (numR s 0 12).2.2).1)) :: (b4, .cells [.S (rdF ((kindA (numR s 0 12).1.toNat).2.take g) (cal0 (numR s 0 12).1) (numR s 0 12).2.1 (numR s 0 12).2.2).2.1, .int .i64 (rdF ((kindA (numR s 0 12).1.toNat).2.take g) (cal0 (numR s 0 12).1) (numR s 0 12).2.1 (numR s 0 12).2.2).2.2]) :: (b2, .cells [.int .i64 0, .int .i64 0, .int .u64 0, .S [], .nils, .nils, .nils, .int .i64 0, .int .i64 0, .int .i64 0, .int .i64 0, .int .i64 0, .int .i64 0, .int .i64 0, .S [], .nils]) :: st) (fun g => (kindA (numR s 0 12).1.toNat).2.length - g) (0) (Nat.zero_le _) (Sub.l (List.Sublist.refl _)) (.cons rfl (Le.refl _) (.cons rfl (Le.refl _) (.cons rfl (Le.refl _) (.cons rfl (Le.refl _) (.cons rfl (Le.refl _) (.cons rfl (Le.refl _) .nil)))))) (.cons rfl (by first | exact Le.refl _ | exact Le.nils | exact Le.row _ _ _ _ | exact Le.of_eq (by first | rfl | (simp; done) | (push_cast; rfl) | (simp; omega))) .nil) ?_
  rintro i hi
  try dsimp only
  simp only [List.cons_append, List.nil_append]
  refine AC_seq ?_
  refine AC_region ?_
  refine AL_p rfl rfl (S_lss rfl (.tmp rfl) (.tmp rfl)) ?_
  refine AL_nil ?_
  refine AC_seq ?_
  refine AC_cond (.tmp rfl) (fun hb4 => ?_) (fun hb4 => ?_)
  · try simp only [zA, zO, zN, zM, zP, zQ, zD, zF, gd] at hb4
    have hil : i < (kindA (numR s 0 12).1.toNat).2.length := by omega
    refine AC_skip ?_
    refine AC_seq ?_
    refine AC_block ?_
    refine AC_seq ?_
    refine AC_region ?_
    refine AL_p rfl rfl (S_move rfl (.tmp rfl)) ?_
    refine AL_p rfl rfl (S_assign rfl (.tmp rfl)) ?_
    refine AL_nil ?_
    refine AC_region ?_
    refine AL_p rfl rfl (S_move rfl (.tmp rfl)) ?_
    refine AL_p rfl rfl (S_field 1 rfl (.tmp rfl) (by kernel_rfl)) ?_
    refine AL_p rfl rfl (S_load 0 rfl (.tmp rfl) rfl rfl (by kernel_rfl)) ?_
    refine AL_p rfl rfl (S_move rfl (.tmp rfl)) ?_
    refine AL_p rfl rfl ((S_index rfl (.tmp rfl) (.tmp rfl) (by kernel_rfl) (by omega) (by omega)).ofV (congrArg _ (atL_get hil))) ?_
    refine AL_step rfl rfl (S_call rfl (AEvs.cons (.tmp rfl) (AEvs.cons (.tmp rfl) (AEvs.cons (.tmp rfl) AEvs.nil))) (ACalls.preQ (pre := [_]) (F := _ :: st) (ask_take_ok b4 b5 (rdF ((kindA (numR s 0 12).1.toNat).2.take i) (cal0 (numR s 0 12).1) (numR s 0 12).2.1 (numR s 0 12).2.2).2.1 (rdF ((kindA (numR s 0 12).1.toNat).2.take i) (cal0 (numR s 0 12).1) (numR s 0 12).2.1 (numR s 0 12).2.2).2.2 (rdF ((kindA (numR s 0 12).1.toNat).2.take i) (cal0 (numR s 0 12).1) (numR s 0 12).2.1 (numR s 0 12).2.2).1 ((kindA (numR s 0 12).1.toNat).2[i]'hil) _))) ?_
    rintro _ _ ⟨_, ⟨rfl, rfl⟩, rfl⟩
    refine AL_nil ?_
    refine AC_region ?_
    refine AL_p rfl rfl (S_addI rfl (.tmp rfl) (AEv.const _) (by omega) (by omega)) ?_
    refine AL_p rfl rfl (S_move rfl (.tmp rfl)) ?_
    refine AL_nil ?_
    refine ⟨i + 1, by omega, by omega, by rw [rdF_take hil]; exact (Sub.l (List.Sublist.refl _)), (.cons rfl (by first | exact Le.refl _ | exact Le.nils | exact Le.row _ _ _ _ | exact Le.of_eq (by first | rfl | (simp; done) | (push_cast; rfl) | (simp; omega))) .nil), (.cons rfl (Le.refl _) (.cons rfl (Le.refl _) (.cons rfl (Le.refl _) (.cons rfl (Le.refl _) (.cons rfl (Le.refl _) (.cons rfl (Le.refl _) .nil))))))⟩
  try simp only [zA, zO, zN, zM, zP, zQ, zD, zF, gd] at hb4
  rw [show (kindA (numR s 0 12).1.toNat).2.take i = (kindA (numR s 0 12).1.toNat).2 from List.take_of_length_le (by omega), ← calRd_at s]
  refine AC_exit ?_
  refine AC_seq ?_
  refine AC_region ?_
  refine AL_p rfl rfl (S_move rfl (.tmp rfl)) ?_
  refine AL_p rfl rfl (S_keep (S_call rfl (AEvs.cons (.tmp rfl) AEvs.nil) (ACalls.preQ (pre := [_, _]) (F := _ :: st) (r_Code_ok b4 _ _ _))) (by rintro _ _ ⟨_, ⟨rfl, rfl⟩, rfl⟩; exact ⟨rfl, rfl⟩)) ?_
  refine AL_p rfl rfl (S_buildSlice (e := 9) 1 rfl (AEvs.cons (AEv.S _) AEvs.nil) rfl (by kernel_rfl) (by kernel_rfl) (by intro y hy; simp only [List.mem_cons, List.not_mem_nil, or_false] at hy; rcases hy with rfl <;> exact ⟨rfl, rfl⟩) (by decide) (by decide) (by decide)) ?_
  refine AL_p rfl rfl (S_pcall rfl (AEvs.cons (.tmp rfl) (AEvs.cons (.tmp rfl) AEvs.nil)) (fail_New_ok (calRd s 0).2.2 [wireN] (by simp))) ?_
  refine AL_p rfl rfl (S_assign rfl (.tmp rfl)) ?_
  refine AL_nil ?_
  refine AC_joinK (G := Unit) [(2, _), (3, _), (4, _), (5, _)] (fun _ => True) (fun _ => [(9, erV 31 143 (wireA s))]) (fun _ => (b6, .cells [.S (kindA (numR s 0 12).1.toNat).1, .S (kindA (numR s 0 12).1.toNat).2]) :: (b5, .cells (calL (calRd s 0).1)) :: (b2, .cells [.int .i64 0, .int .i64 0, .int .u64 0, .S [], .nils, .nils, .nils, .int .i64 0, .int .i64 0, .int .i64 0, .int .i64 0, .int .i64 0, .int .i64 0, .int .i64 0, .S [], .nils]) :: st) (.cons rfl (Le.refl _) (.cons rfl (Le.refl _) (.cons rfl (Le.refl _) (.cons rfl (Le.refl _) .nil)))) ?_ ?_
  · refine AC_seq ?_
    refine AC_region ?_
    refine AL_p rfl rfl (S_move rfl (.tmp rfl)) ?_
    refine AL_p rfl rfl (S_eqlE (er_is 31 143 (erNew (calRd s 0).2.2 [wireN])) rfl (.tmp rfl) (by kernel_rfl)) ?_
    refine AL_p rfl rfl (S_move rfl (.tmp rfl)) ?_
    refine AL_g rfl rfl (.tmp rfl) rfl (fun hg5 => S_field 0 rfl (.tmp rfl) (by kernel_rfl)) ?_
    refine AL_g rfl rfl (.tmp rfl) rfl (fun hg8 => S_load 1 rfl (AEv.cond (.tmp rfl) (by first | assumption | exact gdAnd (by assumption) (by assumption))) rfl rfl (by kernel_rfl)) ?_
    refine AL_g rfl rfl (.tmp rfl) rfl (fun hg11 => S_gtr rfl (AEv.cond (.tmp rfl) (by first | assumption | exact gdAnd (by assumption) (by assumption))) (AEv.const _)) ?_
    refine AL_p rfl rfl (S_and rfl (.tmp rfl) (fun hp14 => (AEv.cond (.tmp rfl) (by first | assumption | exact gdT hp14 | exact gdF hp14 | exact gdAnd (by assumption) (gdT hp14) | exact gdAnd (by assumption) (gdF hp14))))) ?_
    refine AL_nil ?_
    refine AC_cond (.tmp rfl) (fun hb15 => ?_) (fun hb15 => ?_)
    · try simp only [zA, zO, zN, zM, zP, zQ, zD, zF, gd] at hb15
      have hw : wireA s = erNew (endR (calRd s 0).2.1 (calRd s 0).2.2) [wireN] := wire_end hb15.1 hb15.2
      refine AC_region ?_
      refine AL_p rfl rfl (S_move rfl (.tmp rfl)) ?_
      refine AL_step rfl rfl (S_call rfl (AEvs.cons (.tmp rfl) AEvs.nil) (ACalls.preQ (pre := [_, _]) (F := _ :: st) (r_End_ok b4 _ _ _))) ?_
      rintro _ _ ⟨_, ⟨rfl, rfl⟩, rfl⟩
      refine AL_p rfl rfl (S_buildSlice (e := 9) 1 rfl (AEvs.cons (AEv.S _) AEvs.nil) rfl (by kernel_rfl) (by kernel_rfl) (by intro y hy; simp only [List.mem_cons, List.not_mem_nil, or_false] at hy; rcases hy with rfl <;> exact ⟨rfl, rfl⟩) (by decide) (by decide) (by decide)) ?_
      refine AL_p rfl rfl (S_pcall rfl (AEvs.cons (.tmp rfl) (AEvs.cons (.tmp rfl) AEvs.nil)) (fail_New_ok (endR (calRd s 0).2.1 (calRd s 0).2.2) [wireN] (by simp))) ?_
      refine AL_p rfl rfl (S_assign rfl (.tmp rfl)) ?_
      refine AL_nil ?_
      exact ⟨(), trivial, (Sub.l (.cons_cons _ (.cons_cons _ (List.sublist_cons_self _ _)))), (.cons rfl (Le.of_eq (congrArg (erV 31 143) hw.symm)) .nil), (.cons rfl (Le.refl _) (.cons rfl (Le.refl _) (.cons rfl (Le.refl _) (.cons rfl (Le.refl _) .nil))))⟩
    try simp only [zA, zO, zN, zM, zP, zQ, zD, zF, gd] at hb15
    have hw : wireA s = erNew (calRd s 0).2.2 [wireN] := wire_code hb15
    refine AC_skip ?_
    exact ⟨(), trivial, (Sub.l (.cons_cons _ (.cons_cons _ (List.sublist_cons_self _ _)))), (.cons rfl (Le.of_eq (congrArg (erV 31 143) hw.symm)) .nil), (.cons rfl (Le.refl _) (.cons rfl (Le.refl _) (.cons rfl (Le.refl _) (.cons rfl (Le.refl _) .nil))))⟩
  rintro _ _
  try dsimp only
  simp only [List.cons_append, List.nil_append]
  refine AC_seq ?_
  refine AC_seq ?_
  refine AC_region ?_
  refine AL_p rfl rfl (S_move rfl (.tmp rfl)) ?_
  refine AL_p rfl rfl (S_loadN (m := 16) 1 rfl (.tmp rfl) rfl (by kernel_rfl) (by first | exact Nat.le_of_ble_eq_true rfl | (simp; omega) | simp)) ?_
  refine AL_p rfl rfl (S_gcall rfl (AEvs.cons (y := calAV (calRd s 0).1) (.tmp rfl) AEvs.nil) ((ask_Check_ok (calRd s 0).1 (calRd_short s)) _ (fun p hp => by repeat (first | exact hG p hp | refine List.mem_cons_of_mem _ ?_ | refine List.mem_append_right _ ?_)))) ?_
  refine AL_p rfl rfl (S_buildSlice (e := 38) 1 rfl (AEvs.cons (.tmp rfl) (AEvs.cons (.tmp rfl) AEvs.nil)) rfl (by kernel_rfl) (by kernel_rfl) (by intro y hy; simp only [List.mem_cons, List.not_mem_nil, or_false] at hy; rcases hy with rfl | rfl <;> exact ⟨er_flat _ _ _, by rw [er_cells]; rfl⟩) (by decide) (by decide) (by decide)) ?_
  refine AL_p rfl rfl (S_pcall rfl (AEvs.cons (.tmp rfl) AEvs.nil) (fail_First_ok [wireA s, checkA (calRd s 0).1] (by simp))) ?_
  refine AL_p rfl rfl (S_assign rfl (.tmp rfl)) ?_
  refine AL_nil ?_
  refine AC_seq ?_
  refine AC_region ?_
  refine AL_p rfl rfl (S_move rfl (.tmp rfl)) ?_
  refine AL_p rfl rfl (S_neqE (er_is 31 143 (ofAE s)) rfl (.tmp rfl) (by kernel_rfl)) ?_
  refine AL_nil ?_
  refine AC_cond (.tmp rfl) (fun hb16 => ?_) (fun hb16 => ?_)
  · try simp only [zA, zO, zN, zM, zP, zQ, zD, zF, gd] at hb16
    have hx : ofA s = cal0 0 := ofA_some fun h => by rw [h] at hb16; simp at hb16
    refine AC_seq ?_
    refine AC_region ?_
    refine AL_p rfl rfl (S_build (t := 28) (pl := [(0, 1), (1, 1), (2, 1), (3, 7), (10, 1), (11, 1), (12, 1), (13, 1), (14, 1), (15, 1)]) (zs := [.int .i64 0, .int .i64 0, .int .u64 0, .string ⟨#[]⟩, .slice none 0 0, .slice none 0 0, .slice none 0 0, .int .i64 0, .int .i64 0, .int .i64 0, .int .i64 0, .int .i64 0, .int .i64 0, .int .i64 0, .string ⟨#[]⟩, .slice none 0 0]) rfl AEvs.nil (by kernel_rfl) rfl) ?_
    refine AL_p rfl rfl (S_move rfl (.tmp rfl)) ?_
    refine AL_step rfl rfl (S_storeW 2 rfl (.tmp rfl) (.tmp rfl) rfl rfl rfl (by kernel_rfl)) ?_
    rintro _ _ ⟨rfl, rfl⟩
    refine AL_p rfl rfl (S_assign rfl (.tmp rfl)) ?_
    refine AL_nil ?_
    refine AC_ret ?_
    refine ret_outs st rfl (by decide) (OutsR.row 2 rfl rfl (by kernel_rfl) (OutsR.tmp rfl OutsR.nil)) (Sub.l (((List.sublist_cons_self _ _).trans (List.sublist_cons_self _ _)).trans (List.sublist_cons_self _ _))) (Conv.le (Sub.l (((List.sublist_cons_self _ _).trans (List.sublist_cons_self _ _)).trans (List.sublist_cons_self _ _))) (Les.tup (.cons (Les.agg (.cons (Le.refl _) (.cons (Le.refl _) (.cons (Le.refl _) (.cons (Le.refl _) (.cons (Le.nils) (.cons (Le.nils) (.cons (Le.nils) (.cons (Le.refl _) (.cons (Le.refl _) (.cons (Le.refl _) (.cons (Le.refl _) (.cons (Le.refl _) (.cons (Le.refl _) (.cons (Le.refl _) (.cons (Le.refl _) (.cons (Le.nils) .nil))))))))))))))))) (.cons (Le.refl _) .nil)))) ⟨by rw [hx] <;> rfl, rfl⟩ (.inl rfl)
  try simp only [zA, zO, zN, zM, zP, zQ, zD, zF, gd] at hb16
  have hk : ofAE s = none := by simpa using hb16
  have hx : ofA s = (calRd s 0).1 := if_pos hk
  refine AC_skip ?_
  refine AC_seq ?_
  refine AC_region ?_
  refine AL_p rfl rfl (S_loadN (m := 16) 1 rfl (.tmp rfl) rfl (by kernel_rfl) (by first | exact Nat.le_of_ble_eq_true rfl | (simp; omega) | simp)) ?_
  refine AL_step rfl rfl (S_storeW 2 rfl (.tmp rfl) (.tmp rfl) rfl rfl rfl (by kernel_rfl)) ?_
  rintro _ _ ⟨rfl, rfl⟩
  refine AL_p rfl rfl (S_assign rfl (AEv.const _)) ?_
  refine AL_nil ?_
  refine AC_ret ?_
  refine ret_outs st rfl (by decide) (OutsR.row 2 rfl rfl (by kernel_rfl) (OutsR.tmp rfl OutsR.nil)) (Sub.l (((List.sublist_cons_self _ _).trans (List.sublist_cons_self _ _)).trans (List.sublist_cons_self _ _))) (Conv.refl (Sub.l (((List.sublist_cons_self _ _).trans (List.sublist_cons_self _ _)).trans (List.sublist_cons_self _ _))) _) ⟨by rw [hx, hk] <;> rfl, rfl⟩ (.inl rfl)

end Go.Proofs.YtcbnokpgklmndaaGreatDoor
