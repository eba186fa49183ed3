/- A part of the proof: what the program's functions answer.
Conditions: none beyond each theorem's own. -/
import Derived.Test.YtfmiciodcimkeaaGreatDoorW2
set_option linter.unusedVariables false
set_option linter.unusedSimpArgs false
set_option maxRecDepth 100000
namespace Go.Proofs.YtfmiciodcimkeaaGreatDoor
open Go.AL Go.NumSpec
set_option maxHeartbeats 2000000 in
theorem takeRes_ok (b : Nat) (s : List UInt8) (c : Int) (F : St) : ACalls Tryz.prog 104 [.ptr b 0] ([(b, Ob.cells [.S (s), .int .i64 (c)])] ++ F) (fun x st' => ∃ foot', (x = resAV (triRd s c).1 ∧ foot' = [(b, Ob.cells [.S ((triRd s c).2.1), .int .i64 ((triRd s c).2.2)])]) ∧ st' = foot' ++ F) := by
 refine co 10 Tryz.func104 ?_
 refine AC_seq (AC_region ?_)
 refine s_ (S_alloc [.int .i64 0, .int .i64 0, .int .i64 0] rfl (by kernel_rfl)) ?_
 rintro _ _ ⟨b2, rfl, rfl⟩
 refine AL_nil (AC_seq (AC_region ?_))
 refine mv rfl rfl rfl rfl ?_
 refine s_ (S_call rfl (AEvs.cons (.tmp rfl) (AEvs.cons (AEv.const _) AEvs.nil)) (ACalls.preQ (pre := [_]) (F := F) (r_Num_ok b _ _ 1099511627776 (by decide) _))) ?_
 rintro _ _ ⟨_, ⟨rfl, rfl⟩, rfl⟩
 generalize h1 : numR s c 1099511627776 = r1
 refine mv rfl rfl rfl rfl ?_
 refine s_ (S_call rfl (AEvs.cons (.tmp rfl) (AEvs.cons (AEv.const _) AEvs.nil)) (ACalls.preQ (pre := [_]) (F := F) (r_Num_ok b _ _ 1099511627776 (by decide) _))) ?_
 rintro _ _ ⟨_, ⟨rfl, rfl⟩, rfl⟩
 generalize h2 : numR r1.2.1 r1.2.2 1099511627776 = r2
 refine mv rfl rfl rfl rfl ?_
 refine s_ (S_call rfl (AEvs.cons (.tmp rfl) (AEvs.cons (AEv.const _) AEvs.nil)) (ACalls.preQ (pre := [_]) (F := F) (r_Num_ok b _ _ 1099511627776 (by decide) _))) ?_
 rintro _ _ ⟨_, ⟨rfl, rfl⟩, rfl⟩
 generalize h3 : numR r2.2.1 r2.2.2 1099511627776 = r3
 refine p_ (S_build (t := 74) (pl := [(0, 1), (1, 1), (2, 1)]) (zs := [.int .i64 0, .int .i64 0, .int .i64 0]) rfl (AEvs.cons (.tmp rfl) (AEvs.cons (.tmp rfl) (AEvs.cons (.tmp rfl) AEvs.nil))) (by kernel_rfl) rfl) ?_
 refine stW 0 ?_
 refine AL_nil (AC_ret ?_)
 refine ret_cell 0 ([(b, Ob.cells [.S (r3.2.1), .int .i64 (r3.2.2)])] ++ F) rfl rfl rfl (by kernel_rfl) (Sub.l (List.sublist_cons_self _ _)) (Conv.refl (Sub.l (List.sublist_cons_self _ _)) _) ⟨_, ⟨by subst h3 h2 h1; rfl, by subst h3 h2 h1; rfl⟩, rfl⟩ (.inl rfl)
set_option maxHeartbeats 2000000 in
theorem takeC1_ok (b : Nat) (s : List UInt8) (c : Int) (br : Nat) (F : St) (hw : (br, Ob.cells [.ptr b 0]) ∈ F) : ACalls Tryz.prog 106 [.ptr br 0] ([(b, Ob.cells [.S (s), .int .i64 (c)])] ++ F) (fun x st' => ∃ foot', (x = .int .i64 (numRd 65535 s c).1 ∧ foot' = [(b, Ob.cells [.S ((numRd 65535 s c).2.1), .int .i64 ((numRd 65535 s c).2.2)])]) ∧ st' = foot' ++ F) := by
 refine co 4 Tryz.func106 ?_
 refine AC_seq (AC_region ?_)
 refine ac rfl rfl rfl ?_
 refine AL_nil (AC_seq (AC_region ?_))
 refine p_ (S_loadM (cs := [.ptr b 0]) rfl (.tmp rfl) (by repeat (first | exact hw | exact List.mem_cons_self | refine List.mem_cons_of_mem _ ?_)) rfl (by kernel_rfl)) ?_
 refine s_ (S_call rfl (AEvs.cons (.tmp rfl) (AEvs.cons (AEv.const _) AEvs.nil)) (r_Num_ok b _ _ 65535 (by decide) F)) ?_
 rintro _ _ ⟨_, ⟨rfl, rfl⟩, rfl⟩
 refine as_ rfl rfl rfl rfl ?_
 refine AL_nil (AC_ret ?_)
 refine ret_tmp ([(b, Ob.cells [.S ((numRd 65535 s c).2.1), .int .i64 ((numRd 65535 s c).2.2)])] ++ F) rfl rfl (Sub.l (List.Sublist.refl _)) (Conv.refl (Sub.l (List.Sublist.refl _)) _) ⟨_, ⟨rfl, rfl⟩, rfl⟩ (.inl rfl)
set_option maxHeartbeats 2000000 in
theorem takeL1_ok (b : Nat) (s : List UInt8) (c : Int) (br : Nat) (F : St) (hw : (br, Ob.cells [.ptr b 0]) ∈ F) : ACalls Tryz.prog 66 [.ptr br 0] ([(b, Ob.cells [.S (s), .int .i64 (c)])] ++ F) (fun x st' => ∃ foot', (x = labAV (labRd s c).1 ∧ foot' = [(b, Ob.cells [.S ((labRd s c).2.1), .int .i64 ((labRd s c).2.2)])]) ∧ st' = foot' ++ F) := by
 refine co 7 Tryz.func66 ?_
 refine AC_seq (AC_region ?_)
 refine s_ (S_alloc [.string ⟨#[]⟩, .string ⟨#[]⟩] rfl (by kernel_rfl)) ?_
 rintro _ _ ⟨b1, rfl, rfl⟩
 refine AL_nil ?_
 refine AC_seq ?_
 refine AC_plan (σ := [(0, 0), (2, 0), (1, 1), (3, 2), (4, 0), (5, 2)]) (by kernel_rfl) [(br, Ob.cells [.ptr b 0])] (by kernel_rfl) (fun r hr => by rw [List.mem_singleton.1 hr]; exact (by repeat (first | exact hw | exact List.mem_cons_self | refine List.mem_cons_of_mem _ ?_))) ?_
 refine AG.f rfl rfl (fun st' hst => Q_p rfl (S_loadM (cs := [.ptr b 0]) rfl (.tmp rfl) (hst _ List.mem_cons_self) rfl (by kernel_rfl))) ?_
 refine AG.f rfl rfl (fun st' hst => Q_p rfl (S_loadM (cs := [.ptr b 0]) rfl (.tmp rfl) (hst _ List.mem_cons_self) rfl (by kernel_rfl))) ?_
 refine AG.s rfl rfl rfl (S_call rfl (AEvs.cons (.tmp rfl) (AEvs.cons (AEv.const _) AEvs.nil)) (ACalls.preQ (pre := [_]) (F := F) (r_Text_ok b _ _ 33 (by decide) _))) ?_ ?_
 ·rintro _ _ ⟨_, ⟨rfl, rfl⟩, rfl⟩ r hr; rw [List.mem_singleton.1 hr]; exact (by repeat (first | exact hw | exact List.mem_cons_self | refine List.mem_cons_of_mem _ ?_))
 rintro _ _ ⟨_, ⟨rfl, rfl⟩, rfl⟩
 refine AG.h rfl rfl rfl (S_call rfl (AEvs.cons (.tmp rfl) (AEvs.cons (AEv.const _) AEvs.nil)) (ACalls.preQ (pre := [_]) (F := F) (r_Text_ok b _ _ 16 (by decide) _))) ?_
 rintro _ _ ⟨_, ⟨rfl, rfl⟩, rfl⟩
 refine AG.f rfl rfl (fun st' hst => Q_p rfl (S_build (t := 71) (pl := [(0, 1), (1, 1)]) (zs := [.string ⟨#[]⟩, .string ⟨#[]⟩]) rfl (AEvs.cons (.tmp rfl) (AEvs.cons (.tmp rfl) AEvs.nil)) (by kernel_rfl) rfl)) ?_
 refine AG.h rfl rfl rfl (S_storeW 0 rfl (.tmp rfl) (.tmp rfl) rfl rfl rfl (by kernel_rfl)) ?_
 rintro _ _ ⟨rfl, rfl⟩
 refine AG.nil ?_
 refine AC_ret ?_
 refine ret_cell 0 ([(b, Ob.cells [.S ((labRd s c).2.1), .int .i64 ((labRd s c).2.2)])] ++ F) rfl rfl rfl (by kernel_rfl) (Sub.l (List.sublist_cons_self _ _)) (Conv.refl (Sub.l (List.sublist_cons_self _ _)) _) ⟨_, ⟨rfl, rfl⟩, rfl⟩ (.inl rfl)
set_option maxHeartbeats 2000000 in
theorem takeAllI_ok (b : Nat) (s : List UInt8) (c : Int) (br : Nat) (most : Int) (h0 : 0 ≤ most) (h1 : most ≤ 1000) (F : St) (hw : (br, Ob.cells [.ptr b 0]) ∈ F) : ACalls Tryz.prog 105 [.ptr b 0, .int .i64 most, .fn 106 [.pointer (some ⟨br, 0, none⟩)]] ([(b, Ob.cells [.S (s), .int .i64 (c)])] ++ F) (fun x st' => ∃ foot', (x = .sl ((allR (numRd 65535) most s c).1.map (fun n : Int => AV.int .i64 n)) ∧ foot' = [(b, Ob.cells [.S ((allR (numRd 65535) most s c).2.1), .int .i64 ((allR (numRd 65535) most s c).2.2)])]) ∧ st' = foot' ++ F) := by
 refine co 23 Tryz.func105 ?_
 have hn1 := numR_le (s := s) (c := c) (most := most)
 have hn2 := numR_nonneg s c most
 refine AC_seq (AC_region ?_)
 refine ac rfl rfl rfl ?_
 refine AL_nil (AC_seq (AC_region ?_))
 refine ac rfl rfl rfl ?_
 refine AL_nil ?_
 refine AC_seq ?_
 refine AC_seq (AC_region ?_)
 refine mv rfl rfl rfl rfl ?_
 refine mv rfl rfl rfl rfl ?_
 refine s_ (S_call rfl (AEvs.cons (.tmp rfl) (AEvs.cons (.tmp rfl) AEvs.nil)) (r_Num_ok b _ _ most ⟨by omega, by omega⟩ F)) ?_
 rintro _ _ ⟨_, ⟨rfl, rfl⟩, rfl⟩
 refine p_ (S_move rfl (AEv.const _)) ?_
 refine AL_nil ?_
 refine AC_block ?_
 refine AC_loopK (G := Nat × List Int × List UInt8 × Int × Own) [(0, _), (2, _), (10, _)] (fun g => TI (numRd 65535) (numR s c most).1.toNat (numR s c most).2.1 (numR s c most).2.2 g.1 g.2.1 g.2.2.1 g.2.2.2.1 ∧ g.2.2.2.2.ok (g.2.1.map (fun n : Int => AV.int .i64 n))) (fun g => [(7, ownAV g.2.2.2.2 1 (g.2.1.map (fun n : Int => AV.int .i64 n))), (11, .int .i64 (g.1 : Int))]) (fun g => (b, .cells [.S g.2.2.1, .int .i64 g.2.2.2.1]) :: (ownSt g.2.2.2.2 3 1 (g.2.1.map (fun n : Int => AV.int .i64 n)) ++ F)) (fun g => (numR s c most).1.toNat - g.1) ((0, [], (numR s c most).2.1, (numR s c most).2.2, .nil)) (⟨ti_start _ _ _, rfl⟩) (Sub.l (List.Sublist.refl _)) (.cons rfl (Le.refl _) (.cons rfl (Le.refl _) (.cons rfl (Le.refl _) .nil))) (.cons rfl (by first | exact Le.refl _ | exact Le.nils | exact Le.row _ _ _ _ | exact Le.of_eq (by first | rfl | (simp; done) | (push_cast; rfl) | (simp; omega))) (.cons rfl (by first | exact Le.refl _ | exact Le.nils | exact Le.row _ _ _ _ | exact Le.of_eq (by first | rfl | (simp; done) | (push_cast; rfl) | (simp; omega))) .nil)) ?_
 rintro ⟨i, out, s', c', p⟩ ⟨hI, hq⟩
 try dsimp only
 simp only [List.cons_append, List.nil_append]
 dsimp only at hI hq
 have hI1 := hI.1
 have hI2 := hI.2.1
 refine AC_seq (AC_region ?_)
 refine p_ (S_lss rfl (.tmp rfl) (.tmp rfl)) ?_
 refine AL_nil ?_
 refine AC_seq ?_
 refine AC_cond (.tmp rfl) (fun hb1 => ?_) (fun hb1 => ?_)
 ·try simp only [zA,zO,zN,zM,zP,zQ,zD,zF,gd] at hb1
  have hil : i < (numR s c most).1.toNat := by omega
  refine AC_skip ?_
  refine AC_seq ?_
  refine AC_block ?_
  refine AC_seq (AC_region ?_)
  refine mv rfl rfl rfl rfl ?_
  refine mv rfl rfl rfl rfl ?_
  refine s_ (S_callF (caps := [.pointer (some ⟨br, 0, none⟩)]) rfl (.tmp rfl) AEvs.nil (takeC1_ok b s' c' br _ (List.mem_append_right _ hw))) ?_
  rintro _ _ ⟨_, ⟨rfl, rfl⟩, rfl⟩
  generalize hr : (numRd 65535) s' c' = r
  refine p_ (S_buildSlice (e := 3) 1 rfl (AEvs.cons (.tmp rfl) AEvs.nil) rfl (by kernel_rfl) (by kernel_rfl) (by intro y hy; simp only [List.mem_cons, List.not_mem_nil, or_false] at hy; rcases hy with rfl <;> exact ⟨rfl, rfl⟩) (by decide) (by decide) (by decide)) ?_
  refine s_ (S_appendM (f := (fun n : Int => AV.int .i64 n)) (l := out) (l2 := [r.1]) (e := 3) (size := 1) (bytes := 8) (p := p) ([_]) (F) rfl (.tmp rfl) (.tmp rfl) rfl hq (by kernel_rfl) (by simp) (fun _ => ⟨rfl, rfl⟩) (by simp only [List.length_singleton]; omega) (by simp only [List.length_singleton]; omega)) ?_
  rintro _ _ ⟨b8, k8, cap8, hx8, rfl, rfl⟩
  refine as_ rfl rfl rfl rfl ?_
  refine AL_nil (AC_seq (AC_region ?_))
  refine mv rfl rfl rfl rfl ?_
  refine s_ (S_call rfl (AEvs.cons (.tmp rfl) AEvs.nil) (r_Code_ok b _ _ _)) ?_
  rintro _ _ ⟨_, ⟨rfl, rfl⟩, rfl⟩
  refine p_ (S_neq rfl (.tmp rfl) (AEv.const _)) ?_
  refine AL_nil ?_
  refine AC_cond (.tmp rfl) (fun hb4 => ?_) (fun hb4 => ?_)
  ·try simp only [zA,zO,zN,zM,zP,zQ,zD,zF,gd] at hb4
   have hx : (allR (numRd 65535) most s c) = ([], r.2.1, r.2.2) := by have h9 := ti_bad hI hil (by rw [hr]; exact hb4); rw [hr] at h9; exact h9
   refine AC_seq (AC_region ?_)
   refine ac rfl rfl rfl ?_
   refine AL_nil (AC_ret ?_)
   refine ret_tmp ([(b, Ob.cells [.S (r.2.1), .int .i64 (r.2.2)])] ++ F) rfl rfl (Sub.l (List.Sublist.cons_cons _ (List.sublist_append_right _ _))) (Conv.le (Sub.l (List.Sublist.cons_cons _ (List.sublist_append_right _ _))) Le.nils) ⟨_, ⟨by rw [hx] <;> rfl, by rw [hx] <;> rfl⟩, rfl⟩ (.inl rfl)
  try simp only [zA,zO,zN,zM,zP,zQ,zD,zF,gd] at hb4
  have hc0 : r.2.2 = 0 := by simpa using hb4
  refine AC_skip ?_
  refine AC_region ?_
  refine p_ (S_addI rfl (.tmp rfl) (AEv.const _) (by omega) (by omega)) ?_
  refine mv rfl rfl rfl rfl ?_
  refine AL_nil ?_
  exact ⟨(i + 1, out ++ [r.1], r.2.1, r.2.2, .row b8 k8 cap8), ⟨by rw [← hr]; exact ti_next hI hil (by rw [hr]; exact hc0), hx8⟩, by dsimp only; omega, (Sub.l (List.Sublist.refl _)), (.cons rfl (by first | exact Le.refl _ | exact Le.nils | exact Le.row _ _ _ _ | exact Le.of_eq (by first | rfl | (simp; done) | (push_cast; rfl) | (simp; omega))) (.cons rfl (by first | exact Le.refl _ | exact Le.nils | exact Le.row _ _ _ _ | exact Le.of_eq (by first | rfl | (simp; done) | (push_cast; rfl) | (simp; omega))) .nil)), (.cons rfl (Le.refl _) (.cons rfl (Le.refl _) (.cons rfl (Le.refl _) .nil)))⟩
 try simp only [zA,zO,zN,zM,zP,zQ,zD,zF,gd] at hb1
 have hx : (allR (numRd 65535) most s c) = (out, s', c') := ti_end hI (by omega)
 refine AC_exit ?_
 refine AC_seq (AC_region ?_)
 refine mv rfl rfl rfl rfl ?_
 refine as_ rfl rfl rfl rfl ?_
 refine AL_nil (AC_ret ?_)
 refine ret_tmp ([(b, Ob.cells [.S (s'), .int .i64 (c')])] ++ F) rfl rfl (Sub.l (List.Sublist.cons_cons _ (List.sublist_append_right _ _))) (Conv.le (Sub.l (List.Sublist.cons_cons _ (List.sublist_append_right _ _))) (Le_own hq)) ⟨_, ⟨by rw [hx] <;> rfl, by rw [hx] <;> rfl⟩, rfl⟩ (.inl rfl)
set_option maxHeartbeats 2000000 in
theorem takeAllL_ok (b : Nat) (s : List UInt8) (c : Int) (br : Nat) (most : Int) (h0 : 0 ≤ most) (h1 : most ≤ 1000) (F : St) (hw : (br, Ob.cells [.ptr b 0]) ∈ F) : ACalls Tryz.prog 65 [.ptr b 0, .int .i64 most, .fn 66 [.pointer (some ⟨br, 0, none⟩)]] ([(b, Ob.cells [.S (s), .int .i64 (c)])] ++ F) (fun x st' => ∃ foot', (x = .sl ((allR labRd most s c).1.map labAV) ∧ foot' = [(b, Ob.cells [.S ((allR labRd most s c).2.1), .int .i64 ((allR labRd most s c).2.2)])]) ∧ st' = foot' ++ F) := by
 refine co 23 Tryz.func65 ?_
 have hn1 := numR_le (s := s) (c := c) (most := most)
 have hn2 := numR_nonneg s c most
 refine AC_seq (AC_region ?_)
 refine ac rfl rfl rfl ?_
 refine AL_nil (AC_seq (AC_region ?_))
 refine ac rfl rfl rfl ?_
 refine AL_nil ?_
 refine AC_seq ?_
 refine AC_seq (AC_region ?_)
 refine mv rfl rfl rfl rfl ?_
 refine mv rfl rfl rfl rfl ?_
 refine s_ (S_call rfl (AEvs.cons (.tmp rfl) (AEvs.cons (.tmp rfl) AEvs.nil)) (r_Num_ok b _ _ most ⟨by omega, by omega⟩ F)) ?_
 rintro _ _ ⟨_, ⟨rfl, rfl⟩, rfl⟩
 refine p_ (S_move rfl (AEv.const _)) ?_
 refine AL_nil ?_
 refine AC_block ?_
 refine AC_loopK (G := Nat × List Lab × List UInt8 × Int × Own) [(0, _), (2, _), (10, _)] (fun g => TI labRd (numR s c most).1.toNat (numR s c most).2.1 (numR s c most).2.2 g.1 g.2.1 g.2.2.1 g.2.2.2.1 ∧ g.2.2.2.2.ok (g.2.1.map labAV)) (fun g => [(7, ownAV g.2.2.2.2 2 (g.2.1.map labAV)), (11, .int .i64 (g.1 : Int))]) (fun g => (b, .cells [.S g.2.2.1, .int .i64 g.2.2.2.1]) :: (ownSt g.2.2.2.2 71 2 (g.2.1.map labAV) ++ F)) (fun g => (numR s c most).1.toNat - g.1) ((0, [], (numR s c most).2.1, (numR s c most).2.2, .nil)) (⟨ti_start _ _ _, rfl⟩) (Sub.l (List.Sublist.refl _)) (.cons rfl (Le.refl _) (.cons rfl (Le.refl _) (.cons rfl (Le.refl _) .nil))) (.cons rfl (by first | exact Le.refl _ | exact Le.nils | exact Le.row _ _ _ _ | exact Le.of_eq (by first | rfl | (simp; done) | (push_cast; rfl) | (simp; omega))) (.cons rfl (by first | exact Le.refl _ | exact Le.nils | exact Le.row _ _ _ _ | exact Le.of_eq (by first | rfl | (simp; done) | (push_cast; rfl) | (simp; omega))) .nil)) ?_
 rintro ⟨i, out, s', c', p⟩ ⟨hI, hq⟩
 try dsimp only
 simp only [List.cons_append, List.nil_append]
 dsimp only at hI hq
 have hI1 := hI.1
 have hI2 := hI.2.1
 refine AC_seq (AC_region ?_)
 refine p_ (S_lss rfl (.tmp rfl) (.tmp rfl)) ?_
 refine AL_nil ?_
 refine AC_seq ?_
 refine AC_cond (.tmp rfl) (fun hb1 => ?_) (fun hb1 => ?_)
 ·try simp only [zA,zO,zN,zM,zP,zQ,zD,zF,gd] at hb1
  have hil : i < (numR s c most).1.toNat := by omega
  refine AC_skip ?_
  refine AC_seq ?_
  refine AC_block ?_
  refine AC_seq (AC_region ?_)
  refine mv rfl rfl rfl rfl ?_
  refine mv rfl rfl rfl rfl ?_
  refine s_ (S_callF (caps := [.pointer (some ⟨br, 0, none⟩)]) rfl (.tmp rfl) AEvs.nil (takeL1_ok b s' c' br _ (List.mem_append_right _ hw))) ?_
  rintro _ _ ⟨_, ⟨rfl, rfl⟩, rfl⟩
  generalize hr : labRd s' c' = r
  refine p_ (S_buildSlice (e := 71) 2 rfl (AEvs.cons (.tmp rfl) AEvs.nil) rfl (by kernel_rfl) (by kernel_rfl) (by intro y hy; simp only [List.mem_cons, List.not_mem_nil, or_false] at hy; rcases hy with rfl <;> exact ⟨rfl, rfl⟩) (by decide) (by decide) (by decide)) ?_
  refine s_ (S_appendM (f := labAV) (l := out) (l2 := [r.1]) (e := 71) (size := 2) (bytes := 32) (p := p) ([_]) (F) rfl (.tmp rfl) (.tmp rfl) rfl hq (by kernel_rfl) (by simp) (fun _ => ⟨rfl, rfl⟩) (by simp only [List.length_singleton]; omega) (by simp only [List.length_singleton]; omega)) ?_
  rintro _ _ ⟨b8, k8, cap8, hx8, rfl, rfl⟩
  refine as_ rfl rfl rfl rfl ?_
  refine AL_nil (AC_seq (AC_region ?_))
  refine mv rfl rfl rfl rfl ?_
  refine s_ (S_call rfl (AEvs.cons (.tmp rfl) AEvs.nil) (r_Code_ok b _ _ _)) ?_
  rintro _ _ ⟨_, ⟨rfl, rfl⟩, rfl⟩
  refine p_ (S_neq rfl (.tmp rfl) (AEv.const _)) ?_
  refine AL_nil ?_
  refine AC_cond (.tmp rfl) (fun hb4 => ?_) (fun hb4 => ?_)
  ·try simp only [zA,zO,zN,zM,zP,zQ,zD,zF,gd] at hb4
   have hx : (allR labRd most s c) = ([], r.2.1, r.2.2) := by have h9 := ti_bad hI hil (by rw [hr]; exact hb4); rw [hr] at h9; exact h9
   refine AC_seq (AC_region ?_)
   refine ac rfl rfl rfl ?_
   refine AL_nil (AC_ret ?_)
   refine ret_tmp ([(b, Ob.cells [.S (r.2.1), .int .i64 (r.2.2)])] ++ F) rfl rfl (Sub.l (List.Sublist.cons_cons _ (List.sublist_append_right _ _))) (Conv.le (Sub.l (List.Sublist.cons_cons _ (List.sublist_append_right _ _))) Le.nils) ⟨_, ⟨by rw [hx] <;> rfl, by rw [hx] <;> rfl⟩, rfl⟩ (.inl rfl)
  try simp only [zA,zO,zN,zM,zP,zQ,zD,zF,gd] at hb4
  have hc0 : r.2.2 = 0 := by simpa using hb4
  refine AC_skip ?_
  refine AC_region ?_
  refine p_ (S_addI rfl (.tmp rfl) (AEv.const _) (by omega) (by omega)) ?_
  refine mv rfl rfl rfl rfl ?_
  refine AL_nil ?_
  exact ⟨(i + 1, out ++ [r.1], r.2.1, r.2.2, .row b8 k8 cap8), ⟨by rw [← hr]; exact ti_next hI hil (by rw [hr]; exact hc0), hx8⟩, by dsimp only; omega, (Sub.l (List.Sublist.refl _)), (.cons rfl (by first | exact Le.refl _ | exact Le.nils | exact Le.row _ _ _ _ | exact Le.of_eq (by first | rfl | (simp; done) | (push_cast; rfl) | (simp; omega))) (.cons rfl (by first | exact Le.refl _ | exact Le.nils | exact Le.row _ _ _ _ | exact Le.of_eq (by first | rfl | (simp; done) | (push_cast; rfl) | (simp; omega))) .nil)), (.cons rfl (Le.refl _) (.cons rfl (Le.refl _) (.cons rfl (Le.refl _) .nil)))⟩
 try simp only [zA,zO,zN,zM,zP,zQ,zD,zF,gd] at hb1
 have hx : (allR labRd most s c) = (out, s', c') := ti_end hI (by omega)
 refine AC_exit ?_
 refine AC_seq (AC_region ?_)
 refine mv rfl rfl rfl rfl ?_
 refine as_ rfl rfl rfl rfl ?_
 refine AL_nil (AC_ret ?_)
 refine ret_tmp ([(b, Ob.cells [.S (s'), .int .i64 (c')])] ++ F) rfl rfl (Sub.l (List.Sublist.cons_cons _ (List.sublist_append_right _ _))) (Conv.le (Sub.l (List.Sublist.cons_cons _ (List.sublist_append_right _ _))) (Le_own hq)) ⟨_, ⟨by rw [hx] <;> rfl, by rw [hx] <;> rfl⟩, rfl⟩ (.inl rfl)
set_option maxHeartbeats 2000000 in
theorem takeContainer_ok (b : Nat) (s : List UInt8) (c : Int) (F : St) : ACalls Tryz.prog 71 [.ptr b 0] ([(b, Ob.cells [.S (s), .int .i64 (c)])] ++ F) (fun x st' => ∃ foot', (x = ctrAV (ctrRd s c).1 ∧ foot' = [(b, Ob.cells [.S ((ctrRd s c).2.1), .int .i64 ((ctrRd s c).2.2)])]) ∧ st' = foot' ++ F) := by
 refine co 28 Tryz.func71 ?_
 refine AC_seq (AC_region ?_)
 refine s_ (S_box1 rfl (.tmp rfl) rfl) ?_
 rintro _ _ ⟨b1, rfl, rfl⟩
 refine s_ (S_alloc [.string ⟨#[]⟩, .string ⟨#[]⟩, .int .i64 0, .int .i64 0, .int .i64 0, .int .i64 0, .int .i64 0, .int .i64 0, .slice none 0 0, .int .i64 0, .int .i64 0] rfl (by kernel_rfl)) ?_
 rintro _ _ ⟨b2, rfl, rfl⟩
 refine AL_nil ?_
 refine AC_seq ?_
 refine AC_ords (fun env' st' => ∃ b3, EnvLe env' [(1, .ptr b1 0), (2, .ptr b2 0), (3, .ptr b3 0)] ∧ st' = (b3, Ob.cells [.S (wtextR s c 16).1, .S (wtextR (wtextR s c 16).2.1 (wtextR s c 16).2.2 33).1, .int .i64 0, .int .i64 0, .int .i64 0, .int .i64 0, .int .i64 0, .int .i64 0, .nils, .int .i64 0, .int .i64 0]) :: (b2, Ob.cells [.S [], .S [], .int .i64 0, .int .i64 0, .int .i64 0, .int .i64 0, .int .i64 0, .int .i64 0, .nils, .int .i64 0, .int .i64 0]) :: (b1, Ob.cells [.ptr b 0]) :: ([(b, Ob.cells [.S ((wtextR (wtextR s c 16).2.1 (wtextR s c 16).2.2 33).2.1), .int .i64 ((wtextR (wtextR s c 16).2.1 (wtextR s c 16).2.2 33).2.2)])] ++ F)) (by kernel_rfl) ?_ ?_
 ·refine AO_step (rs := [0, 2, 5]) (by kernel_rfl) rfl ?_
  refine .cons (.mk' rfl rfl rfl (S_loadM (cs := [.ptr b 0]) rfl (.tmp rfl) (by repeat (first | exact List.mem_cons_self | refine List.mem_cons_of_mem _ ?_)) rfl (by kernel_rfl)) ?_) ?_
  ·rintro _ _ ⟨rfl, rfl⟩
   refine AO_step (rs := [1, 2, 5]) (by kernel_rfl) rfl ?_
   refine .cons (.mk' rfl rfl rfl (S_call rfl (AEvs.cons (.tmp rfl) (AEvs.cons (AEv.const _) AEvs.nil)) (ACalls.preQ (pre := [_, _]) (F := F) (r_Text_ok b _ _ 16 (by decide) _))) ?_) ?_
   ·rintro _ _ ⟨_, ⟨rfl, rfl⟩, rfl⟩
    refine AO_step (rs := [2, 5]) (by kernel_rfl) rfl ?_
    refine .cons (.mk' rfl rfl rfl (S_loadM (cs := [.ptr b 0]) rfl (.tmp rfl) (by repeat (first | exact List.mem_cons_self | refine List.mem_cons_of_mem _ ?_)) rfl (by kernel_rfl)) ?_) ?_
    ·rintro _ _ ⟨rfl, rfl⟩
     refine AO_step (rs := [3, 5]) (by kernel_rfl) rfl ?_
     refine .cons (.mk' rfl rfl rfl (S_call rfl (AEvs.cons (.tmp rfl) (AEvs.cons (AEv.const _) AEvs.nil)) (ACalls.preQ (pre := [_, _]) (F := F) (r_Text_ok b _ _ 33 (by decide) _))) ?_) ?_
     ·rintro _ _ ⟨_, ⟨rfl, rfl⟩, rfl⟩
      refine AO_step (rs := [4, 5]) (by kernel_rfl) rfl ?_
      refine .cons (.mk' rfl rfl rfl (S_build (t := 79) (pl := [(0, 1), (1, 1), (2, 3), (5, 3), (8, 1), (9, 2)]) (zs := [.string ⟨#[]⟩, .string ⟨#[]⟩, .int .i64 0, .int .i64 0, .int .i64 0, .int .i64 0, .int .i64 0, .int .i64 0, .slice none 0 0, .int .i64 0, .int .i64 0]) rfl (AEvs.cons (.tmp rfl) (AEvs.cons (.tmp rfl) AEvs.nil)) (by kernel_rfl) rfl) ?_) ?_
      ·rintro _ _ ⟨rfl, rfl⟩
       refine AO_step (rs := [5]) (by kernel_rfl) rfl ?_
       refine .cons (.mk' rfl rfl rfl (S_alloc [.string ⟨#[]⟩, .string ⟨#[]⟩, .int .i64 0, .int .i64 0, .int .i64 0, .int .i64 0, .int .i64 0, .int .i64 0, .slice none 0 0, .int .i64 0, .int .i64 0] rfl (by kernel_rfl)) ?_) ?_
       ·rintro _ _ ⟨b3, rfl, rfl⟩
        refine AO_step (rs := [6]) (by kernel_rfl) rfl ?_
        refine .cons (.mk' rfl rfl rfl (S_storeW 0 rfl (.tmp rfl) (.tmp rfl) rfl rfl rfl (by kernel_rfl)) ?_) ?_
        ·rintro _ _ ⟨rfl, rfl⟩
         refine AO_fin (by kernel_rfl) ⟨rfl, b3, (.cons rfl (Le.refl _) (.cons rfl (Le.refl _) (.cons rfl (Le.refl _) .nil))), rfl⟩
        exact .nil
       exact .nil
      refine .cons (.mk' rfl rfl rfl (S_alloc [.string ⟨#[]⟩, .string ⟨#[]⟩, .int .i64 0, .int .i64 0, .int .i64 0, .int .i64 0, .int .i64 0, .int .i64 0, .slice none 0 0, .int .i64 0, .int .i64 0] rfl (by kernel_rfl)) ?_) ?_
      ·rintro _ _ ⟨b3, rfl, rfl⟩
       refine AO_step (rs := [4]) (by kernel_rfl) rfl ?_
       refine .cons (.mk' rfl rfl rfl (S_build (t := 79) (pl := [(0, 1), (1, 1), (2, 3), (5, 3), (8, 1), (9, 2)]) (zs := [.string ⟨#[]⟩, .string ⟨#[]⟩, .int .i64 0, .int .i64 0, .int .i64 0, .int .i64 0, .int .i64 0, .int .i64 0, .slice none 0 0, .int .i64 0, .int .i64 0]) rfl (AEvs.cons (.tmp rfl) (AEvs.cons (.tmp rfl) AEvs.nil)) (by kernel_rfl) rfl) ?_) ?_
       ·rintro _ _ ⟨rfl, rfl⟩
        refine AO_step (rs := [6]) (by kernel_rfl) rfl ?_
        refine .cons (.mk' rfl rfl rfl (S_storeW 0 rfl (.tmp rfl) (.tmp rfl) rfl rfl rfl (by kernel_rfl)) ?_) ?_
        ·rintro _ _ ⟨rfl, rfl⟩
         refine AO_fin (by kernel_rfl) ⟨rfl, b3, (.cons rfl (Le.refl _) (.cons rfl (Le.refl _) (.cons rfl (Le.refl _) .nil))), rfl⟩
        exact .nil
       exact .nil
      exact .nil
     refine .cons (.mk' rfl rfl rfl (S_alloc [.string ⟨#[]⟩, .string ⟨#[]⟩, .int .i64 0, .int .i64 0, .int .i64 0, .int .i64 0, .int .i64 0, .int .i64 0, .slice none 0 0, .int .i64 0, .int .i64 0] rfl (by kernel_rfl)) ?_) ?_
     ·rintro _ _ ⟨b3, rfl, rfl⟩
      refine AO_step (rs := [3]) (by kernel_rfl) rfl ?_
      refine .cons (.mk' rfl rfl rfl (S_call rfl (AEvs.cons (.tmp rfl) (AEvs.cons (AEv.const _) AEvs.nil)) (ACalls.preQ (pre := [_, _, _]) (F := F) (r_Text_ok b _ _ 33 (by decide) _))) ?_) ?_
      ·rintro _ _ ⟨_, ⟨rfl, rfl⟩, rfl⟩
       refine AO_step (rs := [4]) (by kernel_rfl) rfl ?_
       refine .cons (.mk' rfl rfl rfl (S_build (t := 79) (pl := [(0, 1), (1, 1), (2, 3), (5, 3), (8, 1), (9, 2)]) (zs := [.string ⟨#[]⟩, .string ⟨#[]⟩, .int .i64 0, .int .i64 0, .int .i64 0, .int .i64 0, .int .i64 0, .int .i64 0, .slice none 0 0, .int .i64 0, .int .i64 0]) rfl (AEvs.cons (.tmp rfl) (AEvs.cons (.tmp rfl) AEvs.nil)) (by kernel_rfl) rfl) ?_) ?_
       ·rintro _ _ ⟨rfl, rfl⟩
        refine AO_step (rs := [6]) (by kernel_rfl) rfl ?_
        refine .cons (.mk' rfl rfl rfl (S_storeW 0 rfl (.tmp rfl) (.tmp rfl) rfl rfl rfl (by kernel_rfl)) ?_) ?_
        ·rintro _ _ ⟨rfl, rfl⟩
         refine AO_fin (by kernel_rfl) ⟨rfl, b3, (.cons rfl (Le.refl _) (.cons rfl (Le.refl _) (.cons rfl (Le.refl _) .nil))), rfl⟩
        exact .nil
       exact .nil
      exact .nil
     exact .nil
    refine .cons (.mk' rfl rfl rfl (S_alloc [.string ⟨#[]⟩, .string ⟨#[]⟩, .int .i64 0, .int .i64 0, .int .i64 0, .int .i64 0, .int .i64 0, .int .i64 0, .slice none 0 0, .int .i64 0, .int .i64 0] rfl (by kernel_rfl)) ?_) ?_
    ·rintro _ _ ⟨b3, rfl, rfl⟩
     refine AO_step (rs := [2]) (by kernel_rfl) rfl ?_
     refine .cons (.mk' rfl rfl rfl (S_loadM (cs := [.ptr b 0]) rfl (.tmp rfl) (by repeat (first | exact List.mem_cons_self | refine List.mem_cons_of_mem _ ?_)) rfl (by kernel_rfl)) ?_) ?_
     ·rintro _ _ ⟨rfl, rfl⟩
      refine AO_step (rs := [3]) (by kernel_rfl) rfl ?_
      refine .cons (.mk' rfl rfl rfl (S_call rfl (AEvs.cons (.tmp rfl) (AEvs.cons (AEv.const _) AEvs.nil)) (ACalls.preQ (pre := [_, _, _]) (F := F) (r_Text_ok b _ _ 33 (by decide) _))) ?_) ?_
      ·rintro _ _ ⟨_, ⟨rfl, rfl⟩, rfl⟩
       refine AO_step (rs := [4]) (by kernel_rfl) rfl ?_
       refine .cons (.mk' rfl rfl rfl (S_build (t := 79) (pl := [(0, 1), (1, 1), (2, 3), (5, 3), (8, 1), (9, 2)]) (zs := [.string ⟨#[]⟩, .string ⟨#[]⟩, .int .i64 0, .int .i64 0, .int .i64 0, .int .i64 0, .int .i64 0, .int .i64 0, .slice none 0 0, .int .i64 0, .int .i64 0]) rfl (AEvs.cons (.tmp rfl) (AEvs.cons (.tmp rfl) AEvs.nil)) (by kernel_rfl) rfl) ?_) ?_
       ·rintro _ _ ⟨rfl, rfl⟩
        refine AO_step (rs := [6]) (by kernel_rfl) rfl ?_
        refine .cons (.mk' rfl rfl rfl (S_storeW 0 rfl (.tmp rfl) (.tmp rfl) rfl rfl rfl (by kernel_rfl)) ?_) ?_
        ·rintro _ _ ⟨rfl, rfl⟩
         refine AO_fin (by kernel_rfl) ⟨rfl, b3, (.cons rfl (Le.refl _) (.cons rfl (Le.refl _) (.cons rfl (Le.refl _) .nil))), rfl⟩
        exact .nil
       exact .nil
      exact .nil
     exact .nil
    exact .nil
   refine .cons (.mk' rfl rfl rfl (S_loadM (cs := [.ptr b 0]) rfl (.tmp rfl) (by repeat (first | exact List.mem_cons_self | refine List.mem_cons_of_mem _ ?_)) rfl (by kernel_rfl)) ?_) ?_
   ·rintro _ _ ⟨rfl, rfl⟩
    refine AO_step (rs := [1, 5]) (by kernel_rfl) rfl ?_
    refine .cons (.mk' rfl rfl rfl (S_call rfl (AEvs.cons (.tmp rfl) (AEvs.cons (AEv.const _) AEvs.nil)) (ACalls.preQ (pre := [_, _]) (F := F) (r_Text_ok b _ _ 16 (by decide) _))) ?_) ?_
    ·rintro _ _ ⟨_, ⟨rfl, rfl⟩, rfl⟩
     refine AO_step (rs := [3, 5]) (by kernel_rfl) rfl ?_
     refine .cons (.mk' rfl rfl rfl (S_call rfl (AEvs.cons (.tmp rfl) (AEvs.cons (AEv.const _) AEvs.nil)) (ACalls.preQ (pre := [_, _]) (F := F) (r_Text_ok b _ _ 33 (by decide) _))) ?_) ?_
     ·rintro _ _ ⟨_, ⟨rfl, rfl⟩, rfl⟩
      refine AO_step (rs := [4, 5]) (by kernel_rfl) rfl ?_
      refine .cons (.mk' rfl rfl rfl (S_build (t := 79) (pl := [(0, 1), (1, 1), (2, 3), (5, 3), (8, 1), (9, 2)]) (zs := [.string ⟨#[]⟩, .string ⟨#[]⟩, .int .i64 0, .int .i64 0, .int .i64 0, .int .i64 0, .int .i64 0, .int .i64 0, .slice none 0 0, .int .i64 0, .int .i64 0]) rfl (AEvs.cons (.tmp rfl) (AEvs.cons (.tmp rfl) AEvs.nil)) (by kernel_rfl) rfl) ?_) ?_
      ·rintro _ _ ⟨rfl, rfl⟩
       refine AO_step (rs := [5]) (by kernel_rfl) rfl ?_
       refine .cons (.mk' rfl rfl rfl (S_alloc [.string ⟨#[]⟩, .string ⟨#[]⟩, .int .i64 0, .int .i64 0, .int .i64 0, .int .i64 0, .int .i64 0, .int .i64 0, .slice none 0 0, .int .i64 0, .int .i64 0] rfl (by kernel_rfl)) ?_) ?_
       ·rintro _ _ ⟨b3, rfl, rfl⟩
        refine AO_step (rs := [6]) (by kernel_rfl) rfl ?_
        refine .cons (.mk' rfl rfl rfl (S_storeW 0 rfl (.tmp rfl) (.tmp rfl) rfl rfl rfl (by kernel_rfl)) ?_) ?_
        ·rintro _ _ ⟨rfl, rfl⟩
         refine AO_fin (by kernel_rfl) ⟨rfl, b3, (.cons rfl (Le.refl _) (.cons rfl (Le.refl _) (.cons rfl (Le.refl _) .nil))), rfl⟩
        exact .nil
       exact .nil
      refine .cons (.mk' rfl rfl rfl (S_alloc [.string ⟨#[]⟩, .string ⟨#[]⟩, .int .i64 0, .int .i64 0, .int .i64 0, .int .i64 0, .int .i64 0, .int .i64 0, .slice none 0 0, .int .i64 0, .int .i64 0] rfl (by kernel_rfl)) ?_) ?_
      ·rintro _ _ ⟨b3, rfl, rfl⟩
       refine AO_step (rs := [4]) (by kernel_rfl) rfl ?_
       refine .cons (.mk' rfl rfl rfl (S_build (t := 79) (pl := [(0, 1), (1, 1), (2, 3), (5, 3), (8, 1), (9, 2)]) (zs := [.string ⟨#[]⟩, .string ⟨#[]⟩, .int .i64 0, .int .i64 0, .int .i64 0, .int .i64 0, .int .i64 0, .int .i64 0, .slice none 0 0, .int .i64 0, .int .i64 0]) rfl (AEvs.cons (.tmp rfl) (AEvs.cons (.tmp rfl) AEvs.nil)) (by kernel_rfl) rfl) ?_) ?_
       ·rintro _ _ ⟨rfl, rfl⟩
        refine AO_step (rs := [6]) (by kernel_rfl) rfl ?_
        refine .cons (.mk' rfl rfl rfl (S_storeW 0 rfl (.tmp rfl) (.tmp rfl) rfl rfl rfl (by kernel_rfl)) ?_) ?_
        ·rintro _ _ ⟨rfl, rfl⟩
         refine AO_fin (by kernel_rfl) ⟨rfl, b3, (.cons rfl (Le.refl _) (.cons rfl (Le.refl _) (.cons rfl (Le.refl _) .nil))), rfl⟩
        exact .nil
       exact .nil
      exact .nil
     refine .cons (.mk' rfl rfl rfl (S_alloc [.string ⟨#[]⟩, .string ⟨#[]⟩, .int .i64 0, .int .i64 0, .int .i64 0, .int .i64 0, .int .i64 0, .int .i64 0, .slice none 0 0, .int .i64 0, .int .i64 0] rfl (by kernel_rfl)) ?_) ?_
     ·rintro _ _ ⟨b3, rfl, rfl⟩
      refine AO_step (rs := [3]) (by kernel_rfl) rfl ?_
      refine .cons (.mk' rfl rfl rfl (S_call rfl (AEvs.cons (.tmp rfl) (AEvs.cons (AEv.const _) AEvs.nil)) (ACalls.preQ (pre := [_, _, _]) (F := F) (r_Text_ok b _ _ 33 (by decide) _))) ?_) ?_
      ·rintro _ _ ⟨_, ⟨rfl, rfl⟩, rfl⟩
       refine AO_step (rs := [4]) (by kernel_rfl) rfl ?_
       refine .cons (.mk' rfl rfl rfl (S_build (t := 79) (pl := [(0, 1), (1, 1), (2, 3), (5, 3), (8, 1), (9, 2)]) (zs := [.string ⟨#[]⟩, .string ⟨#[]⟩, .int .i64 0, .int .i64 0, .int .i64 0, .int .i64 0, .int .i64 0, .int .i64 0, .slice none 0 0, .int .i64 0, .int .i64 0]) rfl (AEvs.cons (.tmp rfl) (AEvs.cons (.tmp rfl) AEvs.nil)) (by kernel_rfl) rfl) ?_) ?_
       ·rintro _ _ ⟨rfl, rfl⟩
        refine AO_step (rs := [6]) (by kernel_rfl) rfl ?_
        refine .cons (.mk' rfl rfl rfl (S_storeW 0 rfl (.tmp rfl) (.tmp rfl) rfl rfl rfl (by kernel_rfl)) ?_) ?_
        ·rintro _ _ ⟨rfl, rfl⟩
         refine AO_fin (by kernel_rfl) ⟨rfl, b3, (.cons rfl (Le.refl _) (.cons rfl (Le.refl _) (.cons rfl (Le.refl _) .nil))), rfl⟩
        exact .nil
       exact .nil
      exact .nil
     exact .nil
    refine .cons (.mk' rfl rfl rfl (S_alloc [.string ⟨#[]⟩, .string ⟨#[]⟩, .int .i64 0, .int .i64 0, .int .i64 0, .int .i64 0, .int .i64 0, .int .i64 0, .slice none 0 0, .int .i64 0, .int .i64 0] rfl (by kernel_rfl)) ?_) ?_
    ·rintro _ _ ⟨b3, rfl, rfl⟩
     refine AO_step (rs := [1]) (by kernel_rfl) rfl ?_
     refine .cons (.mk' rfl rfl rfl (S_call rfl (AEvs.cons (.tmp rfl) (AEvs.cons (AEv.const _) AEvs.nil)) (ACalls.preQ (pre := [_, _, _]) (F := F) (r_Text_ok b _ _ 16 (by decide) _))) ?_) ?_
     ·rintro _ _ ⟨_, ⟨rfl, rfl⟩, rfl⟩
      refine AO_step (rs := [3]) (by kernel_rfl) rfl ?_
      refine .cons (.mk' rfl rfl rfl (S_call rfl (AEvs.cons (.tmp rfl) (AEvs.cons (AEv.const _) AEvs.nil)) (ACalls.preQ (pre := [_, _, _]) (F := F) (r_Text_ok b _ _ 33 (by decide) _))) ?_) ?_
      ·rintro _ _ ⟨_, ⟨rfl, rfl⟩, rfl⟩
       refine AO_step (rs := [4]) (by kernel_rfl) rfl ?_
       refine .cons (.mk' rfl rfl rfl (S_build (t := 79) (pl := [(0, 1), (1, 1), (2, 3), (5, 3), (8, 1), (9, 2)]) (zs := [.string ⟨#[]⟩, .string ⟨#[]⟩, .int .i64 0, .int .i64 0, .int .i64 0, .int .i64 0, .int .i64 0, .int .i64 0, .slice none 0 0, .int .i64 0, .int .i64 0]) rfl (AEvs.cons (.tmp rfl) (AEvs.cons (.tmp rfl) AEvs.nil)) (by kernel_rfl) rfl) ?_) ?_
       ·rintro _ _ ⟨rfl, rfl⟩
        refine AO_step (rs := [6]) (by kernel_rfl) rfl ?_
        refine .cons (.mk' rfl rfl rfl (S_storeW 0 rfl (.tmp rfl) (.tmp rfl) rfl rfl rfl (by kernel_rfl)) ?_) ?_
        ·rintro _ _ ⟨rfl, rfl⟩
         refine AO_fin (by kernel_rfl) ⟨rfl, b3, (.cons rfl (Le.refl _) (.cons rfl (Le.refl _) (.cons rfl (Le.refl _) .nil))), rfl⟩
        exact .nil
       exact .nil
      exact .nil
     exact .nil
    exact .nil
   refine .cons (.mk' rfl rfl rfl (S_alloc [.string ⟨#[]⟩, .string ⟨#[]⟩, .int .i64 0, .int .i64 0, .int .i64 0, .int .i64 0, .int .i64 0, .int .i64 0, .slice none 0 0, .int .i64 0, .int .i64 0] rfl (by kernel_rfl)) ?_) ?_
   ·rintro _ _ ⟨b3, rfl, rfl⟩
    refine AO_step (rs := [1, 2]) (by kernel_rfl) rfl ?_
    refine .cons (.mk' rfl rfl rfl (S_call rfl (AEvs.cons (.tmp rfl) (AEvs.cons (AEv.const _) AEvs.nil)) (ACalls.preQ (pre := [_, _, _]) (F := F) (r_Text_ok b _ _ 16 (by decide) _))) ?_) ?_
    ·rintro _ _ ⟨_, ⟨rfl, rfl⟩, rfl⟩
     refine AO_step (rs := [2]) (by kernel_rfl) rfl ?_
     refine .cons (.mk' rfl rfl rfl (S_loadM (cs := [.ptr b 0]) rfl (.tmp rfl) (by repeat (first | exact List.mem_cons_self | refine List.mem_cons_of_mem _ ?_)) rfl (by kernel_rfl)) ?_) ?_
     ·rintro _ _ ⟨rfl, rfl⟩
      refine AO_step (rs := [3]) (by kernel_rfl) rfl ?_
      refine .cons (.mk' rfl rfl rfl (S_call rfl (AEvs.cons (.tmp rfl) (AEvs.cons (AEv.const _) AEvs.nil)) (ACalls.preQ (pre := [_, _, _]) (F := F) (r_Text_ok b _ _ 33 (by decide) _))) ?_) ?_
      ·rintro _ _ ⟨_, ⟨rfl, rfl⟩, rfl⟩
       refine AO_step (rs := [4]) (by kernel_rfl) rfl ?_
       refine .cons (.mk' rfl rfl rfl (S_build (t := 79) (pl := [(0, 1), (1, 1), (2, 3), (5, 3), (8, 1), (9, 2)]) (zs := [.string ⟨#[]⟩, .string ⟨#[]⟩, .int .i64 0, .int .i64 0, .int .i64 0, .int .i64 0, .int .i64 0, .int .i64 0, .slice none 0 0, .int .i64 0, .int .i64 0]) rfl (AEvs.cons (.tmp rfl) (AEvs.cons (.tmp rfl) AEvs.nil)) (by kernel_rfl) rfl) ?_) ?_
       ·rintro _ _ ⟨rfl, rfl⟩
        refine AO_step (rs := [6]) (by kernel_rfl) rfl ?_
        refine .cons (.mk' rfl rfl rfl (S_storeW 0 rfl (.tmp rfl) (.tmp rfl) rfl rfl rfl (by kernel_rfl)) ?_) ?_
        ·rintro _ _ ⟨rfl, rfl⟩
         refine AO_fin (by kernel_rfl) ⟨rfl, b3, (.cons rfl (Le.refl _) (.cons rfl (Le.refl _) (.cons rfl (Le.refl _) .nil))), rfl⟩
        exact .nil
       exact .nil
      exact .nil
     exact .nil
    refine .cons (.mk' rfl rfl rfl (S_loadM (cs := [.ptr b 0]) rfl (.tmp rfl) (by repeat (first | exact List.mem_cons_self | refine List.mem_cons_of_mem _ ?_)) rfl (by kernel_rfl)) ?_) ?_
    ·rintro _ _ ⟨rfl, rfl⟩
     refine AO_step (rs := [1]) (by kernel_rfl) rfl ?_
     refine .cons (.mk' rfl rfl rfl (S_call rfl (AEvs.cons (.tmp rfl) (AEvs.cons (AEv.const _) AEvs.nil)) (ACalls.preQ (pre := [_, _, _]) (F := F) (r_Text_ok b _ _ 16 (by decide) _))) ?_) ?_
     ·rintro _ _ ⟨_, ⟨rfl, rfl⟩, rfl⟩
      refine AO_step (rs := [3]) (by kernel_rfl) rfl ?_
      refine .cons (.mk' rfl rfl rfl (S_call rfl (AEvs.cons (.tmp rfl) (AEvs.cons (AEv.const _) AEvs.nil)) (ACalls.preQ (pre := [_, _, _]) (F := F) (r_Text_ok b _ _ 33 (by decide) _))) ?_) ?_
      ·rintro _ _ ⟨_, ⟨rfl, rfl⟩, rfl⟩
       refine AO_step (rs := [4]) (by kernel_rfl) rfl ?_
       refine .cons (.mk' rfl rfl rfl (S_build (t := 79) (pl := [(0, 1), (1, 1), (2, 3), (5, 3), (8, 1), (9, 2)]) (zs := [.string ⟨#[]⟩, .string ⟨#[]⟩, .int .i64 0, .int .i64 0, .int .i64 0, .int .i64 0, .int .i64 0, .int .i64 0, .slice none 0 0, .int .i64 0, .int .i64 0]) rfl (AEvs.cons (.tmp rfl) (AEvs.cons (.tmp rfl) AEvs.nil)) (by kernel_rfl) rfl) ?_) ?_
       ·rintro _ _ ⟨rfl, rfl⟩
        refine AO_step (rs := [6]) (by kernel_rfl) rfl ?_
        refine .cons (.mk' rfl rfl rfl (S_storeW 0 rfl (.tmp rfl) (.tmp rfl) rfl rfl rfl (by kernel_rfl)) ?_) ?_
        ·rintro _ _ ⟨rfl, rfl⟩
         refine AO_fin (by kernel_rfl) ⟨rfl, b3, (.cons rfl (Le.refl _) (.cons rfl (Le.refl _) (.cons rfl (Le.refl _) .nil))), rfl⟩
        exact .nil
       exact .nil
      exact .nil
     exact .nil
    exact .nil
   exact .nil
  refine .cons (.mk' rfl rfl rfl (S_loadM (cs := [.ptr b 0]) rfl (.tmp rfl) (by repeat (first | exact List.mem_cons_self | refine List.mem_cons_of_mem _ ?_)) rfl (by kernel_rfl)) ?_) ?_
  ·rintro _ _ ⟨rfl, rfl⟩
   refine AO_step (rs := [0, 5]) (by kernel_rfl) rfl ?_
   refine .cons (.mk' rfl rfl rfl (S_loadM (cs := [.ptr b 0]) rfl (.tmp rfl) (by repeat (first | exact List.mem_cons_self | refine List.mem_cons_of_mem _ ?_)) rfl (by kernel_rfl)) ?_) ?_
   ·rintro _ _ ⟨rfl, rfl⟩
    refine AO_step (rs := [1, 5]) (by kernel_rfl) rfl ?_
    refine .cons (.mk' rfl rfl rfl (S_call rfl (AEvs.cons (.tmp rfl) (AEvs.cons (AEv.const _) AEvs.nil)) (ACalls.preQ (pre := [_, _]) (F := F) (r_Text_ok b _ _ 16 (by decide) _))) ?_) ?_
    ·rintro _ _ ⟨_, ⟨rfl, rfl⟩, rfl⟩
     refine AO_step (rs := [3, 5]) (by kernel_rfl) rfl ?_
     refine .cons (.mk' rfl rfl rfl (S_call rfl (AEvs.cons (.tmp rfl) (AEvs.cons (AEv.const _) AEvs.nil)) (ACalls.preQ (pre := [_, _]) (F := F) (r_Text_ok b _ _ 33 (by decide) _))) ?_) ?_
     ·rintro _ _ ⟨_, ⟨rfl, rfl⟩, rfl⟩
      refine AO_step (rs := [4, 5]) (by kernel_rfl) rfl ?_
      refine .cons (.mk' rfl rfl rfl (S_build (t := 79) (pl := [(0, 1), (1, 1), (2, 3), (5, 3), (8, 1), (9, 2)]) (zs := [.string ⟨#[]⟩, .string ⟨#[]⟩, .int .i64 0, .int .i64 0, .int .i64 0, .int .i64 0, .int .i64 0, .int .i64 0, .slice none 0 0, .int .i64 0, .int .i64 0]) rfl (AEvs.cons (.tmp rfl) (AEvs.cons (.tmp rfl) AEvs.nil)) (by kernel_rfl) rfl) ?_) ?_
      ·rintro _ _ ⟨rfl, rfl⟩
       refine AO_step (rs := [5]) (by kernel_rfl) rfl ?_
       refine .cons (.mk' rfl rfl rfl (S_alloc [.string ⟨#[]⟩, .string ⟨#[]⟩, .int .i64 0, .int .i64 0, .int .i64 0, .int .i64 0, .int .i64 0, .int .i64 0, .slice none 0 0, .int .i64 0, .int .i64 0] rfl (by kernel_rfl)) ?_) ?_
       ·rintro _ _ ⟨b3, rfl, rfl⟩
        refine AO_step (rs := [6]) (by kernel_rfl) rfl ?_
        refine .cons (.mk' rfl rfl rfl (S_storeW 0 rfl (.tmp rfl) (.tmp rfl) rfl rfl rfl (by kernel_rfl)) ?_) ?_
        ·rintro _ _ ⟨rfl, rfl⟩
         refine AO_fin (by kernel_rfl) ⟨rfl, b3, (.cons rfl (Le.refl _) (.cons rfl (Le.refl _) (.cons rfl (Le.refl _) .nil))), rfl⟩
        exact .nil
       exact .nil
      refine .cons (.mk' rfl rfl rfl (S_alloc [.string ⟨#[]⟩, .string ⟨#[]⟩, .int .i64 0, .int .i64 0, .int .i64 0, .int .i64 0, .int .i64 0, .int .i64 0, .slice none 0 0, .int .i64 0, .int .i64 0] rfl (by kernel_rfl)) ?_) ?_
      ·rintro _ _ ⟨b3, rfl, rfl⟩
       refine AO_step (rs := [4]) (by kernel_rfl) rfl ?_
       refine .cons (.mk' rfl rfl rfl (S_build (t := 79) (pl := [(0, 1), (1, 1), (2, 3), (5, 3), (8, 1), (9, 2)]) (zs := [.string ⟨#[]⟩, .string ⟨#[]⟩, .int .i64 0, .int .i64 0, .int .i64 0, .int .i64 0, .int .i64 0, .int .i64 0, .slice none 0 0, .int .i64 0, .int .i64 0]) rfl (AEvs.cons (.tmp rfl) (AEvs.cons (.tmp rfl) AEvs.nil)) (by kernel_rfl) rfl) ?_) ?_
       ·rintro _ _ ⟨rfl, rfl⟩
        refine AO_step (rs := [6]) (by kernel_rfl) rfl ?_
        refine .cons (.mk' rfl rfl rfl (S_storeW 0 rfl (.tmp rfl) (.tmp rfl) rfl rfl rfl (by kernel_rfl)) ?_) ?_
        ·rintro _ _ ⟨rfl, rfl⟩
         refine AO_fin (by kernel_rfl) ⟨rfl, b3, (.cons rfl (Le.refl _) (.cons rfl (Le.refl _) (.cons rfl (Le.refl _) .nil))), rfl⟩
        exact .nil
       exact .nil
      exact .nil
     refine .cons (.mk' rfl rfl rfl (S_alloc [.string ⟨#[]⟩, .string ⟨#[]⟩, .int .i64 0, .int .i64 0, .int .i64 0, .int .i64 0, .int .i64 0, .int .i64 0, .slice none 0 0, .int .i64 0, .int .i64 0] rfl (by kernel_rfl)) ?_) ?_
     ·rintro _ _ ⟨b3, rfl, rfl⟩
      refine AO_step (rs := [3]) (by kernel_rfl) rfl ?_
      refine .cons (.mk' rfl rfl rfl (S_call rfl (AEvs.cons (.tmp rfl) (AEvs.cons (AEv.const _) AEvs.nil)) (ACalls.preQ (pre := [_, _, _]) (F := F) (r_Text_ok b _ _ 33 (by decide) _))) ?_) ?_
      ·rintro _ _ ⟨_, ⟨rfl, rfl⟩, rfl⟩
       refine AO_step (rs := [4]) (by kernel_rfl) rfl ?_
       refine .cons (.mk' rfl rfl rfl (S_build (t := 79) (pl := [(0, 1), (1, 1), (2, 3), (5, 3), (8, 1), (9, 2)]) (zs := [.string ⟨#[]⟩, .string ⟨#[]⟩, .int .i64 0, .int .i64 0, .int .i64 0, .int .i64 0, .int .i64 0, .int .i64 0, .slice none 0 0, .int .i64 0, .int .i64 0]) rfl (AEvs.cons (.tmp rfl) (AEvs.cons (.tmp rfl) AEvs.nil)) (by kernel_rfl) rfl) ?_) ?_
       ·rintro _ _ ⟨rfl, rfl⟩
        refine AO_step (rs := [6]) (by kernel_rfl) rfl ?_
        refine .cons (.mk' rfl rfl rfl (S_storeW 0 rfl (.tmp rfl) (.tmp rfl) rfl rfl rfl (by kernel_rfl)) ?_) ?_
        ·rintro _ _ ⟨rfl, rfl⟩
         refine AO_fin (by kernel_rfl) ⟨rfl, b3, (.cons rfl (Le.refl _) (.cons rfl (Le.refl _) (.cons rfl (Le.refl _) .nil))), rfl⟩
        exact .nil
       exact .nil
      exact .nil
     exact .nil
    refine .cons (.mk' rfl rfl rfl (S_alloc [.string ⟨#[]⟩, .string ⟨#[]⟩, .int .i64 0, .int .i64 0, .int .i64 0, .int .i64 0, .int .i64 0, .int .i64 0, .slice none 0 0, .int .i64 0, .int .i64 0] rfl (by kernel_rfl)) ?_) ?_
    ·rintro _ _ ⟨b3, rfl, rfl⟩
     refine AO_step (rs := [1]) (by kernel_rfl) rfl ?_
     refine .cons (.mk' rfl rfl rfl (S_call rfl (AEvs.cons (.tmp rfl) (AEvs.cons (AEv.const _) AEvs.nil)) (ACalls.preQ (pre := [_, _, _]) (F := F) (r_Text_ok b _ _ 16 (by decide) _))) ?_) ?_
     ·rintro _ _ ⟨_, ⟨rfl, rfl⟩, rfl⟩
      refine AO_step (rs := [3]) (by kernel_rfl) rfl ?_
      refine .cons (.mk' rfl rfl rfl (S_call rfl (AEvs.cons (.tmp rfl) (AEvs.cons (AEv.const _) AEvs.nil)) (ACalls.preQ (pre := [_, _, _]) (F := F) (r_Text_ok b _ _ 33 (by decide) _))) ?_) ?_
      ·rintro _ _ ⟨_, ⟨rfl, rfl⟩, rfl⟩
       refine AO_step (rs := [4]) (by kernel_rfl) rfl ?_
       refine .cons (.mk' rfl rfl rfl (S_build (t := 79) (pl := [(0, 1), (1, 1), (2, 3), (5, 3), (8, 1), (9, 2)]) (zs := [.string ⟨#[]⟩, .string ⟨#[]⟩, .int .i64 0, .int .i64 0, .int .i64 0, .int .i64 0, .int .i64 0, .int .i64 0, .slice none 0 0, .int .i64 0, .int .i64 0]) rfl (AEvs.cons (.tmp rfl) (AEvs.cons (.tmp rfl) AEvs.nil)) (by kernel_rfl) rfl) ?_) ?_
       ·rintro _ _ ⟨rfl, rfl⟩
        refine AO_step (rs := [6]) (by kernel_rfl) rfl ?_
        refine .cons (.mk' rfl rfl rfl (S_storeW 0 rfl (.tmp rfl) (.tmp rfl) rfl rfl rfl (by kernel_rfl)) ?_) ?_
        ·rintro _ _ ⟨rfl, rfl⟩
         refine AO_fin (by kernel_rfl) ⟨rfl, b3, (.cons rfl (Le.refl _) (.cons rfl (Le.refl _) (.cons rfl (Le.refl _) .nil))), rfl⟩
        exact .nil
       exact .nil
      exact .nil
     exact .nil
    exact .nil
   refine .cons (.mk' rfl rfl rfl (S_alloc [.string ⟨#[]⟩, .string ⟨#[]⟩, .int .i64 0, .int .i64 0, .int .i64 0, .int .i64 0, .int .i64 0, .int .i64 0, .slice none 0 0, .int .i64 0, .int .i64 0] rfl (by kernel_rfl)) ?_) ?_
   ·rintro _ _ ⟨b3, rfl, rfl⟩
    refine AO_step (rs := [0]) (by kernel_rfl) rfl ?_
    refine .cons (.mk' rfl rfl rfl (S_loadM (cs := [.ptr b 0]) rfl (.tmp rfl) (by repeat (first | exact List.mem_cons_self | refine List.mem_cons_of_mem _ ?_)) rfl (by kernel_rfl)) ?_) ?_
    ·rintro _ _ ⟨rfl, rfl⟩
     refine AO_step (rs := [1]) (by kernel_rfl) rfl ?_
     refine .cons (.mk' rfl rfl rfl (S_call rfl (AEvs.cons (.tmp rfl) (AEvs.cons (AEv.const _) AEvs.nil)) (ACalls.preQ (pre := [_, _, _]) (F := F) (r_Text_ok b _ _ 16 (by decide) _))) ?_) ?_
     ·rintro _ _ ⟨_, ⟨rfl, rfl⟩, rfl⟩
      refine AO_step (rs := [3]) (by kernel_rfl) rfl ?_
      refine .cons (.mk' rfl rfl rfl (S_call rfl (AEvs.cons (.tmp rfl) (AEvs.cons (AEv.const _) AEvs.nil)) (ACalls.preQ (pre := [_, _, _]) (F := F) (r_Text_ok b _ _ 33 (by decide) _))) ?_) ?_
      ·rintro _ _ ⟨_, ⟨rfl, rfl⟩, rfl⟩
       refine AO_step (rs := [4]) (by kernel_rfl) rfl ?_
       refine .cons (.mk' rfl rfl rfl (S_build (t := 79) (pl := [(0, 1), (1, 1), (2, 3), (5, 3), (8, 1), (9, 2)]) (zs := [.string ⟨#[]⟩, .string ⟨#[]⟩, .int .i64 0, .int .i64 0, .int .i64 0, .int .i64 0, .int .i64 0, .int .i64 0, .slice none 0 0, .int .i64 0, .int .i64 0]) rfl (AEvs.cons (.tmp rfl) (AEvs.cons (.tmp rfl) AEvs.nil)) (by kernel_rfl) rfl) ?_) ?_
       ·rintro _ _ ⟨rfl, rfl⟩
        refine AO_step (rs := [6]) (by kernel_rfl) rfl ?_
        refine .cons (.mk' rfl rfl rfl (S_storeW 0 rfl (.tmp rfl) (.tmp rfl) rfl rfl rfl (by kernel_rfl)) ?_) ?_
        ·rintro _ _ ⟨rfl, rfl⟩
         refine AO_fin (by kernel_rfl) ⟨rfl, b3, (.cons rfl (Le.refl _) (.cons rfl (Le.refl _) (.cons rfl (Le.refl _) .nil))), rfl⟩
        exact .nil
       exact .nil
      exact .nil
     exact .nil
    exact .nil
   exact .nil
  refine .cons (.mk' rfl rfl rfl (S_alloc [.string ⟨#[]⟩, .string ⟨#[]⟩, .int .i64 0, .int .i64 0, .int .i64 0, .int .i64 0, .int .i64 0, .int .i64 0, .slice none 0 0, .int .i64 0, .int .i64 0] rfl (by kernel_rfl)) ?_) ?_
  ·rintro _ _ ⟨b3, rfl, rfl⟩
   refine AO_step (rs := [0, 2]) (by kernel_rfl) rfl ?_
   refine .cons (.mk' rfl rfl rfl (S_loadM (cs := [.ptr b 0]) rfl (.tmp rfl) (by repeat (first | exact List.mem_cons_self | refine List.mem_cons_of_mem _ ?_)) rfl (by kernel_rfl)) ?_) ?_
   ·rintro _ _ ⟨rfl, rfl⟩
    refine AO_step (rs := [1, 2]) (by kernel_rfl) rfl ?_
    refine .cons (.mk' rfl rfl rfl (S_call rfl (AEvs.cons (.tmp rfl) (AEvs.cons (AEv.const _) AEvs.nil)) (ACalls.preQ (pre := [_, _, _]) (F := F) (r_Text_ok b _ _ 16 (by decide) _))) ?_) ?_
    ·rintro _ _ ⟨_, ⟨rfl, rfl⟩, rfl⟩
     refine AO_step (rs := [2]) (by kernel_rfl) rfl ?_
     refine .cons (.mk' rfl rfl rfl (S_loadM (cs := [.ptr b 0]) rfl (.tmp rfl) (by repeat (first | exact List.mem_cons_self | refine List.mem_cons_of_mem _ ?_)) rfl (by kernel_rfl)) ?_) ?_
     ·rintro _ _ ⟨rfl, rfl⟩
      refine AO_step (rs := [3]) (by kernel_rfl) rfl ?_
      refine .cons (.mk' rfl rfl rfl (S_call rfl (AEvs.cons (.tmp rfl) (AEvs.cons (AEv.const _) AEvs.nil)) (ACalls.preQ (pre := [_, _, _]) (F := F) (r_Text_ok b _ _ 33 (by decide) _))) ?_) ?_
      ·rintro _ _ ⟨_, ⟨rfl, rfl⟩, rfl⟩
       refine AO_step (rs := [4]) (by kernel_rfl) rfl ?_
       refine .cons (.mk' rfl rfl rfl (S_build (t := 79) (pl := [(0, 1), (1, 1), (2, 3), (5, 3), (8, 1), (9, 2)]) (zs := [.string ⟨#[]⟩, .string ⟨#[]⟩, .int .i64 0, .int .i64 0, .int .i64 0, .int .i64 0, .int .i64 0, .int .i64 0, .slice none 0 0, .int .i64 0, .int .i64 0]) rfl (AEvs.cons (.tmp rfl) (AEvs.cons (.tmp rfl) AEvs.nil)) (by kernel_rfl) rfl) ?_) ?_
       ·rintro _ _ ⟨rfl, rfl⟩
        refine AO_step (rs := [6]) (by kernel_rfl) rfl ?_
        refine .cons (.mk' rfl rfl rfl (S_storeW 0 rfl (.tmp rfl) (.tmp rfl) rfl rfl rfl (by kernel_rfl)) ?_) ?_
        ·rintro _ _ ⟨rfl, rfl⟩
         refine AO_fin (by kernel_rfl) ⟨rfl, b3, (.cons rfl (Le.refl _) (.cons rfl (Le.refl _) (.cons rfl (Le.refl _) .nil))), rfl⟩
        exact .nil
       exact .nil
      exact .nil
     exact .nil
    refine .cons (.mk' rfl rfl rfl (S_loadM (cs := [.ptr b 0]) rfl (.tmp rfl) (by repeat (first | exact List.mem_cons_self | refine List.mem_cons_of_mem _ ?_)) rfl (by kernel_rfl)) ?_) ?_
    ·rintro _ _ ⟨rfl, rfl⟩
     refine AO_step (rs := [1]) (by kernel_rfl) rfl ?_
     refine .cons (.mk' rfl rfl rfl (S_call rfl (AEvs.cons (.tmp rfl) (AEvs.cons (AEv.const _) AEvs.nil)) (ACalls.preQ (pre := [_, _, _]) (F := F) (r_Text_ok b _ _ 16 (by decide) _))) ?_) ?_
     ·rintro _ _ ⟨_, ⟨rfl, rfl⟩, rfl⟩
      refine AO_step (rs := [3]) (by kernel_rfl) rfl ?_
      refine .cons (.mk' rfl rfl rfl (S_call rfl (AEvs.cons (.tmp rfl) (AEvs.cons (AEv.const _) AEvs.nil)) (ACalls.preQ (pre := [_, _, _]) (F := F) (r_Text_ok b _ _ 33 (by decide) _))) ?_) ?_
      ·rintro _ _ ⟨_, ⟨rfl, rfl⟩, rfl⟩
       refine AO_step (rs := [4]) (by kernel_rfl) rfl ?_
       refine .cons (.mk' rfl rfl rfl (S_build (t := 79) (pl := [(0, 1), (1, 1), (2, 3), (5, 3), (8, 1), (9, 2)]) (zs := [.string ⟨#[]⟩, .string ⟨#[]⟩, .int .i64 0, .int .i64 0, .int .i64 0, .int .i64 0, .int .i64 0, .int .i64 0, .slice none 0 0, .int .i64 0, .int .i64 0]) rfl (AEvs.cons (.tmp rfl) (AEvs.cons (.tmp rfl) AEvs.nil)) (by kernel_rfl) rfl) ?_) ?_
       ·rintro _ _ ⟨rfl, rfl⟩
        refine AO_step (rs := [6]) (by kernel_rfl) rfl ?_
        refine .cons (.mk' rfl rfl rfl (S_storeW 0 rfl (.tmp rfl) (.tmp rfl) rfl rfl rfl (by kernel_rfl)) ?_) ?_
        ·rintro _ _ ⟨rfl, rfl⟩
         refine AO_fin (by kernel_rfl) ⟨rfl, b3, (.cons rfl (Le.refl _) (.cons rfl (Le.refl _) (.cons rfl (Le.refl _) .nil))), rfl⟩
        exact .nil
       exact .nil
      exact .nil
     exact .nil
    exact .nil
   refine .cons (.mk' rfl rfl rfl (S_loadM (cs := [.ptr b 0]) rfl (.tmp rfl) (by repeat (first | exact List.mem_cons_self | refine List.mem_cons_of_mem _ ?_)) rfl (by kernel_rfl)) ?_) ?_
   ·rintro _ _ ⟨rfl, rfl⟩
    refine AO_step (rs := [0]) (by kernel_rfl) rfl ?_
    refine .cons (.mk' rfl rfl rfl (S_loadM (cs := [.ptr b 0]) rfl (.tmp rfl) (by repeat (first | exact List.mem_cons_self | refine List.mem_cons_of_mem _ ?_)) rfl (by kernel_rfl)) ?_) ?_
    ·rintro _ _ ⟨rfl, rfl⟩
     refine AO_step (rs := [1]) (by kernel_rfl) rfl ?_
     refine .cons (.mk' rfl rfl rfl (S_call rfl (AEvs.cons (.tmp rfl) (AEvs.cons (AEv.const _) AEvs.nil)) (ACalls.preQ (pre := [_, _, _]) (F := F) (r_Text_ok b _ _ 16 (by decide) _))) ?_) ?_
     ·rintro _ _ ⟨_, ⟨rfl, rfl⟩, rfl⟩
      refine AO_step (rs := [3]) (by kernel_rfl) rfl ?_
      refine .cons (.mk' rfl rfl rfl (S_call rfl (AEvs.cons (.tmp rfl) (AEvs.cons (AEv.const _) AEvs.nil)) (ACalls.preQ (pre := [_, _, _]) (F := F) (r_Text_ok b _ _ 33 (by decide) _))) ?_) ?_
      ·rintro _ _ ⟨_, ⟨rfl, rfl⟩, rfl⟩
       refine AO_step (rs := [4]) (by kernel_rfl) rfl ?_
       refine .cons (.mk' rfl rfl rfl (S_build (t := 79) (pl := [(0, 1), (1, 1), (2, 3), (5, 3), (8, 1), (9, 2)]) (zs := [.string ⟨#[]⟩, .string ⟨#[]⟩, .int .i64 0, .int .i64 0, .int .i64 0, .int .i64 0, .int .i64 0, .int .i64 0, .slice none 0 0, .int .i64 0, .int .i64 0]) rfl (AEvs.cons (.tmp rfl) (AEvs.cons (.tmp rfl) AEvs.nil)) (by kernel_rfl) rfl) ?_) ?_
       ·rintro _ _ ⟨rfl, rfl⟩
        refine AO_step (rs := [6]) (by kernel_rfl) rfl ?_
        refine .cons (.mk' rfl rfl rfl (S_storeW 0 rfl (.tmp rfl) (.tmp rfl) rfl rfl rfl (by kernel_rfl)) ?_) ?_
        ·rintro _ _ ⟨rfl, rfl⟩
         refine AO_fin (by kernel_rfl) ⟨rfl, b3, (.cons rfl (Le.refl _) (.cons rfl (Le.refl _) (.cons rfl (Le.refl _) .nil))), rfl⟩
        exact .nil
       exact .nil
      exact .nil
     exact .nil
    exact .nil
   exact .nil
  exact .nil
 rintro _ _ ⟨b3, henv, rfl⟩
 refine AC_weak _ henv ?_
 clear henv
 refine AC_seq ?_
 generalize h1 : wtextR s c 16 = r1
 generalize h2 : wtextR r1.2.1 r1.2.2 33 = r2
 refine AC_plan (σ := [(0, 0), (2, 0), (1, 1), (4, 0), (3, 1), (5, 2), (6, 0), (7, 2)]) (by kernel_rfl) [(b1, Ob.cells [.ptr b 0])] (by kernel_rfl) (fun r hr => by rw [List.mem_singleton.1 hr]; exact (by repeat (first | exact List.mem_cons_self | refine List.mem_cons_of_mem _ ?_))) ?_
 refine AG.f rfl rfl (fun st' hst => Q_p rfl (S_loadM (cs := [.ptr b 0]) rfl (.tmp rfl) (hst _ List.mem_cons_self) rfl (by kernel_rfl))) ?_
 refine AG.f rfl rfl (fun st' hst => Q_p rfl (S_loadM (cs := [.ptr b 0]) rfl (.tmp rfl) (hst _ List.mem_cons_self) rfl (by kernel_rfl))) ?_
 refine AG.s rfl rfl rfl (S_call rfl (AEvs.cons (.tmp rfl) AEvs.nil) (ACalls.preQ (pre := [_, _, _]) (F := F) (takeRes_ok b _ _ _))) ?_ ?_
 ·rintro _ _ ⟨_, ⟨rfl, rfl⟩, rfl⟩ r hr; rw [List.mem_singleton.1 hr]; exact (by repeat (first | exact List.mem_cons_self | refine List.mem_cons_of_mem _ ?_))
 rintro _ _ ⟨_, ⟨rfl, rfl⟩, rfl⟩
 refine AG.f rfl rfl (fun st' hst => Q_p rfl (S_field 2 rfl (.tmp rfl) (by kernel_rfl))) ?_
 refine AG.s rfl rfl rfl (S_call rfl (AEvs.cons (.tmp rfl) AEvs.nil) (ACalls.preQ (pre := [_, _, _]) (F := F) (takeRes_ok b _ _ _))) ?_ ?_
 ·rintro _ _ ⟨_, ⟨rfl, rfl⟩, rfl⟩ r hr; rw [List.mem_singleton.1 hr]; exact (by repeat (first | exact List.mem_cons_self | refine List.mem_cons_of_mem _ ?_))
 rintro _ _ ⟨_, ⟨rfl, rfl⟩, rfl⟩
 refine AG.h rfl rfl rfl (S_storeN 0 rfl (.tmp rfl) (.tmp rfl) rfl (by first | exact Nat.le_of_ble_eq_true rfl | (simp; omega) | simp) (by first | rfl | simp [AV.one, Value.oneCell']) (by kernel_rfl)) ?_
 rintro _ _ ⟨rfl, rfl⟩
 refine AG.f rfl rfl (fun st' hst => Q_p rfl (S_field 5 rfl (.tmp rfl) (by kernel_rfl))) ?_
 refine AG.h rfl rfl rfl (S_storeN 0 rfl (.tmp rfl) (.tmp rfl) rfl (by first | exact Nat.le_of_ble_eq_true rfl | (simp; omega) | simp) (by first | rfl | simp [AV.one, Value.oneCell']) (by kernel_rfl)) ?_
 rintro _ _ ⟨rfl, rfl⟩
 refine AG.nil ?_
 refine AC_seq (AC_region ?_)
 refine ld 2 ?_
 refine p_ (S_makeFunc (caps := [_]) rfl (AEvs.cons (.tmp rfl) AEvs.nil)) ?_
 refine s_ (S_call rfl (AEvs.cons (.tmp rfl) (AEvs.cons (AEv.const _) (AEvs.cons (.tmp rfl) AEvs.nil))) (ACalls.preQ (pre := [_, _, _]) (F := F) (takeAllI_ok b _ _ b1 3 (by decide) (by decide) _ (by repeat (first | exact List.mem_cons_self | refine List.mem_cons_of_mem _ ?_))))) ?_
 rintro _ _ ⟨_, ⟨rfl, rfl⟩, rfl⟩
 generalize h3 : triRd r2.2.1 r2.2.2 = r3
 generalize h4 : triRd r3.2.1 r3.2.2 = r4
 generalize h5 : allR (numRd 65535) 3 r4.2.1 r4.2.2 = r5
 refine fl 8 ?_
 refine st1 0 ?_
 refine AL_nil (AC_seq (AC_region ?_))
 refine ld 2 ?_
 refine s_ (S_call rfl (AEvs.cons (.tmp rfl) (AEvs.cons (AEv.const _) AEvs.nil)) (ACalls.preQ (pre := [_, _, _]) (F := F) (r_Num_ok b _ _ 1000 (by decide) _))) ?_
 rintro _ _ ⟨_, ⟨rfl, rfl⟩, rfl⟩
 generalize h6 : numR r5.2.1 r5.2.2 1000 = r6
 refine fl 9 ?_
 refine fl 0 ?_
 refine st1 0 ?_
 refine AL_nil (AC_seq (AC_region ?_))
 refine ld 2 ?_
 refine s_ (S_call rfl (AEvs.cons (.tmp rfl) (AEvs.cons (AEv.const _) AEvs.nil)) (ACalls.preQ (pre := [_, _, _]) (F := F) (r_Num_ok b _ _ 10 (by decide) _))) ?_
 rintro _ _ ⟨_, ⟨rfl, rfl⟩, rfl⟩
 generalize h7 : numR r6.2.1 r6.2.2 10 = r7
 refine fl 9 ?_
 refine fl 1 ?_
 refine st1 0 ?_
 refine AL_nil (AC_seq (AC_region ?_))
 refine ldN 11 0 ?_
 refine stW 1 ?_
 refine AL_nil (AC_ret ?_)
 refine ret_cell 1 ([(b, Ob.cells [.S (r7.2.1), .int .i64 (r7.2.2)])] ++ F) rfl rfl rfl (by kernel_rfl) (Sub.l (((List.sublist_cons_self _ _).trans (List.sublist_cons_self _ _)).trans (List.sublist_cons_self _ _))) (Conv.refl (Sub.l (((List.sublist_cons_self _ _).trans (List.sublist_cons_self _ _)).trans (List.sublist_cons_self _ _))) _) ⟨_, ⟨by subst h7 h6 h5 h4 h3 h2 h1; rfl, by subst h7 h6 h5 h4 h3 h2 h1; rfl⟩, rfl⟩ (.inl rfl)
end Go.Proofs.YtfmiciodcimkeaaGreatDoor

set_option maxRecDepth 100000
namespace Go.Proofs.YtfmiciodcimkeaaGreatDoor
open Go.AL Go.NumSpec
set_option maxHeartbeats 2000000 in
theorem takeP1_ok (b : Nat) (s : List UInt8) (c : Int) (br : Nat) (F : St) (hw : (br, Ob.cells [.ptr b 0]) ∈ F) : ACalls Tryz.prog 70 [.ptr br 0] ([(b, Ob.cells [.S (s), .int .i64 (c)])] ++ F) (fun x st' => ∃ foot', (x = ctrAV (ctrRd s c).1 ∧ foot' = [(b, Ob.cells [.S ((ctrRd s c).2.1), .int .i64 ((ctrRd s c).2.2)])]) ∧ st' = foot' ++ F) := by
 refine co 4 Tryz.func70 ?_
 refine AC_seq (AC_region ?_)
 refine s_ (S_alloc [.string ⟨#[]⟩, .string ⟨#[]⟩, .int .i64 0, .int .i64 0, .int .i64 0, .int .i64 0, .int .i64 0, .int .i64 0, .slice none 0 0, .int .i64 0, .int .i64 0] rfl (by kernel_rfl)) ?_
 rintro _ _ ⟨b1, rfl, rfl⟩
 refine AL_nil (AC_seq (AC_region ?_))
 refine p_ (S_loadM (cs := [.ptr b 0]) rfl (.tmp rfl) (by repeat (first | exact hw | exact List.mem_cons_self | refine List.mem_cons_of_mem _ ?_)) rfl (by kernel_rfl)) ?_
 refine s_ (S_call rfl (AEvs.cons (.tmp rfl) AEvs.nil) (ACalls.preQ (pre := [_]) (F := F) (takeContainer_ok b _ _ _))) ?_
 rintro _ _ ⟨_, ⟨rfl, rfl⟩, rfl⟩
 refine stW 0 ?_
 refine AL_nil (AC_ret ?_)
 refine ret_cell 0 ([(b, Ob.cells [.S ((ctrRd s c).2.1), .int .i64 ((ctrRd s c).2.2)])] ++ F) rfl rfl rfl (by kernel_rfl) (Sub.l (List.sublist_cons_self _ _)) (Conv.refl (Sub.l (List.sublist_cons_self _ _)) _) ⟨_, ⟨rfl, rfl⟩, rfl⟩ (.inl rfl)
set_option maxHeartbeats 2000000 in
theorem takeAllC_ok (b : Nat) (s : List UInt8) (c : Int) (br : Nat) (most : Int) (h0 : 0 ≤ most) (h1 : most ≤ 1000) (F : St) (hw : (br, Ob.cells [.ptr b 0]) ∈ F) : ACalls Tryz.prog 72 [.ptr b 0, .int .i64 most, .fn 70 [.pointer (some ⟨br, 0, none⟩)]] ([(b, Ob.cells [.S (s), .int .i64 (c)])] ++ F) (fun x st' => ∃ foot', (x = .sl ((allR ctrRd most s c).1.map ctrAV) ∧ foot' = [(b, Ob.cells [.S ((allR ctrRd most s c).2.1), .int .i64 ((allR ctrRd most s c).2.2)])]) ∧ st' = foot' ++ F) := by
 refine co 23 Tryz.func72 ?_
 have hn1 := numR_le (s := s) (c := c) (most := most)
 have hn2 := numR_nonneg s c most
 refine AC_seq (AC_region ?_)
 refine ac rfl rfl rfl ?_
 refine AL_nil (AC_seq (AC_region ?_))
 refine ac rfl rfl rfl ?_
 refine AL_nil ?_
 refine AC_seq ?_
 refine AC_seq (AC_region ?_)
 refine mv rfl rfl rfl rfl ?_
 refine mv rfl rfl rfl rfl ?_
 refine s_ (S_call rfl (AEvs.cons (.tmp rfl) (AEvs.cons (.tmp rfl) AEvs.nil)) (r_Num_ok b _ _ most ⟨by omega, by omega⟩ F)) ?_
 rintro _ _ ⟨_, ⟨rfl, rfl⟩, rfl⟩
 refine p_ (S_move rfl (AEv.const _)) ?_
 refine AL_nil ?_
 refine AC_block ?_
 refine AC_loopK (G := Nat × List Ctr × List UInt8 × Int × Own) [(0, _), (2, _), (10, _)] (fun g => TI ctrRd (numR s c most).1.toNat (numR s c most).2.1 (numR s c most).2.2 g.1 g.2.1 g.2.2.1 g.2.2.2.1 ∧ g.2.2.2.2.ok (g.2.1.map ctrAV)) (fun g => [(7, ownAV g.2.2.2.2 11 (g.2.1.map ctrAV)), (11, .int .i64 (g.1 : Int))]) (fun g => (b, .cells [.S g.2.2.1, .int .i64 g.2.2.2.1]) :: (ownSt g.2.2.2.2 79 11 (g.2.1.map ctrAV) ++ F)) (fun g => (numR s c most).1.toNat - g.1) ((0, [], (numR s c most).2.1, (numR s c most).2.2, .nil)) (⟨ti_start _ _ _, rfl⟩) (Sub.l (List.Sublist.refl _)) (.cons rfl (Le.refl _) (.cons rfl (Le.refl _) (.cons rfl (Le.refl _) .nil))) (.cons rfl (by first | exact Le.refl _ | exact Le.nils | exact Le.row _ _ _ _ | exact Le.of_eq (by first | rfl | (simp; done) | (push_cast; rfl) | (simp; omega))) (.cons rfl (by first | exact Le.refl _ | exact Le.nils | exact Le.row _ _ _ _ | exact Le.of_eq (by first | rfl | (simp; done) | (push_cast; rfl) | (simp; omega))) .nil)) ?_
 rintro ⟨i, out, s', c', p⟩ ⟨hI, hq⟩
 try dsimp only
 simp only [List.cons_append, List.nil_append]
 dsimp only at hI hq
 have hI1 := hI.1
 have hI2 := hI.2.1
 refine AC_seq (AC_region ?_)
 refine p_ (S_lss rfl (.tmp rfl) (.tmp rfl)) ?_
 refine AL_nil ?_
 refine AC_seq ?_
 refine AC_cond (.tmp rfl) (fun hb1 => ?_) (fun hb1 => ?_)
 ·try simp only [zA,zO,zN,zM,zP,zQ,zD,zF,gd] at hb1
  have hil : i < (numR s c most).1.toNat := by omega
  refine AC_skip ?_
  refine AC_seq ?_
  refine AC_block ?_
  refine AC_seq (AC_region ?_)
  refine mv rfl rfl rfl rfl ?_
  refine mv rfl rfl rfl rfl ?_
  refine s_ (S_callF (caps := [.pointer (some ⟨br, 0, none⟩)]) rfl (.tmp rfl) AEvs.nil (takeP1_ok b s' c' br _ (List.mem_append_right _ hw))) ?_
  rintro _ _ ⟨_, ⟨rfl, rfl⟩, rfl⟩
  generalize hr : ctrRd s' c' = r
  refine p_ (S_buildSlice (e := 79) 11 rfl (AEvs.cons (.tmp rfl) AEvs.nil) rfl (by kernel_rfl) (by kernel_rfl) (by intro y hy; simp only [List.mem_cons, List.not_mem_nil, or_false] at hy; rcases hy with rfl <;> exact ⟨rfl, rfl⟩) (by decide) (by decide) (by decide)) ?_
  refine s_ (S_appendM (f := ctrAV) (l := out) (l2 := [r.1]) (e := 79) (size := 11) (bytes := 120) (p := p) ([_]) (F) rfl (.tmp rfl) (.tmp rfl) rfl hq (by kernel_rfl) (by simp) (fun _ => ⟨rfl, rfl⟩) (by simp only [List.length_singleton]; omega) (by simp only [List.length_singleton]; omega)) ?_
  rintro _ _ ⟨b8, k8, cap8, hx8, rfl, rfl⟩
  refine as_ rfl rfl rfl rfl ?_
  refine AL_nil (AC_seq (AC_region ?_))
  refine mv rfl rfl rfl rfl ?_
  refine s_ (S_call rfl (AEvs.cons (.tmp rfl) AEvs.nil) (r_Code_ok b _ _ _)) ?_
  rintro _ _ ⟨_, ⟨rfl, rfl⟩, rfl⟩
  refine p_ (S_neq rfl (.tmp rfl) (AEv.const _)) ?_
  refine AL_nil ?_
  refine AC_cond (.tmp rfl) (fun hb4 => ?_) (fun hb4 => ?_)
  ·try simp only [zA,zO,zN,zM,zP,zQ,zD,zF,gd] at hb4
   have hx : (allR ctrRd most s c) = ([], r.2.1, r.2.2) := by have h9 := ti_bad hI hil (by rw [hr]; exact hb4); rw [hr] at h9; exact h9
   refine AC_seq (AC_region ?_)
   refine ac rfl rfl rfl ?_
   refine AL_nil (AC_ret ?_)
   refine ret_tmp ([(b, Ob.cells [.S (r.2.1), .int .i64 (r.2.2)])] ++ F) rfl rfl (Sub.l (List.Sublist.cons_cons _ (List.sublist_append_right _ _))) (Conv.le (Sub.l (List.Sublist.cons_cons _ (List.sublist_append_right _ _))) Le.nils) ⟨_, ⟨by rw [hx] <;> rfl, by rw [hx] <;> rfl⟩, rfl⟩ (.inl rfl)
  try simp only [zA,zO,zN,zM,zP,zQ,zD,zF,gd] at hb4
  have hc0 : r.2.2 = 0 := by simpa using hb4
  refine AC_skip ?_
  refine AC_region ?_
  refine p_ (S_addI rfl (.tmp rfl) (AEv.const _) (by omega) (by omega)) ?_
  refine mv rfl rfl rfl rfl ?_
  refine AL_nil ?_
  exact ⟨(i + 1, out ++ [r.1], r.2.1, r.2.2, .row b8 k8 cap8), ⟨by rw [← hr]; exact ti_next hI hil (by rw [hr]; exact hc0), hx8⟩, by dsimp only; omega, (Sub.l (List.Sublist.refl _)), (.cons rfl (by first | exact Le.refl _ | exact Le.nils | exact Le.row _ _ _ _ | exact Le.of_eq (by first | rfl | (simp; done) | (push_cast; rfl) | (simp; omega))) (.cons rfl (by first | exact Le.refl _ | exact Le.nils | exact Le.row _ _ _ _ | exact Le.of_eq (by first | rfl | (simp; done) | (push_cast; rfl) | (simp; omega))) .nil)), (.cons rfl (Le.refl _) (.cons rfl (Le.refl _) (.cons rfl (Le.refl _) .nil)))⟩
 try simp only [zA,zO,zN,zM,zP,zQ,zD,zF,gd] at hb1
 have hx : (allR ctrRd most s c) = (out, s', c') := ti_end hI (by omega)
 refine AC_exit ?_
 refine AC_seq (AC_region ?_)
 refine mv rfl rfl rfl rfl ?_
 refine as_ rfl rfl rfl rfl ?_
 refine AL_nil (AC_ret ?_)
 refine ret_tmp ([(b, Ob.cells [.S (s'), .int .i64 (c')])] ++ F) rfl rfl (Sub.l (List.Sublist.cons_cons _ (List.sublist_append_right _ _))) (Conv.le (Sub.l (List.Sublist.cons_cons _ (List.sublist_append_right _ _))) (Le_own hq)) ⟨_, ⟨by rw [hx] <;> rfl, by rw [hx] <;> rfl⟩, rfl⟩ (.inl rfl)
set_option maxHeartbeats 2000000 in
theorem TakeLabels_ok (b : Nat) (s : List UInt8) (c : Int) (F : St) : ACalls Tryz.prog 26 [.ptr b 0] ([(b, Ob.cells [.S (s), .int .i64 (c)])] ++ F) (fun x st' => ∃ foot', (x = .sl (labsV (labsRd s c).1) ∧ foot' = [(b, Ob.cells [.S ((labsRd s c).2.1), .int .i64 ((labsRd s c).2.2)])]) ∧ st' = foot' ++ F) := by
 refine co 6 Tryz.func26 ?_
 refine AC_seq (AC_region ?_)
 refine s_ (S_box1 rfl (.tmp rfl) rfl) ?_
 rintro _ _ ⟨b1, rfl, rfl⟩
 refine ac rfl rfl rfl ?_
 refine AL_nil (AC_seq (AC_region ?_))
 refine ld 0 ?_
 refine p_ (S_makeFunc (caps := [_]) rfl (AEvs.cons (.tmp rfl) AEvs.nil)) ?_
 refine s_ (S_call rfl (AEvs.cons (.tmp rfl) (AEvs.cons (AEv.const _) (AEvs.cons (.tmp rfl) AEvs.nil))) (ACalls.preQ (pre := [_]) (F := F) (takeAllL_ok b _ _ b1 4 (by decide) (by decide) _ (by repeat (first | exact List.mem_cons_self | refine List.mem_cons_of_mem _ ?_))))) ?_
 rintro _ _ ⟨_, ⟨rfl, rfl⟩, rfl⟩
 refine as_ rfl rfl rfl rfl ?_
 refine AL_nil (AC_ret ?_)
 refine ret_tmp ([(b, Ob.cells [.S ((labsRd s c).2.1), .int .i64 ((labsRd s c).2.2)])] ++ F) rfl rfl (Sub.l (List.sublist_cons_self _ _)) (Conv.refl (Sub.l (List.sublist_cons_self _ _)) _) ⟨_, ⟨rfl, rfl⟩, rfl⟩ (.inl rfl)
set_option maxHeartbeats 2000000 in
theorem pack_Raw_ok (b : Nat) (s : List UInt8) (c : Int) (F : St) : ACalls Tryz.prog 32 [.ptr b 0] ([(b, Ob.cells [.S (s), .int .i64 (c)])] ++ F) (fun x st' => ∃ foot', (x = spcAV (spcRd s c).1 ∧ foot' = [(b, Ob.cells [.S ((spcRd s c).2.1), .int .i64 ((spcRd s c).2.2)])]) ∧ st' = foot' ++ F) := by
 refine co 30 Tryz.func32 ?_
 refine AC_seq (AC_region ?_)
 refine s_ (S_box1 rfl (.tmp rfl) rfl) ?_
 rintro _ _ ⟨b1, rfl, rfl⟩
 refine s_ (S_alloc [.string ⟨#[]⟩, .slice none 0 0, .slice none 0 0, .slice none 0 0, .int .i64 0, .int .i64 0, .int .i64 0] rfl (by kernel_rfl)) ?_
 rintro _ _ ⟨b2, rfl, rfl⟩
 refine AL_nil (AC_seq (AC_region ?_))
 refine ld 1 ?_
 refine s_ (S_call rfl (AEvs.cons (.tmp rfl) (AEvs.cons (AEv.const _) AEvs.nil)) (ACalls.preQ (pre := [_, _]) (F := F) (r_Text_ok b _ _ 16 (by decide) _))) ?_
 rintro _ _ ⟨_, ⟨rfl, rfl⟩, rfl⟩
 generalize h1 : wtextR s c 16 = r1
 refine p_ (S_build (t := 25) (pl := [(0, 1), (1, 1), (2, 1), (3, 1), (4, 1), (5, 1), (6, 1)]) (zs := [.string ⟨#[]⟩, .slice none 0 0, .slice none 0 0, .slice none 0 0, .int .i64 0, .int .i64 0, .int .i64 0]) rfl (AEvs.cons (.tmp rfl) AEvs.nil) (by kernel_rfl) rfl) ?_
 refine s_ (S_alloc [.string ⟨#[]⟩, .slice none 0 0, .slice none 0 0, .slice none 0 0, .int .i64 0, .int .i64 0, .int .i64 0] rfl (by kernel_rfl)) ?_
 rintro _ _ ⟨b3, rfl, rfl⟩
 refine stW 0 ?_
 refine AL_nil (AC_seq (AC_region ?_))
 refine ld 2 ?_
 refine s_ (S_call rfl (AEvs.cons (.tmp rfl) AEvs.nil) (ACalls.preQ (pre := [_, _, _]) (F := F) (TakeLabels_ok b _ _ _))) ?_
 rintro _ _ ⟨_, ⟨rfl, rfl⟩, rfl⟩
 generalize h2 : labsRd r1.2.1 r1.2.2 = r2
 refine fl 1 ?_
 refine st1 0 ?_
 refine AL_nil (AC_seq (AC_region ?_))
 refine p_ (S_makeFunc (caps := [_]) rfl (AEvs.cons (.tmp rfl) AEvs.nil)) ?_
 refine as_ rfl rfl rfl rfl ?_
 refine AL_nil (AC_seq (AC_region ?_))
 refine ld 2 ?_
 refine mv rfl rfl rfl rfl ?_
 refine s_ (S_call rfl (AEvs.cons (.tmp rfl) (AEvs.cons (AEv.const _) (AEvs.cons (.tmp rfl) AEvs.nil))) (ACalls.preQ (pre := [_, _, _]) (F := F) (takeAllC_ok b _ _ b1 3 (by decide) (by decide) _ (by repeat (first | exact List.mem_cons_self | refine List.mem_cons_of_mem _ ?_))))) ?_
 rintro _ _ ⟨_, ⟨rfl, rfl⟩, rfl⟩
 generalize h3 : allR ctrRd 3 r2.2.1 r2.2.2 = r3
 refine fl 2 ?_
 refine st1 0 ?_
 refine AL_nil (AC_seq (AC_region ?_))
 refine ld 2 ?_
 refine mv rfl rfl rfl rfl ?_
 refine s_ (S_call rfl (AEvs.cons (.tmp rfl) (AEvs.cons (AEv.const _) (AEvs.cons (.tmp rfl) AEvs.nil))) (ACalls.preQ (pre := [_, _, _]) (F := F) (takeAllC_ok b _ _ b1 4 (by decide) (by decide) _ (by repeat (first | exact List.mem_cons_self | refine List.mem_cons_of_mem _ ?_))))) ?_
 rintro _ _ ⟨_, ⟨rfl, rfl⟩, rfl⟩
 generalize h4 : allR ctrRd 4 r3.2.1 r3.2.2 = r4
 refine fl 3 ?_
 refine st1 0 ?_
 refine AL_nil (AC_seq (AC_region ?_))
 refine ld 2 ?_
 refine s_ (S_call rfl (AEvs.cons (.tmp rfl) (AEvs.cons (AEv.const _) AEvs.nil)) (ACalls.preQ (pre := [_, _, _]) (F := F) (r_Num_ok b _ _ 3 (by decide) _))) ?_
 rintro _ _ ⟨_, ⟨rfl, rfl⟩, rfl⟩
 generalize h5 : numR r4.2.1 r4.2.2 3 = r5
 refine fl 4 ?_
 refine st1 0 ?_
 refine AL_nil (AC_seq (AC_region ?_))
 refine ld 2 ?_
 refine s_ (S_call rfl (AEvs.cons (.tmp rfl) (AEvs.cons (AEv.const _) AEvs.nil)) (ACalls.preQ (pre := [_, _, _]) (F := F) (r_Num_ok b _ _ 1000 (by decide) _))) ?_
 rintro _ _ ⟨_, ⟨rfl, rfl⟩, rfl⟩
 generalize h6 : numR r5.2.1 r5.2.2 1000 = r6
 refine fl 5 ?_
 refine st1 0 ?_
 refine AL_nil (AC_seq (AC_region ?_))
 refine ld 2 ?_
 refine s_ (S_call rfl (AEvs.cons (.tmp rfl) (AEvs.cons (AEv.const _) AEvs.nil)) (ACalls.preQ (pre := [_, _, _]) (F := F) (r_Num_ok b _ _ 10 (by decide) _))) ?_
 rintro _ _ ⟨_, ⟨rfl, rfl⟩, rfl⟩
 generalize h7 : numR r6.2.1 r6.2.2 10 = r7
 refine fl 6 ?_
 refine st1 0 ?_
 refine AL_nil (AC_seq (AC_region ?_))
 refine ldN 7 0 ?_
 refine stW 1 ?_
 refine AL_nil (AC_ret ?_)
 refine ret_cell 1 ([(b, Ob.cells [.S (r7.2.1), .int .i64 (r7.2.2)])] ++ F) rfl rfl rfl (by kernel_rfl) (Sub.l (((List.sublist_cons_self _ _).trans (List.sublist_cons_self _ _)).trans (List.sublist_cons_self _ _))) (Conv.refl (Sub.l (((List.sublist_cons_self _ _).trans (List.sublist_cons_self _ _)).trans (List.sublist_cons_self _ _))) _) ⟨_, ⟨by subst h7 h6 h5 h4 h3 h2 h1; rfl, by subst h7 h6 h5 h4 h3 h2 h1; rfl⟩, rfl⟩ (.inl rfl)
theorem pack_Of_ok (s : List UInt8) : GCalls Tryz.prog tabs 19 [.S s] (.tup [spcAV (ofS s), erV 28 167 (ofE s)]) := by
 intro st hG
 refine co 24 Tryz.func19 ?_
 refine AC_seq (AC_region ?_)
 refine s_ (S_alloc [.string ⟨#[]⟩, .slice none 0 0, .slice none 0 0, .slice none 0 0, .int .i64 0, .int .i64 0, .int .i64 0] rfl (by kernel_rfl)) ?_
 rintro _ _ ⟨b2, rfl, rfl⟩
 refine ac rfl rfl rfl ?_
 refine AL_nil (AC_seq (AC_region ?_))
 refine mv rfl rfl rfl rfl ?_
 refine s_ (S_call rfl (AEvs.cons (.tmp rfl) AEvs.nil) (wire_Read_ok s _)) ?_
 rintro _ _ ⟨_, ⟨b4, rfl, rfl⟩, rfl⟩
 refine as_ rfl rfl rfl rfl ?_
 refine AL_nil (AC_seq (AC_region ?_))
 refine mv rfl rfl rfl rfl ?_
 refine s_ (S_call rfl (AEvs.cons (.tmp rfl) AEvs.nil) (pack_Raw_ok b4 s 0 _)) ?_
 rintro _ _ ⟨_, ⟨rfl, rfl⟩, rfl⟩
 refine s_ (S_alloc [.string ⟨#[]⟩, .slice none 0 0, .slice none 0 0, .slice none 0 0, .int .i64 0, .int .i64 0, .int .i64 0] rfl (by kernel_rfl)) ?_
 rintro _ _ ⟨b5, rfl, rfl⟩
 refine stW 0 ?_
 refine AL_nil ?_
 refine AC_seq ?_
 refine AC_seq ?_
 refine AC_plan (σ := [(0, 0), (2, 0), (4, 0), (1, 1), (3, 0), (5, 0), (6, 0), (7, 0), (8, 0)]) (by kernel_rfl) ((b5, Ob.cells (spcL (spcRd s 0).1)) :: Gs tabs) (by kernel_rfl) (fun r hr => by
  rcases List.mem_cons.1 hr with rfl | hr
  ·exact List.mem_cons_self
  ·repeat (first | exact hG r hr | refine List.mem_cons_of_mem _ ?_ | refine List.mem_append_right _ ?_)) ?_
 refine AG.f rfl rfl (fun st' hst => Q_p rfl (S_move rfl (.tmp rfl))) ?_
 refine AG.f rfl rfl (fun st' hst => Q_p rfl (S_buildSlice (e := 9) 1 rfl (AEvs.cons (AEv.S _) AEvs.nil) rfl (by kernel_rfl) (by kernel_rfl) (by intro y hy; simp only [List.mem_cons, List.not_mem_nil, or_false] at hy; rcases hy with rfl <;> exact ⟨rfl, rfl⟩) (by decide) (by decide) (by decide))) ?_
 refine AG.f rfl rfl (fun st' hst => Q_p rfl (S_loadNM (m := 7) rfl (.tmp rfl) (hst _ (List.mem_of_getElem? (i := 0) rfl)) (by kernel_rfl) (by first | exact Nat.le_of_ble_eq_true rfl | (simp; omega) | simp))) ?_
 refine AG.s rfl rfl rfl (S_call rfl (AEvs.cons (.tmp rfl) AEvs.nil) (ACalls.preQ (pre := [_]) (F := _ :: st) (r_End_ok b4 _ _ _))) ?_ ?_
 ·rintro _ _ ⟨_, ⟨rfl, rfl⟩, rfl⟩ r hr; rcases List.mem_cons.1 hr with rfl | hr <;> repeat (first | exact List.mem_cons_self | exact hG r hr | refine List.mem_cons_of_mem _ ?_ | refine List.mem_append_right _ ?_)
 rintro _ _ ⟨_, ⟨rfl, rfl⟩, rfl⟩
 refine AG.f rfl rfl (fun st' hst => Q_p rfl (S_pcall rfl (AEvs.cons (.tmp rfl) (AEvs.cons (.tmp rfl) AEvs.nil)) (fail_New_ok (endR (spcRd s 0).2.1 (spcRd s 0).2.2) [wireN] (by simp)))) ?_
 refine AG.f rfl rfl (fun st' hst => Q_p rfl (S_gcall rfl (AEvs.cons (.tmp rfl) AEvs.nil) ((spec_Check_ok (spcRd s 0).1 (spcRd_light s 0)) _ (fun p hp => by first | exact hst p (List.mem_cons_of_mem _ hp) | (repeat (first | exact hG p hp | refine List.mem_cons_of_mem _ ?_ | refine List.mem_append_right _ ?_)))))) ?_
 refine AG.f rfl rfl (fun st' hst => Q_p rfl (S_buildSlice (e := 41) 1 rfl (AEvs.cons (.tmp rfl) (AEvs.cons (.tmp rfl) AEvs.nil)) rfl (by kernel_rfl) (by kernel_rfl) (by intro y hy; simp only [List.mem_cons, List.not_mem_nil, or_false] at hy; rcases hy with rfl | rfl <;> exact ⟨er_flat _ _ _, by rw [er_cells]; rfl⟩) (by decide) (by decide) (by decide))) ?_
 refine AG.f rfl rfl (fun st' hst => Q_p rfl (S_pcall rfl (AEvs.cons (.tmp rfl) AEvs.nil) (fail_First_ok [(erNew (endR (spcRd s 0).2.1 (spcRd s 0).2.2) [wireN]), (checkE (spcRd s 0).1)] (by simp)))) ?_
 refine AG.f rfl rfl (fun st' hst => Q_p rfl (S_assign rfl (.tmp rfl))) ?_
 refine AG.nil ?_
 refine AC_seq (AC_region ?_)
 refine mv rfl rfl rfl rfl ?_
 refine p_ (S_neqE (er_is 28 167 (ofE s)) rfl (.tmp rfl) (by kernel_rfl)) ?_
 refine AL_nil ?_
 refine AC_cond (.tmp rfl) (fun hb3 => ?_) (fun hb3 => ?_)
 ·try simp only [zA,zO,zN,zM,zP,zQ,zD,zF,gd] at hb3
  have hx : ofS s = spc0 := of_some fun h => by rw [h] at hb3; simp at hb3
  refine AC_seq (AC_region ?_)
  refine p_ (S_build (t := 25) (pl := [(0, 1), (1, 1), (2, 1), (3, 1), (4, 1), (5, 1), (6, 1)]) (zs := [.string ⟨#[]⟩, .slice none 0 0, .slice none 0 0, .slice none 0 0, .int .i64 0, .int .i64 0, .int .i64 0]) rfl AEvs.nil (by kernel_rfl) rfl) ?_
  refine mv rfl rfl rfl rfl ?_
  refine stW 2 ?_
  refine as_ rfl rfl rfl rfl ?_
  refine AL_nil (AC_ret ?_)
  refine ret_outs st rfl (by decide) (OutsR.row 2 rfl rfl (by kernel_rfl) (OutsR.tmp rfl OutsR.nil)) (Sub.l (((List.sublist_cons_self _ _).trans (List.sublist_cons_self _ _)).trans (List.sublist_cons_self _ _))) (Conv.le (Sub.l (((List.sublist_cons_self _ _).trans (List.sublist_cons_self _ _)).trans (List.sublist_cons_self _ _))) (Les.tup (.cons (Les.agg (.cons (Le.refl _) (.cons Le.nils (.cons Le.nils (.cons Le.nils (.cons (Le.refl _) (.cons (Le.refl _) (.cons (Le.refl _) .nil)))))))) (.cons (Le.refl _) .nil)))) ⟨by rw [hx] <;> rfl, rfl⟩ (.inl rfl)
 try simp only [zA,zO,zN,zM,zP,zQ,zD,zF,gd] at hb3
 have hk : ofE s = none := by simpa using hb3
 have hx := (of_none hk).1
 refine AC_skip ?_
 refine AC_seq (AC_region ?_)
 refine ldN 7 0 ?_
 refine stW 2 ?_
 refine ac rfl rfl rfl ?_
 refine AL_nil (AC_ret ?_)
 refine ret_outs st rfl (by decide) (OutsR.row 2 rfl rfl (by kernel_rfl) (OutsR.tmp rfl OutsR.nil)) (Sub.l (((List.sublist_cons_self _ _).trans (List.sublist_cons_self _ _)).trans (List.sublist_cons_self _ _))) (Conv.refl (Sub.l (((List.sublist_cons_self _ _).trans (List.sublist_cons_self _ _)).trans (List.sublist_cons_self _ _))) _) ⟨by rw [hx, hk] <;> rfl, rfl⟩ (.inl rfl)
end Go.Proofs.YtfmiciodcimkeaaGreatDoor

set_option maxRecDepth 100000
namespace Go.Proofs.YtfmiciodcimkeaaGreatDoor
open Go.AL Go.NumSpec
theorem law07_works_ok : GCalls Tryz.prog tabs 10 [] (.bool true) := by
 intro st hG
 refine co 46 Tryz.func10 ?_
 refine AC_seq (AC_region ?_)
 refine ac rfl rfl rfl ?_
 refine AL_nil (AC_seq (AC_region ?_))
 refine p_ (S_build (t := 79) (pl := [(0, 1), (1, 1), (2, 3), (5, 3), (8, 1), (9, 2)]) (zs := [.string ⟨#[]⟩, .string ⟨#[]⟩, .int .i64 0, .int .i64 0, .int .i64 0, .int .i64 0, .int .i64 0, .int .i64 0, .slice none 0 0, .int .i64 0, .int .i64 0]) rfl (AEvs.cons (AEv.S _) (AEvs.cons (AEv.S _) AEvs.nil)) (by kernel_rfl) rfl) ?_
 refine p_ (S_buildSlice (e := 79) 11 rfl (AEvs.cons (y := ctrAV wC) ((AEv.tmp rfl).le (by exact (Les.agg (.cons (Le.refl _) (.cons (Le.refl _) (.cons (Le.refl _) (.cons (Le.refl _) (.cons (Le.refl _) (.cons (Le.refl _) (.cons (Le.refl _) (.cons (Le.refl _) (.cons Le.nils (.cons (Le.refl _) (.cons (Le.refl _) .nil)))))))))))))) AEvs.nil) rfl (by kernel_rfl) (by kernel_rfl) (by intro y hy; simp only [List.mem_cons, List.not_mem_nil, or_false] at hy; rcases hy with rfl <;> exact ⟨rfl, rfl⟩) (by decide) (by decide) (by decide)) ?_
 refine p_ (S_build (t := 25) (pl := [(0, 1), (1, 1), (2, 1), (3, 1), (4, 1), (5, 1), (6, 1)]) (zs := [.string ⟨#[]⟩, .slice none 0 0, .slice none 0 0, .slice none 0 0, .int .i64 0, .int .i64 0, .int .i64 0]) rfl (AEvs.cons (AEv.S _) (AEvs.cons (.tmp rfl) (AEvs.cons (AEv.const _) AEvs.nil))) (by kernel_rfl) rfl) ?_
 refine s_ (S_alloc [.string ⟨#[]⟩, .slice none 0 0, .slice none 0 0, .slice none 0 0, .int .i64 0, .int .i64 0, .int .i64 0] rfl (by kernel_rfl)) ?_
 rintro _ _ ⟨b1, rfl, rfl⟩
 refine stW 0 ?_
 refine AL_nil (AC_seq (AC_region ?_))
 refine p_ (S_gcall rfl (AEvs.cons (AEv.S _) AEvs.nil) ((GCalls.of_eq (pack_Of_ok []) (congrArg (fun x : Spc × Er => AV.tup [spcAV x.1, erV 28 167 x.2]) (show (ofS [], ofE []) = _ from (by rw [of_some (by rw [of_nil]; simp), of_nil] : (ofS [], ofE []) = (spc0, (some (40, [wireN]))))))) _ (fun p hp => by repeat (first | exact hG p hp | refine List.mem_cons_of_mem _ ?_ | refine List.mem_append_right _ ?_)))) ?_
 refine mv rfl rfl rfl rfl ?_
 refine ex 0 ?_
 refine ex 1 ?_
 refine s_ (S_alloc [.string ⟨#[]⟩, .slice none 0 0, .slice none 0 0, .slice none 0 0, .int .i64 0, .int .i64 0, .int .i64 0] rfl (by kernel_rfl)) ?_
 rintro _ _ ⟨b2, rfl, rfl⟩
 refine stW 0 ?_
 refine as_ rfl rfl rfl rfl ?_
 refine AL_nil (AC_seq (AC_region ?_))
 refine ldN 7 1 ?_
 refine p_ (S_gcall rfl (AEvs.cons (y := spcAV wS) ((AEv.tmp rfl).le (by exact (Les.agg (.cons (Le.refl _) (.cons Le.nils (.cons Le.nils (.cons (Le.refl _) (.cons (Le.refl _) (.cons (Le.refl _) (.cons (Le.refl _) .nil)))))))))) AEvs.nil) ((GCalls.of_eq (pack_Bytes_ok wS wS_light) (bytes_eq wS_check)) _ (fun p hp => by repeat (first | exact hG p hp | refine List.mem_cons_of_mem _ ?_ | refine List.mem_append_right _ ?_)))) ?_
 refine mv rfl rfl rfl rfl ?_
 refine ex 0 ?_
 refine ex 1 ?_
 refine as_ rfl rfl rfl rfl ?_
 refine as_ rfl rfl rfl rfl ?_
 refine AL_nil (AC_seq (AC_region ?_))
 refine mv rfl rfl rfl rfl ?_
 refine p_ (S_gcall rfl (AEvs.cons (.tmp rfl) AEvs.nil) ((GCalls.of_eq (pack_Of_ok (spcB wS)) (congrArg (fun x : Spc × Er => AV.tup [spcAV x.1, erV 28 167 x.2]) (show (ofS (spcB wS), ofE (spcB wS)) = _ from (by rw [(of_bytes wS_check).1, (of_bytes wS_check).2] : (ofS (spcB wS), ofE (spcB wS)) = (wS, none))))) _ (fun p hp => by repeat (first | exact hG p hp | refine List.mem_cons_of_mem _ ?_ | refine List.mem_append_right _ ?_)))) ?_
 refine mv rfl rfl rfl rfl ?_
 refine ex 0 ?_
 refine ex 1 ?_
 refine s_ (S_alloc [.string ⟨#[]⟩, .slice none 0 0, .slice none 0 0, .slice none 0 0, .int .i64 0, .int .i64 0, .int .i64 0] rfl (by kernel_rfl)) ?_
 rintro _ _ ⟨b6, rfl, rfl⟩
 refine stW 0 ?_
 refine as_ rfl rfl rfl rfl ?_
 refine AL_nil (AC_seq (AC_region ?_))
 refine mv rfl rfl rfl rfl ?_
 refine p_ (S_gcall rfl (AEvs.cons (.tmp rfl) AEvs.nil) ((fail_Code_ok (some (40, [wireN]))) _ (fun p hp => by repeat (first | exact hG p hp | refine List.mem_cons_of_mem _ ?_ | refine List.mem_append_right _ ?_)))) ?_
 refine p_ (S_eql rfl (.tmp rfl) (AEv.const _)) ?_
 refine mv rfl rfl rfl rfl ?_
 refine g_ (fun _ => mA) ?_
 refine g_ (fun _ => S_gcall rfl (AEvs.cons (AEv.cd (.tmp rfl)) AEvs.nil) ((fail_Text_ok (some (40, [wireN])) (by decide) (by decide)) _ (fun p hp => by repeat (first | exact hG p hp | refine List.mem_cons_of_mem _ ?_ | refine List.mem_append_right _ ?_)))) ?_
 refine g_ (fun _ => S_eqS rfl (AEv.cd (.tmp rfl)) (AEv.S _)) ?_
 refine an ?_
 refine mv rfl rfl rfl rfl ?_
 refine g_ (fun _ => mA) ?_
 refine g_ (fun _ => S_eql rfl (AEv.cd (.tmp rfl)) (AEv.const _)) ?_
 refine an ?_
 refine mv rfl rfl rfl rfl ?_
 refine g_ (fun _ => mA) ?_
 refine g_ (fun _ => S_eqlE (er_is 28 167 (none)) rfl (AEv.cd (.tmp rfl)) (by kernel_rfl)) ?_
 refine an ?_
 refine mv rfl rfl rfl rfl ?_
 refine g_ (fun _ => S_loadN (m := 7) 2 rfl (.tmp rfl) rfl (by kernel_rfl) (by first | exact Nat.le_of_ble_eq_true rfl | (simp; omega) | simp)) ?_
 refine g_ (fun _ => S_loadN (m := 7) 0 rfl (.tmp rfl) rfl (by kernel_rfl) (by first | exact Nat.le_of_ble_eq_true rfl | (simp; omega) | simp)) ?_
 refine g_ (fun _ => S_pcall rfl (AEvs.cons (y := spcAV wS) ((AEv.cd (.tmp rfl)).le (by exact (Les.agg (.cons (Le.refl _) (.cons Le.nils (.cons Le.nils (.cons (Le.refl _) (.cons (Le.refl _) (.cons (Le.refl _) (.cons (Le.refl _) .nil)))))))))) (AEvs.cons (y := spcAV wS) (AEv.cd (.tmp rfl)) AEvs.nil)) (book_SameSpec_ok wS wS (light_short wS_light) (light_short wS_light))) ?_
 refine an ?_
 refine as_ rfl rfl rfl rfl ?_
 refine AL_nil (AC_ret ?_)
 refine ret_tmp st rfl rfl (Sub.l (((List.sublist_cons_self _ _).trans (List.sublist_cons_self _ _)).trans (List.sublist_cons_self _ _))) (Conv.refl (Sub.l (((List.sublist_cons_self _ _).trans (List.sublist_cons_self _ _)).trans (List.sublist_cons_self _ _))) _) ⟨congrArg AV.bool (by rw [sameS_refl]; decide), rfl⟩ (.inl rfl)
end Go.Proofs.YtfmiciodcimkeaaGreatDoor

set_option maxRecDepth 100000
namespace Go.Proofs.YtfmiciodcimkeaaGreatDoor
open Go.AL Go.NumSpec
set_option maxHeartbeats 1000000 in
theorem ref06_one_ok (c : Ctr) (ahead : List Ctr) (init : Bool) (hn : c.name.length ≤ 1000000) (him : c.image.length ≤ 1000000) (hpc : c.ports.length ≤ 1000000) (ha : ahead.length ≤ 1000000) (hap : ∀ x ∈ ahead, x.ports.length ≤ 1000000) : PCalls Tryz.prog 46 [ctrAV c, .sl (ctrsV ahead), .bool init] (cpAV (ctrE (ahead.map Ctr.name) (ahead.flatMap Ctr.ports) c (if init = true then 0 else 3) (if init = true then 0 else 1000))) := by
 intro st
 refine co 175 Tryz.func46 ?_
 refine AC_seq (AC_region ?_)
 refine s_ (S_box rfl (.tmp rfl)) ?_
 rintro _ _ ⟨b3, rfl, rfl⟩
 refine ac rfl rfl rfl ?_
 refine p_ (S_assign rfl (AEv.S _)) ?_
 refine AL_nil ?_
 refine AC_seq ?_
 refine AC_seq (AC_region ?_)
 refine fl 0 ?_
 refine ld 0 ?_
 refine p_ (S_pcall rfl (AEvs.cons (.tmp rfl) AEvs.nil) (ref03_Name_ok c.name (by omega))) ?_
 refine p_ (S_not rfl (.tmp rfl)) ?_
 refine AL_nil ?_
 refine AC_cond (.tmp rfl) (fun hb2 => ?_) (fun hb2 => ?_)
 ·try simp only [zA,zO,zN,zM,zP,zQ,zD,zF,gd] at hb2
  have hx := one_1 (ps := (ahead.flatMap Ctr.ports)) (a := (if init = true then 0 else 3)) (b := (if init = true then 0 else 1000)) (nameE_bad (ns := (ahead.map Ctr.name)) (c := c) hb2)
  refine AC_seq (AC_region ?_)
  refine ac rfl rfl rfl ?_
  refine p_ (S_assign rfl (AEv.S _)) ?_
  refine AL_nil (AC_ret ?_)
  refine ret_tmps (ts := [6, 7]) st rfl (by decide) rfl (Sub.l (List.Sublist.cons _ (List.Sublist.refl _))) (Conv.refl (Sub.l (List.Sublist.cons _ (List.Sublist.refl _))) _) ⟨cp_some hx rfl, rfl⟩ (.inl rfl)
 try simp only [zA,zO,zN,zM,zP,zQ,zD,zF,gd] at hb2
 have hnv : nameV c.name = true := hb2
 refine AC_skip ?_
 refine AC_seq ?_
 refine AC_seq (AC_region ?_)
 refine ac rfl rfl rfl ?_
 refine AL_nil ?_
 refine AC_block ?_
 refine AC_loopK (G := Nat) [(1, _), (2, _), (3, _)] (fun g => g ≤ ahead.length ∧ c.name ∉ (ahead.take g).map Ctr.name) (fun g => [(8, .int .i64 (g : Int))]) (fun g => (b3, .cells (ctrL c)) :: st) (fun g => ahead.length - g) (0) (⟨Nat.zero_le _, by simp⟩) (Sub.l (List.Sublist.refl _)) (.cons rfl (Le.refl _) (.cons rfl (Le.refl _) (.cons rfl (Le.refl _) .nil))) (.cons rfl (by first | exact Le.refl _ | exact Le.nils | exact Le.row _ _ _ _ | exact Le.of_eq (by first | rfl | (simp; done) | (push_cast; rfl) | (simp; omega))) .nil) ?_
 rintro i ⟨hi, hno⟩
 try dsimp only
 simp only [List.cons_append, List.nil_append]
 refine AC_seq ?_
 refine AC_seq (AC_region ?_)
 refine mv rfl rfl rfl rfl ?_
 refine mv rfl rfl rfl rfl ?_
 refine p_ (by first | exact S_lenM (e := 79) rfl (.tmp rfl) (by kernel_rfl) | exact S_len (e := 79) rfl (.tmp rfl) (by kernel_rfl)) ?_
 refine p_ (S_lss rfl (.tmp rfl) (.tmp rfl)) ?_
 refine AL_nil ?_
 refine AC_cond (.tmp rfl) (fun hb3 => ?_) (fun hb3 => ?_)
 ·try simp only [zA,zO,zN,zM,zP,zQ,zD,zF,gd] at hb3
  have hil : i < ahead.length := by omega
  refine AC_skip ?_
  refine AC_seq ?_
  refine AC_block ?_
  refine AC_seq ?_
  refine AC_draw (by kernel_rfl) (by kernel_rfl) (.cons rfl (Q_p rfl (S_move rfl (.tmp rfl))) <|
    .cons rfl (Q_p rfl (S_move rfl (.tmp rfl))) <|
    .cons rfl (Q_p rfl (S_elemN (e := 79) 11 rfl (.tmp rfl) (.tmp rfl) (by kernel_rfl) (by kernel_rfl) (by omega) (fun _ => rfl))) <|
    .cons rfl (Q_p rfl (S_fieldP 0 rfl (.tmp rfl) (by kernel_rfl))) <|
    .cons rfl (Q_p rfl (S_loadP rfl (.tmp rfl) rfl (by kernel_rfl))) <|
    .cons rfl (Q_p rfl (S_field 0 rfl (.tmp rfl) (by kernel_rfl))) <|
    .cons rfl (Q_p rfl (S_load 0 rfl (.tmp rfl) rfl rfl (by kernel_rfl))) <|
    .cons rfl (Q_p rfl (S_eqS rfl (.tmp rfl) (.tmp rfl))) <|
    .nil) ?_
  refine AC_cond (.tmp rfl) (fun hb4 => ?_) (fun hb4 => ?_)
  ·try simp only [zA,zO,zN,zM,zP,zQ,zD,zF,gd] at hb4
   have hx := one_1 (ps := (ahead.flatMap Ctr.ports)) (a := (if init = true then 0 else 3)) (b := (if init = true then 0 else 1000)) (nameE_there (ns := (ahead.map Ctr.name)) (c := c) hnv (by have := hb4; rw [← this]; exact List.mem_map_of_mem (List.getElem_mem hil)))
   refine AC_seq (AC_region ?_)
   refine ac rfl rfl rfl ?_
   refine p_ (S_assign rfl (AEv.S _)) ?_
   refine AL_nil (AC_ret ?_)
   refine ret_tmps (ts := [6, 7]) st rfl (by decide) rfl (Sub.l (List.Sublist.cons _ (List.Sublist.refl _))) (Conv.refl (Sub.l (List.Sublist.cons _ (List.Sublist.refl _))) _) ⟨cp_some hx rfl, rfl⟩ (.inl rfl)
  try simp only [zA,zO,zN,zM,zP,zQ,zD,zF,gd] at hb4
  have hne : (ahead[i]'hil).name ≠ c.name := hb4
  refine AC_skip ?_
  refine AC_region ?_
  refine mv rfl rfl rfl rfl ?_
  refine p_ (S_addI rfl (.tmp rfl) (AEv.const _) (by omega) (by omega)) ?_
  refine as_ rfl rfl rfl rfl ?_
  refine AL_nil ?_
  exact ⟨i + 1, ⟨by omega, by
   rw [List.take_succ_eq_append_getElem hil, List.map_append]
   intro h
   rcases List.mem_append.1 h with h | h
   ·exact hno h
   ·simp only [List.map_cons, List.map_nil, List.mem_singleton] at h; exact hne h.symm⟩, by omega, (Sub.l (List.Sublist.refl _)), (.cons rfl (by first | exact Le.refl _ | exact Le.nils | exact Le.row _ _ _ _ | exact Le.of_eq (by first | rfl | (simp; done) | (push_cast; rfl) | (simp; omega))) .nil), (.cons rfl (Le.refl _) (.cons rfl (Le.refl _) (.cons rfl (Le.refl _) .nil)))⟩
 try simp only [zA,zO,zN,zM,zP,zQ,zD,zF,gd] at hb3
 have hn0 : nameE (ahead.map Ctr.name) c.name = none := nameE_ok hnv (by rw [List.take_of_length_le (by omega)] at hno; exact hno)
 refine AC_exit ?_
 refine AC_seq (AC_region ?_)
 refine fl 1 ?_
 refine ld 0 ?_
 refine p_ (S_pcall rfl (AEvs.cons (.tmp rfl) AEvs.nil) (ref03_Split_ok c.image (by omega))) ?_
 refine mv rfl rfl rfl rfl ?_
 refine ex 0 ?_
 refine ex 1 ?_
 refine ex 2 ?_
 refine as_ rfl rfl rfl rfl ?_
 refine as_ rfl rfl rfl rfl ?_
 refine as_ rfl rfl rfl rfl ?_
 refine AL_nil ?_
 refine AC_seq ?_
 refine AC_seq (AC_region ?_)
 refine mv rfl rfl rfl rfl ?_
 refine p_ (S_not rfl (.tmp rfl)) ?_
 refine AL_nil ?_
 refine AC_cond (.tmp rfl) (fun hb5 => ?_) (fun hb5 => ?_)
 ·try simp only [zA,zO,zN,zM,zP,zQ,zD,zF,gd] at hb5
  have hx := one_2 (ps := (ahead.flatMap Ctr.ports)) (a := (if init = true then 0 else 3)) (b := (if init = true then 0 else 1000)) hn0 (show imgE c = some (33, [[105, 109, 97, 103, 101]]) by unfold imgE; rw [hb5]; rfl)
  refine AC_seq (AC_region ?_)
  refine ac rfl rfl rfl ?_
  refine p_ (S_assign rfl (AEv.S _)) ?_
  refine AL_nil (AC_ret ?_)
  refine ret_tmps (ts := [6, 7]) st rfl (by decide) rfl (Sub.l (List.Sublist.cons _ (List.Sublist.refl _))) (Conv.refl (Sub.l (List.Sublist.cons _ (List.Sublist.refl _))) _) ⟨cp_some hx rfl, rfl⟩ (.inl rfl)
 try simp only [zA,zO,zN,zM,zP,zQ,zD,zF,gd] at hb5
 have hi0 : imgE c = none := by unfold imgE; rw [hb5]; rfl
 refine AC_skip ?_
 refine AC_seq (AC_region ?_)
 refine p_ (S_buildSlice (e := 9) 1 rfl (AEvs.cons (AEv.S _) (AEvs.cons (AEv.S _) (AEvs.cons (AEv.S _) AEvs.nil))) rfl (by kernel_rfl) (by kernel_rfl) (by intro y hy; simp only [List.mem_cons, List.not_mem_nil, or_false] at hy; rcases hy with rfl | rfl | rfl <;> exact ⟨rfl, rfl⟩) (by decide) (by decide) (by decide)) ?_
 refine as_ rfl rfl rfl rfl ?_
 refine AL_nil (AC_seq (AC_region ?_))
 refine fl 2 ?_
 refine ldN 3 0 ?_
 refine p_ (S_pcall rfl (AEvs.cons (y := resAV c.req) (.tmp rfl) AEvs.nil) (ref06_three_ok c.req)) ?_
 refine p_ (S_build (t := 144) (pl := [(0, 1), (1, 1), (2, 1)]) (zs := [.int .i64 0, .int .i64 0, .int .i64 0]) rfl AEvs.nil (by kernel_rfl) rfl) ?_
 refine p_ (S_pcall rfl (AEvs.cons (y := resAV c.req) (.tmp rfl) (AEvs.cons (y := resAV (0, 0, 0)) (.tmp rfl) (AEvs.cons (AEv.const _) AEvs.nil))) (ref06_numbers_ok c.req (0, 0, 0) false)) ?_
 refine as_ rfl rfl rfl rfl ?_
 refine AL_nil ?_
 refine AC_seq ?_
 refine AC_seq (AC_region ?_)
 refine mv rfl rfl rfl rfl ?_
 refine p_ (S_geq rfl (.tmp rfl) (AEv.const _)) ?_
 refine AL_nil ?_
 refine AC_cond (.tmp rfl) (fun hb6 => ?_) (fun hb6 => ?_)
 ·try simp only [zA,zO,zN,zM,zP,zQ,zD,zF,gd] at hb6
  have hx := one_3 (ps := (ahead.flatMap Ctr.ports)) (a := (if init = true then 0 else 3)) (b := (if init = true then 0 else 1000)) hn0 hi0 (show reqE c.req = _ by rw [req_nums, if_pos (by omega)])
  have hk9 : (numsI c.req (0, 0, 0) false).toNat < numN.length := by have := (numsI_range c.req (0, 0, 0) false).2; show _ < 3; omega
  have hk8 := num_len hk9
  refine AC_seq ?_
  refine AC_draw (by kernel_rfl) (by kernel_rfl) (.cons rfl (Q_p rfl (S_move rfl (.tmp rfl))) <|
    .cons rfl (Q_p rfl (S_move rfl (.tmp rfl))) <|
    .cons rfl (Q_p rfl (S_elemN (e := 9) (f := fun s => .S s) (l := numN) (i := (numsI c.req (0, 0, 0) false).toNat) 1 rfl (.tmp rfl) ((AEv.tmp rfl).le (Le.of_eq (congrArg (AV.int _) (show (numsI c.req (0, 0, 0) false) = (((numsI c.req (0, 0, 0) false).toNat : Nat) : Int) by omega)))) (by kernel_rfl) (by kernel_rfl) (by have := (numsI_range c.req (0, 0, 0) false).2; show _ < 3; omega) (fun _ => rfl))) <|
    .cons rfl (Q_p rfl (S_loadP rfl (.tmp rfl) rfl (by kernel_rfl))) <|
    .cons rfl (Q_p rfl (S_cat rfl (AEv.S _) (.tmp rfl) (by first | omega | (simp only [List.length_append, List.length_cons, List.length_nil]; omega)))) <|
    .cons rfl (Q_p rfl (S_assign rfl (AEv.const _))) <|
    .cons rfl (Q_p rfl (S_assign rfl (.tmp rfl))) <|
    .nil) ?_
  refine AC_ret ?_
  refine ret_tmps (ts := [6, 7]) st rfl (by decide) rfl (Sub.l (List.Sublist.cons _ (List.Sublist.refl _))) (Conv.refl (Sub.l (List.Sublist.cons _ (List.Sublist.refl _))) _) ⟨cp_some hx (by rw [join_two]; exact num_text [114, 101, 113] hk9), rfl⟩ (.inl rfl)
 try simp only [zA,zO,zN,zM,zP,zQ,zD,zF,gd] at hb6
 have hr0 : reqE c.req = none := by rw [req_nums, if_neg (by omega)]
 refine AC_skip ?_
 refine AC_seq ?_
 refine AC_draw (by kernel_rfl) (by kernel_rfl) (.cons rfl (Q_p rfl (S_field 5 rfl (.tmp rfl) (by kernel_rfl))) <|
   .cons rfl (Q_p rfl (S_loadN (m := 3) 0 rfl (.tmp rfl) rfl (by kernel_rfl) (by first | exact Nat.le_of_ble_eq_true rfl | (simp; omega) | simp))) <|
   .cons rfl (Q_p rfl (S_pcall rfl (AEvs.cons (y := resAV c.lim) (.tmp rfl) AEvs.nil) (ref06_three_ok c.lim))) <|
   .cons rfl (Q_p rfl (S_field 2 rfl (.tmp rfl) (by kernel_rfl))) <|
   .cons rfl (Q_p rfl (S_loadN (m := 3) 0 rfl (.tmp rfl) rfl (by kernel_rfl) (by first | exact Nat.le_of_ble_eq_true rfl | (simp; omega) | simp))) <|
   .cons rfl (Q_p rfl (S_pcall rfl (AEvs.cons (y := resAV c.req) (.tmp rfl) AEvs.nil) (ref06_three_ok c.req))) <|
   .cons rfl (Q_p rfl (S_pcall rfl (AEvs.cons (.tmp rfl) (AEvs.cons (.tmp rfl) (AEvs.cons (AEv.const _) AEvs.nil))) (ref06_numbers_ok c.lim c.req true))) <|
   .cons rfl (Q_p rfl (S_assign rfl (.tmp rfl))) <|
   .nil) ?_
 refine AC_seq ?_
 refine AC_seq (AC_region ?_)
 refine mv rfl rfl rfl rfl ?_
 refine p_ (S_geq rfl (.tmp rfl) (AEv.const _)) ?_
 refine AL_nil ?_
 refine AC_cond (.tmp rfl) (fun hb7 => ?_) (fun hb7 => ?_)
 ·try simp only [zA,zO,zN,zM,zP,zQ,zD,zF,gd] at hb7
  have hx := one_4 (ps := (ahead.flatMap Ctr.ports)) (a := (if init = true then 0 else 3)) (b := (if init = true then 0 else 1000)) hn0 hi0 hr0 (show limE c.lim c.req = _ by rw [lim_nums, if_pos (by omega)])
  have hk9 : (numsI c.lim c.req true).toNat < numN.length := by have := (numsI_range c.lim c.req true).2; show _ < 3; omega
  have hk8 := num_len hk9
  refine AC_seq ?_
  refine AC_draw (by kernel_rfl) (by kernel_rfl) (.cons rfl (Q_p rfl (S_move rfl (.tmp rfl))) <|
    .cons rfl (Q_p rfl (S_move rfl (.tmp rfl))) <|
    .cons rfl (Q_p rfl (S_elemN (e := 9) (f := fun s => .S s) (l := numN) (i := (numsI c.lim c.req true).toNat) 1 rfl (.tmp rfl) ((AEv.tmp rfl).le (Le.of_eq (congrArg (AV.int _) (show (numsI c.lim c.req true) = (((numsI c.lim c.req true).toNat : Nat) : Int) by omega)))) (by kernel_rfl) (by kernel_rfl) (by have := (numsI_range c.lim c.req true).2; show _ < 3; omega) (fun _ => rfl))) <|
    .cons rfl (Q_p rfl (S_loadP rfl (.tmp rfl) rfl (by kernel_rfl))) <|
    .cons rfl (Q_p rfl (S_cat rfl (AEv.S _) (.tmp rfl) (by first | omega | (simp only [List.length_append, List.length_cons, List.length_nil]; omega)))) <|
    .cons rfl (Q_p rfl (S_assign rfl (AEv.const _))) <|
    .cons rfl (Q_p rfl (S_assign rfl (.tmp rfl))) <|
    .nil) ?_
  refine AC_ret ?_
  refine ret_tmps (ts := [6, 7]) st rfl (by decide) rfl (Sub.l (List.Sublist.cons _ (List.Sublist.refl _))) (Conv.refl (Sub.l (List.Sublist.cons _ (List.Sublist.refl _))) _) ⟨cp_some hx (by rw [join_two]; exact num_text [108, 105, 109] hk9), rfl⟩ (.inl rfl)
 try simp only [zA,zO,zN,zM,zP,zQ,zD,zF,gd] at hb7
 have hl0 : limE c.lim c.req = none := by rw [lim_nums, if_neg (by omega)]
 refine AC_skip ?_
 refine AC_seq ?_
 refine AC_seq (AC_region ?_)
 refine fl 8 ?_
 refine ld 0 ?_
 refine p_ (by first | exact S_lenM (e := 3) rfl (.tmp rfl) (by kernel_rfl) | exact S_len (e := 3) rfl (.tmp rfl) (by kernel_rfl)) ?_
 refine p_ (S_gtr rfl (.tmp rfl) (AEv.const _)) ?_
 refine mv rfl rfl rfl rfl ?_
 refine g_ (fun _ => mA) ?_
 refine g_ (fun _ => S_move rfl (AEv.cd (.tmp rfl))) ?_
 refine AL_gg rfl rfl (.tmp rfl) rfl (fun hg14 hg15 hg16 => S_field 8 rfl (.tmp rfl) (by kernel_rfl)) ?_
 refine AL_gg rfl rfl (.tmp rfl) rfl (fun hg17 hg18 hg19 => S_load 0 rfl (AEv.cd (.tmp rfl)) rfl rfl (by kernel_rfl)) ?_
 refine AL_gg rfl rfl (.tmp rfl) rfl (fun hg20 hg21 hg22 => by first | exact S_lenM (e := 3) rfl (AEv.cd (.tmp rfl)) (by kernel_rfl) | exact S_len (e := 3) rfl (AEv.cd (.tmp rfl)) (by kernel_rfl)) ?_
 refine AL_gg rfl rfl (.tmp rfl) rfl (fun hg23 hg24 hg25 => S_gtr rfl (AEv.cd (.tmp rfl)) (AEv.const _)) ?_
 refine g_ (fun _ => S_and rfl (AEv.cd (.tmp rfl)) (fun hp29 => (AEv.cd (.tmp rfl)))) ?_
 refine p_ (S_or rfl (.tmp rfl) (fun hp30 => (AEv.cd (.tmp rfl)))) ?_
 refine AL_nil ?_
 refine AC_cond (.tmp rfl) (fun hb31 => ?_) (fun hb31 => ?_)
 ·try simp only [zA,zO,zN,zM,zP,zQ,zD,zF,gd] at hb31
  have hx := one_5 (a := (if init = true then 0 else 3)) (b := (if init = true then 0 else 1000)) hn0 hi0 hr0 hl0 (port_many (ps := (ahead.flatMap Ctr.ports)) (l := c.ports) (n := (if init = true then 0 else 3)) (by cases init <;> simp only [Bool.true_eq_false, Bool.false_eq_true, false_or, or_false, true_or, or_true, false_and, and_false, true_and, and_true, if_true, if_false, reduceIte] at hb31 ⊢ <;> omega))
  refine AC_seq (AC_region ?_)
  refine ac rfl rfl rfl ?_
  refine p_ (S_assign rfl (AEv.S _)) ?_
  refine AL_nil (AC_ret ?_)
  refine ret_tmps (ts := [6, 7]) st rfl (by decide) rfl (Sub.l (List.Sublist.cons _ (List.Sublist.refl _))) (Conv.refl (Sub.l (List.Sublist.cons _ (List.Sublist.refl _))) _) ⟨cp_some hx rfl, rfl⟩ (.inl rfl)
 try simp only [zA,zO,zN,zM,zP,zQ,zD,zF,gd] at hb31
 have hpm : atMostE portsN (c.ports.length : Int) 0 (if init = true then 0 else 3) = none := by
  unfold atMostE; rw [if_neg]; cases init <;> simp only [Bool.true_eq_false, Bool.false_eq_true, false_or, or_false, true_or, or_true, false_and, and_false, true_and, and_true, if_true, if_false, reduceIte] at hb31 ⊢ <;> omega
 refine AC_skip ?_
 refine AC_seq ?_
 refine AC_seq (AC_region ?_)
 refine ac rfl rfl rfl ?_
 refine AL_nil ?_
 refine AC_block ?_
 refine AC_loopK (G := Nat) [(1, _), (2, _), (3, _)] (fun g => g ≤ c.ports.length ∧ ∀ j, j < g → portAt (ahead.flatMap Ctr.ports) c.ports j = none) (fun g => [(14, .int .i64 (g : Int))]) (fun g => (b3, .cells (ctrL c)) :: st) (fun g => c.ports.length - g) (0) (⟨Nat.zero_le _, fun j h => absurd h (Nat.not_lt_zero _)⟩) (Sub.l (List.Sublist.refl _)) (.cons rfl (Le.refl _) (.cons rfl (Le.refl _) (.cons rfl (Le.refl _) .nil))) (.cons rfl (by first | exact Le.refl _ | exact Le.nils | exact Le.row _ _ _ _ | exact Le.of_eq (by first | rfl | (simp; done) | (push_cast; rfl) | (simp; omega))) .nil) ?_
 rintro i ⟨hi, hall⟩
 try dsimp only
 simp only [List.cons_append, List.nil_append]
 refine AC_seq ?_
 refine AC_seq (AC_region ?_)
 refine mv rfl rfl rfl rfl ?_
 refine fl 8 ?_
 refine ld 0 ?_
 refine p_ (by first | exact S_lenM (e := 3) rfl (.tmp rfl) (by kernel_rfl) | exact S_len (e := 3) rfl (.tmp rfl) (by kernel_rfl)) ?_
 refine p_ (S_lss rfl (.tmp rfl) (.tmp rfl)) ?_
 refine AL_nil ?_
 refine AC_cond (.tmp rfl) (fun hb32 => ?_) (fun hb32 => ?_)
 ·try simp only [zA,zO,zN,zM,zP,zQ,zD,zF,gd] at hb32
  have hil : i < c.ports.length := by omega
  have hif : fits (i : Int) := by unfold fits; omega
  have hgd : c.ports.getD i 0 = c.ports[i] := by rw [List.getD_eq_getElem?_getD, List.getElem?_eq_getElem hil]; rfl
  refine AC_skip ?_
  refine AC_seq ?_
  refine AC_block ?_
  refine AC_seq ?_
  refine AC_seq (AC_region ?_)
  refine fl 8 ?_
  refine ld 0 ?_
  refine mv rfl rfl rfl rfl ?_
  refine p_ (S_elemN (e := 3) 1 rfl (.tmp rfl) (.tmp rfl) (by kernel_rfl) (by kernel_rfl) (by omega) (fun _ => rfl)) ?_
  refine p_ (S_loadP rfl (.tmp rfl) rfl (by kernel_rfl)) ?_
  refine p_ (S_lss rfl (.tmp rfl) (AEv.const _)) ?_
  refine mv rfl rfl rfl rfl ?_
  refine g_ (fun _ => fA 8) ?_
  refine g_ (fun _ => lA 0) ?_
  refine g_ (fun _ => mA) ?_
  refine g_ (fun _ => S_elemN (e := 3) 1 rfl (AEv.cd (.tmp rfl)) (AEv.cd (.tmp rfl)) (by kernel_rfl) (by kernel_rfl) (by (try simp only [gd, Bool.and_eq_true, Bool.or_eq_true, Bool.not_eq_true', Bool.not_eq_false', decide_eq_true_eq, decide_eq_false_iff_not, Bool.or_eq_false_iff, Bool.and_eq_false_iff] at *); omega) (fun _ => rfl)) ?_
  refine g_ (fun _ => S_loadP rfl (AEv.cd (.tmp rfl)) rfl (by kernel_rfl)) ?_
  refine g_ (fun _ => S_gtr rfl (AEv.cd (.tmp rfl)) (AEv.const _)) ?_
  refine p_ (S_or rfl (.tmp rfl) (fun hp51 => (AEv.cd (.tmp rfl)))) ?_
  refine AL_nil ?_
  refine AC_cond (.tmp rfl) (fun hb52 => ?_) (fun hb52 => ?_)
  ·try simp only [zA,zO,zN,zM,zP,zQ,zD,zF,gd] at hb52
   have hx := one_5 (a := (if init = true then 0 else 3)) (b := (if init = true then 0 else 1000)) hn0 hi0 hr0 hl0 (port_at hpm hil (portAt_range (ps := (ahead.flatMap Ctr.ports)) hil (by simpa using hb52)) hall)
   refine AC_seq (AC_region ?_)
   refine mv rfl rfl rfl rfl ?_
   refine p_ (S_pcall rfl (AEvs.cons (AEv.S _) (AEvs.cons (.tmp rfl) AEvs.nil)) (ref06_at_ok portsN (by decide) (i : Int) hif)) ?_
   refine ac rfl rfl rfl ?_
   refine as_ rfl rfl rfl rfl ?_
   refine AL_nil (AC_ret ?_)
   refine ret_tmps (ts := [6, 7]) st rfl (by decide) rfl (Sub.l (List.Sublist.cons _ (List.Sublist.refl _))) (Conv.refl (Sub.l (List.Sublist.cons _ (List.Sublist.refl _))) _) ⟨cp_some hx (Lib.join_one _ _).symm, rfl⟩ (.inl rfl)
  try simp only [zA,zO,zN,zM,zP,zQ,zD,zF,gd] at hb52
  have hr1 : 1 ≤ (c.ports[i]'hil) ∧ (c.ports[i]'hil) ≤ 65535 := by omega
  refine AC_skip ?_
  refine AC_seq ?_
  refine AC_draw (by kernel_rfl) (by kernel_rfl) (.cons rfl (Q_p rfl (S_move rfl (.tmp rfl))) <|
    .cons rfl (Q_p rfl (S_field 8 rfl (.tmp rfl) (by kernel_rfl))) <|
    .cons rfl (Q_p rfl (S_load 0 rfl (.tmp rfl) rfl rfl (by kernel_rfl))) <|
    .cons rfl (Q_p rfl (S_move rfl (.tmp rfl))) <|
    .cons rfl (Q_p rfl (S_elemN (e := 3) 1 rfl (.tmp rfl) (.tmp rfl) (by kernel_rfl) (by kernel_rfl) (by omega) (fun _ => rfl))) <|
    .cons rfl (Q_p rfl (S_loadP rfl (.tmp rfl) rfl (by kernel_rfl))) <|
    .cons rfl (Q_p rfl (S_pcall rfl (AEvs.cons (.tmp rfl) (AEvs.cons (.tmp rfl) AEvs.nil)) (ref06_Has_ok ahead (c.ports[i]'hil) (by omega) hap))) <|
    .cons rfl (Q_p rfl (S_move rfl (.tmp rfl))) <|
    .cons rfl (Q_g rfl rfl (.tmp rfl) (fun hg53 => S_field 8 rfl (.tmp rfl) (by kernel_rfl))) <|
    .cons rfl (Q_g rfl rfl (.tmp rfl) (fun hg56 => S_load 0 rfl (AEv.cd (.tmp rfl)) rfl rfl (by kernel_rfl))) <|
    .cons rfl (Q_g rfl rfl (.tmp rfl) (fun hg59 => S_move rfl (.tmp rfl))) <|
    .cons rfl (Q_g rfl rfl (.tmp rfl) (fun hg62 => S_cutHM (e := 3) 1 rfl (AEv.cd (.tmp rfl)) (AEv.cd (.tmp rfl)) (by kernel_rfl) (by kernel_rfl) (fun _ => rfl) (by (try simp only [gd, Bool.and_eq_true, Bool.or_eq_true, Bool.not_eq_true', Bool.not_eq_false', decide_eq_true_eq, decide_eq_false_iff_not, Bool.or_eq_false_iff, Bool.and_eq_false_iff] at *); omega))) <|
    .cons rfl (Q_g rfl rfl (.tmp rfl) (fun hg65 => S_build (t := 79) (pl := [(0, 1), (1, 1), (2, 3), (5, 3), (8, 1), (9, 2)]) (zs := [.string ⟨#[]⟩, .string ⟨#[]⟩, .int .i64 0, .int .i64 0, .int .i64 0, .int .i64 0, .int .i64 0, .int .i64 0, .slice none 0 0, .int .i64 0, .int .i64 0]) rfl (AEvs.cons (AEv.cd (.tmp rfl)) AEvs.nil) (by kernel_rfl) rfl)) <|
    .cons rfl (Q_g rfl rfl (.tmp rfl) (fun hg68 => S_buildSlice (e := 79) 11 rfl (AEvs.cons (AEv.cd (.tmp rfl)) AEvs.nil) rfl (by kernel_rfl) (by kernel_rfl) (by intro y hy; simp only [List.mem_cons, List.not_mem_nil, or_false] at hy; rcases hy with rfl <;> exact ⟨rfl, rfl⟩) (by decide) (by decide) (by decide))) <|
    .cons rfl (Q_g rfl rfl (.tmp rfl) (fun hg71 => S_field 8 rfl (.tmp rfl) (by kernel_rfl))) <|
    .cons rfl (Q_g rfl rfl (.tmp rfl) (fun hg74 => S_load 0 rfl (AEv.cd (.tmp rfl)) rfl rfl (by kernel_rfl))) <|
    .cons rfl (Q_g rfl rfl (.tmp rfl) (fun hg77 => S_move rfl (.tmp rfl))) <|
    .cons rfl (Q_g rfl rfl (.tmp rfl) (fun hg80 => S_elemN (e := 3) 1 rfl (AEv.cd (.tmp rfl)) (AEv.cd (.tmp rfl)) (by kernel_rfl) (by kernel_rfl) (by (try simp only [gd, Bool.and_eq_true, Bool.or_eq_true, Bool.not_eq_true', Bool.not_eq_false', decide_eq_true_eq, decide_eq_false_iff_not, Bool.or_eq_false_iff, Bool.and_eq_false_iff] at *); omega) (fun _ => rfl))) <|
    .cons rfl (Q_g rfl rfl (.tmp rfl) (fun hg83 => S_loadP rfl (AEv.cd (.tmp rfl)) rfl (by kernel_rfl))) <|
    .cons rfl (Q_g rfl rfl (.tmp rfl) (fun hg86 => S_pcall rfl (AEvs.cons (y := .sl (ctrsV [⟨[], [], (0, 0, 0), (0, 0, 0), c.ports.take i, (0, 0)⟩])) (AEv.cd (.tmp rfl)) (AEvs.cons (AEv.cd (.tmp rfl)) AEvs.nil)) (ref06_Has_ok [⟨[], [], (0, 0, 0), (0, 0, 0), c.ports.take i, (0, 0)⟩] (c.ports[i]'hil) (Nat.le_of_ble_eq_true rfl) (by intro x hx; rw [List.mem_singleton.1 hx]; simp only [List.length_take]; omega)))) <|
    .cons rfl (Q_p rfl (S_or rfl (.tmp rfl) (fun hp89 => (AEv.cd (.tmp rfl))))) <|
    .nil) ?_
  refine AC_cond (.tmp rfl) (fun hb90 => ?_) (fun hb90 => ?_)
  ·try simp only [zA,zO,zN,zM,zP,zQ,zD,zF,gd] at hb90
   have hx := one_5 (a := (if init = true then 0 else 3)) (b := (if init = true then 0 else 1000)) hn0 hi0 hr0 hl0 (port_at hpm hil (portAt_there (ps := (ahead.flatMap Ctr.ports)) hil hr1 (by simpa using hb90)) hall)
   refine AC_seq (AC_region ?_)
   refine mv rfl rfl rfl rfl ?_
   refine p_ (S_pcall rfl (AEvs.cons (AEv.S _) (AEvs.cons (.tmp rfl) AEvs.nil)) (ref06_at_ok portsN (by decide) (i : Int) hif)) ?_
   refine ac rfl rfl rfl ?_
   refine as_ rfl rfl rfl rfl ?_
   refine AL_nil (AC_ret ?_)
   refine ret_tmps (ts := [6, 7]) st rfl (by decide) rfl (Sub.l (List.Sublist.cons _ (List.Sublist.refl _))) (Conv.refl (Sub.l (List.Sublist.cons _ (List.Sublist.refl _))) _) ⟨cp_some hx (Lib.join_one _ _).symm, rfl⟩ (.inl rfl)
  try simp only [zA,zO,zN,zM,zP,zQ,zD,zF,gd] at hb90
  have hr2 : (c.ports[i]'hil) ∉ (ahead.flatMap Ctr.ports) ++ c.ports.take i := by simpa using hb90
  refine AC_skip ?_
  refine AC_region ?_
  refine mv rfl rfl rfl rfl ?_
  refine p_ (S_addI rfl (.tmp rfl) (AEv.const _) (by omega) (by omega)) ?_
  refine as_ rfl rfl rfl rfl ?_
  refine AL_nil ?_
  refine ⟨i + 1, ⟨by omega, fun j h => ?_⟩, by omega, (Sub.l (List.Sublist.refl _)), (.cons rfl (by first | exact Le.refl _ | exact Le.nils | exact Le.row _ _ _ _ | exact Le.of_eq (by first | rfl | (simp; done) | (push_cast; rfl) | (simp; omega))) .nil), (.cons rfl (Le.refl _) (.cons rfl (Le.refl _) (.cons rfl (Le.refl _) .nil)))⟩
  rcases Nat.lt_or_ge j i with h' | h'
  ·exact hall j h'
  ·have : j = i := by omega
   subst this
   exact portAt_ok hil hr1 hr2
 try simp only [zA,zO,zN,zM,zP,zQ,zD,zF,gd] at hb32
 have hp0 : portE (ahead.flatMap Ctr.ports) c.ports (if init = true then 0 else 3) = none := portE_in hpm fun j hj => hall j (by omega)
 refine AC_exit ?_
 refine AC_seq ?_
 refine AC_seq (AC_region ?_)
 refine fl 9 ?_
 refine fl 0 ?_
 refine ld 0 ?_
 refine p_ (S_lss rfl (.tmp rfl) (AEv.const _)) ?_
 refine mv rfl rfl rfl rfl ?_
 refine g_ (fun _ => fA 9) ?_
 refine g_ (fun _ => S_field 0 rfl (AEv.cd (.tmp rfl)) (by kernel_rfl)) ?_
 refine g_ (fun _ => lA 0) ?_
 refine g_ (fun _ => S_gtr rfl (AEv.cd (.tmp rfl)) (AEv.const _)) ?_
 refine p_ (S_or rfl (.tmp rfl) (fun hp103 => (AEv.cd (.tmp rfl)))) ?_
 refine mv rfl rfl rfl rfl ?_
 refine g_ (fun _ => mA) ?_
 refine g_ (fun _ => S_move rfl (AEv.cd (.tmp rfl))) ?_
 refine AL_gg rfl rfl (.tmp rfl) rfl (fun hg110 hg111 hg112 => S_field 9 rfl (.tmp rfl) (by kernel_rfl)) ?_
 refine AL_gg rfl rfl (.tmp rfl) rfl (fun hg113 hg114 hg115 => S_field 0 rfl (AEv.cd (.tmp rfl)) (by kernel_rfl)) ?_
 refine AL_gg rfl rfl (.tmp rfl) rfl (fun hg116 hg117 hg118 => S_load 0 rfl (AEv.cd (.tmp rfl)) rfl rfl (by kernel_rfl)) ?_
 refine AL_gg rfl rfl (.tmp rfl) rfl (fun hg119 hg120 hg121 => S_gtr rfl (AEv.cd (.tmp rfl)) (AEv.const _)) ?_
 refine g_ (fun _ => S_and rfl (AEv.cd (.tmp rfl)) (fun hp125 => (AEv.cd (.tmp rfl)))) ?_
 refine p_ (S_or rfl (.tmp rfl) (fun hp126 => (AEv.cd (.tmp rfl)))) ?_
 refine AL_nil ?_
 refine AC_cond (.tmp rfl) (fun hb127 => ?_) (fun hb127 => ?_)
 ·try simp only [zA,zO,zN,zM,zP,zQ,zD,zF,gd] at hb127
  have hpr : c.probe.1 < 0 ∨ (if init = true then 0 else 1000) < c.probe.1 := by cases init <;> simp only [Bool.true_eq_false, Bool.false_eq_true, false_or, or_false, true_or, or_true, false_and, and_false, true_and, and_true, if_true, if_false, reduceIte] at hb127 ⊢ <;> omega
  have hx := (one_6 (a := (if init = true then 0 else 3)) (b := (if init = true then 0 else 1000)) hn0 hi0 hr0 hl0 hp0).trans (probe_every hpr)
  refine AC_seq (AC_region ?_)
  refine ac rfl rfl rfl ?_
  refine p_ (S_assign rfl (AEv.S _)) ?_
  refine AL_nil (AC_ret ?_)
  refine ret_tmps (ts := [6, 7]) st rfl (by decide) rfl (Sub.l (List.Sublist.cons _ (List.Sublist.refl _))) (Conv.refl (Sub.l (List.Sublist.cons _ (List.Sublist.refl _))) _) ⟨cp_some hx rfl, rfl⟩ (.inl rfl)
 try simp only [zA,zO,zN,zM,zP,zQ,zD,zF,gd] at hb127
 have hpr : ¬ (c.probe.1 < 0 ∨ (if init = true then 0 else 1000) < c.probe.1) := by cases init <;> simp only [Bool.true_eq_false, Bool.false_eq_true, false_or, or_false, true_or, or_true, false_and, and_false, true_and, and_true, if_true, if_false, reduceIte] at hb127 ⊢ <;> omega
 refine AC_skip ?_
 refine AC_seq ?_
 refine AC_seq (AC_region ?_)
 refine fl 9 ?_
 refine fl 0 ?_
 refine ld 0 ?_
 refine p_ (S_eql rfl (.tmp rfl) (AEv.const _)) ?_
 refine mv rfl rfl rfl rfl ?_
 refine g_ (fun _ => fA 9) ?_
 refine g_ (fun _ => S_field 1 rfl (AEv.cd (.tmp rfl)) (by kernel_rfl)) ?_
 refine g_ (fun _ => lA 0) ?_
 refine g_ (fun _ => S_neq rfl (AEv.cd (.tmp rfl)) (AEv.const _)) ?_
 refine an ?_
 refine mv rfl rfl rfl rfl ?_
 refine g_ (fun _ => fA 9) ?_
 refine g_ (fun _ => S_field 0 rfl (AEv.cd (.tmp rfl)) (by kernel_rfl)) ?_
 refine g_ (fun _ => lA 0) ?_
 refine g_ (fun _ => S_gtr rfl (AEv.cd (.tmp rfl)) (AEv.const _)) ?_
 refine g_ (fun _ => S_move rfl (AEv.cd (.tmp rfl))) ?_
 refine AL_gg rfl rfl (.tmp rfl) rfl (fun hg156 hg157 hg158 => S_field 9 rfl (.tmp rfl) (by kernel_rfl)) ?_
 refine AL_gg rfl rfl (.tmp rfl) rfl (fun hg159 hg160 hg161 => S_field 1 rfl (AEv.cd (.tmp rfl)) (by kernel_rfl)) ?_
 refine AL_gg rfl rfl (.tmp rfl) rfl (fun hg162 hg163 hg164 => S_load 0 rfl (AEv.cd (.tmp rfl)) rfl rfl (by kernel_rfl)) ?_
 refine AL_gg rfl rfl (.tmp rfl) rfl (fun hg165 hg166 hg167 => S_lss rfl (AEv.cd (.tmp rfl)) (AEv.const _)) ?_
 refine AL_gg rfl rfl (.tmp rfl) rfl (fun hg168 hg169 hg170 => S_move rfl (AEv.cd (.tmp rfl))) ?_
 refine AL_gg rfl rfl (.tmp rfl) rfl (fun hg171 hg172 hg173 => S_field 9 rfl (.tmp rfl) (by kernel_rfl)) ?_
 refine AL_gg rfl rfl (.tmp rfl) rfl (fun hg174 hg175 hg176 => S_field 1 rfl (AEv.cd (.tmp rfl)) (by kernel_rfl)) ?_
 refine AL_gg rfl rfl (.tmp rfl) rfl (fun hg177 hg178 hg179 => S_load 0 rfl (AEv.cd (.tmp rfl)) rfl rfl (by kernel_rfl)) ?_
 refine AL_gg rfl rfl (.tmp rfl) rfl (fun hg180 hg181 hg182 => S_gtr rfl (AEv.cd (.tmp rfl)) (AEv.const _)) ?_
 refine AL_gg rfl rfl (.tmp rfl) rfl (fun hg183 hg184 hg185 => S_or rfl (AEv.cd (.tmp rfl)) (fun hp186 => (AEv.cd (.tmp rfl)))) ?_
 refine g_ (fun _ => S_and rfl (AEv.cd (.tmp rfl)) (fun hp190 => (AEv.cd (.tmp rfl)))) ?_
 refine p_ (S_or rfl (.tmp rfl) (fun hp191 => (AEv.cd (.tmp rfl)))) ?_
 refine AL_nil ?_
 refine AC_cond (.tmp rfl) (fun hb192 => ?_) (fun hb192 => ?_)
 ·try simp only [zA,zO,zN,zM,zP,zQ,zD,zF,gd] at hb192
  have hx := (one_6 (a := (if init = true then 0 else 3)) (b := (if init = true then 0 else 1000)) hn0 hi0 hr0 hl0 hp0).trans ((probe_rest hpr).trans (if_pos (by cases init <;> simp only [Bool.true_eq_false, Bool.false_eq_true, false_or, or_false, true_or, or_true, false_and, and_false, true_and, and_true, if_true, if_false, reduceIte] at hb192 hpr ⊢ <;> omega)))
  refine AC_seq (AC_region ?_)
  refine ac rfl rfl rfl ?_
  refine p_ (S_assign rfl (AEv.S _)) ?_
  refine AL_nil (AC_ret ?_)
  refine ret_tmps (ts := [6, 7]) st rfl (by decide) rfl (Sub.l (List.Sublist.cons _ (List.Sublist.refl _))) (Conv.refl (Sub.l (List.Sublist.cons _ (List.Sublist.refl _))) _) ⟨cp_some hx rfl, rfl⟩ (.inl rfl)
 try simp only [zA,zO,zN,zM,zP,zQ,zD,zF,gd] at hb192
 have hx := (one_6 (a := (if init = true then 0 else 3)) (b := (if init = true then 0 else 1000)) hn0 hi0 hr0 hl0 hp0).trans ((probe_rest hpr).trans (if_neg (by cases init <;> simp only [Bool.true_eq_false, Bool.false_eq_true, false_or, or_false, true_or, or_true, false_and, and_false, true_and, and_true, if_true, if_false, reduceIte] at hb192 hpr ⊢ <;> omega)))
 refine AC_skip ?_
 refine AC_seq (AC_region ?_)
 refine ac rfl rfl rfl ?_
 refine p_ (S_assign rfl (AEv.S _)) ?_
 refine AL_nil (AC_ret ?_)
 refine ret_tmps (ts := [6, 7]) st rfl (by decide) rfl (Sub.l (List.Sublist.cons _ (List.Sublist.refl _))) (Conv.refl (Sub.l (List.Sublist.cons _ (List.Sublist.refl _))) _) ⟨cp_none hx, rfl⟩ (.inl rfl)
set_option maxHeartbeats 1000000 in
theorem ref06_Check_ok (s : Spc) (hs : lightS s = true) : PCalls Tryz.prog 16 [spcAV s] (cpAV (checkE s)) := by
 intro st
 refine co 127 Tryz.func16 ?_
 obtain ⟨h1, h2, h3, h4, h5, h6, h7⟩ := lightS_out hs
 have hpi : ∀ c ∈ s.init, c.name.length ≤ 100 ∧ c.image.length ≤ 100 ∧ c.ports.length ≤ 10 := fun c hc => of_decide_eq_true (h6 c hc)
 have hpm : ∀ c ∈ s.main, c.name.length ≤ 100 ∧ c.image.length ≤ 100 ∧ c.ports.length ≤ 10 := fun c hc => of_decide_eq_true (h7 c hc)
 refine AC_seq (AC_region ?_)
 refine s_ (S_box rfl (.tmp rfl)) ?_
 rintro _ _ ⟨b1, rfl, rfl⟩
 refine ac rfl rfl rfl ?_
 refine p_ (S_assign rfl (AEv.S _)) ?_
 refine AL_nil ?_
 refine AC_seq ?_
 refine AC_seq (AC_region ?_)
 refine fl 0 ?_
 refine ld 0 ?_
 refine p_ (S_pcall rfl (AEvs.cons (.tmp rfl) AEvs.nil) (ref03_Name_ok s.name (by omega))) ?_
 refine p_ (S_not rfl (.tmp rfl)) ?_
 refine AL_nil ?_
 refine AC_cond (.tmp rfl) (fun hb2 => ?_) (fun hb2 => ?_)
 ·try simp only [zA,zO,zN,zM,zP,zQ,zD,zF,gd] at hb2
  have hx : (checkE s) = some (30, [nameN]) := check_bad1 (firstE_hd (by rw [hb2]; rfl))
  refine AC_seq (AC_region ?_)
  refine ac rfl rfl rfl ?_
  refine p_ (S_assign rfl (AEv.S _)) ?_
  refine AL_nil (AC_ret ?_)
  refine ret_tmps (ts := [2, 3]) st rfl (by decide) rfl (Sub.l (List.Sublist.cons _ (List.Sublist.refl _))) (Conv.refl (Sub.l (List.Sublist.cons _ (List.Sublist.refl _))) _) ⟨cp_some hx rfl, rfl⟩ (.inl rfl)
 try simp only [zA,zO,zN,zM,zP,zQ,zD,zF,gd] at hb2
 have hnm : erNew (saysV (nameV s.name) 30) [nameN] = none := by rw [hb2]; rfl
 refine AC_skip ?_
 refine AC_seq (AC_region ?_)
 refine fl 1 ?_
 refine ld 0 ?_
 refine p_ (S_pcall rfl (AEvs.cons (AEv.S _) (AEvs.cons (.tmp rfl) AEvs.nil)) (ref06_Labels_ok labelsN (by decide) s.labels (fun x hx => by have := h5 x hx; omega))) ?_
 refine mv rfl rfl rfl rfl ?_
 refine ex 0 ?_
 refine ex 1 ?_
 refine as_ rfl rfl rfl rfl ?_
 refine as_ rfl rfl rfl rfl ?_
 refine AL_nil ?_
 refine AC_seq ?_
 refine AC_seq (AC_region ?_)
 refine mv rfl rfl rfl rfl ?_
 refine p_ (S_neq rfl (.tmp rfl) (AEv.const _)) ?_
 refine AL_nil ?_
 refine AC_cond (.tmp rfl) (fun hb3 => ?_) (fun hb3 => ?_)
 ·try simp only [zA,zO,zN,zM,zP,zQ,zD,zF,gd] at hb3
  have hne : labelsE labelsN s.labels ≠ none := fun h => hb3 (by rw [h]; rfl)
  obtain ⟨x, hx⟩ : ∃ x, labelsE labelsN s.labels = some x := Option.ne_none_iff_exists'.1 hne
  have hx2 : (checkE s) = some x := check_bad1 ((firstE_tl hnm).trans (firstE_hd hx))
  refine AC_seq (AC_region ?_)
  refine mv rfl rfl rfl rfl ?_
  refine mv rfl rfl rfl rfl ?_
  refine as_ rfl rfl rfl rfl ?_
  refine as_ rfl rfl rfl rfl ?_
  refine AL_nil (AC_ret ?_)
  refine ret_tmps (ts := [2, 3]) st rfl (by decide) rfl (Sub.l (List.Sublist.cons _ (List.Sublist.refl _))) (Conv.refl (Sub.l (List.Sublist.cons _ (List.Sublist.refl _))) _) ⟨congrArg cpAV (hx.trans hx2.symm), rfl⟩ (.inl rfl)
 try simp only [zA,zO,zN,zM,zP,zQ,zD,zF,gd] at hb3
 have hlb : labelsE labelsN s.labels = none := (well_labels _ _).code.1 (by simpa using hb3)
 refine AC_skip ?_
 refine AC_seq ?_
 refine AC_seq (AC_region ?_)
 refine fl 2 ?_
 refine ld 0 ?_
 refine p_ (by first | exact S_lenM (e := 79) rfl (.tmp rfl) (by kernel_rfl) | exact S_len (e := 79) rfl (.tmp rfl) (by kernel_rfl)) ?_
 refine p_ (S_gtr rfl (.tmp rfl) (AEv.const _)) ?_
 refine AL_nil ?_
 refine AC_cond (.tmp rfl) (fun hb4 => ?_) (fun hb4 => ?_)
 ·try simp only [zA,zO,zN,zM,zP,zQ,zD,zF,gd] at hb4
  have hx : (checkE s) = some (2, [initN]) := check_bad1 ((firstE_tl hnm).trans ((firstE_tl hlb).trans (firstE_hd (by unfold atMostE; rw [if_pos (by omega)]))))
  refine AC_seq (AC_region ?_)
  refine ac rfl rfl rfl ?_
  refine p_ (S_assign rfl (AEv.S _)) ?_
  refine AL_nil (AC_ret ?_)
  refine ret_tmps (ts := [2, 3]) st rfl (by decide) rfl (Sub.l (List.Sublist.cons _ (List.Sublist.refl _))) (Conv.refl (Sub.l (List.Sublist.cons _ (List.Sublist.refl _))) _) ⟨cp_some hx rfl, rfl⟩ (.inl rfl)
 try simp only [zA,zO,zN,zM,zP,zQ,zD,zF,gd] at hb4
 have hc1 : firstE (check1 s) = none := (firstE_tl hnm).trans ((firstE_tl hlb).trans ((firstE_tl (by unfold atMostE; rw [if_neg (by omega)])).trans rfl))
 refine AC_skip ?_
 refine AC_seq (AC_region ?_)
 refine ac rfl rfl rfl ?_
 refine AL_nil ?_
 refine AC_seq ?_
 refine AC_seq (AC_region ?_)
 refine ac rfl rfl rfl ?_
 refine AL_nil ?_
 refine AC_block ?_
 refine AC_loopK (G := Nat × Own) [(1, _)] (fun g => g.1 ≤ s.init.length ∧ g.2.ok ((s.init.take g.1).map ctrAV) ∧ ∀ j, j < g.1 → ctrAt [] [] s.init 0 0 j = none) (fun g => [(6, ownAV g.2 11 ((s.init.take g.1).map ctrAV)), (7, .int .i64 (g.1 : Int))]) (fun g => (b1, .cells (spcL s)) :: (ownSt g.2 79 11 ((s.init.take g.1).map ctrAV) ++ st)) (fun g => s.init.length - g.1) ((0, .nil)) (⟨Nat.zero_le _, by simp [Own.ok], fun j h => absurd h (Nat.not_lt_zero _)⟩) (Sub.l (List.Sublist.refl _)) (.cons rfl (Le.refl _) .nil) (.cons rfl (by first | exact Le.refl _ | exact Le.nils | exact Le.row _ _ _ _ | exact Le.of_eq (by first | rfl | (simp; done) | (push_cast; rfl) | (simp; omega))) (.cons rfl (by first | exact Le.refl _ | exact Le.nils | exact Le.row _ _ _ _ | exact Le.of_eq (by first | rfl | (simp; done) | (push_cast; rfl) | (simp; omega))) .nil)) ?_
 rintro ⟨i, p⟩ ⟨hi, hq, hall⟩
 try dsimp only
 simp only [List.cons_append, List.nil_append]
 dsimp only at hi hq hall
 refine AC_seq ?_
 refine AC_seq (AC_region ?_)
 refine mv rfl rfl rfl rfl ?_
 refine fl 2 ?_
 refine ld 0 ?_
 refine p_ (by first | exact S_lenM (e := 79) rfl (.tmp rfl) (by kernel_rfl) | exact S_len (e := 79) rfl (.tmp rfl) (by kernel_rfl)) ?_
 refine p_ (S_lss rfl (.tmp rfl) (.tmp rfl)) ?_
 refine AL_nil ?_
 refine AC_cond (.tmp rfl) (fun hb5 => ?_) (fun hb5 => ?_)
 ·try simp only [zA,zO,zN,zM,zP,zQ,zD,zF,gd] at hb5
  have hil : i < s.init.length := by omega
  have hif : fits (i : Int) := by unfold fits; omega
  have hat := at_short (name := initN) (by decide) hil (by omega)
  have hsh := (short_ctr (ns := namesTo [] s.init i) (ps := portsTo [] s.init i) (a := 0) (b := 0) (c := s.init[i]'hil) (by have := hpi _ (List.getElem_mem hil); omega)).text
  refine AC_skip ?_
  refine AC_seq ?_
  refine AC_block ?_
  refine AC_seq (AC_region ?_)
  refine fl 2 ?_
  refine ld 0 ?_
  refine mv rfl rfl rfl rfl ?_
  refine p_ (S_elemN (e := 79) 11 rfl (.tmp rfl) (.tmp rfl) (by kernel_rfl) (by kernel_rfl) (by omega) (fun _ => rfl)) ?_
  refine p_ (S_loadPN (m := 11) rfl (.tmp rfl) (by kernel_rfl) (by first | exact Nat.le_of_ble_eq_true rfl | (simp; omega) | simp)) ?_
  refine mv rfl rfl rfl rfl ?_
  refine p_ (S_pcall rfl (AEvs.cons (y := ctrAV (s.init[i]'hil)) (.tmp rfl) (AEvs.cons ((AEv.tmp rfl).le (Le_own hq)) (AEvs.cons (AEv.const _) AEvs.nil))) ((ref06_one_ok (s.init[i]'hil) (s.init.take i) true (by have := hpi _ (List.getElem_mem hil); omega) (by have := hpi _ (List.getElem_mem hil); omega) (by have := hpi _ (List.getElem_mem hil); omega) (by rw [List.length_take]; omega) (fun x hx => by have := hpi x (List.mem_of_mem_take hx); omega)).of_eq (show _ = cpAV (ctrE (namesTo [] s.init i) (portsTo [] s.init i) (s.init[i]'hil) 0 0) from rfl))) ?_
  refine mv rfl rfl rfl rfl ?_
  refine ex 0 ?_
  refine ex 1 ?_
  refine as_ rfl rfl rfl rfl ?_
  refine as_ rfl rfl rfl rfl ?_
  refine AL_nil ?_
  refine AC_seq ?_
  refine AC_seq (AC_region ?_)
  refine mv rfl rfl rfl rfl ?_
  refine p_ (S_neq rfl (.tmp rfl) (AEv.const _)) ?_
  refine AL_nil ?_
  refine AC_cond (.tmp rfl) (fun hb6 => ?_) (fun hb6 => ?_)
  ·try simp only [zA,zO,zN,zM,zP,zQ,zD,zF,gd] at hb6
   have hne : (ctrE (namesTo [] s.init i) (portsTo [] s.init i) (s.init[i]'hil) 0 0) ≠ none := fun h => hb6 (congrArg erCode h)
   have hx : (checkE s) = erIn (ctrE (namesTo [] s.init i) (portsTo [] s.init i) (s.init[i]'hil) 0 0) (atT initN (i : Int)) := by
    obtain ⟨y, hy⟩ := Option.ne_none_iff_exists'.1 hne
    obtain ⟨z, hz⟩ : ∃ z, erIn (ctrE (namesTo [] s.init i) (portsTo [] s.init i) (s.init[i]'hil) 0 0) (atT initN (i : Int)) = some z := by rw [hy]; exact ⟨_, rfl⟩
    rw [hz]
    exact check_bad2 hc1 (firstE_hd (eachE_at hil (by rw [ctrAt_at hil, hz]) (fun j hj => by rw [hall j hj]; rfl)))
   refine AC_seq (AC_region ?_)
   refine mv rfl rfl rfl rfl ?_
   refine mv rfl rfl rfl rfl ?_
   refine p_ (S_pcall rfl (AEvs.cons (AEv.S _) (AEvs.cons (.tmp rfl) AEvs.nil)) (ref06_at_ok initN (by decide) (i : Int) hif)) ?_
   refine p_ (S_cat rfl (.tmp rfl) (AEv.S _) (by first | omega | (simp only [List.length_append, List.length_cons, List.length_nil]; omega))) ?_
   refine mv rfl rfl rfl rfl ?_
   refine p_ (S_cat rfl (.tmp rfl) (.tmp rfl) (by first | omega | (simp only [List.length_append, List.length_cons, List.length_nil]; omega))) ?_
   refine as_ rfl rfl rfl rfl ?_
   refine as_ rfl rfl rfl rfl ?_
   refine AL_nil (AC_ret ?_)
   refine ret_tmps (ts := [2, 3]) st rfl (by decide) rfl (Sub.l (List.Sublist.cons _ (List.sublist_append_right _ _))) (Conv.refl (Sub.l (List.Sublist.cons _ (List.sublist_append_right _ _))) _) ⟨cp_in (well_ctr _ _ _ _ _) hne hx rfl, rfl⟩ (.inl rfl)
  try simp only [zA,zO,zN,zM,zP,zQ,zD,zF,gd] at hb6
  have hnn : (ctrE (namesTo [] s.init i) (portsTo [] s.init i) (s.init[i]'hil) 0 0) = none := (well_ctr _ _ _ _ _).code.1 hb6
  refine AC_skip ?_
  refine AC_region ?_
  refine mv rfl rfl rfl rfl ?_
  refine fl 2 ?_
  refine ld 0 ?_
  refine mv rfl rfl rfl rfl ?_
  refine p_ (S_elemN (e := 79) 11 rfl (.tmp rfl) (.tmp rfl) (by kernel_rfl) (by kernel_rfl) (by omega) (fun _ => rfl)) ?_
  refine p_ (S_loadPN (m := 11) rfl (.tmp rfl) (by kernel_rfl) (by first | exact Nat.le_of_ble_eq_true rfl | (simp; omega) | simp)) ?_
  refine p_ (S_buildSlice (e := 79) 11 rfl (AEvs.cons (.tmp rfl) AEvs.nil) rfl (by kernel_rfl) (by kernel_rfl) (by intro y hy; simp only [List.mem_cons, List.not_mem_nil, or_false] at hy; rcases hy with rfl <;> exact ⟨rfl, rfl⟩) (by decide) (by decide) (by decide)) ?_
  refine s_ (S_appendT (f := ctrAV) (l := s.init) (i := i) (e := 79) (size := 11) (bytes := 120) (p := p) (by omega) ([_]) (st) rfl (.tmp rfl) (.tmp rfl) rfl hq (by kernel_rfl) (fun _ => ⟨rfl, rfl⟩) (by omega) (by omega)) ?_
  rintro _ _ ⟨b8, k8, cap8, hx8, rfl, rfl⟩
  refine as_ rfl rfl rfl rfl ?_
  refine AL_nil ?_
  refine AC_region ?_
  refine mv rfl rfl rfl rfl ?_
  refine p_ (S_addI rfl (.tmp rfl) (AEv.const _) (by omega) (by omega)) ?_
  refine as_ rfl rfl rfl rfl ?_
  refine AL_nil ?_
  refine ⟨(i + 1, .row b8 k8 cap8), ⟨by dsimp only; omega, hx8, fun j h => ?_⟩, by dsimp only; omega, (Sub.l (List.Sublist.refl _)), (.cons rfl (by first | exact Le.refl _ | exact Le.nils | exact Le.row _ _ _ _ | exact Le.of_eq (by first | rfl | (simp; done) | (push_cast; rfl) | (simp; omega))) (.cons rfl (by first | exact Le.refl _ | exact Le.nils | exact Le.row _ _ _ _ | exact Le.of_eq (by first | rfl | (simp; done) | (push_cast; rfl) | (simp; omega))) .nil)), (.cons rfl (Le.refl _) .nil)⟩
  rcases Nat.lt_or_ge j i with h' | h'
  ·exact hall j h'
  ·have : j = i := by dsimp only at h; omega
   subst this
   rw [ctrAt_at hil]; exact hnn
 try simp only [zA,zO,zN,zM,zP,zQ,zD,zF,gd] at hb5
 obtain rfl : i = s.init.length := by omega
 rw [List.take_length] at hq ⊢
 have hci : ctrsE initN [] [] s.init 0 0 = none := eachE_all fun j hj => by rw [hall j hj]; rfl
 refine AC_exit ?_
 refine AC_seq ?_
 refine AC_seq (AC_region ?_)
 refine fl 3 ?_
 refine ld 0 ?_
 refine p_ (by first | exact S_lenM (e := 79) rfl (.tmp rfl) (by kernel_rfl) | exact S_len (e := 79) rfl (.tmp rfl) (by kernel_rfl)) ?_
 refine p_ (S_lss rfl (.tmp rfl) (AEv.const _)) ?_
 refine mv rfl rfl rfl rfl ?_
 refine g_ (fun _ => fA 3) ?_
 refine g_ (fun _ => lA 0) ?_
 refine g_ (fun _ => by first | exact S_lenM (e := 79) rfl (AEv.cd (.tmp rfl)) (by kernel_rfl) | exact S_len (e := 79) rfl (AEv.cd (.tmp rfl)) (by kernel_rfl)) ?_
 refine g_ (fun _ => S_gtr rfl (AEv.cd (.tmp rfl)) (AEv.const _)) ?_
 refine p_ (S_or rfl (.tmp rfl) (fun hp21 => (AEv.cd (.tmp rfl)))) ?_
 refine AL_nil ?_
 refine AC_cond (.tmp rfl) (fun hb22 => ?_) (fun hb22 => ?_)
 ·try simp only [zA,zO,zN,zM,zP,zQ,zD,zF,gd] at hb22
  have hx : (checkE s) = some (2, [mainN]) := check_bad2 hc1 ((firstE_tl hci).trans (firstE_hd (by unfold atMostE; rw [if_pos (by omega)])))
  refine AC_seq (AC_region ?_)
  refine ac rfl rfl rfl ?_
  refine p_ (S_assign rfl (AEv.S _)) ?_
  refine AL_nil (AC_ret ?_)
  refine ret_tmps (ts := [2, 3]) st rfl (by decide) rfl (Sub.l (List.Sublist.cons _ (List.sublist_append_right _ _))) (Conv.refl (Sub.l (List.Sublist.cons _ (List.sublist_append_right _ _))) _) ⟨cp_some hx rfl, rfl⟩ (.inl rfl)
 try simp only [zA,zO,zN,zM,zP,zQ,zD,zF,gd] at hb22
 have hc2 : firstE (check2 s) = none := (firstE_tl hci).trans ((firstE_tl (by unfold atMostE; rw [if_neg (by omega)])).trans rfl)
 refine AC_skip ?_
 refine AC_seq ?_
 refine AC_seq (AC_region ?_)
 refine ac rfl rfl rfl ?_
 refine AL_nil ?_
 refine AC_block ?_
 refine AC_loopK (G := Nat × Own) [(1, _)] (fun g => g.1 ≤ s.main.length ∧ g.2.ok ((s.init ++ s.main.take g.1).map ctrAV) ∧ ∀ j, j < g.1 → ctrAt (namesTo [] s.init s.init.length) (portsTo [] s.init s.init.length) s.main 3 1000 j = none) (fun g => [(6, ownAV g.2 11 ((s.init ++ s.main.take g.1).map ctrAV)), (8, .int .i64 (g.1 : Int))]) (fun g => (b1, .cells (spcL s)) :: (ownSt g.2 79 11 ((s.init ++ s.main.take g.1).map ctrAV) ++ st)) (fun g => s.main.length - g.1) ((0, p)) (⟨Nat.zero_le _, by simpa using hq, fun j h => absurd h (Nat.not_lt_zero _)⟩) (by simp only [List.take_zero, List.append_nil]; exact Sub.l (List.Sublist.refl _)) (.cons rfl (Le.refl _) .nil) (.cons rfl (by first | exact Le.refl _ | exact Le.nils | exact Le.row _ _ _ _ | exact Le.of_eq (by first | rfl | (simp; done) | (push_cast; rfl) | (simp; omega))) (.cons rfl (by first | exact Le.refl _ | exact Le.nils | exact Le.row _ _ _ _ | exact Le.of_eq (by first | rfl | (simp; done) | (push_cast; rfl) | (simp; omega))) .nil)) ?_
 rintro ⟨i, p⟩ ⟨hi, hq, hall⟩
 try dsimp only
 simp only [List.cons_append, List.nil_append]
 dsimp only at hi hq hall
 refine AC_seq ?_
 refine AC_seq (AC_region ?_)
 refine mv rfl rfl rfl rfl ?_
 refine fl 3 ?_
 refine ld 0 ?_
 refine p_ (by first | exact S_lenM (e := 79) rfl (.tmp rfl) (by kernel_rfl) | exact S_len (e := 79) rfl (.tmp rfl) (by kernel_rfl)) ?_
 refine p_ (S_lss rfl (.tmp rfl) (.tmp rfl)) ?_
 refine AL_nil ?_
 refine AC_cond (.tmp rfl) (fun hb23 => ?_) (fun hb23 => ?_)
 ·try simp only [zA,zO,zN,zM,zP,zQ,zD,zF,gd] at hb23
  have hil : i < s.main.length := by omega
  have hif : fits (i : Int) := by unfold fits; omega
  have hat := at_short (name := mainN) (by decide) hil (by omega)
  have hsh := (short_ctr (ns := (s.init ++ s.main.take i).map Ctr.name) (ps := (s.init ++ s.main.take i).flatMap Ctr.ports) (a := 3) (b := 1000) (c := s.main[i]'hil) (by have := hpm _ (List.getElem_mem hil); omega)).text
  refine AC_skip ?_
  refine AC_seq ?_
  refine AC_block ?_
  refine AC_seq (AC_region ?_)
  refine fl 3 ?_
  refine ld 0 ?_
  refine mv rfl rfl rfl rfl ?_
  refine p_ (S_elemN (e := 79) 11 rfl (.tmp rfl) (.tmp rfl) (by kernel_rfl) (by kernel_rfl) (by omega) (fun _ => rfl)) ?_
  refine p_ (S_loadPN (m := 11) rfl (.tmp rfl) (by kernel_rfl) (by first | exact Nat.le_of_ble_eq_true rfl | (simp; omega) | simp)) ?_
  refine mv rfl rfl rfl rfl ?_
  refine p_ (S_pcall rfl (AEvs.cons (y := ctrAV (s.main[i]'hil)) (.tmp rfl) (AEvs.cons ((AEv.tmp rfl).le (Le_own hq)) (AEvs.cons (AEv.const _) AEvs.nil))) ((ref06_one_ok (s.main[i]'hil) (s.init ++ s.main.take i) false (by have := hpm _ (List.getElem_mem hil); omega) (by have := hpm _ (List.getElem_mem hil); omega) (by have := hpm _ (List.getElem_mem hil); omega) (by rw [List.length_append, List.length_take]; omega) (fun x hx => (List.mem_append.1 hx).elim (fun hx => by have := hpi x hx; omega) (fun hx => by have := hpm x (List.mem_of_mem_take hx); omega))).of_eq (show _ = cpAV (ctrE ((s.init ++ s.main.take i).map Ctr.name) ((s.init ++ s.main.take i).flatMap Ctr.ports) (s.main[i]'hil) 3 1000) from rfl))) ?_
  refine mv rfl rfl rfl rfl ?_
  refine ex 0 ?_
  refine ex 1 ?_
  refine as_ rfl rfl rfl rfl ?_
  refine as_ rfl rfl rfl rfl ?_
  refine AL_nil ?_
  refine AC_seq ?_
  refine AC_seq (AC_region ?_)
  refine mv rfl rfl rfl rfl ?_
  refine p_ (S_neq rfl (.tmp rfl) (AEv.const _)) ?_
  refine AL_nil ?_
  refine AC_cond (.tmp rfl) (fun hb24 => ?_) (fun hb24 => ?_)
  ·try simp only [zA,zO,zN,zM,zP,zQ,zD,zF,gd] at hb24
   have hne : (ctrE ((s.init ++ s.main.take i).map Ctr.name) ((s.init ++ s.main.take i).flatMap Ctr.ports) (s.main[i]'hil) 3 1000) ≠ none := fun h => hb24 (congrArg erCode h)
   have hx : (checkE s) = erIn (ctrE ((s.init ++ s.main.take i).map Ctr.name) ((s.init ++ s.main.take i).flatMap Ctr.ports) (s.main[i]'hil) 3 1000) (atT mainN (i : Int)) := by
    obtain ⟨y, hy⟩ := Option.ne_none_iff_exists'.1 hne
    obtain ⟨z, hz⟩ : ∃ z, erIn (ctrE ((s.init ++ s.main.take i).map Ctr.name) ((s.init ++ s.main.take i).flatMap Ctr.ports) (s.main[i]'hil) 3 1000) (atT mainN (i : Int)) = some z := by rw [hy]; exact ⟨_, rfl⟩
    rw [hz]
    exact (check_good hc1 hc2).trans (firstE_hd (eachE_at hil (by rw [ctrAt_at hil, seen_names, seen_ports, hz]) (fun j hj => by rw [hall j hj]; rfl)))
   refine AC_seq (AC_region ?_)
   refine mv rfl rfl rfl rfl ?_
   refine mv rfl rfl rfl rfl ?_
   refine p_ (S_pcall rfl (AEvs.cons (AEv.S _) (AEvs.cons (.tmp rfl) AEvs.nil)) (ref06_at_ok mainN (by decide) (i : Int) hif)) ?_
   refine p_ (S_cat rfl (.tmp rfl) (AEv.S _) (by first | omega | (simp only [List.length_append, List.length_cons, List.length_nil]; omega))) ?_
   refine mv rfl rfl rfl rfl ?_
   refine p_ (S_cat rfl (.tmp rfl) (.tmp rfl) (by first | omega | (simp only [List.length_append, List.length_cons, List.length_nil]; omega))) ?_
   refine as_ rfl rfl rfl rfl ?_
   refine as_ rfl rfl rfl rfl ?_
   refine AL_nil (AC_ret ?_)
   refine ret_tmps (ts := [2, 3]) st rfl (by decide) rfl (Sub.l (List.Sublist.cons _ (List.sublist_append_right _ _))) (Conv.refl (Sub.l (List.Sublist.cons _ (List.sublist_append_right _ _))) _) ⟨cp_in (well_ctr _ _ _ _ _) hne hx rfl, rfl⟩ (.inl rfl)
  try simp only [zA,zO,zN,zM,zP,zQ,zD,zF,gd] at hb24
  have hnn : (ctrE ((s.init ++ s.main.take i).map Ctr.name) ((s.init ++ s.main.take i).flatMap Ctr.ports) (s.main[i]'hil) 3 1000) = none := (well_ctr _ _ _ _ _).code.1 hb24
  refine AC_skip ?_
  refine AC_region ?_
  refine mv rfl rfl rfl rfl ?_
  refine fl 3 ?_
  refine ld 0 ?_
  refine mv rfl rfl rfl rfl ?_
  refine p_ (S_elemN (e := 79) 11 rfl (.tmp rfl) (.tmp rfl) (by kernel_rfl) (by kernel_rfl) (by omega) (fun _ => rfl)) ?_
  refine p_ (S_loadPN (m := 11) rfl (.tmp rfl) (by kernel_rfl) (by first | exact Nat.le_of_ble_eq_true rfl | (simp; omega) | simp)) ?_
  refine p_ (S_buildSlice (e := 79) 11 rfl (AEvs.cons (.tmp rfl) AEvs.nil) rfl (by kernel_rfl) (by kernel_rfl) (by intro y hy; simp only [List.mem_cons, List.not_mem_nil, or_false] at hy; rcases hy with rfl <;> exact ⟨rfl, rfl⟩) (by decide) (by decide) (by decide)) ?_
  refine s_ (S_appendM (f := ctrAV) (l := s.init ++ s.main.take i) (l2 := [(s.main[i]'hil)]) (e := 79) (size := 11) (bytes := 120) (p := p) ([_]) (st) rfl (.tmp rfl) (.tmp rfl) rfl hq (by kernel_rfl) (by simp) (fun _ => ⟨rfl, rfl⟩) (by simp only [List.length_append, List.length_take, List.length_singleton]; omega) (by simp only [List.length_append, List.length_take, List.length_singleton]; omega)) ?_
  rintro _ _ ⟨b8, k8, cap8, hx8, rfl, rfl⟩
  refine as_ rfl rfl rfl rfl ?_
  refine AL_nil ?_
  refine AC_region ?_
  refine mv rfl rfl rfl rfl ?_
  refine p_ (S_addI rfl (.tmp rfl) (AEv.const _) (by omega) (by omega)) ?_
  refine as_ rfl rfl rfl rfl ?_
  refine AL_nil ?_
  have e9 : s.init ++ s.main.take i ++ [(s.main[i]'hil)] = s.init ++ s.main.take (i + 1) := by rw [List.append_assoc, take_snoc]
  rw [e9] at hx8 ⊢
  refine ⟨(i + 1, .row b8 k8 cap8), ⟨by dsimp only; omega, hx8, fun j h => ?_⟩, by dsimp only; omega, (Sub.l (List.Sublist.refl _)), (.cons rfl (by first | exact Le.refl _ | exact Le.nils | exact Le.row _ _ _ _ | exact Le.of_eq (by first | rfl | (simp; done) | (push_cast; rfl) | (simp; omega))) (.cons rfl (by first | exact Le.refl _ | exact Le.nils | exact Le.row _ _ _ _ | exact Le.of_eq (by first | rfl | (simp; done) | (push_cast; rfl) | (simp; omega))) .nil)), (.cons rfl (Le.refl _) .nil)⟩
  rcases Nat.lt_or_ge j i with h' | h'
  ·exact hall j h'
  ·have : j = i := by dsimp only at h; omega
   subst this
   rw [ctrAt_at hil, seen_names, seen_ports]; exact hnn
 try simp only [zA,zO,zN,zM,zP,zQ,zD,zF,gd] at hb23
 have hcm : ctrsE mainN (namesTo [] s.init s.init.length) (portsTo [] s.init s.init.length) s.main 3 1000 = none := eachE_all fun j hj => by rw [hall j (by omega)]; rfl
 have hc3 := (check_good hc1 hc2).trans (firstE_tl hcm)
 refine AC_exit ?_
 refine AC_seq ?_
 refine AC_seq (AC_region ?_)
 refine fl 4 ?_
 refine ld 0 ?_
 refine p_ (S_lss rfl (.tmp rfl) (AEv.const _)) ?_
 refine mv rfl rfl rfl rfl ?_
 refine g_ (fun _ => fA 4) ?_
 refine g_ (fun _ => lA 0) ?_
 refine g_ (fun _ => S_gtr rfl (AEv.cd (.tmp rfl)) (AEv.const _)) ?_
 refine p_ (S_or rfl (.tmp rfl) (fun hp36 => (AEv.cd (.tmp rfl)))) ?_
 refine AL_nil ?_
 refine AC_cond (.tmp rfl) (fun hb37 => ?_) (fun hb37 => ?_)
 ·try simp only [zA,zO,zN,zM,zP,zQ,zD,zF,gd] at hb37
  have hx : (checkE s) = some (1, [[114, 101, 115, 116, 97, 114, 116]]) := hc3.trans (firstE_hd (by unfold withinE; rw [if_pos (by omega)]))
  refine AC_seq (AC_region ?_)
  refine ac rfl rfl rfl ?_
  refine p_ (S_assign rfl (AEv.S _)) ?_
  refine AL_nil (AC_ret ?_)
  refine ret_tmps (ts := [2, 3]) st rfl (by decide) rfl (Sub.l (List.Sublist.cons _ (List.sublist_append_right _ _))) (Conv.refl (Sub.l (List.Sublist.cons _ (List.sublist_append_right _ _))) _) ⟨cp_some hx rfl, rfl⟩ (.inl rfl)
 try simp only [zA,zO,zN,zM,zP,zQ,zD,zF,gd] at hb37
 have hc4 := hc3.trans (firstE_tl (by unfold withinE; rw [if_neg (by omega)]))
 refine AC_skip ?_
 refine AC_seq ?_
 refine AC_seq (AC_region ?_)
 refine fl 5 ?_
 refine ld 0 ?_
 refine p_ (S_lss rfl (.tmp rfl) (AEv.const _)) ?_
 refine mv rfl rfl rfl rfl ?_
 refine g_ (fun _ => fA 5) ?_
 refine g_ (fun _ => lA 0) ?_
 refine g_ (fun _ => S_gtr rfl (AEv.cd (.tmp rfl)) (AEv.const _)) ?_
 refine p_ (S_or rfl (.tmp rfl) (fun hp47 => (AEv.cd (.tmp rfl)))) ?_
 refine AL_nil ?_
 refine AC_cond (.tmp rfl) (fun hb48 => ?_) (fun hb48 => ?_)
 ·try simp only [zA,zO,zN,zM,zP,zQ,zD,zF,gd] at hb48
  have hx : (checkE s) = some (1, [[103, 114, 97, 99, 101]]) := hc4.trans (firstE_hd (by unfold withinE; rw [if_pos (by omega)]))
  refine AC_seq (AC_region ?_)
  refine ac rfl rfl rfl ?_
  refine p_ (S_assign rfl (AEv.S _)) ?_
  refine AL_nil (AC_ret ?_)
  refine ret_tmps (ts := [2, 3]) st rfl (by decide) rfl (Sub.l (List.Sublist.cons _ (List.sublist_append_right _ _))) (Conv.refl (Sub.l (List.Sublist.cons _ (List.sublist_append_right _ _))) _) ⟨cp_some hx rfl, rfl⟩ (.inl rfl)
 try simp only [zA,zO,zN,zM,zP,zQ,zD,zF,gd] at hb48
 have hc5 := hc4.trans (firstE_tl (by unfold withinE; rw [if_neg (by omega)]))
 refine AC_skip ?_
 refine AC_seq ?_
 refine AC_seq (AC_region ?_)
 refine fl 6 ?_
 refine ld 0 ?_
 refine p_ (S_lss rfl (.tmp rfl) (AEv.const _)) ?_
 refine mv rfl rfl rfl rfl ?_
 refine g_ (fun _ => fA 6) ?_
 refine g_ (fun _ => lA 0) ?_
 refine g_ (fun _ => S_gtr rfl (AEv.cd (.tmp rfl)) (AEv.const _)) ?_
 refine p_ (S_or rfl (.tmp rfl) (fun hp58 => (AEv.cd (.tmp rfl)))) ?_
 refine AL_nil ?_
 refine AC_cond (.tmp rfl) (fun hb59 => ?_) (fun hb59 => ?_)
 ·try simp only [zA,zO,zN,zM,zP,zQ,zD,zF,gd] at hb59
  have hx : (checkE s) = some (1, [[112, 114, 105, 111]]) := hc5.trans (firstE_hd (by unfold withinE; rw [if_pos (by omega)]))
  refine AC_seq (AC_region ?_)
  refine ac rfl rfl rfl ?_
  refine p_ (S_assign rfl (AEv.S _)) ?_
  refine AL_nil (AC_ret ?_)
  refine ret_tmps (ts := [2, 3]) st rfl (by decide) rfl (Sub.l (List.Sublist.cons _ (List.sublist_append_right _ _))) (Conv.refl (Sub.l (List.Sublist.cons _ (List.sublist_append_right _ _))) _) ⟨cp_some hx rfl, rfl⟩ (.inl rfl)
 try simp only [zA,zO,zN,zM,zP,zQ,zD,zF,gd] at hb59
 have hx : (checkE s) = none := hc5.trans ((firstE_tl (by unfold withinE; rw [if_neg (by omega)])).trans rfl)
 refine AC_skip ?_
 refine AC_seq (AC_region ?_)
 refine ac rfl rfl rfl ?_
 refine p_ (S_assign rfl (AEv.S _)) ?_
 refine AL_nil (AC_ret ?_)
 refine ret_tmps (ts := [2, 3]) st rfl (by decide) rfl (Sub.l (List.Sublist.cons _ (List.sublist_append_right _ _))) (Conv.refl (Sub.l (List.Sublist.cons _ (List.sublist_append_right _ _))) _) ⟨cp_none hx, rfl⟩ (.inl rfl)
end Go.Proofs.YtfmiciodcimkeaaGreatDoor

set_option maxRecDepth 100000
namespace Go.Proofs.YtfmiciodcimkeaaGreatDoor
open Go.AL Go.NumSpec
theorem ref07_number_ok (n : Int) (h0 : 0 ≤ n) (hn : n ≤ 9223372036854775807) : PCalls Tryz.prog 50 [.int .i64 n] (.S (numB n)) := by
 intro st
 refine co 6 Tryz.func50 ?_
 refine AC_seq (AC_region ?_)
 refine p_ (S_assign rfl (AEv.S _)) ?_
 refine AL_nil (AC_seq (AC_region ?_))
 refine mv rfl rfl rfl rfl ?_
 refine p_ ((S_conv (k' := .u64) rfl (.tmp rfl) (by kernel_rfl) (by kernel_rfl)).ofV (V' := .int .u64 (((n).toNat : Nat) : Int)) (congrArg (AV.int .u64) (by rw [u64w]; omega))) ?_
 refine p_ (S_pcall rfl (AEvs.cons (.tmp rfl) AEvs.nil) (ref_Put_ok n.toNat (by omega))) ?_
 refine as_ rfl rfl rfl rfl ?_
 refine AL_nil (AC_ret ?_)
 refine ret_tmp st rfl rfl (Sub.l (List.Sublist.refl _)) (Conv.refl (Sub.l (List.Sublist.refl _)) _) ⟨rfl, rfl⟩ (.inl rfl)
theorem ref04_Bytes_ok (s : List UInt8) (hs : s.length ≤ 1000000000) : PCalls Tryz.prog 48 [.S s] (.S (textB s)) := by
 intro st
 refine co 9 Tryz.func48 ?_
 have hp := putL_few s.length (by omega)
 refine AC_seq (AC_region ?_)
 refine p_ (S_assign rfl (AEv.S _)) ?_
 refine AL_nil (AC_seq (AC_region ?_))
 refine mv rfl rfl rfl rfl ?_
 refine p_ (S_lenS (ts := #[]) rfl (.tmp rfl) (by kernel_rfl)) ?_
 refine p_ ((S_conv (k' := .u64) rfl (.tmp rfl) (by kernel_rfl) (by kernel_rfl)).ofV (V' := .int .u64 ((((s.length : Int)).toNat : Nat) : Int)) (congrArg (AV.int .u64) (by rw [u64w]; omega))) ?_
 refine p_ (S_pcall rfl (AEvs.cons (.tmp rfl) AEvs.nil) (ref_Put_ok s.length (by omega))) ?_
 refine mv rfl rfl rfl rfl ?_
 refine p_ (S_cat rfl (.tmp rfl) (.tmp rfl) (by omega)) ?_
 refine as_ rfl rfl rfl rfl ?_
 refine AL_nil (AC_ret ?_)
 refine ret_tmp st rfl rfl (Sub.l (List.Sublist.refl _)) (Conv.refl (Sub.l (List.Sublist.refl _)) _) ⟨rfl, rfl⟩ (.inl rfl)
theorem ref07_Labels_ok (l : List Lab) (hl : l.length ≤ 1000) (hls : ∀ x ∈ l, x.1.length ≤ 400 ∧ x.2.length ≤ 400) : PCalls Tryz.prog 28 [.sl (labsV l)] (.S (listB labB l)) := by
 intro st
 refine co 30 Tryz.func28 ?_
 have hp := putL_few l.length (by omega)
 have hen : ∀ x ∈ l, (labB x).length ≤ 1000 := fun x hx => labB_len (hls x hx).1 (hls x hx).2
 refine AC_seq (AC_region ?_)
 refine p_ (S_assign rfl (AEv.S _)) ?_
 refine AL_nil (AC_seq (AC_region ?_))
 refine mv rfl rfl rfl rfl ?_
 refine p_ (by first | exact S_lenM (e := 71) rfl (.tmp rfl) (by kernel_rfl) | exact S_len (e := 71) rfl (.tmp rfl) (by kernel_rfl)) ?_
 refine p_ (S_pcall rfl (AEvs.cons (.tmp rfl) AEvs.nil) (ref07_number_ok (l.length : Int) (by omega) (by omega))) ?_
 refine as_ rfl rfl rfl rfl ?_
 refine AL_nil ?_
 refine AC_seq ?_
 refine AC_seq (AC_region ?_)
 refine ac rfl rfl rfl ?_
 refine AL_nil ?_
 refine AC_block ?_
 refine AC_loopK (G := Nat) [(0, _), (2, _)] (fun g => g ≤ l.length) (fun g => [(3, .S (putL l.length ++ (l.take g).flatMap labB)), (4, .int .i64 (g : Int))]) (fun g => st) (fun g => l.length - g) (0) (Nat.zero_le _) (Sub.l (List.Sublist.refl _)) (.cons rfl (Le.refl _) (.cons rfl (Le.refl _) .nil)) (.cons rfl (Le.of_eq (congrArg AV.S (by simp [numB]))) (.cons rfl (by first | exact Le.refl _ | exact Le.nils | exact Le.row _ _ _ _ | exact Le.of_eq (by first | rfl | (simp; done) | (push_cast; rfl) | (simp; omega))) .nil)) ?_
 rintro i hi
 try dsimp only
 simp only [List.cons_append, List.nil_append]
 have hfm := flatB_len (e := labB) (B := 1000) (l := l.take i) fun x hx => hen x (List.mem_of_mem_take hx)
 rw [List.length_take, show min i l.length = i by omega] at hfm
 refine AC_seq ?_
 refine AC_seq (AC_region ?_)
 refine mv rfl rfl rfl rfl ?_
 refine mv rfl rfl rfl rfl ?_
 refine p_ (by first | exact S_lenM (e := 71) rfl (.tmp rfl) (by kernel_rfl) | exact S_len (e := 71) rfl (.tmp rfl) (by kernel_rfl)) ?_
 refine p_ (S_lss rfl (.tmp rfl) (.tmp rfl)) ?_
 refine AL_nil ?_
 refine AC_cond (.tmp rfl) (fun hb1 => ?_) (fun hb1 => ?_)
 ·try simp only [zA,zO,zN,zM,zP,zQ,zD,zF,gd] at hb1
  have hil : i < l.length := by omega
  have hx := hls _ (List.getElem_mem hil)
  have n1 := textB_len (s := (l[i]'hil).1) (by omega)
  have n2 := textB_len (s := (l[i]'hil).2) (by omega)
  refine AC_skip ?_
  refine AC_seq ?_
  refine AC_block ?_
  refine AC_draw (by kernel_rfl) (by kernel_rfl) (.cons rfl (Q_p rfl (S_move rfl (.tmp rfl))) <|
    .cons rfl (Q_p rfl (S_move rfl (.tmp rfl))) <|
    .cons rfl (Q_p rfl (S_move rfl (.tmp rfl))) <|
    .cons rfl (Q_p rfl (S_elemN (e := 71) 2 rfl (.tmp rfl) (.tmp rfl) (by kernel_rfl) (by kernel_rfl) (by omega) (fun _ => rfl))) <|
    .cons rfl (Q_p rfl (S_fieldP 0 rfl (.tmp rfl) (by kernel_rfl))) <|
    .cons rfl (Q_p rfl (S_loadP rfl (.tmp rfl) rfl (by kernel_rfl))) <|
    .cons rfl (Q_p rfl (S_pcall rfl (AEvs.cons (.tmp rfl) AEvs.nil) (ref04_Bytes_ok (l[i]'hil).1 (by omega)))) <|
    .cons rfl (Q_p rfl (S_cat rfl (.tmp rfl) (.tmp rfl) (by simp only [List.length_append]; omega))) <|
    .cons rfl (Q_p rfl (S_move rfl (.tmp rfl))) <|
    .cons rfl (Q_p rfl (S_move rfl (.tmp rfl))) <|
    .cons rfl (Q_p rfl (S_elemN (e := 71) 2 rfl (.tmp rfl) (.tmp rfl) (by kernel_rfl) (by kernel_rfl) (by omega) (fun _ => rfl))) <|
    .cons rfl (Q_p rfl (S_fieldP 1 rfl (.tmp rfl) (by kernel_rfl))) <|
    .cons rfl (Q_p rfl (S_loadP rfl (.tmp rfl) rfl (by kernel_rfl))) <|
    .cons rfl (Q_p rfl (S_pcall rfl (AEvs.cons (.tmp rfl) AEvs.nil) (ref04_Bytes_ok (l[i]'hil).2 (by omega)))) <|
    .cons rfl (Q_p rfl (S_cat rfl (.tmp rfl) (.tmp rfl) (by simp only [List.length_append]; omega))) <|
    .cons rfl (Q_p rfl (S_assign rfl (.tmp rfl))) <|
    .nil) ?_
  refine AC_region ?_
  refine mv rfl rfl rfl rfl ?_
  refine p_ (S_addI rfl (.tmp rfl) (AEv.const _) (by omega) (by omega)) ?_
  refine as_ rfl rfl rfl rfl ?_
  refine AL_nil ?_
  exact ⟨i + 1, by omega, by omega, (Sub.l (List.Sublist.refl _)), (.cons rfl (Le.of_eq (congrArg AV.S (by rw [listB_next hil]; simp [labB]))) (.cons rfl (by first | exact Le.refl _ | exact Le.nils | exact Le.row _ _ _ _ | exact Le.of_eq (by first | rfl | (simp; done) | (push_cast; rfl) | (simp; omega))) .nil)), (.cons rfl (Le.refl _) (.cons rfl (Le.refl _) .nil))⟩
 try simp only [zA,zO,zN,zM,zP,zQ,zD,zF,gd] at hb1
 have hx : l.take i = l := List.take_of_length_le (by omega)
 refine AC_exit ?_
 refine AC_seq (AC_region ?_)
 refine mv rfl rfl rfl rfl ?_
 refine as_ rfl rfl rfl rfl ?_
 refine AL_nil (AC_ret ?_)
 refine ret_tmp st rfl rfl (Sub.l (List.Sublist.refl _)) (Conv.refl (Sub.l (List.Sublist.refl _)) _) ⟨congrArg AV.S (by rw [hx]; rfl), rfl⟩ (.inl rfl)
theorem ref07_res_ok (r : Tri) (hr : TriOk r) : PCalls Tryz.prog 89 [resAV r] (.S (triB r)) := by
 intro st
 refine co 14 Tryz.func89 ?_
 have hr1 := hr.1
 have hr2 := hr.2.1
 have hr3 := hr.2.2
 unfold MR at hr1 hr2 hr3
 have n1 := numB_len (n := r.1) (by omega)
 have n2 := numB_len (n := r.2.1) (by omega)
 have n3 := numB_len (n := r.2.2) (by omega)
 refine AC_seq (AC_region ?_)
 refine s_ (S_box rfl (.tmp rfl)) ?_
 rintro _ _ ⟨b1, rfl, rfl⟩
 refine p_ (S_assign rfl (AEv.S _)) ?_
 refine AL_nil ?_
 refine AC_seq ?_
 refine AC_draw (by kernel_rfl) (by kernel_rfl) (.cons rfl (Q_p rfl (S_field 0 rfl (.tmp rfl) (by kernel_rfl))) <|
   .cons rfl (Q_p rfl (S_load 0 rfl (.tmp rfl) rfl rfl (by kernel_rfl))) <|
   .cons rfl (Q_p rfl (S_pcall rfl (AEvs.cons (.tmp rfl) AEvs.nil) (ref07_number_ok r.1 (by omega) (by omega)))) <|
   .cons rfl (Q_p rfl (S_field 1 rfl (.tmp rfl) (by kernel_rfl))) <|
   .cons rfl (Q_p rfl (S_load 0 rfl (.tmp rfl) rfl rfl (by kernel_rfl))) <|
   .cons rfl (Q_p rfl (S_pcall rfl (AEvs.cons (.tmp rfl) AEvs.nil) (ref07_number_ok r.2.1 (by omega) (by omega)))) <|
   .cons rfl (Q_p rfl (S_cat rfl (.tmp rfl) (.tmp rfl) (by first | omega | (simp only [List.length_append]; omega)))) <|
   .cons rfl (Q_p rfl (S_field 2 rfl (.tmp rfl) (by kernel_rfl))) <|
   .cons rfl (Q_p rfl (S_load 0 rfl (.tmp rfl) rfl rfl (by kernel_rfl))) <|
   .cons rfl (Q_p rfl (S_pcall rfl (AEvs.cons (.tmp rfl) AEvs.nil) (ref07_number_ok r.2.2 (by omega) (by omega)))) <|
   .cons rfl (Q_p rfl (S_cat rfl (.tmp rfl) (.tmp rfl) (by first | omega | (simp only [List.length_append]; omega)))) <|
   .cons rfl (Q_p rfl (S_assign rfl (.tmp rfl))) <|
   .nil) ?_
 refine AC_ret ?_
 refine ret_tmp st rfl rfl (Sub.l (List.sublist_cons_self _ _)) (Conv.refl (Sub.l (List.sublist_cons_self _ _)) _) ⟨congrArg AV.S (triB_assoc r), rfl⟩ (.inl rfl)
set_option maxHeartbeats 2000000 in
theorem ref07_containers_ok (l : List Ctr) (hl : l.length ≤ 1000) (hls : ∀ x ∈ l, CtrOk x) : PCalls Tryz.prog 49 [.sl (ctrsV l)] (.S (listB ctrB l)) := by
 intro st
 refine co 69 Tryz.func49 ?_
 have hp := putL_few l.length (by omega)
 refine AC_seq (AC_region ?_)
 refine p_ (S_assign rfl (AEv.S _)) ?_
 refine AL_nil (AC_seq (AC_region ?_))
 refine mv rfl rfl rfl rfl ?_
 refine p_ (by first | exact S_lenM (e := 79) rfl (.tmp rfl) (by kernel_rfl) | exact S_len (e := 79) rfl (.tmp rfl) (by kernel_rfl)) ?_
 refine p_ (S_pcall rfl (AEvs.cons (.tmp rfl) AEvs.nil) (ref07_number_ok (l.length : Int) (by omega) (by omega))) ?_
 refine as_ rfl rfl rfl rfl ?_
 refine AL_nil ?_
 refine AC_seq ?_
 refine AC_seq (AC_region ?_)
 refine ac rfl rfl rfl ?_
 refine AL_nil ?_
 refine AC_block ?_
 refine AC_loopK (G := Nat) [(0, _), (2, _)] (fun g => g ≤ l.length) (fun g => [(3, .S (putL l.length ++ (l.take g).flatMap ctrB)), (4, .int .i64 (g : Int))]) (fun g => st) (fun g => l.length - g) (0) (Nat.zero_le _) (Sub.l (List.Sublist.refl _)) (.cons rfl (Le.refl _) (.cons rfl (Le.refl _) .nil)) (.cons rfl (Le.of_eq (congrArg AV.S (by simp [numB]))) (.cons rfl (by first | exact Le.refl _ | exact Le.nils | exact Le.row _ _ _ _ | exact Le.of_eq (by first | rfl | (simp; done) | (push_cast; rfl) | (simp; omega))) .nil)) ?_
 rintro i hi
 try dsimp only
 simp only [List.cons_append, List.nil_append]
 have hfm := flatB_len (e := ctrB) (B := 1000) (l := l.take i) fun x hx => ctrB_len (hls x (List.mem_of_mem_take hx))
 rw [List.length_take, show min i l.length = i by omega] at hfm
 refine AC_seq ?_
 refine AC_seq (AC_region ?_)
 refine mv rfl rfl rfl rfl ?_
 refine mv rfl rfl rfl rfl ?_
 refine p_ (by first | exact S_lenM (e := 79) rfl (.tmp rfl) (by kernel_rfl) | exact S_len (e := 79) rfl (.tmp rfl) (by kernel_rfl)) ?_
 refine p_ (S_lss rfl (.tmp rfl) (.tmp rfl)) ?_
 refine AL_nil ?_
 refine AC_cond (.tmp rfl) (fun hb1 => ?_) (fun hb1 => ?_)
 ·try simp only [zA,zO,zN,zM,zP,zQ,zD,zF,gd] at hb1
  have hil : i < l.length := by first | omega | (have h9 := hb1; simp [ctrsV] at h9; omega)
  obtain ⟨hd1, hd2, hd3, hd4, hd5, hd6, hd7⟩ := hls _ (List.getElem_mem hil)
  have n1 := textB_len (s := (l[i]'hil).name) (by omega)
  have n2 := textB_len (s := (l[i]'hil).image) (by omega)
  have n3 := triB_len hd3
  have n4 := triB_len hd4
  have hp1 := hd5.1
  have n5 := numB_len (n := ((l[i]'hil).ports.length : Int)) (by omega)
  have n6 := numB_len (n := (l[i]'hil).probe.1) (by omega)
  have n7 := numB_len (n := (l[i]'hil).probe.2) (by omega)
  refine AC_skip ?_
  refine AC_seq ?_
  refine AC_block ?_
  refine AC_seq (AC_region ?_)
  refine mv rfl rfl rfl rfl ?_
  refine mv rfl rfl rfl rfl ?_
  refine p_ (S_elemN (e := 79) 11 rfl (.tmp rfl) (.tmp rfl) (by kernel_rfl) (by kernel_rfl) (by omega) (fun _ => rfl)) ?_
  refine p_ (S_loadPN (m := 11) rfl (.tmp rfl) (by kernel_rfl) (by first | exact Nat.le_of_ble_eq_true rfl | (simp; omega) | simp)) ?_
  refine s_ (S_alloc [.string ⟨#[]⟩, .string ⟨#[]⟩, .int .i64 0, .int .i64 0, .int .i64 0, .int .i64 0, .int .i64 0, .int .i64 0, .slice none 0 0, .int .i64 0, .int .i64 0] rfl (by kernel_rfl)) ?_
  rintro _ _ ⟨b5, rfl, rfl⟩
  refine stW 0 ?_
  refine AL_nil ?_
  refine AC_seq ?_
  refine AC_draw (by kernel_rfl) (by kernel_rfl) (.cons rfl (Q_p rfl (S_move rfl (.tmp rfl))) <|
    .cons rfl (Q_p rfl (S_field 0 rfl (.tmp rfl) (by kernel_rfl))) <|
    .cons rfl (Q_p rfl (S_load 0 rfl (.tmp rfl) rfl rfl (by kernel_rfl))) <|
    .cons rfl (Q_p rfl (S_pcall rfl (AEvs.cons (.tmp rfl) AEvs.nil) (ref04_Bytes_ok (l[i]'hil).name (by omega)))) <|
    .cons rfl (Q_p rfl (S_cat rfl (.tmp rfl) (.tmp rfl) (by first | omega | (simp only [List.length_append]; omega)))) <|
    .cons rfl (Q_p rfl (S_field 1 rfl (.tmp rfl) (by kernel_rfl))) <|
    .cons rfl (Q_p rfl (S_load 0 rfl (.tmp rfl) rfl rfl (by kernel_rfl))) <|
    .cons rfl (Q_p rfl (S_pcall rfl (AEvs.cons (.tmp rfl) AEvs.nil) (ref04_Bytes_ok (l[i]'hil).image (by omega)))) <|
    .cons rfl (Q_p rfl (S_cat rfl (.tmp rfl) (.tmp rfl) (by first | omega | (simp only [List.length_append]; omega)))) <|
    .cons rfl (Q_p rfl (S_field 2 rfl (.tmp rfl) (by kernel_rfl))) <|
    .cons rfl (Q_p rfl (S_loadN (m := 3) 0 rfl (.tmp rfl) rfl (by kernel_rfl) (by first | exact Nat.le_of_ble_eq_true rfl | (simp; omega) | simp))) <|
    .cons rfl (Q_p rfl (S_pcall rfl (AEvs.cons (.tmp rfl) AEvs.nil) (ref07_res_ok (l[i]'hil).req hd3))) <|
    .cons rfl (Q_p rfl (S_cat rfl (.tmp rfl) (.tmp rfl) (by first | omega | (simp only [List.length_append]; omega)))) <|
    .cons rfl (Q_p rfl (S_field 5 rfl (.tmp rfl) (by kernel_rfl))) <|
    .cons rfl (Q_p rfl (S_loadN (m := 3) 0 rfl (.tmp rfl) rfl (by kernel_rfl) (by first | exact Nat.le_of_ble_eq_true rfl | (simp; omega) | simp))) <|
    .cons rfl (Q_p rfl (S_pcall rfl (AEvs.cons (.tmp rfl) AEvs.nil) (ref07_res_ok (l[i]'hil).lim hd4))) <|
    .cons rfl (Q_p rfl (S_cat rfl (.tmp rfl) (.tmp rfl) (by first | omega | (simp only [List.length_append]; omega)))) <|
    .cons rfl (Q_p rfl (S_field 8 rfl (.tmp rfl) (by kernel_rfl))) <|
    .cons rfl (Q_p rfl (S_load 0 rfl (.tmp rfl) rfl rfl (by kernel_rfl))) <|
    .cons rfl (Q_p rfl (by first | exact S_lenM (e := 3) rfl (.tmp rfl) (by kernel_rfl) | exact S_len (e := 3) rfl (.tmp rfl) (by kernel_rfl))) <|
    .cons rfl (Q_p rfl (S_pcall rfl (AEvs.cons (.tmp rfl) AEvs.nil) (ref07_number_ok ((l[i]'hil).ports.length : Int) (by omega) (by omega)))) <|
    .cons rfl (Q_p rfl (S_cat rfl (.tmp rfl) (.tmp rfl) (by first | omega | (simp only [List.length_append]; omega)))) <|
    .cons rfl (Q_p rfl (S_assign rfl (.tmp rfl))) <|
    .nil) ?_
  refine AC_seq ?_
  refine AC_seq (AC_region ?_)
  refine ac rfl rfl rfl ?_
  refine AL_nil ?_
  refine AC_block ?_
  refine AC_loopK (G := Nat) [(0, _), (2, _), (4, _), (5, _)] (fun g => g ≤ (l[i]'hil).ports.length) (fun g => [(3, .S (((((((putL l.length ++ (l.take i).flatMap ctrB) ++ textB (l[i]'hil).name) ++ textB (l[i]'hil).image) ++ triB (l[i]'hil).req) ++ triB (l[i]'hil).lim) ++ numB ((l[i]'hil).ports.length : Int)) ++ ((l[i]'hil).ports.take g).flatMap numB)), (6, .int .i64 (g : Int))]) (fun g => (b5, .cells (ctrL (l[i]'hil))) :: st) (fun g => (l[i]'hil).ports.length - g) (0) (Nat.zero_le _) (Sub.l (List.Sublist.refl _)) (.cons rfl (Le.refl _) (.cons rfl (Le.refl _) (.cons rfl (Le.refl _) (.cons rfl (Le.refl _) .nil)))) (.cons rfl (Le.of_eq (congrArg AV.S (by simp))) (.cons rfl (by first | exact Le.refl _ | exact Le.nils | exact Le.row _ _ _ _ | exact Le.of_eq (by first | rfl | (simp; done) | (push_cast; rfl) | (simp; omega))) .nil)) ?_
  rintro j hj
  try dsimp only
  simp only [List.cons_append, List.nil_append]
  have hfp := flatB_len (e := numB) (B := 10) (l := (l[i]'hil).ports.take j) fun n hn => numB_len (by have := (hd5.2 n (List.mem_of_mem_take hn)).2; omega)
  rw [List.length_take, show min j (l[i]'hil).ports.length = j by omega] at hfp
  refine AC_seq ?_
  refine AC_seq (AC_region ?_)
  refine mv rfl rfl rfl rfl ?_
  refine fl 8 ?_
  refine ld 0 ?_
  refine p_ (by first | exact S_lenM (e := 3) rfl (.tmp rfl) (by kernel_rfl) | exact S_len (e := 3) rfl (.tmp rfl) (by kernel_rfl)) ?_
  refine p_ (S_lss rfl (.tmp rfl) (.tmp rfl)) ?_
  refine AL_nil ?_
  refine AC_cond (.tmp rfl) (fun hb3 => ?_) (fun hb3 => ?_)
  ·try simp only [zA,zO,zN,zM,zP,zQ,zD,zF,gd] at hb3
   have hjl : j < (l[i]'hil).ports.length := by first | omega | (have h9 := hb3; simp [intsV] at h9; omega)
   have hpj := hd5.2 _ (List.getElem_mem hjl)
   have n8 := numB_len (n := ((l[i]'hil).ports[j]'hjl)) (by omega)
   refine AC_skip ?_
   refine AC_seq ?_
   refine AC_block ?_
   refine AC_region ?_
   refine mv rfl rfl rfl rfl ?_
   refine fl 8 ?_
   refine ld 0 ?_
   refine mv rfl rfl rfl rfl ?_
   refine p_ (S_elemN (e := 3) 1 rfl (.tmp rfl) (.tmp rfl) (by kernel_rfl) (by kernel_rfl) (by omega) (fun _ => rfl)) ?_
   refine p_ (S_loadP rfl (.tmp rfl) rfl (by kernel_rfl)) ?_
   refine p_ (S_pcall rfl (AEvs.cons (.tmp rfl) AEvs.nil) (ref07_number_ok ((l[i]'hil).ports[j]'hjl) (by omega) (by omega))) ?_
   refine p_ (S_cat rfl (.tmp rfl) (.tmp rfl) (by first | omega | (simp only [List.length_append]; omega))) ?_
   refine as_ rfl rfl rfl rfl ?_
   refine AL_nil ?_
   refine AC_region ?_
   refine mv rfl rfl rfl rfl ?_
   refine p_ (S_addI rfl (.tmp rfl) (AEv.const _) (by omega) (by omega)) ?_
   refine as_ rfl rfl rfl rfl ?_
   refine AL_nil ?_
   exact ⟨j + 1, by omega, by omega, (Sub.l (List.Sublist.refl _)), (.cons rfl (Le.of_eq (congrArg AV.S (by rw [flatB_next hjl]))) (.cons rfl (by first | exact Le.refl _ | exact Le.nils | exact Le.row _ _ _ _ | exact Le.of_eq (by first | rfl | (simp; done) | (push_cast; rfl) | (simp; omega))) .nil)), (.cons rfl (Le.refl _) (.cons rfl (Le.refl _) (.cons rfl (Le.refl _) (.cons rfl (Le.refl _) .nil))))⟩
  try simp only [zA,zO,zN,zM,zP,zQ,zD,zF,gd] at hb3
  have hx : (l[i]'hil).ports.take j = (l[i]'hil).ports := List.take_of_length_le (by first | omega | (have h9 := hb3; simp [intsV] at h9; omega))
  refine AC_exit ?_
  refine AC_draw (by kernel_rfl) (by kernel_rfl) (.cons rfl (Q_p rfl (S_move rfl (.tmp rfl))) <|
    .cons rfl (Q_p rfl (S_field 9 rfl (.tmp rfl) (by kernel_rfl))) <|
    .cons rfl (Q_p rfl (S_field 0 rfl (.tmp rfl) (by kernel_rfl))) <|
    .cons rfl (Q_p rfl (S_load 0 rfl (.tmp rfl) rfl rfl (by kernel_rfl))) <|
    .cons rfl (Q_p rfl (S_pcall rfl (AEvs.cons (.tmp rfl) AEvs.nil) (ref07_number_ok (l[i]'hil).probe.1 (by omega) (by omega)))) <|
    .cons rfl (Q_p rfl (S_cat rfl (.tmp rfl) (.tmp rfl) (by first | omega | (simp only [List.length_append]; omega)))) <|
    .cons rfl (Q_p rfl (S_field 9 rfl (.tmp rfl) (by kernel_rfl))) <|
    .cons rfl (Q_p rfl (S_field 1 rfl (.tmp rfl) (by kernel_rfl))) <|
    .cons rfl (Q_p rfl (S_load 0 rfl (.tmp rfl) rfl rfl (by kernel_rfl))) <|
    .cons rfl (Q_p rfl (S_pcall rfl (AEvs.cons (.tmp rfl) AEvs.nil) (ref07_number_ok (l[i]'hil).probe.2 (by omega) (by omega)))) <|
    .cons rfl (Q_p rfl (S_cat rfl (.tmp rfl) (.tmp rfl) (by first | omega | (simp only [List.length_append]; omega)))) <|
    .cons rfl (Q_p rfl (S_assign rfl (.tmp rfl))) <|
    .nil) ?_
  refine AC_region ?_
  refine mv rfl rfl rfl rfl ?_
  refine p_ (S_addI rfl (.tmp rfl) (AEv.const _) (by omega) (by omega)) ?_
  refine as_ rfl rfl rfl rfl ?_
  refine AL_nil ?_
  exact ⟨i + 1, by omega, by omega, (Sub.l (List.sublist_cons_self _ _)), (.cons rfl (Le.of_eq (congrArg AV.S (by rw [listB_next hil, hx]; simp [ctrB, portsB, listB, numB]))) (.cons rfl (by first | exact Le.refl _ | exact Le.nils | exact Le.row _ _ _ _ | exact Le.of_eq (by first | rfl | (simp; done) | (push_cast; rfl) | (simp; omega))) .nil)), (.cons rfl (Le.refl _) (.cons rfl (Le.refl _) .nil))⟩
 try simp only [zA,zO,zN,zM,zP,zQ,zD,zF,gd] at hb1
 have hx : l.take i = l := List.take_of_length_le (by first | omega | (have h9 := hb1; simp [ctrsV] at h9; omega))
 refine AC_exit ?_
 refine AC_seq (AC_region ?_)
 refine mv rfl rfl rfl rfl ?_
 refine as_ rfl rfl rfl rfl ?_
 refine AL_nil (AC_ret ?_)
 refine ret_tmp st rfl rfl (Sub.l (List.Sublist.refl _)) (Conv.refl (Sub.l (List.Sublist.refl _)) _) ⟨congrArg AV.S (by rw [hx]; rfl), rfl⟩ (.inl rfl)
set_option maxHeartbeats 1000000 in
theorem ref07_Bytes_ok (s : Spc) (hk : checkE s = none) : PCalls Tryz.prog 17 [spcAV s] (.S (spcB s)) := by
 intro st
 refine co 30 Tryz.func17 ?_
 obtain ⟨hk1, hk2, hk3, hk4, hk5, hk6, hk7⟩ := check_ok hk
 have hk21 := hk2.1
 have hk31 := hk3.1
 have hk41 := hk4.1
 have n1 := textB_len (s := s.name) (by omega)
 have n2 := listB_len (e := labB) (l := s.labels) (B := 1000) (by omega) fun x hx => labB_len (by have := (hk2.2 x hx).1; omega) (by have := (hk2.2 x hx).2; omega)
 have n3 := listB_len (e := ctrB) (l := s.init) (B := 1000) (by omega) fun y hy => ctrB_len (hk3.2 y hy)
 have n4 := listB_len (e := ctrB) (l := s.main) (B := 1000) (by omega) fun y hy => ctrB_len (hk4.2 y hy)
 have n5 := numB_len (n := s.restart) (by omega)
 have n6 := numB_len (n := s.grace) (by omega)
 have n7 := numB_len (n := s.prio) (by omega)
 refine AC_seq (AC_region ?_)
 refine s_ (S_box rfl (.tmp rfl)) ?_
 rintro _ _ ⟨b1, rfl, rfl⟩
 refine p_ (S_assign rfl (AEv.S _)) ?_
 refine AL_nil ?_
 refine AC_seq ?_
 refine AC_draw (by kernel_rfl) (by kernel_rfl) (.cons rfl (Q_p rfl (S_field 0 rfl (.tmp rfl) (by kernel_rfl))) <|
   .cons rfl (Q_p rfl (S_load 0 rfl (.tmp rfl) rfl rfl (by kernel_rfl))) <|
   .cons rfl (Q_p rfl (S_pcall rfl (AEvs.cons (.tmp rfl) AEvs.nil) (ref04_Bytes_ok s.name (by omega)))) <|
   .cons rfl (Q_p rfl (S_field 1 rfl (.tmp rfl) (by kernel_rfl))) <|
   .cons rfl (Q_p rfl (S_load 0 rfl (.tmp rfl) rfl rfl (by kernel_rfl))) <|
   .cons rfl (Q_p rfl (S_pcall rfl (AEvs.cons (.tmp rfl) AEvs.nil) (ref07_Labels_ok s.labels (by omega) (fun x hx => ⟨by have := (hk2.2 x hx).1; omega, by have := (hk2.2 x hx).2; omega⟩)))) <|
   .cons rfl (Q_p rfl (S_cat rfl (.tmp rfl) (.tmp rfl) (by first | omega | (simp only [List.length_append]; omega)))) <|
   .cons rfl (Q_p rfl (S_field 2 rfl (.tmp rfl) (by kernel_rfl))) <|
   .cons rfl (Q_p rfl (S_load 0 rfl (.tmp rfl) rfl rfl (by kernel_rfl))) <|
   .cons rfl (Q_p rfl (S_pcall rfl (AEvs.cons (.tmp rfl) AEvs.nil) (ref07_containers_ok s.init (by omega) hk3.2))) <|
   .cons rfl (Q_p rfl (S_cat rfl (.tmp rfl) (.tmp rfl) (by first | omega | (simp only [List.length_append]; omega)))) <|
   .cons rfl (Q_p rfl (S_field 3 rfl (.tmp rfl) (by kernel_rfl))) <|
   .cons rfl (Q_p rfl (S_load 0 rfl (.tmp rfl) rfl rfl (by kernel_rfl))) <|
   .cons rfl (Q_p rfl (S_pcall rfl (AEvs.cons (.tmp rfl) AEvs.nil) (ref07_containers_ok s.main (by omega) hk4.2))) <|
   .cons rfl (Q_p rfl (S_cat rfl (.tmp rfl) (.tmp rfl) (by first | omega | (simp only [List.length_append]; omega)))) <|
   .cons rfl (Q_p rfl (S_field 4 rfl (.tmp rfl) (by kernel_rfl))) <|
   .cons rfl (Q_p rfl (S_load 0 rfl (.tmp rfl) rfl rfl (by kernel_rfl))) <|
   .cons rfl (Q_p rfl (S_pcall rfl (AEvs.cons (.tmp rfl) AEvs.nil) (ref07_number_ok s.restart (by omega) (by omega)))) <|
   .cons rfl (Q_p rfl (S_cat rfl (.tmp rfl) (.tmp rfl) (by first | omega | (simp only [List.length_append]; omega)))) <|
   .cons rfl (Q_p rfl (S_field 5 rfl (.tmp rfl) (by kernel_rfl))) <|
   .cons rfl (Q_p rfl (S_load 0 rfl (.tmp rfl) rfl rfl (by kernel_rfl))) <|
   .cons rfl (Q_p rfl (S_pcall rfl (AEvs.cons (.tmp rfl) AEvs.nil) (ref07_number_ok s.grace (by omega) (by omega)))) <|
   .cons rfl (Q_p rfl (S_cat rfl (.tmp rfl) (.tmp rfl) (by first | omega | (simp only [List.length_append]; omega)))) <|
   .cons rfl (Q_p rfl (S_field 6 rfl (.tmp rfl) (by kernel_rfl))) <|
   .cons rfl (Q_p rfl (S_load 0 rfl (.tmp rfl) rfl rfl (by kernel_rfl))) <|
   .cons rfl (Q_p rfl (S_pcall rfl (AEvs.cons (.tmp rfl) AEvs.nil) (ref07_number_ok s.prio (by omega) (by omega)))) <|
   .cons rfl (Q_p rfl (S_cat rfl (.tmp rfl) (.tmp rfl) (by first | omega | (simp only [List.length_append]; omega)))) <|
   .cons rfl (Q_p rfl (S_assign rfl (.tmp rfl))) <|
   .nil) ?_
 refine AC_ret ?_
 refine ret_tmp st rfl rfl (Sub.l (List.sublist_cons_self _ _)) (Conv.refl (Sub.l (List.sublist_cons_self _ _)) _) ⟨congrArg AV.S (by simp [spcB, labsB, ctrsB]), rfl⟩ (.inl rfl)
end Go.Proofs.YtfmiciodcimkeaaGreatDoor

set_option maxRecDepth 100000
namespace Go.Proofs.YtfmiciodcimkeaaGreatDoor
open Go.AL Go.NumSpec
theorem String_keep (b : Nat) (q : Buf) (l : List UInt8) (a : AV) (post : List AV) (hq : q.ok l) (F : St) : ACalls Tryz.prog 39 [.ptr b 0] (((b, .cells (a :: bufAV q (l) :: post)) :: bufSt q 5 (l)) ++ F) (fun x st' => ∃ foot', (x = .S l ∧ foot' = (b, .cells (a :: bufAV q (l) :: post)) :: bufSt q 5 (l)) ∧ st' = foot' ++ F) := by
 refine co 14 Tryz.func39 ?_
 refine AC_seq (AC_region ?_)
 refine p_ (S_assign rfl (AEv.S _)) ?_
 refine AL_nil ?_
 refine AC_seq ?_
 refine AC_draw (by kernel_rfl) (by kernel_rfl) (.cons rfl (Q_p rfl (S_move rfl (.tmp rfl))) <|
   .cons rfl (Q_p rfl (S_nilCheck rfl (.tmp rfl))) <|
   .cons rfl (Q_p rfl (S_field 1 rfl (.tmp rfl) (by kernel_rfl))) <|
   .cons rfl (Q_p rfl (S_load 0 rfl (.tmp rfl) rfl rfl (by kernel_rfl))) <|
   .cons rfl (Q_p rfl (S_unsafeData rfl (.tmp rfl) hq)) <|
   .cons rfl (Q_p rfl (S_move rfl (.tmp rfl))) <|
   .cons rfl (Q_p rfl (S_nilCheck rfl (.tmp rfl))) <|
   .cons rfl (Q_p rfl (S_field 1 rfl (.tmp rfl) (by kernel_rfl))) <|
   .cons rfl (Q_p rfl (S_load 0 rfl (.tmp rfl) rfl rfl (by kernel_rfl))) <|
   .cons rfl (Q_p rfl (S_len (e := 5) rfl ((AEv.tmp rfl).le (Le_buf hq)) (by kernel_rfl))) <|
   .cons rfl (Q_p rfl (S_unsafeStringK (q := q) (l := l) (e := 5) (n := 0) (k := 1) [(b, _)] F rfl (.tmp rfl) ((AEv.tmp rfl).le (Le.of_eq (by rw [bytesV_len]))) rfl rfl rfl hq (by kernel_rfl) (by kernel_rfl))) <|
   .cons rfl (Q_p rfl (S_assign rfl (.tmp rfl))) <|
   .nil) ?_
 refine AC_ret ?_
 refine ret_tmp (((b, .cells (a :: bufAV q (l) :: post)) :: bufSt q 5 (l)) ++ F) rfl rfl (Sub.l (List.Sublist.refl _)) (Conv.refl (Sub.l (List.Sublist.refl _)) _) ⟨_, ⟨rfl, rfl⟩, rfl⟩ (.inl rfl)
theorem w_End_keep (b : Nat) (u : Bool) (q : Buf) (l : List UInt8) (c : Int) (hq : q.ok l) (F : St) : ACalls Tryz.prog 14 [.ptr b 0] (((b, .cells [addrB u b 87 3, bufAV q (l), .int .i64 (c)]) :: bufSt q 5 (l)) ++ F) (fun x st' => ∃ foot', (x = .tup [.S (if c = 0 then l else []), .int .i64 c] ∧ foot' = (b, .cells [addrB u b 87 3, bufAV q (l), .int .i64 (c)]) :: bufSt q 5 (l)) ∧ st' = foot' ++ F) := by
 refine co 19 Tryz.func14 ?_
 refine AC_seq (AC_region ?_)
 refine p_ (S_assign rfl (AEv.S _)) ?_
 refine ac rfl rfl rfl ?_
 refine AL_nil ?_
 refine AC_seq ?_
 refine AC_seq (AC_region ?_)
 refine mv rfl rfl rfl rfl ?_
 refine p_ (S_nilCheck rfl (.tmp rfl)) ?_
 refine fl 2 ?_
 refine fl 0 ?_
 refine ld 0 ?_
 refine p_ (S_neq rfl (.tmp rfl) (AEv.const _)) ?_
 refine AL_nil ?_
 refine AC_cond (.tmp rfl) (fun hb1 => ?_) (fun hb1 => ?_)
 ·try simp only [zA,zO,zN,zM,zP,zQ,zD,zF,gd] at hb1
  refine AC_seq ?_
  refine AC_draw (by kernel_rfl) (by kernel_rfl) (.cons rfl (Q_p rfl (S_move rfl (.tmp rfl))) <|
    .cons rfl (Q_p rfl (S_nilCheck rfl (.tmp rfl))) <|
    .cons rfl (Q_p rfl (S_field 2 rfl (.tmp rfl) (by kernel_rfl))) <|
    .cons rfl (Q_p rfl (S_field 0 rfl (.tmp rfl) (by kernel_rfl))) <|
    .cons rfl (Q_p rfl (S_load 0 rfl (.tmp rfl) rfl rfl (by kernel_rfl))) <|
    .cons rfl (Q_p rfl (S_assign rfl (AEv.S _))) <|
    .cons rfl (Q_p rfl (S_assign rfl (.tmp rfl))) <|
    .nil) ?_
  refine AC_ret ?_
  refine ret_tmps (ts := [2, 3]) (((b, .cells [addrB u b 87 3, bufAV q (l), .int .i64 (c)]) :: bufSt q 5 (l)) ++ F) rfl (by decide) rfl (Sub.l (List.Sublist.refl _)) (Conv.refl (Sub.l (List.Sublist.refl _)) _) ⟨_, ⟨by rw [if_neg (by assumption)], rfl⟩, rfl⟩ (.inl rfl)
 try simp only [zA,zO,zN,zM,zP,zQ,zD,zF,gd] at hb1
 have hc : c = 0 := by omega
 subst hc
 refine AC_skip ?_
 refine AC_seq (AC_region ?_)
 refine mv rfl rfl rfl rfl ?_
 refine p_ (S_nilCheck rfl (.tmp rfl)) ?_
 refine fl 0 ?_
 refine s_ (S_call rfl (AEvs.cons (.tmp rfl) AEvs.nil) (String_keep b q l (addrB u b 87 3) [_] hq F)) ?_
 rintro _ _ ⟨_, ⟨rfl, rfl⟩, rfl⟩
 refine as_ rfl rfl rfl rfl ?_
 refine ac rfl rfl rfl ?_
 refine AL_nil (AC_ret ?_)
 refine ret_tmps (ts := [2, 3]) (((b, .cells [addrB u b 87 3, bufAV q (l), .int .i64 (0)]) :: bufSt q 5 (l)) ++ F) rfl (by decide) rfl (Sub.l (List.Sublist.refl _)) (Conv.refl (Sub.l (List.Sublist.refl _)) _) ⟨_, ⟨rfl, rfl⟩, rfl⟩ (.inl rfl)
set_option maxHeartbeats 1000000 in
theorem law_PackWrites (ahead : List UInt8) (s : Spc) : GCalls Tryz.prog tabs 3 [.S ahead, spcAV s] (.bool true) := by
 intro st hG
 refine co 95 Tryz.func3 ?_
 refine AC_seq (AC_region ?_)
 refine s_ (S_box rfl (.tmp rfl)) ?_
 rintro _ _ ⟨b3, rfl, rfl⟩
 refine ac rfl rfl rfl ?_
 refine AL_nil ?_
 refine AC_seq ?_
 refine AC_seq (AC_region ?_)
 refine ldN 7 0 ?_
 refine p_ (S_pcall rfl (AEvs.cons (.tmp rfl) AEvs.nil) (book_LightSpec_ok s)) ?_
 refine p_ (S_not rfl (.tmp rfl)) ?_
 refine mv rfl rfl rfl rfl ?_
 refine g_ (fun _ => mA) ?_
 refine g_ (fun _ => S_lenS (ts := #[]) rfl (AEv.cd (.tmp rfl)) (by kernel_rfl)) ?_
 refine g_ (fun _ => S_gtr rfl (AEv.cd (.tmp rfl)) (AEv.const _)) ?_
 refine p_ (S_or rfl (.tmp rfl) (fun hp11 => (AEv.cd (.tmp rfl)))) ?_
 refine AL_nil ?_
 refine AC_cond (.tmp rfl) (fun hb12 => ?_) (fun hb12 => ?_)
 ·try simp only [zA,zO,zN,zM,zP,zQ,zD,zF,gd] at hb12
  refine AC_seq (AC_region ?_)
  refine p_ (S_gcall rfl AEvs.nil ((law07_works_ok) _ (fun p hp => by repeat (first | exact hG p hp | refine List.mem_cons_of_mem _ ?_ | refine List.mem_append_right _ ?_)))) ?_
  refine as_ rfl rfl rfl rfl ?_
  refine AL_nil (AC_ret ?_)
  refine ret_tmp st rfl rfl (Sub.l (List.Sublist.cons _ (List.Sublist.refl _))) (Conv.refl (Sub.l (List.Sublist.cons _ (List.Sublist.refl _))) _) ⟨rfl, rfl⟩ (.inl rfl)
 try simp only [zA,zO,zN,zM,zP,zQ,zD,zF,gd] at hb12
 have hl : lightS s = true := by simpa using hb12.1
 have ha : ahead.length ≤ 300 := by have := hb12.2; omega
 have ht := textB_len (s := ahead) (by omega)
 refine AC_skip ?_
 refine AC_seq (AC_region ?_)
 refine ldN 7 0 ?_
 refine p_ (S_gcall rfl (AEvs.cons (.tmp rfl) AEvs.nil) ((pack_Bytes_ok s hl) _ (fun p hp => by repeat (first | exact hG p hp | refine List.mem_cons_of_mem _ ?_ | refine List.mem_append_right _ ?_)))) ?_
 refine mv rfl rfl rfl rfl ?_
 refine ex 0 ?_
 refine ex 1 ?_
 refine as_ rfl rfl rfl rfl ?_
 refine as_ rfl rfl rfl rfl ?_
 refine AL_nil (AC_seq (AC_region ?_))
 refine s_ (S_call rfl AEvs.nil (wire_Write_ok _)) ?_
 rintro _ _ ⟨_, ⟨bw, rfl, rfl⟩, rfl⟩
 refine as_ rfl rfl rfl rfl ?_
 refine AL_nil ?_
 refine AC_seq ?_
 refine AC_seq (AC_region ?_)
 refine mv rfl rfl rfl rfl ?_
 refine p_ (S_eqlNil rfl (.tmp rfl) (AEv.const _) (by kernel_rfl)) ?_
 refine AL_nil ?_
 refine AC_cond (.tmp rfl) (fun hb13 => ?_) (fun hb13 => ?_)
 ·simp at hb13; done
 try simp only [zA,zO,zN,zM,zP,zQ,zD,zF,gd] at hb13
 refine AC_skip ?_
 refine AC_seq (AC_region ?_)
 refine mv rfl rfl rfl rfl ?_
 refine mv rfl rfl rfl rfl ?_
 refine s_ (S_call rfl (AEvs.cons (.tmp rfl) (AEvs.cons (.tmp rfl) AEvs.nil)) (w_TextN bw false .nil [] 0 rfl (by simp only [List.length_nil]; omega) ahead (by omega) (by simp only [List.length_nil]; omega) _)) ?_
 rintro _ _ ⟨_, ⟨u2, q2, hq2, rfl, rfl⟩, rfl⟩
 refine AL_nil (AC_seq (AC_region ?_))
 refine mv rfl rfl rfl rfl ?_
 refine s_ (S_call rfl (AEvs.cons (.tmp rfl) AEvs.nil) (w_End_keep bw u2 q2 _ 0 hq2 _)) ?_
 rintro _ _ ⟨_, ⟨rfl, rfl⟩, rfl⟩
 rw [if_pos rfl]
 refine mv rfl rfl rfl rfl ?_
 refine ex 0 ?_
 refine ex 1 ?_
 refine as_ rfl rfl rfl rfl ?_
 refine as_ rfl rfl rfl rfl ?_
 refine AL_nil (AC_seq (AC_region ?_))
 refine mv rfl rfl rfl rfl ?_
 refine p_ (S_loadNM (m := 7) rfl (.tmp rfl) (by repeat (first | exact List.mem_cons_self | refine List.mem_append_right _ ?_ | refine List.mem_cons_of_mem _ ?_)) (by kernel_rfl) (by first | exact Nat.le_of_ble_eq_true rfl | (simp; omega) | simp)) ?_
 refine s_ (S_call rfl (AEvs.cons (.tmp rfl) (AEvs.cons (.tmp rfl) AEvs.nil)) (pack_Put_ok bw u2 q2 _ 0 hq2 (by refine Nat.le_trans (Nat.add_le_add_right (wput_len _ _ _) _) ?_; simp only [List.length_nil]; omega) s hl _ (fun p hp => by repeat (first | exact hG p hp | refine List.mem_cons_of_mem _ ?_ | refine List.mem_append_right _ ?_)))) ?_
 rintro _ _ ⟨_, ⟨u3, q3, hq3, rfl, rfl⟩, rfl⟩
 refine AL_nil (AC_seq (AC_region ?_))
 refine mv rfl rfl rfl rfl ?_
 refine s_ (S_call rfl (AEvs.cons (.tmp rfl) AEvs.nil) (w_End_ok bw u3 q3 _ _ hq3 _)) ?_
 rintro _ _ ⟨_, ⟨cs2, rfl, rfl⟩, rfl⟩
 refine mv rfl rfl rfl rfl ?_
 refine ex 0 ?_
 refine ex 1 ?_
 refine as_ rfl rfl rfl rfl ?_
 refine as_ rfl rfl rfl rfl ?_
 refine AL_nil (AC_seq (AC_region ?_))
 refine p_ (S_loadNM (m := 7) rfl (.tmp rfl) (by repeat (first | exact List.mem_cons_self | refine List.mem_append_right _ ?_ | refine List.mem_cons_of_mem _ ?_)) (by kernel_rfl) (by first | exact Nat.le_of_ble_eq_true rfl | (simp; omega) | simp)) ?_
 refine p_ (S_pcall rfl (AEvs.cons (.tmp rfl) AEvs.nil) (ref06_Check_ok s hl)) ?_
 refine mv rfl rfl rfl rfl ?_
 refine ex 0 ?_
 refine ex 1 ?_
 refine as_ rfl rfl rfl rfl ?_
 refine as_ rfl rfl rfl rfl ?_
 refine AL_nil ?_
 refine AC_seq ?_
 refine AC_seq (AC_region ?_)
 refine mv rfl rfl rfl rfl ?_
 refine p_ (S_neq rfl (.tmp rfl) (AEv.const _)) ?_
 refine AL_nil ?_
 refine AC_cond (.tmp rfl) (fun hb14 => ?_) (fun hb14 => ?_)
 ·try simp only [zA,zO,zN,zM,zP,zQ,zD,zF,gd] at hb14
  have hk : ¬ checkE s = none := fun h => hb14 (by rw [h]; rfl)
  have hc : erCode (checkE s) ≠ 0 := hb14
  have hz : failC 0 (erCode (checkE s)) = erCode (checkE s) := if_pos rfl
  refine AC_seq (AC_region ?_)
  refine mv rfl rfl rfl rfl ?_
  refine p_ (S_eqS rfl (.tmp rfl) (AEv.S _)) ?_
  refine mv rfl rfl rfl rfl ?_
  refine g_ (fun _ => mA) ?_
  refine g_ (fun _ => S_eqS rfl (AEv.cd (.tmp rfl)) (AEv.S _)) ?_
  refine an ?_
  refine mv rfl rfl rfl rfl ?_
  refine g_ (fun _ => mA) ?_
  refine g_ (fun _ => mA) ?_
  refine g_ (fun _ => S_eql rfl (AEv.cd (.tmp rfl)) (AEv.cd (.tmp rfl))) ?_
  refine an ?_
  refine mv rfl rfl rfl rfl ?_
  refine g_ (fun _ => mA) ?_
  refine g_ (fun _ => mA) ?_
  refine g_ (fun _ => S_eql rfl (AEv.cd (.tmp rfl)) (AEv.cd (.tmp rfl))) ?_
  refine an ?_
  refine mv rfl rfl rfl rfl ?_
  refine g_ (fun _ => S_gcall rfl AEvs.nil ((law07_works_ok) _ (fun p hp => by repeat (first | exact hG p hp | refine List.mem_cons_of_mem _ ?_ | refine List.mem_append_right _ ?_)))) ?_
  refine an ?_
  refine as_ rfl rfl rfl rfl ?_
  refine AL_nil (AC_ret ?_)
  refine ret_tmp st rfl rfl (Sub.l (List.Sublist.cons _ (List.Sublist.cons _ (List.Sublist.refl _)))) (Conv.refl (Sub.l (List.Sublist.cons _ (List.Sublist.cons _ (List.Sublist.refl _)))) _) ⟨congrArg AV.bool (by simp [hk, hz, hc]), rfl⟩ (.inl rfl)
 try simp only [zA,zO,zN,zM,zP,zQ,zD,zF,gd] at hb14
 have hk : checkE s = none := (well_check s).code.1 (by simpa using hb14)
 refine AC_skip ?_
 refine AC_seq (AC_region ?_)
 refine mv rfl rfl rfl rfl ?_
 refine p_ (S_loadNM (m := 7) rfl (.tmp rfl) (by repeat (first | exact List.mem_cons_self | refine List.mem_append_right _ ?_ | refine List.mem_cons_of_mem _ ?_)) (by kernel_rfl) (by first | exact Nat.le_of_ble_eq_true rfl | (simp; omega) | simp)) ?_
 refine p_ (S_pcall rfl (AEvs.cons (.tmp rfl) AEvs.nil) (ref07_Bytes_ok s hk)) ?_
 refine p_ (S_eqS rfl (.tmp rfl) (.tmp rfl)) ?_
 refine mv rfl rfl rfl rfl ?_
 refine g_ (fun _ => mA) ?_
 refine g_ (fun _ => mA) ?_
 refine g_ (fun _ => mA) ?_
 refine g_ (fun _ => S_cat rfl (AEv.cd (.tmp rfl)) (AEv.cd (.tmp rfl)) (by (rw [if_pos hk]; have h9 := spcB_len hk; have h8 := wput_len 0 [] (textB ahead); simp only [List.length_nil] at h8; omega))) ?_
 refine g_ (fun _ => S_eqS rfl (AEv.cd (.tmp rfl)) (AEv.cd (.tmp rfl))) ?_
 refine an ?_
 refine mv rfl rfl rfl rfl ?_
 refine g_ (fun _ => mA) ?_
 refine g_ (fun _ => S_eql rfl (AEv.cd (.tmp rfl)) (AEv.const _)) ?_
 refine an ?_
 refine mv rfl rfl rfl rfl ?_
 refine g_ (fun _ => mA) ?_
 refine g_ (fun _ => S_eql rfl (AEv.cd (.tmp rfl)) (AEv.const _)) ?_
 refine an ?_
 refine mv rfl rfl rfl rfl ?_
 refine g_ (fun _ => S_gcall rfl AEvs.nil ((law07_works_ok) _ (fun p hp => by repeat (first | exact hG p hp | refine List.mem_cons_of_mem _ ?_ | refine List.mem_append_right _ ?_)))) ?_
 refine an ?_
 refine as_ rfl rfl rfl rfl ?_
 refine AL_nil (AC_ret ?_)
 refine ret_tmp st rfl rfl (Sub.l (List.Sublist.cons _ (List.Sublist.cons _ (List.Sublist.refl _)))) (Conv.refl (Sub.l (List.Sublist.cons _ (List.Sublist.cons _ (List.Sublist.refl _)))) _) ⟨congrArg AV.bool (by simp [hk, erCode, wput]), rfl⟩ (.inl rfl)
end Go.Proofs.YtfmiciodcimkeaaGreatDoor
