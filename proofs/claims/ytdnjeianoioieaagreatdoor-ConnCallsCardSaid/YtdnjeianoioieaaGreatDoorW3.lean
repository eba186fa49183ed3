/- A part of the proof: what the program's functions answer.
Conditions: none beyond each theorem's own. -/
import Derived.Test.YtdnjeianoioieaaGreatDoorW2
/-
The walks of Go functions in the logic AL: what each of them answers.
Conditions: those of each theorem.
-/
set_option linter.unusedVariables false
set_option linter.unusedSimpArgs false
namespace Go.Proofs.YtdnjeianoioieaaGreatDoor
open Go.AL Go.NumSpec
set_option maxRecDepth 100000 in
theorem frame_New_ok (F : St) : ACalls Tryz.prog 26 [] ([] ++ F) (fun x st' => ∃ foot', (∃ bx, x = .ptr bx 0 ∧ foot' = [(bx, Ob.cells [.S [], .bool false])]) ∧ st' = foot' ++ F) := by
 refine ACalls_of (N := 3) Tryz.func26 (by kernel_rfl) rfl rfl rfl ?_
 refine AC_seq (AC_region ?_)
 refine ac rfl rfl rfl ?_
 refine AL_nil (AC_seq (AC_region ?_))
 refine AL_p rfl rfl (S_build (t := 110) (pl := [(0, 1), (1, 1)]) (zs := [.string ⟨#[]⟩, .bool false]) rfl AEvs.nil (by kernel_rfl) rfl) ?_
 refine AL_step rfl rfl (S_box rfl (.tmp rfl)) ?_
 rintro _ _ ⟨b2, rfl, rfl⟩
 refine as_ rfl rfl rfl rfl ?_
 refine AL_nil (AC_ret ?_)
 refine ret_tmp ([(b2, Ob.cells [.S [], .bool false])] ++ F) rfl rfl (Sub.l (List.Sublist.refl _)) (Conv.refl (Sub.l (List.Sublist.refl _)) _) ⟨_, ⟨b2, rfl, rfl⟩, rfl⟩ (.inl rfl)
set_option maxRecDepth 100000 in
theorem frame_Closed_ok (bx : Nat) (s : List UInt8) (c : Bool) (F : St) : ACalls Tryz.prog 27 [.ptr bx 0] ([(bx, Ob.cells [.S s, .bool c])] ++ F) (fun x st' => ∃ foot', (x = .bool c ∧ foot' = [(bx, Ob.cells [.S s, .bool c])]) ∧ st' = foot' ++ F) := by
 refine ACalls_of (N := 7) Tryz.func27 (by kernel_rfl) rfl rfl rfl ?_
 refine AC_seq (AC_region ?_)
 refine ac rfl rfl rfl ?_
 refine AL_nil (AC_seq (AC_region ?_))
 refine mv rfl rfl rfl rfl ?_
 refine AL_p rfl rfl (S_nilCheck rfl (.tmp rfl)) ?_
 refine AL_p rfl rfl (S_field 1 rfl (.tmp rfl) (by kernel_rfl)) ?_
 refine AL_p rfl rfl (S_load 0 rfl (.tmp rfl) rfl rfl (by kernel_rfl)) ?_
 refine as_ rfl rfl rfl rfl ?_
 refine AL_nil (AC_ret ?_)
 refine ret_tmp ([(bx, Ob.cells [.S s, .bool c])] ++ F) rfl rfl (Sub.l (List.Sublist.refl _)) (Conv.refl (Sub.l (List.Sublist.refl _)) _) ⟨_, ⟨rfl, rfl⟩, rfl⟩ (.inl rfl)
set_option maxRecDepth 100000 in
theorem frame_Close_ok (bx : Nat) (s : List UInt8) (c : Bool) (F : St) : ACalls Tryz.prog 30 [.ptr bx 0] ([(bx, Ob.cells [.S s, .bool c])] ++ F) (fun x st' => ∃ foot', (x = .tup [] ∧ foot' = [(bx, Ob.cells [.S [], .bool true])]) ∧ st' = foot' ++ F) := by
 refine ACalls_of (N := 8) Tryz.func30 (by kernel_rfl) rfl rfl rfl ?_
 refine AC_region ?_
 refine mv rfl rfl rfl rfl ?_
 refine mv rfl rfl rfl rfl ?_
 refine AL_p rfl rfl (S_nilCheck rfl (.tmp rfl)) ?_
 refine AL_p rfl rfl (S_field 0 rfl (.tmp rfl) (by kernel_rfl)) ?_
 refine AL_step rfl rfl (S_store 0 rfl (.tmp rfl) (AEv.S _) rfl (by first | exact Nat.le_of_ble_eq_true rfl | simp) rfl (by kernel_rfl)) ?_
 rintro _ _ ⟨rfl, rfl⟩
 refine AL_p rfl rfl (S_nilCheck rfl (.tmp rfl)) ?_
 refine AL_p rfl rfl (S_field 1 rfl (.tmp rfl) (by kernel_rfl)) ?_
 refine AL_step rfl rfl (S_store 0 rfl (.tmp rfl) (AEv.const _) rfl (by first | exact Nat.le_of_ble_eq_true rfl | simp) rfl (by kernel_rfl)) ?_
 rintro _ _ ⟨rfl, rfl⟩
 refine AL_nil ?_
 refine ret_none ([(bx, Ob.cells [.S [], .bool true])] ++ F) rfl (Sub.l (List.Sublist.refl _)) ⟨_, ⟨rfl, rfl⟩, rfl⟩ (.inr rfl)
set_option maxRecDepth 100000 in
theorem frame_fails_ok (bx : Nat) (s : List UInt8) (c : Bool) (d : Int) (F : St) : ACalls Tryz.prog 55 [.ptr bx 0, .int .i64 d] ([(bx, Ob.cells [.S s, .bool c])] ++ F) (fun x st' => ∃ foot', (x = .int .i64 d ∧ foot' = [(bx, Ob.cells [.S [], .bool true])]) ∧ st' = foot' ++ F) := by
 refine ACalls_of (N := 8) Tryz.func55 (by kernel_rfl) rfl rfl rfl ?_
 refine AC_seq (AC_region ?_)
 refine ac rfl rfl rfl ?_
 refine AL_nil (AC_seq (AC_region ?_))
 refine mv rfl rfl rfl rfl ?_
 refine AL_step rfl rfl (S_call rfl (AEvs.cons (.tmp rfl) AEvs.nil) (frame_Close_ok bx s c F)) ?_
 rintro _ _ ⟨_, ⟨rfl, rfl⟩, rfl⟩
 refine AL_nil (AC_seq (AC_region ?_))
 refine mv rfl rfl rfl rfl ?_
 refine as_ rfl rfl rfl rfl ?_
 refine AL_nil (AC_ret ?_)
 refine ret_tmp ([(bx, Ob.cells [.S [], .bool true])] ++ F) rfl rfl (Sub.l (List.Sublist.refl _)) (Conv.refl (Sub.l (List.Sublist.refl _)) _) ⟨_, ⟨rfl, rfl⟩, rfl⟩ (.inl rfl)
set_option maxRecDepth 100000 in
theorem frame_Feed_ok (bx : Nat) (s : List UInt8) (c : Bool) (t : List UInt8) (hs : s.length ≤ 8192) (ht : t.length ≤ 100000) (F : St) : ACalls Tryz.prog 28 [.ptr bx 0, .S t] ([(bx, Ob.cells [.S s, .bool c])] ++ F) (fun x st' => ∃ foot', (x = .int .i64 (putS s c t).2.2 ∧ foot' = [(bx, Ob.cells [.S (putS s c t).1, .bool (putS s c t).2.1])]) ∧ st' = foot' ++ F) := by
 refine ACalls_of (N := 30) Tryz.func28 (by kernel_rfl) rfl rfl rfl ?_
 refine AC_seq (AC_region ?_)
 refine ac rfl rfl rfl ?_
 refine AL_nil ?_
 refine AC_seq ?_
 refine AC_block ?_
 refine AC_seq (AC_region ?_)
 refine mv rfl rfl rfl rfl ?_
 refine AL_p rfl rfl (S_nilCheck rfl (.tmp rfl)) ?_
 refine AL_p rfl rfl (S_field 1 rfl (.tmp rfl) (by kernel_rfl)) ?_
 refine AL_p rfl rfl (S_load 0 rfl (.tmp rfl) rfl rfl (by kernel_rfl)) ?_
 refine as_ rfl rfl rfl rfl ?_
 refine AL_nil ?_
 refine AC_cond (.tmp rfl) (fun hb1 => ?_) (fun hb1 => ?_)
 ·try simp only [zA, zO, zN, zM, zP, zQ, zD, zF, gd] at hb1
  have hx := putS_closed (s := s) (t := t) (c := c) hb1
  refine AC_seq (AC_region ?_)
  refine ac rfl rfl rfl ?_
  refine AL_nil (AC_ret ?_)
  refine ret_tmp ([(bx, Ob.cells [.S s, .bool c])] ++ F) rfl rfl (Sub.l (List.Sublist.refl _)) (Conv.refl (Sub.l (List.Sublist.refl _)) _) ⟨_, ⟨by rw [hx], by rw [hx, show c = true from by assumption]⟩, rfl⟩ (.inl rfl)
 try simp only [zA, zO, zN, zM, zP, zQ, zD, zF, gd] at hb1
 have hc : ¬ c = true := by simpa using hb1
 refine AC_seq (AC_region ?_)
 refine mv rfl rfl rfl rfl ?_
 refine AL_p rfl rfl (S_lenS (ts := #[]) rfl (.tmp rfl) (by kernel_rfl)) ?_
 refine mv rfl rfl rfl rfl ?_
 refine AL_p rfl rfl (S_nilCheck rfl (.tmp rfl)) ?_
 refine AL_p rfl rfl (S_field 0 rfl (.tmp rfl) (by kernel_rfl)) ?_
 refine AL_p rfl rfl (S_load 0 rfl (.tmp rfl) rfl rfl (by kernel_rfl)) ?_
 refine AL_p rfl rfl (S_lenS (ts := #[]) rfl (.tmp rfl) (by kernel_rfl)) ?_
 refine AL_p rfl rfl (S_subI rfl (AEv.const _) (.tmp rfl) (by omega) (by omega)) ?_
 refine AL_p rfl rfl (S_gtr rfl (.tmp rfl) (.tmp rfl)) ?_
 refine as_ rfl rfl rfl rfl ?_
 refine AL_nil ?_
 refine AC_cond (.tmp rfl) (fun hb2 => ?_) (fun hb2 => ?_)
 ·try simp only [zA, zO, zN, zM, zP, zQ, zD, zF, gd] at hb2
  have hx := putS_long (s := s) (t := t) hc (by omega)
  refine AC_seq (AC_region ?_)
  refine mv rfl rfl rfl rfl ?_
  refine AL_step rfl rfl (S_call rfl (AEvs.cons (.tmp rfl) (AEvs.cons (AEv.const _) AEvs.nil)) (frame_fails_ok bx s c 2 F)) ?_
  rintro _ _ ⟨_, ⟨rfl, rfl⟩, rfl⟩
  refine as_ rfl rfl rfl rfl ?_
  refine AL_nil (AC_ret ?_)
  refine ret_tmp ([(bx, Ob.cells [.S [], .bool true])] ++ F) rfl rfl (Sub.l (List.Sublist.refl _)) (Conv.refl (Sub.l (List.Sublist.refl _)) _) ⟨_, ⟨by rw [hx], by rw [hx]⟩, rfl⟩ (.inl rfl)
 try simp only [zA, zO, zN, zM, zP, zQ, zD, zF, gd] at hb2
 have hx := putS_good (s := s) (t := t) hc (by omega)
 refine AC_skip ?_
 refine AC_seq (AC_region ?_)
 refine mv rfl rfl rfl rfl ?_
 refine AL_p rfl rfl (S_nilCheck rfl (.tmp rfl)) ?_
 refine AL_p rfl rfl (S_field 0 rfl (.tmp rfl) (by kernel_rfl)) ?_
 refine AL_p rfl rfl (S_load 0 rfl (.tmp rfl) rfl rfl (by kernel_rfl)) ?_
 refine mv rfl rfl rfl rfl ?_
 refine AL_p rfl rfl (S_cat rfl (.tmp rfl) (.tmp rfl) (by first | omega | (simp; done) | (simp; omega))) ?_
 refine AL_p rfl rfl (S_nilCheck rfl (.tmp rfl)) ?_
 refine AL_p rfl rfl (S_field 0 rfl (.tmp rfl) (by kernel_rfl)) ?_
 refine AL_step rfl rfl (S_store 0 rfl (.tmp rfl) (.tmp rfl) rfl (by first | exact Nat.le_of_ble_eq_true rfl | simp) rfl (by kernel_rfl)) ?_
 rintro _ _ ⟨rfl, rfl⟩
 refine AL_nil (AC_seq (AC_region ?_))
 refine ac rfl rfl rfl ?_
 refine AL_nil (AC_ret ?_)
 refine ret_tmp ([(bx, Ob.cells [.S (s ++ t), .bool c])] ++ F) rfl rfl (Sub.l (List.Sublist.refl _)) (Conv.refl (Sub.l (List.Sublist.refl _)) _) ⟨_, ⟨by rw [hx], by rw [hx, show c = false by simpa using hc]⟩, rfl⟩ (.inl rfl)
set_option maxRecDepth 100000 in
theorem frame_Next_ok (bx : Nat) (s : List UInt8) (c : Bool) (hs : s.length ≤ 8192) (F : St) : ACalls Tryz.prog 29 [.ptr bx 0] ([(bx, Ob.cells [.S s, .bool c])] ++ F) (fun x st' => ∃ foot', (x = .tup [.S (nextX s c).1, .int .i64 (nextX s c).2.1] ∧ foot' = [(bx, Ob.cells [.S (nextX s c).2.2.1, .bool (nextX s c).2.2.2])]) ∧ st' = foot' ++ F) := by
 refine ACalls_of (N := 64) Tryz.func29 (by kernel_rfl) rfl rfl rfl ?_
 refine AC_seq (AC_region ?_)
 refine AL_p rfl rfl (S_assign rfl (AEv.S _)) ?_
 refine ac rfl rfl rfl ?_
 refine AL_nil ?_
 refine AC_seq ?_
 refine AC_block ?_
 refine AC_seq (AC_region ?_)
 refine mv rfl rfl rfl rfl ?_
 refine AL_p rfl rfl (S_nilCheck rfl (.tmp rfl)) ?_
 refine AL_p rfl rfl (S_field 1 rfl (.tmp rfl) (by kernel_rfl)) ?_
 refine AL_p rfl rfl (S_load 0 rfl (.tmp rfl) rfl rfl (by kernel_rfl)) ?_
 refine as_ rfl rfl rfl rfl ?_
 refine AL_nil ?_
 refine AC_cond (.tmp rfl) (fun hb1 => ?_) (fun hb1 => ?_)
 ·try simp only [zA, zO, zN, zM, zP, zQ, zD, zF, gd] at hb1
  have hx : nextX s c = ([], 400, s, true) := if_pos hb1
  refine AC_seq (AC_region ?_)
  refine AL_p rfl rfl (S_assign rfl (AEv.S _)) ?_
  refine ac rfl rfl rfl ?_
  refine AL_nil (AC_ret ?_)
  refine ret_tmps (ts := [2, 3]) ([(bx, Ob.cells [.S s, .bool c])] ++ F) rfl (by decide) rfl (Sub.l (List.Sublist.refl _)) (Conv.refl (Sub.l (List.Sublist.refl _)) _) ⟨_, ⟨by rw [hx], by rw [hx, show c = true from by assumption]⟩, rfl⟩ (.inl rfl)
 try simp only [zA, zO, zN, zM, zP, zQ, zD, zF, gd] at hb1
 have hc : c = false := by simpa using hb1
 subst hc
 refine AC_seq (AC_region ?_)
 refine mv rfl rfl rfl rfl ?_
 refine AL_p rfl rfl (S_nilCheck rfl (.tmp rfl)) ?_
 refine AL_p rfl rfl (S_field 0 rfl (.tmp rfl) (by kernel_rfl)) ?_
 refine AL_p rfl rfl (S_load 0 rfl (.tmp rfl) rfl rfl (by kernel_rfl)) ?_
 refine AL_p rfl rfl (S_lenS (ts := #[]) rfl (.tmp rfl) (by kernel_rfl)) ?_
 refine AL_p rfl rfl (S_lss rfl (.tmp rfl) (AEv.const _)) ?_
 refine as_ rfl rfl rfl rfl ?_
 refine AL_nil ?_
 refine AC_cond (.tmp rfl) (fun hb2 => ?_) (fun hb2 => ?_)
 ·try simp only [zA, zO, zN, zM, zP, zQ, zD, zF, gd] at hb2
  have hx : nextX s false = ([], 6, s, false) := nextS_short (by omega)
  refine AC_seq (AC_region ?_)
  refine AL_p rfl rfl (S_assign rfl (AEv.S _)) ?_
  refine ac rfl rfl rfl ?_
  refine AL_nil (AC_ret ?_)
  refine ret_tmps (ts := [2, 3]) ([(bx, Ob.cells [.S s, .bool false])] ++ F) rfl (by decide) rfl (Sub.l (List.Sublist.refl _)) (Conv.refl (Sub.l (List.Sublist.refl _)) _) ⟨_, ⟨by rw [hx], by rw [hx]⟩, rfl⟩ (.inl rfl)
 try simp only [zA, zO, zN, zM, zP, zQ, zD, zF, gd] at hb2
 have hl2 : ¬ s.length < 2 := by omega
 refine AC_skip ?_
 refine AC_seq ?_
 obtain ⟨h0, h1, r, rfl⟩ : ∃ h0 h1 r, s = h0 :: h1 :: r := by
  match s, hl2 with
  | a :: b :: r, _ => exact ⟨a, b, r, rfl⟩
  | [], h => exact absurd (by decide) h
  | [_], h => exact absurd (by decide : (1 : Nat) < 2) h
 have hb0 := h0.toNat_lt
 have hb1 := h1.toNat_lt
 refine AC_draw (by kernel_rfl) (by kernel_rfl) (.cons rfl (Q_p rfl (S_move rfl (.tmp rfl))) <|
   .cons rfl (Q_p rfl (S_nilCheck rfl (.tmp rfl))) <|
   .cons rfl (Q_p rfl (S_field 0 rfl (.tmp rfl) (by kernel_rfl))) <|
   .cons rfl (Q_p rfl (S_load 0 rfl (.tmp rfl) rfl rfl (by kernel_rfl))) <|
   .cons rfl (Q_p rfl ((S_index (i := 0) rfl (.tmp rfl) (AEv.const _) (by kernel_rfl) (by omega) (by simp only [List.length_cons]; omega)).ofV (V' := .int .u8 (h0.toNat : Int)) rfl)) <|
   .cons rfl (Q_p rfl ((S_conv (k' := .i64) rfl (.tmp rfl) (by kernel_rfl) (by kernel_rfl)).ofV (V' := .int .i64 (h0.toNat : Int)) (congrArg (AV.int .i64) (by rw [wrap_i64 (by omega) (by omega)])))) <|
   .cons rfl (Q_p rfl (S_move rfl (.tmp rfl))) <|
   .cons rfl (Q_p rfl (S_nilCheck rfl (.tmp rfl))) <|
   .cons rfl (Q_p rfl (S_field 0 rfl (.tmp rfl) (by kernel_rfl))) <|
   .cons rfl (Q_p rfl (S_load 0 rfl (.tmp rfl) rfl rfl (by kernel_rfl))) <|
   .cons rfl (Q_p rfl ((S_index (i := 1) rfl (.tmp rfl) (AEv.const _) (by kernel_rfl) (by omega) (by simp only [List.length_cons]; omega)).ofV (V' := .int .u8 (h1.toNat : Int)) rfl)) <|
   .cons rfl (Q_p rfl ((S_conv (k' := .i64) rfl (.tmp rfl) (by kernel_rfl) (by kernel_rfl)).ofV (V' := .int .i64 (h1.toNat : Int)) (congrArg (AV.int .i64) (by rw [wrap_i64 (by omega) (by omega)])))) <|
   .cons rfl (Q_p rfl ((S_shift rfl (by simp) (.tmp rfl) (AEv.const _) (shift_shl _ _ _ _ (by omega) (by simp only [IntKind.bits]; omega))).ofV (V' := .int .i64 ((h1.toNat * 256 : Nat) : Int)) (congrArg (AV.int .i64) (shl_eight hb1)))) <|
   .cons rfl (Q_p rfl ((S_bits rfl (by simp) (.tmp rfl) (.tmp rfl)).ofV (V' := .int .i64 ((frN (h0 :: h1 :: r) : Nat) : Int)) (congrArg (AV.int .i64) (or_bytes h0 h1)))) <|
   .cons rfl (Q_p rfl (S_assign rfl (.tmp rfl))) <|
   .nil) ?_
 refine AC_seq ?_
 refine AC_block ?_
 refine AC_seq (AC_region ?_)
 refine mv rfl rfl rfl rfl ?_
 refine AL_p rfl rfl (S_gtr rfl (.tmp rfl) (AEv.const _)) ?_
 refine as_ rfl rfl rfl rfl ?_
 refine AL_nil ?_
 refine AC_cond (.tmp rfl) (fun hb3 => ?_) (fun hb3 => ?_)
 ·try simp only [zA, zO, zN, zM, zP, zQ, zD, zF, gd] at hb3
  have hx : nextX (h0 :: h1 :: r) false = ([], 2, [], true) := nextS_long hl2 (by omega)
  refine AC_seq (AC_region ?_)
  refine mv rfl rfl rfl rfl ?_
  refine AL_step rfl rfl (S_call rfl (AEvs.cons (.tmp rfl) (AEvs.cons (AEv.const _) AEvs.nil)) (frame_fails_ok bx (h0 :: h1 :: r) false 2 F)) ?_
  rintro _ _ ⟨_, ⟨rfl, rfl⟩, rfl⟩
  refine AL_p rfl rfl (S_assign rfl (AEv.S _)) ?_
  refine as_ rfl rfl rfl rfl ?_
  refine AL_nil (AC_ret ?_)
  refine ret_tmps (ts := [2, 3]) ([(bx, Ob.cells [.S [], .bool true])] ++ F) rfl (by decide) rfl (Sub.l (List.Sublist.refl _)) (Conv.refl (Sub.l (List.Sublist.refl _)) _) ⟨_, ⟨by rw [hx], by rw [hx]⟩, rfl⟩ (.inl rfl)
 try simp only [zA, zO, zN, zM, zP, zQ, zD, zF, gd] at hb3
 have hm : ¬ 2048 < frN (h0 :: h1 :: r) := by omega
 refine AC_seq (AC_region ?_)
 refine mv rfl rfl rfl rfl ?_
 refine mv rfl rfl rfl rfl ?_
 refine AL_p rfl rfl (S_nilCheck rfl (.tmp rfl)) ?_
 refine AL_p rfl rfl (S_field 0 rfl (.tmp rfl) (by kernel_rfl)) ?_
 refine AL_p rfl rfl (S_load 0 rfl (.tmp rfl) rfl rfl (by kernel_rfl)) ?_
 refine AL_p rfl rfl (S_lenS (ts := #[]) rfl (.tmp rfl) (by kernel_rfl)) ?_
 refine AL_p rfl rfl (S_subI rfl (.tmp rfl) (AEv.const _) (by omega) (by omega)) ?_
 refine AL_p rfl rfl (S_gtr rfl (.tmp rfl) (.tmp rfl)) ?_
 refine as_ rfl rfl rfl rfl ?_
 refine AL_nil ?_
 refine AC_cond (.tmp rfl) (fun hb4 => ?_) (fun hb4 => ?_)
 ·try simp only [zA, zO, zN, zM, zP, zQ, zD, zF, gd] at hb4
  have hx : nextX (h0 :: h1 :: r) false = ([], 6, h0 :: h1 :: r, false) := nextS_wait hl2 hm (by omega)
  refine AC_seq (AC_region ?_)
  refine AL_p rfl rfl (S_assign rfl (AEv.S _)) ?_
  refine ac rfl rfl rfl ?_
  refine AL_nil (AC_ret ?_)
  refine ret_tmps (ts := [2, 3]) ([(bx, Ob.cells [.S (h0 :: h1 :: r), .bool false])] ++ F) rfl (by decide) rfl (Sub.l (List.Sublist.refl _)) (Conv.refl (Sub.l (List.Sublist.refl _)) _) ⟨_, ⟨by rw [hx], by rw [hx]⟩, rfl⟩ (.inl rfl)
 try simp only [zA, zO, zN, zM, zP, zQ, zD, zF, gd] at hb4
 have hf : ¬ (h0 :: h1 :: r).length < 2 + frN (h0 :: h1 :: r) := by omega
 have hx : nextX (h0 :: h1 :: r) false = ((((h0 :: h1 :: r).drop 2).take (frN (h0 :: h1 :: r))), 0, (h0 :: h1 :: r).drop (2 + frN (h0 :: h1 :: r)), false) := nextS_text hl2 hm hf
 refine AC_skip ?_
 refine AC_seq (AC_region ?_)
 refine mv rfl rfl rfl rfl ?_
 refine AL_p rfl rfl (S_nilCheck rfl (.tmp rfl)) ?_
 refine AL_p rfl rfl (S_field 0 rfl (.tmp rfl) (by kernel_rfl)) ?_
 refine AL_p rfl rfl (S_load 0 rfl (.tmp rfl) rfl rfl (by kernel_rfl)) ?_
 refine mv rfl rfl rfl rfl ?_
 refine AL_p rfl rfl (S_addI rfl (AEv.const _) (.tmp rfl) (by omega) (by omega)) ?_
 refine AL_p rfl rfl ((S_sliceLH (i := 2) (j := 2 + (frN (h0 :: h1 :: r) : Int)) rfl (.tmp rfl) (AEv.const _) (.tmp rfl) (by kernel_rfl) (by omega) (by omega) (by omega)).ofV (V' := .S (((h0 :: h1 :: r).drop 2).take (frN (h0 :: h1 :: r)))) (congrArg AV.S (cut_two _ _))) ?_
 refine as_ rfl rfl rfl rfl ?_
 refine AL_nil (AC_seq (AC_region ?_))
 refine mv rfl rfl rfl rfl ?_
 refine mv rfl rfl rfl rfl ?_
 refine AL_p rfl rfl (S_nilCheck rfl (.tmp rfl)) ?_
 refine AL_p rfl rfl (S_field 0 rfl (.tmp rfl) (by kernel_rfl)) ?_
 refine AL_p rfl rfl (S_load 0 rfl (.tmp rfl) rfl rfl (by kernel_rfl)) ?_
 refine mv rfl rfl rfl rfl ?_
 refine AL_p rfl rfl (S_addI rfl (AEv.const _) (.tmp rfl) (by omega) (by omega)) ?_
 refine AL_p rfl rfl ((S_sliceL rfl (.tmp rfl) (.tmp rfl) (by kernel_rfl) (by omega) (by omega)).ofV (V' := .S ((h0 :: h1 :: r).drop (2 + frN (h0 :: h1 :: r)))) (congrArg AV.S (congrArg (fun n => List.drop n (h0 :: h1 :: r)) (by omega)))) ?_
 refine AL_p rfl rfl (S_nilCheck rfl (.tmp rfl)) ?_
 refine AL_p rfl rfl (S_field 0 rfl (.tmp rfl) (by kernel_rfl)) ?_
 refine AL_step rfl rfl (S_store 0 rfl (.tmp rfl) (.tmp rfl) rfl (by first | exact Nat.le_of_ble_eq_true rfl | simp) rfl (by kernel_rfl)) ?_
 rintro _ _ ⟨rfl, rfl⟩
 refine AL_nil (AC_seq (AC_region ?_))
 refine mv rfl rfl rfl rfl ?_
 refine as_ rfl rfl rfl rfl ?_
 refine ac rfl rfl rfl ?_
 refine AL_nil (AC_ret ?_)
 refine ret_tmps (ts := [2, 3]) ([(bx, Ob.cells [.S ((h0 :: h1 :: r).drop (2 + frN (h0 :: h1 :: r))), .bool false])] ++ F) rfl (by decide) rfl (Sub.l (List.Sublist.refl _)) (Conv.refl (Sub.l (List.Sublist.refl _)) _) ⟨_, ⟨by rw [hx], by rw [hx]⟩, rfl⟩ (.inl rfl)
set_option maxRecDepth 100000 in
theorem frame_Put_ok (t : List UInt8) (ht : t.length ≤ 2048) : PCalls Tryz.prog 12 [.S t] (.tup [.S (frameB t), .int .i64 0]) := by
 intro st
 refine ACalls_of (N := 18) Tryz.func12 (by kernel_rfl) rfl rfl rfl ?_
 refine AC_seq (AC_region ?_)
 refine AL_p rfl rfl (S_assign rfl (AEv.S _)) ?_
 refine ac rfl rfl rfl ?_
 refine AL_nil ?_
 refine AC_seq ?_
 refine AC_seq (AC_region ?_)
 refine mv rfl rfl rfl rfl ?_
 refine AL_p rfl rfl (S_lenS (ts := #[]) rfl (.tmp rfl) (by kernel_rfl)) ?_
 refine AL_p rfl rfl (S_gtr rfl (.tmp rfl) (AEv.const _)) ?_
 refine AL_nil ?_
 refine AC_cond (.tmp rfl) (fun hb1 => ?_) (fun hb1 => ?_)
 ·exfalso; (try simp only [zA, zO, zN, zM, zP, zQ, zD, zF, gd] at hb1); omega
 try simp only [zA, zO, zN, zM, zP, zQ, zD, zF, gd] at hb1
 refine AC_skip ?_
 refine AC_seq (AC_region ?_)
 refine mv rfl rfl rfl rfl ?_
 refine AL_p rfl rfl (S_lenS (ts := #[]) rfl (.tmp rfl) (by kernel_rfl)) ?_
 refine AL_p rfl rfl ((S_conv (k' := .u8) rfl (.tmp rfl) (by kernel_rfl) (by kernel_rfl)).ofV (V' := .int .u8 ((UInt8.ofNat t.length).toNat : Int)) (congrArg (AV.int .u8) (wrap_len _))) ?_
 refine mv rfl rfl rfl rfl ?_
 refine AL_p rfl rfl (S_lenS (ts := #[]) rfl (.tmp rfl) (by kernel_rfl)) ?_
 refine AL_p rfl rfl ((S_shift rfl (by simp) (.tmp rfl) (AEv.const _) (shift_shr _ _ _ _ (by omega) (by simp only [IntKind.bits]; omega))).ofV (V' := .int .i64 ((t.length / 256 : Nat) : Int)) (congrArg (AV.int .i64) (shr_eight _))) ?_
 refine AL_p rfl rfl ((S_conv (k' := .u8) rfl (.tmp rfl) (by kernel_rfl) (by kernel_rfl)).ofV (V' := .int .u8 ((UInt8.ofNat (t.length / 256)).toNat : Int)) (congrArg (AV.int .u8) (wrap_len _))) ?_
 refine AL_p rfl rfl (S_buildSlice (e := 5) 1 rfl (AEvs.cons (.tmp rfl) (AEvs.cons (.tmp rfl) AEvs.nil)) rfl (by kernel_rfl) (by kernel_rfl) (by intro y hy; simp only [List.mem_cons, List.not_mem_nil, or_false] at hy; rcases hy with rfl | rfl <;> exact ⟨rfl, rfl⟩) (by decide) (by decide) (by decide)) ?_
 refine AL_p rfl rfl (S_bytesSl (e := 5) [UInt8.ofNat t.length, UInt8.ofNat (t.length / 256)] rfl (.tmp rfl) rfl (by kernel_rfl) (by kernel_rfl) (by kernel_rfl)) ?_
 refine mv rfl rfl rfl rfl ?_
 refine AL_p rfl rfl (S_cat rfl (.tmp rfl) (.tmp rfl) (by first | omega | (simp; done) | (simp; omega))) ?_
 refine as_ rfl rfl rfl rfl ?_
 refine ac rfl rfl rfl ?_
 refine AL_nil (AC_ret ?_)
 refine ret_tmps (ts := [2, 3]) st rfl (by decide) rfl (Sub.l (List.Sublist.refl _)) (Conv.refl (Sub.l (List.Sublist.refl _)) _) ⟨rfl, rfl⟩ (.inl rfl)
end Go.Proofs.YtdnjeianoioieaaGreatDoor

/-
The walks of Go functions in the logic AL: what each of them answers.
Conditions: those of each theorem.
-/
set_option linter.unusedVariables false
set_option linter.unusedSimpArgs false
namespace Go.Proofs.YtdnjeianoioieaaGreatDoor
open Go.AL Go.NumSpec
set_option maxRecDepth 100000 in
theorem conn_New_ok (F : St) : ACalls Tryz.prog 7 [] ([] ++ F) (fun x st' => ∃ foot', (∃ bc bx, x = .ptr bc 0 ∧ foot' = ((bc, Ob.cells [.ptr bx 0, ownAV .nil 1 (strsV []), ownAV .nil 1 (strsV []), .int .i64 0]) :: (bx, Ob.cells [.S [], .bool false]) :: ownSt .nil 9 1 (strsV []))) ∧ st' = foot' ++ F) := by
 refine ACalls_of (N := 4) Tryz.func7 (by kernel_rfl) rfl rfl rfl ?_
 refine AC_seq (AC_region ?_)
 refine ac rfl rfl rfl ?_
 refine AL_nil (AC_seq (AC_region ?_))
 refine AL_step rfl rfl (S_call rfl AEvs.nil (frame_New_ok F)) ?_
 rintro _ _ ⟨_, ⟨bx, rfl, rfl⟩, rfl⟩
 refine AL_p rfl rfl (S_build (t := 77) (pl := [(0, 1), (1, 1), (2, 1), (3, 1)]) (zs := [.pointer none, .slice none 0 0, .slice none 0 0, .int .i64 0]) rfl (AEvs.cons (.tmp rfl) AEvs.nil) (by kernel_rfl) rfl) ?_
 refine AL_step rfl rfl (S_box rfl (.tmp rfl)) ?_
 rintro _ _ ⟨b3, rfl, rfl⟩
 refine as_ rfl rfl rfl rfl ?_
 refine AL_nil (AC_ret ?_)
 refine ret_tmp (((b3, Ob.cells [.ptr bx 0, ownAV .nil 1 (strsV []), ownAV .nil 1 (strsV []), .int .i64 0]) :: (bx, Ob.cells [.S [], .bool false]) :: ownSt .nil 9 1 (strsV [])) ++ F) rfl rfl (Sub.l (List.Sublist.refl _)) (Conv.refl (Sub.l (List.Sublist.refl _)) _) ⟨_, ⟨b3, bx, rfl, rfl⟩, rfl⟩ (.inl rfl)
set_option maxRecDepth 100000 in
theorem conn_Deaf_ok (bc bx : Nat) (p : Own) (w : List (List UInt8)) (s : List UInt8) (c : Bool) (oc : AV) (tk : Int) (hp : p.ok (strsV w)) (F : St) : ACalls Tryz.prog 8 [.ptr bc 0] (((bc, Ob.cells [.ptr bx 0, ownAV p 1 (strsV w), oc, .int .i64 tk]) :: (bx, Ob.cells [.S s, .bool c]) :: ownSt p 9 1 (strsV w)) ++ F) (fun x st' => ∃ foot', (x = .bool c ∧ foot' = ((bc, Ob.cells [.ptr bx 0, ownAV p 1 (strsV w), oc, .int .i64 tk]) :: (bx, Ob.cells [.S s, .bool c]) :: ownSt p 9 1 (strsV w))) ∧ st' = foot' ++ F) := by
 refine ACalls_of (N := 8) Tryz.func8 (by kernel_rfl) rfl rfl rfl ?_
 refine AC_seq (AC_region ?_)
 refine ac rfl rfl rfl ?_
 refine AL_nil (AC_seq (AC_region ?_))
 refine mv rfl rfl rfl rfl ?_
 refine AL_p rfl rfl (S_nilCheck rfl (.tmp rfl)) ?_
 refine AL_p rfl rfl (S_field 0 rfl (.tmp rfl) (by kernel_rfl)) ?_
 refine AL_p rfl rfl (S_load 0 rfl (.tmp rfl) rfl rfl (by kernel_rfl)) ?_
 refine AL_p rfl rfl (S_keep (S_call rfl (AEvs.cons (.tmp rfl) AEvs.nil) (ACalls.preQ (pre := [_]) (F := _) (frame_Closed_ok bx s c _))) (by rintro _ _ ⟨_, ⟨rfl, rfl⟩, rfl⟩; exact ⟨rfl, rfl⟩)) ?_
 refine as_ rfl rfl rfl rfl ?_
 refine AL_nil (AC_ret ?_)
 refine ret_tmp (((bc, Ob.cells [.ptr bx 0, ownAV p 1 (strsV w), oc, .int .i64 tk]) :: (bx, Ob.cells [.S s, .bool c]) :: ownSt p 9 1 (strsV w)) ++ F) rfl rfl (Sub.l (List.Sublist.refl _)) (Conv.refl (Sub.l (List.Sublist.refl _)) _) ⟨_, ⟨rfl, rfl⟩, rfl⟩ (.inl rfl)
set_option maxRecDepth 100000 in
theorem conn_Waiting_ok (bc bx : Nat) (p : Own) (w : List (List UInt8)) (s : List UInt8) (c : Bool) (oc : AV) (tk : Int) (hp : p.ok (strsV w)) (F : St) : ACalls Tryz.prog 15 [.ptr bc 0] (((bc, Ob.cells [.ptr bx 0, ownAV p 1 (strsV w), oc, .int .i64 tk]) :: (bx, Ob.cells [.S s, .bool c]) :: ownSt p 9 1 (strsV w)) ++ F) (fun x st' => ∃ foot', (x = .int .i64 (w.length : Int) ∧ foot' = ((bc, Ob.cells [.ptr bx 0, ownAV p 1 (strsV w), oc, .int .i64 tk]) :: (bx, Ob.cells [.S s, .bool c]) :: ownSt p 9 1 (strsV w))) ∧ st' = foot' ++ F) := by
 refine ACalls_of (N := 8) Tryz.func15 (by kernel_rfl) rfl rfl rfl ?_
 refine AC_seq (AC_region ?_)
 refine ac rfl rfl rfl ?_
 refine AL_nil (AC_seq (AC_region ?_))
 refine mv rfl rfl rfl rfl ?_
 refine AL_p rfl rfl (S_nilCheck rfl (.tmp rfl)) ?_
 refine AL_p rfl rfl (S_field 1 rfl (.tmp rfl) (by kernel_rfl)) ?_
 refine AL_p rfl rfl (S_load 0 rfl (.tmp rfl) rfl rfl (by kernel_rfl)) ?_
 refine AL_p rfl rfl (by first | exact S_lenM (e := 9) rfl ((AEv.tmp rfl).le (Le_own hp)) (by kernel_rfl) | exact S_len (e := 9) rfl ((AEv.tmp rfl).le (Le_own hp)) (by kernel_rfl)) ?_
 refine as_ rfl rfl rfl rfl ?_
 refine AL_nil (AC_ret ?_)
 refine ret_tmp (((bc, Ob.cells [.ptr bx 0, ownAV p 1 (strsV w), oc, .int .i64 tk]) :: (bx, Ob.cells [.S s, .bool c]) :: ownSt p 9 1 (strsV w)) ++ F) rfl rfl (Sub.l (List.Sublist.refl _)) (Conv.refl (Sub.l (List.Sublist.refl _)) _) ⟨_, ⟨rfl, rfl⟩, rfl⟩ (.inl rfl)
set_option maxRecDepth 100000 in
theorem conn_Taken_ok (bc bx : Nat) (p : Own) (w : List (List UInt8)) (s : List UInt8) (c : Bool) (oc : AV) (tk : Int) (hp : p.ok (strsV w)) (F : St) : ACalls Tryz.prog 20 [.ptr bc 0] (((bc, Ob.cells [.ptr bx 0, ownAV p 1 (strsV w), oc, .int .i64 tk]) :: (bx, Ob.cells [.S s, .bool c]) :: ownSt p 9 1 (strsV w)) ++ F) (fun x st' => ∃ foot', (x = .int .i64 tk ∧ foot' = ((bc, Ob.cells [.ptr bx 0, ownAV p 1 (strsV w), oc, .int .i64 tk]) :: (bx, Ob.cells [.S s, .bool c]) :: ownSt p 9 1 (strsV w))) ∧ st' = foot' ++ F) := by
 refine ACalls_of (N := 7) Tryz.func20 (by kernel_rfl) rfl rfl rfl ?_
 refine AC_seq (AC_region ?_)
 refine ac rfl rfl rfl ?_
 refine AL_nil (AC_seq (AC_region ?_))
 refine mv rfl rfl rfl rfl ?_
 refine AL_p rfl rfl (S_nilCheck rfl (.tmp rfl)) ?_
 refine AL_p rfl rfl (S_field 3 rfl (.tmp rfl) (by kernel_rfl)) ?_
 refine AL_p rfl rfl (S_load 0 rfl (.tmp rfl) rfl rfl (by kernel_rfl)) ?_
 refine as_ rfl rfl rfl rfl ?_
 refine AL_nil (AC_ret ?_)
 refine ret_tmp (((bc, Ob.cells [.ptr bx 0, ownAV p 1 (strsV w), oc, .int .i64 tk]) :: (bx, Ob.cells [.S s, .bool c]) :: ownSt p 9 1 (strsV w)) ++ F) rfl rfl (Sub.l (List.Sublist.refl _)) (Conv.refl (Sub.l (List.Sublist.refl _)) _) ⟨_, ⟨rfl, rfl⟩, rfl⟩ (.inl rfl)
set_option maxRecDepth 100000 in
theorem conn_Over_ok (bc bx : Nat) (p : Own) (w : List (List UInt8)) (s : List UInt8) (c : Bool) (oc : AV) (tk : Int) (hp : p.ok (strsV w)) (F : St) : ACalls Tryz.prog 11 [.ptr bc 0] (((bc, Ob.cells [.ptr bx 0, ownAV p 1 (strsV w), oc, .int .i64 tk]) :: (bx, Ob.cells [.S s, .bool c]) :: ownSt p 9 1 (strsV w)) ++ F) (fun x st' => ∃ foot', (x = .bool (c && decide ((w.length : Int) = 0)) ∧ foot' = ((bc, Ob.cells [.ptr bx 0, ownAV p 1 (strsV w), oc, .int .i64 tk]) :: (bx, Ob.cells [.S s, .bool c]) :: ownSt p 9 1 (strsV w))) ∧ st' = foot' ++ F) := by
 refine ACalls_of (N := 13) Tryz.func11 (by kernel_rfl) rfl rfl rfl ?_
 refine AC_seq (AC_region ?_)
 refine ac rfl rfl rfl ?_
 refine AL_nil (AC_seq (AC_region ?_))
 refine mv rfl rfl rfl rfl ?_
 refine AL_p rfl rfl (S_keep (S_call rfl (AEvs.cons (.tmp rfl) AEvs.nil) (ACalls.preQ (pre := []) (F := _) (conn_Deaf_ok bc bx p w s c oc tk hp _))) (by rintro _ _ ⟨_, ⟨rfl, rfl⟩, rfl⟩; exact ⟨rfl, rfl⟩)) ?_
 refine mv rfl rfl rfl rfl ?_
 refine AL_g rfl rfl (.tmp rfl) rfl (fun hg1 => S_move rfl (.tmp rfl)) ?_
 refine AL_g rfl rfl (.tmp rfl) rfl (fun hg4 => S_nilCheck rfl (AEv.cd (.tmp rfl))) ?_
 refine AL_g rfl rfl (.tmp rfl) rfl (fun hg7 => S_field 1 rfl (AEv.cd (.tmp rfl)) (by kernel_rfl)) ?_
 refine AL_g rfl rfl (.tmp rfl) rfl (fun hg10 => S_load 0 rfl (AEv.cd (.tmp rfl)) rfl rfl (by kernel_rfl)) ?_
 refine AL_g rfl rfl (.tmp rfl) rfl (fun hg13 => by first | exact S_lenM (e := 9) rfl ((AEv.cd (.tmp rfl)).le (Le_own hp)) (by kernel_rfl) | exact S_len (e := 9) rfl ((AEv.cd (.tmp rfl)).le (Le_own hp)) (by kernel_rfl)) ?_
 refine AL_g rfl rfl (.tmp rfl) rfl (fun hg16 => S_eql rfl (AEv.cd (.tmp rfl)) (AEv.const _)) ?_
 refine AL_p rfl rfl (S_and rfl (.tmp rfl) (fun hp19 => (AEv.cd (.tmp rfl)))) ?_
 refine as_ rfl rfl rfl rfl ?_
 refine AL_nil (AC_ret ?_)
 refine ret_tmp (((bc, Ob.cells [.ptr bx 0, ownAV p 1 (strsV w), oc, .int .i64 tk]) :: (bx, Ob.cells [.S s, .bool c]) :: ownSt p 9 1 (strsV w)) ++ F) rfl rfl (Sub.l (List.Sublist.refl _)) (Conv.refl (Sub.l (List.Sublist.refl _)) _) ⟨_, ⟨rfl, rfl⟩, rfl⟩ (.inl rfl)
set_option maxRecDepth 100000 in
theorem conn_Feed_ok (bc bx : Nat) (p : Own) (w : List (List UInt8)) (s : List UInt8) (c : Bool) (oc : AV) (tk : Int) (hp : p.ok (strsV w)) (t : List UInt8) (hs : s.length ≤ 8192) (ht : t.length ≤ 100000) (hw : w.length ≤ 32) (F : St) : ACalls Tryz.prog 9 [.ptr bc 0, .S t] (((bc, Ob.cells [.ptr bx 0, ownAV p 1 (strsV w), oc, .int .i64 tk]) :: (bx, Ob.cells [.S s, .bool c]) :: ownSt p 9 1 (strsV w)) ++ F) (fun x st' => ∃ foot', (∃ p' : Own, p'.ok (strsV (feedC s c w t).2.2.1) ∧ x = .tup [.int .i64 (((feedC s c w t).2.2.1.length : Int) - (w.length : Int)), .int .i64 (feedC s c w t).2.2.2] ∧ foot' = ((bc, Ob.cells [.ptr bx 0, ownAV p' 1 (strsV (feedC s c w t).2.2.1), oc, .int .i64 tk]) :: (bx, Ob.cells [.S (feedC s c w t).1, .bool (feedC s c w t).2.1]) :: ownSt p' 9 1 (strsV (feedC s c w t).2.2.1))) ∧ st' = foot' ++ F) := by
 refine ACalls_of (N := 61) Tryz.func9 (by kernel_rfl) rfl rfl rfl ?_
 refine AC_seq (AC_region ?_)
 refine ac rfl rfl rfl ?_
 refine ac rfl rfl rfl ?_
 refine AL_nil ?_
 refine AC_seq ?_
 refine AC_seq (AC_region ?_)
 refine mv rfl rfl rfl rfl ?_
 refine AL_p rfl rfl (S_nilCheck rfl (.tmp rfl)) ?_
 refine AL_p rfl rfl (S_field 0 rfl (.tmp rfl) (by kernel_rfl)) ?_
 refine AL_p rfl rfl (S_load 0 rfl (.tmp rfl) rfl rfl (by kernel_rfl)) ?_
 refine mv rfl rfl rfl rfl ?_
 refine AL_step rfl rfl (S_call rfl (AEvs.cons (.tmp rfl) (AEvs.cons (.tmp rfl) AEvs.nil)) (ACalls.preQ (pre := [_]) (F := _) (frame_Feed_ok bx s c t hs ht _))) ?_
 rintro _ _ ⟨_, ⟨rfl, rfl⟩, rfl⟩
 refine as_ rfl rfl rfl rfl ?_
 refine AL_nil (AC_seq (AC_region ?_))
 refine mv rfl rfl rfl rfl ?_
 refine AL_p rfl rfl (S_neq rfl (.tmp rfl) (AEv.const _)) ?_
 refine AL_nil ?_
 refine AC_cond (.tmp rfl) (fun hb1 => ?_) (fun hb1 => ?_)
 ·try simp only [zA, zO, zN, zM, zP, zQ, zD, zF, gd] at hb1
  have hx := feed_bad (w := w) hb1
  refine AC_seq (AC_region ?_)
  refine mv rfl rfl rfl rfl ?_
  refine ac rfl rfl rfl ?_
  refine as_ rfl rfl rfl rfl ?_
  refine AL_nil (AC_ret ?_)
  refine ret_tmps (ts := [4, 5]) (((bc, Ob.cells [.ptr bx 0, ownAV p 1 (strsV w), oc, .int .i64 tk]) :: (bx, Ob.cells [.S (putS s c t).1, .bool (putS s c t).2.1]) :: ownSt p 9 1 (strsV w)) ++ F) rfl (by decide) rfl (Sub.l (List.Sublist.refl _)) (Conv.refl (Sub.l (List.Sublist.refl _)) _) ⟨_, ⟨p, by rw [hx]; exact hp, by rewrite [hx]; exact (tup_zero w.length _).symm, by rw [hx]⟩, rfl⟩ (.inl rfl)
 try simp only [zA, zO, zN, zM, zP, zQ, zD, zF, gd] at hb1
 obtain ⟨hx1, hx2, hq8, hcf⟩ := feed_good (w := w) (show (putS s c t).2.2 = 0 by simpa using hb1)
 rw [hx1]
 refine AC_skip ?_
 refine AC_seq (AC_region ?_)
 refine ac rfl rfl rfl ?_
 refine AL_nil ?_
 refine AC_block ?_
 refine AC_loopK (G := List UInt8 × List (List UInt8) × Own) [(0, _)] (fun g => drainC g.1 g.2.1 = drainC (s ++ t) w ∧ g.1.length ≤ 8192 ∧ g.2.1.length ≤ 32 ∧ w.length ≤ g.2.1.length ∧ g.2.2.ok (strsV g.2.1)) (fun g => [(7, .int .i64 ((g.2.1.length : Int) - (w.length : Int)))]) (fun g => (((bc, Ob.cells [.ptr bx 0, ownAV g.2.2 1 (strsV g.2.1), oc, .int .i64 tk]) :: (bx, Ob.cells [.S g.1, .bool false]) :: ownSt g.2.2 9 1 (strsV g.2.1)) ++ F)) (fun g => g.1.length) ((s ++ t, w, p)) (⟨rfl, hq8, hw, Nat.le_refl _, hp⟩) (Sub.l (List.Sublist.refl _)) (.cons rfl (Le.refl _) .nil) (.cons rfl (Le.of_eq (congrArg (AV.int .i64) (by dsimp only; omega))) .nil) ?_
 rintro ⟨s2, w2, p2⟩ ⟨hd, hs2, hw2, hww, hq⟩
 try dsimp only
 simp only [List.cons_append, List.nil_append]
 dsimp only at hd hs2 hw2 hww hq
 refine AC_seq ?_
 refine AC_block ?_
 refine AC_seq (AC_region ?_)
 refine mv rfl rfl rfl rfl ?_
 refine AL_p rfl rfl (S_nilCheck rfl (.tmp rfl)) ?_
 refine AL_p rfl rfl (S_field 0 rfl (.tmp rfl) (by kernel_rfl)) ?_
 refine AL_p rfl rfl (S_load 0 rfl (.tmp rfl) rfl rfl (by kernel_rfl)) ?_
 refine AL_step rfl rfl (S_call rfl (AEvs.cons (.tmp rfl) AEvs.nil) (ACalls.preQ (pre := [_]) (F := _) (frame_Next_ok bx s2 false (by omega) _))) ?_
 rintro _ _ ⟨_, ⟨rfl, rfl⟩, rfl⟩
 rw [nextX_open]
 generalize hnx : nextS s2 = nx
 refine mv rfl rfl rfl rfl ?_
 refine AL_p rfl rfl (S_extract 0 rfl (.tmp rfl) rfl) ?_
 refine AL_p rfl rfl (S_extract 1 rfl (.tmp rfl) rfl) ?_
 refine as_ rfl rfl rfl rfl ?_
 refine as_ rfl rfl rfl rfl ?_
 refine AL_nil ?_
 refine AC_seq ?_
 refine AC_block ?_
 refine AC_seq (AC_region ?_)
 refine mv rfl rfl rfl rfl ?_
 refine AL_p rfl rfl (S_eql rfl (.tmp rfl) (AEv.const _)) ?_
 refine as_ rfl rfl rfl rfl ?_
 refine AL_nil ?_
 refine AC_cond (.tmp rfl) (fun hb2 => ?_) (fun hb2 => ?_)
 ·try simp only [zA, zO, zN, zM, zP, zQ, zD, zF, gd] at hb2
  have hx : drainC (s ++ t) w = (s2, false, w2, 0) := by rw [← hd]; exact drain_none (by rw [hnx]; exact hb2)
  have hn6 : nx = ([], 6, s2, false) := by rw [← hnx]; exact next_six (by rw [hnx]; exact hb2)
  refine AC_seq (AC_region ?_)
  refine mv rfl rfl rfl rfl ?_
  refine as_ rfl rfl rfl rfl ?_
  refine ac rfl rfl rfl ?_
  refine AL_nil (AC_ret ?_)
  refine ret_tmps (ts := [4, 5]) (((bc, Ob.cells [.ptr bx 0, ownAV p2 1 (strsV w2), oc, .int .i64 tk]) :: (bx, Ob.cells [.S nx.2.2.1, .bool nx.2.2.2]) :: ownSt p2 9 1 (strsV w2)) ++ F) rfl (by decide) rfl (Sub.l (List.Sublist.refl _)) (Conv.refl (Sub.l (List.Sublist.refl _)) _) ⟨_, ⟨p2, by rw [hx2, hx]; exact hq, by rw [hx2, hx], by rw [hx2, hx, hn6]⟩, rfl⟩ (.inl rfl)
 try simp only [zA, zO, zN, zM, zP, zQ, zD, zF, gd] at hb2
 have h6 : ¬ nx.2.1 = 6 := hb2
 refine AC_seq (AC_region ?_)
 refine mv rfl rfl rfl rfl ?_
 refine AL_p rfl rfl (S_neq rfl (.tmp rfl) (AEv.const _)) ?_
 refine as_ rfl rfl rfl rfl ?_
 refine AL_nil ?_
 refine AC_cond (.tmp rfl) (fun hb3 => ?_) (fun hb3 => ?_)
 ·try simp only [zA, zO, zN, zM, zP, zQ, zD, zF, gd] at hb3
  have hnb : nx = ([], 2, [], true) := by rw [← hnx]; exact next_bad (by rw [hnx]; exact h6) (by rw [hnx]; exact hb3)
  have hx : drainC (s ++ t) w = (nx.2.2.1, true, w2, nx.2.1) := by rw [← hd, drain_bad (by rw [hnx]; exact hb3) (by rw [hnx]; exact h6), hnx]
  refine AC_seq (AC_region ?_)
  refine mv rfl rfl rfl rfl ?_
  refine mv rfl rfl rfl rfl ?_
  refine as_ rfl rfl rfl rfl ?_
  refine as_ rfl rfl rfl rfl ?_
  refine AL_nil (AC_ret ?_)
  refine ret_tmps (ts := [4, 5]) (((bc, Ob.cells [.ptr bx 0, ownAV p2 1 (strsV w2), oc, .int .i64 tk]) :: (bx, Ob.cells [.S nx.2.2.1, .bool nx.2.2.2]) :: ownSt p2 9 1 (strsV w2)) ++ F) rfl (by decide) rfl (Sub.l (List.Sublist.refl _)) (Conv.refl (Sub.l (List.Sublist.refl _)) _) ⟨_, ⟨p2, by rw [hx2, hx]; exact hq, by rw [hx2, hx], by rw [hx2, hx, show nx.2.2.2 = true by rw [hnb]]⟩, rfl⟩ (.inl rfl)
 try simp only [zA, zO, zN, zM, zP, zQ, zD, zF, gd] at hb3
 have h0 : nx.2.1 = 0 := by simpa using hb3
 have hls := nextS_less (s := s2) (by rw [hnx]; exact h0)
 rw [hnx] at hls
 have hls1 := hls.1
 refine AC_seq (AC_region ?_)
 refine mv rfl rfl rfl rfl ?_
 refine AL_p rfl rfl (S_nilCheck rfl (.tmp rfl)) ?_
 refine AL_p rfl rfl (S_field 1 rfl (.tmp rfl) (by kernel_rfl)) ?_
 refine AL_p rfl rfl (S_load 0 rfl (.tmp rfl) rfl rfl (by kernel_rfl)) ?_
 refine AL_p rfl rfl (by first | exact S_lenM (e := 9) rfl ((AEv.tmp rfl).le (Le_own hq)) (by kernel_rfl) | exact S_len (e := 9) rfl ((AEv.tmp rfl).le (Le_own hq)) (by kernel_rfl)) ?_
 refine AL_p rfl rfl (S_geq rfl (.tmp rfl) (AEv.const _)) ?_
 refine as_ rfl rfl rfl rfl ?_
 refine AL_nil ?_
 refine AC_cond (.tmp rfl) (fun hb4 => ?_) (fun hb4 => ?_)
 ·try simp only [zA, zO, zN, zM, zP, zQ, zD, zF, gd] at hb4
  have hwl : (strsV w2).length = w2.length := by simp [strsV]
  have hx : drainC (s ++ t) w = ([], true, w2, 2) := by rw [← hd]; exact drain_full (by rw [hnx]; exact h0) (by omega)
  refine AC_seq (AC_region ?_)
  refine mv rfl rfl rfl rfl ?_
  refine AL_p rfl rfl (S_nilCheck rfl (.tmp rfl)) ?_
  refine AL_p rfl rfl (S_field 0 rfl (.tmp rfl) (by kernel_rfl)) ?_
  refine AL_p rfl rfl (S_load 0 rfl (.tmp rfl) rfl rfl (by kernel_rfl)) ?_
  refine AL_step rfl rfl (S_call rfl (AEvs.cons (.tmp rfl) AEvs.nil) (ACalls.preQ (pre := [_]) (F := _) (frame_Close_ok bx nx.2.2.1 nx.2.2.2 _))) ?_
  rintro _ _ ⟨_, ⟨rfl, rfl⟩, rfl⟩
  refine AL_nil (AC_seq (AC_region ?_))
  refine mv rfl rfl rfl rfl ?_
  refine as_ rfl rfl rfl rfl ?_
  refine ac rfl rfl rfl ?_
  refine AL_nil (AC_ret ?_)
  refine ret_tmps (ts := [4, 5]) (((bc, Ob.cells [.ptr bx 0, ownAV p2 1 (strsV w2), oc, .int .i64 tk]) :: (bx, Ob.cells [.S [], .bool true]) :: ownSt p2 9 1 (strsV w2)) ++ F) rfl (by decide) rfl (Sub.l (List.Sublist.refl _)) (Conv.refl (Sub.l (List.Sublist.refl _)) _) ⟨_, ⟨p2, by rw [hx2, hx]; exact hq, by rw [hx2, hx], by rw [hx2, hx]⟩, rfl⟩ (.inl rfl)
 try simp only [zA, zO, zN, zM, zP, zQ, zD, zF, gd] at hb4
 have hwl : (strsV w2).length = w2.length := by simp [strsV]
 refine AC_skip ?_
 refine AC_region ?_
 refine mv rfl rfl rfl rfl ?_
 refine mv rfl rfl rfl rfl ?_
 refine AL_p rfl rfl (S_nilCheck rfl (.tmp rfl)) ?_
 refine AL_p rfl rfl (S_field 1 rfl (.tmp rfl) (by kernel_rfl)) ?_
 refine AL_p rfl rfl (S_load 0 rfl (.tmp rfl) rfl rfl (by kernel_rfl)) ?_
 refine mv rfl rfl rfl rfl ?_
 refine AL_p rfl rfl (S_buildSlice (e := 9) 1 rfl (AEvs.cons (.tmp rfl) AEvs.nil) rfl (by kernel_rfl) (by kernel_rfl) (by intro y hy; simp only [List.mem_cons, List.not_mem_nil, or_false] at hy; rcases hy with rfl <;> exact ⟨rfl, rfl⟩) (by decide) (by decide) (by decide)) ?_
 refine AL_step rfl rfl (S_appendM (f := (fun y => AV.S y)) (l := w2) (l2 := [nx.1]) (e := 9) (size := 1) (bytes := 16) (p := p2) ([_, _]) (F) rfl (.tmp rfl) (.tmp rfl) rfl hq (by kernel_rfl) (by simp) (fun _ => ⟨rfl, rfl⟩) (by simp only [List.length_singleton]; omega) (by simp only [List.length_singleton]; omega)) ?_
 rintro _ _ ⟨b8, k8, cap8, hx8, rfl, rfl⟩
 refine AL_p rfl rfl (S_nilCheck rfl (.tmp rfl)) ?_
 refine AL_p rfl rfl (S_field 1 rfl (.tmp rfl) (by kernel_rfl)) ?_
 refine AL_step rfl rfl (S_store 0 rfl (.tmp rfl) (.tmp rfl) rfl (by first | exact Nat.le_of_ble_eq_true rfl | simp) (by first | rfl | exact ownAV_one _ _ _) (by kernel_rfl)) ?_
 rintro _ _ ⟨rfl, rfl⟩
 refine AL_nil ?_
 refine AC_region ?_
 refine mv rfl rfl rfl rfl ?_
 refine AL_p rfl rfl (S_addI rfl (.tmp rfl) (AEv.const _) (by omega) (by omega)) ?_
 refine as_ rfl rfl rfl rfl ?_
 refine AL_nil ?_
 refine ⟨(nx.2.2.1, w2 ++ [nx.1], .row b8 k8 cap8), ⟨by dsimp only; rw [← hd, drain_more (s := s2) (w := w2) (by rw [hnx]; exact h0) (by omega), hnx], by dsimp only; omega, by dsimp only; rw [List.length_append, List.length_singleton]; omega, by dsimp only; rw [List.length_append]; omega, by dsimp only; exact hx8⟩, by dsimp only; omega, by dsimp only; rw [show nx.2.2.2 = false from hls.2]; exact (Sub.l (List.Sublist.refl _)), (.cons rfl (Le.of_eq (congrArg (AV.int .i64) (by dsimp only; rw [List.length_append, List.length_singleton]; omega))) .nil), (.cons rfl (Le.refl _) .nil)⟩
set_option maxRecDepth 100000 in
theorem clone_ok (l : List (List UInt8)) (hl : l.length ≤ 1000) (F : St) : ACalls Tryz.prog 31 [.sl (strsV l)] ([] ++ F) (fun x st' => ∃ foot', (∃ p : Own, p.ok (strsV l) ∧ x = ownAV p 1 (strsV l) ∧ foot' = ownSt p 9 1 (strsV l)) ∧ st' = foot' ++ F) := by
 refine ACalls_of (N := 8) Tryz.func31 (by kernel_rfl) rfl rfl rfl ?_
 have hln : (strsV l).length = l.length := by simp [strsV]
 refine AC_seq (AC_region ?_)
 refine ac rfl rfl rfl ?_
 refine AL_nil ?_
 refine AC_seq ?_
 refine AC_seq (AC_region ?_)
 refine mv rfl rfl rfl rfl ?_
 refine AL_step rfl rfl (S_eqlNilSl (e := 9) rfl (.tmp rfl) (AEv.const _) (by kernel_rfl)) ?_
 rintro _ st9 ⟨c, rfl, hc, h9⟩
 rw [h9]
 clear h9 st9
 refine AL_nil ?_
 refine AC_cond (.tmp rfl) (fun hb1 => ?_) (fun hb1 => ?_)
 ·try simp only [zA, zO, zN, zM, zP, zQ, zD, zF, gd] at hb1
  have hnil := hc hb1
  refine AC_seq (AC_region ?_)
  refine ac rfl rfl rfl ?_
  refine AL_nil (AC_ret ?_)
  refine ret_tmp ([] ++ F) rfl rfl (Sub.l (List.Sublist.refl _)) (Conv.refl (Sub.l (List.Sublist.refl _)) _) ⟨[], ⟨.nil, hnil, rfl, rfl⟩, rfl⟩ (.inl rfl)
 try simp only [zA, zO, zN, zM, zP, zQ, zD, zF, gd] at hb1
 refine AC_skip ?_
 refine AC_seq (AC_region ?_)
 refine AL_step rfl rfl (S_build0 (e := 9) rfl rfl (by kernel_rfl) (by kernel_rfl)) ?_
 rintro _ st9 ⟨A, rfl, h9⟩
 rw [h9]
 clear h9 st9
 refine mv rfl rfl rfl rfl ?_
 refine AL_step rfl rfl (S_appendEmpAll (e := 9) (size := 1) (bytes := 16) rfl (.tmp rfl) (.tmp rfl) (by kernel_rfl) (strsV_one l) (by omega) (by omega)) ?_
 rintro _ _ ⟨p, hp, rfl, rfl⟩
 refine as_ rfl rfl rfl rfl ?_
 refine AL_nil (AC_ret ?_)
 refine ret_tmp (ownSt p 9 1 (strsV l) ++ F) rfl rfl (Sub.l (List.Sublist.refl _)) (Conv.refl (Sub.l (List.Sublist.refl _)) _) ⟨_, ⟨p, hp, rfl, rfl⟩, rfl⟩ (.inl rfl)
set_option maxRecDepth 100000 in
set_option maxHeartbeats 2000000 in
theorem conn_Next_ok (bc bx : Nat) (p : Own) (w : List (List UInt8)) (s : List UInt8) (c : Bool) (oc : AV) (tk : Int) (hp : p.ok (strsV w)) (hw : w.length ≤ 1000) (htk : 0 ≤ tk ∧ tk ≤ 1000000) (F : St) (hG : ∀ r, r ∈ Gs tabs → r ∈ F) : ACalls Tryz.prog 10 [.ptr bc 0] (((bc, Ob.cells [.ptr bx 0, ownAV p 1 (strsV w), oc, .int .i64 tk]) :: (bx, Ob.cells [.S s, .bool c]) :: ownSt p 9 1 (strsV w)) ++ F) (fun x st' => ∃ foot', (∃ p' : Own, p'.ok (strsV w.tail) ∧ x = .tup [.agg (askL (askN w tk) (waitC w).1 (waitC w).2.1), .int .i64 (waitC w).2.2] ∧ foot' = ((bc, Ob.cells [.ptr bx 0, ownAV p' 1 (strsV w.tail), oc, .int .i64 (tookN w tk)]) :: (bx, Ob.cells [.S s, .bool c]) :: ownSt p' 9 1 (strsV w.tail))) ∧ st' = foot' ++ F) := by
 refine ACalls_of (N := 51) Tryz.func10 (by kernel_rfl) rfl rfl rfl ?_
 refine AC_seq (AC_region ?_)
 refine AL_step rfl rfl (S_alloc [.int .i64 0, .int .i64 0, .int .i64 0, .int .u64 0, .string ⟨#[]⟩, .slice none 0 0, .slice none 0 0, .slice none 0 0, .int .i64 0, .int .i64 0, .int .i64 0, .int .i64 0, .int .i64 0, .int .i64 0, .int .i64 0, .string ⟨#[]⟩, .slice none 0 0, .int .i64 0, .string ⟨#[]⟩] rfl (by kernel_rfl)) ?_
 rintro _ _ ⟨b2, rfl, rfl⟩
 refine ac rfl rfl rfl ?_
 refine AL_nil ?_
 refine AC_seq ?_
 refine AC_seq (AC_region ?_)
 refine mv rfl rfl rfl rfl ?_
 refine AL_p rfl rfl (S_nilCheck rfl (.tmp rfl)) ?_
 refine AL_p rfl rfl (S_field 1 rfl (.tmp rfl) (by kernel_rfl)) ?_
 refine AL_p rfl rfl (S_load 1 rfl (.tmp rfl) rfl rfl (by kernel_rfl)) ?_
 refine AL_p rfl rfl (by first | exact S_lenM (e := 9) rfl ((AEv.tmp rfl).le (Le_own hp)) (by kernel_rfl) | exact S_len (e := 9) rfl ((AEv.tmp rfl).le (Le_own hp)) (by kernel_rfl)) ?_
 refine AL_p rfl rfl (S_eql rfl (.tmp rfl) (AEv.const _)) ?_
 refine AL_nil ?_
 refine AC_cond (.tmp rfl) (fun hb2 => ?_) (fun hb2 => ?_)
 ·try simp only [zA, zO, zN, zM, zP, zQ, zD, zF, gd] at hb2
  obtain rfl : w = [] := by
   cases w with
   | nil => rfl
   | cons a b => exfalso; (try simp only [strsV, List.length_map, List.length_cons] at hb2); omega
  refine AC_seq (AC_region ?_)
  refine AL_p rfl rfl (S_build (t := 37) (pl := [(0, 1), (1, 16), (17, 1), (18, 1)]) (zs := [.int .i64 0, .int .i64 0, .int .i64 0, .int .u64 0, .string ⟨#[]⟩, .slice none 0 0, .slice none 0 0, .slice none 0 0, .int .i64 0, .int .i64 0, .int .i64 0, .int .i64 0, .int .i64 0, .int .i64 0, .int .i64 0, .string ⟨#[]⟩, .slice none 0 0, .int .i64 0, .string ⟨#[]⟩]) rfl AEvs.nil (by kernel_rfl) rfl) ?_
  refine AL_step rfl rfl (S_storeW 0 rfl (.tmp rfl) (.tmp rfl) rfl rfl rfl (by kernel_rfl)) ?_
  rintro _ _ ⟨rfl, rfl⟩
  refine ac rfl rfl rfl ?_
  refine AL_nil (AC_ret ?_)
  refine ret_outs (((bc, Ob.cells [.ptr bx 0, ownAV p 1 (strsV []), oc, .int .i64 tk]) :: (bx, Ob.cells [.S s, .bool c]) :: ownSt p 9 1 (strsV [])) ++ F) rfl (by decide) (OutsR.row 0 rfl rfl (by kernel_rfl) (OutsR.tmp rfl OutsR.nil)) (Sub.l (List.Sublist.cons _ (List.Sublist.refl _))) (Conv.le (Sub.l (List.Sublist.cons _ (List.Sublist.refl _))) (Les.tup (.cons (Les.agg (.cons (Le.refl _) (.cons (Le.refl _) (.cons (Le.refl _) (.cons (Le.refl _) (.cons (Le.refl _) (.cons (Le.nils) (.cons (Le.nils) (.cons (Le.nils) (.cons (Le.refl _) (.cons (Le.refl _) (.cons (Le.refl _) (.cons (Le.refl _) (.cons (Le.refl _) (.cons (Le.refl _) (.cons (Le.refl _) (.cons (Le.refl _) (.cons (Le.nils) (.cons (Le.refl _) (.cons (Le.refl _) .nil)))))))))))))))))))) (.cons (Le.refl _) .nil)))) ⟨_, ⟨p, hp, rfl, rfl⟩, rfl⟩ (.inl rfl)
 try simp only [zA, zO, zN, zM, zP, zQ, zD, zF, gd] at hb2
 obtain ⟨v, w, rfl⟩ : ∃ v w', w = v :: w' := by
  cases w with
  | nil => exact absurd rfl hb2
  | cons n l => exact ⟨n, l, rfl⟩
 simp only [List.length_cons] at hw
 have hln : (strsV (v :: w)).length = w.length + 1 := by simp [strsV]
 refine AC_skip ?_
 refine AC_seq (AC_region ?_)
 refine mv rfl rfl rfl rfl ?_
 refine AL_p rfl rfl (S_nilCheck rfl (.tmp rfl)) ?_
 refine AL_p rfl rfl (S_field 1 rfl (.tmp rfl) (by kernel_rfl)) ?_
 refine AL_p rfl rfl (S_load 1 rfl (.tmp rfl) rfl rfl (by kernel_rfl)) ?_
 refine AL_p rfl rfl (S_elem (e := 9) (c := .S v) (i := 0) 1 rfl ((AEv.tmp rfl).le (Le_own hp)) (AEv.const _) (by kernel_rfl) (by kernel_rfl) (by omega) rfl rfl) ?_
 refine AL_p rfl rfl (S_loadP rfl (.tmp rfl) rfl (by kernel_rfl)) ?_
 refine as_ rfl rfl rfl rfl ?_
 refine AL_nil (AC_seq (AC_region ?_))
 refine mv rfl rfl rfl rfl ?_
 refine mv rfl rfl rfl rfl ?_
 refine AL_p rfl rfl (S_nilCheck rfl (.tmp rfl)) ?_
 refine AL_p rfl rfl (S_field 1 rfl (.tmp rfl) (by kernel_rfl)) ?_
 refine AL_p rfl rfl (S_load 1 rfl (.tmp rfl) rfl rfl (by kernel_rfl)) ?_
 refine AL_p rfl rfl (S_cut (e := 9) (i := 1) (j := (strsV (v :: w)).length) 1 rfl ((AEv.tmp rfl).le (Le_own hp)) ⟨_, AEv.const _⟩ rfl (by kernel_rfl) (by kernel_rfl) (fun y hy => ((strsV_one (v :: w)) y hy).1) (by rw [hln]; omega) (by rw [hln]; omega)) ?_
 refine AL_step rfl rfl (S_call rfl (AEvs.cons ((AEv.tmp rfl).le (Le.of_eq (by rw [List.take_of_length_le (Nat.le_refl _)]; rfl))) AEvs.nil) (ACalls.pre (foot := []) (clone_ok w (by omega)) [_, _, _] (ownSt p 9 1 (strsV (v :: w)) ++ F))) ?_
 rintro _ _ ⟨_, ⟨p2, hp2, rfl, rfl⟩, rfl⟩
 refine AL_p rfl rfl (S_nilCheck rfl (.tmp rfl)) ?_
 refine AL_p rfl rfl (S_field 1 rfl (.tmp rfl) (by kernel_rfl)) ?_
 refine AL_step rfl rfl (S_store 1 rfl (.tmp rfl) (.tmp rfl) rfl (by first | exact Nat.le_of_ble_eq_true rfl | simp) (by first | rfl | exact ownAV_one _ _ _) (by kernel_rfl)) ?_
 rintro _ _ ⟨rfl, rfl⟩
 refine AL_nil (AC_seq (AC_region ?_))
 refine mv rfl rfl rfl rfl ?_
 refine AL_p rfl rfl (S_nilCheck rfl (.tmp rfl)) ?_
 refine AL_p rfl rfl (S_field 3 rfl (.tmp rfl) (by kernel_rfl)) ?_
 refine AL_p rfl rfl (S_load 1 rfl (.tmp rfl) rfl rfl (by kernel_rfl)) ?_
 refine AL_p rfl rfl (S_addI rfl (.tmp rfl) (AEv.const _) (by omega) (by omega)) ?_
 refine AL_p rfl rfl (S_nilCheck rfl (.tmp rfl)) ?_
 refine AL_p rfl rfl (S_field 3 rfl (.tmp rfl) (by kernel_rfl)) ?_
 refine AL_step rfl rfl (S_store 1 rfl (.tmp rfl) (.tmp rfl) rfl (by first | exact Nat.le_of_ble_eq_true rfl | simp) rfl (by kernel_rfl)) ?_
 rintro _ _ ⟨rfl, rfl⟩
 refine AL_nil (AC_seq (AC_region ?_))
 refine mv rfl rfl rfl rfl ?_
 refine AL_p rfl rfl (S_gcall rfl (AEvs.cons (.tmp rfl) AEvs.nil) ((ask_Of_ok v) _ (fun r hr => by first | exact hst r (List.mem_cons_of_mem _ (List.mem_cons_of_mem _ hr)) | (repeat (first | exact hG r hr | refine List.mem_cons_of_mem _ ?_ | refine List.mem_append_right _ ?_))))) ?_
 refine mv rfl rfl rfl rfl ?_
 refine AL_p rfl rfl (S_extract 0 rfl (.tmp rfl) rfl) ?_
 refine AL_p rfl rfl (S_extract 1 rfl (.tmp rfl) rfl) ?_
 refine AL_step rfl rfl (S_alloc [.int .i64 0, .int .i64 0, .int .u64 0, .string ⟨#[]⟩, .slice none 0 0, .slice none 0 0, .slice none 0 0, .int .i64 0, .int .i64 0, .int .i64 0, .int .i64 0, .int .i64 0, .int .i64 0, .int .i64 0, .string ⟨#[]⟩, .slice none 0 0] rfl (by kernel_rfl)) ?_
 rintro _ _ ⟨b5, rfl, rfl⟩
 refine AL_step rfl rfl (S_storeW 0 rfl (.tmp rfl) (.tmp rfl) rfl rfl rfl (by kernel_rfl)) ?_
 rintro _ _ ⟨rfl, rfl⟩
 refine as_ rfl rfl rfl rfl ?_
 refine AL_nil ?_
 refine AC_seq ?_
 refine AC_plan (σ := [(0, 0), (1, 0), (2, 0), (3, 0), (4, 0), (5, 0), (6, 0), (7, 0), (8, 0), (9, 0), (10, 2), (11, 0)]) (by kernel_rfl) ((b5, Ob.cells (calL (ofA v))) :: (bc, Ob.cells [.ptr bx 0, ownAV p2 1 (strsV w), oc, .int .i64 (tk + 1)]) :: Gs tabs) (by kernel_rfl) (fun r hr => by
  rcases List.mem_cons.1 hr with rfl | hr
  ·exact List.mem_cons_self
  ·rcases List.mem_cons.1 hr with rfl | hr
   ·exact List.mem_cons_of_mem _ (List.mem_cons_of_mem _ List.mem_cons_self)
   ·repeat (first | exact hG r hr | refine List.mem_cons_of_mem _ ?_ | refine List.mem_append_right _ ?_)) ?_
 refine AG.f rfl rfl (fun st' hst => Q_p rfl (S_move rfl (.tmp rfl))) ?_
 refine AG.f rfl rfl (fun st' hst => Q_p rfl (S_nilCheck rfl (.tmp rfl))) ?_
 refine AG.f rfl rfl (fun st' hst => Q_p rfl (S_field 3 rfl (.tmp rfl) (by kernel_rfl))) ?_
 refine AG.f rfl rfl (fun st' hst => Q_p rfl (S_loadM rfl (.tmp rfl) (hst _ (List.mem_of_getElem? (i := 1) rfl)) rfl (by kernel_rfl))) ?_
 refine AG.f rfl rfl (fun st' hst => Q_p rfl (S_loadNM (m := 16) rfl (.tmp rfl) (hst _ (List.mem_of_getElem? (i := 0) rfl)) (by kernel_rfl) (by first | exact Nat.le_of_ble_eq_true rfl | (simp; omega) | simp))) ?_
 refine AG.f rfl rfl (fun st' hst => Q_p rfl (S_move rfl (.tmp rfl))) ?_
 refine AG.f rfl rfl (fun st' hst => Q_p rfl (S_gcall rfl (AEvs.cons (.tmp rfl) AEvs.nil) ((fail_Code_ok (ofAE v)) _ (fun r hr => by first | exact hst r (List.mem_cons_of_mem _ (List.mem_cons_of_mem _ hr)) | (repeat (first | exact hG r hr | refine List.mem_cons_of_mem _ ?_ | refine List.mem_append_right _ ?_)))))) ?_
 refine AG.f rfl rfl (fun st' hst => Q_p rfl (S_move rfl (.tmp rfl))) ?_
 refine AG.f rfl rfl (fun st' hst => Q_p rfl (S_gcall rfl (AEvs.cons (.tmp rfl) AEvs.nil) ((fail_Text_ok (ofAE v) (by have := (ofAE_short v).path; omega) (by have := (ofAE_short v).text; unfold erText at this; omega)) _ (fun r hr => by first | exact hst r (List.mem_cons_of_mem _ (List.mem_cons_of_mem _ hr)) | (repeat (first | exact hG r hr | refine List.mem_cons_of_mem _ ?_ | refine List.mem_append_right _ ?_)))))) ?_
 refine AG.f rfl rfl (fun st' hst => Q_p rfl (S_build (t := 37) (pl := [(0, 1), (1, 16), (17, 1), (18, 1)]) (zs := [.int .i64 0, .int .i64 0, .int .i64 0, .int .u64 0, .string ⟨#[]⟩, .slice none 0 0, .slice none 0 0, .slice none 0 0, .int .i64 0, .int .i64 0, .int .i64 0, .int .i64 0, .int .i64 0, .int .i64 0, .int .i64 0, .string ⟨#[]⟩, .slice none 0 0, .int .i64 0, .string ⟨#[]⟩]) rfl (AEvs.cons (.tmp rfl) (AEvs.cons (.tmp rfl) (AEvs.cons (.tmp rfl) (AEvs.cons (.tmp rfl) AEvs.nil)))) (by kernel_rfl) rfl)) ?_
 refine AG.h rfl rfl rfl (S_storeW 1 rfl (.tmp rfl) (.tmp rfl) rfl rfl rfl (by kernel_rfl)) ?_
 rintro _ _ ⟨rfl, rfl⟩
 refine AG.f rfl rfl (fun st' hst => Q_p rfl (S_assign rfl (AEv.const _))) ?_
 refine AG.nil ?_
 refine AC_ret ?_
 refine ret_outs (((bc, Ob.cells [.ptr bx 0, ownAV p2 1 (strsV w), oc, .int .i64 (tk + 1)]) :: (bx, Ob.cells [.S s, .bool c]) :: ownSt p2 9 1 (strsV w)) ++ F) rfl (by decide) (OutsR.row 1 rfl rfl (by kernel_rfl) (OutsR.tmp rfl OutsR.nil)) (Sub.l (.cons _ (.cons _ (.cons_cons _ (.cons_cons _ (List.Sublist.append (List.Sublist.refl _) (List.sublist_append_right _ _))))))) (Conv.refl (Sub.l (.cons _ (.cons _ (.cons_cons _ (.cons_cons _ (List.Sublist.append (List.Sublist.refl _) (List.sublist_append_right _ _))))))) _) ⟨_, ⟨p2, hp2, rfl, rfl⟩, rfl⟩ (.inl rfl)
end Go.Proofs.YtdnjeianoioieaaGreatDoor

/-
The walks of Go functions in the logic AL: what each of them answers.
Conditions: those of each theorem.
-/
set_option linter.unusedVariables false
set_option linter.unusedSimpArgs false
namespace Go.Proofs.YtdnjeianoioieaaGreatDoor
open Go.AL Go.NumSpec
set_option maxRecDepth 100000 in
theorem book_Cut_ok (s : List UInt8) (n : Nat) : PCalls Tryz.prog 13 [.S s, .int .i64 (n : Int)] (.S (s.take n)) := by
 intro st
 refine ACalls_of (N := 13) Tryz.func13 (by kernel_rfl) rfl rfl rfl ?_
 refine AC_seq (AC_region ?_)
 refine AL_p rfl rfl (S_assign rfl (AEv.S _)) ?_
 refine AL_nil ?_
 refine AC_seq ?_
 refine AC_seq (AC_region ?_)
 refine mv rfl rfl rfl rfl ?_
 refine AL_p rfl rfl (S_lenS (ts := #[]) rfl (.tmp rfl) (by kernel_rfl)) ?_
 refine mv rfl rfl rfl rfl ?_
 refine AL_p rfl rfl (S_gtr rfl (.tmp rfl) (.tmp rfl)) ?_
 refine AL_nil ?_
 refine AC_cond (.tmp rfl) (fun hb1 => ?_) (fun hb1 => ?_)
 ·try simp only [zA, zO, zN, zM, zP, zQ, zD, zF, gd] at hb1
  refine AC_seq (AC_region ?_)
  refine mv rfl rfl rfl rfl ?_
  refine mv rfl rfl rfl rfl ?_
  refine AL_p rfl rfl ((S_sliceH rfl (.tmp rfl) (.tmp rfl) (by kernel_rfl) (by omega) (by omega)).ofV (V' := .S (s.take n)) (congrArg AV.S (congrArg (fun k => List.take k s) (Int.toNat_natCast n)))) ?_
  refine as_ rfl rfl rfl rfl ?_
  refine AL_nil (AC_ret ?_)
  refine ret_tmp st rfl rfl (Sub.l (List.Sublist.refl _)) (Conv.refl (Sub.l (List.Sublist.refl _)) _) ⟨rfl, rfl⟩ (.inl rfl)
 try simp only [zA, zO, zN, zM, zP, zQ, zD, zF, gd] at hb1
 have hx : s.take n = s := List.take_of_length_le (by omega)
 refine AC_skip ?_
 refine AC_seq (AC_region ?_)
 refine mv rfl rfl rfl rfl ?_
 refine as_ rfl rfl rfl rfl ?_
 refine AL_nil (AC_ret ?_)
 refine ret_tmp st rfl rfl (Sub.l (List.Sublist.refl _)) (Conv.refl (Sub.l (List.Sublist.refl _)) _) ⟨by rw [hx], rfl⟩ (.inl rfl)
set_option maxRecDepth 100000 in
theorem book_Below_ok (x n : Int) (hn : 0 < n) (hm : n ≤ 1000000) : PCalls Tryz.prog 14 [.int .i64 x, .int .i64 n] (.int .i64 (belowI x n)) := by
 intro st
 refine ACalls_of (N := 14) Tryz.func14 (by kernel_rfl) rfl rfl rfl ?_
 have hb := tmod_bnd x hn
 refine AC_seq (AC_region ?_)
 refine ac rfl rfl rfl ?_
 refine AL_nil (AC_seq (AC_region ?_))
 refine mv rfl rfl rfl rfl ?_
 refine mv rfl rfl rfl rfl ?_
 refine AL_p rfl rfl (S_rem rfl (.tmp rfl) (.tmp rfl) (by omega)) ?_
 refine as_ rfl rfl rfl rfl ?_
 refine AL_nil ?_
 refine AC_seq ?_
 refine AC_seq (AC_region ?_)
 refine mv rfl rfl rfl rfl ?_
 refine AL_p rfl rfl (S_lss rfl (.tmp rfl) (AEv.const _)) ?_
 refine AL_nil ?_
 refine AC_cond (.tmp rfl) (fun hb1 => ?_) (fun hb1 => ?_)
 ·try simp only [zA, zO, zN, zM, zP, zQ, zD, zF, gd] at hb1
  have hx : belowI x n = x.tmod n + n := if_pos hb1
  refine AC_region ?_
  refine mv rfl rfl rfl rfl ?_
  refine mv rfl rfl rfl rfl ?_
  refine AL_p rfl rfl (S_addI rfl (.tmp rfl) (.tmp rfl) (by omega) (by omega)) ?_
  refine as_ rfl rfl rfl rfl ?_
  refine AL_nil (AC_seq (AC_region ?_))
  refine mv rfl rfl rfl rfl ?_
  refine as_ rfl rfl rfl rfl ?_
  refine AL_nil (AC_ret ?_)
  refine ret_tmp st rfl rfl (Sub.l (List.Sublist.refl _)) (Conv.refl (Sub.l (List.Sublist.refl _)) _) ⟨by rw [hx], rfl⟩ (.inl rfl)
 try simp only [zA, zO, zN, zM, zP, zQ, zD, zF, gd] at hb1
 have hx : belowI x n = x.tmod n := if_neg hb1
 refine AC_skip ?_
 refine AC_seq (AC_region ?_)
 refine mv rfl rfl rfl rfl ?_
 refine as_ rfl rfl rfl rfl ?_
 refine AL_nil (AC_ret ?_)
 refine ret_tmp st rfl rfl (Sub.l (List.Sublist.refl _)) (Conv.refl (Sub.l (List.Sublist.refl _)) _) ⟨by rw [hx], rfl⟩ (.inl rfl)
set_option maxRecDepth 100000 in
theorem law39_works_ok : GCalls Tryz.prog tabs 6 [] (.bool true) := by
 intro st hG
 refine ACalls_of (N := 67) Tryz.func6 (by kernel_rfl) rfl rfl rfl ?_
 refine AC_seq (AC_region ?_)
 refine ac rfl rfl rfl ?_
 refine AL_nil (AC_seq (AC_region ?_))
 refine AL_step rfl rfl (S_call rfl AEvs.nil (conn_New_ok st)) ?_
 rintro _ _ ⟨_, ⟨bc, bx, rfl, rfl⟩, rfl⟩
 refine as_ rfl rfl rfl rfl ?_
 refine AL_nil ?_
 refine AC_seq ?_
 refine AC_seq (AC_region ?_)
 refine mv rfl rfl rfl rfl ?_
 refine AL_p rfl rfl (S_eqlNil rfl (.tmp rfl) (AEv.const _) (by kernel_rfl)) ?_
 refine AL_nil ?_
 refine AC_cond (.tmp rfl) (fun hb1 => ?_) (fun hb1 => ?_)
 ·simp at hb1; done
 try simp only [zA, zO, zN, zM, zP, zQ, zD, zF, gd] at hb1
 refine AC_skip ?_
 refine AC_seq (AC_region ?_)
 refine mv rfl rfl rfl rfl ?_
 refine AL_step rfl rfl (S_call rfl (AEvs.cons (.tmp rfl) (AEvs.cons (AEv.S _) AEvs.nil)) (ACalls.preQ (pre := []) (F := st) (conn_Feed_ok bc bx .nil [] [] false _ 0 rfl [2, 0, 12, 5] (by decide) (by decide) (by decide) _))) ?_
 rintro _ _ ⟨_, ⟨p1, hp1, rfl, rfl⟩, rfl⟩
 rw [works_feed] at hp1 ⊢
 dsimp only at hp1 ⊢
 refine mv rfl rfl rfl rfl ?_
 refine AL_p rfl rfl (S_extract 0 rfl (.tmp rfl) rfl) ?_
 refine AL_p rfl rfl (S_extract 1 rfl (.tmp rfl) rfl) ?_
 refine as_ rfl rfl rfl rfl ?_
 refine as_ rfl rfl rfl rfl ?_
 refine AL_nil (AC_seq (AC_region ?_))
 refine mv rfl rfl rfl rfl ?_
 refine AL_step rfl rfl (S_call rfl (AEvs.cons (.tmp rfl) AEvs.nil) (ACalls.preQ (pre := []) (F := st) (conn_Next_ok bc bx p1 [[12, 5]] [] false _ 0 hp1 (by decide) (by decide) _ (fun r hr => List.mem_append_right _ (hG r hr))))) ?_
 rintro _ _ ⟨_, ⟨p2, hp2, rfl, rfl⟩, rfl⟩
 refine mv rfl rfl rfl rfl ?_
 refine AL_p rfl rfl (S_extract 0 rfl (.tmp rfl) rfl) ?_
 refine AL_p rfl rfl (S_extract 1 rfl (.tmp rfl) rfl) ?_
 refine AL_step rfl rfl (S_alloc [.int .i64 0, .int .i64 0, .int .i64 0, .int .u64 0, .string ⟨#[]⟩, .slice none 0 0, .slice none 0 0, .slice none 0 0, .int .i64 0, .int .i64 0, .int .i64 0, .int .i64 0, .int .i64 0, .int .i64 0, .int .i64 0, .string ⟨#[]⟩, .slice none 0 0, .int .i64 0, .string ⟨#[]⟩] rfl (by kernel_rfl)) ?_
 rintro _ _ ⟨b4, rfl, rfl⟩
 refine AL_step rfl rfl (S_storeW 0 rfl (.tmp rfl) (.tmp rfl) rfl rfl rfl (by kernel_rfl)) ?_
 rintro _ _ ⟨rfl, rfl⟩
 refine as_ rfl rfl rfl rfl ?_
 refine AL_nil (AC_seq (AC_region ?_))
 refine mv rfl rfl rfl rfl ?_
 refine AL_step rfl rfl (S_call rfl (AEvs.cons (.tmp rfl) AEvs.nil) (ACalls.preQ (pre := [_]) (F := st) (conn_Next_ok bc bx p2 ([[12, 5]].tail) [] false _ (tookN [[12, 5]] 0) hp2 (by decide) (by decide) _ (fun r hr => List.mem_append_right _ (hG r hr))))) ?_
 rintro _ _ ⟨_, ⟨p3, hp3, rfl, rfl⟩, rfl⟩
 refine mv rfl rfl rfl rfl ?_
 refine AL_p rfl rfl (S_extract 0 rfl (.tmp rfl) rfl) ?_
 refine AL_p rfl rfl (S_extract 1 rfl (.tmp rfl) rfl) ?_
 refine AL_step rfl rfl (S_alloc [.int .i64 0, .int .i64 0, .int .i64 0, .int .u64 0, .string ⟨#[]⟩, .slice none 0 0, .slice none 0 0, .slice none 0 0, .int .i64 0, .int .i64 0, .int .i64 0, .int .i64 0, .int .i64 0, .int .i64 0, .int .i64 0, .string ⟨#[]⟩, .slice none 0 0, .int .i64 0, .string ⟨#[]⟩] rfl (by kernel_rfl)) ?_
 rintro _ _ ⟨b6, rfl, rfl⟩
 refine AL_step rfl rfl (S_storeW 0 rfl (.tmp rfl) (.tmp rfl) rfl rfl rfl (by kernel_rfl)) ?_
 rintro _ _ ⟨rfl, rfl⟩
 refine as_ rfl rfl rfl rfl ?_
 refine AL_nil (AC_seq (AC_region ?_))
 refine mv rfl rfl rfl rfl ?_
 refine AL_p rfl rfl (S_eql rfl (.tmp rfl) (AEv.const _)) ?_
 refine mv rfl rfl rfl rfl ?_
 refine AL_g rfl rfl (.tmp rfl) rfl (fun hg4 => S_move rfl (.tmp rfl)) ?_
 refine AL_g rfl rfl (.tmp rfl) rfl (fun hg7 => S_eql rfl (AEv.cd (.tmp rfl)) (AEv.const _)) ?_
 refine AL_p rfl rfl (S_and rfl (.tmp rfl) (fun hp10 => (AEv.cd (.tmp rfl)))) ?_
 refine mv rfl rfl rfl rfl ?_
 refine AL_g rfl rfl (.tmp rfl) rfl (fun hg11 => S_move rfl (.tmp rfl)) ?_
 refine AL_g rfl rfl (.tmp rfl) rfl (fun hg14 => S_eql rfl (AEv.cd (.tmp rfl)) (AEv.const _)) ?_
 refine AL_p rfl rfl (S_and rfl (.tmp rfl) (fun hp17 => (AEv.cd (.tmp rfl)))) ?_
 refine mv rfl rfl rfl rfl ?_
 refine AL_g rfl rfl (.tmp rfl) rfl (fun hg18 => S_field 0 rfl (.tmp rfl) (by kernel_rfl)) ?_
 refine AL_g rfl rfl (.tmp rfl) rfl (fun hg21 => S_load 1 rfl (AEv.cd (.tmp rfl)) rfl rfl (by kernel_rfl)) ?_
 refine AL_g rfl rfl (.tmp rfl) rfl (fun hg24 => S_eql rfl (AEv.cd (.tmp rfl)) (AEv.const _)) ?_
 refine AL_p rfl rfl (S_and rfl (.tmp rfl) (fun hp27 => (AEv.cd (.tmp rfl)))) ?_
 refine mv rfl rfl rfl rfl ?_
 refine AL_g rfl rfl (.tmp rfl) rfl (fun hg28 => S_field 1 rfl (.tmp rfl) (by kernel_rfl)) ?_
 refine AL_g rfl rfl (.tmp rfl) rfl (fun hg31 => S_field 0 rfl (AEv.cd (.tmp rfl)) (by kernel_rfl)) ?_
 refine AL_g rfl rfl (.tmp rfl) rfl (fun hg34 => S_load 1 rfl (AEv.cd (.tmp rfl)) rfl rfl (by kernel_rfl)) ?_
 refine AL_g rfl rfl (.tmp rfl) rfl (fun hg37 => S_eql rfl (AEv.cd (.tmp rfl)) (AEv.const _)) ?_
 refine AL_p rfl rfl (S_and rfl (.tmp rfl) (fun hp40 => (AEv.cd (.tmp rfl)))) ?_
 refine mv rfl rfl rfl rfl ?_
 refine AL_g rfl rfl (.tmp rfl) rfl (fun hg41 => S_field 1 rfl (.tmp rfl) (by kernel_rfl)) ?_
 refine AL_g rfl rfl (.tmp rfl) rfl (fun hg44 => S_field 12 rfl (AEv.cd (.tmp rfl)) (by kernel_rfl)) ?_
 refine AL_g rfl rfl (.tmp rfl) rfl (fun hg47 => S_load 1 rfl (AEv.cd (.tmp rfl)) rfl rfl (by kernel_rfl)) ?_
 refine AL_g rfl rfl (.tmp rfl) rfl (fun hg50 => S_eql rfl (AEv.cd (.tmp rfl)) (AEv.const _)) ?_
 refine AL_p rfl rfl (S_and rfl (.tmp rfl) (fun hp53 => (AEv.cd (.tmp rfl)))) ?_
 refine mv rfl rfl rfl rfl ?_
 refine AL_g rfl rfl (.tmp rfl) rfl (fun hg54 => S_field 17 rfl (.tmp rfl) (by kernel_rfl)) ?_
 refine AL_g rfl rfl (.tmp rfl) rfl (fun hg57 => S_load 1 rfl (AEv.cd (.tmp rfl)) rfl rfl (by kernel_rfl)) ?_
 refine AL_g rfl rfl (.tmp rfl) rfl (fun hg60 => S_eql rfl (AEv.cd (.tmp rfl)) (AEv.const _)) ?_
 refine AL_p rfl rfl (S_and rfl (.tmp rfl) (fun hp63 => (AEv.cd (.tmp rfl)))) ?_
 refine mv rfl rfl rfl rfl ?_
 refine AL_g rfl rfl (.tmp rfl) rfl (fun hg64 => S_move rfl (.tmp rfl)) ?_
 refine AL_g rfl rfl (.tmp rfl) rfl (fun hg67 => S_eql rfl (AEv.cd (.tmp rfl)) (AEv.const _)) ?_
 refine AL_p rfl rfl (S_and rfl (.tmp rfl) (fun hp70 => (AEv.cd (.tmp rfl)))) ?_
 refine mv rfl rfl rfl rfl ?_
 refine AL_g rfl rfl (.tmp rfl) rfl (fun hg71 => S_move rfl (.tmp rfl)) ?_
 refine AL_g rfl rfl (.tmp rfl) rfl (fun hg74 => S_keep (S_call rfl (AEvs.cons (AEv.cd (.tmp rfl)) AEvs.nil) (ACalls.preQ (pre := [_, _]) (F := st) (conn_Deaf_ok bc bx p3 _ _ _ _ _ hp3 _))) (by rintro _ _ ⟨_, ⟨rfl, rfl⟩, rfl⟩; exact ⟨rfl, rfl⟩)) ?_
 refine AL_g rfl rfl (.tmp rfl) rfl (fun hg77 => S_not rfl (AEv.cd (.tmp rfl))) ?_
 refine AL_p rfl rfl (S_and rfl (.tmp rfl) (fun hp80 => (AEv.cd (.tmp rfl)))) ?_
 refine as_ rfl rfl rfl rfl ?_
 refine AL_nil (AC_ret ?_)
 refine ret_tmp st rfl rfl (Sub.l (.cons _ (.cons _ (.cons _ (.cons _ (List.sublist_append_right _ _)))))) (Conv.refl (Sub.l (.cons _ (.cons _ (.cons _ (.cons _ (List.sublist_append_right _ _)))))) _) ⟨congrArg AV.bool (by simp [askN, waitC, wA_ofA, wA_ofE, wA, cal0, erCode]), rfl⟩ (.inl rfl)
set_option maxRecDepth 100000 in
theorem law_ConnDeaf (l : List (List UInt8)) : GCalls Tryz.prog tabs 3 [.sl (strsV l)] (.bool true) := by
 intro st hG
 refine ACalls_of (N := 114) Tryz.func3 (by kernel_rfl) rfl rfl rfl ?_
 refine AC_seq (AC_region ?_)
 refine ac rfl rfl rfl ?_
 refine AL_nil ?_
 refine AC_seq ?_
 refine AC_seq (AC_region ?_)
 refine AL_p rfl rfl (S_gcall rfl AEvs.nil ((law39_works_ok) _ (fun p hp => by repeat (first | exact hG p hp | refine List.mem_cons_of_mem _ ?_ | refine List.mem_append_right _ ?_)))) ?_
 refine AL_p rfl rfl (S_not rfl (.tmp rfl)) ?_
 refine AL_nil ?_
 refine AC_cond (.tmp rfl) (fun hb1 => ?_) (fun hb1 => ?_)
 ·simp at hb1; done
 try simp only [zA, zO, zN, zM, zP, zQ, zD, zF, gd] at hb1
 refine AC_skip ?_
 refine AC_seq (AC_region ?_)
 refine AL_step rfl rfl (S_call rfl AEvs.nil (conn_New_ok st)) ?_
 rintro _ _ ⟨_, ⟨bc, bx, rfl, rfl⟩, rfl⟩
 refine as_ rfl rfl rfl rfl ?_
 refine AL_nil ?_
 refine AC_seq ?_
 refine AC_seq (AC_region ?_)
 refine mv rfl rfl rfl rfl ?_
 refine AL_p rfl rfl (S_eqlNil rfl (.tmp rfl) (AEv.const _) (by kernel_rfl)) ?_
 refine AL_nil ?_
 refine AC_cond (.tmp rfl) (fun hb2 => ?_) (fun hb2 => ?_)
 ·simp at hb2; done
 try simp only [zA, zO, zN, zM, zP, zQ, zD, zF, gd] at hb2
 refine AC_skip ?_
 refine AC_seq (AC_region ?_)
 refine ac rfl rfl rfl ?_
 refine ac rfl rfl rfl ?_
 refine AL_nil ?_
 refine AC_seq ?_
 refine AC_seq (AC_region ?_)
 refine ac rfl rfl rfl ?_
 refine AL_nil ?_
 refine AC_block ?_
 refine AC_loopK (G := Nat × List UInt8 × Bool × List (List UInt8) × Own) [(0, _), (3, _)] (fun g => g.1 ≤ l.length ∧ g.2.1.length ≤ 8192 ∧ g.2.2.2.1.length ≤ 32 ∧ g.2.2.2.2.ok (strsV g.2.2.2.1)) (fun g => [(4, .int .i64 (if g.2.2.1 = true then 1 else 0)), (5, .int .i64 (g.2.2.2.1.length : Int)), (6, .int .i64 (g.1 : Int))]) (fun g => (((bc, Ob.cells [.ptr bx 0, ownAV g.2.2.2.2 1 (strsV g.2.2.2.1), ownAV .nil 1 (strsV []), .int .i64 0]) :: (bx, Ob.cells [.S g.2.1, .bool g.2.2.1]) :: ownSt g.2.2.2.2 9 1 (strsV g.2.2.2.1)) ++ st)) (fun g => l.length - g.1) ((0, [], false, [], .nil)) (⟨Nat.zero_le _, by simp, by simp, rfl⟩) (Sub.l (List.Sublist.refl _)) (.cons rfl (Le.refl _) (.cons rfl (Le.refl _) .nil)) (.cons rfl (by first | exact Le.refl _ | exact Le.nils | exact Le.row _ _ _ _ | exact Le.of_eq (by first | rfl | (simp; done) | (push_cast; rfl) | (simp; omega))) (.cons rfl (by first | exact Le.refl _ | exact Le.nils | exact Le.row _ _ _ _ | exact Le.of_eq (by first | rfl | (simp; done) | (push_cast; rfl) | (simp; omega))) (.cons rfl (by first | exact Le.refl _ | exact Le.nils | exact Le.row _ _ _ _ | exact Le.of_eq (by first | rfl | (simp; done) | (push_cast; rfl) | (simp; omega))) .nil))) ?_
 rintro ⟨i, s, c, w, p⟩ ⟨hi, hs, hw, hp⟩
 try dsimp only
 simp only [List.cons_append, List.nil_append]
 dsimp only at hi hs hw hp
 refine AC_seq ?_
 refine AC_seq (AC_region ?_)
 refine mv rfl rfl rfl rfl ?_
 refine mv rfl rfl rfl rfl ?_
 refine AL_p rfl rfl (by first | exact S_lenM (e := 9) rfl (.tmp rfl) (by kernel_rfl) | exact S_len (e := 9) rfl (.tmp rfl) (by kernel_rfl)) ?_
 refine AL_p rfl rfl (S_lss rfl (.tmp rfl) (.tmp rfl)) ?_
 refine mv rfl rfl rfl rfl ?_
 refine AL_g rfl rfl (.tmp rfl) rfl (fun hg3 => S_move rfl (.tmp rfl)) ?_
 refine AL_g rfl rfl (.tmp rfl) rfl (fun hg6 => S_lss rfl (AEv.cd (.tmp rfl)) (AEv.const _)) ?_
 refine AL_p rfl rfl (S_and rfl (.tmp rfl) (fun hp9 => (AEv.cd (.tmp rfl)))) ?_
 refine AL_nil ?_
 refine AC_cond (.tmp rfl) (fun hb10 => ?_) (fun hb10 => ?_)
 ·try simp only [zA, zO, zN, zM, zP, zQ, zD, zF, gd] at hb10
  have hil : i < l.length := by first | omega | (have h9 := hb10.1; simp [strsV] at h9; omega)
  refine AC_skip ?_
  refine AC_seq ?_
  refine AC_block ?_
  refine AC_seq ?_
  refine AC_seq (AC_region ?_)
  refine mv rfl rfl rfl rfl ?_
  refine mv rfl rfl rfl rfl ?_
  refine AL_p rfl rfl (S_elemN (e := 9) 1 rfl (.tmp rfl) (.tmp rfl) (by kernel_rfl) (by kernel_rfl) (by omega) (fun _ => rfl)) ?_
  refine AL_p rfl rfl (S_loadP rfl (.tmp rfl) rfl (by kernel_rfl)) ?_
  refine AL_p rfl rfl (S_lenS (ts := #[]) rfl (.tmp rfl) (by kernel_rfl)) ?_
  refine AL_p rfl rfl (S_gtr rfl (.tmp rfl) (AEv.const _)) ?_
  refine AL_nil ?_
  refine AC_cond (.tmp rfl) (fun hb11 => ?_) (fun hb11 => ?_)
  ·try simp only [zA, zO, zN, zM, zP, zQ, zD, zF, gd] at hb11
   refine AC_seq (AC_region ?_)
   refine ac rfl rfl rfl ?_
   refine AL_nil (AC_ret ?_)
   refine ret_tmp st rfl rfl (Sub.l (.cons _ (.cons _ (List.sublist_append_right _ _)))) (Conv.refl (Sub.l (.cons _ (.cons _ (List.sublist_append_right _ _)))) _) ⟨rfl, rfl⟩ (.inl rfl)
  try simp only [zA, zO, zN, zM, zP, zQ, zD, zF, gd] at hb11
  have hlt : (l[i]'hil).length ≤ 3000 := by omega
  refine AC_skip ?_
  refine AC_seq (AC_region ?_)
  refine mv rfl rfl rfl rfl ?_
  refine AL_p rfl rfl (S_keep (S_call rfl (AEvs.cons (.tmp rfl) AEvs.nil) (ACalls.preQ (pre := []) (F := st) (conn_Deaf_ok bc bx p w s c _ _ hp _))) (by rintro _ _ ⟨_, ⟨rfl, rfl⟩, rfl⟩; exact ⟨rfl, rfl⟩)) ?_
  refine as_ rfl rfl rfl rfl ?_
  refine AL_nil (AC_seq (AC_region ?_))
  refine mv rfl rfl rfl rfl ?_
  refine mv rfl rfl rfl rfl ?_
  refine mv rfl rfl rfl rfl ?_
  refine AL_p rfl rfl (S_elemN (e := 9) 1 rfl (.tmp rfl) (.tmp rfl) (by kernel_rfl) (by kernel_rfl) (by omega) (fun _ => rfl)) ?_
  refine AL_p rfl rfl (S_loadP rfl (.tmp rfl) rfl (by kernel_rfl)) ?_
  refine AL_step rfl rfl (S_call rfl (AEvs.cons (.tmp rfl) (AEvs.cons (.tmp rfl) AEvs.nil)) (ACalls.preQ (pre := []) (F := st) (conn_Feed_ok bc bx p w s c _ 0 hp (l[i]'hil) hs (by omega) hw _))) ?_
  rintro _ _ ⟨_, ⟨p2, hp2, rfl, rfl⟩, rfl⟩
  obtain ⟨⟨hq1, hq2, hq3⟩, hcase⟩ := feed_case (t := (l[i]'hil)) (c := c) hs hw
  generalize feedC s c w (l[i]'hil) = R at *
  refine mv rfl rfl rfl rfl ?_
  refine AL_p rfl rfl (S_extract 0 rfl (.tmp rfl) rfl) ?_
  refine AL_p rfl rfl (S_extract 1 rfl (.tmp rfl) rfl) ?_
  refine as_ rfl rfl rfl rfl ?_
  refine as_ rfl rfl rfl rfl ?_
  refine AL_nil (AC_seq (AC_region ?_))
  refine mv rfl rfl rfl rfl ?_
  refine mv rfl rfl rfl rfl ?_
  refine AL_p rfl rfl (S_addI rfl (.tmp rfl) (.tmp rfl) (by omega) (by omega)) ?_
  refine as_ rfl rfl rfl rfl ?_
  refine AL_nil ?_
  refine AC_seq ?_
  refine AC_seq (AC_region ?_)
  refine mv rfl rfl rfl rfl ?_
  refine AL_p rfl rfl (S_eql rfl (.tmp rfl) (AEv.const _)) ?_
  refine AL_nil ?_
  refine AC_cond (.tmp rfl) (fun hb12 => ?_) (fun hb12 => ?_)
  ·try simp only [zA, zO, zN, zM, zP, zQ, zD, zF, gd] at hb12
   refine AC_region ?_
   refine mv rfl rfl rfl rfl ?_
   refine AL_p rfl rfl (S_addI rfl (.tmp rfl) (AEv.const _) (by omega) (by omega)) ?_
   refine as_ rfl rfl rfl rfl ?_
   refine AL_nil (AC_seq (AC_region ?_))
   refine mv rfl rfl rfl rfl ?_
   refine mv rfl rfl rfl rfl ?_
   refine AL_g rfl rfl (.tmp rfl) rfl (fun hg13 => S_move rfl (.tmp rfl)) ?_
   refine AL_g rfl rfl (.tmp rfl) rfl (fun hg16 => S_neq rfl (AEv.cd (.tmp rfl)) (AEv.const _)) ?_
   refine AL_g rfl rfl (.tmp rfl) rfl (fun hg19 => S_move rfl (AEv.cd (.tmp rfl))) ?_
   refine AL_gg rfl rfl (.tmp rfl) rfl (fun hg22 hg23 hg24 => S_move rfl (.tmp rfl)) ?_
   refine AL_gg rfl rfl (.tmp rfl) rfl (fun hg25 hg26 hg27 => S_neq rfl (AEv.cd (.tmp rfl)) (AEv.const _)) ?_
   refine AL_g rfl rfl (.tmp rfl) rfl (fun hg28 => S_or rfl (AEv.cd (.tmp rfl)) (fun hp31 => (AEv.cd (.tmp rfl)))) ?_
   refine AL_p rfl rfl (S_and rfl (.tmp rfl) (fun hp32 => (AEv.cd (.tmp rfl)))) ?_
   refine mv rfl rfl rfl rfl ?_
   refine AL_g rfl rfl (.tmp rfl) rfl (fun hg33 => S_move rfl (.tmp rfl)) ?_
   refine AL_g rfl rfl (.tmp rfl) rfl (fun hg36 => S_not rfl (AEv.cd (.tmp rfl))) ?_
   refine AL_g rfl rfl (.tmp rfl) rfl (fun hg39 => S_move rfl (AEv.cd (.tmp rfl))) ?_
   refine AL_gg rfl rfl (.tmp rfl) rfl (fun hg42 hg43 hg44 => S_move rfl (.tmp rfl)) ?_
   refine AL_gg rfl rfl (.tmp rfl) rfl (fun hg45 hg46 hg47 => S_eql rfl (AEv.cd (.tmp rfl)) (AEv.const _)) ?_
   refine AL_g rfl rfl (.tmp rfl) rfl (fun hg48 => S_and rfl (AEv.cd (.tmp rfl)) (fun hp51 => (AEv.cd (.tmp rfl)))) ?_
   refine AL_p rfl rfl (S_or rfl (.tmp rfl) (fun hp52 => (AEv.cd (.tmp rfl)))) ?_
   refine mv rfl rfl rfl rfl ?_
   refine AL_g rfl rfl (.tmp rfl) rfl (fun hg53 => S_move rfl (.tmp rfl)) ?_
   refine AL_g rfl rfl (.tmp rfl) rfl (fun hg56 => S_keep (S_call rfl (AEvs.cons (AEv.cd (.tmp rfl)) AEvs.nil) (ACalls.preQ (pre := []) (F := st) (conn_Deaf_ok bc bx p2 _ _ _ _ _ hp2 _))) (by rintro _ _ ⟨_, ⟨rfl, rfl⟩, rfl⟩; exact ⟨rfl, rfl⟩)) ?_
   refine AL_g rfl rfl (.tmp rfl) rfl (fun hg59 => S_move rfl (.tmp rfl)) ?_
   refine AL_g rfl rfl (.tmp rfl) rfl (fun hg62 => S_move rfl (AEv.cd (.tmp rfl))) ?_
   refine AL_gg rfl rfl (.tmp rfl) rfl (fun hg65 hg66 hg67 => S_move rfl (.tmp rfl)) ?_
   refine AL_gg rfl rfl (.tmp rfl) rfl (fun hg68 hg69 hg70 => S_eql rfl (AEv.cd (.tmp rfl)) (AEv.const _)) ?_
   refine AL_g rfl rfl (.tmp rfl) rfl (fun hg71 => S_or rfl (AEv.cd (.tmp rfl)) (fun hp74 => (AEv.cd (.tmp rfl)))) ?_
   refine AL_g rfl rfl (.tmp rfl) rfl (fun hg75 => S_neB rfl (AEv.cd (.tmp rfl)) (AEv.cd (.tmp rfl)) (by kernel_rfl)) ?_
   refine AL_p rfl rfl (S_or rfl (.tmp rfl) (fun hp78 => (AEv.cd (.tmp rfl)))) ?_
   refine AL_nil ?_
   refine AC_cond (.tmp rfl) (fun hb79 => ?_) (fun hb79 => ?_)
   ·exfalso; revert hb79; rcases hcase with ⟨rfl, rfl⟩ | ⟨rfl, h1, h2⟩ | ⟨rfl, h1, h2⟩ <;> (try simp [*]) <;> (try omega)
   try simp only [zA, zO, zN, zM, zP, zQ, zD, zF, gd] at hb79
   refine AC_skip ?_
   refine AC_region ?_
   refine mv rfl rfl rfl rfl ?_
   refine AL_p rfl rfl (S_addI rfl (.tmp rfl) (AEv.const _) (by omega) (by omega)) ?_
   refine as_ rfl rfl rfl rfl ?_
   refine AL_nil ?_
   refine ⟨(i + 1, R.1, R.2.1, R.2.2.1, p2), ⟨by dsimp only; omega, hq1, hq2, hp2⟩, by dsimp only; omega, (Sub.l (List.Sublist.refl _)), (.cons rfl (Le.of_eq (congrArg (AV.int .i64) (by dsimp only; rcases hcase with ⟨rfl, rfl⟩ | ⟨rfl, h1, h2⟩ | ⟨rfl, h1, h2⟩ <;> simp_all))) (.cons rfl (Le.of_eq (congrArg (AV.int .i64) (by dsimp only; omega))) (.cons rfl (by first | exact Le.refl _ | exact Le.nils | exact Le.row _ _ _ _ | exact Le.of_eq (by first | rfl | (simp; done) | (push_cast; rfl) | (simp; omega))) .nil))), (.cons rfl (Le.refl _) (.cons rfl (Le.refl _) .nil))⟩
  try simp only [zA, zO, zN, zM, zP, zQ, zD, zF, gd] at hb12
  refine AC_skip ?_
  refine AC_seq (AC_region ?_)
  refine mv rfl rfl rfl rfl ?_
  refine mv rfl rfl rfl rfl ?_
  refine AL_g rfl rfl (.tmp rfl) rfl (fun hg80 => S_move rfl (.tmp rfl)) ?_
  refine AL_g rfl rfl (.tmp rfl) rfl (fun hg83 => S_neq rfl (AEv.cd (.tmp rfl)) (AEv.const _)) ?_
  refine AL_g rfl rfl (.tmp rfl) rfl (fun hg86 => S_move rfl (AEv.cd (.tmp rfl))) ?_
  refine AL_gg rfl rfl (.tmp rfl) rfl (fun hg89 hg90 hg91 => S_move rfl (.tmp rfl)) ?_
  refine AL_gg rfl rfl (.tmp rfl) rfl (fun hg92 hg93 hg94 => S_neq rfl (AEv.cd (.tmp rfl)) (AEv.const _)) ?_
  refine AL_g rfl rfl (.tmp rfl) rfl (fun hg95 => S_or rfl (AEv.cd (.tmp rfl)) (fun hp98 => (AEv.cd (.tmp rfl)))) ?_
  refine AL_p rfl rfl (S_and rfl (.tmp rfl) (fun hp99 => (AEv.cd (.tmp rfl)))) ?_
  refine mv rfl rfl rfl rfl ?_
  refine AL_g rfl rfl (.tmp rfl) rfl (fun hg100 => S_move rfl (.tmp rfl)) ?_
  refine AL_g rfl rfl (.tmp rfl) rfl (fun hg103 => S_not rfl (AEv.cd (.tmp rfl))) ?_
  refine AL_g rfl rfl (.tmp rfl) rfl (fun hg106 => S_move rfl (AEv.cd (.tmp rfl))) ?_
  refine AL_gg rfl rfl (.tmp rfl) rfl (fun hg109 hg110 hg111 => S_move rfl (.tmp rfl)) ?_
  refine AL_gg rfl rfl (.tmp rfl) rfl (fun hg112 hg113 hg114 => S_eql rfl (AEv.cd (.tmp rfl)) (AEv.const _)) ?_
  refine AL_g rfl rfl (.tmp rfl) rfl (fun hg115 => S_and rfl (AEv.cd (.tmp rfl)) (fun hp118 => (AEv.cd (.tmp rfl)))) ?_
  refine AL_p rfl rfl (S_or rfl (.tmp rfl) (fun hp119 => (AEv.cd (.tmp rfl)))) ?_
  refine mv rfl rfl rfl rfl ?_
  refine AL_g rfl rfl (.tmp rfl) rfl (fun hg120 => S_move rfl (.tmp rfl)) ?_
  refine AL_g rfl rfl (.tmp rfl) rfl (fun hg123 => S_keep (S_call rfl (AEvs.cons (AEv.cd (.tmp rfl)) AEvs.nil) (ACalls.preQ (pre := []) (F := st) (conn_Deaf_ok bc bx p2 _ _ _ _ _ hp2 _))) (by rintro _ _ ⟨_, ⟨rfl, rfl⟩, rfl⟩; exact ⟨rfl, rfl⟩)) ?_
  refine AL_g rfl rfl (.tmp rfl) rfl (fun hg126 => S_move rfl (.tmp rfl)) ?_
  refine AL_g rfl rfl (.tmp rfl) rfl (fun hg129 => S_move rfl (AEv.cd (.tmp rfl))) ?_
  refine AL_gg rfl rfl (.tmp rfl) rfl (fun hg132 hg133 hg134 => S_move rfl (.tmp rfl)) ?_
  refine AL_gg rfl rfl (.tmp rfl) rfl (fun hg135 hg136 hg137 => S_eql rfl (AEv.cd (.tmp rfl)) (AEv.const _)) ?_
  refine AL_g rfl rfl (.tmp rfl) rfl (fun hg138 => S_or rfl (AEv.cd (.tmp rfl)) (fun hp141 => (AEv.cd (.tmp rfl)))) ?_
  refine AL_g rfl rfl (.tmp rfl) rfl (fun hg142 => S_neB rfl (AEv.cd (.tmp rfl)) (AEv.cd (.tmp rfl)) (by kernel_rfl)) ?_
  refine AL_p rfl rfl (S_or rfl (.tmp rfl) (fun hp145 => (AEv.cd (.tmp rfl)))) ?_
  refine AL_nil ?_
  refine AC_cond (.tmp rfl) (fun hb146 => ?_) (fun hb146 => ?_)
  ·exfalso; revert hb146; rcases hcase with ⟨rfl, rfl⟩ | ⟨rfl, h1, h2⟩ | ⟨rfl, h1, h2⟩ <;> (try simp [*]) <;> (try omega)
  try simp only [zA, zO, zN, zM, zP, zQ, zD, zF, gd] at hb146
  refine AC_skip ?_
  refine AC_region ?_
  refine mv rfl rfl rfl rfl ?_
  refine AL_p rfl rfl (S_addI rfl (.tmp rfl) (AEv.const _) (by omega) (by omega)) ?_
  refine as_ rfl rfl rfl rfl ?_
  refine AL_nil ?_
  refine ⟨(i + 1, R.1, R.2.1, R.2.2.1, p2), ⟨by dsimp only; omega, hq1, hq2, hp2⟩, by dsimp only; omega, (Sub.l (List.Sublist.refl _)), (.cons rfl (Le.of_eq (congrArg (AV.int .i64) (by dsimp only; rcases hcase with ⟨rfl, rfl⟩ | ⟨rfl, h1, h2⟩ | ⟨rfl, h1, h2⟩ <;> simp_all))) (.cons rfl (Le.of_eq (congrArg (AV.int .i64) (by dsimp only; omega))) (.cons rfl (by first | exact Le.refl _ | exact Le.nils | exact Le.row _ _ _ _ | exact Le.of_eq (by first | rfl | (simp; done) | (push_cast; rfl) | (simp; omega))) .nil))), (.cons rfl (Le.refl _) (.cons rfl (Le.refl _) .nil))⟩
 try simp only [zA, zO, zN, zM, zP, zQ, zD, zF, gd] at hb10
 refine AC_exit ?_
 refine AC_seq (AC_region ?_)
 refine ac rfl rfl rfl ?_
 refine AL_nil ?_
 refine AC_seq ?_
 refine AC_seq (AC_region ?_)
 refine ac rfl rfl rfl ?_
 refine AL_nil ?_
 refine AC_block ?_
 refine AC_loopK (G := Nat × List (List UInt8) × Own) [(3, _), (4, _), (5, _)] (fun g => g.1 ≤ 100 ∧ g.2.1.length = w.length - g.1 ∧ g.2.2.ok (strsV g.2.1)) (fun g => [(10, .int .i64 ((w.length : Int) - (g.2.1.length : Int))), (11, .int .i64 (g.1 : Int))]) (fun g => (((bc, Ob.cells [.ptr bx 0, ownAV g.2.2 1 (strsV g.2.1), ownAV .nil 1 (strsV []), .int .i64 ((w.length : Int) - (g.2.1.length : Int))]) :: (bx, Ob.cells [.S s, .bool c]) :: ownSt g.2.2 9 1 (strsV g.2.1)) ++ st)) (fun g => 100 - g.1) ((0, w, p)) (⟨by omega, by simp, hp⟩) (by simp only [Int.sub_self]; exact (Sub.l (List.Sublist.refl _))) (.cons rfl (Le.refl _) (.cons rfl (Le.refl _) (.cons rfl (Le.refl _) .nil))) (.cons rfl (Le.of_eq (congrArg (AV.int .i64) (by dsimp only; omega))) (.cons rfl (by first | exact Le.refl _ | exact Le.nils | exact Le.row _ _ _ _ | exact Le.of_eq (by first | rfl | (simp; done) | (push_cast; rfl) | (simp; omega))) .nil)) ?_
 rintro ⟨k, v, q⟩ ⟨hk, hv, hq⟩
 try dsimp only
 simp only [List.cons_append, List.nil_append]
 dsimp only at hk hv hq
 refine AC_seq ?_
 refine AC_seq (AC_region ?_)
 refine mv rfl rfl rfl rfl ?_
 refine AL_p rfl rfl (S_lss rfl (.tmp rfl) (AEv.const _)) ?_
 refine AL_nil ?_
 refine AC_cond (.tmp rfl) (fun hb147 => ?_) (fun hb147 => ?_)
 ·try simp only [zA, zO, zN, zM, zP, zQ, zD, zF, gd] at hb147
  refine AC_skip ?_
  refine AC_seq ?_
  refine AC_block ?_
  refine AC_seq (AC_region ?_)
  refine mv rfl rfl rfl rfl ?_
  refine AL_step rfl rfl (S_call rfl (AEvs.cons (.tmp rfl) AEvs.nil) (ACalls.preQ (pre := []) (F := st) (conn_Next_ok bc bx q v s c _ _ hq (by omega) (by omega) _ hG))) ?_
  rintro _ _ ⟨_, ⟨q2, hq2, rfl, rfl⟩, rfl⟩
  refine mv rfl rfl rfl rfl ?_
  refine AL_p rfl rfl (S_extract 0 rfl (.tmp rfl) rfl) ?_
  refine AL_p rfl rfl (S_extract 1 rfl (.tmp rfl) rfl) ?_
  refine AL_step rfl rfl (S_alloc [.int .i64 0, .int .i64 0, .int .i64 0, .int .u64 0, .string ⟨#[]⟩, .slice none 0 0, .slice none 0 0, .slice none 0 0, .int .i64 0, .int .i64 0, .int .i64 0, .int .i64 0, .int .i64 0, .int .i64 0, .int .i64 0, .string ⟨#[]⟩, .slice none 0 0, .int .i64 0, .string ⟨#[]⟩] rfl (by kernel_rfl)) ?_
  rintro _ _ ⟨b12, rfl, rfl⟩
  refine AL_step rfl rfl (S_storeW 0 rfl (.tmp rfl) (.tmp rfl) rfl rfl rfl (by kernel_rfl)) ?_
  rintro _ _ ⟨rfl, rfl⟩
  refine as_ rfl rfl rfl rfl ?_
  refine AL_nil (AC_seq (AC_region ?_))
  refine mv rfl rfl rfl rfl ?_
  refine AL_p rfl rfl (S_eql rfl (.tmp rfl) (AEv.const _)) ?_
  refine AL_nil ?_
  refine AC_cond (.tmp rfl) (fun hb149 => ?_) (fun hb149 => ?_)
  ·try simp only [zA, zO, zN, zM, zP, zQ, zD, zF, gd] at hb149
   have hvv : v ≠ [] := fun h => by rw [h] at hb149; simp [waitC] at hb149
   refine AC_region ?_
   refine mv rfl rfl rfl rfl ?_
   refine AL_p rfl rfl (S_addI rfl (.tmp rfl) (AEv.const _) (by omega) (by omega)) ?_
   refine as_ rfl rfl rfl rfl ?_
   refine AL_nil ?_
   refine AC_region ?_
   refine mv rfl rfl rfl rfl ?_
   refine AL_p rfl rfl (S_addI rfl (.tmp rfl) (AEv.const _) (by omega) (by omega)) ?_
   refine as_ rfl rfl rfl rfl ?_
   refine AL_nil ?_
   refine ⟨(k + 1, v.tail, q2), ⟨by dsimp only; omega, by dsimp only; rw [List.length_tail]; omega, hq2⟩, by dsimp only; omega, by dsimp only; rw [took_sub]; exact (Sub.l (List.sublist_cons_self _ _)), (.cons rfl (Le.of_eq (congrArg (AV.int .i64) (by dsimp only; rw [List.length_tail]; first | (have h8 := List.length_pos_iff.2 hvv; omega) | (rw [hvn]; simp)))) (.cons rfl (by first | exact Le.refl _ | exact Le.nils | exact Le.row _ _ _ _ | exact Le.of_eq (by first | rfl | (simp; done) | (push_cast; rfl) | (simp; omega))) .nil)), (.cons rfl (Le.refl _) (.cons rfl (Le.refl _) (.cons rfl (Le.refl _) .nil)))⟩
  try simp only [zA, zO, zN, zM, zP, zQ, zD, zF, gd] at hb149
  have hvn : v = [] := by
   cases v with
   | nil => rfl
   | cons a b => exact absurd rfl hb149
  refine AC_skip ?_
  refine AC_region ?_
  refine mv rfl rfl rfl rfl ?_
  refine AL_p rfl rfl (S_addI rfl (.tmp rfl) (AEv.const _) (by omega) (by omega)) ?_
  refine as_ rfl rfl rfl rfl ?_
  refine AL_nil ?_
  refine ⟨(k + 1, v.tail, q2), ⟨by dsimp only; omega, by dsimp only; rw [List.length_tail]; omega, hq2⟩, by dsimp only; omega, by dsimp only; rw [took_sub]; exact (Sub.l (List.sublist_cons_self _ _)), (.cons rfl (Le.of_eq (congrArg (AV.int .i64) (by dsimp only; rw [List.length_tail]; first | (have h8 := List.length_pos_iff.2 hvv; omega) | (rw [hvn]; simp)))) (.cons rfl (by first | exact Le.refl _ | exact Le.nils | exact Le.row _ _ _ _ | exact Le.of_eq (by first | rfl | (simp; done) | (push_cast; rfl) | (simp; omega))) .nil)), (.cons rfl (Le.refl _) (.cons rfl (Le.refl _) (.cons rfl (Le.refl _) .nil)))⟩
 try simp only [zA, zO, zN, zM, zP, zQ, zD, zF, gd] at hb147
 obtain rfl : v = [] := List.eq_nil_of_length_eq_zero (by omega)
 refine AC_exit ?_
 refine AC_seq (AC_region ?_)
 refine mv rfl rfl rfl rfl ?_
 refine AL_p rfl rfl (S_leq rfl (.tmp rfl) (AEv.const _)) ?_
 refine mv rfl rfl rfl rfl ?_
 refine AL_g rfl rfl (.tmp rfl) rfl (fun hg150 => S_move rfl (.tmp rfl)) ?_
 refine AL_g rfl rfl (.tmp rfl) rfl (fun hg153 => S_move rfl (.tmp rfl)) ?_
 refine AL_g rfl rfl (.tmp rfl) rfl (fun hg156 => S_eql rfl (AEv.cd (.tmp rfl)) (AEv.cd (.tmp rfl))) ?_
 refine AL_p rfl rfl (S_and rfl (.tmp rfl) (fun hp159 => (AEv.cd (.tmp rfl)))) ?_
 refine mv rfl rfl rfl rfl ?_
 refine AL_g rfl rfl (.tmp rfl) rfl (fun hg160 => S_move rfl (.tmp rfl)) ?_
 refine AL_g rfl rfl (.tmp rfl) rfl (fun hg163 => S_keep (S_call rfl (AEvs.cons (AEv.cd (.tmp rfl)) AEvs.nil) (ACalls.preQ (pre := []) (F := st) (conn_Over_ok bc bx q _ _ _ _ _ hq _))) (by rintro _ _ ⟨_, ⟨rfl, rfl⟩, rfl⟩; exact ⟨rfl, rfl⟩)) ?_
 refine AL_g rfl rfl (.tmp rfl) rfl (fun hg166 => S_move rfl (.tmp rfl)) ?_
 refine AL_g rfl rfl (.tmp rfl) rfl (fun hg169 => S_keep (S_call rfl (AEvs.cons (AEv.cd (.tmp rfl)) AEvs.nil) (ACalls.preQ (pre := []) (F := st) (conn_Deaf_ok bc bx q _ _ _ _ _ hq _))) (by rintro _ _ ⟨_, ⟨rfl, rfl⟩, rfl⟩; exact ⟨rfl, rfl⟩)) ?_
 refine AL_g rfl rfl (.tmp rfl) rfl (fun hg172 => S_eqB rfl (AEv.cd (.tmp rfl)) (AEv.cd (.tmp rfl)) (by kernel_rfl)) ?_
 refine AL_p rfl rfl (S_and rfl (.tmp rfl) (fun hp175 => (AEv.cd (.tmp rfl)))) ?_
 refine mv rfl rfl rfl rfl ?_
 refine AL_g rfl rfl (.tmp rfl) rfl (fun hg176 => S_move rfl (.tmp rfl)) ?_
 refine AL_g rfl rfl (.tmp rfl) rfl (fun hg179 => S_eql rfl (AEv.cd (.tmp rfl)) (AEv.const _)) ?_
 refine AL_g rfl rfl (.tmp rfl) rfl (fun hg182 => S_move rfl (.tmp rfl)) ?_
 refine AL_g rfl rfl (.tmp rfl) rfl (fun hg185 => S_keep (S_call rfl (AEvs.cons (AEv.cd (.tmp rfl)) AEvs.nil) (ACalls.preQ (pre := []) (F := st) (conn_Deaf_ok bc bx q _ _ _ _ _ hq _))) (by rintro _ _ ⟨_, ⟨rfl, rfl⟩, rfl⟩; exact ⟨rfl, rfl⟩)) ?_
 refine AL_g rfl rfl (.tmp rfl) rfl (fun hg188 => S_eqB rfl (AEv.cd (.tmp rfl)) (AEv.cd (.tmp rfl)) (by kernel_rfl)) ?_
 refine AL_p rfl rfl (S_and rfl (.tmp rfl) (fun hp191 => (AEv.cd (.tmp rfl)))) ?_
 refine as_ rfl rfl rfl rfl ?_
 refine AL_nil (AC_ret ?_)
 refine ret_tmp st rfl rfl (Sub.l (.cons _ (.cons _ (List.sublist_append_right _ _)))) (Conv.refl (Sub.l (.cons _ (.cons _ (List.sublist_append_right _ _)))) _) ⟨congrArg AV.bool (by cases c <;> simp), rfl⟩ (.inl rfl)
set_option maxRecDepth 100000 in
set_option maxHeartbeats 2000000 in
theorem law_ConnCalls (l : List (List UInt8)) (cuts : List Int) : GCalls Tryz.prog tabs 4 [.sl (strsV l), .sl (intsV cuts)] (.bool true) := by
 intro st hG
 refine ACalls_of (N := 166) Tryz.func4 (by kernel_rfl) rfl rfl rfl ?_
 have hx200 : ∀ x ∈ (l.map (List.take 200)), x.length ≤ 200 := fun x hx => by
  obtain ⟨y, _, rfl⟩ := List.mem_map.1 hx
  exact List.length_take_le _ _
 have hlx : (l.map (List.take 200)).length = l.length := List.length_map ..
 refine AC_seq (AC_region ?_)
 refine ac rfl rfl rfl ?_
 refine AL_nil ?_
 refine AC_seq ?_
 refine AC_seq (AC_region ?_)
 refine AL_p rfl rfl (S_gcall rfl AEvs.nil ((law39_works_ok) _ (fun p hp => by repeat (first | exact hG p hp | refine List.mem_cons_of_mem _ ?_ | refine List.mem_append_right _ ?_)))) ?_
 refine AL_p rfl rfl (S_not rfl (.tmp rfl)) ?_
 refine AL_nil ?_
 refine AC_cond (.tmp rfl) (fun hb1 => ?_) (fun hb1 => ?_)
 ·simp at hb1; done
 try simp only [zA, zO, zN, zM, zP, zQ, zD, zF, gd] at hb1
 refine AC_skip ?_
 refine AC_seq (AC_region ?_)
 refine AL_step rfl rfl (S_call rfl AEvs.nil (conn_New_ok st)) ?_
 rintro _ _ ⟨_, ⟨bc, bx, rfl, rfl⟩, rfl⟩
 refine as_ rfl rfl rfl rfl ?_
 refine AL_nil ?_
 refine AC_seq ?_
 refine AC_seq (AC_region ?_)
 refine mv rfl rfl rfl rfl ?_
 refine AL_p rfl rfl (S_eqlNil rfl (.tmp rfl) (AEv.const _) (by kernel_rfl)) ?_
 refine mv rfl rfl rfl rfl ?_
 refine AL_g rfl rfl (.tmp rfl) rfl (fun hg2 => S_move rfl (.tmp rfl)) ?_
 refine AL_g rfl rfl (.tmp rfl) rfl (fun hg5 => by first | exact S_lenM (e := 9) rfl (AEv.cd (.tmp rfl)) (by kernel_rfl) | exact S_len (e := 9) rfl (AEv.cd (.tmp rfl)) (by kernel_rfl)) ?_
 refine AL_g rfl rfl (.tmp rfl) rfl (fun hg8 => S_gtr rfl (AEv.cd (.tmp rfl)) (AEv.const _)) ?_
 refine AL_p rfl rfl (S_or rfl (.tmp rfl) (fun hp11 => (AEv.cd (.tmp rfl)))) ?_
 refine AL_nil ?_
 refine AC_cond (.tmp rfl) (fun hb12 => ?_) (fun hb12 => ?_)
 ·try simp only [zA, zO, zN, zM, zP, zQ, zD, zF, gd] at hb12
  refine AC_seq (AC_region ?_)
  refine mv rfl rfl rfl rfl ?_
  refine AL_p rfl rfl (S_neqNil rfl (.tmp rfl) (AEv.const _) (by kernel_rfl)) ?_
  refine as_ rfl rfl rfl rfl ?_
  refine AL_nil (AC_ret ?_)
  refine ret_tmp st rfl rfl (Sub.l (.cons _ (.cons _ (List.sublist_append_right _ _)))) (Conv.refl (Sub.l (.cons _ (.cons _ (List.sublist_append_right _ _)))) _) ⟨rfl, rfl⟩ (.inl rfl)
 try simp only [zA, zO, zN, zM, zP, zQ, zD, zF, gd] at hb12
 have hl20 : l.length ≤ 20 := by first | omega | (have h9 := hb12.2; simp [strsV] at h9; omega) | (simp [strsV] at hb12; omega)
 refine AC_skip ?_
 refine AC_seq (AC_region ?_)
 refine AL_p rfl rfl (S_assign rfl (AEv.S _)) ?_
 refine AL_nil ?_
 refine AC_seq ?_
 refine AC_seq (AC_region ?_)
 refine mv rfl rfl rfl rfl ?_
 refine AL_p rfl rfl (by first | exact S_lenM (e := 9) rfl (.tmp rfl) (by kernel_rfl) | exact S_len (e := 9) rfl (.tmp rfl) (by kernel_rfl)) ?_
 refine AL_p rfl rfl (S_move rfl (AEv.const _)) ?_
 refine AL_nil ?_
 refine AC_block ?_
 refine AC_loopK (G := Nat) [(0, _), (1, _), (5, _), (33, _)] (fun g => g ≤ l.length) (fun g => [(6, .S (framesB ((l.map (List.take 200)).take g))), (34, .int .i64 (g : Int))]) (fun g => (((bc, Ob.cells [.ptr bx 0, ownAV .nil 1 (strsV []), ownAV .nil 1 (strsV []), .int .i64 0]) :: (bx, Ob.cells [.S [], .bool false]) :: ownSt .nil 9 1 (strsV [])) ++ st)) (fun g => l.length - g) (0) (Nat.zero_le _) (Sub.l (List.Sublist.refl _)) (.cons rfl (Le.refl _) (.cons rfl (Le.refl _) (.cons rfl (Le.refl _) (.cons rfl (Le.refl _) .nil)))) (.cons rfl (by first | exact Le.refl _ | exact Le.nils | exact Le.row _ _ _ _ | exact Le.of_eq (by first | rfl | (simp; done) | (push_cast; rfl) | (simp; omega))) (.cons rfl (by first | exact Le.refl _ | exact Le.nils | exact Le.row _ _ _ _ | exact Le.of_eq (by first | rfl | (simp; done) | (push_cast; rfl) | (simp; omega))) .nil)) ?_
 rintro i hi
 try dsimp only
 simp only [List.cons_append, List.nil_append]
 have hfl := frames_len ((l.map (List.take 200)).take i) 200 (fun x hx => hx200 x (List.mem_of_mem_take hx))
 have hfm : ((l.map (List.take 200)).take i).length * (200 + 2) ≤ 20 * 202 := Nat.mul_le_mul_right _ (by rw [List.length_take]; omega)
 refine AC_seq (AC_region ?_)
 refine AL_p rfl rfl (S_lss rfl (.tmp rfl) (.tmp rfl)) ?_
 refine AL_nil ?_
 refine AC_seq ?_
 refine AC_cond (.tmp rfl) (fun hb13 => ?_) (fun hb13 => ?_)
 ·try simp only [zA, zO, zN, zM, zP, zQ, zD, zF, gd] at hb13
  have hil : i < l.length := by first | omega | (have h9 := hb13; simp [strsV] at h9; omega)
  have hiL : i < (l.map (List.take 200)).length := by omega
  have hget : (l.map (List.take 200))[i]'hiL = ((l[i]'hil).take 200) := List.getElem_map _
  have hxl := List.length_take_le 200 (l[i]'hil)
  refine AC_skip ?_
  refine AC_seq ?_
  refine AC_block ?_
  refine AC_seq (AC_region ?_)
  refine mv rfl rfl rfl rfl ?_
  refine as_ rfl rfl rfl rfl ?_
  refine AL_nil (AC_seq (AC_region ?_))
  refine mv rfl rfl rfl rfl ?_
  refine mv rfl rfl rfl rfl ?_
  refine AL_p rfl rfl (S_elemN (e := 9) 1 rfl (.tmp rfl) (.tmp rfl) (by kernel_rfl) (by kernel_rfl) (by omega) (fun _ => rfl)) ?_
  refine AL_p rfl rfl (S_loadP rfl (.tmp rfl) rfl (by kernel_rfl)) ?_
  refine AL_p rfl rfl (S_pcall rfl (AEvs.cons (.tmp rfl) (AEvs.cons (AEv.const _) AEvs.nil)) (book_Cut_ok (l[i]'hil) 200)) ?_
  refine AL_p rfl rfl (S_pcall rfl (AEvs.cons (.tmp rfl) AEvs.nil) (frame_Put_ok ((l[i]'hil).take 200) (by have := List.length_take_le 200 (l[i]'hil); omega))) ?_
  refine mv rfl rfl rfl rfl ?_
  refine AL_p rfl rfl (S_extract 0 rfl (.tmp rfl) rfl) ?_
  refine AL_p rfl rfl (S_extract 1 rfl (.tmp rfl) rfl) ?_
  refine as_ rfl rfl rfl rfl ?_
  refine as_ rfl rfl rfl rfl ?_
  refine AL_nil ?_
  refine AC_seq ?_
  refine AC_seq (AC_region ?_)
  refine mv rfl rfl rfl rfl ?_
  refine AL_p rfl rfl (S_neq rfl (.tmp rfl) (AEv.const _)) ?_
  refine AL_nil ?_
  refine AC_cond (.tmp rfl) (fun hb14 => ?_) (fun hb14 => ?_)
  ·simp at hb14; done
  try simp only [zA, zO, zN, zM, zP, zQ, zD, zF, gd] at hb14
  refine AC_skip ?_
  refine AC_region ?_
  refine mv rfl rfl rfl rfl ?_
  refine mv rfl rfl rfl rfl ?_
  refine AL_p rfl rfl (S_cat rfl (.tmp rfl) (.tmp rfl) (by first | omega | (simp only [frameB_len]; omega))) ?_
  refine as_ rfl rfl rfl rfl ?_
  refine AL_nil ?_
  refine AC_region ?_
  refine AL_p rfl rfl (S_addI rfl (.tmp rfl) (AEv.const _) (by omega) (by omega)) ?_
  refine mv rfl rfl rfl rfl ?_
  refine AL_nil ?_
  exact ⟨i + 1, by omega, by omega, (Sub.l (List.Sublist.refl _)), (.cons rfl (Le.of_eq (congrArg AV.S (by rw [frames_snoc hiL, hget]))) (.cons rfl (by first | exact Le.refl _ | exact Le.nils | exact Le.row _ _ _ _ | exact Le.of_eq (by first | rfl | (simp; done) | (push_cast; rfl) | (simp; omega))) .nil)), (.cons rfl (Le.refl _) (.cons rfl (Le.refl _) (.cons rfl (Le.refl _) (.cons rfl (Le.refl _) .nil))))⟩
 try simp only [zA, zO, zN, zM, zP, zQ, zD, zF, gd] at hb13
 have hxx : (l.map (List.take 200)).take i = (l.map (List.take 200)) := List.take_of_length_le (by first | omega | (have h9 := hb13; simp [strsV] at h9; omega))
 rw [hxx] at hfl hfm ⊢
 refine AC_exit ?_
 refine AC_seq (AC_region ?_)
 refine ac rfl rfl rfl ?_
 refine AL_nil ?_
 refine AC_seq ?_
 refine AC_seq (AC_region ?_)
 refine ac rfl rfl rfl ?_
 refine AL_nil ?_
 refine AC_block ?_
 refine AC_loopK (G := Nat × List UInt8 × List UInt8 × List (List UInt8) × Own) [(0, _), (1, _), (5, _)] (fun g => Came (l.map (List.take 200)) g.2.2.1 g.2.1 g.2.2.2.1 ∧ g.2.2.2.2.ok (strsV g.2.2.2.1) ∧ g.2.2.1.length ≤ 8192 ∧ g.2.2.2.1.length ≤ 20 ∧ g.1 ≤ 61 ∧ (g.2.1 ≠ [] → g.1 ≤ 60) ∧ g.2.1.length ≤ 4040) (fun g => [(6, .S g.2.1), (10, .int .i64 (g.2.2.2.1.length : Int)), (11, .int .i64 (g.1 : Int))]) (fun g => (((bc, Ob.cells [.ptr bx 0, ownAV g.2.2.2.2 1 (strsV g.2.2.2.1), ownAV .nil 1 (strsV []), .int .i64 0]) :: (bx, Ob.cells [.S g.2.2.1, .bool false]) :: ownSt g.2.2.2.2 9 1 (strsV g.2.2.2.1)) ++ st)) (fun g => (60 - g.1) + g.2.1.length) ((0, framesB (l.map (List.take 200)), [], [], .nil)) (⟨Came.start _, rfl, by simp, by simp, by omega, fun _ => by omega, by dsimp only; omega⟩) (Sub.l (List.Sublist.refl _)) (.cons rfl (Le.refl _) (.cons rfl (Le.refl _) (.cons rfl (Le.refl _) .nil))) (.cons rfl (by first | exact Le.refl _ | exact Le.nils | exact Le.row _ _ _ _ | exact Le.of_eq (by first | rfl | (simp; done) | (push_cast; rfl) | (simp; omega))) (.cons rfl (by first | exact Le.refl _ | exact Le.nils | exact Le.row _ _ _ _ | exact Le.of_eq (by first | rfl | (simp; done) | (push_cast; rfl) | (simp; omega))) (.cons rfl (by first | exact Le.refl _ | exact Le.nils | exact Le.row _ _ _ _ | exact Le.of_eq (by first | rfl | (simp; done) | (push_cast; rfl) | (simp; omega))) .nil))) ?_
 rintro ⟨i, all, s, w, p⟩ ⟨hcm, hp, hs, hw, hi, hi2, hall⟩
 try dsimp only
 simp only [List.cons_append, List.nil_append]
 dsimp only at hcm hp hs hw hi hi2 hall
 refine AC_seq ?_
 refine AC_seq (AC_region ?_)
 refine mv rfl rfl rfl rfl ?_
 refine AL_p rfl rfl (S_neS rfl (.tmp rfl) (AEv.S _)) ?_
 refine AL_nil ?_
 refine AC_cond (.tmp rfl) (fun hb15 => ?_) (fun hb15 => ?_)
 ·try simp only [zA, zO, zN, zM, zP, zQ, zD, zF, gd] at hb15
  have hne : 0 < all.length := List.length_pos_iff.2 (by simpa using hb15)
  have hi60 : i ≤ 60 := hi2 (by simpa using hb15)
  refine AC_skip ?_
  refine AC_seq ?_
  refine AC_block ?_
  refine AC_seq (AC_region ?_)
  refine mv rfl rfl rfl rfl ?_
  refine AL_p rfl rfl (S_lenS (ts := #[]) rfl (.tmp rfl) (by kernel_rfl)) ?_
  refine as_ rfl rfl rfl rfl ?_
  refine AL_nil ?_
  refine AC_joinK (G := Nat) [(0, _), (1, _), (5, _), (6, _), (10, _), (11, _)] (fun g => g ≤ all.length ∧ (g = all.length ∨ i < 60)) (fun g => [(12, .int .i64 (g : Int))]) (fun g => (((bc, Ob.cells [.ptr bx 0, ownAV p 1 (strsV w), ownAV .nil 1 (strsV []), .int .i64 0]) :: (bx, Ob.cells [.S s, .bool false]) :: ownSt p 9 1 (strsV w)) ++ st)) (.cons rfl (Le.refl _) (.cons rfl (Le.refl _) (.cons rfl (Le.refl _) (.cons rfl (Le.refl _) (.cons rfl (Le.refl _) (.cons rfl (Le.refl _) .nil)))))) ?_ ?_
  ·refine AC_seq (AC_region ?_)
   refine mv rfl rfl rfl rfl ?_
   refine mv rfl rfl rfl rfl ?_
   refine AL_p rfl rfl (by first | exact S_lenM (e := 3) rfl (.tmp rfl) (by kernel_rfl) | exact S_len (e := 3) rfl (.tmp rfl) (by kernel_rfl)) ?_
   refine AL_p rfl rfl (S_lss rfl (.tmp rfl) (.tmp rfl)) ?_
   refine mv rfl rfl rfl rfl ?_
   refine AL_g rfl rfl (.tmp rfl) rfl (fun hg16 => S_move rfl (.tmp rfl)) ?_
   refine AL_g rfl rfl (.tmp rfl) rfl (fun hg19 => S_lss rfl (AEv.cd (.tmp rfl)) (AEv.const _)) ?_
   refine AL_p rfl rfl (S_and rfl (.tmp rfl) (fun hp22 => (AEv.cd (.tmp rfl)))) ?_
   refine AL_nil ?_
   refine AC_cond (.tmp rfl) (fun hb23 => ?_) (fun hb23 => ?_)
   ·try simp only [zA, zO, zN, zM, zP, zQ, zD, zF, gd] at hb23
    have hic : i < cuts.length := by first | omega | (have h9 := hb23.1; simp [intsV] at h9; omega)
    refine AC_region ?_
    refine mv rfl rfl rfl rfl ?_
    refine mv rfl rfl rfl rfl ?_
    refine AL_p rfl rfl (S_elemN (e := 3) 1 rfl (.tmp rfl) (.tmp rfl) (by kernel_rfl) (by kernel_rfl) (by omega) (fun _ => rfl)) ?_
    refine AL_p rfl rfl (S_loadP rfl (.tmp rfl) rfl (by kernel_rfl)) ?_
    refine AL_p rfl rfl (S_pcall rfl (AEvs.cons (.tmp rfl) (AEvs.cons (AEv.const _) AEvs.nil)) (book_Below_ok (cuts[i]'hic) 60 (by decide) (by decide))) ?_
    refine mv rfl rfl rfl rfl ?_
    refine AL_p rfl rfl (S_lenS (ts := #[]) rfl (.tmp rfl) (by kernel_rfl)) ?_
    refine AL_p rfl rfl (S_min rfl (.tmp rfl) (.tmp rfl)) ?_
    refine as_ rfl rfl rfl rfl ?_
    refine AL_nil ?_
    have hbb := belowI_bnd (cuts[i]'hic) (n := 60) (by decide)
    have hmm : min (belowI (cuts[i]'hic) 60) (all.length : Int) = belowI (cuts[i]'hic) 60 ∨ min (belowI (cuts[i]'hic) 60) (all.length : Int) = (all.length : Int) := by rw [Int.min_def]; split <;> simp
    have hml : min (belowI (cuts[i]'hic) 60) (all.length : Int) ≤ (all.length : Int) := Int.min_le_right _ _
    exact ⟨(min (belowI (cuts[i]'hic) 60) (all.length : Int)).toNat, ⟨by omega, by omega⟩, (Sub.l (List.Sublist.refl _)), (.cons rfl (Le.of_eq (congrArg (AV.int .i64) (by first | rfl | omega))) .nil), (.cons rfl (Le.refl _) (.cons rfl (Le.refl _) (.cons rfl (Le.refl _) (.cons rfl (Le.refl _) (.cons rfl (Le.refl _) (.cons rfl (Le.refl _) .nil))))))⟩
   try simp only [zA, zO, zN, zM, zP, zQ, zD, zF, gd] at hb23
   refine AC_skip ?_
   exact ⟨all.length, ⟨Nat.le_refl _, .inl rfl⟩, (Sub.l (List.Sublist.refl _)), (.cons rfl (Le.of_eq (congrArg (AV.int .i64) (by first | rfl | omega))) .nil), (.cons rfl (Le.refl _) (.cons rfl (Le.refl _) (.cons rfl (Le.refl _) (.cons rfl (Le.refl _) (.cons rfl (Le.refl _) (.cons rfl (Le.refl _) .nil))))))⟩
  rintro n ⟨hn, hn2⟩
  try dsimp only
  simp only [List.cons_append, List.nil_append]
  refine AC_seq (AC_region ?_)
  refine mv rfl rfl rfl rfl ?_
  refine mv rfl rfl rfl rfl ?_
  refine mv rfl rfl rfl rfl ?_
  refine AL_p rfl rfl ((S_sliceH rfl (.tmp rfl) (.tmp rfl) (by kernel_rfl) (by omega) (by omega)).ofV (V' := .S (all.take n)) (congrArg AV.S (congrArg (fun k => List.take k all) (Int.toNat_natCast n)))) ?_
  refine AL_step rfl rfl (S_call rfl (AEvs.cons (.tmp rfl) (AEvs.cons (.tmp rfl) AEvs.nil)) (ACalls.preQ (pre := []) (F := st) (conn_Feed_ok bc bx p w s false _ 0 hp (all.take n) hs (by have := List.length_take_le n all; have := hall; omega) (by omega) _))) ?_
  rintro _ _ ⟨_, ⟨p2, hp2, rfl, rfl⟩, rfl⟩
  obtain ⟨s2, w2, hf, hc2, hww, hs2, hw20⟩ := hcm.feed (by omega) hx200 n hn
  rw [hf] at hp2 ⊢
  dsimp only at hp2 ⊢
  refine mv rfl rfl rfl rfl ?_
  refine AL_p rfl rfl (S_extract 0 rfl (.tmp rfl) rfl) ?_
  refine AL_p rfl rfl (S_extract 1 rfl (.tmp rfl) rfl) ?_
  refine as_ rfl rfl rfl rfl ?_
  refine as_ rfl rfl rfl rfl ?_
  refine AL_nil ?_
  refine AC_seq ?_
  refine AC_seq (AC_region ?_)
  refine mv rfl rfl rfl rfl ?_
  refine AL_p rfl rfl (S_neq rfl (.tmp rfl) (AEv.const _)) ?_
  refine AL_nil ?_
  refine AC_cond (.tmp rfl) (fun hb24 => ?_) (fun hb24 => ?_)
  ·simp at hb24; done
  try simp only [zA, zO, zN, zM, zP, zQ, zD, zF, gd] at hb24
  refine AC_skip ?_
  refine AC_seq (AC_region ?_)
  refine mv rfl rfl rfl rfl ?_
  refine mv rfl rfl rfl rfl ?_
  refine AL_p rfl rfl (S_addI rfl (.tmp rfl) (.tmp rfl) (by omega) (by omega)) ?_
  refine as_ rfl rfl rfl rfl ?_
  refine AL_nil ?_
  refine AC_region ?_
  refine mv rfl rfl rfl rfl ?_
  refine mv rfl rfl rfl rfl ?_
  refine AL_p rfl rfl ((S_sliceL rfl (.tmp rfl) (.tmp rfl) (by kernel_rfl) (by omega) (by omega)).ofV (V' := .S (all.drop n)) (congrArg AV.S (congrArg (fun k => List.drop k all) (Int.toNat_natCast n)))) ?_
  refine as_ rfl rfl rfl rfl ?_
  refine AL_nil ?_
  refine AC_region ?_
  refine mv rfl rfl rfl rfl ?_
  refine AL_p rfl rfl (S_addI rfl (.tmp rfl) (AEv.const _) (by omega) (by omega)) ?_
  refine as_ rfl rfl rfl rfl ?_
  refine AL_nil ?_
  refine ⟨(i + 1, all.drop n, s2, w2, p2), ⟨hc2, hp2, hs2, hw20, by dsimp only; omega, fun h => ?_, by dsimp only; rw [List.length_drop]; omega⟩, by dsimp only; rw [List.length_drop]; omega, (Sub.l (List.Sublist.refl _)), (.cons rfl (by first | exact Le.refl _ | exact Le.nils | exact Le.row _ _ _ _ | exact Le.of_eq (by first | rfl | (simp; done) | (push_cast; rfl) | (simp; omega))) (.cons rfl (Le.of_eq (congrArg (AV.int .i64) (by dsimp only; omega))) (.cons rfl (by first | exact Le.refl _ | exact Le.nils | exact Le.row _ _ _ _ | exact Le.of_eq (by first | rfl | (simp; done) | (push_cast; rfl) | (simp; omega))) .nil))), (.cons rfl (Le.refl _) (.cons rfl (Le.refl _) (.cons rfl (Le.refl _) .nil)))⟩
  dsimp only at h ⊢
  rcases hn2 with h9 | h9
  ·exact absurd (by rw [h9, List.drop_length]) h
  ·omega
 try simp only [zA, zO, zN, zM, zP, zQ, zD, zF, gd] at hb15
 obtain rfl : all = [] := by simpa using hb15
 obtain ⟨rfl, rfl⟩ := hcm.done hx200
 refine AC_exit ?_
 refine AC_seq ?_
 refine AC_seq (AC_region ?_)
 refine mv rfl rfl rfl rfl ?_
 refine mv rfl rfl rfl rfl ?_
 refine AL_p rfl rfl (by first | exact S_lenM (e := 9) rfl (.tmp rfl) (by kernel_rfl) | exact S_len (e := 9) rfl (.tmp rfl) (by kernel_rfl)) ?_
 refine AL_p rfl rfl (S_neq rfl (.tmp rfl) (.tmp rfl)) ?_
 refine mv rfl rfl rfl rfl ?_
 refine AL_g rfl rfl (.tmp rfl) rfl (fun hg25 => S_move rfl (.tmp rfl)) ?_
 refine AL_g rfl rfl (.tmp rfl) rfl (fun hg28 => S_keep (S_call rfl (AEvs.cons (AEv.cd (.tmp rfl)) AEvs.nil) (ACalls.preQ (pre := []) (F := st) (conn_Waiting_ok bc bx p _ _ _ _ _ hp _))) (by rintro _ _ ⟨_, ⟨rfl, rfl⟩, rfl⟩; exact ⟨rfl, rfl⟩)) ?_
 refine AL_g rfl rfl (.tmp rfl) rfl (fun hg31 => S_move rfl (.tmp rfl)) ?_
 refine AL_g rfl rfl (.tmp rfl) rfl (fun hg34 => by first | exact S_lenM (e := 9) rfl (AEv.cd (.tmp rfl)) (by kernel_rfl) | exact S_len (e := 9) rfl (AEv.cd (.tmp rfl)) (by kernel_rfl)) ?_
 refine AL_g rfl rfl (.tmp rfl) rfl (fun hg37 => S_neq rfl (AEv.cd (.tmp rfl)) (AEv.cd (.tmp rfl))) ?_
 refine AL_p rfl rfl (S_or rfl (.tmp rfl) (fun hp40 => (AEv.cd (.tmp rfl)))) ?_
 refine AL_nil ?_
 refine AC_cond (.tmp rfl) (fun hb41 => ?_) (fun hb41 => ?_)
 ·exfalso; revert hb41; simp [strsV]
 try simp only [zA, zO, zN, zM, zP, zQ, zD, zF, gd] at hb41
 refine AC_skip ?_
 refine AC_seq ?_
 refine AC_seq (AC_region ?_)
 refine mv rfl rfl rfl rfl ?_
 refine AL_p rfl rfl (by first | exact S_lenM (e := 9) rfl (.tmp rfl) (by kernel_rfl) | exact S_len (e := 9) rfl (.tmp rfl) (by kernel_rfl)) ?_
 refine AL_p rfl rfl (S_move rfl (AEv.const _)) ?_
 refine AL_nil ?_
 refine AC_block ?_
 refine AC_loopK (G := Nat × Own) [(0, _), (5, _), (102, _)] (fun g => g.1 ≤ l.length ∧ g.2.ok (strsV ((l.map (List.take 200)).drop g.1))) (fun g => [(103, .int .i64 (g.1 : Int))]) (fun g => (((bc, Ob.cells [.ptr bx 0, ownAV g.2 1 (strsV ((l.map (List.take 200)).drop g.1)), ownAV .nil 1 (strsV []), .int .i64 (g.1 : Int)]) :: (bx, Ob.cells [.S [], .bool false]) :: ownSt g.2 9 1 (strsV ((l.map (List.take 200)).drop g.1))) ++ st)) (fun g => l.length - g.1) ((0, p)) (⟨Nat.zero_le _, hp⟩) (Sub.l (List.Sublist.refl _)) (.cons rfl (Le.refl _) (.cons rfl (Le.refl _) (.cons rfl (Le.refl _) .nil))) (.cons rfl (by first | exact Le.refl _ | exact Le.nils | exact Le.row _ _ _ _ | exact Le.of_eq (by first | rfl | (simp; done) | (push_cast; rfl) | (simp; omega))) .nil) ?_
 rintro ⟨i, p⟩ ⟨hi, hp⟩
 try dsimp only
 simp only [List.cons_append, List.nil_append]
 dsimp only at hi hp
 refine AC_seq (AC_region ?_)
 refine AL_p rfl rfl (S_lss rfl (.tmp rfl) (.tmp rfl)) ?_
 refine AL_nil ?_
 refine AC_seq ?_
 refine AC_cond (.tmp rfl) (fun hb42 => ?_) (fun hb42 => ?_)
 ·try simp only [zA, zO, zN, zM, zP, zQ, zD, zF, gd] at hb42
  have hil : i < l.length := by first | omega | (have h9 := hb42; simp [strsV] at h9; omega)
  have hiL : i < (l.map (List.take 200)).length := by omega
  have hdr : (l.map (List.take 200)).drop i = ((l[i]'hil).take 200) :: (l.map (List.take 200)).drop (i + 1) := by rw [List.drop_eq_getElem_cons hiL, List.getElem_map]
  rw [hdr] at hp ⊢
  refine AC_skip ?_
  refine AC_seq ?_
  refine AC_block ?_
  refine AC_seq (AC_region ?_)
  refine mv rfl rfl rfl rfl ?_
  refine as_ rfl rfl rfl rfl ?_
  refine AL_nil (AC_seq (AC_region ?_))
  refine mv rfl rfl rfl rfl ?_
  refine AL_step rfl rfl (S_call rfl (AEvs.cons (.tmp rfl) AEvs.nil) (ACalls.preQ (pre := []) (F := st) (conn_Next_ok bc bx p (((l[i]'hil).take 200) :: (l.map (List.take 200)).drop (i + 1)) [] false _ (i : Int) hp (by simp only [List.length_cons, List.length_drop]; omega) (by omega) _ hG))) ?_
  rintro _ _ ⟨_, ⟨p2, hp2, rfl, rfl⟩, rfl⟩
  refine mv rfl rfl rfl rfl ?_
  refine AL_p rfl rfl (S_extract 0 rfl (.tmp rfl) rfl) ?_
  refine AL_p rfl rfl (S_extract 1 rfl (.tmp rfl) rfl) ?_
  refine AL_step rfl rfl (S_alloc [.int .i64 0, .int .i64 0, .int .i64 0, .int .u64 0, .string ⟨#[]⟩, .slice none 0 0, .slice none 0 0, .slice none 0 0, .int .i64 0, .int .i64 0, .int .i64 0, .int .i64 0, .int .i64 0, .int .i64 0, .int .i64 0, .string ⟨#[]⟩, .slice none 0 0, .int .i64 0, .string ⟨#[]⟩] rfl (by kernel_rfl)) ?_
  rintro _ _ ⟨b16, rfl, rfl⟩
  refine AL_step rfl rfl (S_storeW 0 rfl (.tmp rfl) (.tmp rfl) rfl rfl rfl (by kernel_rfl)) ?_
  rintro _ _ ⟨rfl, rfl⟩
  refine as_ rfl rfl rfl rfl ?_
  refine AL_nil (AC_seq (AC_region ?_))
  refine mv rfl rfl rfl rfl ?_
  refine mv rfl rfl rfl rfl ?_
  refine AL_p rfl rfl (S_elemN (e := 9) 1 rfl (.tmp rfl) (.tmp rfl) (by kernel_rfl) (by kernel_rfl) (by omega) (fun _ => rfl)) ?_
  refine AL_p rfl rfl (S_loadP rfl (.tmp rfl) rfl (by kernel_rfl)) ?_
  refine AL_p rfl rfl (S_pcall rfl (AEvs.cons (.tmp rfl) (AEvs.cons (AEv.const _) AEvs.nil)) (book_Cut_ok (l[i]'hil) 200)) ?_
  refine AL_p rfl rfl (S_gcall rfl (AEvs.cons (.tmp rfl) AEvs.nil) ((ask_Of_ok ((l[i]'hil).take 200)) _ (fun p hp => by repeat (first | exact hG p hp | refine List.mem_cons_of_mem _ ?_ | refine List.mem_append_right _ ?_)))) ?_
  refine mv rfl rfl rfl rfl ?_
  refine AL_p rfl rfl (S_extract 0 rfl (.tmp rfl) rfl) ?_
  refine AL_p rfl rfl (S_extract 1 rfl (.tmp rfl) rfl) ?_
  refine AL_step rfl rfl (S_alloc [.int .i64 0, .int .i64 0, .int .u64 0, .string ⟨#[]⟩, .slice none 0 0, .slice none 0 0, .slice none 0 0, .int .i64 0, .int .i64 0, .int .i64 0, .int .i64 0, .int .i64 0, .int .i64 0, .int .i64 0, .string ⟨#[]⟩, .slice none 0 0] rfl (by kernel_rfl)) ?_
  rintro _ _ ⟨b18, rfl, rfl⟩
  refine AL_step rfl rfl (S_storeW 0 rfl (.tmp rfl) (.tmp rfl) rfl rfl rfl (by kernel_rfl)) ?_
  rintro _ _ ⟨rfl, rfl⟩
  refine as_ rfl rfl rfl rfl ?_
  refine AL_nil ?_
  refine AC_seq ?_
  refine AC_draw (by kernel_rfl) (by kernel_rfl) (.cons rfl (Q_p rfl (S_move rfl (.tmp rfl))) <|
    .cons rfl (Q_p rfl (S_neq rfl (.tmp rfl) (AEv.const _))) <|
    .cons rfl (Q_p rfl (S_move rfl (.tmp rfl))) <|
    .cons rfl (Q_g rfl rfl (.tmp rfl) (fun hg45 => S_field 0 rfl (.tmp rfl) (by kernel_rfl))) <|
    .cons rfl (Q_g rfl rfl (.tmp rfl) (fun hg48 => S_load 1 rfl (AEv.cd (.tmp rfl)) rfl rfl (by kernel_rfl))) <|
    .cons rfl (Q_g rfl rfl (.tmp rfl) (fun hg51 => S_move rfl (.tmp rfl))) <|
    .cons rfl (Q_g rfl rfl (.tmp rfl) (fun hg54 => S_addI rfl (AEv.cd (.tmp rfl)) (AEv.const _) (by (try simp only [gd, Bool.and_eq_true, Bool.or_eq_true, Bool.not_eq_true', Bool.not_eq_false', decide_eq_true_eq, decide_eq_false_iff_not, Bool.or_eq_false_iff, Bool.and_eq_false_iff] at *); omega) (by (try simp only [gd, Bool.and_eq_true, Bool.or_eq_true, Bool.not_eq_true', Bool.not_eq_false', decide_eq_true_eq, decide_eq_false_iff_not, Bool.or_eq_false_iff, Bool.and_eq_false_iff] at *); omega))) <|
    .cons rfl (Q_g rfl rfl (.tmp rfl) (fun hg57 => S_neq rfl (AEv.cd (.tmp rfl)) (AEv.cd (.tmp rfl)))) <|
    .cons rfl (Q_p rfl (S_or rfl (.tmp rfl) (fun hp60 => (AEv.cd (.tmp rfl))))) <|
    .cons rfl (Q_p rfl (S_move rfl (.tmp rfl))) <|
    .cons rfl (Q_g rfl rfl (.tmp rfl) (fun hg61 => S_field 17 rfl (.tmp rfl) (by kernel_rfl))) <|
    .cons rfl (Q_g rfl rfl (.tmp rfl) (fun hg64 => S_load 1 rfl (AEv.cd (.tmp rfl)) rfl rfl (by kernel_rfl))) <|
    .cons rfl (Q_g rfl rfl (.tmp rfl) (fun hg67 => S_move rfl (.tmp rfl))) <|
    .cons rfl (Q_g rfl rfl (.tmp rfl) (fun hg70 => S_gcall rfl (AEvs.cons (AEv.cd (.tmp rfl)) AEvs.nil) ((fail_Code_ok (ofAE ((l[i]'hil).take 200))) _ (fun p hp => by repeat (first | exact hG p hp | refine List.mem_cons_of_mem _ ?_ | refine List.mem_append_right _ ?_))))) <|
    .cons rfl (Q_g rfl rfl (.tmp rfl) (fun hg73 => S_neq rfl (AEv.cd (.tmp rfl)) (AEv.cd (.tmp rfl)))) <|
    .cons rfl (Q_p rfl (S_or rfl (.tmp rfl) (fun hp76 => (AEv.cd (.tmp rfl))))) <|
    .cons rfl (Q_p rfl (S_move rfl (.tmp rfl))) <|
    .cons rfl (Q_g rfl rfl (.tmp rfl) (fun hg77 => S_field 18 rfl (.tmp rfl) (by kernel_rfl))) <|
    .cons rfl (Q_g rfl rfl (.tmp rfl) (fun hg80 => S_load 1 rfl (AEv.cd (.tmp rfl)) rfl rfl (by kernel_rfl))) <|
    .cons rfl (Q_g rfl rfl (.tmp rfl) (fun hg83 => S_move rfl (.tmp rfl))) <|
    .cons rfl (Q_g rfl rfl (.tmp rfl) (fun hg86 => S_gcall rfl (AEvs.cons (AEv.cd (.tmp rfl)) AEvs.nil) ((fail_Text_ok (ofAE ((l[i]'hil).take 200)) (by have := (ofAE_short ((l[i]'hil).take 200)).path; omega) (by have := (ofAE_short ((l[i]'hil).take 200)).text; unfold erText at this; omega)) _ (fun p hp => by repeat (first | exact hG p hp | refine List.mem_cons_of_mem _ ?_ | refine List.mem_append_right _ ?_))))) <|
    .cons rfl (Q_g rfl rfl (.tmp rfl) (fun hg89 => S_neS rfl (AEv.cd (.tmp rfl)) (AEv.cd (.tmp rfl)))) <|
    .cons rfl (Q_p rfl (S_or rfl (.tmp rfl) (fun hp92 => (AEv.cd (.tmp rfl))))) <|
    .cons rfl (Q_p rfl (S_move rfl (.tmp rfl))) <|
    .cons rfl (Q_g rfl rfl (.tmp rfl) (fun hg93 => S_field 1 rfl (.tmp rfl) (by kernel_rfl))) <|
    .cons rfl (Q_g rfl rfl (.tmp rfl) (fun hg96 => S_loadN (m := 16) 1 rfl (AEv.cd (.tmp rfl)) rfl (by kernel_rfl) (by first | exact Nat.le_of_ble_eq_true rfl | (simp; omega) | simp))) <|
    .cons rfl (Q_g rfl rfl (.tmp rfl) (fun hg99 => S_loadN (m := 16) 0 rfl (.tmp rfl) rfl (by kernel_rfl) (by first | exact Nat.le_of_ble_eq_true rfl | (simp; omega) | simp))) <|
    .cons rfl (Q_g rfl rfl (.tmp rfl) (fun hg102 => S_pcall rfl (AEvs.cons (y := calAV (ofA ((l[i]'hil).take 200))) (AEv.cd (.tmp rfl)) (AEvs.cons (y := calAV (ofA ((l[i]'hil).take 200))) (AEv.cd (.tmp rfl)) AEvs.nil)) (book_SameCall_ok (ofA ((l[i]'hil).take 200)) (ofA ((l[i]'hil).take 200)) (ofA_short _) (ofA_short _)))) <|
    .cons rfl (Q_g rfl rfl (.tmp rfl) (fun hg105 => S_not rfl (AEv.cd (.tmp rfl)))) <|
    .cons rfl (Q_p rfl (S_or rfl (.tmp rfl) (fun hp108 => (AEv.cd (.tmp rfl))))) <|
    .nil) ?_
  refine AC_cond (.tmp rfl) (fun hb109 => ?_) (fun hb109 => ?_)
  ·exfalso; revert hb109; simp [askN, waitC, sameA_refl]
  try simp only [zA, zO, zN, zM, zP, zQ, zD, zF, gd] at hb109
  refine AC_skip ?_
  refine AC_region ?_
  refine AL_p rfl rfl (S_addI rfl (.tmp rfl) (AEv.const _) (by omega) (by omega)) ?_
  refine mv rfl rfl rfl rfl ?_
  refine AL_nil ?_
  refine ⟨(i + 1, p2), ⟨by dsimp only; omega, hp2⟩, by dsimp only; omega, by dsimp only; rw [show (((i + 1 : Nat)) : Int) = tookN (((l[i]'hil).take 200) :: (l.map (List.take 200)).drop (i + 1)) (i : Int) from by simp [tookN]]; exact (Sub.l (List.Sublist.cons _ (List.Sublist.cons _ (List.Sublist.refl _)))), (.cons rfl (by first | exact Le.refl _ | exact Le.nils | exact Le.row _ _ _ _ | exact Le.of_eq (by first | rfl | (simp; done) | (push_cast; rfl) | (simp; omega))) .nil), (.cons rfl (Le.refl _) (.cons rfl (Le.refl _) (.cons rfl (Le.refl _) .nil)))⟩
 try simp only [zA, zO, zN, zM, zP, zQ, zD, zF, gd] at hb42
 obtain rfl : i = l.length := by first | omega | (have h9 := hb42; simp [strsV] at h9; omega)
 rw [show (l.map (List.take 200)).drop l.length = [] from List.drop_of_length_le (by omega)] at hp ⊢
 refine AC_exit ?_
 refine AC_seq (AC_region ?_)
 refine mv rfl rfl rfl rfl ?_
 refine AL_p rfl rfl (S_keep (S_call rfl (AEvs.cons (.tmp rfl) AEvs.nil) (ACalls.preQ (pre := []) (F := st) (conn_Waiting_ok bc bx p _ _ _ _ _ hp _))) (by rintro _ _ ⟨_, ⟨rfl, rfl⟩, rfl⟩; exact ⟨rfl, rfl⟩)) ?_
 refine AL_p rfl rfl (S_eql rfl (.tmp rfl) (AEv.const _)) ?_
 refine mv rfl rfl rfl rfl ?_
 refine AL_g rfl rfl (.tmp rfl) rfl (fun hg110 => S_move rfl (.tmp rfl)) ?_
 refine AL_g rfl rfl (.tmp rfl) rfl (fun hg113 => S_keep (S_call rfl (AEvs.cons (AEv.cd (.tmp rfl)) AEvs.nil) (ACalls.preQ (pre := []) (F := st) (conn_Taken_ok bc bx p _ _ _ _ _ hp _))) (by rintro _ _ ⟨_, ⟨rfl, rfl⟩, rfl⟩; exact ⟨rfl, rfl⟩)) ?_
 refine AL_g rfl rfl (.tmp rfl) rfl (fun hg116 => S_move rfl (.tmp rfl)) ?_
 refine AL_g rfl rfl (.tmp rfl) rfl (fun hg119 => by first | exact S_lenM (e := 9) rfl (AEv.cd (.tmp rfl)) (by kernel_rfl) | exact S_len (e := 9) rfl (AEv.cd (.tmp rfl)) (by kernel_rfl)) ?_
 refine AL_g rfl rfl (.tmp rfl) rfl (fun hg122 => S_eql rfl (AEv.cd (.tmp rfl)) (AEv.cd (.tmp rfl))) ?_
 refine AL_p rfl rfl (S_and rfl (.tmp rfl) (fun hp125 => (AEv.cd (.tmp rfl)))) ?_
 refine mv rfl rfl rfl rfl ?_
 refine AL_g rfl rfl (.tmp rfl) rfl (fun hg126 => S_move rfl (.tmp rfl)) ?_
 refine AL_g rfl rfl (.tmp rfl) rfl (fun hg129 => S_keep (S_call rfl (AEvs.cons (AEv.cd (.tmp rfl)) AEvs.nil) (ACalls.preQ (pre := []) (F := st) (conn_Over_ok bc bx p _ _ _ _ _ hp _))) (by rintro _ _ ⟨_, ⟨rfl, rfl⟩, rfl⟩; exact ⟨rfl, rfl⟩)) ?_
 refine AL_g rfl rfl (.tmp rfl) rfl (fun hg132 => S_not rfl (AEv.cd (.tmp rfl))) ?_
 refine AL_p rfl rfl (S_and rfl (.tmp rfl) (fun hp135 => (AEv.cd (.tmp rfl)))) ?_
 refine as_ rfl rfl rfl rfl ?_
 refine AL_nil (AC_ret ?_)
 refine ret_tmp st rfl rfl (Sub.l (.cons _ (.cons _ (List.sublist_append_right _ _)))) (Conv.refl (Sub.l (.cons _ (.cons _ (List.sublist_append_right _ _)))) _) ⟨congrArg AV.bool (by simp), rfl⟩ (.inl rfl)
end Go.Proofs.YtdnjeianoioieaaGreatDoor
