/- A part of the proof: what the program's functions answer.
Conditions: none beyond each theorem's own. -/
import Derived.Test.YtdnjeianoioieaaGreatDoorW2
set_option linter.unusedVariables false
set_option linter.unusedSimpArgs false
set_option maxRecDepth 100000
namespace Go.Proofs.YtdnjeianoioieaaGreatDoor
open Go.AL Go.NumSpec
theorem frame_New_ok (F : St) : ACalls Tryz.prog 26 [] ([] ++ F) (fun x st' => ∃ foot', (∃ bx, x = .ptr bx 0 ∧ foot' = [(bx, Ob.cells [.S [], .bool false])]) ∧ st' = foot' ++ F) := by
 refine co 3 Tryz.func26 ?_
 refine AC_seq (AC_region ?_)
 refine ac rfl rfl rfl ?_
 refine AL_nil (AC_seq (AC_region ?_))
 refine p_ (S_build (t := 110) (pl := [(0, 1), (1, 1)]) (zs := [.string ⟨#[]⟩, .bool false]) rfl AEvs.nil (by kernel_rfl) rfl) ?_
 refine s_ (S_box rfl (.tmp rfl)) ?_
 rintro _ _ ⟨b2, rfl, rfl⟩
 refine as_ rfl rfl rfl rfl ?_
 refine AL_nil (AC_ret ?_)
 refine ret_tmp ([(b2, Ob.cells [.S [], .bool false])] ++ F) rfl rfl (Sub.l (List.Sublist.refl _)) (Conv.refl (Sub.l (List.Sublist.refl _)) _) ⟨_, ⟨b2, rfl, rfl⟩, rfl⟩ (.inl rfl)
theorem frame_Closed_ok (bx : Nat) (s : List UInt8) (c : Bool) (F : St) : ACalls Tryz.prog 27 [.ptr bx 0] ([(bx, Ob.cells [.S s, .bool c])] ++ F) (fun x st' => ∃ foot', (x = .bool c ∧ foot' = [(bx, Ob.cells [.S s, .bool c])]) ∧ st' = foot' ++ F) := by
 refine co 7 Tryz.func27 ?_
 refine AC_seq (AC_region ?_)
 refine ac rfl rfl rfl ?_
 refine AL_nil (AC_seq (AC_region ?_))
 refine mv rfl rfl rfl rfl ?_
 refine p_ (S_nilCheck rfl (.tmp rfl)) ?_
 refine fl 1 ?_
 refine ld 0 ?_
 refine as_ rfl rfl rfl rfl ?_
 refine AL_nil (AC_ret ?_)
 refine ret_tmp ([(bx, Ob.cells [.S s, .bool c])] ++ F) rfl rfl (Sub.l (List.Sublist.refl _)) (Conv.refl (Sub.l (List.Sublist.refl _)) _) ⟨_, ⟨rfl, rfl⟩, rfl⟩ (.inl rfl)
theorem frame_Close_ok (bx : Nat) (s : List UInt8) (c : Bool) (F : St) : ACalls Tryz.prog 30 [.ptr bx 0] ([(bx, Ob.cells [.S s, .bool c])] ++ F) (fun x st' => ∃ foot', (x = .tup [] ∧ foot' = [(bx, Ob.cells [.S [], .bool true])]) ∧ st' = foot' ++ F) := by
 refine co 8 Tryz.func30 ?_
 refine AC_region ?_
 refine mv rfl rfl rfl rfl ?_
 refine mv rfl rfl rfl rfl ?_
 refine p_ (S_nilCheck rfl (.tmp rfl)) ?_
 refine fl 0 ?_
 refine s_ (S_store 0 rfl (.tmp rfl) (AEv.S _) rfl (by first | exact Nat.le_of_ble_eq_true rfl | simp) rfl (by kernel_rfl)) ?_
 rintro _ _ ⟨rfl, rfl⟩
 refine p_ (S_nilCheck rfl (.tmp rfl)) ?_
 refine fl 1 ?_
 refine s_ (S_store 0 rfl (.tmp rfl) (AEv.const _) rfl (by first | exact Nat.le_of_ble_eq_true rfl | simp) rfl (by kernel_rfl)) ?_
 rintro _ _ ⟨rfl, rfl⟩
 refine AL_nil ?_
 refine ret_none ([(bx, Ob.cells [.S [], .bool true])] ++ F) rfl (Sub.l (List.Sublist.refl _)) ⟨_, ⟨rfl, rfl⟩, rfl⟩ (.inr rfl)
theorem frame_fails_ok (bx : Nat) (s : List UInt8) (c : Bool) (d : Int) (F : St) : ACalls Tryz.prog 55 [.ptr bx 0, .int .i64 d] ([(bx, Ob.cells [.S s, .bool c])] ++ F) (fun x st' => ∃ foot', (x = .int .i64 d ∧ foot' = [(bx, Ob.cells [.S [], .bool true])]) ∧ st' = foot' ++ F) := by
 refine co 8 Tryz.func55 ?_
 refine AC_seq (AC_region ?_)
 refine ac rfl rfl rfl ?_
 refine AL_nil (AC_seq (AC_region ?_))
 refine mv rfl rfl rfl rfl ?_
 refine s_ (S_call rfl (AEvs.cons (.tmp rfl) AEvs.nil) (frame_Close_ok bx s c F)) ?_
 rintro _ _ ⟨_, ⟨rfl, rfl⟩, rfl⟩
 refine AL_nil (AC_seq (AC_region ?_))
 refine mv rfl rfl rfl rfl ?_
 refine as_ rfl rfl rfl rfl ?_
 refine AL_nil (AC_ret ?_)
 refine ret_tmp ([(bx, Ob.cells [.S [], .bool true])] ++ F) rfl rfl (Sub.l (List.Sublist.refl _)) (Conv.refl (Sub.l (List.Sublist.refl _)) _) ⟨_, ⟨rfl, rfl⟩, rfl⟩ (.inl rfl)
theorem frame_Feed_ok (bx : Nat) (s : List UInt8) (c : Bool) (t : List UInt8) (hs : s.length ≤ 8192) (ht : t.length ≤ 100000) (F : St) : ACalls Tryz.prog 28 [.ptr bx 0, .S t] ([(bx, Ob.cells [.S s, .bool c])] ++ F) (fun x st' => ∃ foot', (x = .int .i64 (putS s c t).2.2 ∧ foot' = [(bx, Ob.cells [.S (putS s c t).1, .bool (putS s c t).2.1])]) ∧ st' = foot' ++ F) := by
 refine co 30 Tryz.func28 ?_
 refine AC_seq (AC_region ?_)
 refine ac rfl rfl rfl ?_
 refine AL_nil ?_
 refine AC_seq ?_
 refine AC_block ?_
 refine AC_seq (AC_region ?_)
 refine mv rfl rfl rfl rfl ?_
 refine p_ (S_nilCheck rfl (.tmp rfl)) ?_
 refine fl 1 ?_
 refine ld 0 ?_
 refine as_ rfl rfl rfl rfl ?_
 refine AL_nil ?_
 refine AC_cond (.tmp rfl) (fun hb1 => ?_) (fun hb1 => ?_)
 ·try simp only [zA,zO,zN,zM,zP,zQ,zD,zF,gd] at hb1
  have hx := putS_closed (s := s) (t := t) (c := c) hb1
  refine AC_seq (AC_region ?_)
  refine ac rfl rfl rfl ?_
  refine AL_nil (AC_ret ?_)
  refine ret_tmp ([(bx, Ob.cells [.S s, .bool c])] ++ F) rfl rfl (Sub.l (List.Sublist.refl _)) (Conv.refl (Sub.l (List.Sublist.refl _)) _) ⟨_, ⟨by rw [hx], by rw [hx, show c = true from by assumption]⟩, rfl⟩ (.inl rfl)
 try simp only [zA,zO,zN,zM,zP,zQ,zD,zF,gd] at hb1
 have hc : ¬ c = true := by simpa using hb1
 refine AC_seq (AC_region ?_)
 refine mv rfl rfl rfl rfl ?_
 refine p_ (S_lenS (ts := #[]) rfl (.tmp rfl) (by kernel_rfl)) ?_
 refine mv rfl rfl rfl rfl ?_
 refine p_ (S_nilCheck rfl (.tmp rfl)) ?_
 refine fl 0 ?_
 refine ld 0 ?_
 refine p_ (S_lenS (ts := #[]) rfl (.tmp rfl) (by kernel_rfl)) ?_
 refine p_ (S_subI rfl (AEv.const _) (.tmp rfl) (by omega) (by omega)) ?_
 refine p_ (S_gtr rfl (.tmp rfl) (.tmp rfl)) ?_
 refine as_ rfl rfl rfl rfl ?_
 refine AL_nil ?_
 refine AC_cond (.tmp rfl) (fun hb2 => ?_) (fun hb2 => ?_)
 ·try simp only [zA,zO,zN,zM,zP,zQ,zD,zF,gd] at hb2
  have hx := putS_long (s := s) (t := t) hc (by omega)
  refine AC_seq (AC_region ?_)
  refine mv rfl rfl rfl rfl ?_
  refine s_ (S_call rfl (AEvs.cons (.tmp rfl) (AEvs.cons (AEv.const _) AEvs.nil)) (frame_fails_ok bx s c 2 F)) ?_
  rintro _ _ ⟨_, ⟨rfl, rfl⟩, rfl⟩
  refine as_ rfl rfl rfl rfl ?_
  refine AL_nil (AC_ret ?_)
  refine ret_tmp ([(bx, Ob.cells [.S [], .bool true])] ++ F) rfl rfl (Sub.l (List.Sublist.refl _)) (Conv.refl (Sub.l (List.Sublist.refl _)) _) ⟨_, ⟨by rw [hx], by rw [hx]⟩, rfl⟩ (.inl rfl)
 try simp only [zA,zO,zN,zM,zP,zQ,zD,zF,gd] at hb2
 have hx := putS_good (s := s) (t := t) hc (by omega)
 refine AC_skip ?_
 refine AC_seq (AC_region ?_)
 refine mv rfl rfl rfl rfl ?_
 refine p_ (S_nilCheck rfl (.tmp rfl)) ?_
 refine fl 0 ?_
 refine ld 0 ?_
 refine mv rfl rfl rfl rfl ?_
 refine p_ (S_cat rfl (.tmp rfl) (.tmp rfl) (by first | omega | (simp; done) | (simp; omega))) ?_
 refine p_ (S_nilCheck rfl (.tmp rfl)) ?_
 refine fl 0 ?_
 refine st1 0 ?_
 refine AL_nil (AC_seq (AC_region ?_))
 refine ac rfl rfl rfl ?_
 refine AL_nil (AC_ret ?_)
 refine ret_tmp ([(bx, Ob.cells [.S (s ++ t), .bool c])] ++ F) rfl rfl (Sub.l (List.Sublist.refl _)) (Conv.refl (Sub.l (List.Sublist.refl _)) _) ⟨_, ⟨by rw [hx], by rw [hx, show c = false by simpa using hc]⟩, rfl⟩ (.inl rfl)
theorem frame_Next_ok (bx : Nat) (s : List UInt8) (c : Bool) (hs : s.length ≤ 8192) (F : St) : ACalls Tryz.prog 29 [.ptr bx 0] ([(bx, Ob.cells [.S s, .bool c])] ++ F) (fun x st' => ∃ foot', (x = .tup [.S (nextX s c).1, .int .i64 (nextX s c).2.1] ∧ foot' = [(bx, Ob.cells [.S (nextX s c).2.2.1, .bool (nextX s c).2.2.2])]) ∧ st' = foot' ++ F) := by
 refine co 64 Tryz.func29 ?_
 refine AC_seq (AC_region ?_)
 refine p_ (S_assign rfl (AEv.S _)) ?_
 refine ac rfl rfl rfl ?_
 refine AL_nil ?_
 refine AC_seq ?_
 refine AC_block ?_
 refine AC_seq (AC_region ?_)
 refine mv rfl rfl rfl rfl ?_
 refine p_ (S_nilCheck rfl (.tmp rfl)) ?_
 refine fl 1 ?_
 refine ld 0 ?_
 refine as_ rfl rfl rfl rfl ?_
 refine AL_nil ?_
 refine AC_cond (.tmp rfl) (fun hb1 => ?_) (fun hb1 => ?_)
 ·try simp only [zA,zO,zN,zM,zP,zQ,zD,zF,gd] at hb1
  have hx : nextX s c = ([], 400, s, true) := if_pos hb1
  refine AC_seq (AC_region ?_)
  refine p_ (S_assign rfl (AEv.S _)) ?_
  refine ac rfl rfl rfl ?_
  refine AL_nil (AC_ret ?_)
  refine ret_tmps (ts := [2, 3]) ([(bx, Ob.cells [.S s, .bool c])] ++ F) rfl (by decide) rfl (Sub.l (List.Sublist.refl _)) (Conv.refl (Sub.l (List.Sublist.refl _)) _) ⟨_, ⟨by rw [hx], by rw [hx, show c = true from by assumption]⟩, rfl⟩ (.inl rfl)
 try simp only [zA,zO,zN,zM,zP,zQ,zD,zF,gd] at hb1
 have hc : c = false := by simpa using hb1
 subst hc
 refine AC_seq (AC_region ?_)
 refine mv rfl rfl rfl rfl ?_
 refine p_ (S_nilCheck rfl (.tmp rfl)) ?_
 refine fl 0 ?_
 refine ld 0 ?_
 refine p_ (S_lenS (ts := #[]) rfl (.tmp rfl) (by kernel_rfl)) ?_
 refine p_ (S_lss rfl (.tmp rfl) (AEv.const _)) ?_
 refine as_ rfl rfl rfl rfl ?_
 refine AL_nil ?_
 refine AC_cond (.tmp rfl) (fun hb2 => ?_) (fun hb2 => ?_)
 ·try simp only [zA,zO,zN,zM,zP,zQ,zD,zF,gd] at hb2
  have hx : nextX s false = ([], 6, s, false) := nextS_short (by omega)
  refine AC_seq (AC_region ?_)
  refine p_ (S_assign rfl (AEv.S _)) ?_
  refine ac rfl rfl rfl ?_
  refine AL_nil (AC_ret ?_)
  refine ret_tmps (ts := [2, 3]) ([(bx, Ob.cells [.S s, .bool false])] ++ F) rfl (by decide) rfl (Sub.l (List.Sublist.refl _)) (Conv.refl (Sub.l (List.Sublist.refl _)) _) ⟨_, ⟨by rw [hx], by rw [hx]⟩, rfl⟩ (.inl rfl)
 try simp only [zA,zO,zN,zM,zP,zQ,zD,zF,gd] at hb2
 have hl2 : ¬ s.length < 2 := by omega
 refine AC_skip ?_
 refine AC_seq ?_
 obtain ⟨h0, h1, r, rfl⟩ : ∃ h0 h1 r, s = h0 :: h1 :: r := by
  match s, hl2 with
  | a :: b :: r, _ => exact ⟨a, b, r, rfl⟩
  | [], h => exact absurd (by decide) h
  | [_], h => exact absurd (by decide : (1 : Nat) < 2) h
 have hb0 := h0.toNat_lt
 have hb1 := h1.toNat_lt
 refine AC_draw (by kernel_rfl) (by kernel_rfl) (.cons rfl (Q_p rfl (S_move rfl (.tmp rfl))) <|
   .cons rfl (Q_p rfl (S_nilCheck rfl (.tmp rfl))) <|
   .cons rfl (Q_p rfl (S_field 0 rfl (.tmp rfl) (by kernel_rfl))) <|
   .cons rfl (Q_p rfl (S_load 0 rfl (.tmp rfl) rfl rfl (by kernel_rfl))) <|
   .cons rfl (Q_p rfl ((S_index (i := 0) rfl (.tmp rfl) (AEv.const _) (by kernel_rfl) (by omega) (by simp only [List.length_cons]; omega)).ofV (V' := .int .u8 (h0.toNat : Int)) rfl)) <|
   .cons rfl (Q_p rfl ((S_conv (k' := .i64) rfl (.tmp rfl) (by kernel_rfl) (by kernel_rfl)).ofV (V' := .int .i64 (h0.toNat : Int)) (congrArg (AV.int .i64) (by rw [wrap_i64 (by omega) (by omega)])))) <|
   .cons rfl (Q_p rfl (S_move rfl (.tmp rfl))) <|
   .cons rfl (Q_p rfl (S_nilCheck rfl (.tmp rfl))) <|
   .cons rfl (Q_p rfl (S_field 0 rfl (.tmp rfl) (by kernel_rfl))) <|
   .cons rfl (Q_p rfl (S_load 0 rfl (.tmp rfl) rfl rfl (by kernel_rfl))) <|
   .cons rfl (Q_p rfl ((S_index (i := 1) rfl (.tmp rfl) (AEv.const _) (by kernel_rfl) (by omega) (by simp only [List.length_cons]; omega)).ofV (V' := .int .u8 (h1.toNat : Int)) rfl)) <|
   .cons rfl (Q_p rfl ((S_conv (k' := .i64) rfl (.tmp rfl) (by kernel_rfl) (by kernel_rfl)).ofV (V' := .int .i64 (h1.toNat : Int)) (congrArg (AV.int .i64) (by rw [wrap_i64 (by omega) (by omega)])))) <|
   .cons rfl (Q_p rfl ((S_shift rfl (by simp) (.tmp rfl) (AEv.const _) (shift_shl _ _ _ _ (by omega) (by simp only [IntKind.bits]; omega))).ofV (V' := .int .i64 ((h1.toNat * 256 : Nat) : Int)) (congrArg (AV.int .i64) (shl_eight hb1)))) <|
   .cons rfl (Q_p rfl ((S_bits rfl (by simp) (.tmp rfl) (.tmp rfl)).ofV (V' := .int .i64 ((frN (h0 :: h1 :: r) : Nat) : Int)) (congrArg (AV.int .i64) (or_bytes h0 h1)))) <|
   .cons rfl (Q_p rfl (S_assign rfl (.tmp rfl))) <|
   .nil) ?_
 refine AC_seq ?_
 refine AC_block ?_
 refine AC_seq (AC_region ?_)
 refine mv rfl rfl rfl rfl ?_
 refine p_ (S_gtr rfl (.tmp rfl) (AEv.const _)) ?_
 refine as_ rfl rfl rfl rfl ?_
 refine AL_nil ?_
 refine AC_cond (.tmp rfl) (fun hb3 => ?_) (fun hb3 => ?_)
 ·try simp only [zA,zO,zN,zM,zP,zQ,zD,zF,gd] at hb3
  have hx : nextX (h0 :: h1 :: r) false = ([], 2, [], true) := nextS_long hl2 (by omega)
  refine AC_seq (AC_region ?_)
  refine mv rfl rfl rfl rfl ?_
  refine s_ (S_call rfl (AEvs.cons (.tmp rfl) (AEvs.cons (AEv.const _) AEvs.nil)) (frame_fails_ok bx (h0 :: h1 :: r) false 2 F)) ?_
  rintro _ _ ⟨_, ⟨rfl, rfl⟩, rfl⟩
  refine p_ (S_assign rfl (AEv.S _)) ?_
  refine as_ rfl rfl rfl rfl ?_
  refine AL_nil (AC_ret ?_)
  refine ret_tmps (ts := [2, 3]) ([(bx, Ob.cells [.S [], .bool true])] ++ F) rfl (by decide) rfl (Sub.l (List.Sublist.refl _)) (Conv.refl (Sub.l (List.Sublist.refl _)) _) ⟨_, ⟨by rw [hx], by rw [hx]⟩, rfl⟩ (.inl rfl)
 try simp only [zA,zO,zN,zM,zP,zQ,zD,zF,gd] at hb3
 have hm : ¬ 2048 < frN (h0 :: h1 :: r) := by omega
 refine AC_seq (AC_region ?_)
 refine mv rfl rfl rfl rfl ?_
 refine mv rfl rfl rfl rfl ?_
 refine p_ (S_nilCheck rfl (.tmp rfl)) ?_
 refine fl 0 ?_
 refine ld 0 ?_
 refine p_ (S_lenS (ts := #[]) rfl (.tmp rfl) (by kernel_rfl)) ?_
 refine p_ (S_subI rfl (.tmp rfl) (AEv.const _) (by omega) (by omega)) ?_
 refine p_ (S_gtr rfl (.tmp rfl) (.tmp rfl)) ?_
 refine as_ rfl rfl rfl rfl ?_
 refine AL_nil ?_
 refine AC_cond (.tmp rfl) (fun hb4 => ?_) (fun hb4 => ?_)
 ·try simp only [zA,zO,zN,zM,zP,zQ,zD,zF,gd] at hb4
  have hx : nextX (h0 :: h1 :: r) false = ([], 6, h0 :: h1 :: r, false) := nextS_wait hl2 hm (by omega)
  refine AC_seq (AC_region ?_)
  refine p_ (S_assign rfl (AEv.S _)) ?_
  refine ac rfl rfl rfl ?_
  refine AL_nil (AC_ret ?_)
  refine ret_tmps (ts := [2, 3]) ([(bx, Ob.cells [.S (h0 :: h1 :: r), .bool false])] ++ F) rfl (by decide) rfl (Sub.l (List.Sublist.refl _)) (Conv.refl (Sub.l (List.Sublist.refl _)) _) ⟨_, ⟨by rw [hx], by rw [hx]⟩, rfl⟩ (.inl rfl)
 try simp only [zA,zO,zN,zM,zP,zQ,zD,zF,gd] at hb4
 have hf : ¬ (h0 :: h1 :: r).length < 2 + frN (h0 :: h1 :: r) := by omega
 have hx : nextX (h0 :: h1 :: r) false = ((((h0 :: h1 :: r).drop 2).take (frN (h0 :: h1 :: r))), 0, (h0 :: h1 :: r).drop (2 + frN (h0 :: h1 :: r)), false) := nextS_text hl2 hm hf
 refine AC_skip ?_
 refine AC_seq (AC_region ?_)
 refine mv rfl rfl rfl rfl ?_
 refine p_ (S_nilCheck rfl (.tmp rfl)) ?_
 refine fl 0 ?_
 refine ld 0 ?_
 refine mv rfl rfl rfl rfl ?_
 refine p_ (S_addI rfl (AEv.const _) (.tmp rfl) (by omega) (by omega)) ?_
 refine p_ ((S_sliceLH (i := 2) (j := 2 + (frN (h0 :: h1 :: r) : Int)) rfl (.tmp rfl) (AEv.const _) (.tmp rfl) (by kernel_rfl) (by omega) (by omega) (by omega)).ofV (V' := .S (((h0 :: h1 :: r).drop 2).take (frN (h0 :: h1 :: r)))) (congrArg AV.S (cut_two _ _))) ?_
 refine as_ rfl rfl rfl rfl ?_
 refine AL_nil (AC_seq (AC_region ?_))
 refine mv rfl rfl rfl rfl ?_
 refine mv rfl rfl rfl rfl ?_
 refine p_ (S_nilCheck rfl (.tmp rfl)) ?_
 refine fl 0 ?_
 refine ld 0 ?_
 refine mv rfl rfl rfl rfl ?_
 refine p_ (S_addI rfl (AEv.const _) (.tmp rfl) (by omega) (by omega)) ?_
 refine p_ ((S_sliceL rfl (.tmp rfl) (.tmp rfl) (by kernel_rfl) (by omega) (by omega)).ofV (V' := .S ((h0 :: h1 :: r).drop (2 + frN (h0 :: h1 :: r)))) (congrArg AV.S (congrArg (fun n => List.drop n (h0 :: h1 :: r)) (by omega)))) ?_
 refine p_ (S_nilCheck rfl (.tmp rfl)) ?_
 refine fl 0 ?_
 refine st1 0 ?_
 refine AL_nil (AC_seq (AC_region ?_))
 refine mv rfl rfl rfl rfl ?_
 refine as_ rfl rfl rfl rfl ?_
 refine ac rfl rfl rfl ?_
 refine AL_nil (AC_ret ?_)
 refine ret_tmps (ts := [2, 3]) ([(bx, Ob.cells [.S ((h0 :: h1 :: r).drop (2 + frN (h0 :: h1 :: r))), .bool false])] ++ F) rfl (by decide) rfl (Sub.l (List.Sublist.refl _)) (Conv.refl (Sub.l (List.Sublist.refl _)) _) ⟨_, ⟨by rw [hx], by rw [hx]⟩, rfl⟩ (.inl rfl)
end Go.Proofs.YtdnjeianoioieaaGreatDoor

set_option maxRecDepth 100000
namespace Go.Proofs.YtdnjeianoioieaaGreatDoor
open Go.AL Go.NumSpec
theorem conn_New_ok (F : St) : ACalls Tryz.prog 7 [] ([] ++ F) (fun x st' => ∃ foot', (∃ bc bx, x = .ptr bc 0 ∧ foot' = ((bc, Ob.cells [.ptr bx 0, ownAV .nil 1 (strsV []), ownAV .nil 1 (strsV []), .int .i64 0]) :: (bx, Ob.cells [.S [], .bool false]) :: ownSt .nil 9 1 (strsV []))) ∧ st' = foot' ++ F) := by
 refine co 4 Tryz.func7 ?_
 refine AC_seq (AC_region ?_)
 refine ac rfl rfl rfl ?_
 refine AL_nil (AC_seq (AC_region ?_))
 refine s_ (S_call rfl AEvs.nil (frame_New_ok F)) ?_
 rintro _ _ ⟨_, ⟨bx, rfl, rfl⟩, rfl⟩
 refine p_ (S_build (t := 77) (pl := [(0, 1), (1, 1), (2, 1), (3, 1)]) (zs := [.pointer none, .slice none 0 0, .slice none 0 0, .int .i64 0]) rfl (AEvs.cons (.tmp rfl) AEvs.nil) (by kernel_rfl) rfl) ?_
 refine s_ (S_box rfl (.tmp rfl)) ?_
 rintro _ _ ⟨b3, rfl, rfl⟩
 refine as_ rfl rfl rfl rfl ?_
 refine AL_nil (AC_ret ?_)
 refine ret_tmp (((b3, Ob.cells [.ptr bx 0, ownAV .nil 1 (strsV []), ownAV .nil 1 (strsV []), .int .i64 0]) :: (bx, Ob.cells [.S [], .bool false]) :: ownSt .nil 9 1 (strsV [])) ++ F) rfl rfl (Sub.l (List.Sublist.refl _)) (Conv.refl (Sub.l (List.Sublist.refl _)) _) ⟨_, ⟨b3, bx, rfl, rfl⟩, rfl⟩ (.inl rfl)
theorem conn_Deaf_ok (bc bx : Nat) (p : Own) (w : List (List UInt8)) (s : List UInt8) (c : Bool) (oc : AV) (tk : Int) (hp : p.ok (strsV w)) (F : St) : ACalls Tryz.prog 8 [.ptr bc 0] (((bc, Ob.cells [.ptr bx 0, ownAV p 1 (strsV w), oc, .int .i64 tk]) :: (bx, Ob.cells [.S s, .bool c]) :: ownSt p 9 1 (strsV w)) ++ F) (fun x st' => ∃ foot', (x = .bool c ∧ foot' = ((bc, Ob.cells [.ptr bx 0, ownAV p 1 (strsV w), oc, .int .i64 tk]) :: (bx, Ob.cells [.S s, .bool c]) :: ownSt p 9 1 (strsV w))) ∧ st' = foot' ++ F) := by
 refine co 8 Tryz.func8 ?_
 refine AC_seq (AC_region ?_)
 refine ac rfl rfl rfl ?_
 refine AL_nil (AC_seq (AC_region ?_))
 refine mv rfl rfl rfl rfl ?_
 refine p_ (S_nilCheck rfl (.tmp rfl)) ?_
 refine fl 0 ?_
 refine ld 0 ?_
 refine p_ (S_keep (S_call rfl (AEvs.cons (.tmp rfl) AEvs.nil) (ACalls.preQ (pre := [_]) (F := _) (frame_Closed_ok bx s c _))) (by rintro _ _ ⟨_, ⟨rfl, rfl⟩, rfl⟩; exact ⟨rfl, rfl⟩)) ?_
 refine as_ rfl rfl rfl rfl ?_
 refine AL_nil (AC_ret ?_)
 refine ret_tmp (((bc, Ob.cells [.ptr bx 0, ownAV p 1 (strsV w), oc, .int .i64 tk]) :: (bx, Ob.cells [.S s, .bool c]) :: ownSt p 9 1 (strsV w)) ++ F) rfl rfl (Sub.l (List.Sublist.refl _)) (Conv.refl (Sub.l (List.Sublist.refl _)) _) ⟨_, ⟨rfl, rfl⟩, rfl⟩ (.inl rfl)
theorem conn_Feed_ok (bc bx : Nat) (p : Own) (w : List (List UInt8)) (s : List UInt8) (c : Bool) (oc : AV) (tk : Int) (hp : p.ok (strsV w)) (t : List UInt8) (hs : s.length ≤ 8192) (ht : t.length ≤ 100000) (hw : w.length ≤ 32) (F : St) : ACalls Tryz.prog 9 [.ptr bc 0, .S t] (((bc, Ob.cells [.ptr bx 0, ownAV p 1 (strsV w), oc, .int .i64 tk]) :: (bx, Ob.cells [.S s, .bool c]) :: ownSt p 9 1 (strsV w)) ++ F) (fun x st' => ∃ foot', (∃ p' : Own, p'.ok (strsV (feedC s c w t).2.2.1) ∧ x = .tup [.int .i64 (((feedC s c w t).2.2.1.length : Int) - (w.length : Int)), .int .i64 (feedC s c w t).2.2.2] ∧ foot' = ((bc, Ob.cells [.ptr bx 0, ownAV p' 1 (strsV (feedC s c w t).2.2.1), oc, .int .i64 tk]) :: (bx, Ob.cells [.S (feedC s c w t).1, .bool (feedC s c w t).2.1]) :: ownSt p' 9 1 (strsV (feedC s c w t).2.2.1))) ∧ st' = foot' ++ F) := by
 refine co 61 Tryz.func9 ?_
 refine AC_seq (AC_region ?_)
 refine ac rfl rfl rfl ?_
 refine ac rfl rfl rfl ?_
 refine AL_nil ?_
 refine AC_seq ?_
 refine AC_seq (AC_region ?_)
 refine mv rfl rfl rfl rfl ?_
 refine p_ (S_nilCheck rfl (.tmp rfl)) ?_
 refine fl 0 ?_
 refine ld 0 ?_
 refine mv rfl rfl rfl rfl ?_
 refine s_ (S_call rfl (AEvs.cons (.tmp rfl) (AEvs.cons (.tmp rfl) AEvs.nil)) (ACalls.preQ (pre := [_]) (F := _) (frame_Feed_ok bx s c t hs ht _))) ?_
 rintro _ _ ⟨_, ⟨rfl, rfl⟩, rfl⟩
 refine as_ rfl rfl rfl rfl ?_
 refine AL_nil (AC_seq (AC_region ?_))
 refine mv rfl rfl rfl rfl ?_
 refine p_ (S_neq rfl (.tmp rfl) (AEv.const _)) ?_
 refine AL_nil ?_
 refine AC_cond (.tmp rfl) (fun hb1 => ?_) (fun hb1 => ?_)
 ·try simp only [zA,zO,zN,zM,zP,zQ,zD,zF,gd] at hb1
  have hx := feed_bad (w := w) hb1
  refine AC_seq (AC_region ?_)
  refine mv rfl rfl rfl rfl ?_
  refine ac rfl rfl rfl ?_
  refine as_ rfl rfl rfl rfl ?_
  refine AL_nil (AC_ret ?_)
  refine ret_tmps (ts := [4, 5]) (((bc, Ob.cells [.ptr bx 0, ownAV p 1 (strsV w), oc, .int .i64 tk]) :: (bx, Ob.cells [.S (putS s c t).1, .bool (putS s c t).2.1]) :: ownSt p 9 1 (strsV w)) ++ F) rfl (by decide) rfl (Sub.l (List.Sublist.refl _)) (Conv.refl (Sub.l (List.Sublist.refl _)) _) ⟨_, ⟨p, by rw [hx]; exact hp, by rewrite [hx]; exact (tup_zero w.length _).symm, by rw [hx]⟩, rfl⟩ (.inl rfl)
 try simp only [zA,zO,zN,zM,zP,zQ,zD,zF,gd] at hb1
 obtain ⟨hx1, hx2, hq8, hcf⟩ := feed_good (w := w) (show (putS s c t).2.2 = 0 by simpa using hb1)
 rw [hx1]
 refine AC_skip ?_
 refine AC_seq (AC_region ?_)
 refine ac rfl rfl rfl ?_
 refine AL_nil ?_
 refine AC_block ?_
 refine AC_loopK (G := List UInt8 × List (List UInt8) × Own) [(0, _)] (fun g => drainC g.1 g.2.1 = drainC (s ++ t) w ∧ g.1.length ≤ 8192 ∧ g.2.1.length ≤ 32 ∧ w.length ≤ g.2.1.length ∧ g.2.2.ok (strsV g.2.1)) (fun g => [(7, .int .i64 ((g.2.1.length : Int) - (w.length : Int)))]) (fun g => (((bc, Ob.cells [.ptr bx 0, ownAV g.2.2 1 (strsV g.2.1), oc, .int .i64 tk]) :: (bx, Ob.cells [.S g.1, .bool false]) :: ownSt g.2.2 9 1 (strsV g.2.1)) ++ F)) (fun g => g.1.length) ((s ++ t, w, p)) (⟨rfl, hq8, hw, Nat.le_refl _, hp⟩) (Sub.l (List.Sublist.refl _)) (.cons rfl (Le.refl _) .nil) (.cons rfl (Le.of_eq (congrArg (AV.int .i64) (by dsimp only; omega))) .nil) ?_
 rintro ⟨s2, w2, p2⟩ ⟨hd, hs2, hw2, hww, hq⟩
 try dsimp only
 simp only [List.cons_append, List.nil_append]
 dsimp only at hd hs2 hw2 hww hq
 refine AC_seq ?_
 refine AC_block ?_
 refine AC_seq (AC_region ?_)
 refine mv rfl rfl rfl rfl ?_
 refine p_ (S_nilCheck rfl (.tmp rfl)) ?_
 refine fl 0 ?_
 refine ld 0 ?_
 refine s_ (S_call rfl (AEvs.cons (.tmp rfl) AEvs.nil) (ACalls.preQ (pre := [_]) (F := _) (frame_Next_ok bx s2 false (by omega) _))) ?_
 rintro _ _ ⟨_, ⟨rfl, rfl⟩, rfl⟩
 rw [nextX_open]
 generalize hnx : nextS s2 = nx
 refine mv rfl rfl rfl rfl ?_
 refine ex 0 ?_
 refine ex 1 ?_
 refine as_ rfl rfl rfl rfl ?_
 refine as_ rfl rfl rfl rfl ?_
 refine AL_nil ?_
 refine AC_seq ?_
 refine AC_block ?_
 refine AC_seq (AC_region ?_)
 refine mv rfl rfl rfl rfl ?_
 refine p_ (S_eql rfl (.tmp rfl) (AEv.const _)) ?_
 refine as_ rfl rfl rfl rfl ?_
 refine AL_nil ?_
 refine AC_cond (.tmp rfl) (fun hb2 => ?_) (fun hb2 => ?_)
 ·try simp only [zA,zO,zN,zM,zP,zQ,zD,zF,gd] at hb2
  have hx : drainC (s ++ t) w = (s2, false, w2, 0) := by rw [← hd]; exact drain_none (by rw [hnx]; exact hb2)
  have hn6 : nx = ([], 6, s2, false) := by rw [← hnx]; exact next_six (by rw [hnx]; exact hb2)
  refine AC_seq (AC_region ?_)
  refine mv rfl rfl rfl rfl ?_
  refine as_ rfl rfl rfl rfl ?_
  refine ac rfl rfl rfl ?_
  refine AL_nil (AC_ret ?_)
  refine ret_tmps (ts := [4, 5]) (((bc, Ob.cells [.ptr bx 0, ownAV p2 1 (strsV w2), oc, .int .i64 tk]) :: (bx, Ob.cells [.S nx.2.2.1, .bool nx.2.2.2]) :: ownSt p2 9 1 (strsV w2)) ++ F) rfl (by decide) rfl (Sub.l (List.Sublist.refl _)) (Conv.refl (Sub.l (List.Sublist.refl _)) _) ⟨_, ⟨p2, by rw [hx2, hx]; exact hq, by rw [hx2, hx], by rw [hx2, hx, hn6]⟩, rfl⟩ (.inl rfl)
 try simp only [zA,zO,zN,zM,zP,zQ,zD,zF,gd] at hb2
 have h6 : ¬ nx.2.1 = 6 := hb2
 refine AC_seq (AC_region ?_)
 refine mv rfl rfl rfl rfl ?_
 refine p_ (S_neq rfl (.tmp rfl) (AEv.const _)) ?_
 refine as_ rfl rfl rfl rfl ?_
 refine AL_nil ?_
 refine AC_cond (.tmp rfl) (fun hb3 => ?_) (fun hb3 => ?_)
 ·try simp only [zA,zO,zN,zM,zP,zQ,zD,zF,gd] at hb3
  have hnb : nx = ([], 2, [], true) := by rw [← hnx]; exact next_bad (by rw [hnx]; exact h6) (by rw [hnx]; exact hb3)
  have hx : drainC (s ++ t) w = (nx.2.2.1, true, w2, nx.2.1) := by rw [← hd, drain_bad (by rw [hnx]; exact hb3) (by rw [hnx]; exact h6), hnx]
  refine AC_seq (AC_region ?_)
  refine mv rfl rfl rfl rfl ?_
  refine mv rfl rfl rfl rfl ?_
  refine as_ rfl rfl rfl rfl ?_
  refine as_ rfl rfl rfl rfl ?_
  refine AL_nil (AC_ret ?_)
  refine ret_tmps (ts := [4, 5]) (((bc, Ob.cells [.ptr bx 0, ownAV p2 1 (strsV w2), oc, .int .i64 tk]) :: (bx, Ob.cells [.S nx.2.2.1, .bool nx.2.2.2]) :: ownSt p2 9 1 (strsV w2)) ++ F) rfl (by decide) rfl (Sub.l (List.Sublist.refl _)) (Conv.refl (Sub.l (List.Sublist.refl _)) _) ⟨_, ⟨p2, by rw [hx2, hx]; exact hq, by rw [hx2, hx], by rw [hx2, hx, show nx.2.2.2 = true by rw [hnb]]⟩, rfl⟩ (.inl rfl)
 try simp only [zA,zO,zN,zM,zP,zQ,zD,zF,gd] at hb3
 have h0 : nx.2.1 = 0 := by simpa using hb3
 have hls := nextS_less (s := s2) (by rw [hnx]; exact h0)
 rw [hnx] at hls
 have hls1 := hls.1
 refine AC_seq (AC_region ?_)
 refine mv rfl rfl rfl rfl ?_
 refine p_ (S_nilCheck rfl (.tmp rfl)) ?_
 refine fl 1 ?_
 refine ld 0 ?_
 refine p_ (by first | exact S_lenM (e := 9) rfl ((AEv.tmp rfl).le (Le_own hq)) (by kernel_rfl) | exact S_len (e := 9) rfl ((AEv.tmp rfl).le (Le_own hq)) (by kernel_rfl)) ?_
 refine p_ (S_geq rfl (.tmp rfl) (AEv.const _)) ?_
 refine as_ rfl rfl rfl rfl ?_
 refine AL_nil ?_
 refine AC_cond (.tmp rfl) (fun hb4 => ?_) (fun hb4 => ?_)
 ·try simp only [zA,zO,zN,zM,zP,zQ,zD,zF,gd] at hb4
  have hwl : (strsV w2).length = w2.length := by simp [strsV]
  have hx : drainC (s ++ t) w = ([], true, w2, 2) := by rw [← hd]; exact drain_full (by rw [hnx]; exact h0) (by omega)
  refine AC_seq (AC_region ?_)
  refine mv rfl rfl rfl rfl ?_
  refine p_ (S_nilCheck rfl (.tmp rfl)) ?_
  refine fl 0 ?_
  refine ld 0 ?_
  refine s_ (S_call rfl (AEvs.cons (.tmp rfl) AEvs.nil) (ACalls.preQ (pre := [_]) (F := _) (frame_Close_ok bx nx.2.2.1 nx.2.2.2 _))) ?_
  rintro _ _ ⟨_, ⟨rfl, rfl⟩, rfl⟩
  refine AL_nil (AC_seq (AC_region ?_))
  refine mv rfl rfl rfl rfl ?_
  refine as_ rfl rfl rfl rfl ?_
  refine ac rfl rfl rfl ?_
  refine AL_nil (AC_ret ?_)
  refine ret_tmps (ts := [4, 5]) (((bc, Ob.cells [.ptr bx 0, ownAV p2 1 (strsV w2), oc, .int .i64 tk]) :: (bx, Ob.cells [.S [], .bool true]) :: ownSt p2 9 1 (strsV w2)) ++ F) rfl (by decide) rfl (Sub.l (List.Sublist.refl _)) (Conv.refl (Sub.l (List.Sublist.refl _)) _) ⟨_, ⟨p2, by rw [hx2, hx]; exact hq, by rw [hx2, hx], by rw [hx2, hx]⟩, rfl⟩ (.inl rfl)
 try simp only [zA,zO,zN,zM,zP,zQ,zD,zF,gd] at hb4
 have hwl : (strsV w2).length = w2.length := by simp [strsV]
 refine AC_skip ?_
 refine AC_region ?_
 refine mv rfl rfl rfl rfl ?_
 refine mv rfl rfl rfl rfl ?_
 refine p_ (S_nilCheck rfl (.tmp rfl)) ?_
 refine fl 1 ?_
 refine ld 0 ?_
 refine mv rfl rfl rfl rfl ?_
 refine p_ (S_buildSlice (e := 9) 1 rfl (AEvs.cons (.tmp rfl) AEvs.nil) rfl (by kernel_rfl) (by kernel_rfl) (by intro y hy; simp only [List.mem_cons, List.not_mem_nil, or_false] at hy; rcases hy with rfl <;> exact ⟨rfl, rfl⟩) (by decide) (by decide) (by decide)) ?_
 refine s_ (S_appendM (f := (fun y => AV.S y)) (l := w2) (l2 := [nx.1]) (e := 9) (size := 1) (bytes := 16) (p := p2) ([_, _]) (F) rfl (.tmp rfl) (.tmp rfl) rfl hq (by kernel_rfl) (by simp) (fun _ => ⟨rfl, rfl⟩) (by simp only [List.length_singleton]; omega) (by simp only [List.length_singleton]; omega)) ?_
 rintro _ _ ⟨b8, k8, cap8, hx8, rfl, rfl⟩
 refine p_ (S_nilCheck rfl (.tmp rfl)) ?_
 refine fl 1 ?_
 refine s_ (S_store 0 rfl (.tmp rfl) (.tmp rfl) rfl (by first | exact Nat.le_of_ble_eq_true rfl | simp) (by first | rfl | exact ownAV_one _ _ _) (by kernel_rfl)) ?_
 rintro _ _ ⟨rfl, rfl⟩
 refine AL_nil ?_
 refine AC_region ?_
 refine mv rfl rfl rfl rfl ?_
 refine p_ (S_addI rfl (.tmp rfl) (AEv.const _) (by omega) (by omega)) ?_
 refine as_ rfl rfl rfl rfl ?_
 refine AL_nil ?_
 refine ⟨(nx.2.2.1, w2 ++ [nx.1], .row b8 k8 cap8), ⟨by dsimp only; rw [← hd, drain_more (s := s2) (w := w2) (by rw [hnx]; exact h0) (by omega), hnx], by dsimp only; omega, by dsimp only; rw [List.length_append, List.length_singleton]; omega, by dsimp only; rw [List.length_append]; omega, by dsimp only; exact hx8⟩, by dsimp only; omega, by dsimp only; rw [show nx.2.2.2 = false from hls.2]; exact (Sub.l (List.Sublist.refl _)), (.cons rfl (Le.of_eq (congrArg (AV.int .i64) (by dsimp only; rw [List.length_append, List.length_singleton]; omega))) .nil), (.cons rfl (Le.refl _) .nil)⟩
theorem clone_ok (l : List (List UInt8)) (hl : l.length ≤ 1000) (F : St) : ACalls Tryz.prog 31 [.sl (strsV l)] ([] ++ F) (fun x st' => ∃ foot', (∃ p : Own, p.ok (strsV l) ∧ x = ownAV p 1 (strsV l) ∧ foot' = ownSt p 9 1 (strsV l)) ∧ st' = foot' ++ F) := by
 refine co 8 Tryz.func31 ?_
 have hln : (strsV l).length = l.length := by simp [strsV]
 refine AC_seq (AC_region ?_)
 refine ac rfl rfl rfl ?_
 refine AL_nil ?_
 refine AC_seq ?_
 refine AC_seq (AC_region ?_)
 refine mv rfl rfl rfl rfl ?_
 refine s_ (S_eqlNilSl (e := 9) rfl (.tmp rfl) (AEv.const _) (by kernel_rfl)) ?_
 rintro _ st9 ⟨c, rfl, hc, h9⟩
 rw [h9]
 clear h9 st9
 refine AL_nil ?_
 refine AC_cond (.tmp rfl) (fun hb1 => ?_) (fun hb1 => ?_)
 ·try simp only [zA,zO,zN,zM,zP,zQ,zD,zF,gd] at hb1
  have hnil := hc hb1
  refine AC_seq (AC_region ?_)
  refine ac rfl rfl rfl ?_
  refine AL_nil (AC_ret ?_)
  refine ret_tmp ([] ++ F) rfl rfl (Sub.l (List.Sublist.refl _)) (Conv.refl (Sub.l (List.Sublist.refl _)) _) ⟨[], ⟨.nil, hnil, rfl, rfl⟩, rfl⟩ (.inl rfl)
 try simp only [zA,zO,zN,zM,zP,zQ,zD,zF,gd] at hb1
 refine AC_skip ?_
 refine AC_seq (AC_region ?_)
 refine s_ (S_build0 (e := 9) rfl rfl (by kernel_rfl) (by kernel_rfl)) ?_
 rintro _ st9 ⟨A, rfl, h9⟩
 rw [h9]
 clear h9 st9
 refine mv rfl rfl rfl rfl ?_
 refine s_ (S_appendEmpAll (e := 9) (size := 1) (bytes := 16) rfl (.tmp rfl) (.tmp rfl) (by kernel_rfl) (strsV_one l) (by omega) (by omega)) ?_
 rintro _ _ ⟨p, hp, rfl, rfl⟩
 refine as_ rfl rfl rfl rfl ?_
 refine AL_nil (AC_ret ?_)
 refine ret_tmp (ownSt p 9 1 (strsV l) ++ F) rfl rfl (Sub.l (List.Sublist.refl _)) (Conv.refl (Sub.l (List.Sublist.refl _)) _) ⟨_, ⟨p, hp, rfl, rfl⟩, rfl⟩ (.inl rfl)
set_option maxHeartbeats 2000000 in
theorem conn_Next_ok (bc bx : Nat) (p : Own) (w : List (List UInt8)) (s : List UInt8) (c : Bool) (oc : AV) (tk : Int) (hp : p.ok (strsV w)) (hw : w.length ≤ 1000) (htk : 0 ≤ tk ∧ tk ≤ 1000000) (F : St) (hG : ∀ r, r ∈ Gs tabs → r ∈ F) : ACalls Tryz.prog 10 [.ptr bc 0] (((bc, Ob.cells [.ptr bx 0, ownAV p 1 (strsV w), oc, .int .i64 tk]) :: (bx, Ob.cells [.S s, .bool c]) :: ownSt p 9 1 (strsV w)) ++ F) (fun x st' => ∃ foot', (∃ p' : Own, p'.ok (strsV w.tail) ∧ x = .tup [.agg (askL (askN w tk) (waitC w).1 (waitC w).2.1), .int .i64 (waitC w).2.2] ∧ foot' = ((bc, Ob.cells [.ptr bx 0, ownAV p' 1 (strsV w.tail), oc, .int .i64 (tookN w tk)]) :: (bx, Ob.cells [.S s, .bool c]) :: ownSt p' 9 1 (strsV w.tail))) ∧ st' = foot' ++ F) := by
 refine co 51 Tryz.func10 ?_
 refine AC_seq (AC_region ?_)
 refine s_ (S_alloc [.int .i64 0, .int .i64 0, .int .i64 0, .int .u64 0, .string ⟨#[]⟩, .slice none 0 0, .slice none 0 0, .slice none 0 0, .int .i64 0, .int .i64 0, .int .i64 0, .int .i64 0, .int .i64 0, .int .i64 0, .int .i64 0, .string ⟨#[]⟩, .slice none 0 0, .int .i64 0, .string ⟨#[]⟩] rfl (by kernel_rfl)) ?_
 rintro _ _ ⟨b2, rfl, rfl⟩
 refine ac rfl rfl rfl ?_
 refine AL_nil ?_
 refine AC_seq ?_
 refine AC_seq (AC_region ?_)
 refine mv rfl rfl rfl rfl ?_
 refine p_ (S_nilCheck rfl (.tmp rfl)) ?_
 refine fl 1 ?_
 refine ld 1 ?_
 refine p_ (by first | exact S_lenM (e := 9) rfl ((AEv.tmp rfl).le (Le_own hp)) (by kernel_rfl) | exact S_len (e := 9) rfl ((AEv.tmp rfl).le (Le_own hp)) (by kernel_rfl)) ?_
 refine p_ (S_eql rfl (.tmp rfl) (AEv.const _)) ?_
 refine AL_nil ?_
 refine AC_cond (.tmp rfl) (fun hb2 => ?_) (fun hb2 => ?_)
 ·try simp only [zA,zO,zN,zM,zP,zQ,zD,zF,gd] at hb2
  obtain rfl : w = [] := by
   cases w with
   | nil => rfl
   | cons a b => exfalso; (try simp only [strsV, List.length_map, List.length_cons] at hb2); omega
  refine AC_seq (AC_region ?_)
  refine p_ (S_build (t := 37) (pl := [(0, 1), (1, 16), (17, 1), (18, 1)]) (zs := [.int .i64 0, .int .i64 0, .int .i64 0, .int .u64 0, .string ⟨#[]⟩, .slice none 0 0, .slice none 0 0, .slice none 0 0, .int .i64 0, .int .i64 0, .int .i64 0, .int .i64 0, .int .i64 0, .int .i64 0, .int .i64 0, .string ⟨#[]⟩, .slice none 0 0, .int .i64 0, .string ⟨#[]⟩]) rfl AEvs.nil (by kernel_rfl) rfl) ?_
  refine stW 0 ?_
  refine ac rfl rfl rfl ?_
  refine AL_nil (AC_ret ?_)
  refine ret_outs (((bc, Ob.cells [.ptr bx 0, ownAV p 1 (strsV []), oc, .int .i64 tk]) :: (bx, Ob.cells [.S s, .bool c]) :: ownSt p 9 1 (strsV [])) ++ F) rfl (by decide) (OutsR.row 0 rfl rfl (by kernel_rfl) (OutsR.tmp rfl OutsR.nil)) (Sub.l (List.Sublist.cons _ (List.Sublist.refl _))) (Conv.le (Sub.l (List.Sublist.cons _ (List.Sublist.refl _))) (Les.tup (.cons (Les.agg (.cons (Le.refl _) (.cons (Le.refl _) (.cons (Le.refl _) (.cons (Le.refl _) (.cons (Le.refl _) (.cons (Le.nils) (.cons (Le.nils) (.cons (Le.nils) (.cons (Le.refl _) (.cons (Le.refl _) (.cons (Le.refl _) (.cons (Le.refl _) (.cons (Le.refl _) (.cons (Le.refl _) (.cons (Le.refl _) (.cons (Le.refl _) (.cons (Le.nils) (.cons (Le.refl _) (.cons (Le.refl _) .nil)))))))))))))))))))) (.cons (Le.refl _) .nil)))) ⟨_, ⟨p, hp, rfl, rfl⟩, rfl⟩ (.inl rfl)
 try simp only [zA,zO,zN,zM,zP,zQ,zD,zF,gd] at hb2
 obtain ⟨v, w, rfl⟩ : ∃ v w', w = v :: w' := by
  cases w with
  | nil => exact absurd rfl hb2
  | cons n l => exact ⟨n, l, rfl⟩
 simp only [List.length_cons] at hw
 have hln : (strsV (v :: w)).length = w.length + 1 := by simp [strsV]
 refine AC_skip ?_
 refine AC_seq (AC_region ?_)
 refine mv rfl rfl rfl rfl ?_
 refine p_ (S_nilCheck rfl (.tmp rfl)) ?_
 refine fl 1 ?_
 refine ld 1 ?_
 refine p_ (S_elem (e := 9) (c := .S v) (i := 0) 1 rfl ((AEv.tmp rfl).le (Le_own hp)) (AEv.const _) (by kernel_rfl) (by kernel_rfl) (by omega) rfl rfl) ?_
 refine p_ (S_loadP rfl (.tmp rfl) rfl (by kernel_rfl)) ?_
 refine as_ rfl rfl rfl rfl ?_
 refine AL_nil (AC_seq (AC_region ?_))
 refine mv rfl rfl rfl rfl ?_
 refine mv rfl rfl rfl rfl ?_
 refine p_ (S_nilCheck rfl (.tmp rfl)) ?_
 refine fl 1 ?_
 refine ld 1 ?_
 refine p_ (S_cut (e := 9) (i := 1) (j := (strsV (v :: w)).length) 1 rfl ((AEv.tmp rfl).le (Le_own hp)) ⟨_, AEv.const _⟩ rfl (by kernel_rfl) (by kernel_rfl) (fun y hy => ((strsV_one (v :: w)) y hy).1) (by rw [hln]; omega) (by rw [hln]; omega)) ?_
 refine s_ (S_call rfl (AEvs.cons ((AEv.tmp rfl).le (Le.of_eq (by rw [List.take_of_length_le (Nat.le_refl _)]; rfl))) AEvs.nil) (ACalls.pre (foot := []) (clone_ok w (by omega)) [_, _, _] (ownSt p 9 1 (strsV (v :: w)) ++ F))) ?_
 rintro _ _ ⟨_, ⟨p2, hp2, rfl, rfl⟩, rfl⟩
 refine p_ (S_nilCheck rfl (.tmp rfl)) ?_
 refine fl 1 ?_
 refine s_ (S_store 1 rfl (.tmp rfl) (.tmp rfl) rfl (by first | exact Nat.le_of_ble_eq_true rfl | simp) (by first | rfl | exact ownAV_one _ _ _) (by kernel_rfl)) ?_
 rintro _ _ ⟨rfl, rfl⟩
 refine AL_nil (AC_seq (AC_region ?_))
 refine mv rfl rfl rfl rfl ?_
 refine p_ (S_nilCheck rfl (.tmp rfl)) ?_
 refine fl 3 ?_
 refine ld 1 ?_
 refine p_ (S_addI rfl (.tmp rfl) (AEv.const _) (by omega) (by omega)) ?_
 refine p_ (S_nilCheck rfl (.tmp rfl)) ?_
 refine fl 3 ?_
 refine st1 1 ?_
 refine AL_nil (AC_seq (AC_region ?_))
 refine mv rfl rfl rfl rfl ?_
 refine p_ (S_gcall rfl (AEvs.cons (.tmp rfl) AEvs.nil) ((ask_Of_ok v) _ (fun r hr => by first | exact hst r (List.mem_cons_of_mem _ (List.mem_cons_of_mem _ hr)) | (repeat (first | exact hG r hr | refine List.mem_cons_of_mem _ ?_ | refine List.mem_append_right _ ?_))))) ?_
 refine mv rfl rfl rfl rfl ?_
 refine ex 0 ?_
 refine ex 1 ?_
 refine s_ (S_alloc [.int .i64 0, .int .i64 0, .int .u64 0, .string ⟨#[]⟩, .slice none 0 0, .slice none 0 0, .slice none 0 0, .int .i64 0, .int .i64 0, .int .i64 0, .int .i64 0, .int .i64 0, .int .i64 0, .int .i64 0, .string ⟨#[]⟩, .slice none 0 0] rfl (by kernel_rfl)) ?_
 rintro _ _ ⟨b5, rfl, rfl⟩
 refine stW 0 ?_
 refine as_ rfl rfl rfl rfl ?_
 refine AL_nil ?_
 refine AC_seq ?_
 refine AC_plan (σ := [(0, 0), (1, 0), (2, 0), (3, 0), (4, 0), (5, 0), (6, 0), (7, 0), (8, 0), (9, 0), (10, 2), (11, 0)]) (by kernel_rfl) ((b5, Ob.cells (calL (ofA v))) :: (bc, Ob.cells [.ptr bx 0, ownAV p2 1 (strsV w), oc, .int .i64 (tk + 1)]) :: Gs tabs) (by kernel_rfl) (fun r hr => by
  rcases List.mem_cons.1 hr with rfl | hr
  ·exact List.mem_cons_self
  ·rcases List.mem_cons.1 hr with rfl | hr
   ·exact List.mem_cons_of_mem _ (List.mem_cons_of_mem _ List.mem_cons_self)
   ·repeat (first | exact hG r hr | refine List.mem_cons_of_mem _ ?_ | refine List.mem_append_right _ ?_)) ?_
 refine AG.f rfl rfl (fun st' hst => Q_p rfl (S_move rfl (.tmp rfl))) ?_
 refine AG.f rfl rfl (fun st' hst => Q_p rfl (S_nilCheck rfl (.tmp rfl))) ?_
 refine AG.f rfl rfl (fun st' hst => Q_p rfl (S_field 3 rfl (.tmp rfl) (by kernel_rfl))) ?_
 refine AG.f rfl rfl (fun st' hst => Q_p rfl (S_loadM rfl (.tmp rfl) (hst _ (List.mem_of_getElem? (i := 1) rfl)) rfl (by kernel_rfl))) ?_
 refine AG.f rfl rfl (fun st' hst => Q_p rfl (S_loadNM (m := 16) rfl (.tmp rfl) (hst _ (List.mem_of_getElem? (i := 0) rfl)) (by kernel_rfl) (by first | exact Nat.le_of_ble_eq_true rfl | (simp; omega) | simp))) ?_
 refine AG.f rfl rfl (fun st' hst => Q_p rfl (S_move rfl (.tmp rfl))) ?_
 refine AG.f rfl rfl (fun st' hst => Q_p rfl (S_gcall rfl (AEvs.cons (.tmp rfl) AEvs.nil) ((fail_Code_ok (ofAE v)) _ (fun r hr => by first | exact hst r (List.mem_cons_of_mem _ (List.mem_cons_of_mem _ hr)) | (repeat (first | exact hG r hr | refine List.mem_cons_of_mem _ ?_ | refine List.mem_append_right _ ?_)))))) ?_
 refine AG.f rfl rfl (fun st' hst => Q_p rfl (S_move rfl (.tmp rfl))) ?_
 refine AG.f rfl rfl (fun st' hst => Q_p rfl (S_gcall rfl (AEvs.cons (.tmp rfl) AEvs.nil) ((fail_Text_ok (ofAE v) (by have := (ofAE_short v).path; omega) (by have := (ofAE_short v).text; unfold erText at this; omega)) _ (fun r hr => by first | exact hst r (List.mem_cons_of_mem _ (List.mem_cons_of_mem _ hr)) | (repeat (first | exact hG r hr | refine List.mem_cons_of_mem _ ?_ | refine List.mem_append_right _ ?_)))))) ?_
 refine AG.f rfl rfl (fun st' hst => Q_p rfl (S_build (t := 37) (pl := [(0, 1), (1, 16), (17, 1), (18, 1)]) (zs := [.int .i64 0, .int .i64 0, .int .i64 0, .int .u64 0, .string ⟨#[]⟩, .slice none 0 0, .slice none 0 0, .slice none 0 0, .int .i64 0, .int .i64 0, .int .i64 0, .int .i64 0, .int .i64 0, .int .i64 0, .int .i64 0, .string ⟨#[]⟩, .slice none 0 0, .int .i64 0, .string ⟨#[]⟩]) rfl (AEvs.cons (.tmp rfl) (AEvs.cons (.tmp rfl) (AEvs.cons (.tmp rfl) (AEvs.cons (.tmp rfl) AEvs.nil)))) (by kernel_rfl) rfl)) ?_
 refine AG.h rfl rfl rfl (S_storeW 1 rfl (.tmp rfl) (.tmp rfl) rfl rfl rfl (by kernel_rfl)) ?_
 rintro _ _ ⟨rfl, rfl⟩
 refine AG.f rfl rfl (fun st' hst => Q_p rfl (S_assign rfl (AEv.const _))) ?_
 refine AG.nil ?_
 refine AC_ret ?_
 refine ret_outs (((bc, Ob.cells [.ptr bx 0, ownAV p2 1 (strsV w), oc, .int .i64 (tk + 1)]) :: (bx, Ob.cells [.S s, .bool c]) :: ownSt p2 9 1 (strsV w)) ++ F) rfl (by decide) (OutsR.row 1 rfl rfl (by kernel_rfl) (OutsR.tmp rfl OutsR.nil)) (Sub.l (.cons _ (.cons _ (.cons_cons _ (.cons_cons _ (List.Sublist.append (List.Sublist.refl _) (List.sublist_append_right _ _))))))) (Conv.refl (Sub.l (.cons _ (.cons _ (.cons_cons _ (.cons_cons _ (List.Sublist.append (List.Sublist.refl _) (List.sublist_append_right _ _))))))) _) ⟨_, ⟨p2, hp2, rfl, rfl⟩, rfl⟩ (.inl rfl)
end Go.Proofs.YtdnjeianoioieaaGreatDoor

set_option maxRecDepth 100000
namespace Go.Proofs.YtdnjeianoioieaaGreatDoor
open Go.AL Go.NumSpec
theorem law39_works_ok : GCalls Tryz.prog tabs 6 [] (.bool true) := by
 intro st hG
 refine co 67 Tryz.func6 ?_
 refine AC_seq (AC_region ?_)
 refine ac rfl rfl rfl ?_
 refine AL_nil (AC_seq (AC_region ?_))
 refine s_ (S_call rfl AEvs.nil (conn_New_ok st)) ?_
 rintro _ _ ⟨_, ⟨bc, bx, rfl, rfl⟩, rfl⟩
 refine as_ rfl rfl rfl rfl ?_
 refine AL_nil ?_
 refine AC_seq ?_
 refine AC_seq (AC_region ?_)
 refine mv rfl rfl rfl rfl ?_
 refine p_ (S_eqlNil rfl (.tmp rfl) (AEv.const _) (by kernel_rfl)) ?_
 refine AL_nil ?_
 refine AC_cond (.tmp rfl) (fun hb1 => ?_) (fun hb1 => ?_)
 ·simp at hb1; done
 try simp only [zA,zO,zN,zM,zP,zQ,zD,zF,gd] at hb1
 refine AC_skip ?_
 refine AC_seq (AC_region ?_)
 refine mv rfl rfl rfl rfl ?_
 refine s_ (S_call rfl (AEvs.cons (.tmp rfl) (AEvs.cons (AEv.S _) AEvs.nil)) (ACalls.preQ (pre := []) (F := st) (conn_Feed_ok bc bx .nil [] [] false _ 0 rfl [2, 0, 12, 5] (by decide) (by decide) (by decide) _))) ?_
 rintro _ _ ⟨_, ⟨p1, hp1, rfl, rfl⟩, rfl⟩
 rw [works_feed] at hp1 ⊢
 dsimp only at hp1 ⊢
 refine mv rfl rfl rfl rfl ?_
 refine ex 0 ?_
 refine ex 1 ?_
 refine as_ rfl rfl rfl rfl ?_
 refine as_ rfl rfl rfl rfl ?_
 refine AL_nil (AC_seq (AC_region ?_))
 refine mv rfl rfl rfl rfl ?_
 refine s_ (S_call rfl (AEvs.cons (.tmp rfl) AEvs.nil) (ACalls.preQ (pre := []) (F := st) (conn_Next_ok bc bx p1 [[12, 5]] [] false _ 0 hp1 (by decide) (by decide) _ (fun r hr => List.mem_append_right _ (hG r hr))))) ?_
 rintro _ _ ⟨_, ⟨p2, hp2, rfl, rfl⟩, rfl⟩
 refine mv rfl rfl rfl rfl ?_
 refine ex 0 ?_
 refine ex 1 ?_
 refine s_ (S_alloc [.int .i64 0, .int .i64 0, .int .i64 0, .int .u64 0, .string ⟨#[]⟩, .slice none 0 0, .slice none 0 0, .slice none 0 0, .int .i64 0, .int .i64 0, .int .i64 0, .int .i64 0, .int .i64 0, .int .i64 0, .int .i64 0, .string ⟨#[]⟩, .slice none 0 0, .int .i64 0, .string ⟨#[]⟩] rfl (by kernel_rfl)) ?_
 rintro _ _ ⟨b4, rfl, rfl⟩
 refine stW 0 ?_
 refine as_ rfl rfl rfl rfl ?_
 refine AL_nil (AC_seq (AC_region ?_))
 refine mv rfl rfl rfl rfl ?_
 refine s_ (S_call rfl (AEvs.cons (.tmp rfl) AEvs.nil) (ACalls.preQ (pre := [_]) (F := st) (conn_Next_ok bc bx p2 ([[12, 5]].tail) [] false _ (tookN [[12, 5]] 0) hp2 (by decide) (by decide) _ (fun r hr => List.mem_append_right _ (hG r hr))))) ?_
 rintro _ _ ⟨_, ⟨p3, hp3, rfl, rfl⟩, rfl⟩
 refine mv rfl rfl rfl rfl ?_
 refine ex 0 ?_
 refine ex 1 ?_
 refine s_ (S_alloc [.int .i64 0, .int .i64 0, .int .i64 0, .int .u64 0, .string ⟨#[]⟩, .slice none 0 0, .slice none 0 0, .slice none 0 0, .int .i64 0, .int .i64 0, .int .i64 0, .int .i64 0, .int .i64 0, .int .i64 0, .int .i64 0, .string ⟨#[]⟩, .slice none 0 0, .int .i64 0, .string ⟨#[]⟩] rfl (by kernel_rfl)) ?_
 rintro _ _ ⟨b6, rfl, rfl⟩
 refine stW 0 ?_
 refine as_ rfl rfl rfl rfl ?_
 refine AL_nil (AC_seq (AC_region ?_))
 refine mv rfl rfl rfl rfl ?_
 refine p_ (S_eql rfl (.tmp rfl) (AEv.const _)) ?_
 refine mv rfl rfl rfl rfl ?_
 refine g_ (fun _ => mA) ?_
 refine g_ (fun _ => S_eql rfl (AEv.cd (.tmp rfl)) (AEv.const _)) ?_
 refine an ?_
 refine mv rfl rfl rfl rfl ?_
 refine g_ (fun _ => mA) ?_
 refine g_ (fun _ => S_eql rfl (AEv.cd (.tmp rfl)) (AEv.const _)) ?_
 refine an ?_
 refine mv rfl rfl rfl rfl ?_
 refine g_ (fun _ => fA 0) ?_
 refine g_ (fun _ => lA 1) ?_
 refine g_ (fun _ => S_eql rfl (AEv.cd (.tmp rfl)) (AEv.const _)) ?_
 refine an ?_
 refine mv rfl rfl rfl rfl ?_
 refine g_ (fun _ => fA 1) ?_
 refine g_ (fun _ => S_field 0 rfl (AEv.cd (.tmp rfl)) (by kernel_rfl)) ?_
 refine g_ (fun _ => lA 1) ?_
 refine g_ (fun _ => S_eql rfl (AEv.cd (.tmp rfl)) (AEv.const _)) ?_
 refine an ?_
 refine mv rfl rfl rfl rfl ?_
 refine g_ (fun _ => fA 1) ?_
 refine g_ (fun _ => S_field 12 rfl (AEv.cd (.tmp rfl)) (by kernel_rfl)) ?_
 refine g_ (fun _ => lA 1) ?_
 refine g_ (fun _ => S_eql rfl (AEv.cd (.tmp rfl)) (AEv.const _)) ?_
 refine an ?_
 refine mv rfl rfl rfl rfl ?_
 refine g_ (fun _ => fA 17) ?_
 refine g_ (fun _ => lA 1) ?_
 refine g_ (fun _ => S_eql rfl (AEv.cd (.tmp rfl)) (AEv.const _)) ?_
 refine an ?_
 refine mv rfl rfl rfl rfl ?_
 refine g_ (fun _ => mA) ?_
 refine g_ (fun _ => S_eql rfl (AEv.cd (.tmp rfl)) (AEv.const _)) ?_
 refine an ?_
 refine mv rfl rfl rfl rfl ?_
 refine g_ (fun _ => mA) ?_
 refine g_ (fun _ => S_keep (S_call rfl (AEvs.cons (AEv.cd (.tmp rfl)) AEvs.nil) (ACalls.preQ (pre := [_, _]) (F := st) (conn_Deaf_ok bc bx p3 _ _ _ _ _ hp3 _))) (by rintro _ _ ⟨_, ⟨rfl, rfl⟩, rfl⟩; exact ⟨rfl, rfl⟩)) ?_
 refine g_ (fun _ => S_not rfl (AEv.cd (.tmp rfl))) ?_
 refine an ?_
 refine as_ rfl rfl rfl rfl ?_
 refine AL_nil (AC_ret ?_)
 refine ret_tmp st rfl rfl (Sub.l (.cons _ (.cons _ (.cons _ (.cons _ (List.sublist_append_right _ _)))))) (Conv.refl (Sub.l (.cons _ (.cons _ (.cons _ (.cons _ (List.sublist_append_right _ _)))))) _) ⟨congrArg AV.bool (by simp [askN, waitC, wA_ofA, wA_ofE, wA, cal0, erCode]), rfl⟩ (.inl rfl)
end Go.Proofs.YtdnjeianoioieaaGreatDoor

set_option maxRecDepth 100000
namespace Go.Proofs.YtdnjeianoioieaaGreatDoor
open Go.AL Go.NumSpec
theorem tell_within_ok (n lo hi : Int) : PCalls Tryz.prog 73 [.int .i64 n, .int .i64 lo, .int .i64 hi] (.bool (decide (lo ≤ n ∧ n ≤ hi))) := by
 intro st
 refine co 15 Tryz.func73 ?_
 refine AC_seq (AC_region ?_)
 refine ac rfl rfl rfl ?_
 refine AL_nil (AC_seq (AC_region ?_))
 refine mv rfl rfl rfl rfl ?_
 refine mv rfl rfl rfl rfl ?_
 refine p_ (S_geq rfl (.tmp rfl) (.tmp rfl)) ?_
 refine mv rfl rfl rfl rfl ?_
 refine g_ (fun _ => mA) ?_
 refine g_ (fun _ => mA) ?_
 refine g_ (fun _ => S_leq rfl (AEv.cd (.tmp rfl)) (AEv.cd (.tmp rfl))) ?_
 refine an ?_
 refine as_ rfl rfl rfl rfl ?_
 refine AL_nil (AC_ret ?_)
 refine ret_tmp st rfl rfl (Sub.l (List.Sublist.refl _)) (Conv.refl (Sub.l (List.Sublist.refl _)) _) ⟨congrArg AV.bool (by by_cases h1 : lo ≤ n <;> by_cases h2 : n ≤ hi <;> simp [h1, h2]), rfl⟩ (.inl rfl)
theorem tell_says_ok (b : Bool) : PCalls Tryz.prog 78 [.bool b] (.int .i64 (if b = true then 0 else 4)) := by
 intro st
 refine co 4 Tryz.func78 ?_
 refine AC_seq (AC_region ?_)
 refine ac rfl rfl rfl ?_
 refine AL_nil ?_
 refine AC_seq ?_
 refine AC_seq (AC_region ?_)
 refine mv rfl rfl rfl rfl ?_
 refine AL_nil ?_
 refine AC_cond (.tmp rfl) (fun hb1 => ?_) (fun hb1 => ?_)
 ·try simp only [zA,zO,zN,zM,zP,zQ,zD,zF,gd] at hb1
  have hx : b = true := hb1
  refine AC_seq (AC_region ?_)
  refine ac rfl rfl rfl ?_
  refine AL_nil (AC_ret ?_)
  refine ret_tmp st rfl rfl (Sub.l (List.Sublist.refl _)) (Conv.refl (Sub.l (List.Sublist.refl _)) _) ⟨by rw [hx] <;> rfl, rfl⟩ (.inl rfl)
 try simp only [zA,zO,zN,zM,zP,zQ,zD,zF,gd] at hb1
 have hx : b = false := by simpa using hb1
 refine AC_skip ?_
 refine AC_seq (AC_region ?_)
 refine ac rfl rfl rfl ?_
 refine AL_nil (AC_ret ?_)
 refine ret_tmp st rfl rfl (Sub.l (List.Sublist.refl _)) (Conv.refl (Sub.l (List.Sublist.refl _)) _) ⟨by rw [hx] <;> rfl, rfl⟩ (.inl rfl)
theorem tell_whole_ok (k : Int) : PCalls Tryz.prog 53 [.int .i64 k] (.bool (wholeB k)) := by
 intro st
 refine co 5 Tryz.func53 ?_
 refine AC_seq (AC_region ?_)
 refine ac rfl rfl rfl ?_
 refine AL_nil (AC_seq (AC_region ?_))
 refine mv rfl rfl rfl rfl ?_
 refine p_ (S_pcall rfl (AEvs.cons (.tmp rfl) (AEvs.cons (AEv.const _) (AEvs.cons (AEv.const _) AEvs.nil))) (tell_within_ok k 1 3)) ?_
 refine as_ rfl rfl rfl rfl ?_
 refine AL_nil (AC_ret ?_)
 refine ret_tmp st rfl rfl (Sub.l (List.Sublist.refl _)) (Conv.refl (Sub.l (List.Sublist.refl _)) _) ⟨rfl, rfl⟩ (.inl rfl)
theorem tell_res_ok (r : Tri) : PCalls Tryz.prog 106 [resAV r] (.bool (resMay r)) := by
 intro st
 refine co 16 Tryz.func106 ?_
 refine AC_seq (AC_region ?_)
 refine s_ (S_box rfl (.tmp rfl)) ?_
 rintro _ _ ⟨b1, rfl, rfl⟩
 refine ac rfl rfl rfl ?_
 refine AL_nil (AC_seq (AC_region ?_))
 refine fl 0 ?_
 refine ld 0 ?_
 refine p_ (S_pcall rfl (AEvs.cons (.tmp rfl) (AEvs.cons (AEv.const _) (AEvs.cons (AEv.const _) AEvs.nil))) (tell_within_ok r.1 0 1099511627776)) ?_
 refine mv rfl rfl rfl rfl ?_
 refine g_ (fun _ => fA 1) ?_
 refine g_ (fun _ => lA 0) ?_
 refine g_ (fun _ => S_pcall rfl (AEvs.cons (AEv.cd (.tmp rfl)) (AEvs.cons (AEv.const _) (AEvs.cons (AEv.const _) AEvs.nil))) (tell_within_ok r.2.1 0 1099511627776)) ?_
 refine an ?_
 refine mv rfl rfl rfl rfl ?_
 refine g_ (fun _ => fA 2) ?_
 refine g_ (fun _ => lA 0) ?_
 refine g_ (fun _ => S_pcall rfl (AEvs.cons (AEv.cd (.tmp rfl)) (AEvs.cons (AEv.const _) (AEvs.cons (AEv.const _) AEvs.nil))) (tell_within_ok r.2.2 0 1099511627776)) ?_
 refine an ?_
 refine as_ rfl rfl rfl rfl ?_
 refine AL_nil (AC_ret ?_)
 refine ret_tmp st rfl rfl (Sub.l (List.sublist_cons_self _ _)) (Conv.refl (Sub.l (List.sublist_cons_self _ _)) _) ⟨rfl, rfl⟩ (.inl rfl)
theorem tell_silent_ok (r : Rep) : PCalls Tryz.prog 76 [.agg (repL r)] (.bool (silentB r)) := by
 intro st
 refine co 38 Tryz.func76 ?_
 refine AC_seq (AC_region ?_)
 refine s_ (S_box rfl (.tmp rfl)) ?_
 rintro _ _ ⟨b1, rfl, rfl⟩
 refine ac rfl rfl rfl ?_
 refine AL_nil (AC_seq (AC_region ?_))
 refine fl 0 ?_
 refine ld 0 ?_
 refine p_ (S_eql rfl (.tmp rfl) (AEv.const _)) ?_
 refine mv rfl rfl rfl rfl ?_
 refine g_ (fun _ => fA 1) ?_
 refine g_ (fun _ => lA 0) ?_
 refine g_ (fun _ => S_eql rfl (AEv.cd (.tmp rfl)) (AEv.const _)) ?_
 refine an ?_
 refine mv rfl rfl rfl rfl ?_
 refine g_ (fun _ => fA 2) ?_
 refine g_ (fun _ => lA 0) ?_
 refine g_ (fun _ => S_eql rfl (AEv.cd (.tmp rfl)) (AEv.const _)) ?_
 refine an ?_
 refine mv rfl rfl rfl rfl ?_
 refine g_ (fun _ => fA 3) ?_
 refine g_ (fun _ => lA 0) ?_
 refine g_ (fun _ => S_eql rfl (AEv.cd (.tmp rfl)) (AEv.const _)) ?_
 refine an ?_
 refine mv rfl rfl rfl rfl ?_
 refine g_ (fun _ => fA 4) ?_
 refine g_ (fun _ => lA 0) ?_
 refine g_ (fun _ => S_eqS rfl (AEv.cd (.tmp rfl)) (AEv.S _)) ?_
 refine an ?_
 refine mv rfl rfl rfl rfl ?_
 refine g_ (fun _ => fA 5) ?_
 refine g_ (fun _ => lA 0) ?_
 refine g_ (fun _ => by first | exact S_lenM (e := 62) rfl (AEv.cd (.tmp rfl)) (by kernel_rfl) | exact S_len (e := 62) rfl (AEv.cd (.tmp rfl)) (by kernel_rfl)) ?_
 refine g_ (fun _ => S_eql rfl (AEv.cd (.tmp rfl)) (AEv.const _)) ?_
 refine an ?_
 refine mv rfl rfl rfl rfl ?_
 refine g_ (fun _ => fA 6) ?_
 refine g_ (fun _ => lA 0) ?_
 refine g_ (fun _ => by first | exact S_lenM (e := 161) rfl (AEv.cd (.tmp rfl)) (by kernel_rfl) | exact S_len (e := 161) rfl (AEv.cd (.tmp rfl)) (by kernel_rfl)) ?_
 refine g_ (fun _ => S_eql rfl (AEv.cd (.tmp rfl)) (AEv.const _)) ?_
 refine an ?_
 refine as_ rfl rfl rfl rfl ?_
 refine AL_nil (AC_ret ?_)
 refine ret_tmp st rfl rfl (Sub.l (List.sublist_cons_self _ _)) (Conv.refl (Sub.l (List.sublist_cons_self _ _)) _) ⟨congrArg AV.bool (by simp only [silentB]; congr 4; exact decide_eq_decide.2 (by omega)), rfl⟩ (.inl rfl)
theorem tell_bare_ok (p : Pod) (hp : ShortP p) : PCalls Tryz.prog 75 [podAV p] (.bool (bareP p)) := by
 intro st
 refine co 38 Tryz.func75 ?_
 refine AC_seq (AC_region ?_)
 refine s_ (S_box rfl (.tmp rfl)) ?_
 rintro _ _ ⟨b1, rfl, rfl⟩
 refine ac rfl rfl rfl ?_
 refine AL_nil (AC_seq (AC_region ?_))
 refine fl 0 ?_
 refine ld 0 ?_
 refine p_ (S_eql rfl (.tmp rfl) (AEv.const _)) ?_
 refine mv rfl rfl rfl rfl ?_
 refine g_ (fun _ => fA 1) ?_
 refine g_ (fun _ => lA 0) ?_
 refine g_ (fun _ => S_eql rfl (AEv.cd (.tmp rfl)) (AEv.const _)) ?_
 refine an ?_
 refine mv rfl rfl rfl rfl ?_
 refine g_ (fun _ => fA 2) ?_
 refine g_ (fun _ => lN 7 0) ?_
 refine g_ (fun _ => S_build (t := 33) (pl := [(0, 1), (1, 1), (2, 1), (3, 1), (4, 1), (5, 1), (6, 1)]) (zs := [.string ⟨#[]⟩, .slice none 0 0, .slice none 0 0, .slice none 0 0, .int .i64 0, .int .i64 0, .int .i64 0]) rfl AEvs.nil (by kernel_rfl) rfl) ?_
 refine g_ (fun _ => S_pcall rfl (AEvs.cons (AEv.cd (.tmp rfl)) (AEvs.cons (y := spcAV spc0) ((AEv.cd (.tmp rfl)).le (by exact (Les.agg (.cons (Le.refl _) (.cons Le.nils (.cons Le.nils (.cons Le.nils (.cons (Le.refl _) (.cons (Le.refl _) (.cons (Le.refl _) .nil)))))))))) AEvs.nil)) (spec_Same_ok p.spec spc0 (light_short hp.1) (light_short spc0_light))) ?_
 refine an ?_
 refine mv rfl rfl rfl rfl ?_
 refine g_ (fun _ => fA 9) ?_
 refine g_ (fun _ => lA 0) ?_
 refine g_ (fun _ => S_eql rfl (AEv.cd (.tmp rfl)) (AEv.const _)) ?_
 refine an ?_
 refine mv rfl rfl rfl rfl ?_
 refine g_ (fun _ => fA 10) ?_
 refine g_ (fun _ => lA 0) ?_
 refine g_ (fun _ => by first | exact S_lenM (e := 3) rfl (AEv.cd (.tmp rfl)) (by kernel_rfl) | exact S_len (e := 3) rfl (AEv.cd (.tmp rfl)) (by kernel_rfl)) ?_
 refine g_ (fun _ => S_eql rfl (AEv.cd (.tmp rfl)) (AEv.const _)) ?_
 refine an ?_
 refine mv rfl rfl rfl rfl ?_
 refine g_ (fun _ => fA 11) ?_
 refine g_ (fun _ => lA 0) ?_
 refine g_ (fun _ => S_eql rfl (AEv.cd (.tmp rfl)) (AEv.const _)) ?_
 refine an ?_
 refine mv rfl rfl rfl rfl ?_
 refine g_ (fun _ => fA 12) ?_
 refine g_ (fun _ => lA 0) ?_
 refine g_ (fun _ => S_eql rfl (AEv.cd (.tmp rfl)) (AEv.const _)) ?_
 refine an ?_
 refine as_ rfl rfl rfl rfl ?_
 refine AL_nil (AC_ret ?_)
 refine ret_tmp st rfl rfl (Sub.l (List.sublist_cons_self _ _)) (Conv.refl (Sub.l (List.sublist_cons_self _ _)) _) ⟨congrArg AV.bool (by simp only [bareP]; congr 6; exact decide_eq_decide.2 (by omega)), rfl⟩ (.inl rfl)
theorem tell_pod_ok (p : Pod) (hp : ShortP p) : GCalls Tryz.prog tabs 103 [podAV p] (.bool (podMay p)) := by
 intro st hG
 refine co 50 Tryz.func103 ?_
 have hpl := hp.2
 refine AC_seq (AC_region ?_)
 refine s_ (S_box rfl (.tmp rfl)) ?_
 rintro _ _ ⟨b1, rfl, rfl⟩
 refine ac rfl rfl rfl ?_
 refine AL_nil ?_
 refine AC_seq ?_
 refine AC_seq (AC_region ?_)
 refine fl 10 ?_
 refine ld 0 ?_
 refine p_ (by first | exact S_lenM (e := 3) rfl (.tmp rfl) (by kernel_rfl) | exact S_len (e := 3) rfl (.tmp rfl) (by kernel_rfl)) ?_
 refine p_ (S_move rfl (AEv.const _)) ?_
 refine AL_nil ?_
 refine AC_block ?_
 refine AC_loopK (G := Nat) [(1, _), (6, _), (7, _)] (fun g => g ≤ p.ports.length ∧ ∀ j (h : j < p.ports.length), j < g → 0 ≤ p.ports[j]'h ∧ p.ports[j]'h ≤ 1073741824) (fun g => [(8, .int .i64 (g : Int))]) (fun g => (b1, .cells (podL p)) :: st) (fun g => p.ports.length - g) (0) (⟨Nat.zero_le _, fun j _ h => absurd h (Nat.not_lt_zero _)⟩) (Sub.l (List.Sublist.refl _)) (.cons rfl (Le.refl _) (.cons rfl (Le.refl _) (.cons rfl (Le.refl _) .nil))) (.cons rfl (by first | exact Le.refl _ | exact Le.nils | exact Le.row _ _ _ _ | exact Le.of_eq (by first | rfl | (simp; done) | (push_cast; rfl) | (simp; omega))) .nil) ?_
 rintro i ⟨hi, hall⟩
 try dsimp only
 simp only [List.cons_append, List.nil_append]
 refine AC_seq (AC_region ?_)
 refine p_ (S_lss rfl (.tmp rfl) (.tmp rfl)) ?_
 refine AL_nil ?_
 refine AC_seq ?_
 refine AC_cond (.tmp rfl) (fun hb2 => ?_) (fun hb2 => ?_)
 ·try simp only [zA,zO,zN,zM,zP,zQ,zD,zF,gd] at hb2
  have hil : i < p.ports.length := by omega
  refine AC_skip ?_
  refine AC_seq ?_
  refine AC_block ?_
  refine AC_seq (AC_region ?_)
  refine p_ (S_elemN (e := 3) 1 rfl (.tmp rfl) (.tmp rfl) (by kernel_rfl) (by kernel_rfl) (by omega) (fun _ => rfl)) ?_
  refine p_ (S_loadP rfl (.tmp rfl) rfl (by kernel_rfl)) ?_
  refine as_ rfl rfl rfl rfl ?_
  refine AL_nil (AC_seq (AC_region ?_))
  refine mv rfl rfl rfl rfl ?_
  refine p_ (S_pcall rfl (AEvs.cons (.tmp rfl) (AEvs.cons (AEv.const _) (AEvs.cons (AEv.const _) AEvs.nil))) (tell_within_ok (p.ports[i]'hil) 0 1073741824)) ?_
  refine p_ (S_not rfl (.tmp rfl)) ?_
  refine AL_nil ?_
  refine AC_cond (.tmp rfl) (fun hb3 => ?_) (fun hb3 => ?_)
  ·try simp only [zA,zO,zN,zM,zP,zQ,zD,zF,gd] at hb3
   have hx : podMay p = false := by
    have h9 : p.ports.all (fun n => decide (0 ≤ n ∧ n ≤ 1073741824)) = false := List.all_eq_false.2 ⟨_, List.getElem_mem hil, by simpa using hb3⟩
    unfold podMay; rw [h9]; rfl
   refine AC_seq (AC_region ?_)
   refine ac rfl rfl rfl ?_
   refine AL_nil (AC_ret ?_)
   refine ret_tmp st rfl rfl (Sub.l (List.sublist_cons_self _ _)) (Conv.refl (Sub.l (List.sublist_cons_self _ _)) _) ⟨by rw [hx], rfl⟩ (.inl rfl)
  try simp only [zA,zO,zN,zM,zP,zQ,zD,zF,gd] at hb3
  have hne : 0 ≤ (p.ports[i]'hil) ∧ (p.ports[i]'hil) ≤ 1073741824 := by simpa using hb3
  refine AC_skip ?_
  refine AC_region ?_
  refine p_ (S_addI rfl (.tmp rfl) (AEv.const _) (by omega) (by omega)) ?_
  refine mv rfl rfl rfl rfl ?_
  refine AL_nil ?_
  refine ⟨i + 1, ⟨by omega, fun j h1 h => ?_⟩, by omega, (Sub.l (List.Sublist.refl _)), (.cons rfl (by first | exact Le.refl _ | exact Le.nils | exact Le.row _ _ _ _ | exact Le.of_eq (by first | rfl | (simp; done) | (push_cast; rfl) | (simp; omega))) .nil), (.cons rfl (Le.refl _) (.cons rfl (Le.refl _) (.cons rfl (Le.refl _) .nil)))⟩
  rcases Nat.lt_or_ge j i with h' | h'
  ·exact hall j h1 h'
  ·have : j = i := by omega
   subst this
   exact hne
 try simp only [zA,zO,zN,zM,zP,zQ,zD,zF,gd] at hb2
 have hx : p.ports.all (fun n => decide (0 ≤ n ∧ n ≤ 1073741824)) = true := List.all_eq_true.2 fun n hn => by
  obtain ⟨j, hj, rfl⟩ := List.getElem_of_mem hn
  exact decide_eq_true (hall j hj (by omega))
 refine AC_exit ?_
 refine AC_seq (AC_region ?_)
 refine fl 0 ?_
 refine ld 0 ?_
 refine p_ (S_pcall rfl (AEvs.cons (.tmp rfl) (AEvs.cons (AEv.const _) (AEvs.cons (AEv.const _) AEvs.nil))) (tell_within_ok p.id 1 1073741824)) ?_
 refine mv rfl rfl rfl rfl ?_
 refine g_ (fun _ => fA 2) ?_
 refine g_ (fun _ => lN 7 0) ?_
 refine g_ (fun _ => S_gcall rfl (AEvs.cons (AEv.cd (.tmp rfl)) AEvs.nil) ((spec_Check_ok p.spec hp.1) _ (fun p hp => by repeat (first | exact hG p hp | refine List.mem_cons_of_mem _ ?_ | refine List.mem_append_right _ ?_)))) ?_
 refine g_ (fun _ => S_eqlE (er_is 26 144 (checkE p.spec)) rfl (AEv.cd (.tmp rfl)) (by kernel_rfl)) ?_
 refine an ?_
 refine mv rfl rfl rfl rfl ?_
 refine g_ (fun _ => fA 9) ?_
 refine g_ (fun _ => lA 0) ?_
 refine g_ (fun _ => S_pcall rfl (AEvs.cons (AEv.cd (.tmp rfl)) (AEvs.cons (AEv.const _) (AEvs.cons (AEv.const _) AEvs.nil))) (tell_within_ok p.node 1 4)) ?_
 refine an ?_
 refine mv rfl rfl rfl rfl ?_
 refine g_ (fun _ => fA 10) ?_
 refine g_ (fun _ => lA 0) ?_
 refine g_ (fun _ => by first | exact S_lenM (e := 3) rfl (AEv.cd (.tmp rfl)) (by kernel_rfl) | exact S_len (e := 3) rfl (AEv.cd (.tmp rfl)) (by kernel_rfl)) ?_
 refine g_ (fun _ => fA 2) ?_
 refine g_ (fun _ => S_field 3 rfl (AEv.cd (.tmp rfl)) (by kernel_rfl)) ?_
 refine g_ (fun _ => lA 0) ?_
 refine g_ (fun _ => by first | exact S_lenM (e := 170) rfl (AEv.cd (.tmp rfl)) (by kernel_rfl) | exact S_len (e := 170) rfl (AEv.cd (.tmp rfl)) (by kernel_rfl)) ?_
 refine g_ (fun _ => S_eql rfl (AEv.cd (.tmp rfl)) (AEv.cd (.tmp rfl))) ?_
 refine an ?_
 refine mv rfl rfl rfl rfl ?_
 refine g_ (fun _ => fA 11) ?_
 refine g_ (fun _ => lA 0) ?_
 refine g_ (fun _ => S_pcall rfl (AEvs.cons (AEv.cd (.tmp rfl)) (AEvs.cons (AEv.const _) (AEvs.cons (AEv.const _) AEvs.nil))) (tell_within_ok p.x 0 2)) ?_
 refine an ?_
 refine mv rfl rfl rfl rfl ?_
 refine g_ (fun _ => fA 12) ?_
 refine g_ (fun _ => lA 0) ?_
 refine g_ (fun _ => S_pcall rfl (AEvs.cons (AEv.cd (.tmp rfl)) (AEvs.cons (AEv.const _) (AEvs.cons (AEv.const _) AEvs.nil))) (tell_within_ok p.y 0 1000)) ?_
 refine an ?_
 refine as_ rfl rfl rfl rfl ?_
 refine AL_nil (AC_ret ?_)
 refine ret_tmp st rfl rfl (Sub.l (List.sublist_cons_self _ _)) (Conv.refl (Sub.l (List.sublist_cons_self _ _)) _) ⟨congrArg AV.bool (by simp only [podMay, hx, Bool.true_and]; congr 3; exact decide_eq_decide.2 (by omega)), rfl⟩ (.inl rfl)
theorem tell_event_ok (e : Evt) (hp : ShortP e.pod) : GCalls Tryz.prog tabs 77 [.agg (evtL e)] (.bool (eventMay e)) := by
 intro st hG
 refine co 22 Tryz.func77 ?_
 refine AC_seq (AC_region ?_)
 refine s_ (S_box rfl (.tmp rfl)) ?_
 rintro _ _ ⟨b1, rfl, rfl⟩
 refine ac rfl rfl rfl ?_
 refine AL_nil ?_
 refine AC_seq ?_
 refine AC_seq (AC_region ?_)
 refine fl 0 ?_
 refine ld 0 ?_
 refine p_ (S_pcall rfl (AEvs.cons (.tmp rfl) AEvs.nil) (tell_whole_ok e.kind)) ?_
 refine AL_nil ?_
 refine AC_cond (.tmp rfl) (fun hb2 => ?_) (fun hb2 => ?_)
 ·try simp only [zA,zO,zN,zM,zP,zQ,zD,zF,gd] at hb2
  have hw : wholeB e.kind = true := hb2
  refine AC_seq (AC_region ?_)
  refine fl 2 ?_
  refine ldN 13 0 ?_
  refine p_ (S_gcall rfl (AEvs.cons (.tmp rfl) AEvs.nil) ((tell_pod_ok e.pod hp) _ (fun p hp => by repeat (first | exact hG p hp | refine List.mem_cons_of_mem _ ?_ | refine List.mem_append_right _ ?_)))) ?_
  refine as_ rfl rfl rfl rfl ?_
  refine AL_nil (AC_ret ?_)
  refine ret_tmp st rfl rfl (Sub.l (List.sublist_cons_self _ _)) (Conv.refl (Sub.l (List.sublist_cons_self _ _)) _) ⟨by unfold eventMay; rw [if_pos hw], rfl⟩ (.inl rfl)
 try simp only [zA,zO,zN,zM,zP,zQ,zD,zF,gd] at hb2
 have hw : ¬ wholeB e.kind = true := by simpa using hb2
 refine AC_skip ?_
 refine AC_seq (AC_region ?_)
 refine fl 0 ?_
 refine ld 0 ?_
 refine p_ (S_eql rfl (.tmp rfl) (AEv.const _)) ?_
 refine mv rfl rfl rfl rfl ?_
 refine g_ (fun _ => fA 0) ?_
 refine g_ (fun _ => lA 0) ?_
 refine g_ (fun _ => S_eql rfl (AEv.cd (.tmp rfl)) (AEv.const _)) ?_
 refine p_ (S_or rfl (.tmp rfl) (fun hp12 => (AEv.cd (.tmp rfl)))) ?_
 refine mv rfl rfl rfl rfl ?_
 refine g_ (fun _ => fA 2) ?_
 refine g_ (fun _ => lN 13 0) ?_
 refine g_ (fun _ => S_pcall rfl (AEvs.cons (AEv.cd (.tmp rfl)) AEvs.nil) (tell_bare_ok e.pod hp)) ?_
 refine an ?_
 refine as_ rfl rfl rfl rfl ?_
 refine AL_nil (AC_ret ?_)
 refine ret_tmp st rfl rfl (Sub.l (List.sublist_cons_self _ _)) (Conv.refl (Sub.l (List.sublist_cons_self _ _)) _) ⟨by unfold eventMay; rw [if_neg hw], rfl⟩ (.inl rfl)
theorem tell_reply1_ok (p : Pod) (hp : ShortP p) : GCalls Tryz.prog tabs 102 [podAV p] (.bool (!podMay p)) := by
 intro st hG
 refine co 6 Tryz.func102 ?_
 refine AC_seq (AC_region ?_)
 refine s_ (S_box rfl (.tmp rfl)) ?_
 rintro _ _ ⟨b1, rfl, rfl⟩
 refine ac rfl rfl rfl ?_
 refine AL_nil (AC_seq (AC_region ?_))
 refine ldN 13 0 ?_
 refine p_ (S_gcall rfl (AEvs.cons (y := podAV p) (.tmp rfl) AEvs.nil) ((tell_pod_ok p hp) _ (fun p hp => by repeat (first | exact hG p hp | refine List.mem_cons_of_mem _ ?_ | refine List.mem_append_right _ ?_)))) ?_
 refine p_ (S_not rfl (.tmp rfl)) ?_
 refine as_ rfl rfl rfl rfl ?_
 refine AL_nil (AC_ret ?_)
 refine ret_tmp st rfl rfl (Sub.l (List.sublist_cons_self _ _)) (Conv.refl (Sub.l (List.sublist_cons_self _ _)) _) ⟨rfl, rfl⟩ (.inl rfl)
theorem tell_reply2_ok (r : Tri) : GCalls Tryz.prog tabs 105 [resAV r] (.bool (!resMay r)) := by
 intro st hG
 refine co 6 Tryz.func105 ?_
 refine AC_seq (AC_region ?_)
 refine s_ (S_box rfl (.tmp rfl)) ?_
 rintro _ _ ⟨b1, rfl, rfl⟩
 refine ac rfl rfl rfl ?_
 refine AL_nil (AC_seq (AC_region ?_))
 refine ldN 3 0 ?_
 refine p_ (S_pcall rfl (AEvs.cons (y := resAV r) (.tmp rfl) AEvs.nil) (tell_res_ok r)) ?_
 refine p_ (S_not rfl (.tmp rfl)) ?_
 refine as_ rfl rfl rfl rfl ?_
 refine AL_nil (AC_ret ?_)
 refine ret_tmp st rfl rfl (Sub.l (List.sublist_cons_self _ _)) (Conv.refl (Sub.l (List.sublist_cons_self _ _)) _) ⟨rfl, rfl⟩ (.inl rfl)
theorem slices_IndexFuncP_ok (l : List Pod) (hl : l.length ≤ 1000) (hls : ∀ p ∈ l, ShortP p) : GCalls Tryz.prog tabs 124 [.sl (podsV l), .fn 102 []] (.int .i64 (idxB (fun p : Pod => !podMay p) l)) := by
 intro st hG
 refine co 19 Tryz.func124 ?_
 refine AC_seq (AC_region ?_)
 refine ac rfl rfl rfl ?_
 refine AL_nil ?_
 refine AC_seq ?_
 refine AC_seq (AC_region ?_)
 refine mv rfl rfl rfl rfl ?_
 refine p_ (by first | exact S_lenM (e := 62) rfl (.tmp rfl) (by kernel_rfl) | exact S_len (e := 62) rfl (.tmp rfl) (by kernel_rfl)) ?_
 refine p_ (S_move rfl (AEv.const _)) ?_
 refine AL_nil ?_
 refine AC_block ?_
 refine AC_loopK (G := Nat) [(0, _), (1, _), (7, _)] (fun g => g ≤ l.length ∧ ∀ j (h : j < l.length), j < g → (fun p : Pod => !podMay p) (l[j]'h) = false) (fun g => [(8, .int .i64 (g : Int))]) (fun g => st) (fun g => l.length - g) (0) (⟨Nat.zero_le _, fun j _ h => absurd h (Nat.not_lt_zero _)⟩) (Sub.l (List.Sublist.refl _)) (.cons rfl (Le.refl _) (.cons rfl (Le.refl _) (.cons rfl (Le.refl _) .nil))) (.cons rfl (by first | exact Le.refl _ | exact Le.nils | exact Le.row _ _ _ _ | exact Le.of_eq (by first | rfl | (simp; done) | (push_cast; rfl) | (simp; omega))) .nil) ?_
 rintro i ⟨hi, hall⟩
 try dsimp only
 simp only [List.cons_append, List.nil_append]
 refine AC_seq (AC_region ?_)
 refine p_ (S_lss rfl (.tmp rfl) (.tmp rfl)) ?_
 refine AL_nil ?_
 refine AC_seq ?_
 refine AC_cond (.tmp rfl) (fun hb1 => ?_) (fun hb1 => ?_)
 ·try simp only [zA,zO,zN,zM,zP,zQ,zD,zF,gd] at hb1
  have hil : i < l.length := by first | omega | (have h9 := hb1; simp [podsV] at h9; omega)
  refine AC_skip ?_
  refine AC_seq ?_
  refine AC_block ?_
  refine AC_seq (AC_region ?_)
  refine mv rfl rfl rfl rfl ?_
  refine as_ rfl rfl rfl rfl ?_
  refine AL_nil (AC_seq (AC_region ?_))
  refine mv rfl rfl rfl rfl ?_
  refine mv rfl rfl rfl rfl ?_
  refine mv rfl rfl rfl rfl ?_
  refine p_ (S_elemN (e := 62) 13 rfl (.tmp rfl) (.tmp rfl) (by kernel_rfl) (by kernel_rfl) (by omega) (fun _ => rfl)) ?_
  refine p_ (S_loadPN (m := 13) rfl (.tmp rfl) (by kernel_rfl) (by first | exact Nat.le_of_ble_eq_true rfl | (simp; omega) | simp)) ?_
  refine s_ (S_callF (caps := []) rfl (.tmp rfl) (AEvs.cons (y := podAV (l[i]'hil)) (.tmp rfl) AEvs.nil) (tell_reply1_ok (l[i]'hil) (hls _ (List.getElem_mem hil)) _ (fun p hp => hG p hp))) ?_
  rintro _ st9 ⟨rfl, h9⟩
  rw [h9]
  clear h9 st9
  refine AL_nil ?_
  refine AC_cond (.tmp rfl) (fun hb2 => ?_) (fun hb2 => ?_)
  ·try simp only [zA,zO,zN,zM,zP,zQ,zD,zF,gd] at hb2
   have hx := idxB_hit (f := (fun p : Pod => !podMay p)) hil (by simpa using hb2) (fun j hj h => hall j hj h)
   refine AC_seq (AC_region ?_)
   refine mv rfl rfl rfl rfl ?_
   refine as_ rfl rfl rfl rfl ?_
   refine AL_nil (AC_ret ?_)
   refine ret_tmp st rfl rfl (Sub.l (List.Sublist.refl _)) (Conv.refl (Sub.l (List.Sublist.refl _)) _) ⟨by rw [hx], rfl⟩ (.inl rfl)
  try simp only [zA,zO,zN,zM,zP,zQ,zD,zF,gd] at hb2
  have hne : (fun p : Pod => !podMay p) (l[i]'hil) = false := by simpa using hb2
  refine AC_skip ?_
  refine AC_region ?_
  refine p_ (S_addI rfl (.tmp rfl) (AEv.const _) (by omega) (by omega)) ?_
  refine mv rfl rfl rfl rfl ?_
  refine AL_nil ?_
  refine ⟨i + 1, ⟨by omega, fun j h1 h => ?_⟩, by omega, (Sub.l (List.Sublist.refl _)), (.cons rfl (by first | exact Le.refl _ | exact Le.nils | exact Le.row _ _ _ _ | exact Le.of_eq (by first | rfl | (simp; done) | (push_cast; rfl) | (simp; omega))) .nil), (.cons rfl (Le.refl _) (.cons rfl (Le.refl _) (.cons rfl (Le.refl _) .nil)))⟩
  rcases Nat.lt_or_ge j i with h' | h'
  ·exact hall j h1 h'
  ·have : j = i := by omega
   subst this
   exact hne
 try simp only [zA,zO,zN,zM,zP,zQ,zD,zF,gd] at hb1
 have hx := idxB_none (f := (fun p : Pod => !podMay p)) (l := l) fun j hj => hall j hj (by first | omega | (have h9 := hb1; simp [podsV] at h9; omega))
 refine AC_exit ?_
 refine AC_seq (AC_region ?_)
 refine ac rfl rfl rfl ?_
 refine AL_nil (AC_ret ?_)
 refine ret_tmp st rfl rfl (Sub.l (List.Sublist.refl _)) (Conv.refl (Sub.l (List.Sublist.refl _)) _) ⟨by rw [hx], rfl⟩ (.inl rfl)
theorem slices_ContainsFuncP_ok (l : List Pod) (hl : l.length ≤ 1000) (hls : ∀ p ∈ l, ShortP p) : GCalls Tryz.prog tabs 101 [.sl (podsV l), .fn 102 []] (.bool (l.any (fun p : Pod => !podMay p))) := by
 intro st hG
 refine co 9 Tryz.func101 ?_
 refine AC_seq (AC_region ?_)
 refine ac rfl rfl rfl ?_
 refine AL_nil (AC_seq (AC_region ?_))
 refine mv rfl rfl rfl rfl ?_
 refine mv rfl rfl rfl rfl ?_
 refine p_ (S_gcall rfl (AEvs.cons (.tmp rfl) (AEvs.cons (.tmp rfl) AEvs.nil)) ((slices_IndexFuncP_ok l hl hls) _ (fun p hp => by repeat (first | exact hG p hp | refine List.mem_cons_of_mem _ ?_ | refine List.mem_append_right _ ?_)))) ?_
 refine p_ (S_geq rfl (.tmp rfl) (AEv.const _)) ?_
 refine as_ rfl rfl rfl rfl ?_
 refine AL_nil (AC_ret ?_)
 refine ret_tmp st rfl rfl (Sub.l (List.Sublist.refl _)) (Conv.refl (Sub.l (List.Sublist.refl _)) _) ⟨congrArg AV.bool (by exact idxB_ge _ l), rfl⟩ (.inl rfl)
theorem slices_IndexFuncR_ok (l : List Tri) (hl : l.length ≤ 1000)  : GCalls Tryz.prog tabs 125 [.sl (l.map resAV), .fn 105 []] (.int .i64 (idxB (fun r : Tri => !resMay r) l)) := by
 intro st hG
 refine co 19 Tryz.func125 ?_
 refine AC_seq (AC_region ?_)
 refine ac rfl rfl rfl ?_
 refine AL_nil ?_
 refine AC_seq ?_
 refine AC_seq (AC_region ?_)
 refine mv rfl rfl rfl rfl ?_
 refine p_ (by first | exact S_lenM (e := 161) rfl (.tmp rfl) (by kernel_rfl) | exact S_len (e := 161) rfl (.tmp rfl) (by kernel_rfl)) ?_
 refine p_ (S_move rfl (AEv.const _)) ?_
 refine AL_nil ?_
 refine AC_block ?_
 refine AC_loopK (G := Nat) [(0, _), (1, _), (7, _)] (fun g => g ≤ l.length ∧ ∀ j (h : j < l.length), j < g → (fun r : Tri => !resMay r) (l[j]'h) = false) (fun g => [(8, .int .i64 (g : Int))]) (fun g => st) (fun g => l.length - g) (0) (⟨Nat.zero_le _, fun j _ h => absurd h (Nat.not_lt_zero _)⟩) (Sub.l (List.Sublist.refl _)) (.cons rfl (Le.refl _) (.cons rfl (Le.refl _) (.cons rfl (Le.refl _) .nil))) (.cons rfl (by first | exact Le.refl _ | exact Le.nils | exact Le.row _ _ _ _ | exact Le.of_eq (by first | rfl | (simp; done) | (push_cast; rfl) | (simp; omega))) .nil) ?_
 rintro i ⟨hi, hall⟩
 try dsimp only
 simp only [List.cons_append, List.nil_append]
 refine AC_seq (AC_region ?_)
 refine p_ (S_lss rfl (.tmp rfl) (.tmp rfl)) ?_
 refine AL_nil ?_
 refine AC_seq ?_
 refine AC_cond (.tmp rfl) (fun hb1 => ?_) (fun hb1 => ?_)
 ·try simp only [zA,zO,zN,zM,zP,zQ,zD,zF,gd] at hb1
  have hil : i < l.length := by first | omega | (have h9 := hb1; simp [podsV] at h9; omega)
  refine AC_skip ?_
  refine AC_seq ?_
  refine AC_block ?_
  refine AC_seq (AC_region ?_)
  refine mv rfl rfl rfl rfl ?_
  refine as_ rfl rfl rfl rfl ?_
  refine AL_nil (AC_seq (AC_region ?_))
  refine mv rfl rfl rfl rfl ?_
  refine mv rfl rfl rfl rfl ?_
  refine mv rfl rfl rfl rfl ?_
  refine p_ (S_elemN (e := 161) 3 rfl (.tmp rfl) (.tmp rfl) (by kernel_rfl) (by kernel_rfl) (by omega) (fun _ => rfl)) ?_
  refine p_ (S_loadPN (m := 3) rfl (.tmp rfl) (by kernel_rfl) (by first | exact Nat.le_of_ble_eq_true rfl | (simp; omega) | simp)) ?_
  refine s_ (S_callF (caps := []) rfl (.tmp rfl) (AEvs.cons (y := resAV (l[i]'hil)) (.tmp rfl) AEvs.nil) (tell_reply2_ok (l[i]'hil)  _ (fun p hp => hG p hp))) ?_
  rintro _ st9 ⟨rfl, h9⟩
  rw [h9]
  clear h9 st9
  refine AL_nil ?_
  refine AC_cond (.tmp rfl) (fun hb2 => ?_) (fun hb2 => ?_)
  ·try simp only [zA,zO,zN,zM,zP,zQ,zD,zF,gd] at hb2
   have hx := idxB_hit (f := (fun r : Tri => !resMay r)) hil (by simpa using hb2) (fun j hj h => hall j hj h)
   refine AC_seq (AC_region ?_)
   refine mv rfl rfl rfl rfl ?_
   refine as_ rfl rfl rfl rfl ?_
   refine AL_nil (AC_ret ?_)
   refine ret_tmp st rfl rfl (Sub.l (List.Sublist.refl _)) (Conv.refl (Sub.l (List.Sublist.refl _)) _) ⟨by rw [hx], rfl⟩ (.inl rfl)
  try simp only [zA,zO,zN,zM,zP,zQ,zD,zF,gd] at hb2
  have hne : (fun r : Tri => !resMay r) (l[i]'hil) = false := by simpa using hb2
  refine AC_skip ?_
  refine AC_region ?_
  refine p_ (S_addI rfl (.tmp rfl) (AEv.const _) (by omega) (by omega)) ?_
  refine mv rfl rfl rfl rfl ?_
  refine AL_nil ?_
  refine ⟨i + 1, ⟨by omega, fun j h1 h => ?_⟩, by omega, (Sub.l (List.Sublist.refl _)), (.cons rfl (by first | exact Le.refl _ | exact Le.nils | exact Le.row _ _ _ _ | exact Le.of_eq (by first | rfl | (simp; done) | (push_cast; rfl) | (simp; omega))) .nil), (.cons rfl (Le.refl _) (.cons rfl (Le.refl _) (.cons rfl (Le.refl _) .nil)))⟩
  rcases Nat.lt_or_ge j i with h' | h'
  ·exact hall j h1 h'
  ·have : j = i := by omega
   subst this
   exact hne
 try simp only [zA,zO,zN,zM,zP,zQ,zD,zF,gd] at hb1
 have hx := idxB_none (f := (fun r : Tri => !resMay r)) (l := l) fun j hj => hall j hj (by first | omega | (have h9 := hb1; simp [podsV] at h9; omega))
 refine AC_exit ?_
 refine AC_seq (AC_region ?_)
 refine ac rfl rfl rfl ?_
 refine AL_nil (AC_ret ?_)
 refine ret_tmp st rfl rfl (Sub.l (List.Sublist.refl _)) (Conv.refl (Sub.l (List.Sublist.refl _)) _) ⟨by rw [hx], rfl⟩ (.inl rfl)
theorem slices_ContainsFuncR_ok (l : List Tri) (hl : l.length ≤ 1000)  : GCalls Tryz.prog tabs 104 [.sl (l.map resAV), .fn 105 []] (.bool (l.any (fun r : Tri => !resMay r))) := by
 intro st hG
 refine co 9 Tryz.func104 ?_
 refine AC_seq (AC_region ?_)
 refine ac rfl rfl rfl ?_
 refine AL_nil (AC_seq (AC_region ?_))
 refine mv rfl rfl rfl rfl ?_
 refine mv rfl rfl rfl rfl ?_
 refine p_ (S_gcall rfl (AEvs.cons (.tmp rfl) (AEvs.cons (.tmp rfl) AEvs.nil)) ((slices_IndexFuncR_ok l hl ) _ (fun p hp => by repeat (first | exact hG p hp | refine List.mem_cons_of_mem _ ?_ | refine List.mem_append_right _ ?_)))) ?_
 refine p_ (S_geq rfl (.tmp rfl) (AEv.const _)) ?_
 refine as_ rfl rfl rfl rfl ?_
 refine AL_nil (AC_ret ?_)
 refine ret_tmp st rfl rfl (Sub.l (List.Sublist.refl _)) (Conv.refl (Sub.l (List.Sublist.refl _)) _) ⟨congrArg AV.bool (by exact idxB_ge _ l), rfl⟩ (.inl rfl)
theorem tell_reply_ok (r : Rep) (hr : ShortRp r) : GCalls Tryz.prog tabs 74 [.agg (repL r)] (.bool (replyMay r)) := by
 intro st hG
 refine co 46 Tryz.func74 ?_
 obtain ⟨hr1, hr2, hr3, hr4⟩ := hr
 refine AC_seq (AC_region ?_)
 refine s_ (S_box rfl (.tmp rfl)) ?_
 rintro _ _ ⟨b1, rfl, rfl⟩
 refine ac rfl rfl rfl ?_
 refine AL_nil (AC_seq (AC_region ?_))
 refine fl 0 ?_
 refine ld 0 ?_
 refine p_ (S_pcall rfl (AEvs.cons (.tmp rfl) (AEvs.cons (AEv.const _) (AEvs.cons (AEv.const _) AEvs.nil))) (tell_within_ok r.code 0 999)) ?_
 refine mv rfl rfl rfl rfl ?_
 refine g_ (fun _ => fA 1) ?_
 refine g_ (fun _ => lA 0) ?_
 refine g_ (fun _ => S_pcall rfl (AEvs.cons (AEv.cd (.tmp rfl)) (AEvs.cons (AEv.const _) (AEvs.cons (AEv.const _) AEvs.nil))) (tell_within_ok r.uid 0 1073741824)) ?_
 refine an ?_
 refine mv rfl rfl rfl rfl ?_
 refine g_ (fun _ => fA 2) ?_
 refine g_ (fun _ => lA 0) ?_
 refine g_ (fun _ => S_pcall rfl (AEvs.cons (AEv.cd (.tmp rfl)) (AEvs.cons (AEv.const _) (AEvs.cons (AEv.const _) AEvs.nil))) (tell_within_ok r.id 0 1073741824)) ?_
 refine an ?_
 refine mv rfl rfl rfl rfl ?_
 refine g_ (fun _ => fA 4) ?_
 refine g_ (fun _ => lA 0) ?_
 refine g_ (fun _ => S_lenS (ts := #[]) rfl (AEv.cd (.tmp rfl)) (by kernel_rfl)) ?_
 refine g_ (fun _ => S_leq rfl (AEv.cd (.tmp rfl)) (AEv.const _)) ?_
 refine an ?_
 refine mv rfl rfl rfl rfl ?_
 refine g_ (fun _ => fA 5) ?_
 refine g_ (fun _ => lA 0) ?_
 refine g_ (fun _ => by first | exact S_lenM (e := 62) rfl (AEv.cd (.tmp rfl)) (by kernel_rfl) | exact S_len (e := 62) rfl (AEv.cd (.tmp rfl)) (by kernel_rfl)) ?_
 refine g_ (fun _ => S_leq rfl (AEv.cd (.tmp rfl)) (AEv.const _)) ?_
 refine an ?_
 refine mv rfl rfl rfl rfl ?_
 refine g_ (fun _ => fA 6) ?_
 refine g_ (fun _ => lA 0) ?_
 refine g_ (fun _ => by first | exact S_lenM (e := 161) rfl (AEv.cd (.tmp rfl)) (by kernel_rfl) | exact S_len (e := 161) rfl (AEv.cd (.tmp rfl)) (by kernel_rfl)) ?_
 refine g_ (fun _ => S_leq rfl (AEv.cd (.tmp rfl)) (AEv.const _)) ?_
 refine an ?_
 refine mv rfl rfl rfl rfl ?_
 refine g_ (fun _ => fA 5) ?_
 refine g_ (fun _ => lA 0) ?_
 refine g_ (fun _ => S_gcall rfl (AEvs.cons (y := .sl (podsV r.pods)) (AEv.cd (.tmp rfl)) (AEvs.cons (y := .fn 102 []) (AEv.func _) AEvs.nil)) ((slices_ContainsFuncP_ok r.pods hr2 hr4) _ (fun p hp => by repeat (first | exact hG p hp | refine List.mem_cons_of_mem _ ?_ | refine List.mem_append_right _ ?_)))) ?_
 refine g_ (fun _ => S_not rfl (AEv.cd (.tmp rfl))) ?_
 refine an ?_
 refine mv rfl rfl rfl rfl ?_
 refine g_ (fun _ => fA 6) ?_
 refine g_ (fun _ => lA 0) ?_
 refine g_ (fun _ => S_gcall rfl (AEvs.cons (y := .sl (r.use.map resAV)) (AEv.cd (.tmp rfl)) (AEvs.cons (y := .fn 105 []) (AEv.func _) AEvs.nil)) ((slices_ContainsFuncR_ok r.use hr3) _ (fun p hp => by repeat (first | exact hG p hp | refine List.mem_cons_of_mem _ ?_ | refine List.mem_append_right _ ?_)))) ?_
 refine g_ (fun _ => S_not rfl (AEv.cd (.tmp rfl))) ?_
 refine an ?_
 refine as_ rfl rfl rfl rfl ?_
 refine AL_nil (AC_ret ?_)
 refine ret_tmp st rfl rfl (Sub.l (List.sublist_cons_self _ _)) (Conv.refl (Sub.l (List.sublist_cons_self _ _)) _) ⟨congrArg AV.bool (by simp only [replyMay, ← not_any podMay, ← not_any resMay, podsV, List.length_map]), rfl⟩ (.inl rfl)
theorem tell_Check_ok (m : Msg) (hm : ShortM m) : GCalls Tryz.prog tabs 47 [msgAV m] (.int .i64 (checkM m)) := by
 intro st hG
 refine co 50 Tryz.func47 ?_
 have hrv : decide ((m.event.rev : Int) = 0) = decide (m.event.rev = 0) := decide_eq_decide.2 (by omega)
 refine AC_seq (AC_region ?_)
 refine s_ (S_box rfl (.tmp rfl)) ?_
 rintro _ _ ⟨b1, rfl, rfl⟩
 refine ac rfl rfl rfl ?_
 refine AL_nil (AC_seq (AC_region ?_))
 refine fl 1 ?_
 refine ld 0 ?_
 refine p_ (S_pcall rfl (AEvs.cons (.tmp rfl) (AEvs.cons (AEv.const _) (AEvs.cons (AEv.const _) AEvs.nil))) (tell_within_ok m.num 1 1073741824)) ?_
 refine as_ rfl rfl rfl rfl ?_
 refine AL_nil ?_
 refine AC_seq ?_
 refine AC_seq (AC_region ?_)
 refine fl 0 ?_
 refine ld 0 ?_
 refine AL_nil ?_
 refine AC_block ?_
 refine AC_seq (AC_region ?_)
 refine p_ (S_eql rfl (.tmp rfl) (AEv.const _)) ?_
 refine as_ rfl rfl rfl rfl ?_
 refine AL_nil ?_
 refine AC_cond (.tmp rfl) (fun hb2 => ?_) (fun hb2 => ?_)
 ·try simp only [zA,zO,zN,zM,zP,zQ,zD,zF,gd] at hb2
  have hk : m.kind = 1 := by omega
  refine AC_region ?_
  refine mv rfl rfl rfl rfl ?_
  refine mv rfl rfl rfl rfl ?_
  refine g_ (fun _ => fA 2) ?_
  refine g_ (fun _ => lN 7 0) ?_
  refine g_ (fun _ => S_gcall rfl (AEvs.cons (y := .agg (repL m.reply)) (AEv.cd (.tmp rfl)) AEvs.nil) ((tell_reply_ok m.reply hm.1) _ (fun p hp => by repeat (first | exact hG p hp | refine List.mem_cons_of_mem _ ?_ | refine List.mem_append_right _ ?_)))) ?_
  refine an ?_
  refine mv rfl rfl rfl rfl ?_
  refine g_ (fun _ => fA 9) ?_
  refine g_ (fun _ => S_field 0 rfl (AEv.cd (.tmp rfl)) (by kernel_rfl)) ?_
  refine g_ (fun _ => lA 0) ?_
  refine g_ (fun _ => S_eql rfl (AEv.cd (.tmp rfl)) (AEv.const _)) ?_
  refine an ?_
  refine mv rfl rfl rfl rfl ?_
  refine g_ (fun _ => fA 9) ?_
  refine g_ (fun _ => S_field 1 rfl (AEv.cd (.tmp rfl)) (by kernel_rfl)) ?_
  refine g_ (fun _ => lA 0) ?_
  refine g_ (fun _ => S_eql rfl (AEv.cd (.tmp rfl)) (AEv.const _)) ?_
  refine an ?_
  refine mv rfl rfl rfl rfl ?_
  refine g_ (fun _ => fA 9) ?_
  refine g_ (fun _ => S_field 2 rfl (AEv.cd (.tmp rfl)) (by kernel_rfl)) ?_
  refine g_ (fun _ => lN 13 0) ?_
  refine g_ (fun _ => S_pcall rfl (AEvs.cons (y := podAV m.event.pod) (AEv.cd (.tmp rfl)) AEvs.nil) (tell_bare_ok m.event.pod hm.2)) ?_
  refine an ?_
  refine as_ rfl rfl rfl rfl ?_
  refine AL_nil (AC_seq (AC_region ?_))
  refine mv rfl rfl rfl rfl ?_
  refine p_ (S_pcall rfl (AEvs.cons (y := .bool (msgMay m)) ((AEv.tmp rfl).le (Le.of_eq (congrArg AV.bool (by unfold msgMay; first | (rw [if_pos hk]; simp only [Bool.and_assoc, hrv]; done) | (rw [if_neg hk, if_pos hk2]; simp only [Bool.and_assoc]; done) | (rw [if_neg hk, if_neg hk2]; exact (Bool.and_false _).symm))))) AEvs.nil) (tell_says_ok (msgMay m))) ?_
  refine as_ rfl rfl rfl rfl ?_
  refine AL_nil (AC_ret ?_)
  refine ret_tmp st rfl rfl (Sub.l (List.sublist_cons_self _ _)) (Conv.refl (Sub.l (List.sublist_cons_self _ _)) _) ⟨rfl, rfl⟩ (.inl rfl)
 try simp only [zA,zO,zN,zM,zP,zQ,zD,zF,gd] at hb2
 have hk : ¬ m.kind = 1 := by omega
 refine AC_seq (AC_region ?_)
 refine p_ (S_eql rfl (.tmp rfl) (AEv.const _)) ?_
 refine as_ rfl rfl rfl rfl ?_
 refine AL_nil ?_
 refine AC_cond (.tmp rfl) (fun hb52 => ?_) (fun hb52 => ?_)
 ·try simp only [zA,zO,zN,zM,zP,zQ,zD,zF,gd] at hb52
  have hk2 : m.kind = 2 := by omega
  refine AC_region ?_
  refine mv rfl rfl rfl rfl ?_
  refine mv rfl rfl rfl rfl ?_
  refine g_ (fun _ => fA 2) ?_
  refine g_ (fun _ => lN 7 0) ?_
  refine g_ (fun _ => S_pcall rfl (AEvs.cons (y := .agg (repL m.reply)) (AEv.cd (.tmp rfl)) AEvs.nil) (tell_silent_ok m.reply)) ?_
  refine an ?_
  refine mv rfl rfl rfl rfl ?_
  refine g_ (fun _ => fA 9) ?_
  refine g_ (fun _ => lN 15 0) ?_
  refine g_ (fun _ => S_gcall rfl (AEvs.cons (y := .agg (evtL m.event)) (AEv.cd (.tmp rfl)) AEvs.nil) ((tell_event_ok m.event hm.2) _ (fun p hp => by repeat (first | exact hG p hp | refine List.mem_cons_of_mem _ ?_ | refine List.mem_append_right _ ?_)))) ?_
  refine an ?_
  refine as_ rfl rfl rfl rfl ?_
  refine AL_nil (AC_seq (AC_region ?_))
  refine mv rfl rfl rfl rfl ?_
  refine p_ (S_pcall rfl (AEvs.cons (y := .bool (msgMay m)) ((AEv.tmp rfl).le (Le.of_eq (congrArg AV.bool (by unfold msgMay; first | (rw [if_pos hk]; simp only [Bool.and_assoc, hrv]; done) | (rw [if_neg hk, if_pos hk2]; simp only [Bool.and_assoc]; done) | (rw [if_neg hk, if_neg hk2]; exact (Bool.and_false _).symm))))) AEvs.nil) (tell_says_ok (msgMay m))) ?_
  refine as_ rfl rfl rfl rfl ?_
  refine AL_nil (AC_ret ?_)
  refine ret_tmp st rfl rfl (Sub.l (List.sublist_cons_self _ _)) (Conv.refl (Sub.l (List.sublist_cons_self _ _)) _) ⟨rfl, rfl⟩ (.inl rfl)
 try simp only [zA,zO,zN,zM,zP,zQ,zD,zF,gd] at hb52
 have hk2 : ¬ m.kind = 2 := by omega
 refine AC_region ?_
 refine ac rfl rfl rfl ?_
 refine AL_nil (AC_seq (AC_region ?_))
 refine mv rfl rfl rfl rfl ?_
 refine p_ (S_pcall rfl (AEvs.cons (y := .bool (msgMay m)) ((AEv.tmp rfl).le (Le.of_eq (congrArg AV.bool (by unfold msgMay; first | (rw [if_pos hk]; simp only [Bool.and_assoc, hrv]; done) | (rw [if_neg hk, if_pos hk2]; simp only [Bool.and_assoc]; done) | (rw [if_neg hk, if_neg hk2]; exact (Bool.and_false _).symm))))) AEvs.nil) (tell_says_ok (msgMay m))) ?_
 refine as_ rfl rfl rfl rfl ?_
 refine AL_nil (AC_ret ?_)
 refine ret_tmp st rfl rfl (Sub.l (List.sublist_cons_self _ _)) (Conv.refl (Sub.l (List.sublist_cons_self _ _)) _) ⟨rfl, rfl⟩ (.inl rfl)
end Go.Proofs.YtdnjeianoioieaaGreatDoor

set_option maxRecDepth 100000
namespace Go.Proofs.YtdnjeianoioieaaGreatDoor
open Go.AL Go.NumSpec
set_option maxHeartbeats 2000000 in
theorem tell_putPod_ok (b : Nat) (u2 : Bool) (q2 : Buf) (l : List UInt8) (c : Int) (hq2 : q2.ok l)  (hl : l.length + 40000 ≤ 100000000000) (p : Pod) (hp : PodOk p) (hs : ShortP p) (hck : checkE p.spec = none) (F : St) (hG : ∀ r, r ∈ Gs tabs → r ∈ F) : ACalls Tryz.prog 54 [.ptr b 0, podAV p] (((b, .cells [addrB u2 b 158 3, bufAV q2 (l), .int .i64 (c)]) :: bufSt q2 5 (l)) ++ F) (fun v9 st' => ∃ foot', (∃ (u' : Bool) (q' : Buf), q'.ok (wput c l (podB p)) ∧ v9 = .tup [] ∧ foot' = (b, .cells [addrB u' b 158 3, bufAV q' (wput c l (podB p)), .int .i64 (c)]) :: bufSt q' 5 (wput c l (podB p))) ∧ st' = foot' ++ F) := by
 refine co 41 Tryz.func54 ?_
 obtain ⟨⟨hp1, hp2, hp3, hp4⟩, ⟨hp5, hp6⟩, hp7, hp8⟩ := hp
 have n1 := numB_len (n := p.id) (by omega)
 have n2 := putL_few p.ver hp2
 have n3 := spcB_len hck
 have n4 := numB_len (n := p.node) (by omega)
 have n5 := numB_len (n := p.x) (by omega)
 have n6 := numB_len (n := p.y) (by omega)
 obtain ⟨_, _, _, hk4, _⟩ := check_ok hck
 have hk41 := hk4.1
 have hpl : p.ports.length ≤ 4 := by omega
 refine AC_seq (AC_region ?_)
 refine s_ (S_box rfl (.tmp rfl)) ?_
 rintro _ _ ⟨b3, rfl, rfl⟩
 refine AL_nil (AC_seq (AC_region ?_))
 refine mv rfl rfl rfl rfl ?_
 refine fl 0 ?_
 refine ld 0 ?_
 refine s_ (S_call rfl (AEvs.cons (.tmp rfl) (AEvs.cons (.tmp rfl) AEvs.nil)) (ACalls.preQ (pre := [_]) (F := F) (w_NumN b u2 q2 _ c hq2 (by first | omega | (refine Nat.le_trans (Nat.add_le_add_right (wput_len _ _ _) _) ?_; (try simp only [List.length_append]); omega)) p.id (by omega) (by omega) _))) ?_
 rintro _ _ ⟨_, ⟨u2, q2, hq2, rfl, rfl⟩, rfl⟩
 refine AL_nil (AC_seq (AC_region ?_))
 refine mv rfl rfl rfl rfl ?_
 refine fl 1 ?_
 refine ld 0 ?_
 refine s_ (S_call rfl (AEvs.cons (.tmp rfl) (AEvs.cons (.tmp rfl) AEvs.nil)) (ACalls.preQ (pre := [_]) (F := F) (w_Big_ok b u2 q2 _ c hq2 p.ver hp2 (by first | omega | (refine Nat.le_trans (Nat.add_le_add_right (wput_len _ _ _) _) ?_; (try simp only [List.length_append]); omega)) _))) ?_
 rintro _ _ ⟨_, ⟨u2, q2, hq2, rfl, rfl⟩, rfl⟩
 rw [wput_wput] at hq2 ⊢
 refine AL_nil (AC_seq (AC_region ?_))
 refine mv rfl rfl rfl rfl ?_
 refine fl 2 ?_
 refine ldN 7 0 ?_
 refine s_ (S_call rfl (AEvs.cons (.tmp rfl) (AEvs.cons (.tmp rfl) AEvs.nil)) (ACalls.preQ (pre := [_]) (F := F) (pack_Put_ok b u2 q2 _ c hq2 (by first | omega | (refine Nat.le_trans (Nat.add_le_add_right (wput_len _ _ _) _) ?_; (try simp only [List.length_append]); omega)) p.spec hs.1 _ (fun r hr => List.mem_append_right _ (hG r hr))))) ?_
 rintro _ _ ⟨_, ⟨u2, q2, hq2, rfl, rfl⟩, rfl⟩
 rw [if_pos hck] at hq2
 rw [if_pos hck, if_pos hck]
 rw [wput_wput] at hq2 ⊢
 refine AL_nil (AC_seq (AC_region ?_))
 refine mv rfl rfl rfl rfl ?_
 refine fl 9 ?_
 refine ld 0 ?_
 refine s_ (S_call rfl (AEvs.cons (.tmp rfl) (AEvs.cons (.tmp rfl) AEvs.nil)) (ACalls.preQ (pre := [_]) (F := F) (w_NumN b u2 q2 _ c hq2 (by first | omega | (refine Nat.le_trans (Nat.add_le_add_right (wput_len _ _ _) _) ?_; (try simp only [List.length_append]); omega)) p.node (by omega) (by omega) _))) ?_
 rintro _ _ ⟨_, ⟨u2, q2, hq2, rfl, rfl⟩, rfl⟩
 rw [wput_wput] at hq2 ⊢
 refine AL_nil ?_
 refine AC_seq ?_
 refine AC_seq (AC_region ?_)
 refine fl 10 ?_
 refine ld 0 ?_
 refine p_ (by first | exact S_lenM (e := 3) rfl (.tmp rfl) (by kernel_rfl) | exact S_len (e := 3) rfl (.tmp rfl) (by kernel_rfl)) ?_
 refine p_ (S_move rfl (AEv.const _)) ?_
 refine AL_nil ?_
 refine AC_block ?_
 refine AC_loopK (G := Nat × Bool × Buf) [(0, _), (3, _), (23, _), (24, _)] (fun g => g.1 ≤ p.ports.length ∧ g.2.2.ok (wput c l ((((numB p.id ++ putL p.ver) ++ spcB p.spec) ++ numB p.node) ++ (p.ports.take g.1).flatMap numB))) (fun g => [(25, .int .i64 (g.1 : Int))]) (fun g => (b3, .cells (podL p)) :: (((b, .cells [addrB g.2.1 b 158 3, bufAV g.2.2 (wput c l ((((numB p.id ++ putL p.ver) ++ spcB p.spec) ++ numB p.node) ++ (p.ports.take g.1).flatMap numB)), .int .i64 (c)]) :: bufSt g.2.2 5 (wput c l ((((numB p.id ++ putL p.ver) ++ spcB p.spec) ++ numB p.node) ++ (p.ports.take g.1).flatMap numB))) ++ F)) (fun g => p.ports.length - g.1) ((0, u2, q2)) (⟨Nat.zero_le _, by simpa using hq2⟩) (by simp only [List.take_zero, List.flatMap_nil, List.append_nil]; exact (Sub.l (List.Sublist.refl _))) (.cons rfl (Le.refl _) (.cons rfl (Le.refl _) (.cons rfl (Le.refl _) (.cons rfl (Le.refl _) .nil)))) (.cons rfl (by first | exact Le.refl _ | exact Le.nils | exact Le.row _ _ _ _ | exact Le.of_eq (by first | rfl | (simp; done) | (push_cast; rfl) | (simp; omega))) .nil) ?_
 rintro ⟨i, u2, q2⟩ ⟨hi, hq2⟩
 try dsimp only
 simp only [List.cons_append, List.nil_append]
 dsimp only at hi hq2
 have hfm := flatB_len (e := numB) (B := 10) (l := p.ports.take i) fun n hn => numB_len (by have := (hp6 n (List.mem_of_mem_take hn)).2; omega)
 rw [List.length_take, show min i p.ports.length = i by omega] at hfm
 refine AC_seq (AC_region ?_)
 refine p_ (S_lss rfl (.tmp rfl) (.tmp rfl)) ?_
 refine AL_nil ?_
 refine AC_seq ?_
 refine AC_cond (.tmp rfl) (fun hb2 => ?_) (fun hb2 => ?_)
 ·try simp only [zA,zO,zN,zM,zP,zQ,zD,zF,gd] at hb2
  have hil : i < p.ports.length := by omega
  have hpi := hp6 _ (List.getElem_mem hil)
  have hni := numB_len (n := (p.ports[i]'hil)) (by omega)
  refine AC_skip ?_
  refine AC_seq ?_
  refine AC_block ?_
  refine AC_seq (AC_region ?_)
  refine p_ (S_elemN (e := 3) 1 rfl (.tmp rfl) (.tmp rfl) (by kernel_rfl) (by kernel_rfl) (by omega) (fun _ => rfl)) ?_
  refine p_ (S_loadP rfl (.tmp rfl) rfl (by kernel_rfl)) ?_
  refine as_ rfl rfl rfl rfl ?_
  refine AL_nil ?_
  refine AC_region ?_
  refine mv rfl rfl rfl rfl ?_
  refine mv rfl rfl rfl rfl ?_
  refine s_ (S_call rfl (AEvs.cons (.tmp rfl) (AEvs.cons (.tmp rfl) AEvs.nil)) (ACalls.preQ (pre := [_]) (F := F) (w_NumN b u2 q2 _ c hq2 (by first | omega | (refine Nat.le_trans (Nat.add_le_add_right (wput_len _ _ _) _) ?_; (try simp only [List.length_append]); omega)) (p.ports[i]'hil) (by omega) (by omega) _))) ?_
  rintro _ _ ⟨_, ⟨u2, q2, hq2, rfl, rfl⟩, rfl⟩
  rw [wput_wput] at hq2 ⊢
  refine AL_nil ?_
  refine AC_region ?_
  refine p_ (S_addI rfl (.tmp rfl) (AEv.const _) (by omega) (by omega)) ?_
  refine mv rfl rfl rfl rfl ?_
  refine AL_nil ?_
  refine ⟨(i + 1, u2, q2), ⟨by dsimp only; omega, by dsimp only; rw [flatB_next hil]; exact hq2⟩, by dsimp only; omega, by dsimp only; rw [flatB_next hil]; exact (Sub.l (List.Sublist.refl _)), (.cons rfl (by first | exact Le.refl _ | exact Le.nils | exact Le.row _ _ _ _ | exact Le.of_eq (by first | rfl | (simp; done) | (push_cast; rfl) | (simp; omega))) .nil), (.cons rfl (Le.refl _) (.cons rfl (Le.refl _) (.cons rfl (Le.refl _) (.cons rfl (Le.refl _) .nil))))⟩
 try simp only [zA,zO,zN,zM,zP,zQ,zD,zF,gd] at hb2
 rw [List.take_of_length_le (show p.ports.length ≤ i by omega)] at hq2 hfm ⊢
 refine AC_exit ?_
 refine AC_seq (AC_region ?_)
 refine mv rfl rfl rfl rfl ?_
 refine fl 11 ?_
 refine ld 0 ?_
 refine s_ (S_call rfl (AEvs.cons (.tmp rfl) (AEvs.cons (.tmp rfl) AEvs.nil)) (ACalls.preQ (pre := [_]) (F := F) (w_NumN b u2 q2 _ c hq2 (by first | omega | (refine Nat.le_trans (Nat.add_le_add_right (wput_len _ _ _) _) ?_; (try simp only [List.length_append]); omega)) p.x (by omega) (by omega) _))) ?_
 rintro _ _ ⟨_, ⟨u2, q2, hq2, rfl, rfl⟩, rfl⟩
 rw [wput_wput] at hq2 ⊢
 refine AL_nil ?_
 refine AC_region ?_
 refine mv rfl rfl rfl rfl ?_
 refine fl 12 ?_
 refine ld 0 ?_
 refine s_ (S_call rfl (AEvs.cons (.tmp rfl) (AEvs.cons (.tmp rfl) AEvs.nil)) (ACalls.preQ (pre := [_]) (F := F) (w_NumN b u2 q2 _ c hq2 (by first | omega | (refine Nat.le_trans (Nat.add_le_add_right (wput_len _ _ _) _) ?_; (try simp only [List.length_append]); omega)) p.y (by omega) (by omega) _))) ?_
 rintro _ _ ⟨_, ⟨u2, q2, hq2, rfl, rfl⟩, rfl⟩
 rw [wput_wput] at hq2 ⊢
 rw [podB_assoc] at hq2 ⊢
 refine AL_nil ?_
 refine ret_none (((b, .cells [addrB u2 b 158 3, bufAV q2 (wput c l (podB p)), .int .i64 (c)]) :: bufSt q2 5 (wput c l (podB p))) ++ F) rfl (Sub.l (List.sublist_cons_self _ _)) ⟨_, ⟨u2, q2, hq2, rfl, rfl⟩, rfl⟩ (.inr rfl)
set_option maxHeartbeats 2000000 in
theorem tell_putReply_ok (b : Nat) (u2 : Bool) (q2 : Buf) (l : List UInt8) (c : Int) (hq2 : q2.ok l)  (hl : l.length + 1000000 ≤ 100000000000) (r : Rep) (hr : RepOk r) (hs : ShortRp r) (hck : ∀ p ∈ r.pods, checkE p.spec = none) (F : St) (hG : ∀ r, r ∈ Gs tabs → r ∈ F) : ACalls Tryz.prog 50 [.ptr b 0, .agg (repL r)] (((b, .cells [addrB u2 b 158 3, bufAV q2 (l), .int .i64 (c)]) :: bufSt q2 5 (l)) ++ F) (fun v9 st' => ∃ foot', (∃ (u' : Bool) (q' : Buf), q'.ok (wput c l (replyB r)) ∧ v9 = .tup [] ∧ foot' = (b, .cells [addrB u' b 158 3, bufAV q' (wput c l (replyB r)), .int .i64 (c)]) :: bufSt q' 5 (wput c l (replyB r))) ∧ st' = foot' ++ F) := by
 refine co 69 Tryz.func50 ?_
 obtain ⟨hr1, hr2, hr3, hr4, hr5, ⟨hr6, hr7⟩, hr8, hr9⟩ := hr
 have n1 := numB_len (n := r.code) (by omega)
 have n2 := numB_len (n := r.uid) (by omega)
 have n3 := numB_len (n := r.id) (by omega)
 have n4 := putL_few r.rev hr4
 have n5 := textB_len (s := r.data) (by omega)
 have n6 := numB_len (n := (r.pods.length : Int)) (by omega)
 have n7 := numB_len (n := (r.use.length : Int)) (by omega)
 have n8 := flatB_len (e := podB) (B := 21000) (l := r.pods) fun p hp => podB_len (hr7 p hp) (hck p hp)
 have n9 : r.pods.length * 21000 ≤ 16 * 21000 := Nat.mul_le_mul_right _ (by omega)
 have hpl : (podsV r.pods).length = r.pods.length := List.length_map ..
 have hul : (r.use.map resAV).length = r.use.length := List.length_map ..
 refine AC_seq (AC_region ?_)
 refine s_ (S_box rfl (.tmp rfl)) ?_
 rintro _ _ ⟨b3, rfl, rfl⟩
 refine AL_nil (AC_seq (AC_region ?_))
 refine mv rfl rfl rfl rfl ?_
 refine fl 0 ?_
 refine ld 0 ?_
 refine s_ (S_call rfl (AEvs.cons (.tmp rfl) (AEvs.cons (.tmp rfl) AEvs.nil)) (ACalls.preQ (pre := [_]) (F := F) (w_NumN b u2 q2 _ c hq2 (by first | omega | (refine Nat.le_trans (Nat.add_le_add_right (wput_len _ _ _) _) ?_; (try simp only [List.length_append]); omega)) r.code (by omega) (by omega) _))) ?_
 rintro _ _ ⟨_, ⟨u2, q2, hq2, rfl, rfl⟩, rfl⟩
 refine AL_nil (AC_seq (AC_region ?_))
 refine mv rfl rfl rfl rfl ?_
 refine fl 1 ?_
 refine ld 0 ?_
 refine s_ (S_call rfl (AEvs.cons (.tmp rfl) (AEvs.cons (.tmp rfl) AEvs.nil)) (ACalls.preQ (pre := [_]) (F := F) (w_NumN b u2 q2 _ c hq2 (by first | omega | (refine Nat.le_trans (Nat.add_le_add_right (wput_len _ _ _) _) ?_; (try simp only [List.length_append]); omega)) r.uid (by omega) (by omega) _))) ?_
 rintro _ _ ⟨_, ⟨u2, q2, hq2, rfl, rfl⟩, rfl⟩
 rw [wput_wput] at hq2 ⊢
 refine AL_nil (AC_seq (AC_region ?_))
 refine mv rfl rfl rfl rfl ?_
 refine fl 2 ?_
 refine ld 0 ?_
 refine s_ (S_call rfl (AEvs.cons (.tmp rfl) (AEvs.cons (.tmp rfl) AEvs.nil)) (ACalls.preQ (pre := [_]) (F := F) (w_NumN b u2 q2 _ c hq2 (by first | omega | (refine Nat.le_trans (Nat.add_le_add_right (wput_len _ _ _) _) ?_; (try simp only [List.length_append]); omega)) r.id (by omega) (by omega) _))) ?_
 rintro _ _ ⟨_, ⟨u2, q2, hq2, rfl, rfl⟩, rfl⟩
 rw [wput_wput] at hq2 ⊢
 refine AL_nil (AC_seq (AC_region ?_))
 refine mv rfl rfl rfl rfl ?_
 refine fl 3 ?_
 refine ld 0 ?_
 refine s_ (S_call rfl (AEvs.cons (.tmp rfl) (AEvs.cons (.tmp rfl) AEvs.nil)) (ACalls.preQ (pre := [_]) (F := F) (w_Big_ok b u2 q2 _ c hq2 r.rev hr4 (by first | omega | (refine Nat.le_trans (Nat.add_le_add_right (wput_len _ _ _) _) ?_; (try simp only [List.length_append]); omega)) _))) ?_
 rintro _ _ ⟨_, ⟨u2, q2, hq2, rfl, rfl⟩, rfl⟩
 rw [wput_wput] at hq2 ⊢
 refine AL_nil (AC_seq (AC_region ?_))
 refine mv rfl rfl rfl rfl ?_
 refine fl 4 ?_
 refine ld 0 ?_
 refine s_ (S_call rfl (AEvs.cons (.tmp rfl) (AEvs.cons (.tmp rfl) AEvs.nil)) (ACalls.preQ (pre := [_]) (F := F) (w_TextN b u2 q2 _ c hq2 (by first | omega | (refine Nat.le_trans (Nat.add_le_add_right (wput_len _ _ _) _) ?_; (try simp only [List.length_append]); omega)) r.data (by omega) (by first | omega | (refine Nat.le_trans (Nat.add_le_add_right (wput_len _ _ _) _) ?_; (try simp only [List.length_append]); omega)) _))) ?_
 rintro _ _ ⟨_, ⟨u2, q2, hq2, rfl, rfl⟩, rfl⟩
 rw [wput_wput] at hq2 ⊢
 refine AL_nil (AC_seq (AC_region ?_))
 refine mv rfl rfl rfl rfl ?_
 refine fl 5 ?_
 refine ld 0 ?_
 refine p_ (by first | exact S_lenM (e := 62) rfl (.tmp rfl) (by kernel_rfl) | exact S_len (e := 62) rfl (.tmp rfl) (by kernel_rfl)) ?_
 refine s_ (S_call rfl (AEvs.cons (.tmp rfl) (AEvs.cons (.tmp rfl) AEvs.nil)) (ACalls.preQ (pre := [_]) (F := F) (w_NumN b u2 q2 _ c hq2 (by first | omega | (refine Nat.le_trans (Nat.add_le_add_right (wput_len _ _ _) _) ?_; (try simp only [List.length_append]); omega)) (r.pods.length : Int) (by omega) (by omega) _))) ?_
 rintro _ _ ⟨_, ⟨u2, q2, hq2, rfl, rfl⟩, rfl⟩
 rw [wput_wput] at hq2 ⊢
 refine AL_nil ?_
 refine AC_seq ?_
 refine AC_seq (AC_region ?_)
 refine fl 5 ?_
 refine ld 0 ?_
 refine p_ (by first | exact S_lenM (e := 62) rfl (.tmp rfl) (by kernel_rfl) | exact S_len (e := 62) rfl (.tmp rfl) (by kernel_rfl)) ?_
 refine p_ (S_move rfl (AEv.const _)) ?_
 refine AL_nil ?_
 refine AC_block ?_
 refine AC_loopK (G := Nat × Bool × Buf) [(0, _), (3, _), (34, _), (35, _)] (fun g => g.1 ≤ r.pods.length ∧ g.2.2.ok (wput c l ((((((numB r.code ++ numB r.uid) ++ numB r.id) ++ putL r.rev) ++ textB r.data) ++ numB (r.pods.length : Int)) ++ (r.pods.take g.1).flatMap podB))) (fun g => [(36, .int .i64 (g.1 : Int))]) (fun g => (b3, .cells (repL r)) :: (((b, .cells [addrB g.2.1 b 158 3, bufAV g.2.2 (wput c l ((((((numB r.code ++ numB r.uid) ++ numB r.id) ++ putL r.rev) ++ textB r.data) ++ numB (r.pods.length : Int)) ++ (r.pods.take g.1).flatMap podB)), .int .i64 (c)]) :: bufSt g.2.2 5 (wput c l ((((((numB r.code ++ numB r.uid) ++ numB r.id) ++ putL r.rev) ++ textB r.data) ++ numB (r.pods.length : Int)) ++ (r.pods.take g.1).flatMap podB))) ++ F)) (fun g => r.pods.length - g.1) ((0, u2, q2)) (⟨Nat.zero_le _, by simpa using hq2⟩) (by simp only [List.take_zero, List.flatMap_nil, List.append_nil]; exact (Sub.l (List.Sublist.refl _))) (.cons rfl (Le.refl _) (.cons rfl (Le.refl _) (.cons rfl (Le.refl _) (.cons rfl (Le.refl _) .nil)))) (.cons rfl (by first | exact Le.refl _ | exact Le.nils | exact Le.row _ _ _ _ | exact Le.of_eq (by first | rfl | (simp; done) | (push_cast; rfl) | (simp; omega))) .nil) ?_
 rintro ⟨i, u2, q2⟩ ⟨hi, hq2⟩
 try dsimp only
 simp only [List.cons_append, List.nil_append]
 dsimp only at hi hq2
 have hfm := flatB_len (e := podB) (B := 21000) (l := r.pods.take i) fun p hp => podB_len (hr7 p (List.mem_of_mem_take hp)) (hck p (List.mem_of_mem_take hp))
 rw [List.length_take, show min i r.pods.length = i by omega] at hfm
 refine AC_seq (AC_region ?_)
 refine p_ (S_lss rfl (.tmp rfl) (.tmp rfl)) ?_
 refine AL_nil ?_
 refine AC_seq ?_
 refine AC_cond (.tmp rfl) (fun hb2 => ?_) (fun hb2 => ?_)
 ·try simp only [zA,zO,zN,zM,zP,zQ,zD,zF,gd] at hb2
  have hil : i < r.pods.length := by omega
  refine AC_skip ?_
  refine AC_seq ?_
  refine AC_block ?_
  refine AC_seq (AC_region ?_)
  refine p_ (S_elemN (e := 62) 13 rfl (.tmp rfl) (.tmp rfl) (by kernel_rfl) (by kernel_rfl) (by omega) (fun _ => rfl)) ?_
  refine p_ (S_loadPN (m := 13) rfl (.tmp rfl) (by kernel_rfl) (by first | exact Nat.le_of_ble_eq_true rfl | (simp; omega) | simp)) ?_
  refine s_ (S_alloc [.int .i64 0, .int .u64 0, .string ⟨#[]⟩, .slice none 0 0, .slice none 0 0, .slice none 0 0, .int .i64 0, .int .i64 0, .int .i64 0, .int .i64 0, .slice none 0 0, .int .i64 0, .int .i64 0] rfl (by kernel_rfl)) ?_
  rintro _ _ ⟨b5, rfl, rfl⟩
  refine stW 0 ?_
  refine AL_nil ?_
  refine AC_region ?_
  refine mv rfl rfl rfl rfl ?_
  refine ldN 13 0 ?_
  refine s_ (S_call rfl (AEvs.cons (.tmp rfl) (AEvs.cons (.tmp rfl) AEvs.nil)) (ACalls.preQ (pre := [_, _]) (F := F) (tell_putPod_ok b u2 q2 _ c hq2 (by first | omega | (refine Nat.le_trans (Nat.add_le_add_right (wput_len _ _ _) _) ?_; (try simp only [List.length_append]); omega)) (r.pods[i]'hil) (hr7 _ (List.getElem_mem hil)) (hs.2.2.2 _ (List.getElem_mem hil)) (hck _ (List.getElem_mem hil)) _ (fun r hr => List.mem_append_right _ (hG r hr))))) ?_
  rintro _ _ ⟨_, ⟨u2, q2, hq2, rfl, rfl⟩, rfl⟩
  rw [wput_wput] at hq2 ⊢
  refine AL_nil ?_
  refine AC_region ?_
  refine p_ (S_addI rfl (.tmp rfl) (AEv.const _) (by omega) (by omega)) ?_
  refine mv rfl rfl rfl rfl ?_
  refine AL_nil ?_
  refine ⟨(i + 1, u2, q2), ⟨by dsimp only; omega, by dsimp only; rw [flatB_next hil]; exact hq2⟩, by dsimp only; omega, by dsimp only; rw [flatB_next hil]; exact (Sub.l (List.sublist_cons_self _ _)), (.cons rfl (by first | exact Le.refl _ | exact Le.nils | exact Le.row _ _ _ _ | exact Le.of_eq (by first | rfl | (simp; done) | (push_cast; rfl) | (simp; omega))) .nil), (.cons rfl (Le.refl _) (.cons rfl (Le.refl _) (.cons rfl (Le.refl _) (.cons rfl (Le.refl _) .nil))))⟩
 try simp only [zA,zO,zN,zM,zP,zQ,zD,zF,gd] at hb2
 rw [List.take_of_length_le (show r.pods.length ≤ i by omega)] at hq2 hfm ⊢
 refine AC_exit ?_
 refine AC_seq (AC_region ?_)
 refine mv rfl rfl rfl rfl ?_
 refine fl 6 ?_
 refine ld 0 ?_
 refine p_ (by first | exact S_lenM (e := 161) rfl (.tmp rfl) (by kernel_rfl) | exact S_len (e := 161) rfl (.tmp rfl) (by kernel_rfl)) ?_
 refine s_ (S_call rfl (AEvs.cons (.tmp rfl) (AEvs.cons (.tmp rfl) AEvs.nil)) (ACalls.preQ (pre := [_]) (F := F) (w_NumN b u2 q2 _ c hq2 (by first | omega | (refine Nat.le_trans (Nat.add_le_add_right (wput_len _ _ _) _) ?_; (try simp only [List.length_append]); omega)) (r.use.length : Int) (by omega) (by omega) _))) ?_
 rintro _ _ ⟨_, ⟨u2, q2, hq2, rfl, rfl⟩, rfl⟩
 rw [wput_wput] at hq2 ⊢
 refine AL_nil (AC_seq (AC_region ?_))
 refine fl 6 ?_
 refine ld 0 ?_
 refine p_ (by first | exact S_lenM (e := 161) rfl (.tmp rfl) (by kernel_rfl) | exact S_len (e := 161) rfl (.tmp rfl) (by kernel_rfl)) ?_
 refine p_ (S_move rfl (AEv.const _)) ?_
 refine AL_nil ?_
 refine AC_block ?_
 refine AC_loopK (G := Nat × Bool × Buf) [(0, _), (50, _), (51, _)] (fun g => g.1 ≤ r.use.length ∧ g.2.2.ok (wput c l ((((((((numB r.code ++ numB r.uid) ++ numB r.id) ++ putL r.rev) ++ textB r.data) ++ numB (r.pods.length : Int)) ++ r.pods.flatMap podB) ++ numB (r.use.length : Int)) ++ (r.use.take g.1).flatMap triB))) (fun g => [(52, .int .i64 (g.1 : Int))]) (fun g => (b3, .cells (repL r)) :: (((b, .cells [addrB g.2.1 b 158 3, bufAV g.2.2 (wput c l ((((((((numB r.code ++ numB r.uid) ++ numB r.id) ++ putL r.rev) ++ textB r.data) ++ numB (r.pods.length : Int)) ++ r.pods.flatMap podB) ++ numB (r.use.length : Int)) ++ (r.use.take g.1).flatMap triB)), .int .i64 (c)]) :: bufSt g.2.2 5 (wput c l ((((((((numB r.code ++ numB r.uid) ++ numB r.id) ++ putL r.rev) ++ textB r.data) ++ numB (r.pods.length : Int)) ++ r.pods.flatMap podB) ++ numB (r.use.length : Int)) ++ (r.use.take g.1).flatMap triB))) ++ F)) (fun g => r.use.length - g.1) ((0, u2, q2)) (⟨Nat.zero_le _, by simpa using hq2⟩) (by simp only [List.take_zero, List.flatMap_nil, List.append_nil]; exact (Sub.l (List.Sublist.refl _))) (.cons rfl (Le.refl _) (.cons rfl (Le.refl _) (.cons rfl (Le.refl _) .nil))) (.cons rfl (by first | exact Le.refl _ | exact Le.nils | exact Le.row _ _ _ _ | exact Le.of_eq (by first | rfl | (simp; done) | (push_cast; rfl) | (simp; omega))) .nil) ?_
 rintro ⟨j, u2, q2⟩ ⟨hj, hq2⟩
 try dsimp only
 simp only [List.cons_append, List.nil_append]
 dsimp only at hj hq2
 have hfm := flatB_len (e := triB) (B := 30) (l := r.use.take j) fun p hp => triB_len (hr9 p (List.mem_of_mem_take hp))
 rw [List.length_take, show min j r.use.length = j by omega] at hfm
 refine AC_seq (AC_region ?_)
 refine p_ (S_lss rfl (.tmp rfl) (.tmp rfl)) ?_
 refine AL_nil ?_
 refine AC_seq ?_
 refine AC_cond (.tmp rfl) (fun hb4 => ?_) (fun hb4 => ?_)
 ·try simp only [zA,zO,zN,zM,zP,zQ,zD,zF,gd] at hb4
  have hjl : j < r.use.length := by omega
  have hu1 := hr9 _ (List.getElem_mem hjl)
  have hu2 := hu1.1
  have hu3 := hu1.2.1
  have hu4 := hu1.2.2
  unfold MR at hu2 hu3 hu4
  have m1 := numB_len (n := (r.use[j]'hjl).1) (by omega)
  have m2 := numB_len (n := (r.use[j]'hjl).2.1) (by omega)
  have m3 := numB_len (n := (r.use[j]'hjl).2.2) (by omega)
  refine AC_skip ?_
  refine AC_seq ?_
  refine AC_block ?_
  refine AC_seq (AC_region ?_)
  refine p_ (S_elemN (e := 161) 3 rfl (.tmp rfl) (.tmp rfl) (by kernel_rfl) (by kernel_rfl) (by omega) (fun _ => rfl)) ?_
  refine p_ (S_loadPN (m := 3) rfl (.tmp rfl) (by kernel_rfl) (by first | exact Nat.le_of_ble_eq_true rfl | (simp; omega) | simp)) ?_
  refine s_ (S_alloc [.int .i64 0, .int .i64 0, .int .i64 0] rfl (by kernel_rfl)) ?_
  rintro _ _ ⟨b7, rfl, rfl⟩
  refine stW 0 ?_
  refine AL_nil (AC_seq (AC_region ?_))
  refine mv rfl rfl rfl rfl ?_
  refine fl 0 ?_
  refine ld 0 ?_
  refine s_ (S_call rfl (AEvs.cons (.tmp rfl) (AEvs.cons (.tmp rfl) AEvs.nil)) (ACalls.preQ (pre := [_, _]) (F := F) (w_NumN b u2 q2 _ c hq2 (by first | omega | (refine Nat.le_trans (Nat.add_le_add_right (wput_len _ _ _) _) ?_; (try simp only [List.length_append]); omega)) (r.use[j]'hjl).1 (by omega) (by omega) _))) ?_
  rintro _ _ ⟨_, ⟨u2, q2, hq2, rfl, rfl⟩, rfl⟩
  rw [wput_wput] at hq2 ⊢
  refine AL_nil (AC_seq (AC_region ?_))
  refine mv rfl rfl rfl rfl ?_
  refine fl 1 ?_
  refine ld 0 ?_
  refine s_ (S_call rfl (AEvs.cons (.tmp rfl) (AEvs.cons (.tmp rfl) AEvs.nil)) (ACalls.preQ (pre := [_, _]) (F := F) (w_NumN b u2 q2 _ c hq2 (by first | omega | (refine Nat.le_trans (Nat.add_le_add_right (wput_len _ _ _) _) ?_; (try simp only [List.length_append]); omega)) (r.use[j]'hjl).2.1 (by omega) (by omega) _))) ?_
  rintro _ _ ⟨_, ⟨u2, q2, hq2, rfl, rfl⟩, rfl⟩
  rw [wput_wput] at hq2 ⊢
  refine AL_nil ?_
  refine AC_region ?_
  refine mv rfl rfl rfl rfl ?_
  refine fl 2 ?_
  refine ld 0 ?_
  refine s_ (S_call rfl (AEvs.cons (.tmp rfl) (AEvs.cons (.tmp rfl) AEvs.nil)) (ACalls.preQ (pre := [_, _]) (F := F) (w_NumN b u2 q2 _ c hq2 (by first | omega | (refine Nat.le_trans (Nat.add_le_add_right (wput_len _ _ _) _) ?_; (try simp only [List.length_append]); omega)) (r.use[j]'hjl).2.2 (by omega) (by omega) _))) ?_
  rintro _ _ ⟨_, ⟨u2, q2, hq2, rfl, rfl⟩, rfl⟩
  rw [wput_wput] at hq2 ⊢
  rw [triB_app] at hq2 ⊢
  refine AL_nil ?_
  refine AC_region ?_
  refine p_ (S_addI rfl (.tmp rfl) (AEv.const _) (by omega) (by omega)) ?_
  refine mv rfl rfl rfl rfl ?_
  refine AL_nil ?_
  refine ⟨(j + 1, u2, q2), ⟨by dsimp only; omega, by dsimp only; rw [flatB_next hjl]; exact hq2⟩, by dsimp only; omega, by dsimp only; rw [flatB_next hjl]; exact (Sub.l (List.sublist_cons_self _ _)), (.cons rfl (by first | exact Le.refl _ | exact Le.nils | exact Le.row _ _ _ _ | exact Le.of_eq (by first | rfl | (simp; done) | (push_cast; rfl) | (simp; omega))) .nil), (.cons rfl (Le.refl _) (.cons rfl (Le.refl _) (.cons rfl (Le.refl _) .nil)))⟩
 try simp only [zA,zO,zN,zM,zP,zQ,zD,zF,gd] at hb4
 rw [List.take_of_length_le (show r.use.length ≤ j by omega)] at hq2 hfm ⊢
 rw [replyB_assoc] at hq2 ⊢
 refine AC_exit ?_
 refine ret_none (((b, .cells [addrB u2 b 158 3, bufAV q2 (wput c l (replyB r)), .int .i64 (c)]) :: bufSt q2 5 (wput c l (replyB r))) ++ F) rfl (Sub.l (List.sublist_cons_self _ _)) ⟨_, ⟨u2, q2, hq2, rfl, rfl⟩, rfl⟩ (.inr rfl)
set_option maxHeartbeats 2000000 in
theorem tell_Bytes_ok (m : Msg) (hm : ShortM m) (hu : MsgU m) : GCalls Tryz.prog tabs 22 [msgAV m] (.tup [.S (if checkM m = 0 then msgB m else []), .int .i64 (checkM m)]) := by
 intro st hG
 refine co 54 Tryz.func22 ?_
 refine AC_seq (AC_region ?_)
 refine s_ (S_box rfl (.tmp rfl)) ?_
 rintro _ _ ⟨b1, rfl, rfl⟩
 refine p_ (S_assign rfl (AEv.S _)) ?_
 refine ac rfl rfl rfl ?_
 refine AL_nil ?_
 refine AC_seq ?_
 refine AC_seq (AC_region ?_)
 refine ldN 24 0 ?_
 refine p_ (S_gcall rfl (AEvs.cons (y := msgAV m) (.tmp rfl) AEvs.nil) ((tell_Check_ok m hm) _ (fun p hp => by repeat (first | exact hG p hp | refine List.mem_cons_of_mem _ ?_ | refine List.mem_append_right _ ?_)))) ?_
 refine as_ rfl rfl rfl rfl ?_
 refine AL_nil (AC_seq (AC_region ?_))
 refine mv rfl rfl rfl rfl ?_
 refine p_ (S_neq rfl (.tmp rfl) (AEv.const _)) ?_
 refine AL_nil ?_
 refine AC_cond (.tmp rfl) (fun hb2 => ?_) (fun hb2 => ?_)
 ·try simp only [zA,zO,zN,zM,zP,zQ,zD,zF,gd] at hb2
  have hk : ¬ checkM m = 0 := by simpa using hb2
  refine AC_seq (AC_region ?_)
  refine mv rfl rfl rfl rfl ?_
  refine p_ (S_assign rfl (AEv.S _)) ?_
  refine as_ rfl rfl rfl rfl ?_
  refine AL_nil (AC_ret ?_)
  refine ret_tmps (ts := [2, 3]) st rfl (by decide) rfl (Sub.l (List.sublist_cons_self _ _)) (Conv.refl (Sub.l (List.sublist_cons_self _ _)) _) ⟨by rw [if_neg hk] <;> rfl, rfl⟩ (.inl rfl)
 try simp only [zA,zO,zN,zM,zP,zQ,zD,zF,gd] at hb2
 have hk : checkM m = 0 := by simpa using hb2
 obtain ⟨hmay, hk1, hk2⟩ := msg_kinds hu hk
 have nk := numB_len (n := m.kind) (by omega)
 have nn := numB_len (n := m.num) (by omega)
 have h00 : ([] : List UInt8).length = 0 := rfl
 refine AC_skip ?_
 refine AC_seq (AC_region ?_)
 refine s_ (S_call rfl AEvs.nil (wire_Write_ok _)) ?_
 rintro _ _ ⟨_, ⟨b4, rfl, rfl⟩, rfl⟩
 refine as_ rfl rfl rfl rfl ?_
 refine AL_nil (AC_seq (AC_region ?_))
 refine mv rfl rfl rfl rfl ?_
 refine fl 0 ?_
 refine ld 1 ?_
 refine s_ (S_call rfl (AEvs.cons (.tmp rfl) (AEvs.cons (.tmp rfl) AEvs.nil)) (w_NumN b4 false .nil [] 0 rfl (by decide) m.kind (by omega) (by omega) _)) ?_
 rintro _ _ ⟨_, ⟨u2, q2, hq2, rfl, rfl⟩, rfl⟩
 refine AL_nil (AC_seq (AC_region ?_))
 refine mv rfl rfl rfl rfl ?_
 refine fl 1 ?_
 refine p_ (S_loadM rfl (.tmp rfl) (by repeat (first | exact List.mem_cons_self | refine List.mem_append_right _ ?_ | refine List.mem_cons_of_mem _ ?_)) rfl (by kernel_rfl)) ?_
 refine s_ (S_call rfl (AEvs.cons (.tmp rfl) (AEvs.cons (.tmp rfl) AEvs.nil)) (w_NumN b4 u2 q2 _ 0 hq2 (by first | omega | (refine Nat.le_trans (Nat.add_le_add_right (wput_len _ _ _) _) ?_; (try simp only [List.length_append]); omega)) m.num (by omega) (by omega) _)) ?_
 rintro _ _ ⟨_, ⟨u2, q2, hq2, rfl, rfl⟩, rfl⟩
 rw [wput_wput] at hq2 ⊢
 refine AL_nil ?_
 refine AC_seq ?_
 refine AC_seq (AC_region ?_)
 refine fl 0 ?_
 refine p_ (S_loadM rfl (.tmp rfl) (by repeat (first | exact List.mem_cons_self | refine List.mem_append_right _ ?_ | refine List.mem_cons_of_mem _ ?_)) rfl (by kernel_rfl)) ?_
 refine p_ (S_eql rfl (.tmp rfl) (AEv.const _)) ?_
 refine AL_nil ?_
 refine AC_cond (.tmp rfl) (fun hb3 => ?_) (fun hb3 => ?_)
 ·try simp only [zA,zO,zN,zM,zP,zQ,zD,zF,gd] at hb3
  have h1 : m.kind = 1 := by omega
  have hr0 := msg_reply hu hmay h1
  refine AC_seq (AC_region ?_)
  refine mv rfl rfl rfl rfl ?_
  refine fl 2 ?_
  refine p_ (S_loadNM (m := 7) rfl (.tmp rfl) (by repeat (first | exact List.mem_cons_self | refine List.mem_append_right _ ?_ | refine List.mem_cons_of_mem _ ?_)) (by kernel_rfl) (by first | exact Nat.le_of_ble_eq_true rfl | (simp; omega) | simp)) ?_
  refine s_ (S_call rfl (AEvs.cons (.tmp rfl) (AEvs.cons (.tmp rfl) AEvs.nil)) (tell_putReply_ok b4 u2 q2 _ 0 hq2 (by first | omega | (refine Nat.le_trans (Nat.add_le_add_right (wput_len _ _ _) _) ?_; (try simp only [List.length_append]); omega)) m.reply hr0.1 hm.1 hr0.2 _ (fun r hr => List.mem_cons_of_mem _ (hG r hr)))) ?_
  rintro _ _ ⟨_, ⟨u2, q2, hq2, rfl, rfl⟩, rfl⟩
  rw [wput_wput] at hq2 ⊢
  refine AL_nil (AC_seq (AC_region ?_))
  refine mv rfl rfl rfl rfl ?_
  refine s_ (S_call rfl (AEvs.cons (.tmp rfl) AEvs.nil) (w_End_ok b4 u2 q2 _ _ hq2 _)) ?_
  rintro _ _ ⟨_, ⟨cs2, rfl, rfl⟩, rfl⟩
  refine ex 0 ?_
  refine ex 1 ?_
  refine as_ rfl rfl rfl rfl ?_
  refine as_ rfl rfl rfl rfl ?_
  refine AL_nil (AC_ret ?_)
  refine ret_tmps (ts := [2, 3]) st rfl (by decide) rfl (Sub.l ((List.sublist_cons_self _ _).trans (List.sublist_cons_self _ _))) (Conv.refl (Sub.l ((List.sublist_cons_self _ _).trans (List.sublist_cons_self _ _))) _) ⟨by rw [if_pos hk, hk, ← msgB_reply h1] <;> rfl, rfl⟩ (.inl rfl)
 try simp only [zA,zO,zN,zM,zP,zQ,zD,zF,gd] at hb3
 have h2 : m.kind = 2 := by omega
 obtain ⟨he1, he2, he3⟩ := msg_event hu hmay h2
 have ne := numB_len (n := m.event.kind) (by omega)
 have nv := putL_few m.event.rev he2
 refine AC_skip ?_
 refine AC_seq (AC_region ?_)
 refine mv rfl rfl rfl rfl ?_
 refine fl 9 ?_
 refine fl 0 ?_
 refine p_ (S_loadM rfl (.tmp rfl) (by repeat (first | exact List.mem_cons_self | refine List.mem_append_right _ ?_ | refine List.mem_cons_of_mem _ ?_)) rfl (by kernel_rfl)) ?_
 refine s_ (S_call rfl (AEvs.cons (.tmp rfl) (AEvs.cons (.tmp rfl) AEvs.nil)) (w_NumN b4 u2 q2 _ 0 hq2 (by first | omega | (refine Nat.le_trans (Nat.add_le_add_right (wput_len _ _ _) _) ?_; (try simp only [List.length_append]); omega)) m.event.kind (by omega) (by omega) _)) ?_
 rintro _ _ ⟨_, ⟨u2, q2, hq2, rfl, rfl⟩, rfl⟩
 rw [wput_wput] at hq2 ⊢
 refine AL_nil (AC_seq (AC_region ?_))
 refine mv rfl rfl rfl rfl ?_
 refine fl 9 ?_
 refine fl 1 ?_
 refine p_ (S_loadM rfl (.tmp rfl) (by repeat (first | exact List.mem_cons_self | refine List.mem_append_right _ ?_ | refine List.mem_cons_of_mem _ ?_)) rfl (by kernel_rfl)) ?_
 refine s_ (S_call rfl (AEvs.cons (.tmp rfl) (AEvs.cons (.tmp rfl) AEvs.nil)) (w_Big_ok b4 u2 q2 _ 0 hq2 m.event.rev he2 (by first | omega | (refine Nat.le_trans (Nat.add_le_add_right (wput_len _ _ _) _) ?_; (try simp only [List.length_append]); omega)) _)) ?_
 rintro _ _ ⟨_, ⟨u2, q2, hq2, rfl, rfl⟩, rfl⟩
 rw [wput_wput] at hq2 ⊢
 refine AL_nil ?_
 refine AC_seq ?_
 refine AC_seq (AC_region ?_)
 refine fl 9 ?_
 refine fl 0 ?_
 refine p_ (S_loadM rfl (.tmp rfl) (by repeat (first | exact List.mem_cons_self | refine List.mem_append_right _ ?_ | refine List.mem_cons_of_mem _ ?_)) rfl (by kernel_rfl)) ?_
 refine p_ (S_pcall rfl (AEvs.cons (.tmp rfl) AEvs.nil) (tell_whole_ok m.event.kind)) ?_
 refine AL_nil ?_
 refine AC_cond (.tmp rfl) (fun hb4 => ?_) (fun hb4 => ?_)
 ·try simp only [zA,zO,zN,zM,zP,zQ,zD,zF,gd] at hb4
  have hw : wholeB m.event.kind = true := hb4
  refine AC_region ?_
  refine mv rfl rfl rfl rfl ?_
  refine fl 9 ?_
  refine fl 2 ?_
  refine p_ (S_loadNM (m := 13) rfl (.tmp rfl) (by repeat (first | exact List.mem_cons_self | refine List.mem_append_right _ ?_ | refine List.mem_cons_of_mem _ ?_)) (by kernel_rfl) (by first | exact Nat.le_of_ble_eq_true rfl | (simp; omega) | simp)) ?_
  refine s_ (S_call rfl (AEvs.cons (.tmp rfl) (AEvs.cons (.tmp rfl) AEvs.nil)) (tell_putPod_ok b4 u2 q2 _ 0 hq2 (by first | omega | (refine Nat.le_trans (Nat.add_le_add_right (wput_len _ _ _) _) ?_; (try simp only [List.length_append]); omega)) m.event.pod (he3 hw).1 hm.2 (he3 hw).2 _ (fun r hr => List.mem_cons_of_mem _ (hG r hr)))) ?_
  rintro _ _ ⟨_, ⟨u2, q2, hq2, rfl, rfl⟩, rfl⟩
  rw [wput_wput] at hq2 ⊢
  refine AL_nil (AC_seq (AC_region ?_))
  refine mv rfl rfl rfl rfl ?_
  refine s_ (S_call rfl (AEvs.cons (.tmp rfl) AEvs.nil) (w_End_ok b4 u2 q2 _ _ hq2 _)) ?_
  rintro _ _ ⟨_, ⟨cs2, rfl, rfl⟩, rfl⟩
  refine ex 0 ?_
  refine ex 1 ?_
  refine as_ rfl rfl rfl rfl ?_
  refine as_ rfl rfl rfl rfl ?_
  refine AL_nil (AC_ret ?_)
  refine ret_tmps (ts := [2, 3]) st rfl (by decide) rfl (Sub.l ((List.sublist_cons_self _ _).trans (List.sublist_cons_self _ _))) (Conv.refl (Sub.l ((List.sublist_cons_self _ _).trans (List.sublist_cons_self _ _))) _) ⟨by rw [if_pos hk, hk, ← msgB_whole h2 hw] <;> rfl, rfl⟩ (.inl rfl)
 try simp only [zA,zO,zN,zM,zP,zQ,zD,zF,gd] at hb4
 have hw : ¬ wholeB m.event.kind = true := by simpa using hb4
 refine AC_skip ?_
 refine AC_seq (AC_region ?_)
 refine mv rfl rfl rfl rfl ?_
 refine s_ (S_call rfl (AEvs.cons (.tmp rfl) AEvs.nil) (w_End_ok b4 u2 q2 _ _ hq2 _)) ?_
 rintro _ _ ⟨_, ⟨cs2, rfl, rfl⟩, rfl⟩
 refine ex 0 ?_
 refine ex 1 ?_
 refine as_ rfl rfl rfl rfl ?_
 refine as_ rfl rfl rfl rfl ?_
 refine AL_nil (AC_ret ?_)
 refine ret_tmps (ts := [2, 3]) st rfl (by decide) rfl (Sub.l ((List.sublist_cons_self _ _).trans (List.sublist_cons_self _ _))) (Conv.refl (Sub.l ((List.sublist_cons_self _ _).trans (List.sublist_cons_self _ _))) _) ⟨by rw [if_pos hk, hk, ← msgB_mark h2 hw] <;> rfl, rfl⟩ (.inl rfl)
end Go.Proofs.YtdnjeianoioieaaGreatDoor

set_option maxRecDepth 100000
namespace Go.Proofs.YtdnjeianoioieaaGreatDoor
open Go.AL Go.NumSpec
theorem conn_Room_ok (bc : Nat) (px wc tc : AV) (q : Own) (o : List (List UInt8)) (hq : q.ok (strsV o)) (ho : o.length ≤ 1000000) (F : St) : ACalls Tryz.prog 25 [.ptr bc 0] ((bc, Ob.cells [px, wc, ownAV q 1 (strsV o), tc]) :: F) (fun x st' => x = .int .i64 (32 - (o.length : Int)) ∧ st' = (bc, Ob.cells [px, wc, ownAV q 1 (strsV o), tc]) :: F) := by
 refine co 9 Tryz.func25 ?_
 have hol : (strsV o).length = o.length := List.length_map ..
 refine AC_seq (AC_region ?_)
 refine ac rfl rfl rfl ?_
 refine AL_nil (AC_seq (AC_region ?_))
 refine mv rfl rfl rfl rfl ?_
 refine p_ (S_nilCheck rfl (.tmp rfl)) ?_
 refine fl 2 ?_
 refine ld 0 ?_
 refine p_ (by first | exact S_lenM (e := 9) rfl ((AEv.tmp rfl).le (Le_own hq)) (by kernel_rfl) | exact S_len (e := 9) rfl ((AEv.tmp rfl).le (Le_own hq)) (by kernel_rfl)) ?_
 refine p_ (S_subI rfl (AEv.const _) (.tmp rfl) (by omega) (by omega)) ?_
 refine as_ rfl rfl rfl rfl ?_
 refine AL_nil (AC_ret ?_)
 refine ret_tmp ((bc, Ob.cells [px, wc, ownAV q 1 (strsV o), tc]) :: F) rfl rfl (Sub.l (List.Sublist.refl _)) (Conv.refl (Sub.l (List.Sublist.refl _)) _) ⟨rfl, rfl⟩ (.inl rfl)
theorem conn_Room_pre (bc : Nat) (px wc tc : AV) (q : Own) (o : List (List UInt8)) (hq : q.ok (strsV o)) (ho : o.length ≤ 1000000) (z : Nat × Ob) (F : St) : ACalls Tryz.prog 25 [.ptr bc 0] (z :: (bc, Ob.cells [px, wc, ownAV q 1 (strsV o), tc]) :: F) (fun x st' => x = .int .i64 (32 - (o.length : Int)) ∧ st' = z :: (bc, Ob.cells [px, wc, ownAV q 1 (strsV o), tc]) :: F) := by
 have h := ACalls.preQ (pre := [z]) (foot := [(bc, Ob.cells [px, wc, ownAV q 1 (strsV o), tc])]) (F := F) (K := fun x foot' => x = .int .i64 (32 - (o.length : Int)) ∧ foot' = [(bc, Ob.cells [px, wc, ownAV q 1 (strsV o), tc])]) ((conn_Room_ok bc px wc tc q o hq ho (z :: F)).mono fun x st' ⟨h1, h2⟩ => ⟨_, ⟨h1, rfl⟩, h2⟩)
 exact h.mono fun x st' ⟨foot', ⟨h1, h2⟩, h3⟩ => ⟨h1, by rw [h3, h2]; rfl⟩
theorem conn_Tell_ok (bc : Nat) (px wc tc : AV) (q : Own) (o : List (List UInt8)) (xo : Nat × Ob) (hq : q.ok (strsV o)) (ho : o.length ≤ 1000000) (m : Msg) (hm : ShortM m) (hu : MsgU m) (F : St) (hG : ∀ r, r ∈ Gs tabs → r ∈ F) : ACalls Tryz.prog 23 [.ptr bc 0, msgAV m] ((bc, Ob.cells [px, wc, ownAV q 1 (strsV o), tc]) :: xo :: (ownSt q 9 1 (strsV o) ++ F)) (fun x st' => ∃ q' : Own, q'.ok (strsV (tellO m o)) ∧ x = .int .i64 (tellC m o) ∧ st' = (bc, Ob.cells [px, wc, ownAV q' 1 (strsV (tellO m o)), tc]) :: xo :: (ownSt q' 9 1 (strsV (tellO m o)) ++ F)) := by
 refine co 30 Tryz.func23 ?_
 have hol : (strsV o).length = o.length := List.length_map ..
 refine AC_seq (AC_region ?_)
 refine s_ (S_box rfl (.tmp rfl)) ?_
 rintro _ _ ⟨b3, rfl, rfl⟩
 refine ac rfl rfl rfl ?_
 refine AL_nil (AC_seq (AC_region ?_))
 refine ldN 24 0 ?_
 refine p_ (S_gcall rfl (AEvs.cons (y := msgAV m) (.tmp rfl) AEvs.nil) ((tell_Bytes_ok m hm hu) _ (fun p hp => by repeat (first | exact hG p hp | refine List.mem_cons_of_mem _ ?_ | refine List.mem_append_right _ ?_)))) ?_
 refine mv rfl rfl rfl rfl ?_
 refine ex 0 ?_
 refine ex 1 ?_
 refine as_ rfl rfl rfl rfl ?_
 refine as_ rfl rfl rfl rfl ?_
 refine AL_nil ?_
 refine AC_seq ?_
 refine AC_block ?_
 refine AC_seq (AC_region ?_)
 refine mv rfl rfl rfl rfl ?_
 refine p_ (S_neq rfl (.tmp rfl) (AEv.const _)) ?_
 refine as_ rfl rfl rfl rfl ?_
 refine AL_nil ?_
 refine AC_cond (.tmp rfl) (fun hb2 => ?_) (fun hb2 => ?_)
 ·try simp only [zA,zO,zN,zM,zP,zQ,zD,zF,gd] at hb2
  have hx := tell_bad (o := o) (m := m) hb2
  refine AC_seq (AC_region ?_)
  refine mv rfl rfl rfl rfl ?_
  refine as_ rfl rfl rfl rfl ?_
  refine AL_nil (AC_ret ?_)
  refine ret_tmp ((bc, Ob.cells [px, wc, ownAV q 1 (strsV o), tc]) :: xo :: (ownSt q 9 1 (strsV o) ++ F)) rfl rfl (Sub.l (List.Sublist.cons _ (List.Sublist.refl _))) (Conv.refl (Sub.l (List.Sublist.cons _ (List.Sublist.refl _))) _) ⟨q, by rw [hx.2]; exact hq, by rw [hx.1], by rw [hx.2]⟩ (.inl rfl)
 try simp only [zA,zO,zN,zM,zP,zQ,zD,zF,gd] at hb2
 have hk : checkM m = 0 := by simpa using hb2
 rw [if_pos hk]
 refine AC_seq (AC_region ?_)
 refine mv rfl rfl rfl rfl ?_
 refine p_ (S_keep (S_call rfl (AEvs.cons (.tmp rfl) AEvs.nil) (conn_Room_pre bc px wc tc q o hq ho _ _)) (by rintro _ _ ⟨rfl, rfl⟩; exact ⟨rfl, rfl⟩)) ?_
 refine p_ (S_leq rfl (.tmp rfl) (AEv.const _)) ?_
 refine as_ rfl rfl rfl rfl ?_
 refine AL_nil ?_
 refine AC_cond (.tmp rfl) (fun hb3 => ?_) (fun hb3 => ?_)
 ·try simp only [zA,zO,zN,zM,zP,zQ,zD,zF,gd] at hb3
  have hx := tell_full hk (o := o) (by omega)
  refine AC_seq (AC_region ?_)
  refine ac rfl rfl rfl ?_
  refine AL_nil (AC_ret ?_)
  refine ret_tmp ((bc, Ob.cells [px, wc, ownAV q 1 (strsV o), tc]) :: xo :: (ownSt q 9 1 (strsV o) ++ F)) rfl rfl (Sub.l (List.Sublist.cons _ (List.Sublist.refl _))) (Conv.refl (Sub.l (List.Sublist.cons _ (List.Sublist.refl _))) _) ⟨q, by rw [hx.2]; exact hq, by rw [hx.1], by rw [hx.2]⟩ (.inl rfl)
 try simp only [zA,zO,zN,zM,zP,zQ,zD,zF,gd] at hb3
 have hx := tell_good hk (o := o) (by omega)
 refine AC_skip ?_
 refine AC_seq (AC_region ?_)
 refine mv rfl rfl rfl rfl ?_
 refine mv rfl rfl rfl rfl ?_
 refine p_ (S_nilCheck rfl (.tmp rfl)) ?_
 refine fl 2 ?_
 refine ld 1 ?_
 refine mv rfl rfl rfl rfl ?_
 refine p_ (S_buildSlice (e := 9) 1 rfl (AEvs.cons (.tmp rfl) AEvs.nil) rfl (by kernel_rfl) (by kernel_rfl) (by intro y hy; simp only [List.mem_cons, List.not_mem_nil, or_false] at hy; rcases hy with rfl <;> exact ⟨rfl, rfl⟩) (by decide) (by decide) (by decide)) ?_
 refine s_ (S_appendM (f := (fun y => AV.S y)) (l := o) (l2 := [msgB m]) (e := 9) (size := 1) (bytes := 16) (p := q) ([_, _, _]) (F) rfl (.tmp rfl) (.tmp rfl) rfl hq (by kernel_rfl) (by simp) (fun _ => ⟨rfl, rfl⟩) (by simp only [List.length_singleton]; omega) (by simp only [List.length_singleton]; omega)) ?_
 rintro _ _ ⟨b8, k8, cap8, hx8, rfl, rfl⟩
 refine p_ (S_nilCheck rfl (.tmp rfl)) ?_
 refine fl 2 ?_
 refine s_ (S_store 1 rfl (.tmp rfl) (.tmp rfl) rfl (by first | exact Nat.le_of_ble_eq_true rfl | simp) (by first | rfl | exact ownAV_one _ _ _) (by kernel_rfl)) ?_
 rintro _ _ ⟨rfl, rfl⟩
 refine AL_nil (AC_seq (AC_region ?_))
 refine ac rfl rfl rfl ?_
 refine AL_nil (AC_ret ?_)
 refine ret_tmp ((bc, Ob.cells [px, wc, ownAV (.row b8 k8 cap8) 1 (strsV (o ++ [msgB m])), tc]) :: xo :: (ownSt (Own.row b8 k8 cap8) 9 1 (strsV (o ++ [msgB m])) ++ F)) rfl rfl (Sub.l (List.Sublist.cons _ (List.Sublist.refl _))) (Conv.refl (Sub.l (List.Sublist.cons _ (List.Sublist.refl _))) _) ⟨.row b8 k8 cap8, by rw [hx.2]; exact hx8, by rw [hx.1], by rw [hx.2]⟩ (.inl rfl)
theorem conn_Read_ok (bc : Nat) (px wc tc : AV) (q : Own) (o : List (List UInt8)) (xo : Nat × Ob) (hq : q.ok (strsV o)) (ho : o.length ≤ 1000) (F : St) : ACalls Tryz.prog 24 [.ptr bc 0] ((bc, Ob.cells [px, wc, ownAV q 1 (strsV o), tc]) :: xo :: (ownSt q 9 1 (strsV o) ++ F)) (fun x st' => ∃ q' : Own, q'.ok (strsV o.tail) ∧ x = .tup [.S (o.headD []), .int .i64 (readC o)] ∧ st' = (bc, Ob.cells [px, wc, ownAV q' 1 (strsV o.tail), tc]) :: xo :: (ownSt q' 9 1 (strsV o.tail) ++ F)) := by
 refine co 27 Tryz.func24 ?_
 refine AC_seq (AC_region ?_)
 refine p_ (S_assign rfl (AEv.S _)) ?_
 refine ac rfl rfl rfl ?_
 refine AL_nil ?_
 refine AC_seq ?_
 refine AC_seq (AC_region ?_)
 refine mv rfl rfl rfl rfl ?_
 refine p_ (S_nilCheck rfl (.tmp rfl)) ?_
 refine fl 2 ?_
 refine ld 0 ?_
 refine p_ (by first | exact S_lenM (e := 9) rfl ((AEv.tmp rfl).le (Le_own hq)) (by kernel_rfl) | exact S_len (e := 9) rfl ((AEv.tmp rfl).le (Le_own hq)) (by kernel_rfl)) ?_
 refine p_ (S_eql rfl (.tmp rfl) (AEv.const _)) ?_
 refine AL_nil ?_
 refine AC_cond (.tmp rfl) (fun hb1 => ?_) (fun hb1 => ?_)
 ·try simp only [zA,zO,zN,zM,zP,zQ,zD,zF,gd] at hb1
  obtain rfl : o = [] := by
   cases o with
   | nil => rfl
   | cons a b => exfalso; (try simp only [strsV, List.length_map, List.length_cons] at hb1); omega
  refine AC_seq (AC_region ?_)
  refine p_ (S_assign rfl (AEv.S _)) ?_
  refine ac rfl rfl rfl ?_
  refine AL_nil (AC_ret ?_)
  refine ret_tmps (ts := [2, 3]) ((bc, Ob.cells [px, wc, ownAV q 1 (strsV []), tc]) :: xo :: (ownSt q 9 1 (strsV []) ++ F)) rfl (by decide) rfl (Sub.l (List.Sublist.refl _)) (Conv.refl (Sub.l (List.Sublist.refl _)) _) ⟨q, hq, rfl, rfl⟩ (.inl rfl)
 try simp only [zA,zO,zN,zM,zP,zQ,zD,zF,gd] at hb1
 obtain ⟨v, o, rfl⟩ : ∃ v o', o = v :: o' := by
  cases o with
  | nil => exact absurd rfl hb1
  | cons n l => exact ⟨n, l, rfl⟩
 simp only [List.length_cons] at ho
 have hln : (strsV (v :: o)).length = o.length + 1 := by simp [strsV]
 refine AC_skip ?_
 refine AC_seq (AC_region ?_)
 refine mv rfl rfl rfl rfl ?_
 refine p_ (S_nilCheck rfl (.tmp rfl)) ?_
 refine fl 2 ?_
 refine ld 0 ?_
 refine p_ (S_elem (e := 9) (c := .S v) (i := 0) 1 rfl ((AEv.tmp rfl).le (Le_own hq)) (AEv.const _) (by kernel_rfl) (by kernel_rfl) (by omega) rfl rfl) ?_
 refine p_ (S_loadP rfl (.tmp rfl) rfl (by kernel_rfl)) ?_
 refine as_ rfl rfl rfl rfl ?_
 refine AL_nil (AC_seq (AC_region ?_))
 refine mv rfl rfl rfl rfl ?_
 refine mv rfl rfl rfl rfl ?_
 refine p_ (S_nilCheck rfl (.tmp rfl)) ?_
 refine fl 2 ?_
 refine ld 0 ?_
 refine p_ (S_cut (e := 9) (i := 1) (j := (strsV (v :: o)).length) 1 rfl ((AEv.tmp rfl).le (Le_own hq)) ⟨_, AEv.const _⟩ rfl (by kernel_rfl) (by kernel_rfl) (fun y hy => ((strsV_one (v :: o)) y hy).1) (by rw [hln]; omega) (by rw [hln]; omega)) ?_
 refine s_ (S_call rfl (AEvs.cons ((AEv.tmp rfl).le (Le.of_eq (by rw [List.take_of_length_le (Nat.le_refl _)]; rfl))) AEvs.nil) (ACalls.pre (foot := []) (clone_ok o (by omega)) [_, _] (ownSt q 9 1 (strsV (v :: o)) ++ F))) ?_
 rintro _ _ ⟨_, ⟨p2, hp2, rfl, rfl⟩, rfl⟩
 refine p_ (S_nilCheck rfl (.tmp rfl)) ?_
 refine fl 2 ?_
 refine s_ (S_store 0 rfl (.tmp rfl) (.tmp rfl) rfl (by first | exact Nat.le_of_ble_eq_true rfl | simp) (by first | rfl | exact ownAV_one _ _ _) (by kernel_rfl)) ?_
 rintro _ _ ⟨rfl, rfl⟩
 refine AL_nil (AC_seq (AC_region ?_))
 refine mv rfl rfl rfl rfl ?_
 refine as_ rfl rfl rfl rfl ?_
 refine ac rfl rfl rfl ?_
 refine AL_nil (AC_ret ?_)
 refine ret_tmps (ts := [2, 3]) ((bc, Ob.cells [px, wc, ownAV p2 1 (strsV o), tc]) :: xo :: (ownSt p2 9 1 (strsV o) ++ F)) rfl (by decide) rfl (Sub.l (.cons_cons _ (.cons_cons _ (List.Sublist.append (List.Sublist.refl _) (List.sublist_append_right _ _))))) (Conv.refl (Sub.l (.cons_cons _ (.cons_cons _ (List.Sublist.append (List.Sublist.refl _) (List.sublist_append_right _ _))))) _) ⟨p2, hp2, rfl, rfl⟩ (.inl rfl)
theorem law39_light_ok (m : Msg) : PCalls Tryz.prog 21 [.sl [conAV m]] (.bool (lightT m)) := by
 intro st
 refine co 74 Tryz.func21 ?_
 refine AC_seq (AC_region ?_)
 refine ac rfl rfl rfl ?_
 refine AL_nil ?_
 refine AC_seq ?_
 refine AC_seq (AC_region ?_)
 refine ac rfl rfl rfl ?_
 refine AL_nil ?_
 refine AC_block ?_
 refine AC_loopK (G := Nat) [(0, _)] (fun g => g ≤ 1 ∧ (g = 1 → lightT m = true)) (fun g => [(3, .int .i64 (g : Int))]) (fun g => st) (fun g => 1 - g) (0) (⟨by omega, fun h => absurd h (by decide)⟩) (Sub.l (List.Sublist.refl _)) (.cons rfl (Le.refl _) .nil) (.cons rfl (by first | exact Le.refl _ | exact Le.nils | exact Le.row _ _ _ _ | exact Le.of_eq (by first | rfl | (simp; done) | (push_cast; rfl) | (simp; omega))) .nil) ?_
 rintro i ⟨hi, hlt⟩
 try dsimp only
 simp only [List.cons_append, List.nil_append]
 refine AC_seq ?_
 refine AC_seq (AC_region ?_)
 refine mv rfl rfl rfl rfl ?_
 refine mv rfl rfl rfl rfl ?_
 refine p_ (by first | exact S_lenM (e := 68) rfl (.tmp rfl) (by kernel_rfl) | exact S_len (e := 68) rfl (.tmp rfl) (by kernel_rfl)) ?_
 refine p_ (S_lss rfl (.tmp rfl) (.tmp rfl)) ?_
 refine mv rfl rfl rfl rfl ?_
 refine g_ (fun _ => mA) ?_
 refine g_ (fun _ => S_lss rfl (AEv.cd (.tmp rfl)) (AEv.const _)) ?_
 refine an ?_
 refine AL_nil ?_
 refine AC_cond (.tmp rfl) (fun hb8 => ?_) (fun hb8 => ?_)
 ·try simp only [zA,zO,zN,zM,zP,zQ,zD,zF,gd] at hb8
  obtain rfl : i = 0 := by have h9 := hb8.1; simp at h9; omega
  refine AC_skip ?_
  refine AC_seq ?_
  refine AC_block ?_
  refine AC_seq (AC_region ?_)
  refine mv rfl rfl rfl rfl ?_
  refine mv rfl rfl rfl rfl ?_
  refine p_ (S_elem (e := 68) (c := conAV m) (i := 0) 27 rfl (.tmp rfl) (.tmp rfl) (by kernel_rfl) (by kernel_rfl) (by decide) rfl rfl) ?_
  refine p_ (S_fieldP 3 rfl (.tmp rfl) (by kernel_rfl)) ?_
  refine p_ (S_loadPN (m := 24) rfl (.tmp rfl) (by kernel_rfl) (by first | exact Nat.le_of_ble_eq_true rfl | (simp; omega) | simp)) ?_
  refine s_ (S_alloc [.int .i64 0, .int .i64 0, .int .i64 0, .int .i64 0, .int .i64 0, .int .u64 0, .string ⟨#[]⟩, .slice none 0 0, .slice none 0 0, .int .i64 0, .int .u64 0, .int .i64 0, .int .u64 0, .string ⟨#[]⟩, .slice none 0 0, .slice none 0 0, .slice none 0 0, .int .i64 0, .int .i64 0, .int .i64 0, .int .i64 0, .slice none 0 0, .int .i64 0, .int .i64 0] rfl (by kernel_rfl)) ?_
  rintro _ _ ⟨b4, rfl, rfl⟩
  refine stW 0 ?_
  refine AL_nil ?_
  refine AC_seq ?_
  refine AC_seq (AC_region ?_)
  refine mv rfl rfl rfl rfl ?_
  refine mv rfl rfl rfl rfl ?_
  refine p_ (S_elem (e := 68) (c := conAV m) (i := 0) 27 rfl (.tmp rfl) (.tmp rfl) (by kernel_rfl) (by kernel_rfl) (by decide) rfl rfl) ?_
  refine p_ (S_fieldP 2 rfl (.tmp rfl) (by kernel_rfl)) ?_
  refine p_ (S_loadP rfl (.tmp rfl) rfl (by kernel_rfl)) ?_
  refine p_ (S_lenS (ts := #[]) rfl (.tmp rfl) (by kernel_rfl)) ?_
  refine p_ (S_gtr rfl (.tmp rfl) (AEv.const _)) ?_
  refine mv rfl rfl rfl rfl ?_
  refine g_ (fun _ => fA 9) ?_
  refine g_ (fun _ => S_field 2 rfl (AEv.cd (.tmp rfl)) (by kernel_rfl)) ?_
  refine g_ (fun _ => S_field 2 rfl (AEv.cd (.tmp rfl)) (by kernel_rfl)) ?_
  refine g_ (fun _ => lN 7 0) ?_
  refine g_ (fun _ => S_pcall rfl (AEvs.cons (y := spcAV m.event.pod.spec) (AEv.cd (.tmp rfl)) AEvs.nil) (book_LightSpec_ok m.event.pod.spec)) ?_
  refine g_ (fun _ => S_not rfl (AEv.cd (.tmp rfl))) ?_
  refine p_ (S_or rfl (.tmp rfl) (fun hp28 => (AEv.cd (.tmp rfl)))) ?_
  refine mv rfl rfl rfl rfl ?_
  refine g_ (fun _ => fA 2) ?_
  refine g_ (fun _ => S_field 4 rfl (AEv.cd (.tmp rfl)) (by kernel_rfl)) ?_
  refine g_ (fun _ => lA 0) ?_
  refine g_ (fun _ => S_lenS (ts := #[]) rfl (AEv.cd (.tmp rfl)) (by kernel_rfl)) ?_
  refine g_ (fun _ => S_gtr rfl (AEv.cd (.tmp rfl)) (AEv.const _)) ?_
  refine p_ (S_or rfl (.tmp rfl) (fun hp44 => (AEv.cd (.tmp rfl)))) ?_
  refine mv rfl rfl rfl rfl ?_
  refine g_ (fun _ => fA 2) ?_
  refine g_ (fun _ => S_field 5 rfl (AEv.cd (.tmp rfl)) (by kernel_rfl)) ?_
  refine g_ (fun _ => lA 0) ?_
  refine g_ (fun _ => by first | exact S_lenM (e := 62) rfl (AEv.cd (.tmp rfl)) (by kernel_rfl) | exact S_len (e := 62) rfl (AEv.cd (.tmp rfl)) (by kernel_rfl)) ?_
  refine g_ (fun _ => S_gtr rfl (AEv.cd (.tmp rfl)) (AEv.const _)) ?_
  refine p_ (S_or rfl (.tmp rfl) (fun hp60 => (AEv.cd (.tmp rfl)))) ?_
  refine mv rfl rfl rfl rfl ?_
  refine g_ (fun _ => fA 2) ?_
  refine g_ (fun _ => S_field 6 rfl (AEv.cd (.tmp rfl)) (by kernel_rfl)) ?_
  refine g_ (fun _ => lA 0) ?_
  refine g_ (fun _ => by first | exact S_lenM (e := 161) rfl (AEv.cd (.tmp rfl)) (by kernel_rfl) | exact S_len (e := 161) rfl (AEv.cd (.tmp rfl)) (by kernel_rfl)) ?_
  refine g_ (fun _ => S_gtr rfl (AEv.cd (.tmp rfl)) (AEv.const _)) ?_
  refine p_ (S_or rfl (.tmp rfl) (fun hp76 => (AEv.cd (.tmp rfl)))) ?_
  refine AL_nil ?_
  refine AC_cond (.tmp rfl) (fun hb77 => ?_) (fun hb77 => ?_)
  ·try simp only [zA,zO,zN,zM,zP,zQ,zD,zF,gd] at hb77
   have hx : lightT m = false := by
    cases h9 : lightT m with
    | false => rfl
    | true =>
     exfalso
     simp only [lightT, Bool.and_eq_true, decide_eq_true_eq] at h9
     obtain ⟨⟨⟨⟨h1, h2⟩, h3⟩, h4⟩, h5⟩ := h9
     simp [h1] at hb77
     omega
   refine AC_seq (AC_region ?_)
   refine ac rfl rfl rfl ?_
   refine AL_nil (AC_ret ?_)
   refine ret_tmp st rfl rfl (Sub.l (List.sublist_cons_self _ _)) (Conv.refl (Sub.l (List.sublist_cons_self _ _)) _) ⟨by rw [hx] <;> rfl, rfl⟩ (.inl rfl)
  try simp only [zA,zO,zN,zM,zP,zQ,zD,zF,gd] at hb77
  have hh : lightS m.event.pod.spec = true ∧ (m.reply.data.length : Int) ≤ 300 ∧ (m.reply.pods.length : Int) ≤ 3 ∧ (m.reply.use.length : Int) ≤ 20 := by
   simp at hb77
   refine ⟨?_, ?_, ?_, ?_⟩ <;> first | omega | simp_all
  refine AC_skip ?_
  refine AC_seq (AC_region ?_)
  refine ac rfl rfl rfl ?_
  refine AL_nil ?_
  refine AC_block ?_
  refine AC_loopK (G := Nat) [(0, _), (3, _), (4, _)] (fun g => g ≤ m.reply.pods.length ∧ ∀ j (h : j < m.reply.pods.length), j < g → lightS (m.reply.pods[j]'h).spec = true) (fun g => [(5, .int .i64 (g : Int))]) (fun g => (b4, .cells (msgL m)) :: st) (fun g => m.reply.pods.length - g) (0) (⟨Nat.zero_le _, fun j _ h => absurd h (Nat.not_lt_zero _)⟩) (Sub.l (List.Sublist.refl _)) (.cons rfl (Le.refl _) (.cons rfl (Le.refl _) (.cons rfl (Le.refl _) .nil))) (.cons rfl (by first | exact Le.refl _ | exact Le.nils | exact Le.row _ _ _ _ | exact Le.of_eq (by first | rfl | (simp; done) | (push_cast; rfl) | (simp; omega))) .nil) ?_
  rintro j ⟨hj, hall⟩
  try dsimp only
  simp only [List.cons_append, List.nil_append]
  refine AC_seq ?_
  refine AC_seq (AC_region ?_)
  refine mv rfl rfl rfl rfl ?_
  refine fl 2 ?_
  refine fl 5 ?_
  refine ld 0 ?_
  refine p_ (by first | exact S_lenM (e := 62) rfl (.tmp rfl) (by kernel_rfl) | exact S_len (e := 62) rfl (.tmp rfl) (by kernel_rfl)) ?_
  refine p_ (S_lss rfl (.tmp rfl) (.tmp rfl)) ?_
  refine AL_nil ?_
  refine AC_cond (.tmp rfl) (fun hb78 => ?_) (fun hb78 => ?_)
  ·try simp only [zA,zO,zN,zM,zP,zQ,zD,zF,gd] at hb78
   have hjl : j < m.reply.pods.length := by first | omega | (have h9 := hb78; simp [podsV] at h9; omega)
   refine AC_skip ?_
   refine AC_seq ?_
   refine AC_block ?_
   refine AC_seq (AC_region ?_)
   refine fl 2 ?_
   refine fl 5 ?_
   refine ld 0 ?_
   refine mv rfl rfl rfl rfl ?_
   refine p_ (S_elemN (e := 62) 13 rfl (.tmp rfl) (.tmp rfl) (by kernel_rfl) (by kernel_rfl) (by omega) (fun _ => rfl)) ?_
   refine p_ (S_fieldP 2 rfl (.tmp rfl) (by kernel_rfl)) ?_
   refine p_ (S_loadPN (m := 7) rfl (.tmp rfl) (by kernel_rfl) (by first | exact Nat.le_of_ble_eq_true rfl | (simp; omega) | simp)) ?_
   refine p_ (S_pcall rfl (AEvs.cons (y := spcAV (m.reply.pods[j]'hjl).spec) (.tmp rfl) AEvs.nil) (book_LightSpec_ok (m.reply.pods[j]'hjl).spec)) ?_
   refine p_ (S_not rfl (.tmp rfl)) ?_
   refine AL_nil ?_
   refine AC_cond (.tmp rfl) (fun hb79 => ?_) (fun hb79 => ?_)
   ·try simp only [zA,zO,zN,zM,zP,zQ,zD,zF,gd] at hb79
    have hx : lightT m = false := by
     cases h9 : lightT m with
     | false => rfl
     | true =>
      exfalso
      simp only [lightT, Bool.and_eq_true, List.all_eq_true] at h9
      have h1 := h9.2 _ (List.getElem_mem hjl)
      rw [h1] at hb79; simp at hb79
    refine AC_seq (AC_region ?_)
    refine ac rfl rfl rfl ?_
    refine AL_nil (AC_ret ?_)
    refine ret_tmp st rfl rfl (Sub.l (List.sublist_cons_self _ _)) (Conv.refl (Sub.l (List.sublist_cons_self _ _)) _) ⟨by rw [hx] <;> rfl, rfl⟩ (.inl rfl)
   try simp only [zA,zO,zN,zM,zP,zQ,zD,zF,gd] at hb79
   have hne : lightS (m.reply.pods[j]'hjl).spec = true := by simpa using hb79
   refine AC_skip ?_
   refine AC_region ?_
   refine mv rfl rfl rfl rfl ?_
   refine p_ (S_addI rfl (.tmp rfl) (AEv.const _) (by omega) (by omega)) ?_
   refine as_ rfl rfl rfl rfl ?_
   refine AL_nil ?_
   refine ⟨j + 1, ⟨by omega, fun k h1 h => ?_⟩, by omega, (Sub.l (List.Sublist.refl _)), (.cons rfl (by first | exact Le.refl _ | exact Le.nils | exact Le.row _ _ _ _ | exact Le.of_eq (by first | rfl | (simp; done) | (push_cast; rfl) | (simp; omega))) .nil), (.cons rfl (Le.refl _) (.cons rfl (Le.refl _) (.cons rfl (Le.refl _) .nil)))⟩
   rcases Nat.lt_or_ge k j with h' | h'
   ·exact hall k h1 h'
   ·have : k = j := by omega
    subst this
    exact hne
  try simp only [zA,zO,zN,zM,zP,zQ,zD,zF,gd] at hb78
  have hx : lightT m = true := by
   have hp : m.reply.pods.all (fun p => lightS p.spec) = true := List.all_eq_true.2 fun x hx => by
    obtain ⟨k, hk, rfl⟩ := List.getElem_of_mem hx
    exact hall k hk (by first | omega | (have h9 := hb78; simp [podsV] at h9; omega))
   obtain ⟨h1, h2, h3, h4⟩ := hh
   unfold lightT
   rw [hp, h1, decide_eq_true h2, decide_eq_true h3, decide_eq_true h4]; rfl
  refine AC_exit ?_
  refine AC_region ?_
  refine mv rfl rfl rfl rfl ?_
  refine p_ (S_addI rfl (.tmp rfl) (AEv.const _) (by omega) (by omega)) ?_
  refine as_ rfl rfl rfl rfl ?_
  refine AL_nil ?_
  exact ⟨0 + 1, ⟨by omega, fun _ => hx⟩, by omega, (Sub.l (List.sublist_cons_self _ _)), (.cons rfl (by first | exact Le.refl _ | exact Le.nils | exact Le.row _ _ _ _ | exact Le.of_eq (by first | rfl | (simp; done) | (push_cast; rfl) | (simp; omega))) .nil), (.cons rfl (Le.refl _) .nil)⟩
 try simp only [zA,zO,zN,zM,zP,zQ,zD,zF,gd] at hb8
 obtain rfl : i = 1 := by simp at hb8; omega
 have hx := hlt rfl
 refine AC_exit ?_
 refine AC_seq (AC_region ?_)
 refine ac rfl rfl rfl ?_
 refine AL_nil (AC_ret ?_)
 refine ret_tmp st rfl rfl (Sub.l (List.Sublist.refl _)) (Conv.refl (Sub.l (List.Sublist.refl _)) _) ⟨by rw [hx] <;> rfl, rfl⟩ (.inl rfl)
end Go.Proofs.YtdnjeianoioieaaGreatDoor

set_option maxRecDepth 100000
namespace Go.Proofs.YtdnjeianoioieaaGreatDoor
open Go.AL Go.NumSpec
set_option maxHeartbeats 2000000 in
theorem law_ConnTells (l : List Msg) (hl : ∀ m ∈ l, MsgU m ∧ MsgB m) (noise : List UInt8) : GCalls Tryz.prog tabs 5 [.sl (l.map msgAV), .S noise] (.bool true) := by
 intro st hG
 refine co 126 Tryz.func5 ?_
 refine AC_seq (AC_region ?_)
 refine ac rfl rfl rfl ?_
 refine AL_nil ?_
 refine AC_seq ?_
 refine AC_seq (AC_region ?_)
 refine p_ (S_gcall rfl AEvs.nil ((law39_works_ok) _ (fun p hp => by repeat (first | exact hG p hp | refine List.mem_cons_of_mem _ ?_ | refine List.mem_append_right _ ?_)))) ?_
 refine p_ (S_not rfl (.tmp rfl)) ?_
 refine AL_nil ?_
 refine AC_cond (.tmp rfl) (fun hb1 => ?_) (fun hb1 => ?_)
 ·simp at hb1; done
 try simp only [zA,zO,zN,zM,zP,zQ,zD,zF,gd] at hb1
 refine AC_skip ?_
 refine AC_seq (AC_region ?_)
 refine s_ (S_call rfl AEvs.nil (conn_New_ok st)) ?_
 rintro _ _ ⟨_, ⟨bc, bx, rfl, rfl⟩, rfl⟩
 refine as_ rfl rfl rfl rfl ?_
 refine AL_nil ?_
 refine AC_seq ?_
 refine AC_seq (AC_region ?_)
 refine mv rfl rfl rfl rfl ?_
 refine p_ (S_eqlNil rfl (.tmp rfl) (AEv.const _) (by kernel_rfl)) ?_
 refine mv rfl rfl rfl rfl ?_
 refine g_ (fun _ => mA) ?_
 refine g_ (fun _ => by first | exact S_lenM (e := 66) rfl (AEv.cd (.tmp rfl)) (by kernel_rfl) | exact S_len (e := 66) rfl (AEv.cd (.tmp rfl)) (by kernel_rfl)) ?_
 refine g_ (fun _ => S_gtr rfl (AEv.cd (.tmp rfl)) (AEv.const _)) ?_
 refine p_ (S_or rfl (.tmp rfl) (fun hp11 => (AEv.cd (.tmp rfl)))) ?_
 refine mv rfl rfl rfl rfl ?_
 refine g_ (fun _ => mA) ?_
 refine g_ (fun _ => S_lenS (ts := #[]) rfl (AEv.cd (.tmp rfl)) (by kernel_rfl)) ?_
 refine g_ (fun _ => S_gtr rfl (AEv.cd (.tmp rfl)) (AEv.const _)) ?_
 refine p_ (S_or rfl (.tmp rfl) (fun hp21 => (AEv.cd (.tmp rfl)))) ?_
 refine AL_nil ?_
 refine AC_cond (.tmp rfl) (fun hb22 => ?_) (fun hb22 => ?_)
 ·try simp only [zA,zO,zN,zM,zP,zQ,zD,zF,gd] at hb22
  refine AC_seq (AC_region ?_)
  refine mv rfl rfl rfl rfl ?_
  refine p_ (S_neqNil rfl (.tmp rfl) (AEv.const _) (by kernel_rfl)) ?_
  refine as_ rfl rfl rfl rfl ?_
  refine AL_nil (AC_ret ?_)
  refine ret_tmp st rfl rfl (Sub.l (.cons _ (.cons _ (List.sublist_append_right _ _)))) (Conv.refl (Sub.l (.cons _ (.cons _ (List.sublist_append_right _ _)))) _) ⟨rfl, rfl⟩ (.inl rfl)
 try simp only [zA,zO,zN,zM,zP,zQ,zD,zF,gd] at hb22
 have hl60 : l.length ≤ 60 := by have h9 := hb22.1; first | omega | (simp at h9; omega)
 have hno : noise.length ≤ 3000 := by have h9 := hb22.2; omega
 refine AC_skip ?_
 refine AC_seq (AC_region ?_)
 refine mv rfl rfl rfl rfl ?_
 refine mv rfl rfl rfl rfl ?_
 refine s_ (S_call rfl (AEvs.cons (.tmp rfl) (AEvs.cons (.tmp rfl) AEvs.nil)) (ACalls.preQ (pre := []) (F := st) (conn_Feed_ok bc bx .nil [] [] false _ 0 rfl noise (by decide) (by omega) (by decide) _))) ?_
 rintro _ _ ⟨_, ⟨p, hp, rfl, rfl⟩, rfl⟩
 generalize feedC [] false [] noise = R at *
 refine AL_nil (AC_seq (AC_region ?_))
 refine ac rfl rfl rfl ?_
 refine AL_nil ?_
 refine AC_seq ?_
 refine AC_seq (AC_region ?_)
 refine mv rfl rfl rfl rfl ?_
 refine p_ (by first | exact S_lenM (e := 66) rfl (.tmp rfl) (by kernel_rfl) | exact S_len (e := 66) rfl (.tmp rfl) (by kernel_rfl)) ?_
 refine p_ (S_move rfl (AEv.const _)) ?_
 refine AL_nil ?_
 refine AC_block ?_
 refine AC_loopK (G := Nat × List (List UInt8) × Own × Own) [(0, _), (5, _), (37, _)] (fun g => g.1 ≤ l.length ∧ g.2.1.length ≤ 32 ∧ g.2.2.1.ok (strsV g.2.1) ∧ g.2.2.2.ok (strsV g.2.1)) (fun g => [(6, ownAV g.2.2.2 1 (strsV g.2.1)), (38, .int .i64 (g.1 : Int))]) (fun g => (bc, Ob.cells [.ptr bx 0, ownAV p 1 (strsV R.2.2.1), ownAV g.2.2.1 1 (strsV g.2.1), .int .i64 0]) :: (bx, Ob.cells [.S R.1, .bool R.2.1]) :: (ownSt g.2.2.1 9 1 (strsV g.2.1) ++ (ownSt g.2.2.2 9 1 (strsV g.2.1) ++ (ownSt p 9 1 (strsV R.2.2.1) ++ st)))) (fun g => l.length - g.1) ((0, [], .nil, .nil)) (⟨Nat.zero_le _, by simp, rfl, rfl⟩) (Sub.l (List.Sublist.refl _)) (.cons rfl (Le.refl _) (.cons rfl (Le.refl _) (.cons rfl (Le.refl _) .nil))) (.cons rfl (by first | exact Le.refl _ | exact Le.nils | exact Le.row _ _ _ _ | exact Le.of_eq (by first | rfl | (simp; done) | (push_cast; rfl) | (simp; omega))) (.cons rfl (by first | exact Le.refl _ | exact Le.nils | exact Le.row _ _ _ _ | exact Le.of_eq (by first | rfl | (simp; done) | (push_cast; rfl) | (simp; omega))) .nil)) ?_
 rintro ⟨i, o, q, r⟩ ⟨hi, ho, hq, hr⟩
 try dsimp only
 simp only [List.cons_append, List.nil_append]
 dsimp only at hi ho hq hr
 have hol : (strsV o).length = o.length := List.length_map ..
 refine AC_seq (AC_region ?_)
 refine p_ (S_lss rfl (.tmp rfl) (.tmp rfl)) ?_
 refine AL_nil ?_
 refine AC_seq ?_
 refine AC_cond (.tmp rfl) (fun hb23 => ?_) (fun hb23 => ?_)
 ·try simp only [zA,zO,zN,zM,zP,zQ,zD,zF,gd] at hb23
  have hil : i < l.length := by first | omega | (have h9 := hb23; simp at h9; omega)
  have hu := (hl _ (List.getElem_mem hil)).1
  have hb9 := (hl _ (List.getElem_mem hil)).2
  refine AC_skip ?_
  refine AC_seq ?_
  refine AC_block ?_
  refine AC_seq (AC_region ?_)
  refine mv rfl rfl rfl rfl ?_
  refine as_ rfl rfl rfl rfl ?_
  refine AL_nil ?_
  refine AC_seq ?_
  refine AC_seq (AC_region ?_)
  refine mv rfl rfl rfl rfl ?_
  refine mv rfl rfl rfl rfl ?_
  refine p_ (S_elemN (e := 66) 24 rfl (.tmp rfl) (.tmp rfl) (by kernel_rfl) (by kernel_rfl) (by omega) (fun _ => rfl)) ?_
  refine p_ (S_loadPN (m := 24) rfl (.tmp rfl) (by kernel_rfl) (by first | exact Nat.le_of_ble_eq_true rfl | (simp; omega) | simp)) ?_
  refine p_ (S_build (t := 68) (pl := [(0, 1), (1, 1), (2, 1), (3, 24)]) (zs := [.int .i64 0, .int .i64 0, .string ⟨#[]⟩, .int .i64 0, .int .i64 0, .int .i64 0, .int .i64 0, .int .i64 0, .int .u64 0, .string ⟨#[]⟩, .slice none 0 0, .slice none 0 0, .int .i64 0, .int .u64 0, .int .i64 0, .int .u64 0, .string ⟨#[]⟩, .slice none 0 0, .slice none 0 0, .slice none 0 0, .int .i64 0, .int .i64 0, .int .i64 0, .int .i64 0, .slice none 0 0, .int .i64 0, .int .i64 0]) rfl (AEvs.cons (.tmp rfl) AEvs.nil) (by kernel_rfl) rfl) ?_
  refine p_ (S_buildSlice (e := 68) 27 rfl (AEvs.cons (.tmp rfl) AEvs.nil) rfl (by kernel_rfl) (by kernel_rfl) (by intro y hy; simp only [List.mem_cons, List.not_mem_nil, or_false] at hy; rcases hy with rfl <;> exact ⟨rfl, rfl⟩) (by decide) (by decide) (by decide)) ?_
  refine p_ (S_pcall rfl (AEvs.cons (y := .sl [conAV (l[i]'hil)]) (.tmp rfl) AEvs.nil) (law39_light_ok (l[i]'hil))) ?_
  refine p_ (S_not rfl (.tmp rfl)) ?_
  refine AL_nil ?_
  refine AC_cond (.tmp rfl) (fun hb24 => ?_) (fun hb24 => ?_)
  ·try simp only [zA,zO,zN,zM,zP,zQ,zD,zF,gd] at hb24
   refine AC_seq (AC_region ?_)
   refine ac rfl rfl rfl ?_
   refine AL_nil (AC_ret ?_)
   refine ret_tmp st rfl rfl (Sub.l (.cons _ (.cons _ ((List.sublist_append_right _ _).trans ((List.sublist_append_right _ _).trans (List.sublist_append_right _ _)))))) (Conv.refl (Sub.l (.cons _ (.cons _ ((List.sublist_append_right _ _).trans ((List.sublist_append_right _ _).trans (List.sublist_append_right _ _)))))) _) ⟨rfl, rfl⟩ (.inl rfl)
  try simp only [zA,zO,zN,zM,zP,zQ,zD,zF,gd] at hb24
  have hsm := lightT_short (by simpa using hb24) hb9
  refine AC_skip ?_
  refine AC_seq (AC_region ?_)
  refine mv rfl rfl rfl rfl ?_
  refine mv rfl rfl rfl rfl ?_
  refine p_ (S_elemN (e := 66) 24 rfl (.tmp rfl) (.tmp rfl) (by kernel_rfl) (by kernel_rfl) (by omega) (fun _ => rfl)) ?_
  refine p_ (S_loadPN (m := 24) rfl (.tmp rfl) (by kernel_rfl) (by first | exact Nat.le_of_ble_eq_true rfl | (simp; omega) | simp)) ?_
  refine p_ (S_gcall rfl (AEvs.cons (y := msgAV (l[i]'hil)) (.tmp rfl) AEvs.nil) ((tell_Bytes_ok (l[i]'hil) hsm hu) _ (fun p hp => by repeat (first | exact hG p hp | refine List.mem_cons_of_mem _ ?_ | refine List.mem_append_right _ ?_)))) ?_
  refine mv rfl rfl rfl rfl ?_
  refine ex 0 ?_
  refine ex 1 ?_
  refine as_ rfl rfl rfl rfl ?_
  refine as_ rfl rfl rfl rfl ?_
  refine AL_nil (AC_seq (AC_region ?_))
  refine mv rfl rfl rfl rfl ?_
  refine mv rfl rfl rfl rfl ?_
  refine mv rfl rfl rfl rfl ?_
  refine p_ (S_elemN (e := 66) 24 rfl (.tmp rfl) (.tmp rfl) (by kernel_rfl) (by kernel_rfl) (by omega) (fun _ => rfl)) ?_
  refine p_ (S_loadPN (m := 24) rfl (.tmp rfl) (by kernel_rfl) (by first | exact Nat.le_of_ble_eq_true rfl | (simp; omega) | simp)) ?_
  refine s_ (S_call rfl (AEvs.cons (.tmp rfl) (AEvs.cons (y := msgAV (l[i]'hil)) (.tmp rfl) AEvs.nil)) (conn_Tell_ok bc _ _ _ q o _ hq (by omega) (l[i]'hil) hsm hu _ (fun r hr => List.mem_append_right _ (List.mem_append_right _ (hG r hr))))) ?_
  rintro _ _ ⟨q2, hq2, rfl, rfl⟩
  refine as_ rfl rfl rfl rfl ?_
  refine AL_nil ?_
  refine AC_seq ?_
  refine AC_seq (AC_region ?_)
  refine mv rfl rfl rfl rfl ?_
  refine p_ (S_neq rfl (.tmp rfl) (AEv.const _)) ?_
  refine mv rfl rfl rfl rfl ?_
  refine g_ (fun _ => mA) ?_
  refine g_ (fun _ => mA) ?_
  refine g_ (fun _ => S_neq rfl (AEv.cd (.tmp rfl)) (AEv.cd (.tmp rfl))) ?_
  refine an ?_
  refine mv rfl rfl rfl rfl ?_
  refine g_ (fun _ => mA) ?_
  refine g_ (fun _ => S_eql rfl (AEv.cd (.tmp rfl)) (AEv.const _)) ?_
  refine g_ (fun _ => S_move rfl (AEv.cd (.tmp rfl))) ?_
  refine AL_gg rfl rfl (.tmp rfl) rfl (fun hg44 hg45 hg46 => S_move rfl (.tmp rfl)) ?_
  refine AL_gg rfl rfl (.tmp rfl) rfl (fun hg47 hg48 hg49 => S_eql rfl (AEv.cd (.tmp rfl)) (AEv.const _)) ?_
  refine AL_gg rfl rfl (.tmp rfl) rfl (fun hg50 hg51 hg52 => S_move rfl (.tmp rfl)) ?_
  refine AL_gg rfl rfl (.tmp rfl) rfl (fun hg53 hg54 hg55 => by first | exact S_lenM (e := 9) rfl ((AEv.cd (.tmp rfl)).le (Le_own hr)) (by kernel_rfl) | exact S_len (e := 9) rfl ((AEv.cd (.tmp rfl)).le (Le_own hr)) (by kernel_rfl)) ?_
  refine AL_gg rfl rfl (.tmp rfl) rfl (fun hg56 hg57 hg58 => S_lss rfl (AEv.cd (.tmp rfl)) (AEv.const _)) ?_
  refine AL_gg rfl rfl (.tmp rfl) rfl (fun hg59 hg60 hg61 => S_neB rfl (AEv.cd (.tmp rfl)) (AEv.cd (.tmp rfl)) (by kernel_rfl)) ?_
  refine g_ (fun _ => S_and rfl (AEv.cd (.tmp rfl)) (fun hp65 => (AEv.cd (.tmp rfl)))) ?_
  refine p_ (S_or rfl (.tmp rfl) (fun hp66 => (AEv.cd (.tmp rfl)))) ?_
  refine AL_nil ?_
  refine AC_cond (.tmp rfl) (fun hb67 => ?_) (fun hb67 => ?_)
  ·exfalso; (try simp only [zA,zO,zN,zM,zP,zQ,zD,zF,gd] at hb67); exact tell_law hb67
  try simp only [zA,zO,zN,zM,zP,zQ,zD,zF,gd] at hb67
  refine AC_skip ?_
  refine AC_seq (AC_region ?_)
  refine mv rfl rfl rfl rfl ?_
  refine p_ (S_eql rfl (.tmp rfl) (AEv.const _)) ?_
  refine AL_nil ?_
  refine AC_cond (.tmp rfl) (fun hb68 => ?_) (fun hb68 => ?_)
  ·try simp only [zA,zO,zN,zM,zP,zQ,zD,zF,gd] at hb68
   obtain ⟨hk1, hk2, hk3⟩ := tell_zero hb68
   rw [hk2] at hq2 ⊢
   rw [if_pos hk1]
   refine AC_region ?_
   refine mv rfl rfl rfl rfl ?_
   refine mv rfl rfl rfl rfl ?_
   refine p_ (S_buildSlice (e := 9) 1 rfl (AEvs.cons (.tmp rfl) AEvs.nil) rfl (by kernel_rfl) (by kernel_rfl) (by intro y hy; simp only [List.mem_cons, List.not_mem_nil, or_false] at hy; rcases hy with rfl <;> exact ⟨rfl, rfl⟩) (by decide) (by decide) (by decide)) ?_
   refine s_ (S_appendM (f := (fun y => AV.S y)) (l := o) (l2 := [msgB (l[i]'hil)]) (e := 9) (size := 1) (bytes := 16) (p := r) ([_, _] ++ ownSt q2 9 1 (strsV (o ++ [msgB (l[i]'hil)]))) ((ownSt p 9 1 (strsV R.2.2.1) ++ st)) rfl (.tmp rfl) (.tmp rfl) (List.append_assoc [_, _] _ _).symm hr (by kernel_rfl) (by simp) (fun _ => ⟨rfl, rfl⟩) (by simp only [List.length_singleton]; omega) (by simp only [List.length_singleton]; omega)) ?_
   rintro _ _ ⟨b8, k8, cap8, hx8, rfl, rfl⟩
   refine as_ rfl rfl rfl rfl ?_
   refine AL_nil ?_
   refine AC_region ?_
   refine p_ (S_addI rfl (.tmp rfl) (AEv.const _) (by omega) (by omega)) ?_
   refine mv rfl rfl rfl rfl ?_
   refine AL_nil ?_
   refine ⟨(i + 1, o ++ [msgB (l[i]'hil)], q2, .row b8 k8 cap8), ⟨by dsimp only; omega, by dsimp only; rw [List.length_append, List.length_singleton]; omega, hq2, hx8⟩, by dsimp only; omega, (Sub.l (by dsimp only; rw [List.append_assoc]; exact List.Sublist.refl _)), (.cons rfl (by first | exact Le.refl _ | exact Le.nils | exact Le.row _ _ _ _ | exact Le.of_eq (by first | rfl | (simp; done) | (push_cast; rfl) | (simp; omega))) (.cons rfl (by first | exact Le.refl _ | exact Le.nils | exact Le.row _ _ _ _ | exact Le.of_eq (by first | rfl | (simp; done) | (push_cast; rfl) | (simp; omega))) .nil)), (.cons rfl (Le.refl _) (.cons rfl (Le.refl _) (.cons rfl (Le.refl _) .nil)))⟩
  try simp only [zA,zO,zN,zM,zP,zQ,zD,zF,gd] at hb68
  have hk2 := tell_keep hb68
  rw [hk2] at hq2 ⊢
  refine AC_skip ?_
  refine AC_region ?_
  refine p_ (S_addI rfl (.tmp rfl) (AEv.const _) (by omega) (by omega)) ?_
  refine mv rfl rfl rfl rfl ?_
  refine AL_nil ?_
  exact ⟨(i + 1, o, q2, r), ⟨by dsimp only; omega, ho, hq2, hr⟩, by dsimp only; omega, (Sub.l (List.Sublist.refl _)), (.cons rfl (by first | exact Le.refl _ | exact Le.nils | exact Le.row _ _ _ _ | exact Le.of_eq (by first | rfl | (simp; done) | (push_cast; rfl) | (simp; omega))) (.cons rfl (by first | exact Le.refl _ | exact Le.nils | exact Le.row _ _ _ _ | exact Le.of_eq (by first | rfl | (simp; done) | (push_cast; rfl) | (simp; omega))) .nil)), (.cons rfl (Le.refl _) (.cons rfl (Le.refl _) (.cons rfl (Le.refl _) .nil)))⟩
 try simp only [zA,zO,zN,zM,zP,zQ,zD,zF,gd] at hb23
 refine AC_exit ?_
 refine AC_seq ?_
 refine AC_seq (AC_region ?_)
 refine mv rfl rfl rfl rfl ?_
 refine p_ (by first | exact S_lenM (e := 9) rfl ((AEv.tmp rfl).le (Le_own hr)) (by kernel_rfl) | exact S_len (e := 9) rfl ((AEv.tmp rfl).le (Le_own hr)) (by kernel_rfl)) ?_
 refine p_ (S_move rfl (AEv.const _)) ?_
 refine AL_nil ?_
 refine AC_block ?_
 refine AC_loopK (G := Nat × Own) [(5, _), (6, _), (90, _)] (fun g => g.1 ≤ o.length ∧ g.2.ok (strsV (o.drop g.1))) (fun g => [(91, .int .i64 (g.1 : Int))]) (fun g => (bc, Ob.cells [.ptr bx 0, ownAV p 1 (strsV R.2.2.1), ownAV g.2 1 (strsV (o.drop g.1)), .int .i64 0]) :: (bx, Ob.cells [.S R.1, .bool R.2.1]) :: (ownSt g.2 9 1 (strsV (o.drop g.1)) ++ (ownSt r 9 1 (strsV o) ++ (ownSt p 9 1 (strsV R.2.2.1) ++ st)))) (fun g => o.length - g.1) ((0, q)) (⟨Nat.zero_le _, hq⟩) (by simp only [List.drop_zero]; exact (Sub.l (List.Sublist.refl _))) (.cons rfl (Le.refl _) (.cons rfl (Le.refl _) (.cons rfl (Le.refl _) .nil))) (.cons rfl (by first | exact Le.refl _ | exact Le.nils | exact Le.row _ _ _ _ | exact Le.of_eq (by first | rfl | (simp; done) | (push_cast; rfl) | (simp; omega))) .nil) ?_
 rintro ⟨j, q⟩ ⟨hj, hq⟩
 try dsimp only
 simp only [List.cons_append, List.nil_append]
 dsimp only at hj hq
 refine AC_seq (AC_region ?_)
 refine p_ (S_lss rfl (.tmp rfl) (.tmp rfl)) ?_
 refine AL_nil ?_
 refine AC_seq ?_
 refine AC_cond (.tmp rfl) (fun hb71 => ?_) (fun hb71 => ?_)
 ·try simp only [zA,zO,zN,zM,zP,zQ,zD,zF,gd] at hb71
  have hjl : j < o.length := by first | omega | (have h9 := hb71; simp [strsV] at h9; omega)
  have hdr : o.drop j = (o[j]'hjl) :: o.drop (j + 1) := List.drop_eq_getElem_cons hjl
  rw [hdr] at hq ⊢
  refine AC_skip ?_
  refine AC_seq ?_
  refine AC_block ?_
  refine AC_seq (AC_region ?_)
  refine mv rfl rfl rfl rfl ?_
  refine as_ rfl rfl rfl rfl ?_
  refine AL_nil (AC_seq (AC_region ?_))
  refine mv rfl rfl rfl rfl ?_
  refine s_ (S_call rfl (AEvs.cons (.tmp rfl) AEvs.nil) (conn_Read_ok bc _ _ _ q ((o[j]'hjl) :: o.drop (j + 1)) _ hq (by simp only [List.length_cons, List.length_drop]; omega) _)) ?_
  rintro _ _ ⟨q2, hq2, rfl, rfl⟩
  refine mv rfl rfl rfl rfl ?_
  refine ex 0 ?_
  refine ex 1 ?_
  refine as_ rfl rfl rfl rfl ?_
  refine as_ rfl rfl rfl rfl ?_
  refine AL_nil (AC_seq (AC_region ?_))
  refine mv rfl rfl rfl rfl ?_
  refine mv rfl rfl rfl rfl ?_
  refine mv rfl rfl rfl rfl ?_
  refine p_ (S_elemN (e := 9) 1 rfl ((AEv.tmp rfl).le (Le_own hr)) (.tmp rfl) (by kernel_rfl) (by kernel_rfl) (by omega) (fun _ => rfl)) ?_
  refine p_ (S_loadP rfl (.tmp rfl) rfl (by kernel_rfl)) ?_
  refine p_ (S_neS rfl (.tmp rfl) (.tmp rfl)) ?_
  refine mv rfl rfl rfl rfl ?_
  refine g_ (fun _ => mA) ?_
  refine g_ (fun _ => S_neq rfl (AEv.cd (.tmp rfl)) (AEv.const _)) ?_
  refine p_ (S_or rfl (.tmp rfl) (fun hp78 => (AEv.cd (.tmp rfl)))) ?_
  refine AL_nil ?_
  refine AC_cond (.tmp rfl) (fun hb79 => ?_) (fun hb79 => ?_)
  ·exfalso; revert hb79; simp [readC, hjl]
  try simp only [zA,zO,zN,zM,zP,zQ,zD,zF,gd] at hb79
  refine AC_skip ?_
  refine AC_region ?_
  refine p_ (S_addI rfl (.tmp rfl) (AEv.const _) (by omega) (by omega)) ?_
  refine mv rfl rfl rfl rfl ?_
  refine AL_nil ?_
  exact ⟨(j + 1, q2), ⟨by dsimp only; omega, hq2⟩, by dsimp only; omega, (Sub.l (List.Sublist.refl _)), (.cons rfl (by first | exact Le.refl _ | exact Le.nils | exact Le.row _ _ _ _ | exact Le.of_eq (by first | rfl | (simp; done) | (push_cast; rfl) | (simp; omega))) .nil), (.cons rfl (Le.refl _) (.cons rfl (Le.refl _) (.cons rfl (Le.refl _) .nil)))⟩
 try simp only [zA,zO,zN,zM,zP,zQ,zD,zF,gd] at hb71
 obtain rfl : j = o.length := by first | omega | (have h9 := hb71; simp [strsV] at h9; omega)
 rw [List.drop_length] at hq ⊢
 refine AC_exit ?_
 refine AC_seq (AC_region ?_)
 refine mv rfl rfl rfl rfl ?_
 refine s_ (S_call rfl (AEvs.cons (.tmp rfl) AEvs.nil) (conn_Read_ok bc _ _ _ q [] _ hq (by simp) _)) ?_
 rintro _ _ ⟨q3, hq3, rfl, rfl⟩
 refine mv rfl rfl rfl rfl ?_
 refine ex 0 ?_
 refine ex 1 ?_
 refine as_ rfl rfl rfl rfl ?_
 refine as_ rfl rfl rfl rfl ?_
 refine AL_nil (AC_seq (AC_region ?_))
 refine mv rfl rfl rfl rfl ?_
 refine p_ (S_eqS rfl (.tmp rfl) (AEv.S _)) ?_
 refine mv rfl rfl rfl rfl ?_
 refine g_ (fun _ => mA) ?_
 refine g_ (fun _ => S_eql rfl (AEv.cd (.tmp rfl)) (AEv.const _)) ?_
 refine an ?_
 refine mv rfl rfl rfl rfl ?_
 refine g_ (fun _ => mA) ?_
 refine g_ (fun _ => S_keep (S_call rfl (AEvs.cons (AEv.cd (.tmp rfl)) AEvs.nil) (conn_Room_ok bc _ _ _ q3 [] hq3 (by simp) _)) (by rintro _ _ ⟨rfl, rfl⟩; exact ⟨rfl, rfl⟩)) ?_
 refine g_ (fun _ => S_eql rfl (AEv.cd (.tmp rfl)) (AEv.const _)) ?_
 refine an ?_
 refine as_ rfl rfl rfl rfl ?_
 refine AL_nil (AC_ret ?_)
 refine ret_tmp st rfl rfl (Sub.l (.cons _ (.cons _ ((List.sublist_append_right _ _).trans ((List.sublist_append_right _ _).trans (List.sublist_append_right _ _)))))) (Conv.refl (Sub.l (.cons _ (.cons _ ((List.sublist_append_right _ _).trans ((List.sublist_append_right _ _).trans (List.sublist_append_right _ _)))))) _) ⟨congrArg AV.bool (by simp [readC]), rfl⟩ (.inl rfl)
end Go.Proofs.YtdnjeianoioieaaGreatDoor
