/- A part of the proof: what the program's functions answer.
Conditions: none beyond each theorem's own. -/
import Derived.Test.YtfpkefhjomeeeaaGreatDoorW2
set_option linter.unusedVariables false
set_option linter.unusedSimpArgs false
set_option maxRecDepth 100000
namespace Go.Proofs.YtfpkefhjomeeeaaGreatDoor
open Go.AL Go.NumSpec
theorem scr_Right_ok (e : Ent) (hn : e.n.length ≤ 1000000) : GCalls Tryz.prog tabs 19 [entAV e] (.bool (rightB e)) := by
 intro st hG
 refine co 63 Tryz.func19 ?_
 refine AC_seq (AC_region ?_)
 refine s_ (S_box rfl (.tmp rfl)) ?_
 rintro _ _ ⟨b1, rfl, rfl⟩
 refine ac rfl rfl rfl ?_
 refine AL_nil ?_
 refine AC_seq ?_
 refine AC_seq ?_
 refine AC_draw (by kernel_rfl) (by kernel_rfl) (.cons rfl (Q_p rfl (S_field 0 rfl (.tmp rfl) (by kernel_rfl))) <|
   .cons rfl (Q_p rfl (S_load 0 rfl (.tmp rfl) rfl rfl (by kernel_rfl))) <|
   .cons rfl (Q_p rfl (S_lss rfl (.tmp rfl) (AEv.const _))) <|
   .cons rfl (Q_p rfl (S_move rfl (.tmp rfl))) <|
   .cons rfl (Q_g rfl rfl (.tmp rfl) (fun hg2 => S_field 0 rfl (.tmp rfl) (by kernel_rfl))) <|
   .cons rfl (Q_g rfl rfl (.tmp rfl) (fun hg5 => S_load 0 rfl (AEv.cd (.tmp rfl)) rfl rfl (by kernel_rfl))) <|
   .cons rfl (Q_g rfl rfl (.tmp rfl) (fun hg8 => S_geq rfl (AEv.cd (.tmp rfl)) (AEv.const _))) <|
   .cons rfl (Q_p rfl (S_or rfl (.tmp rfl) (fun hp11 => (AEv.cd (.tmp rfl))))) <|
   .cons rfl (Q_p rfl (S_move rfl (.tmp rfl))) <|
   .cons rfl (Q_g rfl rfl (.tmp rfl) (fun hg12 => S_field 1 rfl (.tmp rfl) (by kernel_rfl))) <|
   .cons rfl (Q_g rfl rfl (.tmp rfl) (fun hg15 => S_load 0 rfl (AEv.cd (.tmp rfl)) rfl rfl (by kernel_rfl))) <|
   .cons rfl (Q_g rfl rfl (.tmp rfl) (fun hg18 => by first | exact S_lenM (e := 3) rfl (AEv.cd (.tmp rfl)) (by kernel_rfl) | exact S_len (e := 3) rfl (AEv.cd (.tmp rfl)) (by kernel_rfl))) <|
   .cons rfl (Q_g rfl rfl (.tmp rfl) (fun hg21 => S_field 0 rfl (.tmp rfl) (by kernel_rfl))) <|
   .cons rfl (Q_g rfl rfl (.tmp rfl) (fun hg24 => S_load 0 rfl (AEv.cd (.tmp rfl)) rfl rfl (by kernel_rfl))) <|
   .cons rfl (Q_g rfl rfl (.tmp rfl) (fun hg27 => S_elemA (e := 92) (len := 24) (i := e.verb) 3 rfl (AEv.global _) (AEv.cd (.tmp rfl)) (by kernel_rfl) (by kernel_rfl) (by (try simp only [gd, Bool.and_eq_true, Bool.or_eq_true, Bool.not_eq_true', Bool.not_eq_false', decide_eq_true_eq, decide_eq_false_iff_not, Bool.or_eq_false_iff, Bool.and_eq_false_iff] at *); omega) (by (try simp only [gd, Bool.and_eq_true, Bool.or_eq_true, Bool.not_eq_true', Bool.not_eq_false', decide_eq_true_eq, decide_eq_false_iff_not, Bool.or_eq_false_iff, Bool.and_eq_false_iff] at *); omega))) <|
   .cons rfl (Q_g rfl rfl (.tmp rfl) (fun hg30 => S_field 1 rfl (AEv.cd (.tmp rfl)) (by kernel_rfl))) <|
   .cons rfl (Q_g rfl rfl (.tmp rfl) (fun hg33 => S_loadK (vs := verbsV) (u := .int .i64 (verbA e.verb.toNat).2.1) rfl (AEv.cd (.tmp rfl)) (List.mem_cons_of_mem _ (hG _ tab_verbs)) (verbs_num (by (try simp only [gd, Bool.and_eq_true, Bool.or_eq_true, Bool.not_eq_true', Bool.not_eq_false', decide_eq_true_eq, decide_eq_false_iff_not, Bool.or_eq_false_iff, Bool.and_eq_false_iff] at *); omega) (by (try simp only [gd, Bool.and_eq_true, Bool.or_eq_true, Bool.not_eq_true', Bool.not_eq_false', decide_eq_true_eq, decide_eq_false_iff_not, Bool.or_eq_false_iff, Bool.and_eq_false_iff] at *); omega)) (by kernel_rfl))) <|
   .cons rfl (Q_g rfl rfl (.tmp rfl) (fun hg36 => S_neq rfl (AEv.cd (.tmp rfl)) (AEv.cd (.tmp rfl)))) <|
   .cons rfl (Q_p rfl (S_or rfl (.tmp rfl) (fun hp39 => (AEv.cd (.tmp rfl))))) <|
   .nil) ?_
 refine AC_cond (.tmp rfl) (fun hb40 => ?_) (fun hb40 => ?_)
 ·try simp only [zA,zO,zN,zM,zP,zQ,zD,zF,gd] at hb40
  have hx := right_no (e := e) (by omega)
  refine AC_seq (AC_region ?_)
  refine ac rfl rfl rfl ?_
  refine AL_nil (AC_ret ?_)
  refine ret_tmp st rfl rfl (Sub.l (List.sublist_cons_self _ _)) (Conv.refl (Sub.l (List.sublist_cons_self _ _)) _) ⟨by rw [hx], rfl⟩ (.inl rfl)
 try simp only [zA,zO,zN,zM,zP,zQ,zD,zF,gd] at hb40
 have hv1 : 1 ≤ e.verb := by omega
 have hv2 : e.verb < 24 := by omega
 have hv3 : (e.n.length : Int) = (verbA e.verb.toNat).2.1 := by omega
 refine AC_skip ?_
 refine AC_seq ?_
 refine AC_seq (AC_region ?_)
 refine fl 1 ?_
 refine ld 0 ?_
 refine p_ (by first | exact S_lenM (e := 3) rfl (.tmp rfl) (by kernel_rfl) | exact S_len (e := 3) rfl (.tmp rfl) (by kernel_rfl)) ?_
 refine p_ (S_move rfl (AEv.const _)) ?_
 refine AL_nil ?_
 refine AC_block ?_
 refine AC_loopK (G := Nat) [(1, _), (25, _), (26, _)] (fun g => g ≤ e.n.length ∧ ∀ j (hj : j < e.n.length), j < g → 0 ≤ e.n[j] ∧ e.n[j] ≤ 1073741824) (fun g => [(27, .int .i64 (g : Int))]) (fun g => (b1, .cells (entL e)) :: st) (fun g => e.n.length - g) (0) (⟨Nat.zero_le _, fun j _ h => absurd h (Nat.not_lt_zero _)⟩) (Sub.l (List.Sublist.refl _)) (.cons rfl (Le.refl _) (.cons rfl (Le.refl _) (.cons rfl (Le.refl _) .nil))) (.cons rfl (by first | exact Le.refl _ | exact Le.nils | exact Le.row _ _ _ _ | exact Le.of_eq (by first | rfl | (simp; done) | (push_cast; rfl) | (simp; omega))) .nil) ?_
 rintro i ⟨hi, hall⟩
 try dsimp only
 simp only [List.cons_append, List.nil_append]
 refine AC_seq (AC_region ?_)
 refine p_ (S_lss rfl (.tmp rfl) (.tmp rfl)) ?_
 refine AL_nil ?_
 refine AC_seq ?_
 refine AC_cond (.tmp rfl) (fun hb41 => ?_) (fun hb41 => ?_)
 ·try simp only [zA,zO,zN,zM,zP,zQ,zD,zF,gd] at hb41
  have hil : i < e.n.length := by omega
  refine AC_skip ?_
  refine AC_seq ?_
  refine AC_block ?_
  refine AC_seq (AC_region ?_)
  refine p_ (S_elemN (e := 3) 1 rfl (.tmp rfl) (.tmp rfl) (by kernel_rfl) (by kernel_rfl) (by omega) (fun _ => rfl)) ?_
  refine p_ (S_loadP rfl (.tmp rfl) rfl (by kernel_rfl)) ?_
  refine as_ rfl rfl rfl rfl ?_
  refine AL_nil (AC_seq (AC_region ?_))
  refine mv rfl rfl rfl rfl ?_
  refine p_ (S_lss rfl (.tmp rfl) (AEv.const _)) ?_
  refine mv rfl rfl rfl rfl ?_
  refine g_ (fun _ => mA) ?_
  refine g_ (fun _ => S_gtr rfl (AEv.cd (.tmp rfl)) (AEv.const _)) ?_
  refine p_ (S_or rfl (.tmp rfl) (fun hp48 => (AEv.cd (.tmp rfl)))) ?_
  refine AL_nil ?_
  refine AC_cond (.tmp rfl) (fun hb49 => ?_) (fun hb49 => ?_)
  ·try simp only [zA,zO,zN,zM,zP,zQ,zD,zF,gd] at hb49
   have hx := right_num hil (by omega)
   refine AC_seq (AC_region ?_)
   refine ac rfl rfl rfl ?_
   refine AL_nil (AC_ret ?_)
   refine ret_tmp st rfl rfl (Sub.l (List.sublist_cons_self _ _)) (Conv.refl (Sub.l (List.sublist_cons_self _ _)) _) ⟨by rw [hx], rfl⟩ (.inl rfl)
  try simp only [zA,zO,zN,zM,zP,zQ,zD,zF,gd] at hb49
  have hin : 0 ≤ e.n[i] ∧ e.n[i] ≤ 1073741824 := by omega
  refine AC_skip ?_
  refine AC_region ?_
  refine p_ (S_addI rfl (.tmp rfl) (AEv.const _) (by omega) (by omega)) ?_
  refine mv rfl rfl rfl rfl ?_
  refine AL_nil ?_
  exact ⟨i + 1, ⟨by omega, fun j hj h => by
   rcases Nat.lt_or_ge j i with h9 | h9
   ·exact hall j hj h9
   ·have e9 : j = i := by omega
    subst e9; exact hin⟩, by omega, (Sub.l (List.Sublist.refl _)), (.cons rfl (by first | exact Le.refl _ | exact Le.nils | exact Le.row _ _ _ _ | exact Le.of_eq (by first | rfl | (simp; done) | (push_cast; rfl) | (simp; omega))) .nil), (.cons rfl (Le.refl _) (.cons rfl (Le.refl _) (.cons rfl (Le.refl _) .nil)))⟩
 try simp only [zA,zO,zN,zM,zP,zQ,zD,zF,gd] at hb41
 have hx := right_yes hv1 hv2 hv3 fun j hj => hall j hj (by omega)
 refine AC_exit ?_
 refine AC_seq ?_
 refine AC_seq (AC_region ?_)
 refine fl 0 ?_
 refine ld 0 ?_
 refine p_ (S_elemA (e := 92) (len := 24) (i := e.verb) 3 rfl (AEv.global _) (.tmp rfl) (by kernel_rfl) (by kernel_rfl) (by omega) (by omega)) ?_
 refine fl 2 ?_
 refine p_ (S_loadK (vs := verbsV) (u := .int .i64 (verbA e.verb.toNat).2.2) rfl (.tmp rfl) (List.mem_cons_of_mem _ (hG _ tab_verbs)) (verbs_data (by omega) (by omega)) (by kernel_rfl)) ?_
 refine AL_nil ?_
 refine AC_block ?_
 refine AC_seq (AC_region ?_)
 refine p_ (S_eql rfl (.tmp rfl) (AEv.const _)) ?_
 refine as_ rfl rfl rfl rfl ?_
 refine AL_nil ?_
 refine AC_cond (.tmp rfl) (fun hb50 => ?_) (fun hb50 => ?_)
 ·try simp only [zA,zO,zN,zM,zP,zQ,zD,zF,gd] at hb50
  have hk : (verbA e.verb.toNat).2.2 = 1 := hb50
  rw [dataB, if_pos hk] at hx
  refine AC_seq (AC_region ?_)
  refine fl 2 ?_
  refine ld 0 ?_
  refine p_ (S_neS rfl (.tmp rfl) (AEv.S _)) ?_
  refine mv rfl rfl rfl rfl ?_
  refine g_ (fun _ => fA 2) ?_
  refine g_ (fun _ => lA 0) ?_
  refine g_ (fun _ => S_lenS (ts := #[]) rfl (AEv.cd (.tmp rfl)) (by kernel_rfl)) ?_
  refine g_ (fun _ => S_leq rfl (AEv.cd (.tmp rfl)) (AEv.const _)) ?_
  refine an ?_
  refine as_ rfl rfl rfl rfl ?_
  refine AL_nil (AC_ret ?_)
  refine ret_tmp st rfl rfl (Sub.l (List.sublist_cons_self _ _)) (Conv.refl (Sub.l (List.sublist_cons_self _ _)) _) ⟨congrArg AV.bool (by rw [hx]; simp), rfl⟩ (.inl rfl)
 try simp only [zA,zO,zN,zM,zP,zQ,zD,zF,gd] at hb50
 have hk1 : ¬ (verbA e.verb.toNat).2.2 = 1 := hb50
 refine AC_seq (AC_region ?_)
 refine p_ (S_eql rfl (.tmp rfl) (AEv.const _)) ?_
 refine as_ rfl rfl rfl rfl ?_
 refine AL_nil ?_
 refine AC_cond (.tmp rfl) (fun hb64 => ?_) (fun hb64 => ?_)
 ·try simp only [zA,zO,zN,zM,zP,zQ,zD,zF,gd] at hb64
  have hk : (verbA e.verb.toNat).2.2 = 2 := hb64
  rw [dataB, if_neg hk1, if_pos hk] at hx
  refine AC_seq (AC_region ?_)
  refine fl 2 ?_
  refine ld 0 ?_
  refine p_ (S_gcall rfl (AEvs.cons (.tmp rfl) AEvs.nil) ((text_Name_ok e.data) _ (fun p hp => by first | exact hG p hp | exact List.mem_cons_of_mem _ (hG p hp)))) ?_
  refine p_ (S_eql rfl (.tmp rfl) (AEv.const _)) ?_
  refine as_ rfl rfl rfl rfl ?_
  refine AL_nil (AC_ret ?_)
  refine ret_tmp st rfl rfl (Sub.l (List.sublist_cons_self _ _)) (Conv.refl (Sub.l (List.sublist_cons_self _ _)) _) ⟨congrArg AV.bool (by rw [hx]; simp [saysV]), rfl⟩ (.inl rfl)
 try simp only [zA,zO,zN,zM,zP,zQ,zD,zF,gd] at hb64
 have hk2 : ¬ (verbA e.verb.toNat).2.2 = 2 := hb64
 rw [dataB, if_neg hk1, if_neg hk2] at hx
 refine AC_skip ?_
 refine AC_seq (AC_region ?_)
 refine fl 2 ?_
 refine ld 0 ?_
 refine p_ (S_eqS rfl (.tmp rfl) (AEv.S _)) ?_
 refine as_ rfl rfl rfl rfl ?_
 refine AL_nil (AC_ret ?_)
 refine ret_tmp st rfl rfl (Sub.l (List.sublist_cons_self _ _)) (Conv.refl (Sub.l (List.sublist_cons_self _ _)) _) ⟨congrArg AV.bool (by rw [hx]), rfl⟩ (.inl rfl)
theorem law45_light_ok (e : Ent) : PCalls Tryz.prog 5 [entAV e] (.bool (decide ((e.n.length : Int) ≤ 20) && decide ((e.data.length : Int) ≤ 1200))) := by
 intro st
 refine co 13 Tryz.func5 ?_
 refine AC_seq (AC_region ?_)
 refine s_ (S_box rfl (.tmp rfl)) ?_
 rintro _ _ ⟨b1, rfl, rfl⟩
 refine ac rfl rfl rfl ?_
 refine AL_nil (AC_seq (AC_region ?_))
 refine fl 1 ?_
 refine ld 0 ?_
 refine p_ (by first | exact S_lenM (e := 3) rfl (.tmp rfl) (by kernel_rfl) | exact S_len (e := 3) rfl (.tmp rfl) (by kernel_rfl)) ?_
 refine p_ (S_leq rfl (.tmp rfl) (AEv.const _)) ?_
 refine mv rfl rfl rfl rfl ?_
 refine g_ (fun _ => fA 2) ?_
 refine g_ (fun _ => lA 0) ?_
 refine g_ (fun _ => S_lenS (ts := #[]) rfl (AEv.cd (.tmp rfl)) (by kernel_rfl)) ?_
 refine g_ (fun _ => S_leq rfl (AEv.cd (.tmp rfl)) (AEv.const _)) ?_
 refine an ?_
 refine as_ rfl rfl rfl rfl ?_
 refine AL_nil (AC_ret ?_)
 refine ret_tmp st rfl rfl (Sub.l (List.sublist_cons_self _ _)) (Conv.refl (Sub.l (List.sublist_cons_self _ _)) _) ⟨rfl, rfl⟩ (.inl rfl)
theorem law45_To_ok (e : Ent) : PCalls Tryz.prog 8 [entAV e] (entAV e) := by
 intro st
 refine co 10 Tryz.func8 ?_
 refine AC_seq (AC_region ?_)
 refine s_ (S_box rfl (.tmp rfl)) ?_
 rintro _ _ ⟨b1, rfl, rfl⟩
 refine s_ (S_alloc [.int .i64 0, .slice none 0 0, .string ⟨#[]⟩] rfl (by kernel_rfl)) ?_
 rintro _ _ ⟨b2, rfl, rfl⟩
 refine AL_nil (AC_seq (AC_region ?_))
 refine fl 0 ?_
 refine ld 1 ?_
 refine fl 1 ?_
 refine ld 1 ?_
 refine fl 2 ?_
 refine ld 1 ?_
 refine p_ (S_build (t := 36) (pl := [(0, 1), (1, 1), (2, 1)]) (zs := [.int .i64 0, .slice none 0 0, .string ⟨#[]⟩]) rfl (AEvs.cons (.tmp rfl) (AEvs.cons (.tmp rfl) (AEvs.cons (.tmp rfl) AEvs.nil))) (by kernel_rfl) rfl) ?_
 refine stW 0 ?_
 refine AL_nil (AC_ret ?_)
 refine ret_cell 0 st rfl rfl rfl (by kernel_rfl) (Sub.l ((List.sublist_cons_self _ _).trans (List.sublist_cons_self _ _))) (Conv.refl (Sub.l ((List.sublist_cons_self _ _).trans (List.sublist_cons_self _ _))) _) ⟨rfl, rfl⟩ (.inl rfl)
end Go.Proofs.YtfpkefhjomeeeaaGreatDoor

set_option maxRecDepth 100000
namespace Go.Proofs.YtfpkefhjomeeeaaGreatDoor
open Go.AL Go.NumSpec
theorem strings_IndexByte_ok (s : List UInt8) (c : UInt8) : PCalls Tryz.prog 111 [.S s, .int .u8 (c.toNat : Int)] (.int .i64 (idxV s c)) := by
 intro st
 refine co 8 Tryz.func111 ?_
 refine AC_seq (AC_region ?_)
 refine ac rfl rfl rfl ?_
 refine AL_nil (AC_seq (AC_region ?_))
 refine mv rfl rfl rfl rfl ?_
 refine mv rfl rfl rfl rfl ?_
 refine p_ (S_pcall rfl (AEvs.cons (.tmp rfl) (AEvs.cons (.tmp rfl) AEvs.nil)) (lite_IndexByte_ok s c)) ?_
 refine as_ rfl rfl rfl rfl ?_
 refine AL_nil (AC_ret ?_)
 refine ret_tmp st rfl rfl (Sub.l (List.Sublist.refl _)) (Conv.refl (Sub.l (List.Sublist.refl _)) _) ⟨rfl, rfl⟩ (.inl rfl)
theorem toHex_ok (s : List UInt8) (hs : s.length ≤ 1000000) : PCalls Tryz.prog 43 [.S s] (.S (toHexL s)) := by
 intro st
 refine co 24 Tryz.func43 ?_
 refine AC_seq (AC_region ?_)
 refine p_ (S_assign rfl (AEv.S _)) ?_
 refine AL_nil (AC_seq (AC_region ?_))
 refine s_ (S_allocB (e := 145) [.slice none 0 0] rfl (by kernel_rfl)) ?_
 rintro _ _ ⟨b3, rfl, rfl⟩
 refine AL_nil ?_
 refine AC_seq ?_
 refine AC_seq (AC_region ?_)
 refine mv rfl rfl rfl rfl ?_
 refine p_ (S_lenS (ts := #[]) rfl (.tmp rfl) (by kernel_rfl)) ?_
 refine p_ (S_move rfl (AEv.const _)) ?_
 refine AL_nil ?_
 refine AC_block ?_
 refine AC_loopK (G := Nat × Bool × Buf) [(0, _), (2, _), (3, _), (6, _)] (fun g => g.1 ≤ s.length ∧ g.2.2.ok (toHexL (s.take g.1))) (fun g => [(7, .int .i64 (g.1 : Int))]) (fun g => (b3, .cells (addrB g.2.1 b3 145 2 :: bufAV g.2.2 (toHexL (s.take g.1)) :: [])) :: (bufSt g.2.2 5 (toHexL (s.take g.1)) ++ st)) (fun g => s.length - g.1) ((0, false, .nil)) (⟨Nat.zero_le _, rfl⟩) (Sub.l (List.Sublist.refl _)) (.cons rfl (Le.refl _) (.cons rfl (Le.refl _) (.cons rfl (Le.refl _) (.cons rfl (Le.refl _) .nil)))) (.cons rfl (by first | exact Le.refl _ | exact Le.nils | exact Le.row _ _ _ _ | exact Le.of_eq (by first | rfl | (simp; done) | (push_cast; rfl) | (simp; omega))) .nil) ?_
 rintro ⟨i, u, q⟩ ⟨hi, hq⟩
 try dsimp only
 simp only [List.cons_append, List.nil_append]
 dsimp only at hi hq
 refine AC_seq (AC_region ?_)
 refine p_ (S_lss rfl (.tmp rfl) (.tmp rfl)) ?_
 refine AL_nil ?_
 refine AC_seq ?_
 refine AC_cond (.tmp rfl) (fun hb1 => ?_) (fun hb1 => ?_)
 ·try simp only [zA,zO,zN,zM,zP,zQ,zD,zF,gd] at hb1
  have hil : i < s.length := by omega
  have hc := (s[i]'hil).toNat_lt
  refine AC_skip ?_
  refine AC_seq ?_
  refine AC_block ?_
  refine AC_seq (AC_region ?_)
  refine mv rfl rfl rfl rfl ?_
  refine as_ rfl rfl rfl rfl ?_
  refine AL_nil (AC_seq (AC_region ?_))
  refine mv rfl rfl rfl rfl ?_
  refine mv rfl rfl rfl rfl ?_
  refine p_ ((S_index rfl (.tmp rfl) (.tmp rfl) (by kernel_rfl) (by omega) (by omega)).ofV (V' := .int .u8 ((s[i]'hil).toNat : Int)) (congrArg (AV.int .u8) (by first | exact atL_get hil | (rw [show (((2 * b.length : Nat) : Int) + 1) = ((2 * b.length + 1 : Nat) : Int) by omega]; exact atL_get hil)))) ?_
  refine p_ ((S_shift rfl (by simp) (.tmp rfl) (AEv.const _) (shift_shr _ _ _ _ (by omega) (by simp only [IntKind.bits]; omega))).ofV (V' := .int .u8 (((s[i]'hil).toNat / 16 : Nat) : Int)) (congrArg (AV.int .u8) (by rw [show (2 : Int) ^ ((4 : Int).toNat) = 16 from rfl]; omega))) ?_
  refine p_ ((S_index rfl (AEv.S _) (.tmp rfl) (by kernel_rfl) (by omega) (by show _ < ((16 : Nat) : Int); omega)).ofV (V' := byteV (hexD ((s[i]'hil).toNat / 16))) (congrArg (AV.int .u8) (digits_at (by omega)))) ?_
  refine s_ (S_call rfl (AEvs.cons (.tmp rfl) (AEvs.cons (.tmp rfl) AEvs.nil)) (WriteByte_ok b3 u q (toHexL (s.take i)) _ 145 2 [] hq (by first | (rw [toHex_len, List.length_take]; omega) | (rw [List.length_append, toHex_len, List.length_take]; simp only [List.length_singleton]; omega) | omega) (by decide) (by kernel_rfl) _)) ?_
  rintro _ _ ⟨_, ⟨q2, hq2, rfl, rfl⟩, rfl⟩
  refine AL_nil ?_
  refine AC_region ?_
  refine mv rfl rfl rfl rfl ?_
  refine mv rfl rfl rfl rfl ?_
  refine p_ ((S_index rfl (.tmp rfl) (.tmp rfl) (by kernel_rfl) (by omega) (by omega)).ofV (V' := .int .u8 ((s[i]'hil).toNat : Int)) (congrArg (AV.int .u8) (by first | exact atL_get hil | (rw [show (((2 * b.length : Nat) : Int) + 1) = ((2 * b.length + 1 : Nat) : Int) by omega]; exact atL_get hil)))) ?_
  refine p_ ((S_bits rfl (by simp) (.tmp rfl) (AEv.const _)).ofV (V' := .int .u8 (((s[i]'hil).toNat % 16 : Nat) : Int)) (congrArg (AV.int .u8) (bits_15 hc))) ?_
  refine p_ ((S_index rfl (AEv.S _) (.tmp rfl) (by kernel_rfl) (by omega) (by show _ < ((16 : Nat) : Int); omega)).ofV (V' := byteV (hexD ((s[i]'hil).toNat % 16))) (congrArg (AV.int .u8) (digits_at (by omega)))) ?_
  refine s_ (S_call rfl (AEvs.cons (.tmp rfl) (AEvs.cons (.tmp rfl) AEvs.nil)) (WriteByte_ok b3 true q2 (toHexL (s.take i) ++ [hexD ((s[i]'hil).toNat / 16)]) _ 145 2 [] hq2 (by first | (rw [toHex_len, List.length_take]; omega) | (rw [List.length_append, toHex_len, List.length_take]; simp only [List.length_singleton]; omega) | omega) (by decide) (by kernel_rfl) _)) ?_
  rintro _ _ ⟨_, ⟨q2, hq2, rfl, rfl⟩, rfl⟩
  refine AL_nil ?_
  refine AC_region ?_
  refine p_ (S_addI rfl (.tmp rfl) (AEv.const _) (by omega) (by omega)) ?_
  refine mv rfl rfl rfl rfl ?_
  refine AL_nil ?_
  refine ⟨(i + 1, true, q2), ⟨by dsimp only; omega, by dsimp only; rw [toHex_next hil]; exact hq2⟩, by dsimp only; omega, ?_, (.cons rfl (by first | exact Le.refl _ | exact Le.nils | exact Le.row _ _ _ _ | exact Le.of_eq (by first | rfl | (simp; done) | (push_cast; rfl) | (simp; omega))) .nil), (.cons rfl (Le.refl _) (.cons rfl (Le.refl _) (.cons rfl (Le.refl _) (.cons rfl (Le.refl _) .nil))))⟩
  dsimp only
  rw [toHex_next hil]
  exact (Sub.l (List.Sublist.refl _))
 try simp only [zA,zO,zN,zM,zP,zQ,zD,zF,gd] at hb1
 have hx : s.take i = s := List.take_of_length_le (by omega)
 rw [hx] at hq ⊢
 refine AC_exit ?_
 refine AC_seq (AC_region ?_)
 refine s_ (S_call rfl (AEvs.cons (.tmp rfl) AEvs.nil) (String_ok b3 q (toHexL s) _ [] hq st)) ?_
 rintro _ _ ⟨_, ⟨rfl, rfl⟩, rfl⟩
 refine as_ rfl rfl rfl rfl ?_
 refine AL_nil (AC_ret ?_)
 refine ret_tmp st rfl rfl (Sub.l (List.sublist_cons_self _ _)) (Conv.refl (Sub.l (List.sublist_cons_self _ _)) _) ⟨rfl, rfl⟩ (.inl rfl)
theorem ofHex_ok (s : List UInt8) (hs : s.length ≤ 1000000) : PCalls Tryz.prog 76 [.S s] (.tup [.S (ofHexV s).1, .bool (ofHexV s).2]) := by
 intro st
 refine co 40 Tryz.func76 ?_
 refine AC_seq (AC_region ?_)
 refine p_ (S_assign rfl (AEv.S _)) ?_
 refine ac rfl rfl rfl ?_
 refine AL_nil ?_
 refine AC_seq ?_
 refine AC_seq (AC_region ?_)
 refine mv rfl rfl rfl rfl ?_
 refine p_ (S_lenS (ts := #[]) rfl (.tmp rfl) (by kernel_rfl)) ?_
 refine p_ (S_rem rfl (.tmp rfl) (AEv.const _) (by omega)) ?_
 refine p_ (S_neq rfl (.tmp rfl) (AEv.const _)) ?_
 refine AL_nil ?_
 refine AC_cond (.tmp rfl) (fun hb1 => ?_) (fun hb1 => ?_)
 ·try simp only [zA,zO,zN,zM,zP,zQ,zD,zF,gd] at hb1
  rw [Int.tmod_eq_emod_of_nonneg (by omega)] at hb1
  have hx := ofHex_no (s := s) fun d hd => by have h9 := toHex_len d; rw [hd] at h9; omega
  refine AC_seq (AC_region ?_)
  refine p_ (S_assign rfl (AEv.S _)) ?_
  refine ac rfl rfl rfl ?_
  refine AL_nil (AC_ret ?_)
  refine ret_tmps (ts := [2, 3]) st rfl (by decide) rfl (Sub.l (List.Sublist.refl _)) (Conv.refl (Sub.l (List.Sublist.refl _)) _) ⟨by rw [hx], rfl⟩ (.inl rfl)
 try simp only [zA,zO,zN,zM,zP,zQ,zD,zF,gd] at hb1
 rw [Int.tmod_eq_emod_of_nonneg (by omega)] at hb1
 have hev : s.length % 2 = 0 := by omega
 refine AC_skip ?_
 refine AC_seq (AC_region ?_)
 refine s_ (S_allocB (e := 145) [.slice none 0 0] rfl (by kernel_rfl)) ?_
 rintro _ _ ⟨b4, rfl, rfl⟩
 refine AL_nil ?_
 refine AC_seq ?_
 refine AC_seq (AC_region ?_)
 refine ac rfl rfl rfl ?_
 refine AL_nil ?_
 refine AC_block ?_
 refine AC_loopK (G := List UInt8 × Bool × Buf) [(0, _), (4, _)] (fun g => 2 * g.1.length ≤ s.length ∧ toHexL g.1 = s.take (2 * g.1.length) ∧ g.2.2.ok g.1) (fun g => [(5, .int .i64 ((2 * g.1.length : Nat) : Int))]) (fun g => (b4, .cells (addrB g.2.1 b4 145 2 :: bufAV g.2.2 (g.1) :: [])) :: (bufSt g.2.2 5 (g.1) ++ st)) (fun g => s.length + 1 - 2 * g.1.length) (([], false, .nil)) (⟨Nat.zero_le _, rfl, rfl⟩) (Sub.l (List.Sublist.refl _)) (.cons rfl (Le.refl _) (.cons rfl (Le.refl _) .nil)) (.cons rfl (by first | exact Le.refl _ | exact Le.nils | exact Le.row _ _ _ _ | exact Le.of_eq (by first | rfl | (simp; done) | (push_cast; rfl) | (simp; omega))) .nil) ?_
 rintro ⟨b, u, q⟩ ⟨hz1, hz2, hq⟩
 try dsimp only
 simp only [List.cons_append, List.nil_append]
 dsimp only at hz1 hz2 hq
 refine AC_seq ?_
 refine AC_seq (AC_region ?_)
 refine mv rfl rfl rfl rfl ?_
 refine mv rfl rfl rfl rfl ?_
 refine p_ (S_lenS (ts := #[]) rfl (.tmp rfl) (by kernel_rfl)) ?_
 refine p_ (S_lss rfl (.tmp rfl) (.tmp rfl)) ?_
 refine AL_nil ?_
 refine AC_cond (.tmp rfl) (fun hb2 => ?_) (fun hb2 => ?_)
 ·try simp only [zA,zO,zN,zM,zP,zQ,zD,zF,gd] at hb2
  have hi1 : 2 * b.length < s.length := by omega
  have hi2 : 2 * b.length + 1 < s.length := by omega
  refine AC_skip ?_
  refine AC_seq ?_
  refine AC_block ?_
  refine AC_seq ?_
  refine AC_draw (by kernel_rfl) (by kernel_rfl) (.cons rfl (Q_p rfl (S_move rfl (.tmp rfl))) <|
    .cons rfl (Q_p rfl (S_move rfl (.tmp rfl))) <|
    .cons rfl (Q_p rfl ((S_index rfl (.tmp rfl) (.tmp rfl) (by kernel_rfl) (by omega) (by omega)).ofV (V' := .int .u8 ((s[2 * b.length]'hi1).toNat : Int)) (congrArg (AV.int .u8) (by first | exact atL_get hi1 | (rw [show (((2 * b.length : Nat) : Int) + 1) = ((2 * b.length + 1 : Nat) : Int) by omega]; exact atL_get hi1))))) <|
    .cons rfl (Q_p rfl ((S_pcall rfl (AEvs.cons (y := .S digitsB) (AEv.S _) (AEvs.cons (.tmp rfl) AEvs.nil)) (strings_IndexByte_ok digitsB (s[2 * b.length]'hi1))).ofV (V' := .int .i64 (hexV (s[2 * b.length]'hi1))) (congrArg (AV.int .i64) (idx_digits _)))) <|
    .cons rfl (Q_p rfl (S_move rfl (.tmp rfl))) <|
    .cons rfl (Q_p rfl (S_move rfl (.tmp rfl))) <|
    .cons rfl (Q_p rfl (S_addI rfl (.tmp rfl) (AEv.const _) (by omega) (by omega))) <|
    .cons rfl (Q_p rfl ((S_index rfl (.tmp rfl) (.tmp rfl) (by kernel_rfl) (by omega) (by omega)).ofV (V' := .int .u8 ((s[2 * b.length + 1]'hi2).toNat : Int)) (congrArg (AV.int .u8) (by first | exact atL_get hi2 | (rw [show (((2 * b.length : Nat) : Int) + 1) = ((2 * b.length + 1 : Nat) : Int) by omega]; exact atL_get hi2))))) <|
    .cons rfl (Q_p rfl ((S_pcall rfl (AEvs.cons (y := .S digitsB) (AEv.S _) (AEvs.cons (.tmp rfl) AEvs.nil)) (strings_IndexByte_ok digitsB (s[2 * b.length + 1]'hi2))).ofV (V' := .int .i64 (hexV (s[2 * b.length + 1]'hi2))) (congrArg (AV.int .i64) (idx_digits _)))) <|
    .cons rfl (Q_p rfl (S_assign rfl (.tmp rfl))) <|
    .cons rfl (Q_p rfl (S_assign rfl (.tmp rfl))) <|
    .nil) ?_
  refine AC_seq ?_
  refine AC_seq (AC_region ?_)
  refine mv rfl rfl rfl rfl ?_
  refine p_ (S_lss rfl (.tmp rfl) (AEv.const _)) ?_
  refine mv rfl rfl rfl rfl ?_
  refine g_ (fun _ => mA) ?_
  refine g_ (fun _ => S_lss rfl (AEv.cd (.tmp rfl)) (AEv.const _)) ?_
  refine p_ (S_or rfl (.tmp rfl) (fun hp9 => (AEv.cd (.tmp rfl)))) ?_
  refine AL_nil ?_
  refine AC_cond (.tmp rfl) (fun hb10 => ?_) (fun hb10 => ?_)
  ·try simp only [zA,zO,zN,zM,zP,zQ,zD,zF,gd] at hb10
   have hx := ofHex_no (s := s) fun d hd => by have h8 := toHex_at hd hi1; have h9 := toHex_at hd hi2; omega
   refine AC_seq (AC_region ?_)
   refine p_ (S_assign rfl (AEv.S _)) ?_
   refine ac rfl rfl rfl ?_
   refine AL_nil (AC_ret ?_)
   refine ret_tmps (ts := [2, 3]) st rfl (by decide) rfl (Sub.l ((List.sublist_append_right _ _).cons _)) (Conv.refl (Sub.l ((List.sublist_append_right _ _).cons _)) _) ⟨by rw [hx], rfl⟩ (.inl rfl)
  try simp only [zA,zO,zN,zM,zP,zQ,zD,zF,gd] at hb10
  have hx1 : 0 ≤ hexV (s[2 * b.length]'hi1) := by omega
  have hx2 : 0 ≤ hexV (s[2 * b.length + 1]'hi2) := by omega
  have hy1 := (hexV_some hx1).1
  have hy2 := (hexV_some hx2).1
  obtain ⟨n1, e1⟩ := Int.eq_ofNat_of_zero_le hx1
  obtain ⟨n2, e2⟩ := Int.eq_ofNat_of_zero_le hx2
  have hn1 : n1 < 16 := by omega
  have hn2 : n2 < 16 := by omega
  refine AC_skip ?_
  refine AC_region ?_
  refine mv rfl rfl rfl rfl ?_
  refine p_ ((S_shift rfl (by simp) (.tmp rfl) (AEv.const _) (shift_shl _ _ _ _ (by omega) (by simp only [IntKind.bits]; omega))).ofV (V' := .int .i64 ((16 * n1 : Nat) : Int)) (congrArg (AV.int .i64) (by rw [e1, show (2 : Int) ^ ((4 : Int).toNat) = 16 from rfl, wrap_i64 (by omega) (by omega)]; omega))) ?_
  refine mv rfl rfl rfl rfl ?_
  refine p_ ((S_bits rfl (by simp) (.tmp rfl) (.tmp rfl)).ofV (V' := .int .i64 ((16 * n1 + n2 : Nat) : Int)) (congrArg (AV.int .i64) (by rw [e2]; exact bits_16 hn1 hn2))) ?_
  refine p_ ((S_conv (k' := .u8) rfl (.tmp rfl) (by kernel_rfl) (by kernel_rfl)).ofV (V' := byteV (UInt8.ofNat (16 * hexV (s[2 * b.length]'hi1) + hexV (s[2 * b.length + 1]'hi2)).toNat)) (congrArg (AV.int .u8) (by rw [e1, e2, UInt8.toNat_ofNat', wrap_u8 (by omega) (by omega)]; omega))) ?_
  refine s_ (S_call rfl (AEvs.cons (.tmp rfl) (AEvs.cons (.tmp rfl) AEvs.nil)) (WriteByte_ok b4 u q (b) _ 145 2 [] hq (by first | (rw [toHex_len, List.length_take]; omega) | (rw [List.length_append, toHex_len, List.length_take]; simp only [List.length_singleton]; omega) | omega) (by decide) (by kernel_rfl) _)) ?_
  rintro _ _ ⟨_, ⟨q2, hq2, rfl, rfl⟩, rfl⟩
  refine AL_nil ?_
  refine AC_region ?_
  refine mv rfl rfl rfl rfl ?_
  refine p_ (S_addI rfl (.tmp rfl) (AEv.const _) (by omega) (by omega)) ?_
  refine as_ rfl rfl rfl rfl ?_
  refine AL_nil ?_
  refine ⟨(b ++ [UInt8.ofNat (16 * hexV (s[2 * b.length]'hi1) + hexV (s[2 * b.length + 1]'hi2)).toNat], true, q2), ⟨by dsimp only; simp only [List.length_append, List.length_singleton]; omega, by dsimp only; rw [List.length_append, List.length_singleton]; exact hex_more hi2 hz2 hx1 hx2, hq2⟩, by dsimp only; simp only [List.length_append, List.length_singleton]; omega, (Sub.l (List.Sublist.refl _)), (.cons rfl (by first | exact Le.refl _ | exact Le.nils | exact Le.row _ _ _ _ | exact Le.of_eq (by first | rfl | (simp; done) | (push_cast; rfl) | (simp; omega))) .nil), (.cons rfl (Le.refl _) (.cons rfl (Le.refl _) .nil))⟩
 try simp only [zA,zO,zN,zM,zP,zQ,zD,zF,gd] at hb2
 have hx := ofHex_yes (d := b) (s := s) (by rw [hz2, List.take_of_length_le (by omega)])
 refine AC_exit ?_
 refine AC_seq (AC_region ?_)
 refine s_ (S_call rfl (AEvs.cons (.tmp rfl) AEvs.nil) (String_ok b4 q b _ [] hq st)) ?_
 rintro _ _ ⟨_, ⟨rfl, rfl⟩, rfl⟩
 refine as_ rfl rfl rfl rfl ?_
 refine ac rfl rfl rfl ?_
 refine AL_nil (AC_ret ?_)
 refine ret_tmps (ts := [2, 3]) st rfl (by decide) rfl (Sub.l (List.sublist_cons_self _ _)) (Conv.refl (Sub.l (List.sublist_cons_self _ _)) _) ⟨by rw [hx], rfl⟩ (.inl rfl)
theorem find_ok (w : List UInt8) : GCalls Tryz.prog tabs 38 [.S w] (.int .i64 ((findV w : Nat) : Int)) := by
 intro st hG
 refine co 20 Tryz.func38 ?_
 refine AC_seq (AC_region ?_)
 refine ac rfl rfl rfl ?_
 refine AL_nil ?_
 refine AC_seq ?_
 refine AC_seq (AC_region ?_)
 refine p_ (S_loadKs (vs := verbsV) (m := 72) rfl (AEv.global _) (hG _ tab_verbs) (by kernel_rfl) (by decide)) ?_
 refine p_ (S_move rfl (AEv.const _)) ?_
 refine AL_nil ?_
 refine AC_block ?_
 refine AC_loopK (G := Nat) [(0, _), (5, _)] (fun g => g ≤ 24 ∧ ∀ j, j < 24 → j < g → 0 < j → (verbA j).1 ≠ w) (fun g => [(6, .int .i64 (g : Int))]) (fun g => st) (fun g => 24 - g) (0) (⟨Nat.zero_le _, fun j _ h => absurd h (Nat.not_lt_zero _)⟩) (Sub.l (List.Sublist.refl _)) (.cons rfl (Le.refl _) (.cons rfl (Le.refl _) .nil)) (.cons rfl (by first | exact Le.refl _ | exact Le.nils | exact Le.row _ _ _ _ | exact Le.of_eq (by first | rfl | (simp; done) | (push_cast; rfl) | (simp; omega))) .nil) ?_
 rintro i ⟨hi, hall⟩
 try dsimp only
 simp only [List.cons_append, List.nil_append]
 refine AC_seq (AC_region ?_)
 refine p_ (S_lss rfl (.tmp rfl) (AEv.const _)) ?_
 refine AL_nil ?_
 refine AC_seq ?_
 refine AC_cond (.tmp rfl) (fun hb1 => ?_) (fun hb1 => ?_)
 ·try simp only [zA,zO,zN,zM,zP,zQ,zD,zF,gd] at hb1
  have hil : i < 24 := by omega
  refine AC_skip ?_
  refine AC_seq ?_
  refine AC_block ?_
  refine AC_seq (AC_region ?_)
  refine mv rfl rfl rfl rfl ?_
  refine p_ ((S_idxRow (e := 92) (len := 24) (m := 3) rfl (.tmp rfl) (.tmp rfl) (by kernel_rfl) (by kernel_rfl) (by omega) (by omega) (by rw [show (((verbsV.drop 0).take 72).map AV.lit).length = 72 from rfl]; omega)).ofV (V' := .agg [.S (verbA (i : Int).toNat).1, .int .i64 (verbA (i : Int).toNat).2.1, .int .i64 (verbA (i : Int).toNat).2.2]) (congrArg AV.agg (verbs_cell (by omega) (by omega)))) ?_
  refine s_ (S_alloc [.string ⟨#[]⟩, .int .i64 0, .int .i64 0] rfl (by kernel_rfl)) ?_
  rintro _ _ ⟨b4, rfl, rfl⟩
  refine as_ rfl rfl rfl rfl ?_
  refine stW 0 ?_
  refine AL_nil (AC_seq (AC_region ?_))
  refine mv rfl rfl rfl rfl ?_
  refine p_ (S_gtr rfl (.tmp rfl) (AEv.const _)) ?_
  refine mv rfl rfl rfl rfl ?_
  refine g_ (fun _ => fA 0) ?_
  refine g_ (fun _ => lA 0) ?_
  refine g_ (fun _ => mA) ?_
  refine g_ (fun _ => S_eqS rfl (AEv.cd (.tmp rfl)) (AEv.cd (.tmp rfl))) ?_
  refine an ?_
  refine AL_nil ?_
  refine AC_cond (.tmp rfl) (fun hb16 => ?_) (fun hb16 => ?_)
  ·try simp only [zA,zO,zN,zM,zP,zQ,zD,zF,gd] at hb16
   have hx := find_hit (w := w) (i := i) (by omega) hil (by simpa using hb16.2)
   refine AC_seq (AC_region ?_)
   refine mv rfl rfl rfl rfl ?_
   refine as_ rfl rfl rfl rfl ?_
   refine AL_nil (AC_ret ?_)
   refine ret_tmp st rfl rfl (Sub.l (List.sublist_cons_self _ _)) (Conv.refl (Sub.l (List.sublist_cons_self _ _)) _) ⟨by rw [hx], rfl⟩ (.inl rfl)
  try simp only [zA,zO,zN,zM,zP,zQ,zD,zF,gd] at hb16
  have hno : 0 < i → (verbA i).1 ≠ w := fun h0 h9 => hb16.elim (fun h => h (by omega)) fun h => h (by simpa using h9)
  refine AC_skip ?_
  refine AC_region ?_
  refine p_ (S_addI rfl (.tmp rfl) (AEv.const _) (by omega) (by omega)) ?_
  refine mv rfl rfl rfl rfl ?_
  refine AL_nil ?_
  refine ⟨i + 1, ⟨by omega, fun j hj h h0 => ?_⟩, by omega, (Sub.l (List.sublist_cons_self _ _)), (.cons rfl (by first | exact Le.refl _ | exact Le.nils | exact Le.row _ _ _ _ | exact Le.of_eq (by first | rfl | (simp; done) | (push_cast; rfl) | (simp; omega))) .nil), (.cons rfl (Le.refl _) (.cons rfl (Le.refl _) .nil))⟩
  rcases Nat.lt_or_ge j i with h9 | h9
  ·exact hall j hj h9 h0
  ·have e9 : j = i := by omega
   subst e9
   exact hno h0
 try simp only [zA,zO,zN,zM,zP,zQ,zD,zF,gd] at hb1
 have hx := find_none (w := w) fun j hj h0 => hall j hj (by omega) h0
 refine AC_exit ?_
 refine AC_seq (AC_region ?_)
 refine ac rfl rfl rfl ?_
 refine AL_nil (AC_ret ?_)
 refine ret_tmp st rfl rfl (Sub.l (List.Sublist.refl _)) (Conv.refl (Sub.l (List.Sublist.refl _)) _) ⟨by rw [hx]; rfl, rfl⟩ (.inl rfl)
theorem data_ok (k : Int) (l : List (List UInt8)) (hl : ∀ x ∈ l, x.length ≤ 1000000) : PCalls Tryz.prog 40 [.int .i64 k, .sl (strsV l)] (.tup [.S (dataV k l).1, .bool (dataV k l).2]) := by
 intro st
 refine co 28 Tryz.func40 ?_
 refine AC_seq (AC_region ?_)
 refine p_ (S_assign rfl (AEv.S _)) ?_
 refine ac rfl rfl rfl ?_
 refine AL_nil ?_
 refine AC_seq ?_
 refine AC_block ?_
 refine AC_seq (AC_region ?_)
 refine mv rfl rfl rfl rfl ?_
 refine p_ (S_eql rfl (.tmp rfl) (AEv.const _)) ?_
 refine as_ rfl rfl rfl rfl ?_
 refine AL_nil ?_
 refine AC_cond (.tmp rfl) (fun hb1 => ?_) (fun hb1 => ?_)
 ·try simp only [zA,zO,zN,zM,zP,zQ,zD,zF,gd] at hb1
  have hx : dataV k l = ([], decide ((l.length : Int) = 0)) := by unfold dataV; rw [if_pos hb1]; exact congrArg _ (decide_eq_decide.2 (by rw [← List.length_eq_zero_iff]; omega))
  refine AC_seq (AC_region ?_)
  refine mv rfl rfl rfl rfl ?_
  refine p_ (by first | exact S_lenM (e := 9) rfl (.tmp rfl) (by kernel_rfl) | exact S_len (e := 9) rfl (.tmp rfl) (by kernel_rfl)) ?_
  refine p_ (S_eql rfl (.tmp rfl) (AEv.const _)) ?_
  refine p_ (S_assign rfl (AEv.S _)) ?_
  refine as_ rfl rfl rfl rfl ?_
  refine AL_nil (AC_ret ?_)
  refine ret_tmps (ts := [4, 5]) st rfl (by decide) rfl (Sub.l (List.Sublist.refl _)) (Conv.refl (Sub.l (List.Sublist.refl _)) _) ⟨by rw [hx], rfl⟩ (.inl rfl)
 try simp only [zA,zO,zN,zM,zP,zQ,zD,zF,gd] at hb1
 have hk0 : ¬ k = 0 := hb1
 refine AC_seq (AC_region ?_)
 refine mv rfl rfl rfl rfl ?_
 refine p_ (by first | exact S_lenM (e := 9) rfl (.tmp rfl) (by kernel_rfl) | exact S_len (e := 9) rfl (.tmp rfl) (by kernel_rfl)) ?_
 refine p_ (S_neq rfl (.tmp rfl) (AEv.const _)) ?_
 refine as_ rfl rfl rfl rfl ?_
 refine AL_nil ?_
 refine AC_cond (.tmp rfl) (fun hb2 => ?_) (fun hb2 => ?_)
 ·try simp only [zA,zO,zN,zM,zP,zQ,zD,zF,gd] at hb2
  have hx : dataV k l = ([], false) := by unfold dataV; rw [if_neg hk0, if_pos (by omega)]
  refine AC_seq (AC_region ?_)
  refine p_ (S_assign rfl (AEv.S _)) ?_
  refine ac rfl rfl rfl ?_
  refine AL_nil (AC_ret ?_)
  refine ret_tmps (ts := [4, 5]) st rfl (by decide) rfl (Sub.l (List.Sublist.refl _)) (Conv.refl (Sub.l (List.Sublist.refl _)) _) ⟨by rw [hx], rfl⟩ (.inl rfl)
 try simp only [zA,zO,zN,zM,zP,zQ,zD,zF,gd] at hb2
 have hl1 : l.length = 1 := by omega
 have hl0 : 0 < l.length := by omega
 have hhd : l.headD [] = (l[0]'hl0) := by obtain ⟨x, rfl⟩ := List.length_eq_one_iff.1 hl1; rfl
 refine AC_seq (AC_region ?_)
 refine mv rfl rfl rfl rfl ?_
 refine p_ (S_eql rfl (.tmp rfl) (AEv.const _)) ?_
 refine as_ rfl rfl rfl rfl ?_
 refine AL_nil ?_
 refine AC_cond (.tmp rfl) (fun hb3 => ?_) (fun hb3 => ?_)
 ·try simp only [zA,zO,zN,zM,zP,zQ,zD,zF,gd] at hb3
  have hx : dataV k l = ofHexV (l[0]'hl0) := by unfold dataV; rw [if_neg hk0, if_neg (by omega), if_pos hb3, hhd]
  refine AC_seq (AC_region ?_)
  refine mv rfl rfl rfl rfl ?_
  refine p_ (S_elemN (e := 9) (i := 0) 1 rfl (.tmp rfl) (AEv.const _) (by kernel_rfl) (by kernel_rfl) (by omega) (fun _ => rfl)) ?_
  refine p_ (S_loadP rfl (.tmp rfl) rfl (by kernel_rfl)) ?_
  refine p_ (S_pcall rfl (AEvs.cons (.tmp rfl) AEvs.nil) (ofHex_ok (l[0]'hl0) (hl _ (List.getElem_mem hl0)))) ?_
  refine ex 0 ?_
  refine ex 1 ?_
  refine as_ rfl rfl rfl rfl ?_
  refine as_ rfl rfl rfl rfl ?_
  refine AL_nil (AC_ret ?_)
  refine ret_tmps (ts := [4, 5]) st rfl (by decide) rfl (Sub.l (List.Sublist.refl _)) (Conv.refl (Sub.l (List.Sublist.refl _)) _) ⟨by rw [hx], rfl⟩ (.inl rfl)
 try simp only [zA,zO,zN,zM,zP,zQ,zD,zF,gd] at hb3
 have hx : dataV k l = ((l[0]'hl0), true) := by unfold dataV; rw [if_neg hk0, if_neg (by omega), if_neg hb3, hhd]
 refine AC_skip ?_
 refine AC_seq (AC_region ?_)
 refine mv rfl rfl rfl rfl ?_
 refine p_ (S_elemN (e := 9) (i := 0) 1 rfl (.tmp rfl) (AEv.const _) (by kernel_rfl) (by kernel_rfl) (by omega) (fun _ => rfl)) ?_
 refine p_ (S_loadP rfl (.tmp rfl) rfl (by kernel_rfl)) ?_
 refine as_ rfl rfl rfl rfl ?_
 refine ac rfl rfl rfl ?_
 refine AL_nil (AC_ret ?_)
 refine ret_tmps (ts := [4, 5]) st rfl (by decide) rfl (Sub.l (List.Sublist.refl _)) (Conv.refl (Sub.l (List.Sublist.refl _)) _) ⟨by rw [hx], rfl⟩ (.inl rfl)
end Go.Proofs.YtfpkefhjomeeeaaGreatDoor

set_option maxRecDepth 100000
namespace Go.Proofs.YtfpkefhjomeeeaaGreatDoor
open Go.AL Go.NumSpec
theorem scr_Line_ok (e : Ent) (hn : e.n.length ≤ 1000000) : GCalls Tryz.prog tabs 18 [entAV e] (.S (lineV e)) := by
 intro st hG
 refine co 49 Tryz.func18 ?_
 refine AC_seq (AC_region ?_)
 refine s_ (S_box rfl (.tmp rfl)) ?_
 rintro _ _ ⟨b1, rfl, rfl⟩
 refine p_ (S_assign rfl (AEv.S _)) ?_
 refine AL_nil ?_
 refine AC_seq ?_
 refine AC_seq (AC_region ?_)
 refine ldN 3 0 ?_
 refine p_ (S_gcall rfl (AEvs.cons (.tmp rfl) AEvs.nil) ((scr_Right_ok e hn) _ (fun p hp => by first | exact hG p hp | exact List.mem_cons_of_mem _ (hG p hp)))) ?_
 refine p_ (S_not rfl (.tmp rfl)) ?_
 refine AL_nil ?_
 refine AC_cond (.tmp rfl) (fun hb2 => ?_) (fun hb2 => ?_)
 ·try simp only [zA,zO,zN,zM,zP,zQ,zD,zF,gd] at hb2
  have hx : lineV e = [] := by unfold lineV; rw [if_neg (by simpa using hb2)]
  refine AC_seq (AC_region ?_)
  refine p_ (S_assign rfl (AEv.S _)) ?_
  refine AL_nil (AC_ret ?_)
  refine ret_tmp st rfl rfl (Sub.l (List.sublist_cons_self _ _)) (Conv.refl (Sub.l (List.sublist_cons_self _ _)) _) ⟨by rw [hx], rfl⟩ (.inl rfl)
 try simp only [zA,zO,zN,zM,zP,zQ,zD,zF,gd] at hb2
 have hr : rightB e = true := by simpa using hb2
 have hx : lineV e = lineE e := by unfold lineV; rw [if_pos hr]
 obtain ⟨hv1, hv2, hv3, hv4, hv5⟩ := right_spec hr
 have hdl := data_len hr
 have hnf := right_fits hr
 refine AC_skip ?_
 refine AC_seq (AC_region ?_)
 refine fl 0 ?_
 refine ld 0 ?_
 refine p_ (S_elemA (e := 92) (len := 24) (i := e.verb) 3 rfl (AEv.global _) (.tmp rfl) (by kernel_rfl) (by kernel_rfl) (by omega) (by omega)) ?_
 refine p_ ((S_loadKs (vs := verbsV) (m := 3) rfl (.tmp rfl) (List.mem_cons_of_mem _ (hG _ tab_verbs)) (by kernel_rfl) (by rw [show verbsV.length = 72 from rfl]; omega)).ofV (V' := .agg [.S (verbA e.verb.toNat).1, .int .i64 (verbA e.verb.toNat).2.1, .int .i64 (verbA e.verb.toNat).2.2]) (congrArg AV.agg (verbs_row (by omega) (by omega)))) ?_
 refine s_ (S_alloc [.string ⟨#[]⟩, .int .i64 0, .int .i64 0] rfl (by kernel_rfl)) ?_
 rintro _ _ ⟨b3, rfl, rfl⟩
 refine stW 0 ?_
 refine AL_nil (AC_seq (AC_region ?_))
 refine fl 0 ?_
 refine ld 0 ?_
 refine s_ (S_buildOwn (e := 9) 1 rfl (AEvs.cons (.tmp rfl) AEvs.nil) rfl (by kernel_rfl) (by kernel_rfl) (by simp [AV.flat, AV.one, AV.cells, Value.oneCell']) (by decide) (by decide) (by decide)) ?_
 rintro _ _ ⟨b4, rfl, rfl⟩
 refine as_ rfl rfl rfl rfl ?_
 refine AL_nil ?_
 refine AC_seq ?_
 refine AC_seq (AC_region ?_)
 refine fl 1 ?_
 refine ld 2 ?_
 refine p_ (by first | exact S_lenM (e := 3) rfl (.tmp rfl) (by kernel_rfl) | exact S_len (e := 3) rfl (.tmp rfl) (by kernel_rfl)) ?_
 refine p_ (S_move rfl (AEv.const _)) ?_
 refine AL_nil ?_
 refine AC_block ?_
 refine AC_loopK (G := Nat × Own) [(1, _), (2, _), (3, _), (18, _), (19, _)] (fun g => g.1 ≤ e.n.length ∧ g.2.ok ((partsN e g.1).map AV.S)) (fun g => [(4, ownAV g.2 1 ((partsN e g.1).map AV.S)), (20, .int .i64 (g.1 : Int))]) (fun g => ownSt g.2 9 1 ((partsN e g.1).map AV.S) ++ ((b3, .cells [.S (verbA e.verb.toNat).1, .int .i64 (verbA e.verb.toNat).2.1, .int .i64 (verbA e.verb.toNat).2.2]) :: (b1, .cells (entL e)) :: st)) (fun g => e.n.length - g.1) ((0, .row b4 0 1)) (⟨Nat.zero_le _, by simp [Own.ok, partsN]⟩) (Sub.l (List.Sublist.refl _)) (.cons rfl (Le.refl _) (.cons rfl (Le.refl _) (.cons rfl (Le.refl _) (.cons rfl (Le.refl _) (.cons rfl (Le.refl _) .nil))))) (.cons rfl (by first | exact Le.refl _ | exact Le.nils | exact Le.row _ _ _ _ | exact Le.of_eq (by first | rfl | (simp; done) | (push_cast; rfl) | (simp; omega))) (.cons rfl (by first | exact Le.refl _ | exact Le.nils | exact Le.row _ _ _ _ | exact Le.of_eq (by first | rfl | (simp; done) | (push_cast; rfl) | (simp; omega))) .nil)) ?_
 rintro ⟨i, p⟩ ⟨hi, hq⟩
 try dsimp only
 simp only [List.cons_append, List.nil_append]
 dsimp only at hi hq
 have hpn := partsN_len e i
 refine AC_seq (AC_region ?_)
 refine p_ (S_lss rfl (.tmp rfl) (.tmp rfl)) ?_
 refine AL_nil ?_
 refine AC_seq ?_
 refine AC_cond (.tmp rfl) (fun hb4 => ?_) (fun hb4 => ?_)
 ·try simp only [zA,zO,zN,zM,zP,zQ,zD,zF,gd] at hb4
  have hil : i < e.n.length := by omega
  refine AC_skip ?_
  refine AC_seq ?_
  refine AC_block ?_
  refine AC_seq (AC_region ?_)
  refine p_ (S_elemN (e := 3) 1 rfl (.tmp rfl) (.tmp rfl) (by kernel_rfl) (by kernel_rfl) (by omega) (fun _ => rfl)) ?_
  refine p_ (S_loadP rfl (.tmp rfl) rfl (by kernel_rfl)) ?_
  refine as_ rfl rfl rfl rfl ?_
  refine AL_nil ?_
  refine AC_region ?_
  refine mv rfl rfl rfl rfl ?_
  refine mv rfl rfl rfl rfl ?_
  refine p_ (S_pcall rfl (AEvs.cons (.tmp rfl) AEvs.nil) (num_Text_ok (e.n[i]'hil) (hnf _ (List.getElem_mem hil)))) ?_
  refine p_ (S_buildSlice (e := 9) 1 rfl (AEvs.cons (.tmp rfl) AEvs.nil) rfl (by kernel_rfl) (by kernel_rfl) (by intro y hy; simp only [List.mem_cons, List.not_mem_nil, or_false] at hy; rcases hy with rfl <;> exact ⟨rfl, rfl⟩) (by decide) (by decide) (by decide)) ?_
  refine s_ (S_appendM (f := AV.S) (l := partsN e i) (l2 := [textL (e.n[i]'hil)]) (e := 9) (size := 1) (bytes := 16) (p := p) ([]) (((b3, .cells [.S (verbA e.verb.toNat).1, .int .i64 (verbA e.verb.toNat).2.1, .int .i64 (verbA e.verb.toNat).2.2]) :: (b1, .cells (entL e)) :: st)) rfl (.tmp rfl) (.tmp rfl) rfl hq (by kernel_rfl) (by simp) (fun _ => ⟨rfl, rfl⟩) (by simp only [List.length_singleton]; omega) (by simp only [List.length_singleton]; omega)) ?_
  rintro _ _ ⟨b8, k8, cap8, hx8, rfl, rfl⟩
  refine as_ rfl rfl rfl rfl ?_
  refine AL_nil ?_
  refine AC_region ?_
  refine p_ (S_addI rfl (.tmp rfl) (AEv.const _) (by omega) (by omega)) ?_
  refine mv rfl rfl rfl rfl ?_
  refine AL_nil ?_
  exact ⟨(i + 1, .row b8 k8 cap8), ⟨by dsimp only; omega, by dsimp only; rw [partsN_next hil]; exact hx8⟩, by dsimp only; omega, by dsimp only; rw [partsN_next hil]; exact (Sub.l (List.Sublist.refl _)), (.cons rfl (Le.of_eq (by dsimp only; rw [partsN_next hil])) (.cons rfl (by first | exact Le.refl _ | exact Le.nils | exact Le.row _ _ _ _ | exact Le.of_eq (by first | rfl | (simp; done) | (push_cast; rfl) | (simp; omega))) .nil)), (.cons rfl (Le.refl _) (.cons rfl (Le.refl _) (.cons rfl (Le.refl _) (.cons rfl (Le.refl _) (.cons rfl (Le.refl _) .nil)))))⟩
 try simp only [zA,zO,zN,zM,zP,zQ,zD,zF,gd] at hb4
 have hpa := partsN_all (e := e) (i := i) (by omega)
 refine AC_exit ?_
 refine AC_joinK (G := Own) [(1, _), (2, _), (3, _)] (fun p => p.ok ((partsE e).map AV.S)) (fun g => [(4, ownAV g 1 ((partsE e).map AV.S))]) (fun g => ownSt g 9 1 ((partsE e).map AV.S) ++ ((b3, .cells [.S (verbA e.verb.toNat).1, .int .i64 (verbA e.verb.toNat).2.1, .int .i64 (verbA e.verb.toNat).2.2]) :: (b1, .cells (entL e)) :: st)) (.cons rfl (Le.refl _) (.cons rfl (Le.refl _) (.cons rfl (Le.refl _) .nil))) ?_ ?_
 ·refine AC_seq (AC_region ?_)
  refine fl 2 ?_
  refine p_ (S_loadM rfl (.tmp rfl) (List.mem_append_right _ List.mem_cons_self) rfl (by kernel_rfl)) ?_
  refine AL_nil ?_
  refine AC_block ?_
  refine AC_seq (AC_region ?_)
  refine p_ (S_eql rfl (.tmp rfl) (AEv.const _)) ?_
  refine as_ rfl rfl rfl rfl ?_
  refine AL_nil ?_
  refine AC_cond (.tmp rfl) (fun hb7 => ?_) (fun hb7 => ?_)
  ·try simp only [zA,zO,zN,zM,zP,zQ,zD,zF,gd] at hb7
   have hk : (verbA e.verb.toNat).2.2 = 1 := hb7
   have hpe : partsE e = partsN e i ++ [toHexL e.data] := by rw [hpa]; unfold dataP; rw [if_pos hk]
   refine AC_region ?_
   refine mv rfl rfl rfl rfl ?_
   refine fl 2 ?_
   refine p_ (S_loadM rfl (.tmp rfl) (List.mem_append_right _ (List.mem_cons_of_mem _ List.mem_cons_self)) rfl (by kernel_rfl)) ?_
   refine p_ (S_pcall rfl (AEvs.cons (.tmp rfl) AEvs.nil) (toHex_ok e.data (by omega))) ?_
   refine p_ (S_buildSlice (e := 9) 1 rfl (AEvs.cons (.tmp rfl) AEvs.nil) rfl (by kernel_rfl) (by kernel_rfl) (by intro y hy; simp only [List.mem_cons, List.not_mem_nil, or_false] at hy; rcases hy with rfl <;> exact ⟨rfl, rfl⟩) (by decide) (by decide) (by decide)) ?_
   refine s_ (S_appendM (f := AV.S) (l := partsN e i) (l2 := [toHexL e.data]) (e := 9) (size := 1) (bytes := 16) (p := p) ([]) (((b3, .cells [.S (verbA e.verb.toNat).1, .int .i64 (verbA e.verb.toNat).2.1, .int .i64 (verbA e.verb.toNat).2.2]) :: (b1, .cells (entL e)) :: st)) rfl (.tmp rfl) (.tmp rfl) rfl hq (by kernel_rfl) (by simp) (fun _ => ⟨rfl, rfl⟩) (by simp only [List.length_singleton]; omega) (by simp only [List.length_singleton]; omega)) ?_
   rintro _ _ ⟨b8, k8, cap8, hx8, rfl, rfl⟩
   refine as_ rfl rfl rfl rfl ?_
   refine AL_nil ?_
   rw [← hpe] at hx8
   exact ⟨.row b8 k8 cap8, hx8, by rw [hpe]; exact (Sub.l (List.Sublist.refl _)), (.cons rfl (Le.of_eq (by rw [hpe])) .nil), (.cons rfl (Le.refl _) (.cons rfl (Le.refl _) (.cons rfl (Le.refl _) .nil)))⟩
  try simp only [zA,zO,zN,zM,zP,zQ,zD,zF,gd] at hb7
  have hk1 : ¬ (verbA e.verb.toNat).2.2 = 1 := hb7
  refine AC_seq (AC_region ?_)
  refine p_ (S_eql rfl (.tmp rfl) (AEv.const _)) ?_
  refine as_ rfl rfl rfl rfl ?_
  refine AL_nil ?_
  refine AC_cond (.tmp rfl) (fun hb10 => ?_) (fun hb10 => ?_)
  ·try simp only [zA,zO,zN,zM,zP,zQ,zD,zF,gd] at hb10
   have hk : (verbA e.verb.toNat).2.2 = 2 := hb10
   have hpe : partsE e = partsN e i ++ [e.data] := by rw [hpa]; unfold dataP; rw [if_neg hk1, if_pos hk]
   refine AC_region ?_
   refine mv rfl rfl rfl rfl ?_
   refine fl 2 ?_
   refine p_ (S_loadM rfl (.tmp rfl) (List.mem_append_right _ (List.mem_cons_of_mem _ List.mem_cons_self)) rfl (by kernel_rfl)) ?_
   refine p_ (S_buildSlice (e := 9) 1 rfl (AEvs.cons (.tmp rfl) AEvs.nil) rfl (by kernel_rfl) (by kernel_rfl) (by intro y hy; simp only [List.mem_cons, List.not_mem_nil, or_false] at hy; rcases hy with rfl <;> exact ⟨rfl, rfl⟩) (by decide) (by decide) (by decide)) ?_
   refine s_ (S_appendM (f := AV.S) (l := partsN e i) (l2 := [e.data]) (e := 9) (size := 1) (bytes := 16) (p := p) ([]) (((b3, .cells [.S (verbA e.verb.toNat).1, .int .i64 (verbA e.verb.toNat).2.1, .int .i64 (verbA e.verb.toNat).2.2]) :: (b1, .cells (entL e)) :: st)) rfl (.tmp rfl) (.tmp rfl) rfl hq (by kernel_rfl) (by simp) (fun _ => ⟨rfl, rfl⟩) (by simp only [List.length_singleton]; omega) (by simp only [List.length_singleton]; omega)) ?_
   rintro _ _ ⟨b8, k8, cap8, hx8, rfl, rfl⟩
   refine as_ rfl rfl rfl rfl ?_
   refine AL_nil ?_
   rw [← hpe] at hx8
   exact ⟨.row b8 k8 cap8, hx8, by rw [hpe]; exact (Sub.l (List.Sublist.refl _)), (.cons rfl (Le.of_eq (by rw [hpe])) .nil), (.cons rfl (Le.refl _) (.cons rfl (Le.refl _) (.cons rfl (Le.refl _) .nil)))⟩
  try simp only [zA,zO,zN,zM,zP,zQ,zD,zF,gd] at hb10
  have hk2 : ¬ (verbA e.verb.toNat).2.2 = 2 := hb10
  have hpe : partsE e = partsN e i := by rw [hpa]; unfold dataP; rw [if_neg hk1, if_neg hk2, List.append_nil]
  refine AC_skip ?_
  exact ⟨p, by rw [hpe]; exact hq, by rw [hpe]; exact (Sub.l (List.Sublist.refl _)), (.cons rfl (Le.of_eq (by rw [hpe])) .nil), (.cons rfl (Le.refl _) (.cons rfl (Le.refl _) (.cons rfl (Le.refl _) .nil)))⟩
 rintro p9 hq9
 try dsimp only
 simp only [List.cons_append, List.nil_append]
 refine AC_seq (AC_region ?_)
 refine mv rfl rfl rfl rfl ?_
 refine p_ (S_pcall rfl (AEvs.cons ((AEv.tmp rfl).le (Le_own hq9)) (AEvs.cons (AEv.S _) AEvs.nil)) (join_ok (partsE e) [32] (by have := (parts_short hr).2; omega) (by have := line_len hr; unfold lineE at this; omega))) ?_
 refine as_ rfl rfl rfl rfl ?_
 refine AL_nil (AC_ret ?_)
 refine ret_tmp st rfl rfl (Sub.l ((List.sublist_append_of_sublist_right ((List.sublist_cons_self _ _).trans (List.sublist_cons_self _ _))))) (Conv.refl (Sub.l ((List.sublist_append_of_sublist_right ((List.sublist_cons_self _ _).trans (List.sublist_cons_self _ _))))) _) ⟨by rw [hx]; rfl, rfl⟩ (.inl rfl)
theorem scr_Parse_ok (s : List UInt8) (hs : s.length ≤ 1000000) : GCalls Tryz.prog tabs 16 [.S s] (entP (parseE s)) := by
 intro st hG
 refine co 83 Tryz.func16 ?_
 obtain ⟨w, l, hps⟩ : ∃ w l, partsB 32 s = w :: l := by
  cases h : partsB 32 s with
  | nil => exact absurd h (partsB_ne 32 s)
  | cons w l => exact ⟨w, l, rfl⟩
 have hpl : ∀ x ∈ w :: l, x.length ≤ s.length := by rw [← hps]; exact partsB_le 32 s
 have hpc : (w :: l).length ≤ s.length + 1 := by rw [← hps]; exact parts_few 32 s
 have hflt := find_lt w
 obtain ⟨hv1, hv2, hv3, hv4, hv5, hv6, hv7⟩ := verb_facts (find_lt w)
 simp only [List.length_cons] at hpc
 have hcons : (w :: l).length = l.length + 1 := rfl
 refine AC_seq (AC_region ?_)
 refine s_ (S_alloc [.int .i64 0, .slice none 0 0, .string ⟨#[]⟩] rfl (by kernel_rfl)) ?_
 rintro _ _ ⟨b2, rfl, rfl⟩
 refine ac rfl rfl rfl ?_
 refine AL_nil (AC_seq (AC_region ?_))
 refine mv rfl rfl rfl rfl ?_
 refine p_ (S_pcall rfl (AEvs.cons (.tmp rfl) (AEvs.cons (AEv.S _) AEvs.nil)) ((strings_Split_ok s 32 (by omega)).of_eq (congrArg (fun x => AV.sl (strsV x)) hps))) ?_
 refine as_ rfl rfl rfl rfl ?_
 refine AL_nil (AC_seq (AC_region ?_))
 refine mv rfl rfl rfl rfl ?_
 refine p_ (S_elemN (e := 9) (i := 0) 1 rfl (.tmp rfl) (AEv.const _) (by kernel_rfl) (by kernel_rfl) (by simp only [List.length_cons]; omega) (fun _ => rfl)) ?_
 refine p_ (S_loadP rfl (.tmp rfl) rfl (by kernel_rfl)) ?_
 refine p_ (S_gcall rfl (AEvs.cons (.tmp rfl) AEvs.nil) ((find_ok w) _ (fun p hp => by repeat (first | exact hG p hp | exact hG p (List.mem_cons_of_mem _ hp) | refine List.mem_cons_of_mem _ ?_ | refine List.mem_append_right _ ?_)))) ?_
 refine p_ (S_build (t := 36) (pl := [(0, 1), (1, 1), (2, 1)]) (zs := [.int .i64 0, .slice none 0 0, .string ⟨#[]⟩]) rfl (AEvs.cons (.tmp rfl) AEvs.nil) (by kernel_rfl) rfl) ?_
 refine s_ (S_alloc [.int .i64 0, .slice none 0 0, .string ⟨#[]⟩] rfl (by kernel_rfl)) ?_
 rintro _ _ ⟨b5, rfl, rfl⟩
 refine stW 0 ?_
 refine AL_nil (AC_seq (AC_region ?_))
 refine fl 0 ?_
 refine ld 0 ?_
 refine p_ (S_elemA (e := 92) (len := 24) (i := ((findV w : Nat) : Int)) 3 rfl (AEv.global _) (.tmp rfl) (by kernel_rfl) (by kernel_rfl) (by omega) (by omega)) ?_
 refine p_ ((S_loadKs (vs := verbsV) (m := 3) rfl (.tmp rfl) (List.mem_cons_of_mem _ (List.mem_cons_of_mem _ (hG _ tab_verbs))) (by kernel_rfl) (by rw [show verbsV.length = 72 from rfl]; omega)).ofV (V' := .agg [.S (verbA (findV w)).1, .int .i64 (verbA (findV w)).2.1, .int .i64 (verbA (findV w)).2.2]) (congrArg AV.agg (verbs_row (v := ((findV w : Nat) : Int)) (by omega) (by omega)))) ?_
 refine s_ (S_alloc [.string ⟨#[]⟩, .int .i64 0, .int .i64 0] rfl (by kernel_rfl)) ?_
 rintro _ _ ⟨b6, rfl, rfl⟩
 refine stW 0 ?_
 refine AL_nil ?_
 refine AC_seq ?_
 refine AC_seq (AC_region ?_)
 refine fl 0 ?_
 refine ld 1 ?_
 refine p_ (S_eql rfl (.tmp rfl) (AEv.const _)) ?_
 refine mv rfl rfl rfl rfl ?_
 refine g_ (fun _ => mA) ?_
 refine g_ (fun _ => by first | exact S_lenM (e := 9) rfl (AEv.cd (.tmp rfl)) (by kernel_rfl) | exact S_len (e := 9) rfl (AEv.cd (.tmp rfl)) (by kernel_rfl)) ?_
 refine g_ (fun _ => S_subI rfl (AEv.cd (.tmp rfl)) (AEv.const _) (by (try simp only [gd, Bool.and_eq_true, Bool.or_eq_true, Bool.not_eq_true', Bool.not_eq_false', decide_eq_true_eq, decide_eq_false_iff_not, Bool.or_eq_false_iff, Bool.and_eq_false_iff] at *); omega) (by (try simp only [gd, Bool.and_eq_true, Bool.or_eq_true, Bool.not_eq_true', Bool.not_eq_false', decide_eq_true_eq, decide_eq_false_iff_not, Bool.or_eq_false_iff, Bool.and_eq_false_iff] at *); omega)) ?_
 refine g_ (fun _ => fA 1) ?_
 refine g_ (fun _ => lA 0) ?_
 refine g_ (fun _ => S_lss rfl (AEv.cd (.tmp rfl)) (AEv.cd (.tmp rfl))) ?_
 refine p_ (S_or rfl (.tmp rfl) (fun hp22 => (AEv.cd (.tmp rfl)))) ?_
 refine AL_nil ?_
 refine AC_cond (.tmp rfl) (fun hb23 => ?_) (fun hb23 => ?_)
 ·try simp only [zA,zO,zN,zM,zP,zQ,zD,zF,gd] at hb23
  have hx : parseE s = none := by
   rcases hb23 with h | h
   ·exact parse_noverb hps (by omega)
   ·exact parse_few hps (by simp only [List.length_cons] at h; omega)
  refine AC_seq (AC_region ?_)
  refine p_ (S_build (t := 36) (pl := [(0, 1), (1, 1), (2, 1)]) (zs := [.int .i64 0, .slice none 0 0, .string ⟨#[]⟩]) rfl AEvs.nil (by kernel_rfl) rfl) ?_
  refine stW 2 ?_
  refine ac rfl rfl rfl ?_
  refine AL_nil (AC_ret ?_)
  refine ret_outs st rfl (by decide) (OutsR.row 2 rfl rfl (by kernel_rfl) (OutsR.tmp rfl OutsR.nil)) (Sub.l (List.Sublist.cons _ (List.Sublist.cons _ (List.Sublist.cons _ (List.Sublist.refl _))))) (Conv.le (Sub.l (List.Sublist.cons _ (List.Sublist.cons _ (List.Sublist.cons _ (List.Sublist.refl _))))) (Les.tup (.cons (Les.agg (.cons (Le.refl _) (.cons Le.nils (.cons (Le.refl _) .nil)))) (.cons (Le.refl _) .nil)))) ⟨by rw [hx]; rfl, rfl⟩ (.inl rfl)
 try simp only [zA,zO,zN,zM,zP,zQ,zD,zF,gd] at hb23
 simp only [List.length_cons] at hb23
 have h0 : findV w ≠ 0 := by omega
 have hlk : (verbA (findV w)).2.1 ≤ (l.length : Int) := by omega
 have hlk2 : (l.take (verbA (findV w)).2.1.toNat).length = (verbA (findV w)).2.1.toNat := by rw [List.length_take]; omega
 refine AC_skip ?_
 refine AC_seq ?_
 refine AC_seq (AC_region ?_)
 refine mv rfl rfl rfl rfl ?_
 refine fl 1 ?_
 refine ld 0 ?_
 refine p_ (S_addI rfl (AEv.const _) (.tmp rfl) (by omega) (by omega)) ?_
 refine p_ ((S_cutLHM (e := 9) (i := 1) (j := 1 + (verbA (findV w)).2.1.toNat) 1 rfl (.tmp rfl) (AEv.const _) ((AEv.tmp rfl).le (Le.of_eq (congrArg (AV.int _) (by omega)))) (by kernel_rfl) (by kernel_rfl) (fun _ => rfl) (by omega) (by simp only [List.length_cons]; omega)).ofV (V' := .sl (strsV (l.take (verbA (findV w)).2.1.toNat))) (congrArg (fun x => AV.sl (strsV x)) (by rw [Nat.add_comm, List.take_succ_cons]; rfl))) ?_
 refine p_ (by first | exact S_lenM (e := 9) rfl (.tmp rfl) (by kernel_rfl) | exact S_len (e := 9) rfl (.tmp rfl) (by kernel_rfl)) ?_
 refine p_ (S_move rfl (AEv.const _)) ?_
 refine AL_nil ?_
 refine AC_block ?_
 refine AC_loopK (G := Nat × Own) [(2, _), (4, _), (5, _), (6, _), (40, _), (41, _)] (fun g => g.1 ≤ (l.take (verbA (findV w)).2.1.toNat).length ∧ g.2.ok (intsV (numsOf (l.take (g.1)))) ∧ ∀ j (hj : j < l.length), j < g.1 → (parseV l[j] 1073741824).2 = true) (fun g => [(42, .int .i64 (g.1 : Int))]) (fun g => (b6, .cells [.S (verbA (findV w)).1, .int .i64 (verbA (findV w)).2.1, .int .i64 (verbA (findV w)).2.2]) :: (b5, .cells [.int .i64 ((findV w : Nat) : Int), ownAV g.2 1 (intsV (numsOf (l.take (g.1)))), .S []]) :: (b2, .cells [.int .i64 0, .nils, .S []]) :: (ownSt g.2 3 1 (intsV (numsOf (l.take (g.1)))) ++ st)) (fun g => (l.take (verbA (findV w)).2.1.toNat).length - g.1) ((0, .nil)) (⟨Nat.zero_le _, rfl, fun j _ h => absurd h (Nat.not_lt_zero _)⟩) (Sub.l (List.Sublist.refl _)) (.cons rfl (Le.refl _) (.cons rfl (Le.refl _) (.cons rfl (Le.refl _) (.cons rfl (Le.refl _) (.cons rfl (Le.refl _) (.cons rfl (Le.refl _) .nil)))))) (.cons rfl (by first | exact Le.refl _ | exact Le.nils | exact Le.row _ _ _ _ | exact Le.of_eq (by first | rfl | (simp; done) | (push_cast; rfl) | (simp; omega))) .nil) ?_
 rintro ⟨i, p⟩ ⟨hi, hq, hall⟩
 try dsimp only
 simp only [List.cons_append, List.nil_append]
 dsimp only at hi hq hall
 have hnl := nums_len (l.take i)
 rw [List.length_take] at hnl
 refine AC_seq (AC_region ?_)
 refine p_ (S_lss rfl (.tmp rfl) (.tmp rfl)) ?_
 refine AL_nil ?_
 refine AC_seq ?_
 refine AC_cond (.tmp rfl) (fun hb24 => ?_) (fun hb24 => ?_)
 ·try simp only [zA,zO,zN,zM,zP,zQ,zD,zF,gd] at hb24
  have hik : i < (l.take (verbA (findV w)).2.1.toNat).length := by omega
  have hil : i < l.length := by rw [List.length_take] at hik; omega
  refine AC_skip ?_
  refine AC_seq ?_
  refine AC_block ?_
  refine AC_seq (AC_region ?_)
  refine p_ (S_elemN (e := 9) 1 rfl (.tmp rfl) (.tmp rfl) (by kernel_rfl) (by kernel_rfl) (by omega) (fun _ => rfl)) ?_
  refine p_ ((S_loadP rfl (.tmp rfl) rfl (by kernel_rfl)).ofV (V' := .S (l[i]'hil)) (congrArg AV.S List.getElem_take)) ?_
  refine as_ rfl rfl rfl rfl ?_
  refine AL_nil (AC_seq (AC_region ?_))
  refine mv rfl rfl rfl rfl ?_
  refine p_ (S_pcall rfl (AEvs.cons (.tmp rfl) (AEvs.cons (AEv.const _) AEvs.nil)) (num_Parse_ok (l[i]'hil) 1073741824)) ?_
  refine mv rfl rfl rfl rfl ?_
  refine ex 0 ?_
  refine ex 1 ?_
  refine as_ rfl rfl rfl rfl ?_
  refine as_ rfl rfl rfl rfl ?_
  refine AL_nil ?_
  refine AC_seq ?_
  refine AC_seq (AC_region ?_)
  refine mv rfl rfl rfl rfl ?_
  refine p_ (S_not rfl (.tmp rfl)) ?_
  refine AL_nil ?_
  refine AC_cond (.tmp rfl) (fun hb25 => ?_) (fun hb25 => ?_)
  ·try simp only [zA,zO,zN,zM,zP,zQ,zD,zF,gd] at hb25
   have hx := parse_nonum hps (by omega) hil (by simpa using hb25)
   refine AC_seq (AC_region ?_)
   refine p_ (S_build (t := 36) (pl := [(0, 1), (1, 1), (2, 1)]) (zs := [.int .i64 0, .slice none 0 0, .string ⟨#[]⟩]) rfl AEvs.nil (by kernel_rfl) rfl) ?_
   refine stW 2 ?_
   refine ac rfl rfl rfl ?_
   refine AL_nil (AC_ret ?_)
   refine ret_outs st rfl (by decide) (OutsR.row 2 rfl rfl (by kernel_rfl) (OutsR.tmp rfl OutsR.nil)) (Sub.l ((((List.sublist_append_right _ _).cons _).cons _).cons _)) (Conv.le (Sub.l ((((List.sublist_append_right _ _).cons _).cons _).cons _)) (Les.tup (.cons (Les.agg (.cons (Le.refl _) (.cons Le.nils (.cons (Le.refl _) .nil)))) (.cons (Le.refl _) .nil)))) ⟨by rw [hx]; rfl, rfl⟩ (.inl rfl)
  try simp only [zA,zO,zN,zM,zP,zQ,zD,zF,gd] at hb25
  have hok : (parseV (l[i]'hil) 1073741824).2 = true := by simpa using hb25
  refine AC_skip ?_
  refine AC_region ?_
  refine fl 1 ?_
  refine ld 1 ?_
  refine mv rfl rfl rfl rfl ?_
  refine p_ (S_buildSlice (e := 3) 1 rfl (AEvs.cons (.tmp rfl) AEvs.nil) rfl (by kernel_rfl) (by kernel_rfl) (by intro y hy; simp only [List.mem_cons, List.not_mem_nil, or_false] at hy; rcases hy with rfl <;> exact ⟨rfl, rfl⟩) (by decide) (by decide) (by decide)) ?_
  refine s_ (S_appendM (f := (fun n : Int => AV.int .i64 n)) (l := numsOf (l.take i)) (l2 := [(parseV (l[i]'hil) 1073741824).1]) (e := 3) (size := 1) (bytes := 8) (p := p) ([_, _, _]) (st) rfl (.tmp rfl) (.tmp rfl) rfl hq (by kernel_rfl) (by simp) (fun _ => ⟨rfl, rfl⟩) (by rw [nums_len, List.length_take]; simp only [List.length_singleton]; omega) (by rw [nums_len, List.length_take]; simp only [List.length_singleton]; omega)) ?_
  rintro _ _ ⟨b8, k8, cap8, hx8, rfl, rfl⟩
  refine fl 1 ?_
  refine s_ (S_store 1 rfl (.tmp rfl) (.tmp rfl) rfl (by first | exact Nat.le_of_ble_eq_true rfl | simp) (by first | rfl | exact ownAV_one _ _ _) (by kernel_rfl)) ?_
  rintro _ _ ⟨rfl, rfl⟩
  refine AL_nil ?_
  refine AC_region ?_
  refine p_ (S_addI rfl (.tmp rfl) (AEv.const _) (by omega) (by omega)) ?_
  refine mv rfl rfl rfl rfl ?_
  refine AL_nil ?_
  refine ⟨(i + 1, .row b8 k8 cap8), ⟨by dsimp only; omega, by dsimp only; rw [nums_next hil]; exact hx8, fun j hj h => ?_⟩, by dsimp only; omega, by dsimp only; rw [nums_next hil]; exact (Sub.l (List.Sublist.refl _)), (.cons rfl (by first | exact Le.refl _ | exact Le.nils | exact Le.row _ _ _ _ | exact Le.of_eq (by first | rfl | (simp; done) | (push_cast; rfl) | (simp; omega))) .nil), (.cons rfl (Le.refl _) (.cons rfl (Le.refl _) (.cons rfl (Le.refl _) (.cons rfl (Le.refl _) (.cons rfl (Le.refl _) (.cons rfl (Le.refl _) .nil))))))⟩
  rcases Nat.lt_or_ge j i with h9 | h9
  ·exact hall j hj h9
  ·have e9 : j = i := by dsimp only at h; omega
   subst e9; exact hok
 try simp only [zA,zO,zN,zM,zP,zQ,zD,zF,gd] at hb24
 have hik : i = (verbA (findV w)).2.1.toNat := by omega
 subst hik
 have hcand := parse_cand hps h0 hlk fun j hj h => hall j hj (by omega)
 refine AC_exit ?_
 refine AC_seq ?_
 refine AC_draw (by kernel_rfl) (by kernel_rfl) (.cons rfl (Q_p rfl (S_field 2 rfl (.tmp rfl) (by kernel_rfl))) <|
   .cons rfl (Q_p rfl (S_load 0 rfl (.tmp rfl) rfl rfl (by kernel_rfl))) <|
   .cons rfl (Q_p rfl (S_move rfl (.tmp rfl))) <|
   .cons rfl (Q_p rfl (S_field 1 rfl (.tmp rfl) (by kernel_rfl))) <|
   .cons rfl (Q_p rfl (S_load 0 rfl (.tmp rfl) rfl rfl (by kernel_rfl))) <|
   .cons rfl (Q_p rfl (S_addI rfl (AEv.const _) (.tmp rfl) (by omega) (by omega))) <|
   .cons rfl (Q_p rfl ((S_cutLM (e := 9) (i := 1 + (verbA (findV w)).2.1.toNat) 1 rfl (.tmp rfl) ((AEv.tmp rfl).le (Le.of_eq (congrArg (AV.int _) (by omega)))) (by kernel_rfl) (by kernel_rfl) (fun _ => rfl) (by simp only [List.length_cons]; omega)).ofV (V' := .sl (strsV (l.drop (verbA (findV w)).2.1.toNat))) (congrArg (fun x => AV.sl (strsV x)) (by rw [Nat.add_comm, List.drop_succ_cons])))) <|
   .cons rfl (Q_p rfl (S_pcall rfl (AEvs.cons (.tmp rfl) (AEvs.cons (.tmp rfl) AEvs.nil)) (data_ok (verbA (findV w)).2.2 (l.drop (verbA (findV w)).2.1.toNat) (fun x hx => by have := hpl x (List.mem_cons_of_mem _ (List.mem_of_mem_drop hx)); omega)))) <|
   .cons rfl (Q_p rfl (S_move rfl (.tmp rfl))) <|
   .cons rfl (Q_p rfl (S_extract 0 rfl (.tmp rfl) rfl)) <|
   .cons rfl (Q_p rfl (S_extract 1 rfl (.tmp rfl) rfl)) <|
   .cons rfl (Q_p rfl (S_assign rfl (.tmp rfl))) <|
   .cons rfl (Q_p rfl (S_assign rfl (.tmp rfl))) <|
   .nil) ?_
 refine AC_seq ?_
 refine AC_seq (AC_region ?_)
 refine mv rfl rfl rfl rfl ?_
 refine fl 2 ?_
 refine st1 1 ?_
 refine AL_nil (AC_seq (AC_region ?_))
 refine mv rfl rfl rfl rfl ?_
 refine p_ (S_not rfl (.tmp rfl)) ?_
 refine mv rfl rfl rfl rfl ?_
 refine g_ (fun _ => (S_loadN (m := 3) 1 rfl (.tmp rfl) rfl (by kernel_rfl) (by exact Nat.le_of_ble_eq_true rfl)).leV (V' := entAV (candE w l)) (by exact (Les.agg (.cons (Le.refl _) (.cons (Le_own hq) (.cons (Le.refl _) .nil)))))) ?_
 refine g_ (fun _ => S_gcall rfl (AEvs.cons (AEv.cd (.tmp rfl)) AEvs.nil) ((scr_Right_ok (candE w l) (by show (numsOf _).length ≤ _; rw [nums_len, List.length_take]; omega)) _ (fun p hp => by repeat (first | exact hG p hp | exact hG p (List.mem_cons_of_mem _ hp) | refine List.mem_cons_of_mem _ ?_ | refine List.mem_append_right _ ?_)))) ?_
 refine g_ (fun _ => S_not rfl (AEv.cd (.tmp rfl))) ?_
 refine p_ (S_or rfl (.tmp rfl) (fun hp37 => (AEv.cd (.tmp rfl)))) ?_
 refine AL_nil ?_
 refine AC_cond (.tmp rfl) (fun hb38 => ?_) (fun hb38 => ?_)
 ·try simp only [zA,zO,zN,zM,zP,zQ,zD,zF,gd] at hb38
  have hx : parseE s = none := by rw [hcand, if_neg (fun h => hb38.elim (fun k => by rw [h.1] at k; cases k) (fun k => by rw [h.2] at k; cases k))]
  refine AC_seq (AC_region ?_)
  refine p_ (S_build (t := 36) (pl := [(0, 1), (1, 1), (2, 1)]) (zs := [.int .i64 0, .slice none 0 0, .string ⟨#[]⟩]) rfl AEvs.nil (by kernel_rfl) rfl) ?_
  refine stW 2 ?_
  refine ac rfl rfl rfl ?_
  refine AL_nil (AC_ret ?_)
  refine ret_outs st rfl (by decide) (OutsR.row 2 rfl rfl (by kernel_rfl) (OutsR.tmp rfl OutsR.nil)) (Sub.l ((((List.sublist_append_right _ _).cons _).cons _).cons _)) (Conv.le (Sub.l ((((List.sublist_append_right _ _).cons _).cons _).cons _)) (Les.tup (.cons (Les.agg (.cons (Le.refl _) (.cons Le.nils (.cons (Le.refl _) .nil)))) (.cons (Le.refl _) .nil)))) ⟨by rw [hx]; rfl, rfl⟩ (.inl rfl)
 try simp only [zA,zO,zN,zM,zP,zQ,zD,zF,gd] at hb38
 have hx : parseE s = some (candE w l) := by rw [hcand, if_pos hb38]
 refine AC_skip ?_
 refine AC_seq (AC_region ?_)
 refine p_ ((S_loadN (m := 3) 1 rfl (.tmp rfl) rfl (by kernel_rfl) (by exact Nat.le_of_ble_eq_true rfl)).leV (V' := entAV (candE w l)) (by exact (Les.agg (.cons (Le.refl _) (.cons (Le_own hq) (.cons (Le.refl _) .nil)))))) ?_
 refine stW 2 ?_
 refine ac rfl rfl rfl ?_
 refine AL_nil (AC_ret ?_)
 refine ret_outs st rfl (by decide) (OutsR.row 2 rfl rfl (by kernel_rfl) (OutsR.tmp rfl OutsR.nil)) (Sub.l ((((List.sublist_append_right _ _).cons _).cons _).cons _)) (Conv.refl (Sub.l ((((List.sublist_append_right _ _).cons _).cons _).cons _)) _) ⟨by rw [hx]; rfl, rfl⟩ (.inl rfl)
theorem scr_Read_ok (s : List UInt8) (hs : s.length ≤ 1000000) : GCalls Tryz.prog tabs 17 [.S s] (.tup [.sl ((readV s).1.map entAV), erV 45 185 (lineEr (readV s).2)]) := by
 intro st hG
 refine co 44 Tryz.func17 ?_
 have hpl := partsB_le 10 s
 have hpc := parts_few 10 s
 have hel0 := ents_len
 refine AC_seq (AC_region ?_)
 refine ac rfl rfl rfl ?_
 refine ac rfl rfl rfl ?_
 refine AL_nil (AC_seq (AC_region ?_))
 refine ac rfl rfl rfl ?_
 refine AL_nil ?_
 refine AC_seq ?_
 refine AC_seq (AC_region ?_)
 refine mv rfl rfl rfl rfl ?_
 refine p_ (S_pcall rfl (AEvs.cons (.tmp rfl) (AEvs.cons (AEv.S _) AEvs.nil)) (strings_Split_ok s 10 (by omega))) ?_
 refine p_ (by first | exact S_lenM (e := 9) rfl (.tmp rfl) (by kernel_rfl) | exact S_len (e := 9) rfl (.tmp rfl) (by kernel_rfl)) ?_
 refine p_ (S_move rfl (AEv.const _)) ?_
 refine AL_nil ?_
 refine AC_block ?_
 refine AC_loopK (G := Nat × Own) [(10, _), (11, _)] (fun g => g.1 ≤ (partsB 10 s).length ∧ g.2.ok ((entsOf ((partsB 10 s).take g.1)).map entAV) ∧ ∀ j (hj : j < (partsB 10 s).length), j < g.1 → badB (partsB 10 s)[j] = false) (fun g => [(4, ownAV g.2 3 ((entsOf ((partsB 10 s).take g.1)).map entAV)), (12, .int .i64 (g.1 : Int))]) (fun g => ownSt g.2 36 3 ((entsOf ((partsB 10 s).take (g.1))).map entAV) ++ st) (fun g => (partsB 10 s).length - g.1) ((0, .nil)) (⟨Nat.zero_le _, rfl, fun j _ h => absurd h (Nat.not_lt_zero _)⟩) (Sub.l (List.Sublist.refl _)) (.cons rfl (Le.refl _) (.cons rfl (Le.refl _) .nil)) (.cons rfl (by first | exact Le.refl _ | exact Le.nils | exact Le.row _ _ _ _ | exact Le.of_eq (by first | rfl | (simp; done) | (push_cast; rfl) | (simp; omega))) (.cons rfl (by first | exact Le.refl _ | exact Le.nils | exact Le.row _ _ _ _ | exact Le.of_eq (by first | rfl | (simp; done) | (push_cast; rfl) | (simp; omega))) .nil)) ?_
 rintro ⟨i, p⟩ ⟨hi, hq, hall⟩
 try dsimp only
 simp only [List.cons_append, List.nil_append]
 dsimp only at hi hq hall
 have hel := hel0 ((partsB 10 s).take i)
 rw [List.length_take] at hel
 refine AC_seq (AC_region ?_)
 refine p_ (S_lss rfl (.tmp rfl) (.tmp rfl)) ?_
 refine AL_nil ?_
 refine AC_seq ?_
 refine AC_cond (.tmp rfl) (fun hb1 => ?_) (fun hb1 => ?_)
 ·try simp only [zA,zO,zN,zM,zP,zQ,zD,zF,gd] at hb1
  have hil : i < (partsB 10 s).length := by omega
  refine AC_skip ?_
  refine AC_seq ?_
  refine AC_block ?_
  refine AC_seq (AC_region ?_)
  refine mv rfl rfl rfl rfl ?_
  refine p_ (S_elemN (e := 9) 1 rfl (.tmp rfl) (.tmp rfl) (by kernel_rfl) (by kernel_rfl) (by omega) (fun _ => rfl)) ?_
  refine p_ (S_loadP rfl (.tmp rfl) rfl (by kernel_rfl)) ?_
  refine as_ rfl rfl rfl rfl ?_
  refine as_ rfl rfl rfl rfl ?_
  refine AL_nil ?_
  refine AC_seq ?_
  refine AC_seq (AC_region ?_)
  refine mv rfl rfl rfl rfl ?_
  refine p_ (S_eqS rfl (.tmp rfl) (AEv.S _)) ?_
  refine mv rfl rfl rfl rfl ?_
  refine g_ (fun _ => mA) ?_
  refine g_ (fun _ => S_index rfl (AEv.cd (.tmp rfl)) (AEv.const _) (by kernel_rfl) (by omega) (by (try simp only [gd, Bool.not_eq_true', Bool.not_eq_false', decide_eq_true_eq, decide_eq_false_iff_not] at *); exact Int.natCast_pos.2 (List.length_pos_iff.2 (by assumption)))) ?_
  refine g_ (fun _ => S_eql rfl (AEv.cd (.tmp rfl)) (AEv.const _)) ?_
  refine p_ (S_or rfl (.tmp rfl) (fun hp11 => (AEv.cd (.tmp rfl)))) ?_
  refine AL_nil ?_
  refine AC_cond (.tmp rfl) (fun hb12 => ?_) (fun hb12 => ?_)
  ·try simp only [zA,zO,zN,zM,zP,zQ,zD,zF,gd] at hb12
   have hsk : skipB ((partsB 10 s)[i]'hil) = true := skip_yes hb12
   refine AC_exit ?_
   refine AC_region ?_
   refine p_ (S_addI rfl (.tmp rfl) (AEv.const _) (by omega) (by omega)) ?_
   refine mv rfl rfl rfl rfl ?_
   refine AL_nil ?_
   refine ⟨(i + 1, p), ⟨by dsimp only; omega, by dsimp only; rw [ents_skip hil hsk]; exact hq, fun j hj h => ?_⟩, by dsimp only; omega, by dsimp only; rw [ents_skip hil hsk]; exact (Sub.l (List.Sublist.refl _)), (.cons rfl (Le.of_eq (by dsimp only; first | rw [ents_skip hil hsk] | rw [ents_nextD hil hsk hso])) (.cons rfl (by first | exact Le.refl _ | exact Le.nils | exact Le.row _ _ _ _ | exact Le.of_eq (by first | rfl | (simp; done) | (push_cast; rfl) | (simp; omega))) .nil)), (.cons rfl (Le.refl _) (.cons rfl (Le.refl _) .nil))⟩
   rcases Nat.lt_or_ge j i with h9 | h9
   ·exact hall j hj h9
   ·have e9 : j = i := by dsimp only at h; omega
    subst e9; exact bad_skip hsk
  try simp only [zA,zO,zN,zM,zP,zQ,zD,zF,gd] at hb12
  have hsk : ¬ skipB ((partsB 10 s)[i]'hil) = true := skip_no hb12.1 hb12.2
  refine AC_skip ?_
  refine AC_seq (AC_region ?_)
  refine mv rfl rfl rfl rfl ?_
  refine p_ (S_gcall rfl (AEvs.cons (.tmp rfl) AEvs.nil) ((scr_Parse_ok ((partsB 10 s)[i]'hil) (by have := hpl _ (List.getElem_mem hil); omega)) _ (fun p hp => by repeat (first | exact hG p hp | exact hG p (List.mem_cons_of_mem _ hp) | refine List.mem_cons_of_mem _ ?_ | refine List.mem_append_right _ ?_)))) ?_
  refine mv rfl rfl rfl rfl ?_
  refine ex 0 ?_
  refine ex 1 ?_
  refine s_ (S_alloc [.int .i64 0, .slice none 0 0, .string ⟨#[]⟩] rfl (by kernel_rfl)) ?_
  rintro _ _ ⟨b7, rfl, rfl⟩
  refine stW 0 ?_
  refine as_ rfl rfl rfl rfl ?_
  refine AL_nil ?_
  refine AC_seq ?_
  refine AC_seq (AC_region ?_)
  refine mv rfl rfl rfl rfl ?_
  refine p_ (S_neq rfl (.tmp rfl) (AEv.const _)) ?_
  refine AL_nil ?_
  refine AC_cond (.tmp rfl) (fun hb14 => ?_) (fun hb14 => ?_)
  ·try simp only [zA,zO,zN,zM,zP,zQ,zD,zF,gd] at hb14
   have hno := code_none hb14
   have hx : readV s = ([], i + 1) := by
    have h9 := bad_hit hil (bad_yes hsk hno) fun j hj h => hall j hj h
    unfold readV; rw [h9, if_neg (by omega)]
   refine AC_seq (AC_region ?_)
   refine mv rfl rfl rfl rfl ?_
   refine mv rfl rfl rfl rfl ?_
   refine p_ (S_addI rfl (.tmp rfl) (AEv.const _) (by omega) (by omega)) ?_
   refine p_ (S_pcall rfl (AEvs.cons (.tmp rfl) AEvs.nil) (num_Text_ok ((i : Int) + 1) ⟨by omega, by omega⟩)) ?_
   refine p_ (S_cat rfl (AEv.S _) (.tmp rfl) (by first | omega | (have := textL_len (a := (i : Int) + 1) ⟨by omega, by omega⟩; simp only [List.length_cons, List.length_nil]; omega))) ?_
   refine p_ (S_buildSlice (e := 9) 1 rfl (AEvs.cons (.tmp rfl) AEvs.nil) rfl (by kernel_rfl) (by kernel_rfl) (by intro y hy; simp only [List.mem_cons, List.not_mem_nil, or_false] at hy; rcases hy with rfl <;> exact ⟨rfl, rfl⟩) (by decide) (by decide) (by decide)) ?_
   refine p_ (S_pcall rfl (AEvs.cons (y := .int .i64 460) ((AEv.tmp rfl).le (Le.of_eq (by rw [hno]; rfl))) (AEvs.cons (.tmp rfl) AEvs.nil)) (fail_New_ok 460 [[108, 105, 110, 101, 32] ++ textL ((i : Int) + 1)] (by simp))) ?_
   refine ac rfl rfl rfl ?_
   refine as_ rfl rfl rfl rfl ?_
   refine AL_nil (AC_ret ?_)
   refine ret_tmps (ts := [2, 3]) st rfl (by decide) rfl (Sub.l ((List.sublist_append_right _ _).cons _)) (Conv.le (Sub.l ((List.sublist_append_right _ _).cons _)) (Les.tup (.cons Le.nils (.cons (Le.refl _) .nil)))) ⟨by rw [hx]; rfl, rfl⟩ (.inl rfl)
  try simp only [zA,zO,zN,zM,zP,zQ,zD,zF,gd] at hb14
  have hso := code_some hb14
  refine AC_skip ?_
  refine AC_region ?_
  refine mv rfl rfl rfl rfl ?_
  refine ldN 3 0 ?_
  refine p_ (S_buildSlice (e := 36) 3 rfl (AEvs.cons (.tmp rfl) AEvs.nil) rfl (by kernel_rfl) (by kernel_rfl) (by intro y hy; simp only [List.mem_cons, List.not_mem_nil, or_false] at hy; rcases hy with rfl <;> exact ⟨rfl, rfl⟩) (by decide) (by decide) (by decide)) ?_
  refine s_ (S_appendM (f := entAV) (l := entsOf ((partsB 10 s).take i)) (l2 := [((parseE ((partsB 10 s)[i]'hil)).getD ent0)]) (e := 36) (size := 3) (bytes := 48) (p := p) ([_]) (st) rfl (.tmp rfl) (.tmp rfl) rfl hq (by kernel_rfl) (by simp) (fun _ => ⟨rfl, rfl⟩) (by simp only [List.length_singleton]; omega) (by simp only [List.length_singleton]; omega)) ?_
  rintro _ _ ⟨b8, k8, cap8, hx8, rfl, rfl⟩
  refine as_ rfl rfl rfl rfl ?_
  refine AL_nil ?_
  refine AC_region ?_
  refine p_ (S_addI rfl (.tmp rfl) (AEv.const _) (by omega) (by omega)) ?_
  refine mv rfl rfl rfl rfl ?_
  refine AL_nil ?_
  refine ⟨(i + 1, .row b8 k8 cap8), ⟨by dsimp only; omega, by dsimp only; rw [ents_nextD hil hsk hso]; exact hx8, fun j hj h => ?_⟩, by dsimp only; omega, by dsimp only; rw [ents_nextD hil hsk hso]; exact (Sub.l (List.sublist_cons_self _ _)), (.cons rfl (Le.of_eq (by dsimp only; first | rw [ents_skip hil hsk] | rw [ents_nextD hil hsk hso])) (.cons rfl (by first | exact Le.refl _ | exact Le.nils | exact Le.row _ _ _ _ | exact Le.of_eq (by first | rfl | (simp; done) | (push_cast; rfl) | (simp; omega))) .nil)), (.cons rfl (Le.refl _) (.cons rfl (Le.refl _) .nil))⟩
  rcases Nat.lt_or_ge j i with h9 | h9
  ·exact hall j hj h9
  ·have e9 : j = i := by dsimp only at h; omega
   subst e9; exact bad_some hso
 try simp only [zA,zO,zN,zM,zP,zQ,zD,zF,gd] at hb1
 have hx : readV s = (entsOf (partsB 10 s), 0) := by
  have h9 := bad_none (ls := (partsB 10 s)) fun j hj => hall j hj (by omega)
  unfold readV; rw [h9, if_pos rfl]
 rw [List.take_of_length_le (by omega)] at hq ⊢
 refine AC_exit ?_
 refine AC_seq (AC_region ?_)
 refine mv rfl rfl rfl rfl ?_
 refine as_ rfl rfl rfl rfl ?_
 refine ac rfl rfl rfl ?_
 refine AL_nil (AC_ret ?_)
 refine ret_tmps (ts := [2, 3]) st rfl (by decide) rfl (Sub.l (List.sublist_append_right _ _)) (Conv.le (Sub.l (List.sublist_append_right _ _)) (Les.tup (.cons (Le_own hq) (.cons (Le.refl _) .nil)))) ⟨by rw [hx]; rfl, rfl⟩ (.inl rfl)
end Go.Proofs.YtfpkefhjomeeeaaGreatDoor

set_option maxRecDepth 100000
namespace Go.Proofs.YtfpkefhjomeeeaaGreatDoor
open Go.AL Go.NumSpec
theorem law45_works_ok : GCalls Tryz.prog tabs 6 [] (.bool true) := by
 intro st hG
 refine co 54 Tryz.func6 ?_
 refine AC_seq (AC_region ?_)
 refine ac rfl rfl rfl ?_
 refine AL_nil (AC_seq (AC_region ?_))
 refine p_ (S_gcall rfl (AEvs.cons (AEv.S _) AEvs.nil) ((GCalls.of_eq (scr_Parse_ok [103, 101, 116, 32, 49, 32, 53] (by decide)) (congrArg entP works_get)) _ (fun p hp => by repeat (first | exact hG p hp | exact hG p (List.mem_cons_of_mem _ hp) | refine List.mem_cons_of_mem _ ?_ | refine List.mem_append_right _ ?_)))) ?_
 refine mv rfl rfl rfl rfl ?_
 refine ex 0 ?_
 refine ex 1 ?_
 refine s_ (S_alloc [.int .i64 0, .slice none 0 0, .string ⟨#[]⟩] rfl (by kernel_rfl)) ?_
 rintro _ _ ⟨b1, rfl, rfl⟩
 refine stW 0 ?_
 refine as_ rfl rfl rfl rfl ?_
 refine AL_nil (AC_seq (AC_region ?_))
 refine p_ (S_gcall rfl (AEvs.cons (AEv.S _) AEvs.nil) ((GCalls.of_eq (scr_Read_ok [35, 32, 97, 10, 10, 116, 105, 99, 107, 10, 114, 111, 117, 110, 100, 10] (by decide)) (congrArg (fun x : List Ent × Nat => AV.tup [.sl (x.1.map entAV), erV 45 185 (lineEr x.2)]) works_txt)) _ (fun p hp => by repeat (first | exact hG p hp | exact hG p (List.mem_cons_of_mem _ hp) | refine List.mem_cons_of_mem _ ?_ | refine List.mem_append_right _ ?_)))) ?_
 refine mv rfl rfl rfl rfl ?_
 refine ex 0 ?_
 refine ex 1 ?_
 refine as_ rfl rfl rfl rfl ?_
 refine as_ rfl rfl rfl rfl ?_
 refine AL_nil (AC_seq (AC_region ?_))
 refine mv rfl rfl rfl rfl ?_
 refine p_ (S_eql rfl (.tmp rfl) (AEv.const _)) ?_
 refine mv rfl rfl rfl rfl ?_
 refine g_ (fun _ => fA 0) ?_
 refine g_ (fun _ => lA 0) ?_
 refine g_ (fun _ => S_eql rfl (AEv.cd (.tmp rfl)) (AEv.const _)) ?_
 refine an ?_
 refine mv rfl rfl rfl rfl ?_
 refine g_ (fun _ => fA 1) ?_
 refine g_ (fun _ => lA 0) ?_
 refine g_ (fun _ => by first | exact S_lenM (e := 3) rfl (AEv.cd (.tmp rfl)) (by kernel_rfl) | exact S_len (e := 3) rfl (AEv.cd (.tmp rfl)) (by kernel_rfl)) ?_
 refine g_ (fun _ => S_eql rfl (AEv.cd (.tmp rfl)) (AEv.const _)) ?_
 refine an ?_
 refine mv rfl rfl rfl rfl ?_
 refine g_ (fun _ => fA 1) ?_
 refine g_ (fun _ => lA 0) ?_
 refine g_ (fun _ => S_elemD (e := 3) (i := 1) (f := (fun n : Int => AV.int .i64 n)) (l := [1, 5]) (0 : Int) 1 rfl (AEv.cd (.tmp rfl)) (AEv.const _) (by kernel_rfl) (by kernel_rfl) (by decide) (fun _ => rfl)) ?_
 refine g_ (fun _ => S_loadP rfl (AEv.cd (.tmp rfl)) rfl (by kernel_rfl)) ?_
 refine g_ (fun _ => S_eql rfl (AEv.cd (.tmp rfl)) (AEv.const _)) ?_
 refine an ?_
 refine mv rfl rfl rfl rfl ?_
 refine g_ (fun _ => S_loadN (m := 3) 0 rfl (.tmp rfl) rfl (by kernel_rfl) (by first | exact Nat.le_of_ble_eq_true rfl | (simp; omega) | simp)) ?_
 refine g_ (fun _ => S_gcall rfl (AEvs.cons (AEv.cd (.tmp rfl)) AEvs.nil) ((GCalls.of_eq (scr_Line_ok ⟨14, [1, 5], []⟩ (by decide)) (congrArg AV.S works_line)) _ (fun p hp => by repeat (first | exact hG p hp | exact hG p (List.mem_cons_of_mem _ hp) | refine List.mem_cons_of_mem _ ?_ | refine List.mem_append_right _ ?_)))) ?_
 refine g_ (fun _ => S_eqS rfl (AEv.cd (.tmp rfl)) (AEv.S _)) ?_
 refine an ?_
 refine mv rfl rfl rfl rfl ?_
 refine g_ (fun _ => mA) ?_
 refine g_ (fun _ => S_eqlE (er_is 45 185 (lineEr 0)) rfl (AEv.cd (.tmp rfl)) (by kernel_rfl)) ?_
 refine an ?_
 refine mv rfl rfl rfl rfl ?_
 refine g_ (fun _ => mA) ?_
 refine g_ (fun _ => by first | exact S_lenM (e := 36) rfl (AEv.cd (.tmp rfl)) (by kernel_rfl) | exact S_len (e := 36) rfl (AEv.cd (.tmp rfl)) (by kernel_rfl)) ?_
 refine g_ (fun _ => S_eql rfl (AEv.cd (.tmp rfl)) (AEv.const _)) ?_
 refine an ?_
 refine mv rfl rfl rfl rfl ?_
 refine g_ (fun _ => mA) ?_
 refine g_ (fun _ => S_elemD (e := 36) (i := 1) (f := entAV) (l := [⟨5, [], []⟩, ⟨6, [], []⟩]) (⟨0, [], []⟩ : Ent) 3 rfl (AEv.cd (.tmp rfl)) (AEv.const _) (by kernel_rfl) (by kernel_rfl) (by decide) (fun _ => rfl)) ?_
 refine g_ (fun _ => S_fieldP 0 rfl (AEv.cd (.tmp rfl)) (by kernel_rfl)) ?_
 refine g_ (fun _ => S_loadP rfl (AEv.cd (.tmp rfl)) rfl (by kernel_rfl)) ?_
 refine g_ (fun _ => S_eql rfl (AEv.cd (.tmp rfl)) (AEv.const _)) ?_
 refine an ?_
 refine as_ rfl rfl rfl rfl ?_
 refine AL_nil (AC_ret ?_)
 refine ret_tmp st rfl rfl (Sub.l (List.sublist_cons_self _ _)) (Conv.refl (Sub.l (List.sublist_cons_self _ _)) _) ⟨by rfl, rfl⟩ (.inl rfl)
end Go.Proofs.YtfpkefhjomeeeaaGreatDoor

set_option maxRecDepth 100000
namespace Go.Proofs.YtfpkefhjomeeeaaGreatDoor
open Go.AL Go.NumSpec
theorem scr_run_ok (e : Ent) (hn : (e.n.length : Int) = 4) : PCalls Tryz.prog 20 [entAV e] (calAV { cal0 1 with spec := runS e }) := by
 intro st
 refine co 24 Tryz.func20 ?_
 refine AC_seq (AC_region ?_)
 refine s_ (S_box rfl (.tmp rfl)) ?_
 rintro _ _ ⟨b1, rfl, rfl⟩
 refine s_ (S_alloc [.int .i64 0, .int .i64 0, .int .u64 0, .string ⟨#[]⟩, .slice none 0 0, .slice none 0 0, .slice none 0 0, .int .i64 0, .int .i64 0, .int .i64 0, .int .i64 0, .int .i64 0, .int .i64 0, .int .i64 0, .string ⟨#[]⟩, .slice none 0 0] rfl (by kernel_rfl)) ?_
 rintro _ _ ⟨b2, rfl, rfl⟩
 refine AL_nil ?_
 refine AC_seq ?_
 refine AC_plan (σ := [(0, 0), (1, 0), (2, 0), (3, 0), (4, 0), (5, 0), (6, 0), (7, 0), (8, 0), (9, 0), (10, 3), (11, 2)]) (by kernel_rfl) [_, _] (by kernel_rfl) (fun r hr => List.mem_append_left _ hr) ?_
 refine AG.f rfl rfl (fun st' hst => Q_p rfl (S_field 1 rfl (.tmp rfl) (by kernel_rfl))) ?_
 refine AG.f rfl rfl (fun st' hst => Q_p rfl (S_loadM rfl (.tmp rfl) (hst _ (List.mem_of_getElem? (i := 1) rfl)) rfl (by kernel_rfl))) ?_
 refine AG.f rfl rfl (fun st' hst => Q_p rfl (S_elemD (e := 3) (i := 2) (0 : Int) 1 rfl (.tmp rfl) (AEv.const _) (by kernel_rfl) (by kernel_rfl) (by omega) (fun _ => rfl))) ?_
 refine AG.f rfl rfl (fun st' hst => Q_p rfl (S_loadP rfl (.tmp rfl) rfl (by kernel_rfl))) ?_
 refine AG.f rfl rfl (fun st' hst => Q_p rfl (S_field 1 rfl (.tmp rfl) (by kernel_rfl))) ?_
 refine AG.f rfl rfl (fun st' hst => Q_p rfl (S_loadM rfl (.tmp rfl) (hst _ (List.mem_of_getElem? (i := 1) rfl)) rfl (by kernel_rfl))) ?_
 refine AG.f rfl rfl (fun st' hst => Q_p rfl (S_elemD (e := 3) (i := 3) (0 : Int) 1 rfl (.tmp rfl) (AEv.const _) (by kernel_rfl) (by kernel_rfl) (by omega) (fun _ => rfl))) ?_
 refine AG.f rfl rfl (fun st' hst => Q_p rfl (S_loadP rfl (.tmp rfl) rfl (by kernel_rfl))) ?_
 refine AG.f rfl rfl (fun st' hst => Q_p rfl (S_build (t := 63) (pl := [(0, 1), (1, 1), (2, 1)]) (zs := [.int .i64 0, .int .i64 0, .int .i64 0]) rfl (AEvs.cons (.tmp rfl) (AEvs.cons (.tmp rfl) AEvs.nil)) (by kernel_rfl) rfl)) ?_
 refine AG.f rfl rfl (fun st' hst => Q_p rfl (S_build (t := 67) (pl := [(0, 1), (1, 1), (2, 3), (5, 3), (8, 1), (9, 2)]) (zs := [.string ⟨#[]⟩, .string ⟨#[]⟩, .int .i64 0, .int .i64 0, .int .i64 0, .int .i64 0, .int .i64 0, .int .i64 0, .slice none 0 0, .int .i64 0, .int .i64 0]) rfl (AEvs.cons (AEv.S _) (AEvs.cons (AEv.S _) (AEvs.cons (.tmp rfl) AEvs.nil))) (by kernel_rfl) rfl)) ?_
 refine AG.al [(10, 3, [.string ⟨#[]⟩, .string ⟨#[]⟩, .int .i64 0, .int .i64 0, .int .i64 0, .int .i64 0, .int .i64 0, .int .i64 0, .slice none 0 0, .int .i64 0, .int .i64 0])] (by simp) (by simp) (AllocsAt.all (AllocsAt.cons rfl rfl rfl (by decide) rfl (by kernel_rfl) AllocsAt.nil)) (by simp) (fun β => ?_)
 simp only [allocEnv, allocSt, List.foldl_cons, List.foldl_nil, List.map_cons, List.map_nil, List.cons_append, List.nil_append]
 generalize β 3 = b3
 refine AG.h rfl rfl rfl (S_storeW 0 rfl (.tmp rfl) ((AEv.tmp rfl).le (z := ctrAV (runC e)) (by exact (Les.agg (.cons (Le.refl _) (.cons (Le.refl _) (.cons (Le.refl _) (.cons (Le.refl _) (.cons (Le.refl _) (.cons (Le.refl _) (.cons (Le.refl _) (.cons (Le.refl _) (.cons Le.nils (.cons (Le.refl _) (.cons (Le.refl _) .nil)))))))))))))) rfl rfl rfl (by kernel_rfl)) ?_
 rintro _ _ ⟨rfl, rfl⟩
 refine AG.nil ?_
 refine AC_seq ?_
 refine AC_plan (σ := [(0, 0), (1, 0), (2, 0), (3, 0), (4, 0), (5, 0), (6, 0), (7, 0), (8, 0), (9, 0), (10, 2)]) (by kernel_rfl) [_, _, _] (by kernel_rfl) (fun r hr => List.mem_append_left _ hr) ?_
 refine AG.f rfl rfl (fun st' hst => Q_p rfl (S_field 2 rfl (.tmp rfl) (by kernel_rfl))) ?_
 refine AG.f rfl rfl (fun st' hst => Q_p rfl (S_loadM rfl (.tmp rfl) (hst _ (List.mem_of_getElem? (i := 2) rfl)) rfl (by kernel_rfl))) ?_
 refine AG.f rfl rfl (fun st' hst => Q_p rfl (S_loadNM (m := 11) rfl (.tmp rfl) (hst _ (List.mem_of_getElem? (i := 0) rfl)) (by kernel_rfl) (by first | exact Nat.le_of_ble_eq_true rfl | (simp; omega) | simp))) ?_
 refine AG.f rfl rfl (fun st' hst => Q_p rfl (S_buildSlice (e := 67) 11 rfl (AEvs.cons (.tmp rfl) AEvs.nil) rfl (by kernel_rfl) (by kernel_rfl) (by intro y hy; simp only [List.mem_cons, List.not_mem_nil, or_false] at hy; rcases hy with rfl <;> exact ⟨rfl, rfl⟩) (by decide) (by decide) (by decide))) ?_
 refine AG.f rfl rfl (fun st' hst => Q_p rfl (S_field 1 rfl (.tmp rfl) (by kernel_rfl))) ?_
 refine AG.f rfl rfl (fun st' hst => Q_p rfl (S_loadM rfl (.tmp rfl) (hst _ (List.mem_of_getElem? (i := 2) rfl)) rfl (by kernel_rfl))) ?_
 refine AG.f rfl rfl (fun st' hst => Q_p rfl (S_elemD (e := 3) (i := 1) (0 : Int) 1 rfl (.tmp rfl) (AEv.const _) (by kernel_rfl) (by kernel_rfl) (by omega) (fun _ => rfl))) ?_
 refine AG.f rfl rfl (fun st' hst => Q_p rfl (S_loadP rfl (.tmp rfl) rfl (by kernel_rfl))) ?_
 refine AG.f rfl rfl (fun st' hst => Q_p rfl (S_build (t := 31) (pl := [(0, 1), (1, 1), (2, 1), (3, 1), (4, 1), (5, 1), (6, 1)]) (zs := [.string ⟨#[]⟩, .slice none 0 0, .slice none 0 0, .slice none 0 0, .int .i64 0, .int .i64 0, .int .i64 0]) rfl (AEvs.cons (.tmp rfl) (AEvs.cons (.tmp rfl) (AEvs.cons (.tmp rfl) AEvs.nil))) (by kernel_rfl) rfl)) ?_
 refine AG.f rfl rfl (fun st' hst => Q_p rfl (S_build (t := 33) (pl := [(0, 1), (1, 1), (2, 1), (3, 7), (10, 1), (11, 1), (12, 1), (13, 1), (14, 1), (15, 1)]) (zs := [.int .i64 0, .int .i64 0, .int .u64 0, .string ⟨#[]⟩, .slice none 0 0, .slice none 0 0, .slice none 0 0, .int .i64 0, .int .i64 0, .int .i64 0, .int .i64 0, .int .i64 0, .int .i64 0, .int .i64 0, .string ⟨#[]⟩, .slice none 0 0]) rfl (AEvs.cons (AEv.const _) (AEvs.cons (.tmp rfl) AEvs.nil)) (by kernel_rfl) rfl)) ?_
 refine AG.h rfl rfl rfl (S_storeW 1 rfl (.tmp rfl) ((AEv.tmp rfl).le (z := calAV { cal0 1 with spec := runS e }) (by exact (Les.agg (.cons (Le.refl _) (.cons (Le.refl _) (.cons (Le.refl _) (.cons (Le.refl _) (.cons (Le.nils) (.cons (Le.nils) (.cons (Le.refl _) (.cons (Le.refl _) (.cons (Le.refl _) (.cons (Le.refl _) (.cons (Le.refl _) (.cons (Le.refl _) (.cons (Le.refl _) (.cons (Le.refl _) (.cons (Le.refl _) (.cons (Le.nils) .nil))))))))))))))))))) rfl rfl rfl (by kernel_rfl)) ?_
 rintro _ _ ⟨rfl, rfl⟩
 refine AG.nil ?_
 refine AC_ret ?_
 refine ret_cell 1 st rfl rfl rfl (by kernel_rfl) (Sub.l (.cons _ (.cons _ (.cons _ (List.Sublist.refl _))))) (Conv.refl (Sub.l (.cons _ (.cons _ (.cons _ (List.Sublist.refl _))))) _) ⟨rfl, rfl⟩ (.inl rfl)
set_option maxHeartbeats 2000000 in
theorem scr_Call_ok (e : Ent) (hn : e.n.length ≤ 1000000) : GCalls Tryz.prog tabs 7 [entAV e] (.tup [calAV (callA e), .bool (okE e)]) := by
 intro st hG
 refine co 101 Tryz.func7 ?_
 refine AC_seq (AC_region ?_)
 refine s_ (S_box rfl (.tmp rfl)) ?_
 rintro _ _ ⟨b1, rfl, rfl⟩
 refine s_ (S_alloc [.int .i64 0, .int .i64 0, .int .u64 0, .string ⟨#[]⟩, .slice none 0 0, .slice none 0 0, .slice none 0 0, .int .i64 0, .int .i64 0, .int .i64 0, .int .i64 0, .int .i64 0, .int .i64 0, .int .i64 0, .string ⟨#[]⟩, .slice none 0 0] rfl (by kernel_rfl)) ?_
 rintro _ _ ⟨b2, rfl, rfl⟩
 refine ac rfl rfl rfl ?_
 refine AL_nil ?_
 refine AC_seq ?_
 refine AC_seq (AC_region ?_)
 refine ldN 3 1 ?_
 refine p_ (S_gcall rfl (AEvs.cons (y := entAV e) (.tmp rfl) AEvs.nil) ((scr_Right_ok e hn) _ (fun p hp => by repeat (first | exact hG p hp | refine List.mem_cons_of_mem _ ?_ | refine List.mem_append_right _ ?_)))) ?_
 refine p_ (S_not rfl (.tmp rfl)) ?_
 refine mv rfl rfl rfl rfl ?_
 refine g_ (fun _ => fA 0) ?_
 refine g_ (fun _ => lA 1) ?_
 refine g_ (fun _ => S_lss rfl (AEv.cd (.tmp rfl)) (AEv.const _)) ?_
 refine p_ (S_or rfl (.tmp rfl) (fun hp12 => (AEv.cd (.tmp rfl)))) ?_
 refine AL_nil ?_
 refine AC_cond (.tmp rfl) (fun hb13 => ?_) (fun hb13 => ?_)
 ·try simp only [zA,zO,zN,zM,zP,zQ,zD,zF,gd] at hb13
  have hx : okE e = false := by
   unfold okE
   rcases hb13 with h | h
   ·rw [h]; rfl
   ·rw [decide_eq_false (by omega), Bool.and_false]
  have hy : callA e = cal0 0 := if_neg (by rw [hx]; decide)
  refine AC_seq (AC_region ?_)
  refine p_ (S_build (t := 33) (pl := [(0, 1), (1, 1), (2, 1), (3, 7), (10, 1), (11, 1), (12, 1), (13, 1), (14, 1), (15, 1)]) (zs := [.int .i64 0, .int .i64 0, .int .u64 0, .string ⟨#[]⟩, .slice none 0 0, .slice none 0 0, .slice none 0 0, .int .i64 0, .int .i64 0, .int .i64 0, .int .i64 0, .int .i64 0, .int .i64 0, .int .i64 0, .string ⟨#[]⟩, .slice none 0 0]) rfl AEvs.nil (by kernel_rfl) rfl) ?_
  refine stW 0 ?_
  refine ac rfl rfl rfl ?_
  refine AL_nil (AC_ret ?_)
  refine ret_outs st rfl (by decide) (OutsR.row 0 rfl rfl (by kernel_rfl) (OutsR.tmp rfl OutsR.nil)) (Sub.l (.cons _ (.cons _ (List.Sublist.refl _)))) (Conv.le (Sub.l (.cons _ (.cons _ (List.Sublist.refl _)))) (Les.tup (.cons (Les.agg (.cons (Le.refl _) (.cons (Le.refl _) (.cons (Le.refl _) (.cons (Le.refl _) (.cons (Le.nils) (.cons (Le.nils) (.cons (Le.nils) (.cons (Le.refl _) (.cons (Le.refl _) (.cons (Le.refl _) (.cons (Le.refl _) (.cons (Le.refl _) (.cons (Le.refl _) (.cons (Le.refl _) (.cons (Le.refl _) (.cons (Le.nils) .nil))))))))))))))))) (.cons (Le.refl _) .nil)))) ⟨by rw [hx, hy] <;> rfl, rfl⟩ (.inl rfl)
 try simp only [zA,zO,zN,zM,zP,zQ,zD,zF,gd] at hb13
 have hr : rightB e = true := by simpa using hb13.1
 have hv0 : 13 ≤ e.verb := by have := hb13.2; omega
 obtain ⟨_, hv24, hrl, _, _⟩ := right_spec hr
 have hx : okE e = true := by unfold okE; rw [hr, decide_eq_true hv0]; rfl
 have hy : callA e = callE e := if_pos hx
 have hb1 := nE_bnd hr 1
 refine AC_skip ?_
 refine AC_seq (AC_region ?_)
 refine p_ (S_build (t := 33) (pl := [(0, 1), (1, 1), (2, 1), (3, 7), (10, 1), (11, 1), (12, 1), (13, 1), (14, 1), (15, 1)]) (zs := [.int .i64 0, .int .i64 0, .int .u64 0, .string ⟨#[]⟩, .slice none 0 0, .slice none 0 0, .slice none 0 0, .int .i64 0, .int .i64 0, .int .i64 0, .int .i64 0, .int .i64 0, .int .i64 0, .int .i64 0, .string ⟨#[]⟩, .slice none 0 0]) rfl AEvs.nil (by kernel_rfl) rfl) ?_
 refine s_ (S_alloc [.int .i64 0, .int .i64 0, .int .u64 0, .string ⟨#[]⟩, .slice none 0 0, .slice none 0 0, .slice none 0 0, .int .i64 0, .int .i64 0, .int .i64 0, .int .i64 0, .int .i64 0, .int .i64 0, .int .i64 0, .string ⟨#[]⟩, .slice none 0 0] rfl (by kernel_rfl)) ?_
 rintro _ _ ⟨b4, rfl, rfl⟩
 refine s_ (S_storeW 0 rfl (.tmp rfl) ((AEv.tmp rfl).le (z := calAV (cal0 0)) (by exact (Les.agg (.cons (Le.refl _) (.cons (Le.refl _) (.cons (Le.refl _) (.cons (Le.refl _) (.cons (Le.nils) (.cons (Le.nils) (.cons (Le.nils) (.cons (Le.refl _) (.cons (Le.refl _) (.cons (Le.refl _) (.cons (Le.refl _) (.cons (Le.refl _) (.cons (Le.refl _) (.cons (Le.refl _) (.cons (Le.refl _) (.cons (Le.nils) .nil))))))))))))))))))) rfl rfl rfl (by kernel_rfl)) ?_
 rintro _ _ ⟨rfl, rfl⟩
 refine AL_nil ?_
 refine AC_joinK (G := Unit) [(1, _), (2, _), (3, _), (4, _)] (fun _ => True) (fun _ => []) (fun _ => (b4, .cells (calL (callE e))) :: (b2, .cells [.int .i64 0, .int .i64 0, .int .u64 0, .S [], .nils, .nils, .nils, .int .i64 0, .int .i64 0, .int .i64 0, .int .i64 0, .int .i64 0, .int .i64 0, .int .i64 0, .S [], .nils]) :: (b1, .cells (entL e)) :: st) (.cons rfl (Le.refl _) (.cons rfl (Le.refl _) (.cons rfl (Le.refl _) (.cons rfl (Le.refl _) .nil)))) ?_ ?_
 ·refine AC_seq (AC_region ?_)
  refine fl 0 ?_
  refine ld 2 ?_
  refine AL_nil ?_
  refine AC_block ?_
  refine AC_seq (AC_region ?_)
  refine p_ (S_eql rfl (.tmp rfl) (AEv.const _)) ?_
  refine as_ rfl rfl rfl rfl ?_
  refine AL_nil ?_
  refine AC_cond (.tmp rfl) (fun hb15 => ?_) (fun hb15 => ?_)
  ·try simp only [zA,zO,zN,zM,zP,zQ,zD,zF,gd] at hb15
   have hv9 : e.verb = 13 := by omega
   have hpe : callE e = cal0 9 := by unfold callE; simp [hv9]
   have hn13 : (e.n.length : Int) = 1 := by have h9 := hrl; rw [hv9] at h9; exact h9
   refine AC_region ?_
   refine fl 0 ?_
   refine s_ (S_store 0 rfl (.tmp rfl) (AEv.const _) rfl (by first | exact Nat.le_of_ble_eq_true rfl | simp) rfl (by kernel_rfl)) ?_
   rintro _ _ ⟨rfl, rfl⟩
   refine AL_nil ?_
   exact ⟨(), trivial, by rw [hpe]; exact (Sub.l (List.Sublist.refl _)), .nil, (.cons rfl (Le.refl _) (.cons rfl (Le.refl _) (.cons rfl (Le.refl _) (.cons rfl (Le.refl _) .nil))))⟩
  try simp only [zA,zO,zN,zM,zP,zQ,zD,zF,gd] at hb15
  have hv13 : ¬ e.verb = 13 := by omega
  refine AC_seq (AC_region ?_)
  refine p_ (S_eql rfl (.tmp rfl) (AEv.const _)) ?_
  refine as_ rfl rfl rfl rfl ?_
  refine AL_nil ?_
  refine AC_cond (.tmp rfl) (fun hb16 => ?_) (fun hb16 => ?_)
  ·try simp only [zA,zO,zN,zM,zP,zQ,zD,zF,gd] at hb16
   have hv9 : e.verb = 14 := by omega
   have hpe : callE e = { cal0 10 with uid := nE e 1 } := by unfold callE; simp [hv9]
   have hn14 : (e.n.length : Int) = 2 := by have h9 := hrl; rw [hv9] at h9; exact h9
   refine AC_region ?_
   refine fl 1 ?_
   refine ld 2 ?_
   refine p_ (S_elemD (e := 3) (i := 1) (0 : Int) 1 rfl (.tmp rfl) (AEv.const _) (by kernel_rfl) (by kernel_rfl) (by omega) (fun _ => rfl)) ?_
   refine p_ (S_loadP rfl (.tmp rfl) rfl (by kernel_rfl)) ?_
   refine p_ (S_build (t := 33) (pl := [(0, 1), (1, 1), (2, 1), (3, 7), (10, 1), (11, 1), (12, 1), (13, 1), (14, 1), (15, 1)]) (zs := [.int .i64 0, .int .i64 0, .int .u64 0, .string ⟨#[]⟩, .slice none 0 0, .slice none 0 0, .slice none 0 0, .int .i64 0, .int .i64 0, .int .i64 0, .int .i64 0, .int .i64 0, .int .i64 0, .int .i64 0, .string ⟨#[]⟩, .slice none 0 0]) rfl (AEvs.cons (AEv.const _) (AEvs.cons (.tmp rfl) AEvs.nil)) (by kernel_rfl) rfl) ?_
   refine s_ (S_storeW 0 rfl (.tmp rfl) ((AEv.tmp rfl).le (z := calAV { cal0 10 with uid := nE e 1 }) (by exact (Les.agg (.cons (Le.refl _) (.cons (Le.refl _) (.cons (Le.refl _) (.cons (Le.refl _) (.cons (Le.nils) (.cons (Le.nils) (.cons (Le.nils) (.cons (Le.refl _) (.cons (Le.refl _) (.cons (Le.refl _) (.cons (Le.refl _) (.cons (Le.refl _) (.cons (Le.refl _) (.cons (Le.refl _) (.cons (Le.refl _) (.cons (Le.nils) .nil))))))))))))))))))) rfl rfl rfl (by kernel_rfl)) ?_
   rintro _ _ ⟨rfl, rfl⟩
   refine AL_nil ?_
   exact ⟨(), trivial, by rw [hpe]; exact (Sub.l (List.Sublist.refl _)), .nil, (.cons rfl (Le.refl _) (.cons rfl (Le.refl _) (.cons rfl (Le.refl _) (.cons rfl (Le.refl _) .nil))))⟩
  try simp only [zA,zO,zN,zM,zP,zQ,zD,zF,gd] at hb16
  have hv14 : ¬ e.verb = 14 := by omega
  refine AC_seq (AC_region ?_)
  refine p_ (S_eql rfl (.tmp rfl) (AEv.const _)) ?_
  refine as_ rfl rfl rfl rfl ?_
  refine AL_nil ?_
  refine AC_cond (.tmp rfl) (fun hb17 => ?_) (fun hb17 => ?_)
  ·try simp only [zA,zO,zN,zM,zP,zQ,zD,zF,gd] at hb17
   have hv9 : e.verb = 15 := by omega
   have hpe : callE e = { cal0 8 with uid := nE e 1 } := by unfold callE; simp [hv9]
   have hn15 : (e.n.length : Int) = 2 := by have h9 := hrl; rw [hv9] at h9; exact h9
   refine AC_region ?_
   refine fl 1 ?_
   refine ld 2 ?_
   refine p_ (S_elemD (e := 3) (i := 1) (0 : Int) 1 rfl (.tmp rfl) (AEv.const _) (by kernel_rfl) (by kernel_rfl) (by omega) (fun _ => rfl)) ?_
   refine p_ (S_loadP rfl (.tmp rfl) rfl (by kernel_rfl)) ?_
   refine p_ (S_build (t := 33) (pl := [(0, 1), (1, 1), (2, 1), (3, 7), (10, 1), (11, 1), (12, 1), (13, 1), (14, 1), (15, 1)]) (zs := [.int .i64 0, .int .i64 0, .int .u64 0, .string ⟨#[]⟩, .slice none 0 0, .slice none 0 0, .slice none 0 0, .int .i64 0, .int .i64 0, .int .i64 0, .int .i64 0, .int .i64 0, .int .i64 0, .int .i64 0, .string ⟨#[]⟩, .slice none 0 0]) rfl (AEvs.cons (AEv.const _) (AEvs.cons (.tmp rfl) AEvs.nil)) (by kernel_rfl) rfl) ?_
   refine s_ (S_storeW 0 rfl (.tmp rfl) ((AEv.tmp rfl).le (z := calAV { cal0 8 with uid := nE e 1 }) (by exact (Les.agg (.cons (Le.refl _) (.cons (Le.refl _) (.cons (Le.refl _) (.cons (Le.refl _) (.cons (Le.nils) (.cons (Le.nils) (.cons (Le.nils) (.cons (Le.refl _) (.cons (Le.refl _) (.cons (Le.refl _) (.cons (Le.refl _) (.cons (Le.refl _) (.cons (Le.refl _) (.cons (Le.refl _) (.cons (Le.refl _) (.cons (Le.nils) .nil))))))))))))))))))) rfl rfl rfl (by kernel_rfl)) ?_
   rintro _ _ ⟨rfl, rfl⟩
   refine AL_nil ?_
   exact ⟨(), trivial, by rw [hpe]; exact (Sub.l (List.Sublist.refl _)), .nil, (.cons rfl (Le.refl _) (.cons rfl (Le.refl _) (.cons rfl (Le.refl _) (.cons rfl (Le.refl _) .nil))))⟩
  try simp only [zA,zO,zN,zM,zP,zQ,zD,zF,gd] at hb17
  have hv15 : ¬ e.verb = 15 := by omega
  refine AC_seq (AC_region ?_)
  refine p_ (S_eql rfl (.tmp rfl) (AEv.const _)) ?_
  refine as_ rfl rfl rfl rfl ?_
  refine AL_nil ?_
  refine AC_cond (.tmp rfl) (fun hb18 => ?_) (fun hb18 => ?_)
  ·try simp only [zA,zO,zN,zM,zP,zQ,zD,zF,gd] at hb18
   have hv9 : e.verb = 16 := by omega
   have hpe : callE e = { cal0 3 with uid := nE e 1, grace := nE e 2 } := by unfold callE; simp [hv9]
   have hn16 : (e.n.length : Int) = 3 := by have h9 := hrl; rw [hv9] at h9; exact h9
   refine AC_plan (σ := [(0, 0), (1, 0), (2, 0), (3, 0), (4, 0), (5, 0), (6, 0), (7, 0), (8, 0), (9, 2)]) (by kernel_rfl) [_, _, _] (by kernel_rfl) (fun r hr => List.mem_append_left _ hr) ?_
   refine AG.f rfl rfl (fun st' hst => Q_p rfl (S_field 1 rfl (.tmp rfl) (by kernel_rfl))) ?_
   refine AG.f rfl rfl (fun st' hst => Q_p rfl (S_loadM rfl (.tmp rfl) (hst _ (List.mem_of_getElem? (i := 2) rfl)) rfl (by kernel_rfl))) ?_
   refine AG.f rfl rfl (fun st' hst => Q_p rfl (S_elemD (e := 3) (i := 1) (0 : Int) 1 rfl (.tmp rfl) (AEv.const _) (by kernel_rfl) (by kernel_rfl) (by omega) (fun _ => rfl))) ?_
   refine AG.f rfl rfl (fun st' hst => Q_p rfl (S_loadP rfl (.tmp rfl) rfl (by kernel_rfl))) ?_
   refine AG.f rfl rfl (fun st' hst => Q_p rfl (S_field 1 rfl (.tmp rfl) (by kernel_rfl))) ?_
   refine AG.f rfl rfl (fun st' hst => Q_p rfl (S_loadM rfl (.tmp rfl) (hst _ (List.mem_of_getElem? (i := 2) rfl)) rfl (by kernel_rfl))) ?_
   refine AG.f rfl rfl (fun st' hst => Q_p rfl (S_elemD (e := 3) (i := 2) (0 : Int) 1 rfl (.tmp rfl) (AEv.const _) (by kernel_rfl) (by kernel_rfl) (by omega) (fun _ => rfl))) ?_
   refine AG.f rfl rfl (fun st' hst => Q_p rfl (S_loadP rfl (.tmp rfl) rfl (by kernel_rfl))) ?_
   refine AG.f rfl rfl (fun st' hst => Q_p rfl (S_build (t := 33) (pl := [(0, 1), (1, 1), (2, 1), (3, 7), (10, 1), (11, 1), (12, 1), (13, 1), (14, 1), (15, 1)]) (zs := [.int .i64 0, .int .i64 0, .int .u64 0, .string ⟨#[]⟩, .slice none 0 0, .slice none 0 0, .slice none 0 0, .int .i64 0, .int .i64 0, .int .i64 0, .int .i64 0, .int .i64 0, .int .i64 0, .int .i64 0, .string ⟨#[]⟩, .slice none 0 0]) rfl (AEvs.cons (AEv.const _) (AEvs.cons (.tmp rfl) (AEvs.cons (.tmp rfl) AEvs.nil))) (by kernel_rfl) rfl)) ?_
   refine AG.h rfl rfl rfl (S_storeW 0 rfl (.tmp rfl) ((AEv.tmp rfl).le (z := calAV { cal0 3 with uid := nE e 1, grace := nE e 2 }) (by exact (Les.agg (.cons (Le.refl _) (.cons (Le.refl _) (.cons (Le.refl _) (.cons (Le.refl _) (.cons (Le.nils) (.cons (Le.nils) (.cons (Le.nils) (.cons (Le.refl _) (.cons (Le.refl _) (.cons (Le.refl _) (.cons (Le.refl _) (.cons (Le.refl _) (.cons (Le.refl _) (.cons (Le.refl _) (.cons (Le.refl _) (.cons (Le.nils) .nil))))))))))))))))))) rfl rfl rfl (by kernel_rfl)) ?_
   rintro _ _ ⟨rfl, rfl⟩
   refine AG.nil ?_
   exact ⟨(), trivial, by rw [hpe]; exact (Sub.l (List.Sublist.refl _)), .nil, (.cons rfl (Le.refl _) (.cons rfl (Le.refl _) (.cons rfl (Le.refl _) (.cons rfl (Le.refl _) .nil))))⟩
  try simp only [zA,zO,zN,zM,zP,zQ,zD,zF,gd] at hb18
  have hv16 : ¬ e.verb = 16 := by omega
  refine AC_seq (AC_region ?_)
  refine p_ (S_eql rfl (.tmp rfl) (AEv.const _)) ?_
  refine as_ rfl rfl rfl rfl ?_
  refine AL_nil ?_
  refine AC_cond (.tmp rfl) (fun hb19 => ?_) (fun hb19 => ?_)
  ·try simp only [zA,zO,zN,zM,zP,zQ,zD,zF,gd] at hb19
   have hv9 : e.verb = 17 := by omega
   have hpe : callE e = { cal0 4 with uid := nE e 1, ctr := nE e 2 } := by unfold callE; simp [hv9]
   have hn17 : (e.n.length : Int) = 3 := by have h9 := hrl; rw [hv9] at h9; exact h9
   refine AC_plan (σ := [(0, 0), (1, 0), (2, 0), (3, 0), (4, 0), (5, 0), (6, 0), (7, 0), (8, 0), (9, 2)]) (by kernel_rfl) [_, _, _] (by kernel_rfl) (fun r hr => List.mem_append_left _ hr) ?_
   refine AG.f rfl rfl (fun st' hst => Q_p rfl (S_field 1 rfl (.tmp rfl) (by kernel_rfl))) ?_
   refine AG.f rfl rfl (fun st' hst => Q_p rfl (S_loadM rfl (.tmp rfl) (hst _ (List.mem_of_getElem? (i := 2) rfl)) rfl (by kernel_rfl))) ?_
   refine AG.f rfl rfl (fun st' hst => Q_p rfl (S_elemD (e := 3) (i := 1) (0 : Int) 1 rfl (.tmp rfl) (AEv.const _) (by kernel_rfl) (by kernel_rfl) (by omega) (fun _ => rfl))) ?_
   refine AG.f rfl rfl (fun st' hst => Q_p rfl (S_loadP rfl (.tmp rfl) rfl (by kernel_rfl))) ?_
   refine AG.f rfl rfl (fun st' hst => Q_p rfl (S_field 1 rfl (.tmp rfl) (by kernel_rfl))) ?_
   refine AG.f rfl rfl (fun st' hst => Q_p rfl (S_loadM rfl (.tmp rfl) (hst _ (List.mem_of_getElem? (i := 2) rfl)) rfl (by kernel_rfl))) ?_
   refine AG.f rfl rfl (fun st' hst => Q_p rfl (S_elemD (e := 3) (i := 2) (0 : Int) 1 rfl (.tmp rfl) (AEv.const _) (by kernel_rfl) (by kernel_rfl) (by omega) (fun _ => rfl))) ?_
   refine AG.f rfl rfl (fun st' hst => Q_p rfl (S_loadP rfl (.tmp rfl) rfl (by kernel_rfl))) ?_
   refine AG.f rfl rfl (fun st' hst => Q_p rfl (S_build (t := 33) (pl := [(0, 1), (1, 1), (2, 1), (3, 7), (10, 1), (11, 1), (12, 1), (13, 1), (14, 1), (15, 1)]) (zs := [.int .i64 0, .int .i64 0, .int .u64 0, .string ⟨#[]⟩, .slice none 0 0, .slice none 0 0, .slice none 0 0, .int .i64 0, .int .i64 0, .int .i64 0, .int .i64 0, .int .i64 0, .int .i64 0, .int .i64 0, .string ⟨#[]⟩, .slice none 0 0]) rfl (AEvs.cons (AEv.const _) (AEvs.cons (.tmp rfl) (AEvs.cons (.tmp rfl) AEvs.nil))) (by kernel_rfl) rfl)) ?_
   refine AG.h rfl rfl rfl (S_storeW 0 rfl (.tmp rfl) ((AEv.tmp rfl).le (z := calAV { cal0 4 with uid := nE e 1, ctr := nE e 2 }) (by exact (Les.agg (.cons (Le.refl _) (.cons (Le.refl _) (.cons (Le.refl _) (.cons (Le.refl _) (.cons (Le.nils) (.cons (Le.nils) (.cons (Le.nils) (.cons (Le.refl _) (.cons (Le.refl _) (.cons (Le.refl _) (.cons (Le.refl _) (.cons (Le.refl _) (.cons (Le.refl _) (.cons (Le.refl _) (.cons (Le.refl _) (.cons (Le.nils) .nil))))))))))))))))))) rfl rfl rfl (by kernel_rfl)) ?_
   rintro _ _ ⟨rfl, rfl⟩
   refine AG.nil ?_
   exact ⟨(), trivial, by rw [hpe]; exact (Sub.l (List.Sublist.refl _)), .nil, (.cons rfl (Le.refl _) (.cons rfl (Le.refl _) (.cons rfl (Le.refl _) (.cons rfl (Le.refl _) .nil))))⟩
  try simp only [zA,zO,zN,zM,zP,zQ,zD,zF,gd] at hb19
  have hv17 : ¬ e.verb = 17 := by omega
  refine AC_seq (AC_region ?_)
  refine p_ (S_eql rfl (.tmp rfl) (AEv.const _)) ?_
  refine as_ rfl rfl rfl rfl ?_
  refine AL_nil ?_
  refine AC_cond (.tmp rfl) (fun hb20 => ?_) (fun hb20 => ?_)
  ·try simp only [zA,zO,zN,zM,zP,zQ,zD,zF,gd] at hb20
   have hv9 : e.verb = 18 := by omega
   have hpe : callE e = { cal0 5 with id := nE e 1, data := e.data } := by unfold callE; simp [hv9]
   have hn18 : (e.n.length : Int) = 2 := by have h9 := hrl; rw [hv9] at h9; exact h9
   refine AC_plan (σ := [(0, 0), (1, 0), (2, 0), (3, 0), (4, 0), (5, 0), (6, 0), (7, 2)]) (by kernel_rfl) [_, _, _] (by kernel_rfl) (fun r hr => List.mem_append_left _ hr) ?_
   refine AG.f rfl rfl (fun st' hst => Q_p rfl (S_field 1 rfl (.tmp rfl) (by kernel_rfl))) ?_
   refine AG.f rfl rfl (fun st' hst => Q_p rfl (S_loadM rfl (.tmp rfl) (hst _ (List.mem_of_getElem? (i := 2) rfl)) rfl (by kernel_rfl))) ?_
   refine AG.f rfl rfl (fun st' hst => Q_p rfl (S_elemD (e := 3) (i := 1) (0 : Int) 1 rfl (.tmp rfl) (AEv.const _) (by kernel_rfl) (by kernel_rfl) (by omega) (fun _ => rfl))) ?_
   refine AG.f rfl rfl (fun st' hst => Q_p rfl (S_loadP rfl (.tmp rfl) rfl (by kernel_rfl))) ?_
   refine AG.f rfl rfl (fun st' hst => Q_p rfl (S_field 2 rfl (.tmp rfl) (by kernel_rfl))) ?_
   refine AG.f rfl rfl (fun st' hst => Q_p rfl (S_loadM rfl (.tmp rfl) (hst _ (List.mem_of_getElem? (i := 2) rfl)) rfl (by kernel_rfl))) ?_
   refine AG.f rfl rfl (fun st' hst => Q_p rfl (S_build (t := 33) (pl := [(0, 1), (1, 1), (2, 1), (3, 7), (10, 1), (11, 1), (12, 1), (13, 1), (14, 1), (15, 1)]) (zs := [.int .i64 0, .int .i64 0, .int .u64 0, .string ⟨#[]⟩, .slice none 0 0, .slice none 0 0, .slice none 0 0, .int .i64 0, .int .i64 0, .int .i64 0, .int .i64 0, .int .i64 0, .int .i64 0, .int .i64 0, .string ⟨#[]⟩, .slice none 0 0]) rfl (AEvs.cons (AEv.const _) (AEvs.cons (.tmp rfl) (AEvs.cons (.tmp rfl) AEvs.nil))) (by kernel_rfl) rfl)) ?_
   refine AG.h rfl rfl rfl (S_storeW 0 rfl (.tmp rfl) ((AEv.tmp rfl).le (z := calAV { cal0 5 with id := nE e 1, data := e.data }) (by exact (Les.agg (.cons (Le.refl _) (.cons (Le.refl _) (.cons (Le.refl _) (.cons (Le.refl _) (.cons (Le.nils) (.cons (Le.nils) (.cons (Le.nils) (.cons (Le.refl _) (.cons (Le.refl _) (.cons (Le.refl _) (.cons (Le.refl _) (.cons (Le.refl _) (.cons (Le.refl _) (.cons (Le.refl _) (.cons (Le.refl _) (.cons (Le.nils) .nil))))))))))))))))))) rfl rfl rfl (by kernel_rfl)) ?_
   rintro _ _ ⟨rfl, rfl⟩
   refine AG.nil ?_
   exact ⟨(), trivial, by rw [hpe]; exact (Sub.l (List.Sublist.refl _)), .nil, (.cons rfl (Le.refl _) (.cons rfl (Le.refl _) (.cons rfl (Le.refl _) (.cons rfl (Le.refl _) .nil))))⟩
  try simp only [zA,zO,zN,zM,zP,zQ,zD,zF,gd] at hb20
  have hv18 : ¬ e.verb = 18 := by omega
  refine AC_seq (AC_region ?_)
  refine p_ (S_eql rfl (.tmp rfl) (AEv.const _)) ?_
  refine as_ rfl rfl rfl rfl ?_
  refine AL_nil ?_
  refine AC_cond (.tmp rfl) (fun hb21 => ?_) (fun hb21 => ?_)
  ·try simp only [zA,zO,zN,zM,zP,zQ,zD,zF,gd] at hb21
   have hv9 : e.verb = 19 := by omega
   have hpe : callE e = { cal0 6 with id := nE e 1, most := nE e 2 } := by unfold callE; simp [hv9]
   have hn19 : (e.n.length : Int) = 3 := by have h9 := hrl; rw [hv9] at h9; exact h9
   refine AC_plan (σ := [(0, 0), (1, 0), (2, 0), (3, 0), (4, 0), (5, 0), (6, 0), (7, 0), (8, 0), (9, 2)]) (by kernel_rfl) [_, _, _] (by kernel_rfl) (fun r hr => List.mem_append_left _ hr) ?_
   refine AG.f rfl rfl (fun st' hst => Q_p rfl (S_field 1 rfl (.tmp rfl) (by kernel_rfl))) ?_
   refine AG.f rfl rfl (fun st' hst => Q_p rfl (S_loadM rfl (.tmp rfl) (hst _ (List.mem_of_getElem? (i := 2) rfl)) rfl (by kernel_rfl))) ?_
   refine AG.f rfl rfl (fun st' hst => Q_p rfl (S_elemD (e := 3) (i := 1) (0 : Int) 1 rfl (.tmp rfl) (AEv.const _) (by kernel_rfl) (by kernel_rfl) (by omega) (fun _ => rfl))) ?_
   refine AG.f rfl rfl (fun st' hst => Q_p rfl (S_loadP rfl (.tmp rfl) rfl (by kernel_rfl))) ?_
   refine AG.f rfl rfl (fun st' hst => Q_p rfl (S_field 1 rfl (.tmp rfl) (by kernel_rfl))) ?_
   refine AG.f rfl rfl (fun st' hst => Q_p rfl (S_loadM rfl (.tmp rfl) (hst _ (List.mem_of_getElem? (i := 2) rfl)) rfl (by kernel_rfl))) ?_
   refine AG.f rfl rfl (fun st' hst => Q_p rfl (S_elemD (e := 3) (i := 2) (0 : Int) 1 rfl (.tmp rfl) (AEv.const _) (by kernel_rfl) (by kernel_rfl) (by omega) (fun _ => rfl))) ?_
   refine AG.f rfl rfl (fun st' hst => Q_p rfl (S_loadP rfl (.tmp rfl) rfl (by kernel_rfl))) ?_
   refine AG.f rfl rfl (fun st' hst => Q_p rfl (S_build (t := 33) (pl := [(0, 1), (1, 1), (2, 1), (3, 7), (10, 1), (11, 1), (12, 1), (13, 1), (14, 1), (15, 1)]) (zs := [.int .i64 0, .int .i64 0, .int .u64 0, .string ⟨#[]⟩, .slice none 0 0, .slice none 0 0, .slice none 0 0, .int .i64 0, .int .i64 0, .int .i64 0, .int .i64 0, .int .i64 0, .int .i64 0, .int .i64 0, .string ⟨#[]⟩, .slice none 0 0]) rfl (AEvs.cons (AEv.const _) (AEvs.cons (.tmp rfl) (AEvs.cons (.tmp rfl) AEvs.nil))) (by kernel_rfl) rfl)) ?_
   refine AG.h rfl rfl rfl (S_storeW 0 rfl (.tmp rfl) ((AEv.tmp rfl).le (z := calAV { cal0 6 with id := nE e 1, most := nE e 2 }) (by exact (Les.agg (.cons (Le.refl _) (.cons (Le.refl _) (.cons (Le.refl _) (.cons (Le.refl _) (.cons (Le.nils) (.cons (Le.nils) (.cons (Le.nils) (.cons (Le.refl _) (.cons (Le.refl _) (.cons (Le.refl _) (.cons (Le.refl _) (.cons (Le.refl _) (.cons (Le.refl _) (.cons (Le.refl _) (.cons (Le.refl _) (.cons (Le.nils) .nil))))))))))))))))))) rfl rfl rfl (by kernel_rfl)) ?_
   rintro _ _ ⟨rfl, rfl⟩
   refine AG.nil ?_
   exact ⟨(), trivial, by rw [hpe]; exact (Sub.l (List.Sublist.refl _)), .nil, (.cons rfl (Le.refl _) (.cons rfl (Le.refl _) (.cons rfl (Le.refl _) (.cons rfl (Le.refl _) .nil))))⟩
  try simp only [zA,zO,zN,zM,zP,zQ,zD,zF,gd] at hb21
  have hv19 : ¬ e.verb = 19 := by omega
  refine AC_seq (AC_region ?_)
  refine p_ (S_eql rfl (.tmp rfl) (AEv.const _)) ?_
  refine as_ rfl rfl rfl rfl ?_
  refine AL_nil ?_
  refine AC_cond (.tmp rfl) (fun hb22 => ?_) (fun hb22 => ?_)
  ·try simp only [zA,zO,zN,zM,zP,zQ,zD,zF,gd] at hb22
   have hv9 : e.verb = 20 := by omega
   have hpe : callE e = { cal0 7 with id := nE e 1 } := by unfold callE; simp [hv9]
   have hn20 : (e.n.length : Int) = 2 := by have h9 := hrl; rw [hv9] at h9; exact h9
   refine AC_region ?_
   refine fl 1 ?_
   refine ld 2 ?_
   refine p_ (S_elemD (e := 3) (i := 1) (0 : Int) 1 rfl (.tmp rfl) (AEv.const _) (by kernel_rfl) (by kernel_rfl) (by omega) (fun _ => rfl)) ?_
   refine p_ (S_loadP rfl (.tmp rfl) rfl (by kernel_rfl)) ?_
   refine p_ (S_build (t := 33) (pl := [(0, 1), (1, 1), (2, 1), (3, 7), (10, 1), (11, 1), (12, 1), (13, 1), (14, 1), (15, 1)]) (zs := [.int .i64 0, .int .i64 0, .int .u64 0, .string ⟨#[]⟩, .slice none 0 0, .slice none 0 0, .slice none 0 0, .int .i64 0, .int .i64 0, .int .i64 0, .int .i64 0, .int .i64 0, .int .i64 0, .int .i64 0, .string ⟨#[]⟩, .slice none 0 0]) rfl (AEvs.cons (AEv.const _) (AEvs.cons (.tmp rfl) AEvs.nil)) (by kernel_rfl) rfl) ?_
   refine s_ (S_storeW 0 rfl (.tmp rfl) ((AEv.tmp rfl).le (z := calAV { cal0 7 with id := nE e 1 }) (by exact (Les.agg (.cons (Le.refl _) (.cons (Le.refl _) (.cons (Le.refl _) (.cons (Le.refl _) (.cons (Le.nils) (.cons (Le.nils) (.cons (Le.nils) (.cons (Le.refl _) (.cons (Le.refl _) (.cons (Le.refl _) (.cons (Le.refl _) (.cons (Le.refl _) (.cons (Le.refl _) (.cons (Le.refl _) (.cons (Le.refl _) (.cons (Le.nils) .nil))))))))))))))))))) rfl rfl rfl (by kernel_rfl)) ?_
   rintro _ _ ⟨rfl, rfl⟩
   refine AL_nil ?_
   exact ⟨(), trivial, by rw [hpe]; exact (Sub.l (List.Sublist.refl _)), .nil, (.cons rfl (Le.refl _) (.cons rfl (Le.refl _) (.cons rfl (Le.refl _) (.cons rfl (Le.refl _) .nil))))⟩
  try simp only [zA,zO,zN,zM,zP,zQ,zD,zF,gd] at hb22
  have hv20 : ¬ e.verb = 20 := by omega
  refine AC_seq (AC_region ?_)
  refine p_ (S_eql rfl (.tmp rfl) (AEv.const _)) ?_
  refine as_ rfl rfl rfl rfl ?_
  refine AL_nil ?_
  refine AC_cond (.tmp rfl) (fun hb23 => ?_) (fun hb23 => ?_)
  ·try simp only [zA,zO,zN,zM,zP,zQ,zD,zF,gd] at hb23
   have hv9 : e.verb = 21 := by omega
   have hpe : callE e = { cal0 11 with rev := (nE e 1).toNat } := by unfold callE; simp [hv9]
   have hn21 : (e.n.length : Int) = 2 := by have h9 := hrl; rw [hv9] at h9; exact h9
   refine AC_region ?_
   refine fl 1 ?_
   refine ld 2 ?_
   refine p_ (S_elemD (e := 3) (i := 1) (0 : Int) 1 rfl (.tmp rfl) (AEv.const _) (by kernel_rfl) (by kernel_rfl) (by omega) (fun _ => rfl)) ?_
   refine p_ (S_loadP rfl (.tmp rfl) rfl (by kernel_rfl)) ?_
   refine p_ ((S_conv (k' := .u64) rfl (.tmp rfl) (by kernel_rfl) (by kernel_rfl)).ofV (V' := .int .u64 (((nE e 1).toNat : Nat) : Int)) (congrArg (AV.int .u64) (by rw [u64w]; have h7 := hb1.1; have h8 := hb1.2; unfold nE at *; omega))) ?_
   refine p_ (S_build (t := 33) (pl := [(0, 1), (1, 1), (2, 1), (3, 7), (10, 1), (11, 1), (12, 1), (13, 1), (14, 1), (15, 1)]) (zs := [.int .i64 0, .int .i64 0, .int .u64 0, .string ⟨#[]⟩, .slice none 0 0, .slice none 0 0, .slice none 0 0, .int .i64 0, .int .i64 0, .int .i64 0, .int .i64 0, .int .i64 0, .int .i64 0, .int .i64 0, .string ⟨#[]⟩, .slice none 0 0]) rfl (AEvs.cons (AEv.const _) (AEvs.cons (.tmp rfl) AEvs.nil)) (by kernel_rfl) rfl) ?_
   refine s_ (S_storeW 0 rfl (.tmp rfl) ((AEv.tmp rfl).le (z := calAV { cal0 11 with rev := (nE e 1).toNat }) (by exact (Les.agg (.cons (Le.refl _) (.cons (Le.refl _) (.cons (Le.refl _) (.cons (Le.refl _) (.cons (Le.nils) (.cons (Le.nils) (.cons (Le.nils) (.cons (Le.refl _) (.cons (Le.refl _) (.cons (Le.refl _) (.cons (Le.refl _) (.cons (Le.refl _) (.cons (Le.refl _) (.cons (Le.refl _) (.cons (Le.refl _) (.cons (Le.nils) .nil))))))))))))))))))) rfl rfl rfl (by kernel_rfl)) ?_
   rintro _ _ ⟨rfl, rfl⟩
   refine AL_nil ?_
   exact ⟨(), trivial, by rw [hpe]; exact (Sub.l (List.Sublist.refl _)), .nil, (.cons rfl (Le.refl _) (.cons rfl (Le.refl _) (.cons rfl (Le.refl _) (.cons rfl (Le.refl _) .nil))))⟩
  try simp only [zA,zO,zN,zM,zP,zQ,zD,zF,gd] at hb23
  have hv21 : ¬ e.verb = 21 := by omega
  refine AC_seq (AC_region ?_)
  refine p_ (S_eql rfl (.tmp rfl) (AEv.const _)) ?_
  refine as_ rfl rfl rfl rfl ?_
  refine AL_nil ?_
  refine AC_cond (.tmp rfl) (fun hb24 => ?_) (fun hb24 => ?_)
  ·try simp only [zA,zO,zN,zM,zP,zQ,zD,zF,gd] at hb24
   have hv9 : e.verb = 22 := by omega
   have hpe : callE e = { cal0 12 with id := nE e 1 } := by unfold callE; simp [hv9]
   have hn22 : (e.n.length : Int) = 2 := by have h9 := hrl; rw [hv9] at h9; exact h9
   refine AC_region ?_
   refine fl 1 ?_
   refine ld 2 ?_
   refine p_ (S_elemD (e := 3) (i := 1) (0 : Int) 1 rfl (.tmp rfl) (AEv.const _) (by kernel_rfl) (by kernel_rfl) (by omega) (fun _ => rfl)) ?_
   refine p_ (S_loadP rfl (.tmp rfl) rfl (by kernel_rfl)) ?_
   refine p_ (S_build (t := 33) (pl := [(0, 1), (1, 1), (2, 1), (3, 7), (10, 1), (11, 1), (12, 1), (13, 1), (14, 1), (15, 1)]) (zs := [.int .i64 0, .int .i64 0, .int .u64 0, .string ⟨#[]⟩, .slice none 0 0, .slice none 0 0, .slice none 0 0, .int .i64 0, .int .i64 0, .int .i64 0, .int .i64 0, .int .i64 0, .int .i64 0, .int .i64 0, .string ⟨#[]⟩, .slice none 0 0]) rfl (AEvs.cons (AEv.const _) (AEvs.cons (.tmp rfl) AEvs.nil)) (by kernel_rfl) rfl) ?_
   refine s_ (S_storeW 0 rfl (.tmp rfl) ((AEv.tmp rfl).le (z := calAV { cal0 12 with id := nE e 1 }) (by exact (Les.agg (.cons (Le.refl _) (.cons (Le.refl _) (.cons (Le.refl _) (.cons (Le.refl _) (.cons (Le.nils) (.cons (Le.nils) (.cons (Le.nils) (.cons (Le.refl _) (.cons (Le.refl _) (.cons (Le.refl _) (.cons (Le.refl _) (.cons (Le.refl _) (.cons (Le.refl _) (.cons (Le.refl _) (.cons (Le.refl _) (.cons (Le.nils) .nil))))))))))))))))))) rfl rfl rfl (by kernel_rfl)) ?_
   rintro _ _ ⟨rfl, rfl⟩
   refine AL_nil ?_
   exact ⟨(), trivial, by rw [hpe]; exact (Sub.l (List.Sublist.refl _)), .nil, (.cons rfl (Le.refl _) (.cons rfl (Le.refl _) (.cons rfl (Le.refl _) (.cons rfl (Le.refl _) .nil))))⟩
  try simp only [zA,zO,zN,zM,zP,zQ,zD,zF,gd] at hb24
  have hv9 : e.verb = 23 := by omega
  have hpe : callE e = { cal0 1 with spec := runS e } := by unfold callE; simp [hv9]
  have hn23 : (e.n.length : Int) = 4 := by have h9 := hrl; rw [hv9] at h9; exact h9
  refine AC_region ?_
  refine ldN 3 2 ?_
  refine p_ (S_pcall rfl (AEvs.cons (y := entAV e) (.tmp rfl) AEvs.nil) (scr_run_ok e hn23)) ?_
  refine stW 0 ?_
  refine AL_nil ?_
  exact ⟨(), trivial, by rw [hpe]; exact (Sub.l (List.Sublist.refl _)), .nil, (.cons rfl (Le.refl _) (.cons rfl (Le.refl _) (.cons rfl (Le.refl _) (.cons rfl (Le.refl _) .nil))))⟩
 rintro _ _
 try dsimp only
 simp only [List.cons_append, List.nil_append]
 refine AC_seq (AC_region ?_)
 refine ldN 16 0 ?_
 refine stW 1 ?_
 refine ac rfl rfl rfl ?_
 refine AL_nil (AC_ret ?_)
 refine ret_outs st rfl (by decide) (OutsR.row 1 rfl rfl (by kernel_rfl) (OutsR.tmp rfl OutsR.nil)) (Sub.l (.cons _ (.cons _ (.cons _ (List.Sublist.refl _))))) (Conv.refl (Sub.l (.cons _ (.cons _ (.cons _ (List.Sublist.refl _))))) _) ⟨by rw [hx, hy] <;> rfl, rfl⟩ (.inl rfl)
end Go.Proofs.YtfpkefhjomeeeaaGreatDoor

set_option maxRecDepth 100000
namespace Go.Proofs.YtfpkefhjomeeeaaGreatDoor
open Go.AL Go.NumSpec
theorem frame_PutG_ok (t : List UInt8) : PCalls Tryz.prog 23 [.S t] (.tup [.S (putF t).1, .int .i64 (putF t).2]) := by
 intro st
 refine co 18 Tryz.func23 ?_
 refine AC_seq (AC_region ?_)
 refine p_ (S_assign rfl (AEv.S _)) ?_
 refine ac rfl rfl rfl ?_
 refine AL_nil ?_
 refine AC_seq ?_
 refine AC_seq (AC_region ?_)
 refine mv rfl rfl rfl rfl ?_
 refine p_ (S_lenS (ts := #[]) rfl (.tmp rfl) (by kernel_rfl)) ?_
 refine p_ (S_gtr rfl (.tmp rfl) (AEv.const _)) ?_
 refine AL_nil ?_
 refine AC_cond (.tmp rfl) (fun hb1 => ?_) (fun hb1 => ?_)
 ·try simp only [zA,zO,zN,zM,zP,zQ,zD,zF,gd] at hb1
  have hx := putF_long (t := t) (by omega)
  refine AC_seq (AC_region ?_)
  refine p_ (S_assign rfl (AEv.S _)) ?_
  refine ac rfl rfl rfl ?_
  refine AL_nil (AC_ret ?_)
  refine ret_tmps (ts := [2, 3]) st rfl (by decide) rfl (Sub.l (List.Sublist.refl _)) (Conv.refl (Sub.l (List.Sublist.refl _)) _) ⟨by rw [hx] <;> rfl, rfl⟩ (.inl rfl)
 try simp only [zA,zO,zN,zM,zP,zQ,zD,zF,gd] at hb1
 have hx := putF_good (t := t) (by omega)
 refine AC_skip ?_
 refine AC_seq (AC_region ?_)
 refine mv rfl rfl rfl rfl ?_
 refine p_ (S_lenS (ts := #[]) rfl (.tmp rfl) (by kernel_rfl)) ?_
 refine p_ ((S_conv (k' := .u8) rfl (.tmp rfl) (by kernel_rfl) (by kernel_rfl)).ofV (V' := .int .u8 ((UInt8.ofNat t.length).toNat : Int)) (congrArg (AV.int .u8) (wrap_len _))) ?_
 refine mv rfl rfl rfl rfl ?_
 refine p_ (S_lenS (ts := #[]) rfl (.tmp rfl) (by kernel_rfl)) ?_
 refine p_ ((S_shift rfl (by simp) (.tmp rfl) (AEv.const _) (shift_shr _ _ _ _ (by omega) (by simp only [IntKind.bits]; omega))).ofV (V' := .int .i64 ((t.length / 256 : Nat) : Int)) (congrArg (AV.int .i64) (shr_eight _))) ?_
 refine p_ ((S_conv (k' := .u8) rfl (.tmp rfl) (by kernel_rfl) (by kernel_rfl)).ofV (V' := .int .u8 ((UInt8.ofNat (t.length / 256)).toNat : Int)) (congrArg (AV.int .u8) (wrap_len _))) ?_
 refine p_ (S_buildSlice (e := 5) 1 rfl (AEvs.cons (.tmp rfl) (AEvs.cons (.tmp rfl) AEvs.nil)) rfl (by kernel_rfl) (by kernel_rfl) (by intro y hy; simp only [List.mem_cons, List.not_mem_nil, or_false] at hy; rcases hy with rfl | rfl <;> exact ⟨rfl, rfl⟩) (by decide) (by decide) (by decide)) ?_
 refine p_ (S_bytesSl (e := 5) [UInt8.ofNat t.length, UInt8.ofNat (t.length / 256)] rfl (.tmp rfl) rfl (by kernel_rfl) (by kernel_rfl) (by kernel_rfl)) ?_
 refine mv rfl rfl rfl rfl ?_
 refine p_ (S_cat rfl (.tmp rfl) (.tmp rfl) (by first | omega | (simp; done) | (simp; omega))) ?_
 refine as_ rfl rfl rfl rfl ?_
 refine ac rfl rfl rfl ?_
 refine AL_nil (AC_ret ?_)
 refine ret_tmps (ts := [2, 3]) st rfl (by decide) rfl (Sub.l (List.Sublist.refl _)) (Conv.refl (Sub.l (List.Sublist.refl _)) _) ⟨by rw [hx] <;> rfl, rfl⟩ (.inl rfl)
theorem scr_Frame_ok (e : Ent) (hn : e.n.length ≤ 1000000) : GCalls Tryz.prog tabs 10 [entAV e] (.tup [.S (frameE e), .bool (fineE e)]) := by
 intro st hG
 refine co 34 Tryz.func10 ?_
 refine AC_seq (AC_region ?_)
 refine s_ (S_box rfl (.tmp rfl)) ?_
 rintro _ _ ⟨b1, rfl, rfl⟩
 refine p_ (S_assign rfl (AEv.S _)) ?_
 refine ac rfl rfl rfl ?_
 refine AL_nil (AC_seq (AC_region ?_))
 refine ldN 3 0 ?_
 refine p_ (S_gcall rfl (AEvs.cons (y := entAV e) (.tmp rfl) AEvs.nil) ((scr_Call_ok e hn) _ (fun p hp => by repeat (first | exact hG p hp | refine List.mem_cons_of_mem _ ?_ | refine List.mem_append_right _ ?_)))) ?_
 refine mv rfl rfl rfl rfl ?_
 refine ex 0 ?_
 refine ex 1 ?_
 refine s_ (S_alloc [.int .i64 0, .int .i64 0, .int .u64 0, .string ⟨#[]⟩, .slice none 0 0, .slice none 0 0, .slice none 0 0, .int .i64 0, .int .i64 0, .int .i64 0, .int .i64 0, .int .i64 0, .int .i64 0, .int .i64 0, .string ⟨#[]⟩, .slice none 0 0] rfl (by kernel_rfl)) ?_
 rintro _ _ ⟨b4, rfl, rfl⟩
 refine stW 0 ?_
 refine as_ rfl rfl rfl rfl ?_
 refine AL_nil ?_
 refine AC_seq ?_
 refine AC_seq (AC_region ?_)
 refine mv rfl rfl rfl rfl ?_
 refine p_ (S_not rfl (.tmp rfl)) ?_
 refine AL_nil ?_
 refine AC_cond (.tmp rfl) (fun hb3 => ?_) (fun hb3 => ?_)
 ·try simp only [zA,zO,zN,zM,zP,zQ,zD,zF,gd] at hb3
  have ho : okE e = false := by simpa using hb3
  have hf : fineE e = false := by unfold fineE; rw [ho]; rfl
  have hx := fine_no hf
  refine AC_seq (AC_region ?_)
  refine p_ (S_assign rfl (AEv.S _)) ?_
  refine ac rfl rfl rfl ?_
  refine AL_nil (AC_ret ?_)
  refine ret_tmps (ts := [2, 3]) st rfl (by decide) rfl (Sub.l ((List.sublist_cons_self _ _).trans (List.sublist_cons_self _ _))) (Conv.refl (Sub.l ((List.sublist_cons_self _ _).trans (List.sublist_cons_self _ _))) _) ⟨by rw [hf, hx] <;> rfl, rfl⟩ (.inl rfl)
 try simp only [zA,zO,zN,zM,zP,zQ,zD,zF,gd] at hb3
 have ho : okE e = true := by simpa using hb3
 refine AC_skip ?_
 refine AC_seq (AC_region ?_)
 refine ldN 16 0 ?_
 refine p_ (S_gcall rfl (AEvs.cons (y := calAV (callA e)) (.tmp rfl) AEvs.nil) ((ask_Bytes_ok (callA e) (callA_short e) (callA_rev e)) _ (fun p hp => by repeat (first | exact hG p hp | refine List.mem_cons_of_mem _ ?_ | refine List.mem_append_right _ ?_)))) ?_
 refine mv rfl rfl rfl rfl ?_
 refine ex 0 ?_
 refine ex 1 ?_
 refine as_ rfl rfl rfl rfl ?_
 refine as_ rfl rfl rfl rfl ?_
 refine AL_nil (AC_seq (AC_region ?_))
 refine mv rfl rfl rfl rfl ?_
 refine p_ (S_pcall rfl (AEvs.cons (.tmp rfl) AEvs.nil) (frame_PutG_ok (if checkA (callA e) = none then calB (callA e) else []))) ?_
 refine mv rfl rfl rfl rfl ?_
 refine ex 0 ?_
 refine ex 1 ?_
 refine as_ rfl rfl rfl rfl ?_
 refine as_ rfl rfl rfl rfl ?_
 refine AL_nil ?_
 refine AC_seq ?_
 refine AC_seq (AC_region ?_)
 refine mv rfl rfl rfl rfl ?_
 refine p_ (S_neq rfl (.tmp rfl) (AEv.const _)) ?_
 refine mv rfl rfl rfl rfl ?_
 refine g_ (fun _ => mA) ?_
 refine g_ (fun _ => S_neq rfl (AEv.cd (.tmp rfl)) (AEv.const _)) ?_
 refine p_ (S_or rfl (.tmp rfl) (fun hp10 => (AEv.cd (.tmp rfl)))) ?_
 refine AL_nil ?_
 refine AC_cond (.tmp rfl) (fun hb11 => ?_) (fun hb11 => ?_)
 ·try simp only [zA,zO,zN,zM,zP,zQ,zD,zF,gd] at hb11
  have hf : fineE e = false := by
   by_cases hk : checkA (callA e) = none
   ·rw [if_pos hk] at hb11
    have h9 : 2048 < (calB (callA e)).length := Classical.byContradiction fun h => by
     rw [putF_good h, hk] at hb11; simp [erCode] at hb11
    unfold fineE; rw [decide_eq_false (by omega), Bool.and_false]
   ·unfold fineE; rw [show (checkA (callA e)).isNone = false by cases h : checkA (callA e) with | none => exact absurd h hk | some x => rfl]; simp
  have hx := fine_no hf
  refine AC_seq (AC_region ?_)
  refine p_ (S_assign rfl (AEv.S _)) ?_
  refine ac rfl rfl rfl ?_
  refine AL_nil (AC_ret ?_)
  refine ret_tmps (ts := [2, 3]) st rfl (by decide) rfl (Sub.l ((List.sublist_cons_self _ _).trans (List.sublist_cons_self _ _))) (Conv.refl (Sub.l ((List.sublist_cons_self _ _).trans (List.sublist_cons_self _ _))) _) ⟨by rw [hf, hx] <;> rfl, rfl⟩ (.inl rfl)
 try simp only [zA,zO,zN,zM,zP,zQ,zD,zF,gd] at hb11
 have hk : checkA (callA e) = none := check_code (by have := hb11.1; simpa using this)
 rw [if_pos hk] at hb11 ⊢
 have h9 : ¬ 2048 < (calB (callA e)).length := fun h => by rw [putF_long h] at hb11; simp at hb11
 have hf : fineE e = true := by unfold fineE; rw [ho, hk, decide_eq_true (by omega)]; rfl
 have hx := (fine_yes hf).1
 rw [putF_good h9]
 refine AC_skip ?_
 refine AC_seq (AC_region ?_)
 refine mv rfl rfl rfl rfl ?_
 refine as_ rfl rfl rfl rfl ?_
 refine ac rfl rfl rfl ?_
 refine AL_nil (AC_ret ?_)
 refine ret_tmps (ts := [2, 3]) st rfl (by decide) rfl (Sub.l ((List.sublist_cons_self _ _).trans (List.sublist_cons_self _ _))) (Conv.refl (Sub.l ((List.sublist_cons_self _ _).trans (List.sublist_cons_self _ _))) _) ⟨by rw [hf, hx] <;> rfl, rfl⟩ (.inl rfl)
end Go.Proofs.YtfpkefhjomeeeaaGreatDoor

set_option maxRecDepth 100000
namespace Go.Proofs.YtfpkefhjomeeeaaGreatDoor
open Go.AL Go.NumSpec
theorem ref06_at_ok (name : List UInt8) (hn : name.length ≤ 1000000) (i : Int) (hi : fits i) : PCalls Tryz.prog 94 [.S name, .int .i64 i] (.S (atT name i)) := by
 intro st
 refine co 11 Tryz.func94 ?_
 have ht := textL_len hi
 refine AC_seq (AC_region ?_)
 refine p_ (S_assign rfl (AEv.S _)) ?_
 refine AL_nil (AC_seq (AC_region ?_))
 refine mv rfl rfl rfl rfl ?_
 refine p_ (S_cat rfl (.tmp rfl) (AEv.S _) (by first | omega | (simp only [List.length_append, List.length_cons, List.length_nil]; omega))) ?_
 refine mv rfl rfl rfl rfl ?_
 refine p_ (S_pcall rfl (AEvs.cons (.tmp rfl) AEvs.nil) (ref_Text_ok i hi)) ?_
 refine p_ (S_cat rfl (.tmp rfl) (.tmp rfl) (by first | omega | (simp only [List.length_append, List.length_cons, List.length_nil]; omega))) ?_
 refine p_ (S_cat rfl (.tmp rfl) (AEv.S _) (by first | omega | (simp only [List.length_append, List.length_cons, List.length_nil]; omega))) ?_
 refine as_ rfl rfl rfl rfl ?_
 refine AL_nil (AC_ret ?_)
 refine ret_tmp st rfl rfl (Sub.l (List.Sublist.refl _)) (Conv.refl (Sub.l (List.Sublist.refl _)) _) ⟨rfl, rfl⟩ (.inl rfl)
theorem ref06_Labels_ok (name : List UInt8) (hn : name.length ≤ 1000000) (l : List Lab) (hls : ∀ x ∈ l, x.1.length ≤ 9223372036854775807 ∧ x.2.length ≤ 9223372036854775807) : PCalls Tryz.prog 56 [.S name, .sl (labsV l)] (cpAV (labelsE name l)) := by
 intro st
 refine co 59 Tryz.func56 ?_
 refine AC_seq (AC_region ?_)
 refine ac rfl rfl rfl ?_
 refine p_ (S_assign rfl (AEv.S _)) ?_
 refine AL_nil ?_
 refine AC_seq ?_
 refine AC_seq (AC_region ?_)
 refine mv rfl rfl rfl rfl ?_
 refine p_ (by first | exact S_lenM (e := 123) rfl (.tmp rfl) (by kernel_rfl) | exact S_len (e := 123) rfl (.tmp rfl) (by kernel_rfl)) ?_
 refine p_ (S_gtr rfl (.tmp rfl) (AEv.const _)) ?_
 refine AL_nil ?_
 refine AC_cond (.tmp rfl) (fun hb1 => ?_) (fun hb1 => ?_)
 ·try simp only [zA,zO,zN,zM,zP,zQ,zD,zF,gd] at hb1
  have hbad : (labelsE name l) = some (2, [name]) := by rw [labelsE_bad (by unfold atMostE; rw [if_pos (by omega)]; simp)]; unfold atMostE; rw [if_pos (by omega)]
  refine AC_seq (AC_region ?_)
  refine mv rfl rfl rfl rfl ?_
  refine ac rfl rfl rfl ?_
  refine as_ rfl rfl rfl rfl ?_
  refine AL_nil (AC_ret ?_)
  refine ret_tmps (ts := [4, 5]) st rfl (by decide) rfl (Sub.l (List.Sublist.refl _)) (Conv.refl (Sub.l (List.Sublist.refl _)) _) ⟨cp_some hbad (Lib.join_one _ _).symm, rfl⟩ (.inl rfl)
 try simp only [zA,zO,zN,zM,zP,zQ,zD,zF,gd] at hb1
 have hgood : (labelsE name l) = eachE l.length (labelE name l) := labelsE_good (by unfold atMostE; rw [if_neg (by omega)])
 refine AC_skip ?_
 refine AC_seq ?_
 refine AC_seq (AC_region ?_)
 refine ac rfl rfl rfl ?_
 refine AL_nil ?_
 refine AC_block ?_
 refine AC_loopK (G := Nat) [(0, _), (1, _)] (fun g => g ≤ l.length ∧ ∀ j, j < g → labelE name l j = none) (fun g => [(6, .int .i64 (g : Int))]) (fun g => st) (fun g => l.length - g) (0) (⟨Nat.zero_le _, fun j h => absurd h (Nat.not_lt_zero _)⟩) (Sub.l (List.Sublist.refl _)) (.cons rfl (Le.refl _) (.cons rfl (Le.refl _) .nil)) (.cons rfl (by first | exact Le.refl _ | exact Le.nils | exact Le.row _ _ _ _ | exact Le.of_eq (by first | rfl | (simp; done) | (push_cast; rfl) | (simp; omega))) .nil) ?_
 rintro i ⟨hi, hall⟩
 try dsimp only
 simp only [List.cons_append, List.nil_append]
 refine AC_seq ?_
 refine AC_seq (AC_region ?_)
 refine mv rfl rfl rfl rfl ?_
 refine mv rfl rfl rfl rfl ?_
 refine p_ (by first | exact S_lenM (e := 123) rfl (.tmp rfl) (by kernel_rfl) | exact S_len (e := 123) rfl (.tmp rfl) (by kernel_rfl)) ?_
 refine p_ (S_lss rfl (.tmp rfl) (.tmp rfl)) ?_
 refine AL_nil ?_
 refine AC_cond (.tmp rfl) (fun hb2 => ?_) (fun hb2 => ?_)
 ·try simp only [zA,zO,zN,zM,zP,zQ,zD,zF,gd] at hb2
  have hil : i < l.length := by omega
  have him : i - 1 < l.length := by omega
  have hif : fits (i : Int) := by unfold fits; omega
  have hm := hls _ (List.getElem_mem hil)
  have hatl : (atT name (i : Int)).length ≤ 1000100 := atT_len hn hif
  refine AC_skip ?_
  refine AC_seq ?_
  refine AC_block ?_
  refine AC_seq ?_
  refine AC_seq (AC_region ?_)
  refine mv rfl rfl rfl rfl ?_
  refine mv rfl rfl rfl rfl ?_
  refine p_ (S_elemN (e := 123) 2 rfl (.tmp rfl) (.tmp rfl) (by kernel_rfl) (by kernel_rfl) (by omega) (fun _ => rfl)) ?_
  refine p_ (S_fieldP 0 rfl (.tmp rfl) (by kernel_rfl)) ?_
  refine p_ (S_loadP rfl (.tmp rfl) rfl (by kernel_rfl)) ?_
  refine p_ (S_pcall rfl (AEvs.cons (.tmp rfl) AEvs.nil) (ref03_Key_ok (l[i]'hil).1 (by omega))) ?_
  refine p_ (S_not rfl (.tmp rfl)) ?_
  refine AL_nil ?_
  refine AC_cond (.tmp rfl) (fun hb3 => ?_) (fun hb3 => ?_)
  ·try simp only [zA,zO,zN,zM,zP,zQ,zD,zF,gd] at hb3
   have hx : (labelsE name l) = some (31, [atT name (i : Int), [107, 101, 121]]) := by rw [hgood, eachE_at hil (label_key hil hb3) hall]
   refine AC_seq (AC_region ?_)
   refine mv rfl rfl rfl rfl ?_
   refine mv rfl rfl rfl rfl ?_
   refine p_ (S_pcall rfl (AEvs.cons (.tmp rfl) (AEvs.cons (.tmp rfl) AEvs.nil)) (ref06_at_ok name hn (i : Int) hif)) ?_
   refine p_ (S_cat rfl (.tmp rfl) (AEv.S _) (by first | omega | (simp only [List.length_append, List.length_cons, List.length_nil]; omega))) ?_
   refine ac rfl rfl rfl ?_
   refine as_ rfl rfl rfl rfl ?_
   refine AL_nil (AC_ret ?_)
   refine ret_tmps (ts := [4, 5]) st rfl (by decide) rfl (Sub.l (List.Sublist.refl _)) (Conv.refl (Sub.l (List.Sublist.refl _)) _) ⟨cp_some hx (by rw [join_two, List.append_assoc]; rfl), rfl⟩ (.inl rfl)
  try simp only [zA,zO,zN,zM,zP,zQ,zD,zF,gd] at hb3
  have hk1 : namesR 2 (l[i]'hil).1 = true := hb3
  refine AC_skip ?_
  refine AC_seq ?_
  refine AC_seq ?_
  refine AC_draw (by kernel_rfl) (by kernel_rfl) (.cons rfl (Q_p rfl (S_move rfl (.tmp rfl))) <|
    .cons rfl (Q_p rfl (S_gtr rfl (.tmp rfl) (AEv.const _))) <|
    .cons rfl (Q_p rfl (S_move rfl (.tmp rfl))) <|
    .cons rfl (Q_g rfl rfl (.tmp rfl) (fun hg4 => S_move rfl (.tmp rfl))) <|
    .cons rfl (Q_g rfl rfl (.tmp rfl) (fun hg7 => S_move rfl (.tmp rfl))) <|
    .cons rfl (Q_g rfl rfl (.tmp rfl) (fun hg10 => S_subI rfl (AEv.cd (.tmp rfl)) (AEv.const _) (by (try simp only [gd, Bool.and_eq_true, Bool.or_eq_true, Bool.not_eq_true', Bool.not_eq_false', decide_eq_true_eq, decide_eq_false_iff_not, Bool.or_eq_false_iff, Bool.and_eq_false_iff] at *); omega) (by (try simp only [gd, Bool.and_eq_true, Bool.or_eq_true, Bool.not_eq_true', Bool.not_eq_false', decide_eq_true_eq, decide_eq_false_iff_not, Bool.or_eq_false_iff, Bool.and_eq_false_iff] at *); omega))) <|
    .cons rfl (Q_g rfl rfl (.tmp rfl) (fun hg13 => S_elemN (e := 123) (i := i - 1) (f := labAV) (l := l) 2 rfl (AEv.cd (.tmp rfl)) ((AEv.cd (.tmp rfl)).le (Le.of_eq (congrArg (AV.int _) (by (try simp only [gd, Bool.and_eq_true, Bool.or_eq_true, Bool.not_eq_true', Bool.not_eq_false', decide_eq_true_eq, decide_eq_false_iff_not, Bool.or_eq_false_iff, Bool.and_eq_false_iff] at *); omega)))) (by kernel_rfl) (by kernel_rfl) him (fun _ => rfl))) <|
    .cons rfl (Q_g rfl rfl (.tmp rfl) (fun hg16 => S_fieldP 0 rfl (AEv.cd (.tmp rfl)) (by kernel_rfl))) <|
    .cons rfl (Q_g rfl rfl (.tmp rfl) (fun hg19 => S_loadP rfl (AEv.cd (.tmp rfl)) rfl (by kernel_rfl))) <|
    .cons rfl (Q_g rfl rfl (.tmp rfl) (fun hg22 => S_move rfl (.tmp rfl))) <|
    .cons rfl (Q_g rfl rfl (.tmp rfl) (fun hg25 => S_move rfl (.tmp rfl))) <|
    .cons rfl (Q_g rfl rfl (.tmp rfl) (fun hg28 => S_elemN (e := 123) (f := labAV) (l := l) 2 rfl (AEv.cd (.tmp rfl)) (AEv.cd (.tmp rfl)) (by kernel_rfl) (by kernel_rfl) hil (fun _ => rfl))) <|
    .cons rfl (Q_g rfl rfl (.tmp rfl) (fun hg31 => S_fieldP 0 rfl (AEv.cd (.tmp rfl)) (by kernel_rfl))) <|
    .cons rfl (Q_g rfl rfl (.tmp rfl) (fun hg34 => S_loadP rfl (AEv.cd (.tmp rfl)) rfl (by kernel_rfl))) <|
    .cons rfl (Q_g rfl rfl (.tmp rfl) (fun hg37 => S_geS rfl (AEv.cd (.tmp rfl)) (AEv.cd (.tmp rfl)))) <|
    .cons rfl (Q_p rfl (S_and rfl (.tmp rfl) (fun hp40 => (AEv.cd (.tmp rfl))))) <|
    .nil) ?_
  refine AC_cond (.tmp rfl) (fun hb41 => ?_) (fun hb41 => ?_)
  ·try simp only [zA,zO,zN,zM,zP,zQ,zD,zF,gd] at hb41
   have hx : (labelsE name l) = some (4, [atT name (i : Int), [107, 101, 121]]) := by rw [hgood, eachE_at hil (label_order hil hk1 (by omega) (by simpa using hb41.2)) hall]
   refine AC_seq (AC_region ?_)
   refine mv rfl rfl rfl rfl ?_
   refine mv rfl rfl rfl rfl ?_
   refine p_ (S_pcall rfl (AEvs.cons (.tmp rfl) (AEvs.cons (.tmp rfl) AEvs.nil)) (ref06_at_ok name hn (i : Int) hif)) ?_
   refine p_ (S_cat rfl (.tmp rfl) (AEv.S _) (by first | omega | (simp only [List.length_append, List.length_cons, List.length_nil]; omega))) ?_
   refine ac rfl rfl rfl ?_
   refine as_ rfl rfl rfl rfl ?_
   refine AL_nil (AC_ret ?_)
   refine ret_tmps (ts := [4, 5]) st rfl (by decide) rfl (Sub.l (List.Sublist.refl _)) (Conv.refl (Sub.l (List.Sublist.refl _)) _) ⟨cp_some hx (by rw [join_two, List.append_assoc]; rfl), rfl⟩ (.inl rfl)
  try simp only [zA,zO,zN,zM,zP,zQ,zD,zF,gd] at hb41
  have hk2 : ∀ h : 0 < i, Op.bytesLess (l[i - 1]'(by omega)).1 (l[i]'hil).1 = true := fun h => by
   rcases hb41 with h' | h'
   ·omega
   ·simpa using h'
  refine AC_skip ?_
  refine AC_seq (AC_region ?_)
  refine mv rfl rfl rfl rfl ?_
  refine mv rfl rfl rfl rfl ?_
  refine p_ (S_elemN (e := 123) 2 rfl (.tmp rfl) (.tmp rfl) (by kernel_rfl) (by kernel_rfl) (by omega) (fun _ => rfl)) ?_
  refine p_ (S_fieldP 1 rfl (.tmp rfl) (by kernel_rfl)) ?_
  refine p_ (S_loadP rfl (.tmp rfl) rfl (by kernel_rfl)) ?_
  refine p_ (S_pcall rfl (AEvs.cons (.tmp rfl) AEvs.nil) (ref03_Val_ok (l[i]'hil).2 (by omega))) ?_
  refine p_ (S_not rfl (.tmp rfl)) ?_
  refine AL_nil ?_
  refine AC_cond (.tmp rfl) (fun hb42 => ?_) (fun hb42 => ?_)
  ·try simp only [zA,zO,zN,zM,zP,zQ,zD,zF,gd] at hb42
   have hx : (labelsE name l) = some (32, [atT name (i : Int), [118, 97, 108]]) := by rw [hgood, eachE_at hil (label_val hil hk1 hk2 hb42) hall]
   refine AC_seq (AC_region ?_)
   refine mv rfl rfl rfl rfl ?_
   refine mv rfl rfl rfl rfl ?_
   refine p_ (S_pcall rfl (AEvs.cons (.tmp rfl) (AEvs.cons (.tmp rfl) AEvs.nil)) (ref06_at_ok name hn (i : Int) hif)) ?_
   refine p_ (S_cat rfl (.tmp rfl) (AEv.S _) (by first | omega | (simp only [List.length_append, List.length_cons, List.length_nil]; omega))) ?_
   refine ac rfl rfl rfl ?_
   refine as_ rfl rfl rfl rfl ?_
   refine AL_nil (AC_ret ?_)
   refine ret_tmps (ts := [4, 5]) st rfl (by decide) rfl (Sub.l (List.Sublist.refl _)) (Conv.refl (Sub.l (List.Sublist.refl _)) _) ⟨cp_some hx (by rw [join_two, List.append_assoc]; rfl), rfl⟩ (.inl rfl)
  try simp only [zA,zO,zN,zM,zP,zQ,zD,zF,gd] at hb42
  have hk3 : valV (l[i]'hil).2 = true := hb42
  refine AC_skip ?_
  refine AC_region ?_
  refine mv rfl rfl rfl rfl ?_
  refine p_ (S_addI rfl (.tmp rfl) (AEv.const _) (by omega) (by omega)) ?_
  refine as_ rfl rfl rfl rfl ?_
  refine AL_nil ?_
  refine ⟨i + 1, ⟨by omega, fun j h => ?_⟩, by omega, (Sub.l (List.Sublist.refl _)), (.cons rfl (by first | exact Le.refl _ | exact Le.nils | exact Le.row _ _ _ _ | exact Le.of_eq (by first | rfl | (simp; done) | (push_cast; rfl) | (simp; omega))) .nil), (.cons rfl (Le.refl _) (.cons rfl (Le.refl _) .nil))⟩
  rcases Nat.lt_or_ge j i with h' | h'
  ·exact hall j h'
  ·have : j = i := by omega
   subst this
   exact label_ok hil hk1 hk2 hk3
 try simp only [zA,zO,zN,zM,zP,zQ,zD,zF,gd] at hb2
 have hend : (labelsE name l) = none := by rw [hgood, eachE_all fun j hj => hall j (by omega)]
 refine AC_exit ?_
 refine AC_seq (AC_region ?_)
 refine ac rfl rfl rfl ?_
 refine p_ (S_assign rfl (AEv.S _)) ?_
 refine AL_nil (AC_ret ?_)
 refine ret_tmps (ts := [4, 5]) st rfl (by decide) rfl (Sub.l (List.Sublist.refl _)) (Conv.refl (Sub.l (List.Sublist.refl _)) _) ⟨cp_none hend, rfl⟩ (.inl rfl)
theorem ref06_three_ok (r : Tri) : PCalls Tryz.prog 129 [resAV r] (resAV r) := by
 intro st
 refine co 10 Tryz.func129 ?_
 refine AC_seq (AC_region ?_)
 refine s_ (S_box rfl (.tmp rfl)) ?_
 rintro _ _ ⟨b1, rfl, rfl⟩
 refine s_ (S_alloc [.int .i64 0, .int .i64 0, .int .i64 0] rfl (by kernel_rfl)) ?_
 rintro _ _ ⟨b2, rfl, rfl⟩
 refine AL_nil (AC_seq (AC_region ?_))
 refine fl 0 ?_
 refine ld 1 ?_
 refine fl 1 ?_
 refine ld 1 ?_
 refine fl 2 ?_
 refine ld 1 ?_
 refine p_ (S_build (t := 209) (pl := [(0, 1), (1, 1), (2, 1)]) (zs := [.int .i64 0, .int .i64 0, .int .i64 0]) rfl (AEvs.cons (.tmp rfl) (AEvs.cons (.tmp rfl) (AEvs.cons (.tmp rfl) AEvs.nil))) (by kernel_rfl) rfl) ?_
 refine stW 0 ?_
 refine AL_nil (AC_ret ?_)
 refine ret_cell 0 st rfl rfl rfl (by kernel_rfl) (Sub.l (List.Sublist.cons _ (List.Sublist.cons _ (List.Sublist.refl _)))) (Conv.refl (Sub.l (List.Sublist.cons _ (List.Sublist.cons _ (List.Sublist.refl _)))) _) ⟨rfl, rfl⟩ (.inl rfl)
theorem ref06_numbers_ok (n lo : Tri) (free : Bool) : PCalls Tryz.prog 128 [resAV n, resAV lo, .bool free] (.int .i64 (numsI n lo free)) := by
 intro st
 refine co 36 Tryz.func128 ?_
 refine AC_seq (AC_region ?_)
 refine s_ (S_box rfl (.tmp rfl)) ?_
 rintro _ _ ⟨b3, rfl, rfl⟩
 refine s_ (S_box rfl (.tmp rfl)) ?_
 rintro _ _ ⟨b4, rfl, rfl⟩
 refine ac rfl rfl rfl ?_
 refine AL_nil ?_
 refine AC_seq ?_
 refine AC_seq (AC_region ?_)
 refine ac rfl rfl rfl ?_
 refine AL_nil ?_
 refine AC_block ?_
 refine AC_loopK (G := Nat) [(2, _), (3, _), (4, _)] (fun k => k ≤ 3 ∧ ∀ j, j < k → badN (at3 n j) (at3 lo j) free = false) (fun g => [(7, .int .i64 (g : Int))]) (fun g => (b4, .cells (resL lo)) :: (b3, .cells (resL n)) :: st) (fun g => 3 - g) (0) (⟨by omega, fun j h => absurd h (Nat.not_lt_zero _)⟩) (Sub.l (List.Sublist.refl _)) (.cons rfl (Le.refl _) (.cons rfl (Le.refl _) (.cons rfl (Le.refl _) .nil))) (.cons rfl (by first | exact Le.refl _ | exact Le.nils | exact Le.row _ _ _ _ | exact Le.of_eq (by first | rfl | (simp; done) | (push_cast; rfl) | (simp; omega))) .nil) ?_
 rintro k ⟨hk, hall⟩
 try dsimp only
 simp only [List.cons_append, List.nil_append]
 refine AC_seq ?_
 refine AC_seq (AC_region ?_)
 refine mv rfl rfl rfl rfl ?_
 refine p_ (S_lss rfl (.tmp rfl) (AEv.const _)) ?_
 refine AL_nil ?_
 refine AC_cond (.tmp rfl) (fun hb3 => ?_) (fun hb3 => ?_)
 ·try simp only [zA,zO,zN,zM,zP,zQ,zD,zF,gd] at hb3
  have hk3 : k < 3 := by omega
  refine AC_skip ?_
  refine AC_seq ?_
  refine AC_block ?_
  refine AC_seq ?_
  refine AC_draw (by kernel_rfl) (by kernel_rfl) (.cons rfl (Q_p rfl (S_move rfl (.tmp rfl))) <|
    .cons rfl (Q_p rfl (S_not rfl (.tmp rfl))) <|
    .cons rfl (Q_p rfl (S_move rfl (.tmp rfl))) <|
    .cons rfl (Q_g rfl rfl (.tmp rfl) (fun hg4 => S_move rfl (.tmp rfl))) <|
    .cons rfl (Q_g rfl rfl (.tmp rfl) (fun hg7 => S_elemA (e := 3) (len := 3) 1 rfl (.tmp rfl) (AEv.cd (.tmp rfl)) (by kernel_rfl) (by kernel_rfl) (by (try simp only [gd, Bool.and_eq_true, Bool.or_eq_true, Bool.not_eq_true', Bool.not_eq_false', decide_eq_true_eq, decide_eq_false_iff_not, Bool.or_eq_false_iff, Bool.and_eq_false_iff] at *); omega) (by (try simp only [gd, Bool.and_eq_true, Bool.or_eq_true, Bool.not_eq_true', Bool.not_eq_false', decide_eq_true_eq, decide_eq_false_iff_not, Bool.or_eq_false_iff, Bool.and_eq_false_iff] at *); omega))) <|
    .cons rfl (Q_g rfl rfl (.tmp rfl) (fun hg10 => S_load 1 rfl (AEv.cd (.tmp rfl)) rfl (c := .int .i64 (at3 n k)) (by rw [res_at (by assumption)]) (by kernel_rfl))) <|
    .cons rfl (Q_g rfl rfl (.tmp rfl) (fun hg13 => S_neq rfl (AEv.cd (.tmp rfl)) (AEv.const _))) <|
    .cons rfl (Q_p rfl (S_or rfl (.tmp rfl) (fun hp16 => (AEv.cd (.tmp rfl))))) <|
    .cons rfl (Q_p rfl (S_move rfl (.tmp rfl))) <|
    .cons rfl (Q_g rfl rfl (.tmp rfl) (fun hg17 => S_move rfl (.tmp rfl))) <|
    .cons rfl (Q_g rfl rfl (.tmp rfl) (fun hg20 => S_elemA (e := 3) (len := 3) 1 rfl (.tmp rfl) (AEv.cd (.tmp rfl)) (by kernel_rfl) (by kernel_rfl) (by (try simp only [gd, Bool.and_eq_true, Bool.or_eq_true, Bool.not_eq_true', Bool.not_eq_false', decide_eq_true_eq, decide_eq_false_iff_not, Bool.or_eq_false_iff, Bool.and_eq_false_iff] at *); omega) (by (try simp only [gd, Bool.and_eq_true, Bool.or_eq_true, Bool.not_eq_true', Bool.not_eq_false', decide_eq_true_eq, decide_eq_false_iff_not, Bool.or_eq_false_iff, Bool.and_eq_false_iff] at *); omega))) <|
    .cons rfl (Q_g rfl rfl (.tmp rfl) (fun hg23 => S_load 1 rfl (AEv.cd (.tmp rfl)) rfl (c := .int .i64 (at3 n k)) (by rw [res_at (by assumption)]) (by kernel_rfl))) <|
    .cons rfl (Q_g rfl rfl (.tmp rfl) (fun hg26 => S_move rfl (.tmp rfl))) <|
    .cons rfl (Q_g rfl rfl (.tmp rfl) (fun hg29 => S_elemA (e := 3) (len := 3) 1 rfl (.tmp rfl) (AEv.cd (.tmp rfl)) (by kernel_rfl) (by kernel_rfl) (by (try simp only [gd, Bool.and_eq_true, Bool.or_eq_true, Bool.not_eq_true', Bool.not_eq_false', decide_eq_true_eq, decide_eq_false_iff_not, Bool.or_eq_false_iff, Bool.and_eq_false_iff] at *); omega) (by (try simp only [gd, Bool.and_eq_true, Bool.or_eq_true, Bool.not_eq_true', Bool.not_eq_false', decide_eq_true_eq, decide_eq_false_iff_not, Bool.or_eq_false_iff, Bool.and_eq_false_iff] at *); omega))) <|
    .cons rfl (Q_g rfl rfl (.tmp rfl) (fun hg32 => S_load 0 rfl (AEv.cd (.tmp rfl)) rfl (c := .int .i64 (at3 lo k)) (by rw [res_at (by assumption)]) (by kernel_rfl))) <|
    .cons rfl (Q_g rfl rfl (.tmp rfl) (fun hg35 => S_lss rfl (AEv.cd (.tmp rfl)) (AEv.cd (.tmp rfl)))) <|
    .cons rfl (Q_g rfl rfl (.tmp rfl) (fun hg38 => S_move rfl (AEv.cd (.tmp rfl)))) <|
    .cons rfl (Q_gg rfl rfl (.tmp rfl) (fun hg41 hg42 hg43 => S_move rfl (.tmp rfl))) <|
    .cons rfl (Q_gg rfl rfl (.tmp rfl) (fun hg44 hg45 hg46 => S_elemA (e := 3) (len := 3) 1 rfl (.tmp rfl) (AEv.cd (.tmp rfl)) (by kernel_rfl) (by kernel_rfl) (by (try simp only [gd, Bool.and_eq_true, Bool.or_eq_true, Bool.not_eq_true', Bool.not_eq_false', decide_eq_true_eq, decide_eq_false_iff_not, Bool.or_eq_false_iff, Bool.and_eq_false_iff] at *); omega) (by (try simp only [gd, Bool.and_eq_true, Bool.or_eq_true, Bool.not_eq_true', Bool.not_eq_false', decide_eq_true_eq, decide_eq_false_iff_not, Bool.or_eq_false_iff, Bool.and_eq_false_iff] at *); omega))) <|
    .cons rfl (Q_gg rfl rfl (.tmp rfl) (fun hg47 hg48 hg49 => S_load 1 rfl (AEv.cd (.tmp rfl)) rfl (c := .int .i64 (at3 n k)) (by rw [res_at (by assumption)]) (by kernel_rfl))) <|
    .cons rfl (Q_gg rfl rfl (.tmp rfl) (fun hg50 hg51 hg52 => S_gtr rfl (AEv.cd (.tmp rfl)) (AEv.const _))) <|
    .cons rfl (Q_g rfl rfl (.tmp rfl) (fun hg53 => S_or rfl (AEv.cd (.tmp rfl)) (fun hp56 => (AEv.cd (.tmp rfl))))) <|
    .cons rfl (Q_p rfl (S_and rfl (.tmp rfl) (fun hp57 => (AEv.cd (.tmp rfl))))) <|
    .nil) ?_
  refine AC_cond (.tmp rfl) (fun hb58 => ?_) (fun hb58 => ?_)
  ·try simp only [zA,zO,zN,zM,zP,zQ,zD,zF,gd] at hb58
   have hbn : badN (at3 n k) (at3 lo k) free = true := by
    unfold badN
    simp only [Bool.and_eq_true, Bool.or_eq_true, Bool.not_eq_true', decide_eq_true_eq, decide_eq_false_iff_not] at hb58 ⊢
    exact hb58
   refine AC_seq (AC_region ?_)
   refine mv rfl rfl rfl rfl ?_
   refine as_ rfl rfl rfl rfl ?_
   refine AL_nil (AC_ret ?_)
   refine ret_tmp st rfl rfl (Sub.l (List.Sublist.cons _ (List.Sublist.cons _ (List.Sublist.refl _)))) (Conv.refl (Sub.l (List.Sublist.cons _ (List.Sublist.cons _ (List.Sublist.refl _)))) _) ⟨by rw [nums_at hk3 hbn hall], rfl⟩ (.inl rfl)
  try simp only [zA,zO,zN,zM,zP,zQ,zD,zF,gd] at hb58
  have hbn : badN (at3 n k) (at3 lo k) free = false := by
   unfold badN
   simp only [Bool.and_eq_false_iff, Bool.or_eq_false_iff, Bool.not_eq_false', decide_eq_true_eq, decide_eq_false_iff_not] at hb58 ⊢
   exact hb58
  refine AC_skip ?_
  refine AC_region ?_
  refine mv rfl rfl rfl rfl ?_
  refine p_ (S_addI rfl (.tmp rfl) (AEv.const _) (by omega) (by omega)) ?_
  refine as_ rfl rfl rfl rfl ?_
  refine AL_nil ?_
  refine ⟨k + 1, ⟨by omega, fun j h => ?_⟩, by omega, (Sub.l (List.Sublist.refl _)), (.cons rfl (by first | exact Le.refl _ | exact Le.nils | exact Le.row _ _ _ _ | exact Le.of_eq (by first | rfl | (simp; done) | (push_cast; rfl) | (simp; omega))) .nil), (.cons rfl (Le.refl _) (.cons rfl (Le.refl _) (.cons rfl (Le.refl _) .nil)))⟩
  rcases Nat.lt_or_ge j k with h' | h'
  ·exact hall j h'
  ·have : j = k := by omega
   subst this
   exact hbn
 try simp only [zA,zO,zN,zM,zP,zQ,zD,zF,gd] at hb3
 have hk3 : ¬ k < 3 := by omega
 refine AC_exit ?_
 refine AC_seq (AC_region ?_)
 refine ac rfl rfl rfl ?_
 refine AL_nil (AC_ret ?_)
 refine ret_tmp st rfl rfl (Sub.l (List.Sublist.cons _ (List.Sublist.cons _ (List.Sublist.refl _)))) (Conv.refl (Sub.l (List.Sublist.cons _ (List.Sublist.cons _ (List.Sublist.refl _)))) _) ⟨by rw [nums_none fun j hj => hall j (by omega)], rfl⟩ (.inl rfl)
theorem ref06_Has_ok (l : List Ctr) (n : Int) (hl : l.length ≤ 1000000) (hp : ∀ c ∈ l, c.ports.length ≤ 1000000) : PCalls Tryz.prog 130 [.sl (ctrsV l), .int .i64 n] (.bool (decide (n ∈ l.flatMap Ctr.ports))) := by
 intro st
 refine co 33 Tryz.func130 ?_
 refine AC_seq (AC_region ?_)
 refine ac rfl rfl rfl ?_
 refine AL_nil ?_
 refine AC_seq ?_
 refine AC_seq (AC_region ?_)
 refine ac rfl rfl rfl ?_
 refine AL_nil ?_
 refine AC_block ?_
 refine AC_loopK (G := Nat) [(0, _), (1, _)] (fun g => g ≤ l.length ∧ n ∉ (l.take g).flatMap Ctr.ports) (fun g => [(5, .int .i64 (g : Int))]) (fun g => st) (fun g => l.length - g) (0) (⟨Nat.zero_le _, by simp⟩) (Sub.l (List.Sublist.refl _)) (.cons rfl (Le.refl _) (.cons rfl (Le.refl _) .nil)) (.cons rfl (by first | exact Le.refl _ | exact Le.nils | exact Le.row _ _ _ _ | exact Le.of_eq (by first | rfl | (simp; done) | (push_cast; rfl) | (simp; omega))) .nil) ?_
 rintro i ⟨hi, hno⟩
 try dsimp only
 simp only [List.cons_append, List.nil_append]
 refine AC_seq ?_
 refine AC_seq (AC_region ?_)
 refine mv rfl rfl rfl rfl ?_
 refine mv rfl rfl rfl rfl ?_
 refine p_ (by first | exact S_lenM (e := 67) rfl (.tmp rfl) (by kernel_rfl) | exact S_len (e := 67) rfl (.tmp rfl) (by kernel_rfl)) ?_
 refine p_ (S_lss rfl (.tmp rfl) (.tmp rfl)) ?_
 refine AL_nil ?_
 refine AC_cond (.tmp rfl) (fun hb1 => ?_) (fun hb1 => ?_)
 ·try simp only [zA,zO,zN,zM,zP,zQ,zD,zF,gd] at hb1
  have hil : i < l.length := by omega
  have hpl := hp _ (List.getElem_mem hil)
  refine AC_skip ?_
  refine AC_seq ?_
  refine AC_block ?_
  refine AC_seq (AC_region ?_)
  refine ac rfl rfl rfl ?_
  refine AL_nil ?_
  refine AC_block ?_
  refine AC_loopK (G := Nat) [(0, _), (1, _), (5, _)] (fun g => g ≤ (l[i]'hil).ports.length ∧ n ∉ (l[i]'hil).ports.take g) (fun g => [(6, .int .i64 (g : Int))]) (fun g => st) (fun g => (l[i]'hil).ports.length - g) (0) (⟨Nat.zero_le _, by simp⟩) (Sub.l (List.Sublist.refl _)) (.cons rfl (Le.refl _) (.cons rfl (Le.refl _) (.cons rfl (Le.refl _) .nil))) (.cons rfl (by first | exact Le.refl _ | exact Le.nils | exact Le.row _ _ _ _ | exact Le.of_eq (by first | rfl | (simp; done) | (push_cast; rfl) | (simp; omega))) .nil) ?_
  rintro k ⟨hk, hnk⟩
  try dsimp only
  simp only [List.cons_append, List.nil_append]
  refine AC_seq ?_
  refine AC_seq (AC_region ?_)
  refine mv rfl rfl rfl rfl ?_
  refine mv rfl rfl rfl rfl ?_
  refine mv rfl rfl rfl rfl ?_
  refine p_ (S_elemN (e := 67) 11 rfl (.tmp rfl) (.tmp rfl) (by kernel_rfl) (by kernel_rfl) (by omega) (fun _ => rfl)) ?_
  refine p_ (S_fieldP 8 rfl (.tmp rfl) (by kernel_rfl)) ?_
  refine p_ (S_loadP rfl (.tmp rfl) rfl (by kernel_rfl)) ?_
  refine p_ (by first | exact S_lenM (e := 3) rfl (.tmp rfl) (by kernel_rfl) | exact S_len (e := 3) rfl (.tmp rfl) (by kernel_rfl)) ?_
  refine p_ (S_lss rfl (.tmp rfl) (.tmp rfl)) ?_
  refine AL_nil ?_
  refine AC_cond (.tmp rfl) (fun hb2 => ?_) (fun hb2 => ?_)
  ·try simp only [zA,zO,zN,zM,zP,zQ,zD,zF,gd] at hb2
   have hkl : k < (l[i]'hil).ports.length := by omega
   refine AC_skip ?_
   refine AC_seq ?_
   refine AC_block ?_
   refine AC_seq (AC_region ?_)
   refine mv rfl rfl rfl rfl ?_
   refine mv rfl rfl rfl rfl ?_
   refine p_ (S_elemN (e := 67) 11 rfl (.tmp rfl) (.tmp rfl) (by kernel_rfl) (by kernel_rfl) (by omega) (fun _ => rfl)) ?_
   refine p_ (S_fieldP 8 rfl (.tmp rfl) (by kernel_rfl)) ?_
   refine p_ (S_loadP rfl (.tmp rfl) rfl (by kernel_rfl)) ?_
   refine mv rfl rfl rfl rfl ?_
   refine p_ (S_elemN (e := 3) 1 rfl (.tmp rfl) (.tmp rfl) (by kernel_rfl) (by kernel_rfl) (by omega) (fun _ => rfl)) ?_
   refine p_ (S_loadP rfl (.tmp rfl) rfl (by kernel_rfl)) ?_
   refine mv rfl rfl rfl rfl ?_
   refine p_ (S_eql rfl (.tmp rfl) (.tmp rfl)) ?_
   refine AL_nil ?_
   refine AC_cond (.tmp rfl) (fun hb3 => ?_) (fun hb3 => ?_)
   ·try simp only [zA,zO,zN,zM,zP,zQ,zD,zF,gd] at hb3
    have hin : n ∈ l.flatMap Ctr.ports := List.mem_flatMap.2 ⟨_, List.getElem_mem hil, by have := hb3; rw [← this]; exact List.getElem_mem hkl⟩
    refine AC_seq (AC_region ?_)
    refine ac rfl rfl rfl ?_
    refine AL_nil (AC_ret ?_)
    refine ret_tmp st rfl rfl (Sub.l (List.Sublist.refl _)) (Conv.refl (Sub.l (List.Sublist.refl _)) _) ⟨by rw [decide_eq_true hin], rfl⟩ (.inl rfl)
   try simp only [zA,zO,zN,zM,zP,zQ,zD,zF,gd] at hb3
   have hne : ((l[i]'hil).ports[k]'hkl) ≠ n := hb3
   refine AC_skip ?_
   refine AC_region ?_
   refine mv rfl rfl rfl rfl ?_
   refine p_ (S_addI rfl (.tmp rfl) (AEv.const _) (by omega) (by omega)) ?_
   refine as_ rfl rfl rfl rfl ?_
   refine AL_nil ?_
   exact ⟨k + 1, ⟨by omega, by rw [← take_snoc hkl]; exact fun h => (List.mem_append.1 h).elim hnk fun h => hne (by simpa using (List.mem_singleton.1 h).symm)⟩, by omega, (Sub.l (List.Sublist.refl _)), (.cons rfl (by first | exact Le.refl _ | exact Le.nils | exact Le.row _ _ _ _ | exact Le.of_eq (by first | rfl | (simp; done) | (push_cast; rfl) | (simp; omega))) .nil), (.cons rfl (Le.refl _) (.cons rfl (Le.refl _) (.cons rfl (Le.refl _) .nil)))⟩
  try simp only [zA,zO,zN,zM,zP,zQ,zD,zF,gd] at hb2
  have hend : n ∉ (l[i]'hil).ports := by rw [List.take_of_length_le (by omega)] at hnk; exact hnk
  refine AC_exit ?_
  refine AC_region ?_
  refine mv rfl rfl rfl rfl ?_
  refine p_ (S_addI rfl (.tmp rfl) (AEv.const _) (by omega) (by omega)) ?_
  refine as_ rfl rfl rfl rfl ?_
  refine AL_nil ?_
  exact ⟨i + 1, ⟨by omega, by rw [← flat_snoc hil]; exact fun h => (List.mem_append.1 h).elim hno hend⟩, by omega, (Sub.l (List.Sublist.refl _)), (.cons rfl (by first | exact Le.refl _ | exact Le.nils | exact Le.row _ _ _ _ | exact Le.of_eq (by first | rfl | (simp; done) | (push_cast; rfl) | (simp; omega))) .nil), (.cons rfl (Le.refl _) (.cons rfl (Le.refl _) .nil))⟩
 try simp only [zA,zO,zN,zM,zP,zQ,zD,zF,gd] at hb1
 have hdone : n ∉ l.flatMap Ctr.ports := by rw [List.take_of_length_le (by omega)] at hno; exact hno
 refine AC_exit ?_
 refine AC_seq (AC_region ?_)
 refine ac rfl rfl rfl ?_
 refine AL_nil (AC_ret ?_)
 refine ret_tmp st rfl rfl (Sub.l (List.Sublist.refl _)) (Conv.refl (Sub.l (List.Sublist.refl _)) _) ⟨by rw [decide_eq_false hdone], rfl⟩ (.inl rfl)
set_option maxHeartbeats 1000000 in
theorem ref06_one_ok (c : Ctr) (ahead : List Ctr) (init : Bool) (hn : c.name.length ≤ 1000000) (him : c.image.length ≤ 1000000) (hpc : c.ports.length ≤ 1000000) (ha : ahead.length ≤ 1000000) (hap : ∀ x ∈ ahead, x.ports.length ≤ 1000000) : PCalls Tryz.prog 93 [ctrAV c, .sl (ctrsV ahead), .bool init] (cpAV (ctrE (ahead.map Ctr.name) (ahead.flatMap Ctr.ports) c (if init = true then 0 else 3) (if init = true then 0 else 1000))) := by
 intro st
 refine co 175 Tryz.func93 ?_
 refine AC_seq (AC_region ?_)
 refine s_ (S_box rfl (.tmp rfl)) ?_
 rintro _ _ ⟨b3, rfl, rfl⟩
 refine ac rfl rfl rfl ?_
 refine p_ (S_assign rfl (AEv.S _)) ?_
 refine AL_nil ?_
 refine AC_seq ?_
 refine AC_seq (AC_region ?_)
 refine fl 0 ?_
 refine ld 0 ?_
 refine p_ (S_pcall rfl (AEvs.cons (.tmp rfl) AEvs.nil) (ref03_Name_ok c.name (by omega))) ?_
 refine p_ (S_not rfl (.tmp rfl)) ?_
 refine AL_nil ?_
 refine AC_cond (.tmp rfl) (fun hb2 => ?_) (fun hb2 => ?_)
 ·try simp only [zA,zO,zN,zM,zP,zQ,zD,zF,gd] at hb2
  have hx := one_1 (ps := (ahead.flatMap Ctr.ports)) (a := (if init = true then 0 else 3)) (b := (if init = true then 0 else 1000)) (nameE_bad (ns := (ahead.map Ctr.name)) (c := c) hb2)
  refine AC_seq (AC_region ?_)
  refine ac rfl rfl rfl ?_
  refine p_ (S_assign rfl (AEv.S _)) ?_
  refine AL_nil (AC_ret ?_)
  refine ret_tmps (ts := [6, 7]) st rfl (by decide) rfl (Sub.l (List.Sublist.cons _ (List.Sublist.refl _))) (Conv.refl (Sub.l (List.Sublist.cons _ (List.Sublist.refl _))) _) ⟨cp_some hx rfl, rfl⟩ (.inl rfl)
 try simp only [zA,zO,zN,zM,zP,zQ,zD,zF,gd] at hb2
 have hnv : nameV c.name = true := hb2
 refine AC_skip ?_
 refine AC_seq ?_
 refine AC_seq (AC_region ?_)
 refine ac rfl rfl rfl ?_
 refine AL_nil ?_
 refine AC_block ?_
 refine AC_loopK (G := Nat) [(1, _), (2, _), (3, _)] (fun g => g ≤ ahead.length ∧ c.name ∉ (ahead.take g).map Ctr.name) (fun g => [(8, .int .i64 (g : Int))]) (fun g => (b3, .cells (ctrL c)) :: st) (fun g => ahead.length - g) (0) (⟨Nat.zero_le _, by simp⟩) (Sub.l (List.Sublist.refl _)) (.cons rfl (Le.refl _) (.cons rfl (Le.refl _) (.cons rfl (Le.refl _) .nil))) (.cons rfl (by first | exact Le.refl _ | exact Le.nils | exact Le.row _ _ _ _ | exact Le.of_eq (by first | rfl | (simp; done) | (push_cast; rfl) | (simp; omega))) .nil) ?_
 rintro i ⟨hi, hno⟩
 try dsimp only
 simp only [List.cons_append, List.nil_append]
 refine AC_seq ?_
 refine AC_seq (AC_region ?_)
 refine mv rfl rfl rfl rfl ?_
 refine mv rfl rfl rfl rfl ?_
 refine p_ (by first | exact S_lenM (e := 67) rfl (.tmp rfl) (by kernel_rfl) | exact S_len (e := 67) rfl (.tmp rfl) (by kernel_rfl)) ?_
 refine p_ (S_lss rfl (.tmp rfl) (.tmp rfl)) ?_
 refine AL_nil ?_
 refine AC_cond (.tmp rfl) (fun hb3 => ?_) (fun hb3 => ?_)
 ·try simp only [zA,zO,zN,zM,zP,zQ,zD,zF,gd] at hb3
  have hil : i < ahead.length := by omega
  refine AC_skip ?_
  refine AC_seq ?_
  refine AC_block ?_
  refine AC_seq ?_
  refine AC_draw (by kernel_rfl) (by kernel_rfl) (.cons rfl (Q_p rfl (S_move rfl (.tmp rfl))) <|
    .cons rfl (Q_p rfl (S_move rfl (.tmp rfl))) <|
    .cons rfl (Q_p rfl (S_elemN (e := 67) 11 rfl (.tmp rfl) (.tmp rfl) (by kernel_rfl) (by kernel_rfl) (by omega) (fun _ => rfl))) <|
    .cons rfl (Q_p rfl (S_fieldP 0 rfl (.tmp rfl) (by kernel_rfl))) <|
    .cons rfl (Q_p rfl (S_loadP rfl (.tmp rfl) rfl (by kernel_rfl))) <|
    .cons rfl (Q_p rfl (S_field 0 rfl (.tmp rfl) (by kernel_rfl))) <|
    .cons rfl (Q_p rfl (S_load 0 rfl (.tmp rfl) rfl rfl (by kernel_rfl))) <|
    .cons rfl (Q_p rfl (S_eqS rfl (.tmp rfl) (.tmp rfl))) <|
    .nil) ?_
  refine AC_cond (.tmp rfl) (fun hb4 => ?_) (fun hb4 => ?_)
  ·try simp only [zA,zO,zN,zM,zP,zQ,zD,zF,gd] at hb4
   have hx := one_1 (ps := (ahead.flatMap Ctr.ports)) (a := (if init = true then 0 else 3)) (b := (if init = true then 0 else 1000)) (nameE_there (ns := (ahead.map Ctr.name)) (c := c) hnv (by have := hb4; rw [← this]; exact List.mem_map_of_mem (List.getElem_mem hil)))
   refine AC_seq (AC_region ?_)
   refine ac rfl rfl rfl ?_
   refine p_ (S_assign rfl (AEv.S _)) ?_
   refine AL_nil (AC_ret ?_)
   refine ret_tmps (ts := [6, 7]) st rfl (by decide) rfl (Sub.l (List.Sublist.cons _ (List.Sublist.refl _))) (Conv.refl (Sub.l (List.Sublist.cons _ (List.Sublist.refl _))) _) ⟨cp_some hx rfl, rfl⟩ (.inl rfl)
  try simp only [zA,zO,zN,zM,zP,zQ,zD,zF,gd] at hb4
  have hne : (ahead[i]'hil).name ≠ c.name := hb4
  refine AC_skip ?_
  refine AC_region ?_
  refine mv rfl rfl rfl rfl ?_
  refine p_ (S_addI rfl (.tmp rfl) (AEv.const _) (by omega) (by omega)) ?_
  refine as_ rfl rfl rfl rfl ?_
  refine AL_nil ?_
  exact ⟨i + 1, ⟨by omega, by
   rw [List.take_succ_eq_append_getElem hil, List.map_append]
   intro h
   rcases List.mem_append.1 h with h | h
   ·exact hno h
   ·simp only [List.map_cons, List.map_nil, List.mem_singleton] at h; exact hne h.symm⟩, by omega, (Sub.l (List.Sublist.refl _)), (.cons rfl (by first | exact Le.refl _ | exact Le.nils | exact Le.row _ _ _ _ | exact Le.of_eq (by first | rfl | (simp; done) | (push_cast; rfl) | (simp; omega))) .nil), (.cons rfl (Le.refl _) (.cons rfl (Le.refl _) (.cons rfl (Le.refl _) .nil)))⟩
 try simp only [zA,zO,zN,zM,zP,zQ,zD,zF,gd] at hb3
 have hn0 : nameE (ahead.map Ctr.name) c.name = none := nameE_ok hnv (by rw [List.take_of_length_le (by omega)] at hno; exact hno)
 refine AC_exit ?_
 refine AC_seq (AC_region ?_)
 refine fl 1 ?_
 refine ld 0 ?_
 refine p_ (S_pcall rfl (AEvs.cons (.tmp rfl) AEvs.nil) (ref03_Split_ok c.image (by omega))) ?_
 refine mv rfl rfl rfl rfl ?_
 refine ex 0 ?_
 refine ex 1 ?_
 refine ex 2 ?_
 refine as_ rfl rfl rfl rfl ?_
 refine as_ rfl rfl rfl rfl ?_
 refine as_ rfl rfl rfl rfl ?_
 refine AL_nil ?_
 refine AC_seq ?_
 refine AC_seq (AC_region ?_)
 refine mv rfl rfl rfl rfl ?_
 refine p_ (S_not rfl (.tmp rfl)) ?_
 refine AL_nil ?_
 refine AC_cond (.tmp rfl) (fun hb5 => ?_) (fun hb5 => ?_)
 ·try simp only [zA,zO,zN,zM,zP,zQ,zD,zF,gd] at hb5
  have hx := one_2 (ps := (ahead.flatMap Ctr.ports)) (a := (if init = true then 0 else 3)) (b := (if init = true then 0 else 1000)) hn0 (show imgE c = some (33, [[105, 109, 97, 103, 101]]) by unfold imgE; rw [hb5]; rfl)
  refine AC_seq (AC_region ?_)
  refine ac rfl rfl rfl ?_
  refine p_ (S_assign rfl (AEv.S _)) ?_
  refine AL_nil (AC_ret ?_)
  refine ret_tmps (ts := [6, 7]) st rfl (by decide) rfl (Sub.l (List.Sublist.cons _ (List.Sublist.refl _))) (Conv.refl (Sub.l (List.Sublist.cons _ (List.Sublist.refl _))) _) ⟨cp_some hx rfl, rfl⟩ (.inl rfl)
 try simp only [zA,zO,zN,zM,zP,zQ,zD,zF,gd] at hb5
 have hi0 : imgE c = none := by unfold imgE; rw [hb5]; rfl
 refine AC_skip ?_
 refine AC_seq (AC_region ?_)
 refine p_ (S_buildSlice (e := 9) 1 rfl (AEvs.cons (AEv.S _) (AEvs.cons (AEv.S _) (AEvs.cons (AEv.S _) AEvs.nil))) rfl (by kernel_rfl) (by kernel_rfl) (by intro y hy; simp only [List.mem_cons, List.not_mem_nil, or_false] at hy; rcases hy with rfl | rfl | rfl <;> exact ⟨rfl, rfl⟩) (by decide) (by decide) (by decide)) ?_
 refine as_ rfl rfl rfl rfl ?_
 refine AL_nil (AC_seq (AC_region ?_))
 refine fl 2 ?_
 refine ldN 3 0 ?_
 refine p_ (S_pcall rfl (AEvs.cons (y := resAV c.req) (.tmp rfl) AEvs.nil) (ref06_three_ok c.req)) ?_
 refine p_ (S_build (t := 209) (pl := [(0, 1), (1, 1), (2, 1)]) (zs := [.int .i64 0, .int .i64 0, .int .i64 0]) rfl AEvs.nil (by kernel_rfl) rfl) ?_
 refine p_ (S_pcall rfl (AEvs.cons (y := resAV c.req) (.tmp rfl) (AEvs.cons (y := resAV (0, 0, 0)) (.tmp rfl) (AEvs.cons (AEv.const _) AEvs.nil))) (ref06_numbers_ok c.req (0, 0, 0) false)) ?_
 refine as_ rfl rfl rfl rfl ?_
 refine AL_nil ?_
 refine AC_seq ?_
 refine AC_seq (AC_region ?_)
 refine mv rfl rfl rfl rfl ?_
 refine p_ (S_geq rfl (.tmp rfl) (AEv.const _)) ?_
 refine AL_nil ?_
 refine AC_cond (.tmp rfl) (fun hb6 => ?_) (fun hb6 => ?_)
 ·try simp only [zA,zO,zN,zM,zP,zQ,zD,zF,gd] at hb6
  have hx := one_3 (ps := (ahead.flatMap Ctr.ports)) (a := (if init = true then 0 else 3)) (b := (if init = true then 0 else 1000)) hn0 hi0 (show reqE c.req = _ by rw [req_nums, if_pos (by omega)])
  have hk9 : (numsI c.req (0, 0, 0) false).toNat < numN.length := by have := (numsI_range c.req (0, 0, 0) false).2; show _ < 3; omega
  have hk8 := num_len hk9
  refine AC_seq ?_
  refine AC_draw (by kernel_rfl) (by kernel_rfl) (.cons rfl (Q_p rfl (S_move rfl (.tmp rfl))) <|
    .cons rfl (Q_p rfl (S_move rfl (.tmp rfl))) <|
    .cons rfl (Q_p rfl (S_elemN (e := 9) (f := fun s => .S s) (l := numN) (i := (numsI c.req (0, 0, 0) false).toNat) 1 rfl (.tmp rfl) ((AEv.tmp rfl).le (Le.of_eq (congrArg (AV.int _) (show (numsI c.req (0, 0, 0) false) = (((numsI c.req (0, 0, 0) false).toNat : Nat) : Int) by omega)))) (by kernel_rfl) (by kernel_rfl) (by have := (numsI_range c.req (0, 0, 0) false).2; show _ < 3; omega) (fun _ => rfl))) <|
    .cons rfl (Q_p rfl (S_loadP rfl (.tmp rfl) rfl (by kernel_rfl))) <|
    .cons rfl (Q_p rfl (S_cat rfl (AEv.S _) (.tmp rfl) (by first | omega | (simp only [List.length_append, List.length_cons, List.length_nil]; omega)))) <|
    .cons rfl (Q_p rfl (S_assign rfl (AEv.const _))) <|
    .cons rfl (Q_p rfl (S_assign rfl (.tmp rfl))) <|
    .nil) ?_
  refine AC_ret ?_
  refine ret_tmps (ts := [6, 7]) st rfl (by decide) rfl (Sub.l (List.Sublist.cons _ (List.Sublist.refl _))) (Conv.refl (Sub.l (List.Sublist.cons _ (List.Sublist.refl _))) _) ⟨cp_some hx (by rw [join_two]; exact num_text [114, 101, 113] hk9), rfl⟩ (.inl rfl)
 try simp only [zA,zO,zN,zM,zP,zQ,zD,zF,gd] at hb6
 have hr0 : reqE c.req = none := by rw [req_nums, if_neg (by omega)]
 refine AC_skip ?_
 refine AC_seq ?_
 refine AC_draw (by kernel_rfl) (by kernel_rfl) (.cons rfl (Q_p rfl (S_field 5 rfl (.tmp rfl) (by kernel_rfl))) <|
   .cons rfl (Q_p rfl (S_loadN (m := 3) 0 rfl (.tmp rfl) rfl (by kernel_rfl) (by first | exact Nat.le_of_ble_eq_true rfl | (simp; omega) | simp))) <|
   .cons rfl (Q_p rfl (S_pcall rfl (AEvs.cons (y := resAV c.lim) (.tmp rfl) AEvs.nil) (ref06_three_ok c.lim))) <|
   .cons rfl (Q_p rfl (S_field 2 rfl (.tmp rfl) (by kernel_rfl))) <|
   .cons rfl (Q_p rfl (S_loadN (m := 3) 0 rfl (.tmp rfl) rfl (by kernel_rfl) (by first | exact Nat.le_of_ble_eq_true rfl | (simp; omega) | simp))) <|
   .cons rfl (Q_p rfl (S_pcall rfl (AEvs.cons (y := resAV c.req) (.tmp rfl) AEvs.nil) (ref06_three_ok c.req))) <|
   .cons rfl (Q_p rfl (S_pcall rfl (AEvs.cons (.tmp rfl) (AEvs.cons (.tmp rfl) (AEvs.cons (AEv.const _) AEvs.nil))) (ref06_numbers_ok c.lim c.req true))) <|
   .cons rfl (Q_p rfl (S_assign rfl (.tmp rfl))) <|
   .nil) ?_
 refine AC_seq ?_
 refine AC_seq (AC_region ?_)
 refine mv rfl rfl rfl rfl ?_
 refine p_ (S_geq rfl (.tmp rfl) (AEv.const _)) ?_
 refine AL_nil ?_
 refine AC_cond (.tmp rfl) (fun hb7 => ?_) (fun hb7 => ?_)
 ·try simp only [zA,zO,zN,zM,zP,zQ,zD,zF,gd] at hb7
  have hx := one_4 (ps := (ahead.flatMap Ctr.ports)) (a := (if init = true then 0 else 3)) (b := (if init = true then 0 else 1000)) hn0 hi0 hr0 (show limE c.lim c.req = _ by rw [lim_nums, if_pos (by omega)])
  have hk9 : (numsI c.lim c.req true).toNat < numN.length := by have := (numsI_range c.lim c.req true).2; show _ < 3; omega
  have hk8 := num_len hk9
  refine AC_seq ?_
  refine AC_draw (by kernel_rfl) (by kernel_rfl) (.cons rfl (Q_p rfl (S_move rfl (.tmp rfl))) <|
    .cons rfl (Q_p rfl (S_move rfl (.tmp rfl))) <|
    .cons rfl (Q_p rfl (S_elemN (e := 9) (f := fun s => .S s) (l := numN) (i := (numsI c.lim c.req true).toNat) 1 rfl (.tmp rfl) ((AEv.tmp rfl).le (Le.of_eq (congrArg (AV.int _) (show (numsI c.lim c.req true) = (((numsI c.lim c.req true).toNat : Nat) : Int) by omega)))) (by kernel_rfl) (by kernel_rfl) (by have := (numsI_range c.lim c.req true).2; show _ < 3; omega) (fun _ => rfl))) <|
    .cons rfl (Q_p rfl (S_loadP rfl (.tmp rfl) rfl (by kernel_rfl))) <|
    .cons rfl (Q_p rfl (S_cat rfl (AEv.S _) (.tmp rfl) (by first | omega | (simp only [List.length_append, List.length_cons, List.length_nil]; omega)))) <|
    .cons rfl (Q_p rfl (S_assign rfl (AEv.const _))) <|
    .cons rfl (Q_p rfl (S_assign rfl (.tmp rfl))) <|
    .nil) ?_
  refine AC_ret ?_
  refine ret_tmps (ts := [6, 7]) st rfl (by decide) rfl (Sub.l (List.Sublist.cons _ (List.Sublist.refl _))) (Conv.refl (Sub.l (List.Sublist.cons _ (List.Sublist.refl _))) _) ⟨cp_some hx (by rw [join_two]; exact num_text [108, 105, 109] hk9), rfl⟩ (.inl rfl)
 try simp only [zA,zO,zN,zM,zP,zQ,zD,zF,gd] at hb7
 have hl0 : limE c.lim c.req = none := by rw [lim_nums, if_neg (by omega)]
 refine AC_skip ?_
 refine AC_seq ?_
 refine AC_seq (AC_region ?_)
 refine fl 8 ?_
 refine ld 0 ?_
 refine p_ (by first | exact S_lenM (e := 3) rfl (.tmp rfl) (by kernel_rfl) | exact S_len (e := 3) rfl (.tmp rfl) (by kernel_rfl)) ?_
 refine p_ (S_gtr rfl (.tmp rfl) (AEv.const _)) ?_
 refine mv rfl rfl rfl rfl ?_
 refine g_ (fun _ => mA) ?_
 refine g_ (fun _ => S_move rfl (AEv.cd (.tmp rfl))) ?_
 refine AL_gg rfl rfl (.tmp rfl) rfl (fun hg14 hg15 hg16 => S_field 8 rfl (.tmp rfl) (by kernel_rfl)) ?_
 refine AL_gg rfl rfl (.tmp rfl) rfl (fun hg17 hg18 hg19 => S_load 0 rfl (AEv.cd (.tmp rfl)) rfl rfl (by kernel_rfl)) ?_
 refine AL_gg rfl rfl (.tmp rfl) rfl (fun hg20 hg21 hg22 => by first | exact S_lenM (e := 3) rfl (AEv.cd (.tmp rfl)) (by kernel_rfl) | exact S_len (e := 3) rfl (AEv.cd (.tmp rfl)) (by kernel_rfl)) ?_
 refine AL_gg rfl rfl (.tmp rfl) rfl (fun hg23 hg24 hg25 => S_gtr rfl (AEv.cd (.tmp rfl)) (AEv.const _)) ?_
 refine g_ (fun _ => S_and rfl (AEv.cd (.tmp rfl)) (fun hp29 => (AEv.cd (.tmp rfl)))) ?_
 refine p_ (S_or rfl (.tmp rfl) (fun hp30 => (AEv.cd (.tmp rfl)))) ?_
 refine AL_nil ?_
 refine AC_cond (.tmp rfl) (fun hb31 => ?_) (fun hb31 => ?_)
 ·try simp only [zA,zO,zN,zM,zP,zQ,zD,zF,gd] at hb31
  have hx := one_5 (a := (if init = true then 0 else 3)) (b := (if init = true then 0 else 1000)) hn0 hi0 hr0 hl0 (port_many (ps := (ahead.flatMap Ctr.ports)) (l := c.ports) (n := (if init = true then 0 else 3)) (by cases init <;> simp only [Bool.true_eq_false, Bool.false_eq_true, false_or, or_false, true_or, or_true, false_and, and_false, true_and, and_true, if_true, if_false, reduceIte] at hb31 ⊢ <;> omega))
  refine AC_seq (AC_region ?_)
  refine ac rfl rfl rfl ?_
  refine p_ (S_assign rfl (AEv.S _)) ?_
  refine AL_nil (AC_ret ?_)
  refine ret_tmps (ts := [6, 7]) st rfl (by decide) rfl (Sub.l (List.Sublist.cons _ (List.Sublist.refl _))) (Conv.refl (Sub.l (List.Sublist.cons _ (List.Sublist.refl _))) _) ⟨cp_some hx rfl, rfl⟩ (.inl rfl)
 try simp only [zA,zO,zN,zM,zP,zQ,zD,zF,gd] at hb31
 have hpm : atMostE portsN (c.ports.length : Int) 0 (if init = true then 0 else 3) = none := by
  unfold atMostE; rw [if_neg]; cases init <;> simp only [Bool.true_eq_false, Bool.false_eq_true, false_or, or_false, true_or, or_true, false_and, and_false, true_and, and_true, if_true, if_false, reduceIte] at hb31 ⊢ <;> omega
 refine AC_skip ?_
 refine AC_seq ?_
 refine AC_seq (AC_region ?_)
 refine ac rfl rfl rfl ?_
 refine AL_nil ?_
 refine AC_block ?_
 refine AC_loopK (G := Nat) [(1, _), (2, _), (3, _)] (fun g => g ≤ c.ports.length ∧ ∀ j, j < g → portAt (ahead.flatMap Ctr.ports) c.ports j = none) (fun g => [(14, .int .i64 (g : Int))]) (fun g => (b3, .cells (ctrL c)) :: st) (fun g => c.ports.length - g) (0) (⟨Nat.zero_le _, fun j h => absurd h (Nat.not_lt_zero _)⟩) (Sub.l (List.Sublist.refl _)) (.cons rfl (Le.refl _) (.cons rfl (Le.refl _) (.cons rfl (Le.refl _) .nil))) (.cons rfl (by first | exact Le.refl _ | exact Le.nils | exact Le.row _ _ _ _ | exact Le.of_eq (by first | rfl | (simp; done) | (push_cast; rfl) | (simp; omega))) .nil) ?_
 rintro i ⟨hi, hall⟩
 try dsimp only
 simp only [List.cons_append, List.nil_append]
 refine AC_seq ?_
 refine AC_seq (AC_region ?_)
 refine mv rfl rfl rfl rfl ?_
 refine fl 8 ?_
 refine ld 0 ?_
 refine p_ (by first | exact S_lenM (e := 3) rfl (.tmp rfl) (by kernel_rfl) | exact S_len (e := 3) rfl (.tmp rfl) (by kernel_rfl)) ?_
 refine p_ (S_lss rfl (.tmp rfl) (.tmp rfl)) ?_
 refine AL_nil ?_
 refine AC_cond (.tmp rfl) (fun hb32 => ?_) (fun hb32 => ?_)
 ·try simp only [zA,zO,zN,zM,zP,zQ,zD,zF,gd] at hb32
  have hil : i < c.ports.length := by omega
  have hif : fits (i : Int) := by unfold fits; omega
  have hgd : c.ports.getD i 0 = c.ports[i] := by rw [List.getD_eq_getElem?_getD, List.getElem?_eq_getElem hil]; rfl
  refine AC_skip ?_
  refine AC_seq ?_
  refine AC_block ?_
  refine AC_seq ?_
  refine AC_seq (AC_region ?_)
  refine fl 8 ?_
  refine ld 0 ?_
  refine mv rfl rfl rfl rfl ?_
  refine p_ (S_elemN (e := 3) 1 rfl (.tmp rfl) (.tmp rfl) (by kernel_rfl) (by kernel_rfl) (by omega) (fun _ => rfl)) ?_
  refine p_ (S_loadP rfl (.tmp rfl) rfl (by kernel_rfl)) ?_
  refine p_ (S_lss rfl (.tmp rfl) (AEv.const _)) ?_
  refine mv rfl rfl rfl rfl ?_
  refine g_ (fun _ => fA 8) ?_
  refine g_ (fun _ => lA 0) ?_
  refine g_ (fun _ => mA) ?_
  refine g_ (fun _ => S_elemN (e := 3) 1 rfl (AEv.cd (.tmp rfl)) (AEv.cd (.tmp rfl)) (by kernel_rfl) (by kernel_rfl) (by (try simp only [gd, Bool.and_eq_true, Bool.or_eq_true, Bool.not_eq_true', Bool.not_eq_false', decide_eq_true_eq, decide_eq_false_iff_not, Bool.or_eq_false_iff, Bool.and_eq_false_iff] at *); omega) (fun _ => rfl)) ?_
  refine g_ (fun _ => S_loadP rfl (AEv.cd (.tmp rfl)) rfl (by kernel_rfl)) ?_
  refine g_ (fun _ => S_gtr rfl (AEv.cd (.tmp rfl)) (AEv.const _)) ?_
  refine p_ (S_or rfl (.tmp rfl) (fun hp51 => (AEv.cd (.tmp rfl)))) ?_
  refine AL_nil ?_
  refine AC_cond (.tmp rfl) (fun hb52 => ?_) (fun hb52 => ?_)
  ·try simp only [zA,zO,zN,zM,zP,zQ,zD,zF,gd] at hb52
   have hx := one_5 (a := (if init = true then 0 else 3)) (b := (if init = true then 0 else 1000)) hn0 hi0 hr0 hl0 (port_at hpm hil (portAt_range (ps := (ahead.flatMap Ctr.ports)) hil (by simpa using hb52)) hall)
   refine AC_seq (AC_region ?_)
   refine mv rfl rfl rfl rfl ?_
   refine p_ (S_pcall rfl (AEvs.cons (AEv.S _) (AEvs.cons (.tmp rfl) AEvs.nil)) (ref06_at_ok portsN (by decide) (i : Int) hif)) ?_
   refine ac rfl rfl rfl ?_
   refine as_ rfl rfl rfl rfl ?_
   refine AL_nil (AC_ret ?_)
   refine ret_tmps (ts := [6, 7]) st rfl (by decide) rfl (Sub.l (List.Sublist.cons _ (List.Sublist.refl _))) (Conv.refl (Sub.l (List.Sublist.cons _ (List.Sublist.refl _))) _) ⟨cp_some hx (Lib.join_one _ _).symm, rfl⟩ (.inl rfl)
  try simp only [zA,zO,zN,zM,zP,zQ,zD,zF,gd] at hb52
  have hr1 : 1 ≤ (c.ports[i]'hil) ∧ (c.ports[i]'hil) ≤ 65535 := by omega
  refine AC_skip ?_
  refine AC_seq ?_
  refine AC_draw (by kernel_rfl) (by kernel_rfl) (.cons rfl (Q_p rfl (S_move rfl (.tmp rfl))) <|
    .cons rfl (Q_p rfl (S_field 8 rfl (.tmp rfl) (by kernel_rfl))) <|
    .cons rfl (Q_p rfl (S_load 0 rfl (.tmp rfl) rfl rfl (by kernel_rfl))) <|
    .cons rfl (Q_p rfl (S_move rfl (.tmp rfl))) <|
    .cons rfl (Q_p rfl (S_elemN (e := 3) 1 rfl (.tmp rfl) (.tmp rfl) (by kernel_rfl) (by kernel_rfl) (by omega) (fun _ => rfl))) <|
    .cons rfl (Q_p rfl (S_loadP rfl (.tmp rfl) rfl (by kernel_rfl))) <|
    .cons rfl (Q_p rfl (S_pcall rfl (AEvs.cons (.tmp rfl) (AEvs.cons (.tmp rfl) AEvs.nil)) (ref06_Has_ok ahead (c.ports[i]'hil) (by omega) hap))) <|
    .cons rfl (Q_p rfl (S_move rfl (.tmp rfl))) <|
    .cons rfl (Q_g rfl rfl (.tmp rfl) (fun hg53 => S_field 8 rfl (.tmp rfl) (by kernel_rfl))) <|
    .cons rfl (Q_g rfl rfl (.tmp rfl) (fun hg56 => S_load 0 rfl (AEv.cd (.tmp rfl)) rfl rfl (by kernel_rfl))) <|
    .cons rfl (Q_g rfl rfl (.tmp rfl) (fun hg59 => S_move rfl (.tmp rfl))) <|
    .cons rfl (Q_g rfl rfl (.tmp rfl) (fun hg62 => S_cutHM (e := 3) 1 rfl (AEv.cd (.tmp rfl)) (AEv.cd (.tmp rfl)) (by kernel_rfl) (by kernel_rfl) (fun _ => rfl) (by (try simp only [gd, Bool.and_eq_true, Bool.or_eq_true, Bool.not_eq_true', Bool.not_eq_false', decide_eq_true_eq, decide_eq_false_iff_not, Bool.or_eq_false_iff, Bool.and_eq_false_iff] at *); omega))) <|
    .cons rfl (Q_g rfl rfl (.tmp rfl) (fun hg65 => S_build (t := 67) (pl := [(0, 1), (1, 1), (2, 3), (5, 3), (8, 1), (9, 2)]) (zs := [.string ⟨#[]⟩, .string ⟨#[]⟩, .int .i64 0, .int .i64 0, .int .i64 0, .int .i64 0, .int .i64 0, .int .i64 0, .slice none 0 0, .int .i64 0, .int .i64 0]) rfl (AEvs.cons (AEv.cd (.tmp rfl)) AEvs.nil) (by kernel_rfl) rfl)) <|
    .cons rfl (Q_g rfl rfl (.tmp rfl) (fun hg68 => S_buildSlice (e := 67) 11 rfl (AEvs.cons (AEv.cd (.tmp rfl)) AEvs.nil) rfl (by kernel_rfl) (by kernel_rfl) (by intro y hy; simp only [List.mem_cons, List.not_mem_nil, or_false] at hy; rcases hy with rfl <;> exact ⟨rfl, rfl⟩) (by decide) (by decide) (by decide))) <|
    .cons rfl (Q_g rfl rfl (.tmp rfl) (fun hg71 => S_field 8 rfl (.tmp rfl) (by kernel_rfl))) <|
    .cons rfl (Q_g rfl rfl (.tmp rfl) (fun hg74 => S_load 0 rfl (AEv.cd (.tmp rfl)) rfl rfl (by kernel_rfl))) <|
    .cons rfl (Q_g rfl rfl (.tmp rfl) (fun hg77 => S_move rfl (.tmp rfl))) <|
    .cons rfl (Q_g rfl rfl (.tmp rfl) (fun hg80 => S_elemN (e := 3) 1 rfl (AEv.cd (.tmp rfl)) (AEv.cd (.tmp rfl)) (by kernel_rfl) (by kernel_rfl) (by (try simp only [gd, Bool.and_eq_true, Bool.or_eq_true, Bool.not_eq_true', Bool.not_eq_false', decide_eq_true_eq, decide_eq_false_iff_not, Bool.or_eq_false_iff, Bool.and_eq_false_iff] at *); omega) (fun _ => rfl))) <|
    .cons rfl (Q_g rfl rfl (.tmp rfl) (fun hg83 => S_loadP rfl (AEv.cd (.tmp rfl)) rfl (by kernel_rfl))) <|
    .cons rfl (Q_g rfl rfl (.tmp rfl) (fun hg86 => S_pcall rfl (AEvs.cons (y := .sl (ctrsV [⟨[], [], (0, 0, 0), (0, 0, 0), c.ports.take i, (0, 0)⟩])) (AEv.cd (.tmp rfl)) (AEvs.cons (AEv.cd (.tmp rfl)) AEvs.nil)) (ref06_Has_ok [⟨[], [], (0, 0, 0), (0, 0, 0), c.ports.take i, (0, 0)⟩] (c.ports[i]'hil) (Nat.le_of_ble_eq_true rfl) (by intro x hx; rw [List.mem_singleton.1 hx]; simp only [List.length_take]; omega)))) <|
    .cons rfl (Q_p rfl (S_or rfl (.tmp rfl) (fun hp89 => (AEv.cd (.tmp rfl))))) <|
    .nil) ?_
  refine AC_cond (.tmp rfl) (fun hb90 => ?_) (fun hb90 => ?_)
  ·try simp only [zA,zO,zN,zM,zP,zQ,zD,zF,gd] at hb90
   have hx := one_5 (a := (if init = true then 0 else 3)) (b := (if init = true then 0 else 1000)) hn0 hi0 hr0 hl0 (port_at hpm hil (portAt_there (ps := (ahead.flatMap Ctr.ports)) hil hr1 (by simpa using hb90)) hall)
   refine AC_seq (AC_region ?_)
   refine mv rfl rfl rfl rfl ?_
   refine p_ (S_pcall rfl (AEvs.cons (AEv.S _) (AEvs.cons (.tmp rfl) AEvs.nil)) (ref06_at_ok portsN (by decide) (i : Int) hif)) ?_
   refine ac rfl rfl rfl ?_
   refine as_ rfl rfl rfl rfl ?_
   refine AL_nil (AC_ret ?_)
   refine ret_tmps (ts := [6, 7]) st rfl (by decide) rfl (Sub.l (List.Sublist.cons _ (List.Sublist.refl _))) (Conv.refl (Sub.l (List.Sublist.cons _ (List.Sublist.refl _))) _) ⟨cp_some hx (Lib.join_one _ _).symm, rfl⟩ (.inl rfl)
  try simp only [zA,zO,zN,zM,zP,zQ,zD,zF,gd] at hb90
  have hr2 : (c.ports[i]'hil) ∉ (ahead.flatMap Ctr.ports) ++ c.ports.take i := by simpa using hb90
  refine AC_skip ?_
  refine AC_region ?_
  refine mv rfl rfl rfl rfl ?_
  refine p_ (S_addI rfl (.tmp rfl) (AEv.const _) (by omega) (by omega)) ?_
  refine as_ rfl rfl rfl rfl ?_
  refine AL_nil ?_
  refine ⟨i + 1, ⟨by omega, fun j h => ?_⟩, by omega, (Sub.l (List.Sublist.refl _)), (.cons rfl (by first | exact Le.refl _ | exact Le.nils | exact Le.row _ _ _ _ | exact Le.of_eq (by first | rfl | (simp; done) | (push_cast; rfl) | (simp; omega))) .nil), (.cons rfl (Le.refl _) (.cons rfl (Le.refl _) (.cons rfl (Le.refl _) .nil)))⟩
  rcases Nat.lt_or_ge j i with h' | h'
  ·exact hall j h'
  ·have : j = i := by omega
   subst this
   exact portAt_ok hil hr1 hr2
 try simp only [zA,zO,zN,zM,zP,zQ,zD,zF,gd] at hb32
 have hp0 : portE (ahead.flatMap Ctr.ports) c.ports (if init = true then 0 else 3) = none := portE_in hpm fun j hj => hall j (by omega)
 refine AC_exit ?_
 refine AC_seq ?_
 refine AC_seq (AC_region ?_)
 refine fl 9 ?_
 refine fl 0 ?_
 refine ld 0 ?_
 refine p_ (S_lss rfl (.tmp rfl) (AEv.const _)) ?_
 refine mv rfl rfl rfl rfl ?_
 refine g_ (fun _ => fA 9) ?_
 refine g_ (fun _ => S_field 0 rfl (AEv.cd (.tmp rfl)) (by kernel_rfl)) ?_
 refine g_ (fun _ => lA 0) ?_
 refine g_ (fun _ => S_gtr rfl (AEv.cd (.tmp rfl)) (AEv.const _)) ?_
 refine p_ (S_or rfl (.tmp rfl) (fun hp103 => (AEv.cd (.tmp rfl)))) ?_
 refine mv rfl rfl rfl rfl ?_
 refine g_ (fun _ => mA) ?_
 refine g_ (fun _ => S_move rfl (AEv.cd (.tmp rfl))) ?_
 refine AL_gg rfl rfl (.tmp rfl) rfl (fun hg110 hg111 hg112 => S_field 9 rfl (.tmp rfl) (by kernel_rfl)) ?_
 refine AL_gg rfl rfl (.tmp rfl) rfl (fun hg113 hg114 hg115 => S_field 0 rfl (AEv.cd (.tmp rfl)) (by kernel_rfl)) ?_
 refine AL_gg rfl rfl (.tmp rfl) rfl (fun hg116 hg117 hg118 => S_load 0 rfl (AEv.cd (.tmp rfl)) rfl rfl (by kernel_rfl)) ?_
 refine AL_gg rfl rfl (.tmp rfl) rfl (fun hg119 hg120 hg121 => S_gtr rfl (AEv.cd (.tmp rfl)) (AEv.const _)) ?_
 refine g_ (fun _ => S_and rfl (AEv.cd (.tmp rfl)) (fun hp125 => (AEv.cd (.tmp rfl)))) ?_
 refine p_ (S_or rfl (.tmp rfl) (fun hp126 => (AEv.cd (.tmp rfl)))) ?_
 refine AL_nil ?_
 refine AC_cond (.tmp rfl) (fun hb127 => ?_) (fun hb127 => ?_)
 ·try simp only [zA,zO,zN,zM,zP,zQ,zD,zF,gd] at hb127
  have hpr : c.probe.1 < 0 ∨ (if init = true then 0 else 1000) < c.probe.1 := by cases init <;> simp only [Bool.true_eq_false, Bool.false_eq_true, false_or, or_false, true_or, or_true, false_and, and_false, true_and, and_true, if_true, if_false, reduceIte] at hb127 ⊢ <;> omega
  have hx := (one_6 (a := (if init = true then 0 else 3)) (b := (if init = true then 0 else 1000)) hn0 hi0 hr0 hl0 hp0).trans (probe_every hpr)
  refine AC_seq (AC_region ?_)
  refine ac rfl rfl rfl ?_
  refine p_ (S_assign rfl (AEv.S _)) ?_
  refine AL_nil (AC_ret ?_)
  refine ret_tmps (ts := [6, 7]) st rfl (by decide) rfl (Sub.l (List.Sublist.cons _ (List.Sublist.refl _))) (Conv.refl (Sub.l (List.Sublist.cons _ (List.Sublist.refl _))) _) ⟨cp_some hx rfl, rfl⟩ (.inl rfl)
 try simp only [zA,zO,zN,zM,zP,zQ,zD,zF,gd] at hb127
 have hpr : ¬ (c.probe.1 < 0 ∨ (if init = true then 0 else 1000) < c.probe.1) := by cases init <;> simp only [Bool.true_eq_false, Bool.false_eq_true, false_or, or_false, true_or, or_true, false_and, and_false, true_and, and_true, if_true, if_false, reduceIte] at hb127 ⊢ <;> omega
 refine AC_skip ?_
 refine AC_seq ?_
 refine AC_seq (AC_region ?_)
 refine fl 9 ?_
 refine fl 0 ?_
 refine ld 0 ?_
 refine p_ (S_eql rfl (.tmp rfl) (AEv.const _)) ?_
 refine mv rfl rfl rfl rfl ?_
 refine g_ (fun _ => fA 9) ?_
 refine g_ (fun _ => S_field 1 rfl (AEv.cd (.tmp rfl)) (by kernel_rfl)) ?_
 refine g_ (fun _ => lA 0) ?_
 refine g_ (fun _ => S_neq rfl (AEv.cd (.tmp rfl)) (AEv.const _)) ?_
 refine an ?_
 refine mv rfl rfl rfl rfl ?_
 refine g_ (fun _ => fA 9) ?_
 refine g_ (fun _ => S_field 0 rfl (AEv.cd (.tmp rfl)) (by kernel_rfl)) ?_
 refine g_ (fun _ => lA 0) ?_
 refine g_ (fun _ => S_gtr rfl (AEv.cd (.tmp rfl)) (AEv.const _)) ?_
 refine g_ (fun _ => S_move rfl (AEv.cd (.tmp rfl))) ?_
 refine AL_gg rfl rfl (.tmp rfl) rfl (fun hg156 hg157 hg158 => S_field 9 rfl (.tmp rfl) (by kernel_rfl)) ?_
 refine AL_gg rfl rfl (.tmp rfl) rfl (fun hg159 hg160 hg161 => S_field 1 rfl (AEv.cd (.tmp rfl)) (by kernel_rfl)) ?_
 refine AL_gg rfl rfl (.tmp rfl) rfl (fun hg162 hg163 hg164 => S_load 0 rfl (AEv.cd (.tmp rfl)) rfl rfl (by kernel_rfl)) ?_
 refine AL_gg rfl rfl (.tmp rfl) rfl (fun hg165 hg166 hg167 => S_lss rfl (AEv.cd (.tmp rfl)) (AEv.const _)) ?_
 refine AL_gg rfl rfl (.tmp rfl) rfl (fun hg168 hg169 hg170 => S_move rfl (AEv.cd (.tmp rfl))) ?_
 refine AL_gg rfl rfl (.tmp rfl) rfl (fun hg171 hg172 hg173 => S_field 9 rfl (.tmp rfl) (by kernel_rfl)) ?_
 refine AL_gg rfl rfl (.tmp rfl) rfl (fun hg174 hg175 hg176 => S_field 1 rfl (AEv.cd (.tmp rfl)) (by kernel_rfl)) ?_
 refine AL_gg rfl rfl (.tmp rfl) rfl (fun hg177 hg178 hg179 => S_load 0 rfl (AEv.cd (.tmp rfl)) rfl rfl (by kernel_rfl)) ?_
 refine AL_gg rfl rfl (.tmp rfl) rfl (fun hg180 hg181 hg182 => S_gtr rfl (AEv.cd (.tmp rfl)) (AEv.const _)) ?_
 refine AL_gg rfl rfl (.tmp rfl) rfl (fun hg183 hg184 hg185 => S_or rfl (AEv.cd (.tmp rfl)) (fun hp186 => (AEv.cd (.tmp rfl)))) ?_
 refine g_ (fun _ => S_and rfl (AEv.cd (.tmp rfl)) (fun hp190 => (AEv.cd (.tmp rfl)))) ?_
 refine p_ (S_or rfl (.tmp rfl) (fun hp191 => (AEv.cd (.tmp rfl)))) ?_
 refine AL_nil ?_
 refine AC_cond (.tmp rfl) (fun hb192 => ?_) (fun hb192 => ?_)
 ·try simp only [zA,zO,zN,zM,zP,zQ,zD,zF,gd] at hb192
  have hx := (one_6 (a := (if init = true then 0 else 3)) (b := (if init = true then 0 else 1000)) hn0 hi0 hr0 hl0 hp0).trans ((probe_rest hpr).trans (if_pos (by cases init <;> simp only [Bool.true_eq_false, Bool.false_eq_true, false_or, or_false, true_or, or_true, false_and, and_false, true_and, and_true, if_true, if_false, reduceIte] at hb192 hpr ⊢ <;> omega)))
  refine AC_seq (AC_region ?_)
  refine ac rfl rfl rfl ?_
  refine p_ (S_assign rfl (AEv.S _)) ?_
  refine AL_nil (AC_ret ?_)
  refine ret_tmps (ts := [6, 7]) st rfl (by decide) rfl (Sub.l (List.Sublist.cons _ (List.Sublist.refl _))) (Conv.refl (Sub.l (List.Sublist.cons _ (List.Sublist.refl _))) _) ⟨cp_some hx rfl, rfl⟩ (.inl rfl)
 try simp only [zA,zO,zN,zM,zP,zQ,zD,zF,gd] at hb192
 have hx := (one_6 (a := (if init = true then 0 else 3)) (b := (if init = true then 0 else 1000)) hn0 hi0 hr0 hl0 hp0).trans ((probe_rest hpr).trans (if_neg (by cases init <;> simp only [Bool.true_eq_false, Bool.false_eq_true, false_or, or_false, true_or, or_true, false_and, and_false, true_and, and_true, if_true, if_false, reduceIte] at hb192 hpr ⊢ <;> omega)))
 refine AC_skip ?_
 refine AC_seq (AC_region ?_)
 refine ac rfl rfl rfl ?_
 refine p_ (S_assign rfl (AEv.S _)) ?_
 refine AL_nil (AC_ret ?_)
 refine ret_tmps (ts := [6, 7]) st rfl (by decide) rfl (Sub.l (List.Sublist.cons _ (List.Sublist.refl _))) (Conv.refl (Sub.l (List.Sublist.cons _ (List.Sublist.refl _))) _) ⟨cp_none hx, rfl⟩ (.inl rfl)
set_option maxHeartbeats 1000000 in
theorem ref06_Check_ok (s : Spc) (hs : lightS s = true) : PCalls Tryz.prog 55 [spcAV s] (cpAV (checkE s)) := by
 intro st
 refine co 127 Tryz.func55 ?_
 obtain ⟨h1, h2, h3, h4, h5, h6, h7⟩ := lightS_out hs
 have hpi : ∀ c ∈ s.init, c.name.length ≤ 100 ∧ c.image.length ≤ 100 ∧ c.ports.length ≤ 10 := fun c hc => of_decide_eq_true (h6 c hc)
 have hpm : ∀ c ∈ s.main, c.name.length ≤ 100 ∧ c.image.length ≤ 100 ∧ c.ports.length ≤ 10 := fun c hc => of_decide_eq_true (h7 c hc)
 refine AC_seq (AC_region ?_)
 refine s_ (S_box rfl (.tmp rfl)) ?_
 rintro _ _ ⟨b1, rfl, rfl⟩
 refine ac rfl rfl rfl ?_
 refine p_ (S_assign rfl (AEv.S _)) ?_
 refine AL_nil ?_
 refine AC_seq ?_
 refine AC_seq (AC_region ?_)
 refine fl 0 ?_
 refine ld 0 ?_
 refine p_ (S_pcall rfl (AEvs.cons (.tmp rfl) AEvs.nil) (ref03_Name_ok s.name (by omega))) ?_
 refine p_ (S_not rfl (.tmp rfl)) ?_
 refine AL_nil ?_
 refine AC_cond (.tmp rfl) (fun hb2 => ?_) (fun hb2 => ?_)
 ·try simp only [zA,zO,zN,zM,zP,zQ,zD,zF,gd] at hb2
  have hx : (checkE s) = some (30, [nameN]) := check_bad1 (firstE_hd (by rw [hb2]; rfl))
  refine AC_seq (AC_region ?_)
  refine ac rfl rfl rfl ?_
  refine p_ (S_assign rfl (AEv.S _)) ?_
  refine AL_nil (AC_ret ?_)
  refine ret_tmps (ts := [2, 3]) st rfl (by decide) rfl (Sub.l (List.Sublist.cons _ (List.Sublist.refl _))) (Conv.refl (Sub.l (List.Sublist.cons _ (List.Sublist.refl _))) _) ⟨cp_some hx rfl, rfl⟩ (.inl rfl)
 try simp only [zA,zO,zN,zM,zP,zQ,zD,zF,gd] at hb2
 have hnm : erNew (saysV (nameV s.name) 30) [nameN] = none := by rw [hb2]; rfl
 refine AC_skip ?_
 refine AC_seq (AC_region ?_)
 refine fl 1 ?_
 refine ld 0 ?_
 refine p_ (S_pcall rfl (AEvs.cons (AEv.S _) (AEvs.cons (.tmp rfl) AEvs.nil)) (ref06_Labels_ok labelsN (by decide) s.labels (fun x hx => by have := h5 x hx; omega))) ?_
 refine mv rfl rfl rfl rfl ?_
 refine ex 0 ?_
 refine ex 1 ?_
 refine as_ rfl rfl rfl rfl ?_
 refine as_ rfl rfl rfl rfl ?_
 refine AL_nil ?_
 refine AC_seq ?_
 refine AC_seq (AC_region ?_)
 refine mv rfl rfl rfl rfl ?_
 refine p_ (S_neq rfl (.tmp rfl) (AEv.const _)) ?_
 refine AL_nil ?_
 refine AC_cond (.tmp rfl) (fun hb3 => ?_) (fun hb3 => ?_)
 ·try simp only [zA,zO,zN,zM,zP,zQ,zD,zF,gd] at hb3
  have hne : labelsE labelsN s.labels ≠ none := fun h => hb3 (by rw [h]; rfl)
  obtain ⟨x, hx⟩ : ∃ x, labelsE labelsN s.labels = some x := Option.ne_none_iff_exists'.1 hne
  have hx2 : (checkE s) = some x := check_bad1 ((firstE_tl hnm).trans (firstE_hd hx))
  refine AC_seq (AC_region ?_)
  refine mv rfl rfl rfl rfl ?_
  refine mv rfl rfl rfl rfl ?_
  refine as_ rfl rfl rfl rfl ?_
  refine as_ rfl rfl rfl rfl ?_
  refine AL_nil (AC_ret ?_)
  refine ret_tmps (ts := [2, 3]) st rfl (by decide) rfl (Sub.l (List.Sublist.cons _ (List.Sublist.refl _))) (Conv.refl (Sub.l (List.Sublist.cons _ (List.Sublist.refl _))) _) ⟨congrArg cpAV (hx.trans hx2.symm), rfl⟩ (.inl rfl)
 try simp only [zA,zO,zN,zM,zP,zQ,zD,zF,gd] at hb3
 have hlb : labelsE labelsN s.labels = none := (well_labels _ _).code.1 (by simpa using hb3)
 refine AC_skip ?_
 refine AC_seq ?_
 refine AC_seq (AC_region ?_)
 refine fl 2 ?_
 refine ld 0 ?_
 refine p_ (by first | exact S_lenM (e := 67) rfl (.tmp rfl) (by kernel_rfl) | exact S_len (e := 67) rfl (.tmp rfl) (by kernel_rfl)) ?_
 refine p_ (S_gtr rfl (.tmp rfl) (AEv.const _)) ?_
 refine AL_nil ?_
 refine AC_cond (.tmp rfl) (fun hb4 => ?_) (fun hb4 => ?_)
 ·try simp only [zA,zO,zN,zM,zP,zQ,zD,zF,gd] at hb4
  have hx : (checkE s) = some (2, [initN]) := check_bad1 ((firstE_tl hnm).trans ((firstE_tl hlb).trans (firstE_hd (by unfold atMostE; rw [if_pos (by omega)]))))
  refine AC_seq (AC_region ?_)
  refine ac rfl rfl rfl ?_
  refine p_ (S_assign rfl (AEv.S _)) ?_
  refine AL_nil (AC_ret ?_)
  refine ret_tmps (ts := [2, 3]) st rfl (by decide) rfl (Sub.l (List.Sublist.cons _ (List.Sublist.refl _))) (Conv.refl (Sub.l (List.Sublist.cons _ (List.Sublist.refl _))) _) ⟨cp_some hx rfl, rfl⟩ (.inl rfl)
 try simp only [zA,zO,zN,zM,zP,zQ,zD,zF,gd] at hb4
 have hc1 : firstE (check1 s) = none := (firstE_tl hnm).trans ((firstE_tl hlb).trans ((firstE_tl (by unfold atMostE; rw [if_neg (by omega)])).trans rfl))
 refine AC_skip ?_
 refine AC_seq (AC_region ?_)
 refine ac rfl rfl rfl ?_
 refine AL_nil ?_
 refine AC_seq ?_
 refine AC_seq (AC_region ?_)
 refine ac rfl rfl rfl ?_
 refine AL_nil ?_
 refine AC_block ?_
 refine AC_loopK (G := Nat × Own) [(1, _)] (fun g => g.1 ≤ s.init.length ∧ g.2.ok ((s.init.take g.1).map ctrAV) ∧ ∀ j, j < g.1 → ctrAt [] [] s.init 0 0 j = none) (fun g => [(6, ownAV g.2 11 ((s.init.take g.1).map ctrAV)), (7, .int .i64 (g.1 : Int))]) (fun g => (b1, .cells (spcL s)) :: (ownSt g.2 67 11 ((s.init.take g.1).map ctrAV) ++ st)) (fun g => s.init.length - g.1) ((0, .nil)) (⟨Nat.zero_le _, by simp [Own.ok], fun j h => absurd h (Nat.not_lt_zero _)⟩) (Sub.l (List.Sublist.refl _)) (.cons rfl (Le.refl _) .nil) (.cons rfl (by first | exact Le.refl _ | exact Le.nils | exact Le.row _ _ _ _ | exact Le.of_eq (by first | rfl | (simp; done) | (push_cast; rfl) | (simp; omega))) (.cons rfl (by first | exact Le.refl _ | exact Le.nils | exact Le.row _ _ _ _ | exact Le.of_eq (by first | rfl | (simp; done) | (push_cast; rfl) | (simp; omega))) .nil)) ?_
 rintro ⟨i, p⟩ ⟨hi, hq, hall⟩
 try dsimp only
 simp only [List.cons_append, List.nil_append]
 dsimp only at hi hq hall
 refine AC_seq ?_
 refine AC_seq (AC_region ?_)
 refine mv rfl rfl rfl rfl ?_
 refine fl 2 ?_
 refine ld 0 ?_
 refine p_ (by first | exact S_lenM (e := 67) rfl (.tmp rfl) (by kernel_rfl) | exact S_len (e := 67) rfl (.tmp rfl) (by kernel_rfl)) ?_
 refine p_ (S_lss rfl (.tmp rfl) (.tmp rfl)) ?_
 refine AL_nil ?_
 refine AC_cond (.tmp rfl) (fun hb5 => ?_) (fun hb5 => ?_)
 ·try simp only [zA,zO,zN,zM,zP,zQ,zD,zF,gd] at hb5
  have hil : i < s.init.length := by omega
  have hif : fits (i : Int) := by unfold fits; omega
  have hat := at_short (name := initN) (by decide) hil (by omega)
  have hsh := (short_ctr (ns := namesTo [] s.init i) (ps := portsTo [] s.init i) (a := 0) (b := 0) (c := s.init[i]'hil) (by have := hpi _ (List.getElem_mem hil); omega)).text
  refine AC_skip ?_
  refine AC_seq ?_
  refine AC_block ?_
  refine AC_seq (AC_region ?_)
  refine fl 2 ?_
  refine ld 0 ?_
  refine mv rfl rfl rfl rfl ?_
  refine p_ (S_elemN (e := 67) 11 rfl (.tmp rfl) (.tmp rfl) (by kernel_rfl) (by kernel_rfl) (by omega) (fun _ => rfl)) ?_
  refine p_ (S_loadPN (m := 11) rfl (.tmp rfl) (by kernel_rfl) (by first | exact Nat.le_of_ble_eq_true rfl | (simp; omega) | simp)) ?_
  refine mv rfl rfl rfl rfl ?_
  refine p_ (S_pcall rfl (AEvs.cons (y := ctrAV (s.init[i]'hil)) (.tmp rfl) (AEvs.cons ((AEv.tmp rfl).le (Le_own hq)) (AEvs.cons (AEv.const _) AEvs.nil))) ((ref06_one_ok (s.init[i]'hil) (s.init.take i) true (by have := hpi _ (List.getElem_mem hil); omega) (by have := hpi _ (List.getElem_mem hil); omega) (by have := hpi _ (List.getElem_mem hil); omega) (by rw [List.length_take]; omega) (fun x hx => by have := hpi x (List.mem_of_mem_take hx); omega)).of_eq (show _ = cpAV (ctrE (namesTo [] s.init i) (portsTo [] s.init i) (s.init[i]'hil) 0 0) from rfl))) ?_
  refine mv rfl rfl rfl rfl ?_
  refine ex 0 ?_
  refine ex 1 ?_
  refine as_ rfl rfl rfl rfl ?_
  refine as_ rfl rfl rfl rfl ?_
  refine AL_nil ?_
  refine AC_seq ?_
  refine AC_seq (AC_region ?_)
  refine mv rfl rfl rfl rfl ?_
  refine p_ (S_neq rfl (.tmp rfl) (AEv.const _)) ?_
  refine AL_nil ?_
  refine AC_cond (.tmp rfl) (fun hb6 => ?_) (fun hb6 => ?_)
  ·try simp only [zA,zO,zN,zM,zP,zQ,zD,zF,gd] at hb6
   have hne : (ctrE (namesTo [] s.init i) (portsTo [] s.init i) (s.init[i]'hil) 0 0) ≠ none := fun h => hb6 (congrArg erCode h)
   have hx : (checkE s) = erIn (ctrE (namesTo [] s.init i) (portsTo [] s.init i) (s.init[i]'hil) 0 0) (atT initN (i : Int)) := by
    obtain ⟨y, hy⟩ := Option.ne_none_iff_exists'.1 hne
    obtain ⟨z, hz⟩ : ∃ z, erIn (ctrE (namesTo [] s.init i) (portsTo [] s.init i) (s.init[i]'hil) 0 0) (atT initN (i : Int)) = some z := by rw [hy]; exact ⟨_, rfl⟩
    rw [hz]
    exact check_bad2 hc1 (firstE_hd (eachE_at hil (by rw [ctrAt_at hil, hz]) (fun j hj => by rw [hall j hj]; rfl)))
   refine AC_seq (AC_region ?_)
   refine mv rfl rfl rfl rfl ?_
   refine mv rfl rfl rfl rfl ?_
   refine p_ (S_pcall rfl (AEvs.cons (AEv.S _) (AEvs.cons (.tmp rfl) AEvs.nil)) (ref06_at_ok initN (by decide) (i : Int) hif)) ?_
   refine p_ (S_cat rfl (.tmp rfl) (AEv.S _) (by first | omega | (simp only [List.length_append, List.length_cons, List.length_nil]; omega))) ?_
   refine mv rfl rfl rfl rfl ?_
   refine p_ (S_cat rfl (.tmp rfl) (.tmp rfl) (by first | omega | (simp only [List.length_append, List.length_cons, List.length_nil]; omega))) ?_
   refine as_ rfl rfl rfl rfl ?_
   refine as_ rfl rfl rfl rfl ?_
   refine AL_nil (AC_ret ?_)
   refine ret_tmps (ts := [2, 3]) st rfl (by decide) rfl (Sub.l (List.Sublist.cons _ (List.sublist_append_right _ _))) (Conv.refl (Sub.l (List.Sublist.cons _ (List.sublist_append_right _ _))) _) ⟨cp_in (well_ctr _ _ _ _ _) hne hx rfl, rfl⟩ (.inl rfl)
  try simp only [zA,zO,zN,zM,zP,zQ,zD,zF,gd] at hb6
  have hnn : (ctrE (namesTo [] s.init i) (portsTo [] s.init i) (s.init[i]'hil) 0 0) = none := (well_ctr _ _ _ _ _).code.1 hb6
  refine AC_skip ?_
  refine AC_region ?_
  refine mv rfl rfl rfl rfl ?_
  refine fl 2 ?_
  refine ld 0 ?_
  refine mv rfl rfl rfl rfl ?_
  refine p_ (S_elemN (e := 67) 11 rfl (.tmp rfl) (.tmp rfl) (by kernel_rfl) (by kernel_rfl) (by omega) (fun _ => rfl)) ?_
  refine p_ (S_loadPN (m := 11) rfl (.tmp rfl) (by kernel_rfl) (by first | exact Nat.le_of_ble_eq_true rfl | (simp; omega) | simp)) ?_
  refine p_ (S_buildSlice (e := 67) 11 rfl (AEvs.cons (.tmp rfl) AEvs.nil) rfl (by kernel_rfl) (by kernel_rfl) (by intro y hy; simp only [List.mem_cons, List.not_mem_nil, or_false] at hy; rcases hy with rfl <;> exact ⟨rfl, rfl⟩) (by decide) (by decide) (by decide)) ?_
  refine s_ (S_appendT (f := ctrAV) (l := s.init) (i := i) (e := 67) (size := 11) (bytes := 120) (p := p) (by omega) ([_]) (st) rfl (.tmp rfl) (.tmp rfl) rfl hq (by kernel_rfl) (fun _ => ⟨rfl, rfl⟩) (by omega) (by omega)) ?_
  rintro _ _ ⟨b8, k8, cap8, hx8, rfl, rfl⟩
  refine as_ rfl rfl rfl rfl ?_
  refine AL_nil ?_
  refine AC_region ?_
  refine mv rfl rfl rfl rfl ?_
  refine p_ (S_addI rfl (.tmp rfl) (AEv.const _) (by omega) (by omega)) ?_
  refine as_ rfl rfl rfl rfl ?_
  refine AL_nil ?_
  refine ⟨(i + 1, .row b8 k8 cap8), ⟨by dsimp only; omega, hx8, fun j h => ?_⟩, by dsimp only; omega, (Sub.l (List.Sublist.refl _)), (.cons rfl (by first | exact Le.refl _ | exact Le.nils | exact Le.row _ _ _ _ | exact Le.of_eq (by first | rfl | (simp; done) | (push_cast; rfl) | (simp; omega))) (.cons rfl (by first | exact Le.refl _ | exact Le.nils | exact Le.row _ _ _ _ | exact Le.of_eq (by first | rfl | (simp; done) | (push_cast; rfl) | (simp; omega))) .nil)), (.cons rfl (Le.refl _) .nil)⟩
  rcases Nat.lt_or_ge j i with h' | h'
  ·exact hall j h'
  ·have : j = i := by dsimp only at h; omega
   subst this
   rw [ctrAt_at hil]; exact hnn
 try simp only [zA,zO,zN,zM,zP,zQ,zD,zF,gd] at hb5
 obtain rfl : i = s.init.length := by omega
 rw [List.take_length] at hq ⊢
 have hci : ctrsE initN [] [] s.init 0 0 = none := eachE_all fun j hj => by rw [hall j hj]; rfl
 refine AC_exit ?_
 refine AC_seq ?_
 refine AC_seq (AC_region ?_)
 refine fl 3 ?_
 refine ld 0 ?_
 refine p_ (by first | exact S_lenM (e := 67) rfl (.tmp rfl) (by kernel_rfl) | exact S_len (e := 67) rfl (.tmp rfl) (by kernel_rfl)) ?_
 refine p_ (S_lss rfl (.tmp rfl) (AEv.const _)) ?_
 refine mv rfl rfl rfl rfl ?_
 refine g_ (fun _ => fA 3) ?_
 refine g_ (fun _ => lA 0) ?_
 refine g_ (fun _ => by first | exact S_lenM (e := 67) rfl (AEv.cd (.tmp rfl)) (by kernel_rfl) | exact S_len (e := 67) rfl (AEv.cd (.tmp rfl)) (by kernel_rfl)) ?_
 refine g_ (fun _ => S_gtr rfl (AEv.cd (.tmp rfl)) (AEv.const _)) ?_
 refine p_ (S_or rfl (.tmp rfl) (fun hp21 => (AEv.cd (.tmp rfl)))) ?_
 refine AL_nil ?_
 refine AC_cond (.tmp rfl) (fun hb22 => ?_) (fun hb22 => ?_)
 ·try simp only [zA,zO,zN,zM,zP,zQ,zD,zF,gd] at hb22
  have hx : (checkE s) = some (2, [mainN]) := check_bad2 hc1 ((firstE_tl hci).trans (firstE_hd (by unfold atMostE; rw [if_pos (by omega)])))
  refine AC_seq (AC_region ?_)
  refine ac rfl rfl rfl ?_
  refine p_ (S_assign rfl (AEv.S _)) ?_
  refine AL_nil (AC_ret ?_)
  refine ret_tmps (ts := [2, 3]) st rfl (by decide) rfl (Sub.l (List.Sublist.cons _ (List.sublist_append_right _ _))) (Conv.refl (Sub.l (List.Sublist.cons _ (List.sublist_append_right _ _))) _) ⟨cp_some hx rfl, rfl⟩ (.inl rfl)
 try simp only [zA,zO,zN,zM,zP,zQ,zD,zF,gd] at hb22
 have hc2 : firstE (check2 s) = none := (firstE_tl hci).trans ((firstE_tl (by unfold atMostE; rw [if_neg (by omega)])).trans rfl)
 refine AC_skip ?_
 refine AC_seq ?_
 refine AC_seq (AC_region ?_)
 refine ac rfl rfl rfl ?_
 refine AL_nil ?_
 refine AC_block ?_
 refine AC_loopK (G := Nat × Own) [(1, _)] (fun g => g.1 ≤ s.main.length ∧ g.2.ok ((s.init ++ s.main.take g.1).map ctrAV) ∧ ∀ j, j < g.1 → ctrAt (namesTo [] s.init s.init.length) (portsTo [] s.init s.init.length) s.main 3 1000 j = none) (fun g => [(6, ownAV g.2 11 ((s.init ++ s.main.take g.1).map ctrAV)), (8, .int .i64 (g.1 : Int))]) (fun g => (b1, .cells (spcL s)) :: (ownSt g.2 67 11 ((s.init ++ s.main.take g.1).map ctrAV) ++ st)) (fun g => s.main.length - g.1) ((0, p)) (⟨Nat.zero_le _, by simpa using hq, fun j h => absurd h (Nat.not_lt_zero _)⟩) (by simp only [List.take_zero, List.append_nil]; exact Sub.l (List.Sublist.refl _)) (.cons rfl (Le.refl _) .nil) (.cons rfl (by first | exact Le.refl _ | exact Le.nils | exact Le.row _ _ _ _ | exact Le.of_eq (by first | rfl | (simp; done) | (push_cast; rfl) | (simp; omega))) (.cons rfl (by first | exact Le.refl _ | exact Le.nils | exact Le.row _ _ _ _ | exact Le.of_eq (by first | rfl | (simp; done) | (push_cast; rfl) | (simp; omega))) .nil)) ?_
 rintro ⟨i, p⟩ ⟨hi, hq, hall⟩
 try dsimp only
 simp only [List.cons_append, List.nil_append]
 dsimp only at hi hq hall
 refine AC_seq ?_
 refine AC_seq (AC_region ?_)
 refine mv rfl rfl rfl rfl ?_
 refine fl 3 ?_
 refine ld 0 ?_
 refine p_ (by first | exact S_lenM (e := 67) rfl (.tmp rfl) (by kernel_rfl) | exact S_len (e := 67) rfl (.tmp rfl) (by kernel_rfl)) ?_
 refine p_ (S_lss rfl (.tmp rfl) (.tmp rfl)) ?_
 refine AL_nil ?_
 refine AC_cond (.tmp rfl) (fun hb23 => ?_) (fun hb23 => ?_)
 ·try simp only [zA,zO,zN,zM,zP,zQ,zD,zF,gd] at hb23
  have hil : i < s.main.length := by omega
  have hif : fits (i : Int) := by unfold fits; omega
  have hat := at_short (name := mainN) (by decide) hil (by omega)
  have hsh := (short_ctr (ns := (s.init ++ s.main.take i).map Ctr.name) (ps := (s.init ++ s.main.take i).flatMap Ctr.ports) (a := 3) (b := 1000) (c := s.main[i]'hil) (by have := hpm _ (List.getElem_mem hil); omega)).text
  refine AC_skip ?_
  refine AC_seq ?_
  refine AC_block ?_
  refine AC_seq (AC_region ?_)
  refine fl 3 ?_
  refine ld 0 ?_
  refine mv rfl rfl rfl rfl ?_
  refine p_ (S_elemN (e := 67) 11 rfl (.tmp rfl) (.tmp rfl) (by kernel_rfl) (by kernel_rfl) (by omega) (fun _ => rfl)) ?_
  refine p_ (S_loadPN (m := 11) rfl (.tmp rfl) (by kernel_rfl) (by first | exact Nat.le_of_ble_eq_true rfl | (simp; omega) | simp)) ?_
  refine mv rfl rfl rfl rfl ?_
  refine p_ (S_pcall rfl (AEvs.cons (y := ctrAV (s.main[i]'hil)) (.tmp rfl) (AEvs.cons ((AEv.tmp rfl).le (Le_own hq)) (AEvs.cons (AEv.const _) AEvs.nil))) ((ref06_one_ok (s.main[i]'hil) (s.init ++ s.main.take i) false (by have := hpm _ (List.getElem_mem hil); omega) (by have := hpm _ (List.getElem_mem hil); omega) (by have := hpm _ (List.getElem_mem hil); omega) (by rw [List.length_append, List.length_take]; omega) (fun x hx => (List.mem_append.1 hx).elim (fun hx => by have := hpi x hx; omega) (fun hx => by have := hpm x (List.mem_of_mem_take hx); omega))).of_eq (show _ = cpAV (ctrE ((s.init ++ s.main.take i).map Ctr.name) ((s.init ++ s.main.take i).flatMap Ctr.ports) (s.main[i]'hil) 3 1000) from rfl))) ?_
  refine mv rfl rfl rfl rfl ?_
  refine ex 0 ?_
  refine ex 1 ?_
  refine as_ rfl rfl rfl rfl ?_
  refine as_ rfl rfl rfl rfl ?_
  refine AL_nil ?_
  refine AC_seq ?_
  refine AC_seq (AC_region ?_)
  refine mv rfl rfl rfl rfl ?_
  refine p_ (S_neq rfl (.tmp rfl) (AEv.const _)) ?_
  refine AL_nil ?_
  refine AC_cond (.tmp rfl) (fun hb24 => ?_) (fun hb24 => ?_)
  ·try simp only [zA,zO,zN,zM,zP,zQ,zD,zF,gd] at hb24
   have hne : (ctrE ((s.init ++ s.main.take i).map Ctr.name) ((s.init ++ s.main.take i).flatMap Ctr.ports) (s.main[i]'hil) 3 1000) ≠ none := fun h => hb24 (congrArg erCode h)
   have hx : (checkE s) = erIn (ctrE ((s.init ++ s.main.take i).map Ctr.name) ((s.init ++ s.main.take i).flatMap Ctr.ports) (s.main[i]'hil) 3 1000) (atT mainN (i : Int)) := by
    obtain ⟨y, hy⟩ := Option.ne_none_iff_exists'.1 hne
    obtain ⟨z, hz⟩ : ∃ z, erIn (ctrE ((s.init ++ s.main.take i).map Ctr.name) ((s.init ++ s.main.take i).flatMap Ctr.ports) (s.main[i]'hil) 3 1000) (atT mainN (i : Int)) = some z := by rw [hy]; exact ⟨_, rfl⟩
    rw [hz]
    exact (check_good hc1 hc2).trans (firstE_hd (eachE_at hil (by rw [ctrAt_at hil, seen_names, seen_ports, hz]) (fun j hj => by rw [hall j hj]; rfl)))
   refine AC_seq (AC_region ?_)
   refine mv rfl rfl rfl rfl ?_
   refine mv rfl rfl rfl rfl ?_
   refine p_ (S_pcall rfl (AEvs.cons (AEv.S _) (AEvs.cons (.tmp rfl) AEvs.nil)) (ref06_at_ok mainN (by decide) (i : Int) hif)) ?_
   refine p_ (S_cat rfl (.tmp rfl) (AEv.S _) (by first | omega | (simp only [List.length_append, List.length_cons, List.length_nil]; omega))) ?_
   refine mv rfl rfl rfl rfl ?_
   refine p_ (S_cat rfl (.tmp rfl) (.tmp rfl) (by first | omega | (simp only [List.length_append, List.length_cons, List.length_nil]; omega))) ?_
   refine as_ rfl rfl rfl rfl ?_
   refine as_ rfl rfl rfl rfl ?_
   refine AL_nil (AC_ret ?_)
   refine ret_tmps (ts := [2, 3]) st rfl (by decide) rfl (Sub.l (List.Sublist.cons _ (List.sublist_append_right _ _))) (Conv.refl (Sub.l (List.Sublist.cons _ (List.sublist_append_right _ _))) _) ⟨cp_in (well_ctr _ _ _ _ _) hne hx rfl, rfl⟩ (.inl rfl)
  try simp only [zA,zO,zN,zM,zP,zQ,zD,zF,gd] at hb24
  have hnn : (ctrE ((s.init ++ s.main.take i).map Ctr.name) ((s.init ++ s.main.take i).flatMap Ctr.ports) (s.main[i]'hil) 3 1000) = none := (well_ctr _ _ _ _ _).code.1 hb24
  refine AC_skip ?_
  refine AC_region ?_
  refine mv rfl rfl rfl rfl ?_
  refine fl 3 ?_
  refine ld 0 ?_
  refine mv rfl rfl rfl rfl ?_
  refine p_ (S_elemN (e := 67) 11 rfl (.tmp rfl) (.tmp rfl) (by kernel_rfl) (by kernel_rfl) (by omega) (fun _ => rfl)) ?_
  refine p_ (S_loadPN (m := 11) rfl (.tmp rfl) (by kernel_rfl) (by first | exact Nat.le_of_ble_eq_true rfl | (simp; omega) | simp)) ?_
  refine p_ (S_buildSlice (e := 67) 11 rfl (AEvs.cons (.tmp rfl) AEvs.nil) rfl (by kernel_rfl) (by kernel_rfl) (by intro y hy; simp only [List.mem_cons, List.not_mem_nil, or_false] at hy; rcases hy with rfl <;> exact ⟨rfl, rfl⟩) (by decide) (by decide) (by decide)) ?_
  refine s_ (S_appendM (f := ctrAV) (l := s.init ++ s.main.take i) (l2 := [(s.main[i]'hil)]) (e := 67) (size := 11) (bytes := 120) (p := p) ([_]) (st) rfl (.tmp rfl) (.tmp rfl) rfl hq (by kernel_rfl) (by simp) (fun _ => ⟨rfl, rfl⟩) (by simp only [List.length_append, List.length_take, List.length_singleton]; omega) (by simp only [List.length_append, List.length_take, List.length_singleton]; omega)) ?_
  rintro _ _ ⟨b8, k8, cap8, hx8, rfl, rfl⟩
  refine as_ rfl rfl rfl rfl ?_
  refine AL_nil ?_
  refine AC_region ?_
  refine mv rfl rfl rfl rfl ?_
  refine p_ (S_addI rfl (.tmp rfl) (AEv.const _) (by omega) (by omega)) ?_
  refine as_ rfl rfl rfl rfl ?_
  refine AL_nil ?_
  have e9 : s.init ++ s.main.take i ++ [(s.main[i]'hil)] = s.init ++ s.main.take (i + 1) := by rw [List.append_assoc, take_snoc]
  rw [e9] at hx8 ⊢
  refine ⟨(i + 1, .row b8 k8 cap8), ⟨by dsimp only; omega, hx8, fun j h => ?_⟩, by dsimp only; omega, (Sub.l (List.Sublist.refl _)), (.cons rfl (by first | exact Le.refl _ | exact Le.nils | exact Le.row _ _ _ _ | exact Le.of_eq (by first | rfl | (simp; done) | (push_cast; rfl) | (simp; omega))) (.cons rfl (by first | exact Le.refl _ | exact Le.nils | exact Le.row _ _ _ _ | exact Le.of_eq (by first | rfl | (simp; done) | (push_cast; rfl) | (simp; omega))) .nil)), (.cons rfl (Le.refl _) .nil)⟩
  rcases Nat.lt_or_ge j i with h' | h'
  ·exact hall j h'
  ·have : j = i := by dsimp only at h; omega
   subst this
   rw [ctrAt_at hil, seen_names, seen_ports]; exact hnn
 try simp only [zA,zO,zN,zM,zP,zQ,zD,zF,gd] at hb23
 have hcm : ctrsE mainN (namesTo [] s.init s.init.length) (portsTo [] s.init s.init.length) s.main 3 1000 = none := eachE_all fun j hj => by rw [hall j (by omega)]; rfl
 have hc3 := (check_good hc1 hc2).trans (firstE_tl hcm)
 refine AC_exit ?_
 refine AC_seq ?_
 refine AC_seq (AC_region ?_)
 refine fl 4 ?_
 refine ld 0 ?_
 refine p_ (S_lss rfl (.tmp rfl) (AEv.const _)) ?_
 refine mv rfl rfl rfl rfl ?_
 refine g_ (fun _ => fA 4) ?_
 refine g_ (fun _ => lA 0) ?_
 refine g_ (fun _ => S_gtr rfl (AEv.cd (.tmp rfl)) (AEv.const _)) ?_
 refine p_ (S_or rfl (.tmp rfl) (fun hp36 => (AEv.cd (.tmp rfl)))) ?_
 refine AL_nil ?_
 refine AC_cond (.tmp rfl) (fun hb37 => ?_) (fun hb37 => ?_)
 ·try simp only [zA,zO,zN,zM,zP,zQ,zD,zF,gd] at hb37
  have hx : (checkE s) = some (1, [[114, 101, 115, 116, 97, 114, 116]]) := hc3.trans (firstE_hd (by unfold withinE; rw [if_pos (by omega)]))
  refine AC_seq (AC_region ?_)
  refine ac rfl rfl rfl ?_
  refine p_ (S_assign rfl (AEv.S _)) ?_
  refine AL_nil (AC_ret ?_)
  refine ret_tmps (ts := [2, 3]) st rfl (by decide) rfl (Sub.l (List.Sublist.cons _ (List.sublist_append_right _ _))) (Conv.refl (Sub.l (List.Sublist.cons _ (List.sublist_append_right _ _))) _) ⟨cp_some hx rfl, rfl⟩ (.inl rfl)
 try simp only [zA,zO,zN,zM,zP,zQ,zD,zF,gd] at hb37
 have hc4 := hc3.trans (firstE_tl (by unfold withinE; rw [if_neg (by omega)]))
 refine AC_skip ?_
 refine AC_seq ?_
 refine AC_seq (AC_region ?_)
 refine fl 5 ?_
 refine ld 0 ?_
 refine p_ (S_lss rfl (.tmp rfl) (AEv.const _)) ?_
 refine mv rfl rfl rfl rfl ?_
 refine g_ (fun _ => fA 5) ?_
 refine g_ (fun _ => lA 0) ?_
 refine g_ (fun _ => S_gtr rfl (AEv.cd (.tmp rfl)) (AEv.const _)) ?_
 refine p_ (S_or rfl (.tmp rfl) (fun hp47 => (AEv.cd (.tmp rfl)))) ?_
 refine AL_nil ?_
 refine AC_cond (.tmp rfl) (fun hb48 => ?_) (fun hb48 => ?_)
 ·try simp only [zA,zO,zN,zM,zP,zQ,zD,zF,gd] at hb48
  have hx : (checkE s) = some (1, [[103, 114, 97, 99, 101]]) := hc4.trans (firstE_hd (by unfold withinE; rw [if_pos (by omega)]))
  refine AC_seq (AC_region ?_)
  refine ac rfl rfl rfl ?_
  refine p_ (S_assign rfl (AEv.S _)) ?_
  refine AL_nil (AC_ret ?_)
  refine ret_tmps (ts := [2, 3]) st rfl (by decide) rfl (Sub.l (List.Sublist.cons _ (List.sublist_append_right _ _))) (Conv.refl (Sub.l (List.Sublist.cons _ (List.sublist_append_right _ _))) _) ⟨cp_some hx rfl, rfl⟩ (.inl rfl)
 try simp only [zA,zO,zN,zM,zP,zQ,zD,zF,gd] at hb48
 have hc5 := hc4.trans (firstE_tl (by unfold withinE; rw [if_neg (by omega)]))
 refine AC_skip ?_
 refine AC_seq ?_
 refine AC_seq (AC_region ?_)
 refine fl 6 ?_
 refine ld 0 ?_
 refine p_ (S_lss rfl (.tmp rfl) (AEv.const _)) ?_
 refine mv rfl rfl rfl rfl ?_
 refine g_ (fun _ => fA 6) ?_
 refine g_ (fun _ => lA 0) ?_
 refine g_ (fun _ => S_gtr rfl (AEv.cd (.tmp rfl)) (AEv.const _)) ?_
 refine p_ (S_or rfl (.tmp rfl) (fun hp58 => (AEv.cd (.tmp rfl)))) ?_
 refine AL_nil ?_
 refine AC_cond (.tmp rfl) (fun hb59 => ?_) (fun hb59 => ?_)
 ·try simp only [zA,zO,zN,zM,zP,zQ,zD,zF,gd] at hb59
  have hx : (checkE s) = some (1, [[112, 114, 105, 111]]) := hc5.trans (firstE_hd (by unfold withinE; rw [if_pos (by omega)]))
  refine AC_seq (AC_region ?_)
  refine ac rfl rfl rfl ?_
  refine p_ (S_assign rfl (AEv.S _)) ?_
  refine AL_nil (AC_ret ?_)
  refine ret_tmps (ts := [2, 3]) st rfl (by decide) rfl (Sub.l (List.Sublist.cons _ (List.sublist_append_right _ _))) (Conv.refl (Sub.l (List.Sublist.cons _ (List.sublist_append_right _ _))) _) ⟨cp_some hx rfl, rfl⟩ (.inl rfl)
 try simp only [zA,zO,zN,zM,zP,zQ,zD,zF,gd] at hb59
 have hx : (checkE s) = none := hc5.trans ((firstE_tl (by unfold withinE; rw [if_neg (by omega)])).trans rfl)
 refine AC_skip ?_
 refine AC_seq (AC_region ?_)
 refine ac rfl rfl rfl ?_
 refine p_ (S_assign rfl (AEv.S _)) ?_
 refine AL_nil (AC_ret ?_)
 refine ret_tmps (ts := [2, 3]) st rfl (by decide) rfl (Sub.l (List.Sublist.cons _ (List.sublist_append_right _ _))) (Conv.refl (Sub.l (List.Sublist.cons _ (List.sublist_append_right _ _))) _) ⟨cp_none hx, rfl⟩ (.inl rfl)
end Go.Proofs.YtfpkefhjomeeeaaGreatDoor
