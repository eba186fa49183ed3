/- A part of the proof: what the program's functions answer.
Conditions: none beyond each theorem's own. -/
import Derived.Test.YtemmkkmpchphkaaGreatDoorW3
set_option linter.unusedVariables false
set_option linter.unusedSimpArgs false
set_option maxRecDepth 100000
namespace Go.Proofs.YtemmkkmpchphkaaGreatDoor
open Go.AL Go.NumSpec
theorem ref04_Fail_ok (S r : List UInt8) (c d : Int) : PCalls Tryz.prog 88 [rdR S (r) (c), .int .i64 d] (rdR S (r) (failC c d)) := by
 intro st
 refine co 11 Tryz.func88 ?_
 refine AC_seq (AC_region ?_)
 refine s_ (S_box rfl (.tmp rfl)) ?_
 rintro _ _ ⟨b2, rfl, rfl⟩
 refine s_ (S_alloc [.string ⟨#[]⟩, .int .i64 0, .int .i64 0] rfl (by kernel_rfl)) ?_
 rintro _ _ ⟨b4, rfl, rfl⟩
 refine AL_nil ?_
 refine AC_seq ?_
 refine AC_seq (AC_region ?_)
 refine fl 2 ?_
 refine ld 1 ?_
 refine p_ (S_eql rfl (.tmp rfl) (AEv.const _)) ?_
 refine AL_nil ?_
 refine AC_cond (.tmp rfl) (fun hb3 => ?_) (fun hb3 => ?_)
 ·try simp only [zA,zO,zN,zM,zP,zQ,zD,zF,gd] at hb3
  have hx : failC c d = d := by unfold failC; rw [if_pos hb3]
  refine AC_region ?_
  refine mv rfl rfl rfl rfl ?_
  refine fl 2 ?_
  refine st1 1 ?_
  refine AL_nil (AC_seq (AC_region ?_))
  refine ldN 3 1 ?_
  refine stW 0 ?_
  refine AL_nil (AC_ret ?_)
  refine ret_cell 0 st rfl rfl rfl (by kernel_rfl) (Sub.l (List.Sublist.cons _ (List.Sublist.cons _ (List.Sublist.refl _)))) (Conv.refl (Sub.l (List.Sublist.cons _ (List.Sublist.cons _ (List.Sublist.refl _)))) _) ⟨by rw [hx]; rfl, rfl⟩ (.inl rfl)
 try simp only [zA,zO,zN,zM,zP,zQ,zD,zF,gd] at hb3
 have hx : failC c d = c := by unfold failC; rw [if_neg hb3]
 refine AC_skip ?_
 refine AC_seq (AC_region ?_)
 refine ldN 3 1 ?_
 refine stW 0 ?_
 refine AL_nil (AC_ret ?_)
 refine ret_cell 0 st rfl rfl rfl (by kernel_rfl) (Sub.l (List.Sublist.cons _ (List.Sublist.cons _ (List.Sublist.refl _)))) (Conv.refl (Sub.l (List.Sublist.cons _ (List.Sublist.cons _ (List.Sublist.refl _)))) _) ⟨by rw [hx]; rfl, rfl⟩ (.inl rfl)
theorem ref04_Big_ok (S r : List UInt8) (c : Int) (hr : r <:+ S) (hS : S.length ≤ 1000000) : PCalls Tryz.prog 53 [rdR S (r) (c)] (.tup [rdR S ((bigR r c).2.1) ((bigR r c).2.2), .int .u64 ((bigR r c).1 : Int)]) := by
 intro st
 refine co 60 Tryz.func53 ?_
 have hrl := suf_len hr
 have hrd := suf_drop hr
 have htk := takeV_le r
 refine AC_seq (AC_region ?_)
 refine s_ (S_box rfl (.tmp rfl)) ?_
 rintro _ _ ⟨b1, rfl, rfl⟩
 refine s_ (S_alloc [.string ⟨#[]⟩, .int .i64 0, .int .i64 0] rfl (by kernel_rfl)) ?_
 rintro _ _ ⟨b2, rfl, rfl⟩
 refine ac rfl rfl rfl ?_
 refine AL_nil ?_
 refine AC_seq ?_
 refine AC_seq (AC_region ?_)
 refine fl 2 ?_
 refine ld 1 ?_
 refine p_ (S_neq rfl (.tmp rfl) (AEv.const _)) ?_
 refine AL_nil ?_
 refine AC_cond (.tmp rfl) (fun hb3 => ?_) (fun hb3 => ?_)
 ·try simp only [zA,zO,zN,zM,zP,zQ,zD,zF,gd] at hb3
  have hx := bigR_err (s := r) hb3
  refine AC_seq (AC_region ?_)
  refine ldN 3 1 ?_
  refine stW 0 ?_
  refine ac rfl rfl rfl ?_
  refine AL_nil (AC_ret ?_)
  refine ret_outs st rfl (by decide) (OutsR.row 0 rfl rfl (by kernel_rfl) (OutsR.tmp rfl OutsR.nil)) (Sub.l (List.Sublist.cons _ (List.Sublist.cons _ (List.Sublist.refl _)))) (Conv.refl (Sub.l (List.Sublist.cons _ (List.Sublist.cons _ (List.Sublist.refl _)))) _) ⟨by rw [hx]; rfl, rfl⟩ (.inl rfl)
 try simp only [zA,zO,zN,zM,zP,zQ,zD,zF,gd] at hb3
 have hc : c = 0 := by simpa using hb3
 subst hc
 refine AC_skip ?_
 refine AC_seq (AC_region ?_)
 refine fl 0 ?_
 refine ld 1 ?_
 refine fl 1 ?_
 refine ld 1 ?_
 refine p_ ((S_sliceL rfl (.tmp rfl) (.tmp rfl) (by kernel_rfl) (by omega) (by omega)).ofV (V' := .S r) (congrArg AV.S (by rw [Int.toNat_natCast]; exact hrd))) ?_
 refine as_ rfl rfl rfl rfl ?_
 refine AL_nil (AC_seq (AC_region ?_))
 refine ac rfl rfl rfl ?_
 refine AL_nil ?_
 refine AC_seq ?_
 refine AC_seq (AC_region ?_)
 refine ac rfl rfl rfl ?_
 refine AL_nil ?_
 refine AC_block ?_
 refine AC_loopK (G := Nat) [(1, _), (2, _), (3, _), (4, _)] (fun g => g ≤ r.length ∧ g ≤ 10) (fun g => [(5, .bool (smallV r g)), (6, .int .i64 (g : Int))]) (fun g => (b2, .cells [.S [], .int .i64 0, .int .i64 0]) :: (b1, .cells (rdL S r 0)) :: st) (fun g => 10 - g) (0) (⟨Nat.zero_le _, by omega⟩) (Sub.l (List.Sublist.refl _)) (.cons rfl (Le.refl _) (.cons rfl (Le.refl _) (.cons rfl (Le.refl _) (.cons rfl (Le.refl _) .nil)))) (.cons rfl (by first | exact Le.refl _ | exact Le.nils | exact Le.row _ _ _ _ | exact Le.of_eq (by first | rfl | (simp; done) | (push_cast; rfl) | (simp; omega))) (.cons rfl (by first | exact Le.refl _ | exact Le.nils | exact Le.row _ _ _ _ | exact Le.of_eq (by first | rfl | (simp; done) | (push_cast; rfl) | (simp; omega))) .nil)) ?_
 rintro k ⟨hk1, hk2⟩
 try dsimp only
 simp only [List.cons_append, List.nil_append]
 refine AC_seq ?_
 refine AC_seq (AC_region ?_)
 refine mv rfl rfl rfl rfl ?_
 refine mv rfl rfl rfl rfl ?_
 refine p_ (S_lenS (ts := #[]) rfl (.tmp rfl) (by kernel_rfl)) ?_
 refine p_ (S_lss rfl (.tmp rfl) (.tmp rfl)) ?_
 refine mv rfl rfl rfl rfl ?_
 refine g_ (fun _ => mA) ?_
 refine g_ (fun _ => S_lss rfl (AEv.cd (.tmp rfl)) (AEv.const _)) ?_
 refine an ?_
 refine AL_nil ?_
 refine AC_cond (.tmp rfl) (fun hb11 => ?_) (fun hb11 => ?_)
 ·try simp only [zA,zO,zN,zM,zP,zQ,zD,zF,gd] at hb11
  have hkr : k < r.length := by omega
  refine AC_skip ?_
  refine AC_seq ?_
  refine AC_block ?_
  refine AC_region ?_
  refine mv rfl rfl rfl rfl ?_
  refine mv rfl rfl rfl rfl ?_
  refine g_ (fun _ => mA) ?_
  refine g_ (fun _ => mA) ?_
  refine g_ (fun _ => S_index rfl (AEv.cd (.tmp rfl)) (AEv.cd (.tmp rfl)) (by kernel_rfl) (by (try simp only [gd, Bool.and_eq_true, Bool.or_eq_true, Bool.not_eq_true', Bool.not_eq_false', decide_eq_true_eq, decide_eq_false_iff_not, Bool.or_eq_false_iff, Bool.and_eq_false_iff] at *); omega) (by (try simp only [gd, Bool.and_eq_true, Bool.or_eq_true, Bool.not_eq_true', Bool.not_eq_false', decide_eq_true_eq, decide_eq_false_iff_not, Bool.or_eq_false_iff, Bool.and_eq_false_iff] at *); omega)) ?_
  refine g_ (fun _ => S_lss rfl (AEv.cd (.tmp rfl)) (AEv.const _)) ?_
  refine p_ (S_or rfl (.tmp rfl) (fun hp24 => (AEv.cd (.tmp rfl)))) ?_
  refine as_ rfl rfl rfl rfl ?_
  refine AL_nil ?_
  refine AC_region ?_
  refine mv rfl rfl rfl rfl ?_
  refine p_ (S_addI rfl (.tmp rfl) (AEv.const _) (by omega) (by omega)) ?_
  refine as_ rfl rfl rfl rfl ?_
  refine AL_nil ?_
  exact ⟨k + 1, ⟨by omega, by omega⟩, by omega, (Sub.l (List.Sublist.refl _)), (.cons rfl (Le.of_eq (congrArg AV.bool (by rw [small_next hkr, atL_get hkr]; exact congrArg _ (decide_eq_decide.2 (by omega))))) (.cons rfl (by first | exact Le.refl _ | exact Le.nils | exact Le.row _ _ _ _ | exact Le.of_eq (by first | rfl | (simp; done) | (push_cast; rfl) | (simp; omega))) .nil)), (.cons rfl (Le.refl _) (.cons rfl (Le.refl _) (.cons rfl (Le.refl _) (.cons rfl (Le.refl _) .nil))))⟩
 try simp only [zA,zO,zN,zM,zP,zQ,zD,zF,gd] at hb11
 have hsm := small_end hk2 hk1 (by omega)
 refine AC_exit ?_
 refine AC_seq ?_
 refine AC_seq (AC_region ?_)
 refine mv rfl rfl rfl rfl ?_
 refine p_ (S_not rfl (.tmp rfl)) ?_
 refine mv rfl rfl rfl rfl ?_
 refine g_ (fun _ => mA) ?_
 refine g_ (fun _ => S_lenS (ts := #[]) rfl (AEv.cd (.tmp rfl)) (by kernel_rfl)) ?_
 refine g_ (fun _ => S_lss rfl (AEv.cd (.tmp rfl)) (AEv.const _)) ?_
 refine an ?_
 refine AL_nil ?_
 refine AC_cond (.tmp rfl) (fun hb35 => ?_) (fun hb35 => ?_)
 ·try simp only [zA,zO,zN,zM,zP,zQ,zD,zF,gd] at hb35
  have hlk : lacksV r = true := by rw [hsm]; simpa using hb35
  have hx := bigR_lack hlk
  refine AC_seq (AC_region ?_)
  refine ldN 3 1 ?_
  refine p_ (S_pcall rfl (AEvs.cons (.tmp rfl) (AEvs.cons (AEv.const _) AEvs.nil)) (ref04_Fail_ok S r _ _)) ?_
  refine stW 0 ?_
  refine ac rfl rfl rfl ?_
  refine AL_nil (AC_ret ?_)
  refine ret_outs st rfl (by decide) (OutsR.row 0 rfl rfl (by kernel_rfl) (OutsR.tmp rfl OutsR.nil)) (Sub.l (List.Sublist.cons _ (List.Sublist.cons _ (List.Sublist.refl _)))) (Conv.refl (Sub.l (List.Sublist.cons _ (List.Sublist.cons _ (List.Sublist.refl _)))) _) ⟨by rw [hx]; rfl, rfl⟩ (.inl rfl)
 try simp only [zA,zO,zN,zM,zP,zQ,zD,zF,gd] at hb35
 have hlk : lacksV r = false := by rw [hsm]; rw [Bool.and_eq_false_iff]; simpa using hb35
 refine AC_skip ?_
 refine AC_seq (AC_region ?_)
 refine mv rfl rfl rfl rfl ?_
 refine p_ (S_pcall rfl (AEvs.cons (.tmp rfl) AEvs.nil) (ref_Take_ok r)) ?_
 refine mv rfl rfl rfl rfl ?_
 refine ex 0 ?_
 refine ex 1 ?_
 refine as_ rfl rfl rfl rfl ?_
 refine as_ rfl rfl rfl rfl ?_
 refine AL_nil ?_
 refine AC_seq ?_
 refine AC_seq (AC_region ?_)
 refine mv rfl rfl rfl rfl ?_
 refine p_ (S_eql rfl (.tmp rfl) (AEv.const _)) ?_
 refine AL_nil ?_
 refine AC_cond (.tmp rfl) (fun hb36 => ?_) (fun hb36 => ?_)
 ·try simp only [zA,zO,zN,zM,zP,zQ,zD,zF,gd] at hb36
  have hx := bigR_form hlk (by omega)
  refine AC_seq (AC_region ?_)
  refine ldN 3 1 ?_
  refine p_ (S_pcall rfl (AEvs.cons (.tmp rfl) (AEvs.cons (AEv.const _) AEvs.nil)) (ref04_Fail_ok S r _ _)) ?_
  refine stW 0 ?_
  refine ac rfl rfl rfl ?_
  refine AL_nil (AC_ret ?_)
  refine ret_outs st rfl (by decide) (OutsR.row 0 rfl rfl (by kernel_rfl) (OutsR.tmp rfl OutsR.nil)) (Sub.l (List.Sublist.cons _ (List.Sublist.cons _ (List.Sublist.refl _)))) (Conv.refl (Sub.l (List.Sublist.cons _ (List.Sublist.cons _ (List.Sublist.refl _)))) _) ⟨by rw [hx]; rfl, rfl⟩ (.inl rfl)
 try simp only [zA,zO,zN,zM,zP,zQ,zD,zF,gd] at hb36
 have hx := bigR_ok hlk (by omega)
 refine AC_skip ?_
 refine AC_seq (AC_region ?_)
 refine fl 1 ?_
 refine ld 1 ?_
 refine mv rfl rfl rfl rfl ?_
 refine p_ ((S_addI rfl (.tmp rfl) (.tmp rfl) (by omega) (by omega)).ofV (V' := .int .i64 ((S.length - (r.drop (takeV r).2).length : Nat) : Int)) (congrArg (AV.int .i64) (by rw [List.length_drop]; omega))) ?_
 refine fl 1 ?_
 refine st1 1 ?_
 refine AL_nil (AC_seq (AC_region ?_))
 refine ldN 3 1 ?_
 refine mv rfl rfl rfl rfl ?_
 refine stW 0 ?_
 refine as_ rfl rfl rfl rfl ?_
 refine AL_nil (AC_ret ?_)
 refine ret_outs st rfl (by decide) (OutsR.row 0 rfl rfl (by kernel_rfl) (OutsR.tmp rfl OutsR.nil)) (Sub.l (List.Sublist.cons _ (List.Sublist.cons _ (List.Sublist.refl _)))) (Conv.refl (Sub.l (List.Sublist.cons _ (List.Sublist.cons _ (List.Sublist.refl _)))) _) ⟨by rw [hx]; rfl, rfl⟩ (.inl rfl)
theorem ref04_Num_ok (S r : List UInt8) (c : Int) (hr : r <:+ S) (hS : S.length ≤ 1000000) (most : Int) (hm : fits most) : PCalls Tryz.prog 51 [rdR S (r) (c), .int .i64 most] (.tup [rdR S ((numR r c most).2.1) ((numR r c most).2.2), .int .i64 (numR r c most).1]) := by
 intro st
 refine co 38 Tryz.func51 ?_
 have hrl := suf_len hr
 have hrd := suf_drop hr
 unfold fits at hm
 have hbl := bigR_lt r c
 have hu := u64w most
 refine AC_seq (AC_region ?_)
 refine s_ (S_box rfl (.tmp rfl)) ?_
 rintro _ _ ⟨b2, rfl, rfl⟩
 refine s_ (S_alloc [.string ⟨#[]⟩, .int .i64 0, .int .i64 0] rfl (by kernel_rfl)) ?_
 rintro _ _ ⟨b4, rfl, rfl⟩
 refine ac rfl rfl rfl ?_
 refine AL_nil (AC_seq (AC_region ?_))
 refine ldN 3 1 ?_
 refine p_ (S_pcall rfl (AEvs.cons (.tmp rfl) AEvs.nil) (ref04_Big_ok S r c hr hS)) ?_
 refine mv rfl rfl rfl rfl ?_
 refine ex 0 ?_
 refine ex 1 ?_
 refine s_ (S_alloc [.string ⟨#[]⟩, .int .i64 0, .int .i64 0] rfl (by kernel_rfl)) ?_
 rintro _ _ ⟨b6, rfl, rfl⟩
 refine stW 0 ?_
 refine as_ rfl rfl rfl rfl ?_
 refine AL_nil ?_
 refine AC_seq ?_
 refine AC_seq (AC_region ?_)
 refine fl 2 ?_
 refine ld 0 ?_
 refine p_ (S_neq rfl (.tmp rfl) (AEv.const _)) ?_
 refine AL_nil ?_
 refine AC_cond (.tmp rfl) (fun hb4 => ?_) (fun hb4 => ?_)
 ·try simp only [zA,zO,zN,zM,zP,zQ,zD,zF,gd] at hb4
  have hx := numR_bad (most := most) hb4
  refine AC_seq (AC_region ?_)
  refine ldN 3 0 ?_
  refine stW 1 ?_
  refine ac rfl rfl rfl ?_
  refine AL_nil (AC_ret ?_)
  refine ret_outs st rfl (by decide) (OutsR.row 1 rfl rfl (by kernel_rfl) (OutsR.tmp rfl OutsR.nil)) (Sub.l (List.Sublist.cons _ (List.Sublist.cons _ (List.Sublist.cons _ (List.Sublist.refl _))))) (Conv.refl (Sub.l (List.Sublist.cons _ (List.Sublist.cons _ (List.Sublist.cons _ (List.Sublist.refl _))))) _) ⟨by rw [hx]; rfl, rfl⟩ (.inl rfl)
 try simp only [zA,zO,zN,zM,zP,zQ,zD,zF,gd] at hb4
 have hb0 : (bigR r c).2.2 = 0 := by simpa using hb4
 refine AC_skip ?_
 refine AC_seq ?_
 refine AC_seq (AC_region ?_)
 refine mv rfl rfl rfl rfl ?_
 refine p_ (S_lss rfl (.tmp rfl) (AEv.const _)) ?_
 refine mv rfl rfl rfl rfl ?_
 refine g_ (fun _ => mA) ?_
 refine g_ (fun _ => S_gtr rfl (AEv.cd (.tmp rfl)) (AEv.const _)) ?_
 refine an ?_
 refine mv rfl rfl rfl rfl ?_
 refine g_ (fun _ => mA) ?_
 refine g_ (fun _ => S_geq rfl (AEv.cd (.tmp rfl)) (AEv.const _)) ?_
 refine g_ (fun _ => S_move rfl (AEv.cd (.tmp rfl))) ?_
 refine AL_gg rfl rfl (.tmp rfl) rfl (fun hg21 hg22 hg23 => S_move rfl (.tmp rfl)) ?_
 refine AL_gg rfl rfl (.tmp rfl) rfl (fun hg24 hg25 hg26 => S_move rfl (.tmp rfl)) ?_
 refine AL_gg rfl rfl (.tmp rfl) rfl (fun hg27 hg28 hg29 => S_conv (k' := .u64) rfl (AEv.cd (.tmp rfl)) (by kernel_rfl) (by kernel_rfl)) ?_
 refine AL_gg rfl rfl (.tmp rfl) rfl (fun hg30 hg31 hg32 => S_gtr rfl (AEv.cd (.tmp rfl)) (AEv.cd (.tmp rfl))) ?_
 refine g_ (fun _ => S_and rfl (AEv.cd (.tmp rfl)) (fun hp36 => (AEv.cd (.tmp rfl)))) ?_
 refine p_ (S_or rfl (.tmp rfl) (fun hp37 => (AEv.cd (.tmp rfl)))) ?_
 refine AL_nil ?_
 refine AC_cond (.tmp rfl) (fun hb38 => ?_) (fun hb38 => ?_)
 ·try simp only [zA,zO,zN,zM,zP,zQ,zD,zF,gd] at hb38
  have hx := numR_long (most := most) hb0 (by omega)
  refine AC_seq (AC_region ?_)
  refine ldN 3 2 ?_
  refine p_ (S_pcall rfl (AEvs.cons (.tmp rfl) (AEvs.cons (AEv.const _) AEvs.nil)) (ref04_Fail_ok S r c 2)) ?_
  refine stW 1 ?_
  refine ac rfl rfl rfl ?_
  refine AL_nil (AC_ret ?_)
  refine ret_outs st rfl (by decide) (OutsR.row 1 rfl rfl (by kernel_rfl) (OutsR.tmp rfl OutsR.nil)) (Sub.l (List.Sublist.cons _ (List.Sublist.cons _ (List.Sublist.cons _ (List.Sublist.refl _))))) (Conv.refl (Sub.l (List.Sublist.cons _ (List.Sublist.cons _ (List.Sublist.cons _ (List.Sublist.refl _))))) _) ⟨by rw [hx]; rfl, rfl⟩ (.inl rfl)
 try simp only [zA,zO,zN,zM,zP,zQ,zD,zF,gd] at hb38
 have hlt : ¬ max most 0 < ((bigR r c).1 : Int) := by omega
 have hx := numR_fine hb0 hlt
 refine AC_skip ?_
 refine AC_seq (AC_region ?_)
 refine ldN 3 0 ?_
 refine mv rfl rfl rfl rfl ?_
 refine p_ ((S_conv (k' := .i64) rfl (.tmp rfl) (by kernel_rfl) (by kernel_rfl)).ofV (V' := .int .i64 ((bigR r c).1 : Int)) (congrArg (AV.int .i64) (wrap_i64 (by omega) (by omega)))) ?_
 refine stW 1 ?_
 refine as_ rfl rfl rfl rfl ?_
 refine AL_nil (AC_ret ?_)
 refine ret_outs st rfl (by decide) (OutsR.row 1 rfl rfl (by kernel_rfl) (OutsR.tmp rfl OutsR.nil)) (Sub.l (List.Sublist.cons _ (List.Sublist.cons _ (List.Sublist.cons _ (List.Sublist.refl _))))) (Conv.refl (Sub.l (List.Sublist.cons _ (List.Sublist.cons _ (List.Sublist.cons _ (List.Sublist.refl _))))) _) ⟨by rw [hx]; rfl, rfl⟩ (.inl rfl)
theorem ref04_Text_ok (S r : List UInt8) (c : Int) (hr : r <:+ S) (hS : S.length ≤ 1000000) (most : Int) (hm : fits most) : PCalls Tryz.prog 89 [rdR S (r) (c), .int .i64 most] (.tup [rdR S ((wtextR r c most).2.1) ((wtextR r c most).2.2), .S (wtextR r c most).1]) := by
 intro st
 refine co 45 Tryz.func89 ?_
 have hrl := suf_len hr
 have hrd := suf_drop hr
 have hr2 : (numR r c most).2.1 <:+ S := (numR_suf r c most).trans hr
 have hrl2 := suf_len hr2
 have hn0 := numR_nonneg r c most
 refine AC_seq (AC_region ?_)
 refine s_ (S_box rfl (.tmp rfl)) ?_
 rintro _ _ ⟨b2, rfl, rfl⟩
 refine s_ (S_alloc [.string ⟨#[]⟩, .int .i64 0, .int .i64 0] rfl (by kernel_rfl)) ?_
 rintro _ _ ⟨b4, rfl, rfl⟩
 refine p_ (S_assign rfl (AEv.S _)) ?_
 refine AL_nil (AC_seq (AC_region ?_))
 refine ldN 3 1 ?_
 refine mv rfl rfl rfl rfl ?_
 refine p_ (S_pcall rfl (AEvs.cons (.tmp rfl) (AEvs.cons (.tmp rfl) AEvs.nil)) (ref04_Num_ok S r c hr hS most hm)) ?_
 refine mv rfl rfl rfl rfl ?_
 refine ex 0 ?_
 refine ex 1 ?_
 refine s_ (S_alloc [.string ⟨#[]⟩, .int .i64 0, .int .i64 0] rfl (by kernel_rfl)) ?_
 rintro _ _ ⟨b6, rfl, rfl⟩
 refine stW 0 ?_
 refine as_ rfl rfl rfl rfl ?_
 refine AL_nil ?_
 refine AC_seq ?_
 refine AC_seq (AC_region ?_)
 refine fl 2 ?_
 refine ld 0 ?_
 refine p_ (S_neq rfl (.tmp rfl) (AEv.const _)) ?_
 refine AL_nil ?_
 refine AC_cond (.tmp rfl) (fun hb4 => ?_) (fun hb4 => ?_)
 ·try simp only [zA,zO,zN,zM,zP,zQ,zD,zF,gd] at hb4
  have hx := textR_bad hb4
  refine AC_seq (AC_region ?_)
  refine ldN 3 0 ?_
  refine stW 1 ?_
  refine p_ (S_assign rfl (AEv.S _)) ?_
  refine AL_nil (AC_ret ?_)
  refine ret_outs st rfl (by decide) (OutsR.row 1 rfl rfl (by kernel_rfl) (OutsR.tmp rfl OutsR.nil)) (Sub.l (List.Sublist.cons _ (List.Sublist.cons _ (List.Sublist.cons _ (List.Sublist.refl _))))) (Conv.refl (Sub.l (List.Sublist.cons _ (List.Sublist.cons _ (List.Sublist.cons _ (List.Sublist.refl _))))) _) ⟨by rw [hx]; rfl, rfl⟩ (.inl rfl)
 try simp only [zA,zO,zN,zM,zP,zQ,zD,zF,gd] at hb4
 have hb0 : (numR r c most).2.2 = 0 := by simpa using hb4
 refine AC_skip ?_
 refine AC_seq ?_
 refine AC_seq (AC_region ?_)
 refine mv rfl rfl rfl rfl ?_
 refine fl 0 ?_
 refine ld 0 ?_
 refine p_ (S_lenS (ts := #[]) rfl (.tmp rfl) (by kernel_rfl)) ?_
 refine fl 1 ?_
 refine ld 0 ?_
 refine p_ (S_subI rfl (.tmp rfl) (.tmp rfl) (by omega) (by omega)) ?_
 refine p_ (S_gtr rfl (.tmp rfl) (.tmp rfl)) ?_
 refine AL_nil ?_
 refine AC_cond (.tmp rfl) (fun hb5 => ?_) (fun hb5 => ?_)
 ·try simp only [zA,zO,zN,zM,zP,zQ,zD,zF,gd] at hb5
  have hx := textR_short hb0 (by omega)
  refine AC_seq (AC_region ?_)
  refine ldN 3 0 ?_
  refine p_ (S_pcall rfl (AEvs.cons (.tmp rfl) (AEvs.cons (AEv.const _) AEvs.nil)) (ref04_Fail_ok S (numR r c most).2.1 (numR r c most).2.2 40)) ?_
  refine stW 1 ?_
  refine p_ (S_assign rfl (AEv.S _)) ?_
  refine AL_nil (AC_ret ?_)
  refine ret_outs st rfl (by decide) (OutsR.row 1 rfl rfl (by kernel_rfl) (OutsR.tmp rfl OutsR.nil)) (Sub.l (List.Sublist.cons _ (List.Sublist.cons _ (List.Sublist.cons _ (List.Sublist.refl _))))) (Conv.refl (Sub.l (List.Sublist.cons _ (List.Sublist.cons _ (List.Sublist.cons _ (List.Sublist.refl _))))) _) ⟨by rw [hx]; rfl, rfl⟩ (.inl rfl)
 try simp only [zA,zO,zN,zM,zP,zQ,zD,zF,gd] at hb5
 have hlt : ¬ ((numR r c most).2.1.length : Int) < (numR r c most).1 := by omega
 have hx := textR_fine hb0 hlt
 refine AC_skip ?_
 refine AC_seq (AC_region ?_)
 refine fl 0 ?_
 refine ld 0 ?_
 refine fl 1 ?_
 refine ld 0 ?_
 refine fl 1 ?_
 refine ld 0 ?_
 refine mv rfl rfl rfl rfl ?_
 refine p_ (S_addI rfl (.tmp rfl) (.tmp rfl) (by omega) (by omega)) ?_
 refine p_ ((S_sliceLH rfl (.tmp rfl) (.tmp rfl) (.tmp rfl) (by kernel_rfl) (by omega) (by omega) (by omega)).ofV (V' := .S ((numR r c most).2.1.take (numR r c most).1.toNat)) (congrArg AV.S (by rw [← suf_cut hr2, Int.toNat_natCast]; congr 2; omega))) ?_
 refine as_ rfl rfl rfl rfl ?_
 refine AL_nil (AC_seq (AC_region ?_))
 refine fl 1 ?_
 refine ld 0 ?_
 refine mv rfl rfl rfl rfl ?_
 refine p_ ((S_addI rfl (.tmp rfl) (.tmp rfl) (by omega) (by omega)).ofV (V' := .int .i64 ((S.length - ((numR r c most).2.1.drop (numR r c most).1.toNat).length : Nat) : Int)) (congrArg (AV.int .i64) (by rw [List.length_drop]; omega))) ?_
 refine fl 1 ?_
 refine st1 0 ?_
 refine AL_nil (AC_seq (AC_region ?_))
 refine ldN 3 0 ?_
 refine mv rfl rfl rfl rfl ?_
 refine stW 1 ?_
 refine as_ rfl rfl rfl rfl ?_
 refine AL_nil (AC_ret ?_)
 refine ret_outs st rfl (by decide) (OutsR.row 1 rfl rfl (by kernel_rfl) (OutsR.tmp rfl OutsR.nil)) (Sub.l (List.Sublist.cons _ (List.Sublist.cons _ (List.Sublist.cons _ (List.Sublist.refl _))))) (Conv.refl (Sub.l (List.Sublist.cons _ (List.Sublist.cons _ (List.Sublist.cons _ (List.Sublist.refl _))))) _) ⟨by rw [hx]; rfl, rfl⟩ (.inl rfl)
theorem ref07_three_ok (S r : List UInt8) (c : Int) (hr : r <:+ S) (hS : S.length ≤ 1000000) : PCalls Tryz.prog 156 [rdR S (r) (c)] (.tup [rdR S ((triRd r c).2.1) ((triRd r c).2.2), resAV (triRd r c).1]) := by
 intro st
 refine co 37 Tryz.func156 ?_
 refine AC_seq (AC_region ?_)
 refine s_ (S_box rfl (.tmp rfl)) ?_
 rintro _ _ ⟨b1, rfl, rfl⟩
 refine s_ (S_alloc [.string ⟨#[]⟩, .int .i64 0, .int .i64 0] rfl (by kernel_rfl)) ?_
 rintro _ _ ⟨b2, rfl, rfl⟩
 refine s_ (S_alloc [.int .i64 0, .int .i64 0, .int .i64 0] rfl (by kernel_rfl)) ?_
 rintro _ _ ⟨b3, rfl, rfl⟩
 refine AL_nil (AC_seq (AC_region ?_))
 refine s_ (S_alloc [.int .i64 0, .int .i64 0, .int .i64 0] rfl (by kernel_rfl)) ?_
 rintro _ _ ⟨b4, rfl, rfl⟩
 refine AL_nil (AC_seq (AC_region ?_))
 refine ldN 3 3 ?_
 refine p_ (S_pcall rfl (AEvs.cons (.tmp rfl) (AEvs.cons (AEv.const _) AEvs.nil)) (ref04_Num_ok S r c hr hS 1099511627776 (by decide))) ?_
 generalize h1 : numR r c 1099511627776 = r1
 have q1 : r1.2.1 <:+ S := by rw [← h1]; exact (numR_suf _ _ _).trans hr
 refine mv rfl rfl rfl rfl ?_
 refine ex 0 ?_
 refine ex 1 ?_
 refine s_ (S_alloc [.string ⟨#[]⟩, .int .i64 0, .int .i64 0] rfl (by kernel_rfl)) ?_
 rintro _ _ ⟨b5, rfl, rfl⟩
 refine stW 0 ?_
 refine as_ rfl rfl rfl rfl ?_
 refine AL_nil (AC_seq (AC_region ?_))
 refine ldN 3 0 ?_
 refine stN 4 ?_
 refine AL_nil (AC_seq (AC_region ?_))
 refine mv rfl rfl rfl rfl ?_
 refine fl 0 ?_
 refine st1 1 ?_
 refine AL_nil (AC_seq (AC_region ?_))
 refine ldN 3 4 ?_
 refine p_ (S_pcall rfl (AEvs.cons (.tmp rfl) (AEvs.cons (AEv.const _) AEvs.nil)) (ref04_Num_ok S r1.2.1 r1.2.2 q1 hS 1099511627776 (by decide))) ?_
 generalize h2 : numR r1.2.1 r1.2.2 1099511627776 = r2
 have q2 : r2.2.1 <:+ S := by rw [← h2]; exact (numR_suf _ _ _).trans q1
 refine mv rfl rfl rfl rfl ?_
 refine ex 0 ?_
 refine ex 1 ?_
 refine s_ (S_alloc [.string ⟨#[]⟩, .int .i64 0, .int .i64 0] rfl (by kernel_rfl)) ?_
 rintro _ _ ⟨b7, rfl, rfl⟩
 refine stW 0 ?_
 refine as_ rfl rfl rfl rfl ?_
 refine AL_nil (AC_seq (AC_region ?_))
 refine ldN 3 0 ?_
 refine stN 5 ?_
 refine AL_nil (AC_seq (AC_region ?_))
 refine mv rfl rfl rfl rfl ?_
 refine fl 1 ?_
 refine st1 2 ?_
 refine AL_nil (AC_seq (AC_region ?_))
 refine ldN 3 5 ?_
 refine p_ (S_pcall rfl (AEvs.cons (.tmp rfl) (AEvs.cons (AEv.const _) AEvs.nil)) (ref04_Num_ok S r2.2.1 r2.2.2 q2 hS 1099511627776 (by decide))) ?_
 generalize h3 : numR r2.2.1 r2.2.2 1099511627776 = r3
 have q3 : r3.2.1 <:+ S := by rw [← h3]; exact (numR_suf _ _ _).trans q2
 refine mv rfl rfl rfl rfl ?_
 refine ex 0 ?_
 refine ex 1 ?_
 refine s_ (S_alloc [.string ⟨#[]⟩, .int .i64 0, .int .i64 0] rfl (by kernel_rfl)) ?_
 rintro _ _ ⟨b9, rfl, rfl⟩
 refine stW 0 ?_
 refine as_ rfl rfl rfl rfl ?_
 refine AL_nil (AC_seq (AC_region ?_))
 refine ldN 3 0 ?_
 refine stN 6 ?_
 refine AL_nil (AC_seq (AC_region ?_))
 refine mv rfl rfl rfl rfl ?_
 refine fl 2 ?_
 refine st1 3 ?_
 refine AL_nil ?_
 refine AC_seq ?_
 refine AC_plan (σ := [(0, 0), (1, 0), (2, 1), (3, 2)]) (by kernel_rfl) [(b1, Ob.cells (rdL S r3.2.1 r3.2.2)), (b4, Ob.cells [.int .i64 r1.1, .int .i64 r2.1, .int .i64 r3.1])] (by kernel_rfl) (fun r hr => by simp only [List.mem_cons, List.not_mem_nil, or_false] at hr; rcases hr with rfl | rfl <;> repeat (first | exact List.mem_cons_self | refine List.mem_cons_of_mem _ ?_)) ?_
 refine AG.f rfl rfl (fun st' hst => Q_p rfl (S_loadNM (m := 3) rfl (.tmp rfl) (hst _ (List.mem_of_getElem? (i := 0) rfl)) (by kernel_rfl) (by first | exact Nat.le_of_ble_eq_true rfl | (simp; omega) | simp))) ?_
 refine AG.f rfl rfl (fun st' hst => Q_p rfl (S_loadNM (m := 3) rfl (.tmp rfl) (hst _ (List.mem_of_getElem? (i := 1) rfl)) (by kernel_rfl) (by first | exact Nat.le_of_ble_eq_true rfl | (simp; omega) | simp))) ?_
 refine AG.s rfl rfl rfl (S_storeW 5 rfl (.tmp rfl) (.tmp rfl) rfl rfl rfl (by kernel_rfl)) ?_ ?_
 ·rintro _ _ ⟨rfl, rfl⟩ r hr; simp only [List.mem_cons, List.not_mem_nil, or_false] at hr; rcases hr with rfl | rfl <;> repeat (first | exact List.mem_cons_self | refine List.mem_cons_of_mem _ ?_)
 rintro _ _ ⟨rfl, rfl⟩
 refine AG.h rfl rfl rfl (S_storeW 4 rfl (.tmp rfl) (.tmp rfl) rfl rfl rfl (by kernel_rfl)) ?_
 rintro _ _ ⟨rfl, rfl⟩
 refine AG.nil ?_
 refine AC_ret ?_
 refine ret_outs st rfl (by decide) (OutsR.row 5 rfl rfl (by kernel_rfl) (OutsR.row 4 rfl rfl (by kernel_rfl) OutsR.nil)) (Sub.l (List.Sublist.cons _ (List.Sublist.cons _ (List.Sublist.cons _ (List.Sublist.cons _ (List.Sublist.cons _ (List.Sublist.cons _ (List.Sublist.cons _ (List.Sublist.refl _))))))))) (Conv.refl (Sub.l (List.Sublist.cons _ (List.Sublist.cons _ (List.Sublist.cons _ (List.Sublist.cons _ (List.Sublist.cons _ (List.Sublist.cons _ (List.Sublist.cons _ (List.Sublist.refl _))))))))) _) ⟨by subst h3 h2 h1; rfl, rfl⟩ (.inl rfl)
theorem ref07_TakeLabels_ok (S r : List UInt8) (c : Int) (hr : r <:+ S) (hS : S.length ≤ 1000000) : PCalls Tryz.prog 122 [rdR S (r) (c)] (.tup [rdR S ((labsP r c).2.1) ((labsP r c).2.2), .sl (labsV (labsP r c).1)]) := by
 intro st
 refine co 49 Tryz.func122 ?_
 have hn0 := numR_nonneg r c 4
 have hn1 := numR_le (s := r) (c := c) (most := 4)
 have hns : (numR r c 4).2.1 <:+ S := (numR_suf r c 4).trans hr
 refine AC_seq (AC_region ?_)
 refine s_ (S_box rfl (.tmp rfl)) ?_
 rintro _ _ ⟨b1, rfl, rfl⟩
 refine s_ (S_alloc [.string ⟨#[]⟩, .int .i64 0, .int .i64 0] rfl (by kernel_rfl)) ?_
 rintro _ _ ⟨b2, rfl, rfl⟩
 refine ac rfl rfl rfl ?_
 refine AL_nil (AC_seq (AC_region ?_))
 refine ac rfl rfl rfl ?_
 refine AL_nil (AC_seq (AC_region ?_))
 refine ldN 3 1 ?_
 refine p_ (S_pcall rfl (AEvs.cons (.tmp rfl) (AEvs.cons (AEv.const _) AEvs.nil)) (ref04_Num_ok S r c hr hS 4 (by decide))) ?_
 refine mv rfl rfl rfl rfl ?_
 refine ex 0 ?_
 refine ex 1 ?_
 refine stN 1 ?_
 refine as_ rfl rfl rfl rfl ?_
 refine AL_nil ?_
 refine AC_seq ?_
 refine AC_seq (AC_region ?_)
 refine ac rfl rfl rfl ?_
 refine AL_nil ?_
 refine AC_block ?_
 refine AC_loopK (G := Nat × List Lab × List UInt8 × Int × Own) [(1, _), (2, _), (3, _), (5, _)] (fun g => PIv labRd (numR r c 4).1.toNat (numR r c 4).2.1 (numR r c 4).2.2 g.1 g.2.1 g.2.2.1 g.2.2.2.1 ∧ g.2.2.2.2.ok (g.2.1.map labAV) ∧ g.2.2.1 <:+ S) (fun g => [(4, ownAV g.2.2.2.2 2 (g.2.1.map labAV)), (6, .int .i64 (g.1 : Int))]) (fun g => (b2, .cells [.S [], .int .i64 0, .int .i64 0]) :: (b1, .cells (rdL S g.2.2.1 g.2.2.2.1)) :: (ownSt g.2.2.2.2 140 2 ((g.2.1).map labAV) ++ st)) (fun g => (numR r c 4).1.toNat - g.1) ((0, [], (numR r c 4).2.1, (numR r c 4).2.2, .nil)) (⟨pi_start0 _ _ _, rfl, hns⟩) (Sub.l (List.Sublist.refl _)) (.cons rfl (Le.refl _) (.cons rfl (Le.refl _) (.cons rfl (Le.refl _) (.cons rfl (Le.refl _) .nil)))) (.cons rfl (by first | exact Le.refl _ | exact Le.nils | exact Le.row _ _ _ _ | exact Le.of_eq (by first | rfl | (simp; done) | (push_cast; rfl) | (simp; omega))) (.cons rfl (by first | exact Le.refl _ | exact Le.nils | exact Le.row _ _ _ _ | exact Le.of_eq (by first | rfl | (simp; done) | (push_cast; rfl) | (simp; omega))) .nil)) ?_
 rintro ⟨i, out, s', c', p⟩ ⟨hI, hq, hs⟩
 try dsimp only
 simp only [List.cons_append, List.nil_append]
 dsimp only at hI hq hs
 have hI1 := hI.1
 have hI2 := hI.2.1
 refine AC_seq ?_
 refine AC_seq (AC_region ?_)
 refine mv rfl rfl rfl rfl ?_
 refine mv rfl rfl rfl rfl ?_
 refine p_ (S_lss rfl (.tmp rfl) (.tmp rfl)) ?_
 refine mv rfl rfl rfl rfl ?_
 refine g_ (fun _ => fA 2) ?_
 refine g_ (fun _ => lA 1) ?_
 refine g_ (fun _ => S_eql rfl (AEv.cd (.tmp rfl)) (AEv.const _)) ?_
 refine an ?_
 refine AL_nil ?_
 refine AC_cond (.tmp rfl) (fun hb13 => ?_) (fun hb13 => ?_)
 ·try simp only [zA,zO,zN,zM,zP,zQ,zD,zF,gd] at hb13
  have hil : i < (numR r c 4).1.toNat := by omega
  obtain rfl : c' = 0 := by omega
  refine AC_skip ?_
  refine AC_seq ?_
  refine AC_block ?_
  refine AC_seq (AC_region ?_)
  refine s_ (S_alloc [.string ⟨#[]⟩, .string ⟨#[]⟩] rfl (by kernel_rfl)) ?_
  rintro _ _ ⟨b7, rfl, rfl⟩
  refine AL_nil (AC_seq (AC_region ?_))
  refine ldN 3 2 ?_
  refine p_ (S_pcall rfl (AEvs.cons (.tmp rfl) (AEvs.cons (AEv.const _) AEvs.nil)) (ref04_Text_ok S s' 0 hs hS 33 (by decide))) ?_
  generalize h1 : wtextR s' 0 33 = r1
  have q1 : r1.2.1 <:+ S := by rw [← h1]; exact (wtextR_suf _ _ _).trans hs
  refine mv rfl rfl rfl rfl ?_
  refine ex 0 ?_
  refine ex 1 ?_
  refine s_ (S_alloc [.string ⟨#[]⟩, .int .i64 0, .int .i64 0] rfl (by kernel_rfl)) ?_
  rintro _ _ ⟨b9, rfl, rfl⟩
  refine stW 0 ?_
  refine as_ rfl rfl rfl rfl ?_
  refine AL_nil (AC_seq (AC_region ?_))
  refine ldN 3 0 ?_
  refine stN 3 ?_
  refine AL_nil (AC_seq (AC_region ?_))
  refine mv rfl rfl rfl rfl ?_
  refine fl 0 ?_
  refine st1 1 ?_
  refine AL_nil (AC_seq (AC_region ?_))
  refine ldN 3 3 ?_
  refine p_ (S_pcall rfl (AEvs.cons (.tmp rfl) (AEvs.cons (AEv.const _) AEvs.nil)) (ref04_Text_ok S r1.2.1 r1.2.2 q1 hS 16 (by decide))) ?_
  generalize h2 : wtextR r1.2.1 r1.2.2 16 = r2
  have q2 : r2.2.1 <:+ S := by rw [← h2]; exact (wtextR_suf _ _ _).trans q1
  refine mv rfl rfl rfl rfl ?_
  refine ex 0 ?_
  refine ex 1 ?_
  refine s_ (S_alloc [.string ⟨#[]⟩, .int .i64 0, .int .i64 0] rfl (by kernel_rfl)) ?_
  rintro _ _ ⟨b10, rfl, rfl⟩
  refine stW 0 ?_
  refine as_ rfl rfl rfl rfl ?_
  refine AL_nil (AC_seq (AC_region ?_))
  refine ldN 3 0 ?_
  refine stN 4 ?_
  refine AL_nil (AC_seq (AC_region ?_))
  refine mv rfl rfl rfl rfl ?_
  refine fl 1 ?_
  refine st1 2 ?_
  refine AL_nil ?_
  refine AC_region ?_
  refine mv rfl rfl rfl rfl ?_
  refine ldN 2 2 ?_
  refine p_ (S_buildSlice (e := 140) 2 rfl (AEvs.cons (.tmp rfl) AEvs.nil) rfl (by kernel_rfl) (by kernel_rfl) (by intro y hy; simp only [List.mem_cons, List.not_mem_nil, or_false] at hy; rcases hy with rfl <;> exact ⟨rfl, rfl⟩) (by decide) (by decide) (by decide)) ?_
  refine s_ (S_appendM (f := labAV) (l := out) (l2 := [(r1.1, r2.1)]) (e := 140) (size := 2) (bytes := 32) (p := p) ([_, _, _, _, _]) (st) rfl (.tmp rfl) (.tmp rfl) rfl hq (by kernel_rfl) (by simp) (fun _ => ⟨rfl, rfl⟩) (by simp only [List.length_singleton]; omega) (by simp only [List.length_singleton]; omega)) ?_
  rintro _ _ ⟨b8, k8, cap8, hx8, rfl, rfl⟩
  refine as_ rfl rfl rfl rfl ?_
  refine AL_nil ?_
  refine AC_region ?_
  refine mv rfl rfl rfl rfl ?_
  refine p_ (S_addI rfl (.tmp rfl) (AEv.const _) (by omega) (by omega)) ?_
  refine as_ rfl rfl rfl rfl ?_
  refine AL_nil ?_
  have hfin := labP_eq h1 h2
  refine ⟨(i + 1, out ++ [(r1.1, r2.1)], r2.2.1, r2.2.2, .row b8 k8 cap8), ⟨?_, hx8, q2⟩, by dsimp only; omega, (Sub.l (List.Sublist.cons _ (List.Sublist.cons _ (List.Sublist.cons _ (List.Sublist.refl _))))), (.cons rfl (by first | exact Le.refl _ | exact Le.nils | exact Le.row _ _ _ _ | exact Le.of_eq (by first | rfl | (simp; done) | (push_cast; rfl) | (simp; omega))) (.cons rfl (by first | exact Le.refl _ | exact Le.nils | exact Le.row _ _ _ _ | exact Le.of_eq (by first | rfl | (simp; done) | (push_cast; rfl) | (simp; omega))) .nil)), (.cons rfl (Le.refl _) (.cons rfl (Le.refl _) (.cons rfl (Le.refl _) (.cons rfl (Le.refl _) .nil))))⟩
  have h9 := pi_more hI hil
  rw [hfin] at h9
  exact h9
 try simp only [zA,zO,zN,zM,zP,zQ,zD,zF,gd] at hb13
 have hx : labsP r c = (out, s', c') := pi_stop hI (by omega)
 refine AC_exit ?_
 refine AC_seq (AC_region ?_)
 refine ldN 3 1 ?_
 refine mv rfl rfl rfl rfl ?_
 refine stW 0 ?_
 refine as_ rfl rfl rfl rfl ?_
 refine AL_nil (AC_ret ?_)
 refine ret_outs st rfl (by decide) (OutsR.row 0 rfl rfl (by kernel_rfl) (OutsR.tmp rfl OutsR.nil)) (Sub.l ((List.sublist_append_right _ _).cons _ |>.cons _)) (Conv.le (Sub.l ((List.sublist_append_right _ _).cons _ |>.cons _)) (Les.tup (.cons (Le.refl _) (.cons (Le_own hq) .nil)))) ⟨by rw [hx]; rfl, rfl⟩ (.inl rfl)
theorem ref07_takes_ok (S r : List UInt8) (c : Int) (hr : r <:+ S) (hS : S.length ≤ 1000000) (most : Int) (h0 : 0 ≤ most) (h1m : most ≤ 1000) : PCalls Tryz.prog 123 [rdR S (r) (c), .int .i64 most] (.tup [rdR S ((pallR ctrP most r c).2.1) ((pallR ctrP most r c).2.2), .sl (ctrsV (pallR ctrP most r c).1)]) := by
 intro st
 refine co 127 Tryz.func123 ?_
 have hn0 := numR_nonneg r c most
 have hn1 := numR_le (s := r) (c := c) (most := most)
 have hns : (numR r c most).2.1 <:+ S := (numR_suf r c most).trans hr
 refine AC_seq (AC_region ?_)
 refine s_ (S_box rfl (.tmp rfl)) ?_
 rintro _ _ ⟨b2, rfl, rfl⟩
 refine s_ (S_alloc [.string ⟨#[]⟩, .int .i64 0, .int .i64 0] rfl (by kernel_rfl)) ?_
 rintro _ _ ⟨b4, rfl, rfl⟩
 refine ac rfl rfl rfl ?_
 refine AL_nil (AC_seq (AC_region ?_))
 refine ac rfl rfl rfl ?_
 refine AL_nil (AC_seq (AC_region ?_))
 refine ldN 3 1 ?_
 refine mv rfl rfl rfl rfl ?_
 refine p_ (S_pcall rfl (AEvs.cons (.tmp rfl) (AEvs.cons (.tmp rfl) AEvs.nil)) (ref04_Num_ok S r c hr hS most ⟨by omega, by omega⟩)) ?_
 refine mv rfl rfl rfl rfl ?_
 refine ex 0 ?_
 refine ex 1 ?_
 refine stN 1 ?_
 refine as_ rfl rfl rfl rfl ?_
 refine AL_nil ?_
 refine AC_seq ?_
 refine AC_seq (AC_region ?_)
 refine ac rfl rfl rfl ?_
 refine AL_nil ?_
 refine AC_block ?_
 refine AC_loopK (G := Nat × List Ctr × List UInt8 × Int × Own) [(2, _), (4, _), (5, _), (7, _)] (fun g => PIv ctrP (numR r c most).1.toNat (numR r c most).2.1 (numR r c most).2.2 g.1 g.2.1 g.2.2.1 g.2.2.2.1 ∧ g.2.2.2.2.ok (g.2.1.map ctrAV) ∧ g.2.2.1 <:+ S) (fun g => [(6, ownAV g.2.2.2.2 11 (g.2.1.map ctrAV)), (8, .int .i64 (g.1 : Int))]) (fun g => (b4, .cells [.S [], .int .i64 0, .int .i64 0]) :: (b2, .cells (rdL S g.2.2.1 g.2.2.2.1)) :: (ownSt g.2.2.2.2 150 11 ((g.2.1).map ctrAV) ++ st)) (fun g => (numR r c most).1.toNat - g.1) ((0, [], (numR r c most).2.1, (numR r c most).2.2, .nil)) (⟨pi_start0 _ _ _, rfl, hns⟩) (Sub.l (List.Sublist.refl _)) (.cons rfl (Le.refl _) (.cons rfl (Le.refl _) (.cons rfl (Le.refl _) (.cons rfl (Le.refl _) .nil)))) (.cons rfl (by first | exact Le.refl _ | exact Le.nils | exact Le.row _ _ _ _ | exact Le.of_eq (by first | rfl | (simp; done) | (push_cast; rfl) | (simp; omega))) (.cons rfl (by first | exact Le.refl _ | exact Le.nils | exact Le.row _ _ _ _ | exact Le.of_eq (by first | rfl | (simp; done) | (push_cast; rfl) | (simp; omega))) .nil)) ?_
 rintro ⟨i, out, s', c', p⟩ ⟨hI, hq, hs⟩
 try dsimp only
 simp only [List.cons_append, List.nil_append]
 dsimp only at hI hq hs
 have hI1 := hI.1
 have hI2 := hI.2.1
 refine AC_seq ?_
 refine AC_seq (AC_region ?_)
 refine mv rfl rfl rfl rfl ?_
 refine mv rfl rfl rfl rfl ?_
 refine p_ (S_lss rfl (.tmp rfl) (.tmp rfl)) ?_
 refine mv rfl rfl rfl rfl ?_
 refine g_ (fun _ => fA 2) ?_
 refine g_ (fun _ => lA 1) ?_
 refine g_ (fun _ => S_eql rfl (AEv.cd (.tmp rfl)) (AEv.const _)) ?_
 refine an ?_
 refine AL_nil ?_
 refine AC_cond (.tmp rfl) (fun hb13 => ?_) (fun hb13 => ?_)
 ·try simp only [zA,zO,zN,zM,zP,zQ,zD,zF,gd] at hb13
  have hil : i < (numR r c most).1.toNat := by omega
  obtain rfl : c' = 0 := by omega
  refine AC_skip ?_
  refine AC_seq ?_
  refine AC_block ?_
  refine AC_seq (AC_region ?_)
  refine s_ (S_alloc [.string ⟨#[]⟩, .string ⟨#[]⟩, .int .i64 0, .int .i64 0, .int .i64 0, .int .i64 0, .int .i64 0, .int .i64 0, .slice none 0 0, .int .i64 0, .int .i64 0] rfl (by kernel_rfl)) ?_
  rintro _ _ ⟨b9, rfl, rfl⟩
  refine AL_nil (AC_seq (AC_region ?_))
  refine ldN 3 2 ?_
  refine p_ (S_pcall rfl (AEvs.cons (.tmp rfl) (AEvs.cons (AEv.const _) AEvs.nil)) (ref04_Text_ok S s' 0 hs hS 16 (by decide))) ?_
  generalize h1 : wtextR s' 0 16 = r1
  have q1 : r1.2.1 <:+ S := by rw [← h1]; exact (wtextR_suf _ _ _).trans hs
  refine mv rfl rfl rfl rfl ?_
  refine ex 0 ?_
  refine ex 1 ?_
  refine s_ (S_alloc [.string ⟨#[]⟩, .int .i64 0, .int .i64 0] rfl (by kernel_rfl)) ?_
  rintro _ _ ⟨b10, rfl, rfl⟩
  refine stW 0 ?_
  refine as_ rfl rfl rfl rfl ?_
  refine AL_nil (AC_seq (AC_region ?_))
  refine ldN 3 0 ?_
  refine stN 3 ?_
  refine AL_nil (AC_seq (AC_region ?_))
  refine mv rfl rfl rfl rfl ?_
  refine fl 0 ?_
  refine st1 1 ?_
  refine AL_nil (AC_seq (AC_region ?_))
  refine ldN 3 3 ?_
  refine p_ (S_pcall rfl (AEvs.cons (.tmp rfl) (AEvs.cons (AEv.const _) AEvs.nil)) (ref04_Text_ok S r1.2.1 r1.2.2 q1 hS 33 (by decide))) ?_
  generalize h2 : wtextR r1.2.1 r1.2.2 33 = r2
  have q2 : r2.2.1 <:+ S := by rw [← h2]; exact (wtextR_suf _ _ _).trans q1
  refine mv rfl rfl rfl rfl ?_
  refine ex 0 ?_
  refine ex 1 ?_
  refine s_ (S_alloc [.string ⟨#[]⟩, .int .i64 0, .int .i64 0] rfl (by kernel_rfl)) ?_
  rintro _ _ ⟨b12, rfl, rfl⟩
  refine stW 0 ?_
  refine as_ rfl rfl rfl rfl ?_
  refine AL_nil (AC_seq (AC_region ?_))
  refine ldN 3 0 ?_
  refine stN 4 ?_
  refine AL_nil (AC_seq (AC_region ?_))
  refine mv rfl rfl rfl rfl ?_
  refine fl 1 ?_
  refine st1 2 ?_
  refine AL_nil (AC_seq (AC_region ?_))
  refine ldN 3 4 ?_
  refine p_ (S_pcall rfl (AEvs.cons (.tmp rfl) AEvs.nil) (ref07_three_ok S r2.2.1 r2.2.2 q2 hS)) ?_
  generalize h3 : triRd r2.2.1 r2.2.2 = r3
  have q3 : r3.2.1 <:+ S := by rw [← h3]; exact (tri_suf _ _).trans q2
  refine mv rfl rfl rfl rfl ?_
  refine ex 0 ?_
  refine ex 1 ?_
  refine s_ (S_alloc [.string ⟨#[]⟩, .int .i64 0, .int .i64 0] rfl (by kernel_rfl)) ?_
  rintro _ _ ⟨b14, rfl, rfl⟩
  refine s_ (S_alloc [.int .i64 0, .int .i64 0, .int .i64 0] rfl (by kernel_rfl)) ?_
  rintro _ _ ⟨b15, rfl, rfl⟩
  refine stW 1 ?_
  refine stW 0 ?_
  refine AL_nil (AC_seq (AC_region ?_))
  refine ldN 3 1 ?_
  refine stN 6 ?_
  refine AL_nil (AC_seq (AC_region ?_))
  refine ldN 3 0 ?_
  refine fl 2 ?_
  refine stN 4 ?_
  refine AL_nil (AC_seq (AC_region ?_))
  refine ldN 3 6 ?_
  refine p_ (S_pcall rfl (AEvs.cons (.tmp rfl) AEvs.nil) (ref07_three_ok S r3.2.1 r3.2.2 q3 hS)) ?_
  generalize h4 : triRd r3.2.1 r3.2.2 = r4
  have q4 : r4.2.1 <:+ S := by rw [← h4]; exact (tri_suf _ _).trans q3
  refine mv rfl rfl rfl rfl ?_
  refine ex 0 ?_
  refine ex 1 ?_
  refine s_ (S_alloc [.string ⟨#[]⟩, .int .i64 0, .int .i64 0] rfl (by kernel_rfl)) ?_
  rintro _ _ ⟨b16, rfl, rfl⟩
  refine s_ (S_alloc [.int .i64 0, .int .i64 0, .int .i64 0] rfl (by kernel_rfl)) ?_
  rintro _ _ ⟨b17, rfl, rfl⟩
  refine stW 1 ?_
  refine stW 0 ?_
  refine AL_nil (AC_seq (AC_region ?_))
  refine ldN 3 1 ?_
  refine stN 8 ?_
  refine AL_nil (AC_seq (AC_region ?_))
  refine ldN 3 0 ?_
  refine fl 5 ?_
  refine stN 6 ?_
  refine AL_nil (AC_seq (AC_region ?_))
  refine ldN 3 8 ?_
  refine p_ (S_pcall rfl (AEvs.cons (.tmp rfl) (AEvs.cons (AEv.const _) AEvs.nil)) (ref04_Num_ok S r4.2.1 r4.2.2 q4 hS 3 (by decide))) ?_
  generalize h5 : numR r4.2.1 r4.2.2 3 = r5
  have q5 : r5.2.1 <:+ S := by rw [← h5]; exact (numR_suf _ _ _).trans q4
  have hp0 : 0 ≤ r5.1 := by rw [← h5]; exact numR_nonneg _ _ _
  have hp1 : r5.1 ≤ 3 := by rw [← h5]; have := numR_le (s := r4.2.1) (c := r4.2.2) (most := 3); omega
  refine mv rfl rfl rfl rfl ?_
  refine ex 0 ?_
  refine ex 1 ?_
  refine s_ (S_alloc [.string ⟨#[]⟩, .int .i64 0, .int .i64 0] rfl (by kernel_rfl)) ?_
  rintro _ _ ⟨b18, rfl, rfl⟩
  refine stW 0 ?_
  refine as_ rfl rfl rfl rfl ?_
  refine AL_nil (AC_seq (AC_region ?_))
  refine ldN 3 0 ?_
  refine stN 9 ?_
  refine AL_nil ?_
  refine AC_seq ?_
  refine AC_seq (AC_region ?_)
  refine ac rfl rfl rfl ?_
  refine AL_nil ?_
  refine AC_block ?_
  refine AC_loopK (G := Nat × List Int × List UInt8 × Int × Own) [(2, _), (4, _), (5, _), (6, _), (7, _), (8, _), (9, _), (19, _)] (fun g => PIv (numRd 65535) r5.1.toNat r5.2.1 r5.2.2 g.1 g.2.1 g.2.2.1 g.2.2.2.1 ∧ g.2.2.2.2.ok (intsV g.2.1) ∧ g.2.2.1 <:+ S) (fun g => [(20, .int .i64 (g.1 : Int))]) (fun g => (b9, .cells [.S r1.1, .S r2.1, .int .i64 r3.1.1, .int .i64 r3.1.2.1, .int .i64 r3.1.2.2, .int .i64 r4.1.1, .int .i64 r4.1.2.1, .int .i64 r4.1.2.2, ownAV g.2.2.2.2 1 (intsV g.2.1), .int .i64 0, .int .i64 0]) :: (b4, .cells [.S [], .int .i64 0, .int .i64 0]) :: (b2, .cells (rdL S g.2.2.1 g.2.2.2.1)) :: (ownSt g.2.2.2.2 3 1 (intsV g.2.1) ++ (ownSt p 150 11 ((out).map ctrAV) ++ st))) (fun g => r5.1.toNat - g.1) ((0, [], r5.2.1, r5.2.2, .nil)) (⟨pi_start0 _ _ _, rfl, q5⟩) (Sub.l (List.Sublist.cons _ (List.Sublist.cons _ (List.Sublist.cons _ (List.Sublist.cons _ (List.Sublist.cons _ (List.Sublist.cons _ (List.Sublist.cons _ (List.Sublist.refl _))))))))) (.cons rfl (Le.refl _) (.cons rfl (Le.refl _) (.cons rfl (Le.refl _) (.cons rfl (Le.refl _) (.cons rfl (Le.refl _) (.cons rfl (Le.refl _) (.cons rfl (Le.refl _) (.cons rfl (Le.refl _) .nil)))))))) (.cons rfl (by first | exact Le.refl _ | exact Le.nils | exact Le.row _ _ _ _ | exact Le.of_eq (by first | rfl | (simp; done) | (push_cast; rfl) | (simp; omega))) .nil) ?_
  rintro ⟨j, outp, s2, c2, q⟩ ⟨hI9, hq9, hs2⟩
  try dsimp only
  simp only [List.cons_append, List.nil_append]
  dsimp only at hI9 hq9 hs2
  have hI91 := hI9.1
  have hI92 := hI9.2.1
  refine AC_seq ?_
  refine AC_seq (AC_region ?_)
  refine mv rfl rfl rfl rfl ?_
  refine mv rfl rfl rfl rfl ?_
  refine p_ (S_lss rfl (.tmp rfl) (.tmp rfl)) ?_
  refine mv rfl rfl rfl rfl ?_
  refine g_ (fun _ => fA 2) ?_
  refine g_ (fun _ => lA 2) ?_
  refine g_ (fun _ => S_eql rfl (AEv.cd (.tmp rfl)) (AEv.const _)) ?_
  refine an ?_
  refine AL_nil ?_
  refine AC_cond (.tmp rfl) (fun hb32 => ?_) (fun hb32 => ?_)
  ·try simp only [zA,zO,zN,zM,zP,zQ,zD,zF,gd] at hb32
   have hjl : j < r5.1.toNat := by omega
   obtain rfl : c2 = 0 := by omega
   refine AC_skip ?_
   refine AC_seq ?_
   refine AC_block ?_
   refine AC_seq (AC_region ?_)
   refine ldN 3 2 ?_
   refine p_ (S_pcall rfl (AEvs.cons (.tmp rfl) (AEvs.cons (AEv.const _) AEvs.nil)) (ref04_Num_ok S s2 0 hs2 hS 65535 (by decide))) ?_
   refine mv rfl rfl rfl rfl ?_
   refine ex 0 ?_
   refine ex 1 ?_
   refine s_ (S_alloc [.string ⟨#[]⟩, .int .i64 0, .int .i64 0] rfl (by kernel_rfl)) ?_
   rintro _ _ ⟨b21, rfl, rfl⟩
   refine stW 0 ?_
   refine as_ rfl rfl rfl rfl ?_
   refine AL_nil (AC_seq (AC_region ?_))
   refine ldN 3 0 ?_
   refine stN 3 ?_
   refine AL_nil ?_
   refine AC_region ?_
   refine fl 8 ?_
   refine ld 1 ?_
   refine mv rfl rfl rfl rfl ?_
   refine p_ (S_buildSlice (e := 3) 1 rfl (AEvs.cons (.tmp rfl) AEvs.nil) rfl (by kernel_rfl) (by kernel_rfl) (by intro y hy; simp only [List.mem_cons, List.not_mem_nil, or_false] at hy; rcases hy with rfl <;> exact ⟨rfl, rfl⟩) (by decide) (by decide) (by decide)) ?_
   refine s_ (S_appendM (f := (fun n : Int => AV.int .i64 n)) (l := outp) (l2 := [(numR s2 0 65535).1]) (e := 3) (size := 1) (bytes := 8) (p := q) ([_, _, _, _]) (ownSt p 150 11 ((out).map ctrAV) ++ st) rfl (.tmp rfl) (.tmp rfl) rfl hq9 (by kernel_rfl) (by simp) (fun _ => ⟨rfl, rfl⟩) (by simp only [List.length_singleton]; omega) (by simp only [List.length_singleton]; omega)) ?_
   rintro _ _ ⟨b8, k8, cap8, hx8, rfl, rfl⟩
   refine fl 8 ?_
   refine s_ (S_store 1 rfl (.tmp rfl) (.tmp rfl) rfl (by first | exact Nat.le_of_ble_eq_true rfl | simp) (by first | rfl | exact ownAV_one _ _ _) (by kernel_rfl)) ?_
   rintro _ _ ⟨rfl, rfl⟩
   refine AL_nil ?_
   refine AC_region ?_
   refine mv rfl rfl rfl rfl ?_
   refine p_ (S_addI rfl (.tmp rfl) (AEv.const _) (by omega) (by omega)) ?_
   refine as_ rfl rfl rfl rfl ?_
   refine AL_nil ?_
   refine ⟨(j + 1, outp ++ [(numR s2 0 65535).1], (numR s2 0 65535).2.1, (numR s2 0 65535).2.2, .row b8 k8 cap8), ⟨pi_more hI9 hjl, hx8, (numR_suf _ _ _).trans hs2⟩, by dsimp only; omega, (Sub.l (List.Sublist.cons _ (List.Sublist.refl _))), (.cons rfl (by first | exact Le.refl _ | exact Le.nils | exact Le.row _ _ _ _ | exact Le.of_eq (by first | rfl | (simp; done) | (push_cast; rfl) | (simp; omega))) .nil), (.cons rfl (Le.refl _) (.cons rfl (Le.refl _) (.cons rfl (Le.refl _) (.cons rfl (Le.refl _) (.cons rfl (Le.refl _) (.cons rfl (Le.refl _) (.cons rfl (Le.refl _) (.cons rfl (Le.refl _) .nil))))))))⟩
  try simp only [zA,zO,zN,zM,zP,zQ,zD,zF,gd] at hb32
  have hpp := pi_stop hI9 (by omega)
  refine AC_exit ?_
  refine AC_seq (AC_region ?_)
  refine ldN 3 2 ?_
  refine p_ (S_pcall rfl (AEvs.cons (.tmp rfl) (AEvs.cons (AEv.const _) AEvs.nil)) (ref04_Num_ok S s2 c2 hs2 hS 1000 (by decide))) ?_
  generalize h6 : numR s2 c2 1000 = r6
  have q6 : r6.2.1 <:+ S := by rw [← h6]; exact (numR_suf _ _ _).trans hs2
  refine mv rfl rfl rfl rfl ?_
  refine ex 0 ?_
  refine ex 1 ?_
  refine s_ (S_alloc [.string ⟨#[]⟩, .int .i64 0, .int .i64 0] rfl (by kernel_rfl)) ?_
  rintro _ _ ⟨b23, rfl, rfl⟩
  refine stW 0 ?_
  refine as_ rfl rfl rfl rfl ?_
  refine AL_nil (AC_seq (AC_region ?_))
  refine ldN 3 0 ?_
  refine stN 3 ?_
  refine AL_nil (AC_seq (AC_region ?_))
  refine mv rfl rfl rfl rfl ?_
  refine fl 9 ?_
  refine fl 0 ?_
  refine st1 1 ?_
  refine AL_nil (AC_seq (AC_region ?_))
  refine ldN 3 3 ?_
  refine p_ (S_pcall rfl (AEvs.cons (.tmp rfl) (AEvs.cons (AEv.const _) AEvs.nil)) (ref04_Num_ok S r6.2.1 r6.2.2 q6 hS 10 (by decide))) ?_
  generalize h7 : numR r6.2.1 r6.2.2 10 = r7
  have q7 : r7.2.1 <:+ S := by rw [← h7]; exact (numR_suf _ _ _).trans q6
  refine mv rfl rfl rfl rfl ?_
  refine ex 0 ?_
  refine ex 1 ?_
  refine s_ (S_alloc [.string ⟨#[]⟩, .int .i64 0, .int .i64 0] rfl (by kernel_rfl)) ?_
  rintro _ _ ⟨b25, rfl, rfl⟩
  refine stW 0 ?_
  refine as_ rfl rfl rfl rfl ?_
  refine AL_nil (AC_seq (AC_region ?_))
  refine ldN 3 0 ?_
  refine stN 4 ?_
  refine AL_nil (AC_seq (AC_region ?_))
  refine mv rfl rfl rfl rfl ?_
  refine fl 9 ?_
  refine fl 1 ?_
  refine st1 2 ?_
  refine AL_nil ?_
  refine AC_region ?_
  refine mv rfl rfl rfl rfl ?_
  refine p_ ((S_loadN (m := 11) 2 rfl (.tmp rfl) rfl (by kernel_rfl) (by exact Nat.le_of_ble_eq_true rfl)).leV (V' := ctrAV (⟨r1.1, r2.1, r3.1, r4.1, outp, (r6.1, r7.1)⟩ : Ctr)) (by exact (Les.agg (.cons (Le.refl _) (.cons (Le.refl _) (.cons (Le.refl _) (.cons (Le.refl _) (.cons (Le.refl _) (.cons (Le.refl _) (.cons (Le.refl _) (.cons (Le.refl _) (.cons (Le_own hq9) (.cons (Le.refl _) (.cons (Le.refl _) .nil)))))))))))))) ?_
  refine p_ (S_buildSlice (e := 150) 11 rfl (AEvs.cons (.tmp rfl) AEvs.nil) rfl (by kernel_rfl) (by kernel_rfl) (by intro y hy; simp only [List.mem_cons, List.not_mem_nil, or_false] at hy; rcases hy with rfl <;> exact ⟨rfl, rfl⟩) (by decide) (by decide) (by decide)) ?_
  refine s_ (S_appendM (f := ctrAV) (l := out) (l2 := [(⟨r1.1, r2.1, r3.1, r4.1, outp, (r6.1, r7.1)⟩ : Ctr)]) (e := 150) (size := 11) (bytes := 120) (p := p) ([_, _, _, _, _] ++ ownSt q 3 1 (intsV outp)) (st) rfl (.tmp rfl) (.tmp rfl) (List.append_assoc [_, _, _, _, _] _ _).symm hq (by kernel_rfl) (by simp) (fun _ => ⟨rfl, rfl⟩) (by simp only [List.length_singleton]; omega) (by simp only [List.length_singleton]; omega)) ?_
  rintro _ _ ⟨b8, k8, cap8, hx8, rfl, rfl⟩
  refine as_ rfl rfl rfl rfl ?_
  refine AL_nil ?_
  refine AC_region ?_
  refine mv rfl rfl rfl rfl ?_
  refine p_ (S_addI rfl (.tmp rfl) (AEv.const _) (by omega) (by omega)) ?_
  refine as_ rfl rfl rfl rfl ?_
  refine AL_nil ?_
  have hfin := ctrP_eq h1 h2 h3 h4 h5 hpp h6 h7
  refine ⟨(i + 1, out ++ [(⟨r1.1, r2.1, r3.1, r4.1, outp, (r6.1, r7.1)⟩ : Ctr)], r7.2.1, r7.2.2, .row b8 k8 cap8), ⟨?_, hx8, q7⟩, by dsimp only; omega, Sub.l (by rw [List.append_assoc]; exact .cons _ (.cons _ (.cons _ (.cons_cons _ (.cons_cons _ (List.sublist_append_right _ _)))))), (.cons rfl (by first | exact Le.refl _ | exact Le.nils | exact Le.row _ _ _ _ | exact Le.of_eq (by first | rfl | (simp; done) | (push_cast; rfl) | (simp; omega))) (.cons rfl (by first | exact Le.refl _ | exact Le.nils | exact Le.row _ _ _ _ | exact Le.of_eq (by first | rfl | (simp; done) | (push_cast; rfl) | (simp; omega))) .nil)), (.cons rfl (Le.refl _) (.cons rfl (Le.refl _) (.cons rfl (Le.refl _) (.cons rfl (Le.refl _) .nil))))⟩
  have h9 := pi_more hI hil
  rw [hfin] at h9
  exact h9
 try simp only [zA,zO,zN,zM,zP,zQ,zD,zF,gd] at hb13
 have hx : pallR ctrP most r c = (out, s', c') := pi_stop hI (by omega)
 refine AC_exit ?_
 refine AC_seq (AC_region ?_)
 refine ldN 3 1 ?_
 refine mv rfl rfl rfl rfl ?_
 refine stW 0 ?_
 refine as_ rfl rfl rfl rfl ?_
 refine AL_nil (AC_ret ?_)
 refine ret_outs st rfl (by decide) (OutsR.row 0 rfl rfl (by kernel_rfl) (OutsR.tmp rfl OutsR.nil)) (Sub.l ((List.sublist_append_right _ _).cons _ |>.cons _)) (Conv.le (Sub.l ((List.sublist_append_right _ _).cons _ |>.cons _)) (Les.tup (.cons (Le.refl _) (.cons (Le_own hq) .nil)))) ⟨by rw [hx]; rfl, rfl⟩ (.inl rfl)
set_option maxHeartbeats 4000000 in
theorem ref07_Take_ok (S r : List UInt8) (c : Int) (hr : r <:+ S) (hS : S.length ≤ 1000000) : PCalls Tryz.prog 91 [rdR S (r) (c)] (.tup [rdR S ((spcP r c).2.1) ((spcP r c).2.2), spcAV (spcP r c).1]) := by
 intro st
 refine co 77 Tryz.func91 ?_
 refine AC_seq (AC_region ?_)
 refine s_ (S_box rfl (.tmp rfl)) ?_
 rintro _ _ ⟨b1, rfl, rfl⟩
 refine s_ (S_alloc [.string ⟨#[]⟩, .int .i64 0, .int .i64 0] rfl (by kernel_rfl)) ?_
 rintro _ _ ⟨b2, rfl, rfl⟩
 refine s_ (S_alloc [.string ⟨#[]⟩, .slice none 0 0, .slice none 0 0, .slice none 0 0, .int .i64 0, .int .i64 0, .int .i64 0] rfl (by kernel_rfl)) ?_
 rintro _ _ ⟨b3, rfl, rfl⟩
 refine AL_nil (AC_seq (AC_region ?_))
 refine s_ (S_alloc [.string ⟨#[]⟩, .slice none 0 0, .slice none 0 0, .slice none 0 0, .int .i64 0, .int .i64 0, .int .i64 0] rfl (by kernel_rfl)) ?_
 rintro _ _ ⟨b4, rfl, rfl⟩
 refine AL_nil (AC_seq (AC_region ?_))
 refine ldN 3 3 ?_
 refine p_ (S_pcall rfl (AEvs.cons (.tmp rfl) (AEvs.cons (AEv.const _) AEvs.nil)) (ref04_Text_ok S r c hr hS 16 (by decide))) ?_
 generalize h1 : wtextR r c 16 = r1
 have q1 : r1.2.1 <:+ S := by rw [← h1]; exact (wtextR_suf _ _ _).trans hr
 refine mv rfl rfl rfl rfl ?_
 refine ex 0 ?_
 refine ex 1 ?_
 refine s_ (S_alloc [.string ⟨#[]⟩, .int .i64 0, .int .i64 0] rfl (by kernel_rfl)) ?_
 rintro _ _ ⟨b5, rfl, rfl⟩
 refine stW 0 ?_
 refine as_ rfl rfl rfl rfl ?_
 refine AL_nil (AC_seq (AC_region ?_))
 refine ldN 3 0 ?_
 refine stN 4 ?_
 refine AL_nil (AC_seq (AC_region ?_))
 refine mv rfl rfl rfl rfl ?_
 refine fl 0 ?_
 refine st1 1 ?_
 refine AL_nil (AC_seq (AC_region ?_))
 refine ldN 3 4 ?_
 refine p_ (S_pcall rfl (AEvs.cons (.tmp rfl) AEvs.nil) (ref07_TakeLabels_ok S r1.2.1 r1.2.2 q1 hS)) ?_
 generalize h2 : labsP r1.2.1 r1.2.2 = r2
 have q2 : r2.2.1 <:+ S := by rw [← h2]; exact (pall_suf lab_suf 4 _ _).trans q1
 refine mv rfl rfl rfl rfl ?_
 refine ex 0 ?_
 refine ex 1 ?_
 refine s_ (S_alloc [.string ⟨#[]⟩, .int .i64 0, .int .i64 0] rfl (by kernel_rfl)) ?_
 rintro _ _ ⟨b7, rfl, rfl⟩
 refine stW 0 ?_
 refine as_ rfl rfl rfl rfl ?_
 refine AL_nil (AC_seq (AC_region ?_))
 refine ldN 3 0 ?_
 refine stN 5 ?_
 refine AL_nil (AC_seq (AC_region ?_))
 refine mv rfl rfl rfl rfl ?_
 refine fl 1 ?_
 refine st1 2 ?_
 refine AL_nil (AC_seq (AC_region ?_))
 refine ldN 3 5 ?_
 refine p_ (S_pcall rfl (AEvs.cons (.tmp rfl) (AEvs.cons (AEv.const _) AEvs.nil)) (ref07_takes_ok S r2.2.1 r2.2.2 q2 hS 3 (by decide) (by decide))) ?_
 generalize h3 : pallR ctrP 3 r2.2.1 r2.2.2 = r3
 have q3 : r3.2.1 <:+ S := by rw [← h3]; exact (pall_suf ctrP_suf _ _ _).trans q2
 refine mv rfl rfl rfl rfl ?_
 refine ex 0 ?_
 refine ex 1 ?_
 refine s_ (S_alloc [.string ⟨#[]⟩, .int .i64 0, .int .i64 0] rfl (by kernel_rfl)) ?_
 rintro _ _ ⟨b9, rfl, rfl⟩
 refine stW 0 ?_
 refine as_ rfl rfl rfl rfl ?_
 refine AL_nil (AC_seq (AC_region ?_))
 refine ldN 3 0 ?_
 refine stN 6 ?_
 refine AL_nil (AC_seq (AC_region ?_))
 refine mv rfl rfl rfl rfl ?_
 refine fl 2 ?_
 refine st1 3 ?_
 refine AL_nil (AC_seq (AC_region ?_))
 refine ldN 3 6 ?_
 refine p_ (S_pcall rfl (AEvs.cons (.tmp rfl) (AEvs.cons (AEv.const _) AEvs.nil)) (ref07_takes_ok S r3.2.1 r3.2.2 q3 hS 4 (by decide) (by decide))) ?_
 generalize h4 : pallR ctrP 4 r3.2.1 r3.2.2 = r4
 have q4 : r4.2.1 <:+ S := by rw [← h4]; exact (pall_suf ctrP_suf _ _ _).trans q3
 refine mv rfl rfl rfl rfl ?_
 refine ex 0 ?_
 refine ex 1 ?_
 refine s_ (S_alloc [.string ⟨#[]⟩, .int .i64 0, .int .i64 0] rfl (by kernel_rfl)) ?_
 rintro _ _ ⟨b11, rfl, rfl⟩
 refine stW 0 ?_
 refine as_ rfl rfl rfl rfl ?_
 refine AL_nil (AC_seq (AC_region ?_))
 refine ldN 3 0 ?_
 refine stN 7 ?_
 refine AL_nil (AC_seq (AC_region ?_))
 refine mv rfl rfl rfl rfl ?_
 refine fl 3 ?_
 refine st1 4 ?_
 refine AL_nil (AC_seq (AC_region ?_))
 refine ldN 3 7 ?_
 refine p_ (S_pcall rfl (AEvs.cons (.tmp rfl) (AEvs.cons (AEv.const _) AEvs.nil)) (ref04_Num_ok S r4.2.1 r4.2.2 q4 hS 3 (by decide))) ?_
 generalize h5 : numR r4.2.1 r4.2.2 3 = r5
 have q5 : r5.2.1 <:+ S := by rw [← h5]; exact (numR_suf _ _ _).trans q4
 refine mv rfl rfl rfl rfl ?_
 refine ex 0 ?_
 refine ex 1 ?_
 refine s_ (S_alloc [.string ⟨#[]⟩, .int .i64 0, .int .i64 0] rfl (by kernel_rfl)) ?_
 rintro _ _ ⟨b13, rfl, rfl⟩
 refine stW 0 ?_
 refine as_ rfl rfl rfl rfl ?_
 refine AL_nil (AC_seq (AC_region ?_))
 refine ldN 3 0 ?_
 refine stN 8 ?_
 refine AL_nil (AC_seq (AC_region ?_))
 refine mv rfl rfl rfl rfl ?_
 refine fl 4 ?_
 refine st1 5 ?_
 refine AL_nil (AC_seq (AC_region ?_))
 refine ldN 3 8 ?_
 refine p_ (S_pcall rfl (AEvs.cons (.tmp rfl) (AEvs.cons (AEv.const _) AEvs.nil)) (ref04_Num_ok S r5.2.1 r5.2.2 q5 hS 1000 (by decide))) ?_
 generalize h6 : numR r5.2.1 r5.2.2 1000 = r6
 have q6 : r6.2.1 <:+ S := by rw [← h6]; exact (numR_suf _ _ _).trans q5
 refine mv rfl rfl rfl rfl ?_
 refine ex 0 ?_
 refine ex 1 ?_
 refine s_ (S_alloc [.string ⟨#[]⟩, .int .i64 0, .int .i64 0] rfl (by kernel_rfl)) ?_
 rintro _ _ ⟨b15, rfl, rfl⟩
 refine stW 0 ?_
 refine as_ rfl rfl rfl rfl ?_
 refine AL_nil (AC_seq (AC_region ?_))
 refine ldN 3 0 ?_
 refine stN 9 ?_
 refine AL_nil (AC_seq (AC_region ?_))
 refine mv rfl rfl rfl rfl ?_
 refine fl 5 ?_
 refine st1 6 ?_
 refine AL_nil (AC_seq (AC_region ?_))
 refine ldN 3 9 ?_
 refine p_ (S_pcall rfl (AEvs.cons (.tmp rfl) (AEvs.cons (AEv.const _) AEvs.nil)) (ref04_Num_ok S r6.2.1 r6.2.2 q6 hS 10 (by decide))) ?_
 generalize h7 : numR r6.2.1 r6.2.2 10 = r7
 have q7 : r7.2.1 <:+ S := by rw [← h7]; exact (numR_suf _ _ _).trans q6
 refine mv rfl rfl rfl rfl ?_
 refine ex 0 ?_
 refine ex 1 ?_
 refine s_ (S_alloc [.string ⟨#[]⟩, .int .i64 0, .int .i64 0] rfl (by kernel_rfl)) ?_
 rintro _ _ ⟨b17, rfl, rfl⟩
 refine stW 0 ?_
 refine as_ rfl rfl rfl rfl ?_
 refine AL_nil (AC_seq (AC_region ?_))
 refine ldN 3 0 ?_
 refine stN 10 ?_
 refine AL_nil (AC_seq (AC_region ?_))
 refine mv rfl rfl rfl rfl ?_
 refine fl 6 ?_
 refine st1 7 ?_
 refine AL_nil ?_
 refine AC_seq ?_
 refine AC_plan (σ := [(0, 0), (1, 0), (2, 1), (3, 2)]) (by kernel_rfl) [(b1, Ob.cells (rdL S r7.2.1 r7.2.2)), (b4, Ob.cells [.S r1.1, .sl (labsV r2.1), .sl (ctrsV r3.1), .sl (ctrsV r4.1), .int .i64 r5.1, .int .i64 r6.1, .int .i64 r7.1])] (by kernel_rfl) (fun r hr => by simp only [List.mem_cons, List.not_mem_nil, or_false] at hr; rcases hr with rfl | rfl <;> repeat (first | exact List.mem_cons_self | refine List.mem_cons_of_mem _ ?_)) ?_
 refine AG.f rfl rfl (fun st' hst => Q_p rfl (S_loadNM (m := 3) rfl (.tmp rfl) (hst _ (List.mem_of_getElem? (i := 0) rfl)) (by kernel_rfl) (by first | exact Nat.le_of_ble_eq_true rfl | (simp; omega) | simp))) ?_
 refine AG.f rfl rfl (fun st' hst => Q_p rfl (S_loadNM (m := 7) rfl (.tmp rfl) (hst _ (List.mem_of_getElem? (i := 1) rfl)) (by kernel_rfl) (by first | exact Nat.le_of_ble_eq_true rfl | (simp; omega) | simp))) ?_
 refine AG.s rfl rfl rfl (S_storeW 9 rfl (.tmp rfl) (.tmp rfl) rfl rfl rfl (by kernel_rfl)) ?_ ?_
 ·rintro _ _ ⟨rfl, rfl⟩ r hr; simp only [List.mem_cons, List.not_mem_nil, or_false] at hr; rcases hr with rfl | rfl <;> repeat (first | exact List.mem_cons_self | refine List.mem_cons_of_mem _ ?_)
 rintro _ _ ⟨rfl, rfl⟩
 refine AG.h rfl rfl rfl (S_storeW 8 rfl (.tmp rfl) (.tmp rfl) rfl rfl rfl (by kernel_rfl)) ?_
 rintro _ _ ⟨rfl, rfl⟩
 refine AG.nil ?_
 refine AC_ret ?_
 refine ret_outs st rfl (by decide) (OutsR.row 9 rfl rfl (by kernel_rfl) (OutsR.row 8 rfl rfl (by kernel_rfl) OutsR.nil)) (Sub.l (List.Sublist.cons _ (List.Sublist.cons _ (List.Sublist.cons _ (List.Sublist.cons _ (List.Sublist.cons _ (List.Sublist.cons _ (List.Sublist.cons _ (List.Sublist.cons _ (List.Sublist.cons _ (List.Sublist.cons _ (List.Sublist.cons _ (List.Sublist.refl _))))))))))))) (Conv.refl (Sub.l (List.Sublist.cons _ (List.Sublist.cons _ (List.Sublist.cons _ (List.Sublist.cons _ (List.Sublist.cons _ (List.Sublist.cons _ (List.Sublist.cons _ (List.Sublist.cons _ (List.Sublist.cons _ (List.Sublist.cons _ (List.Sublist.cons _ (List.Sublist.refl _))))))))))))) _) ⟨by subst h7 h6 h5 h4 h3 h2 h1; rfl, rfl⟩ (.inl rfl)
end Go.Proofs.YtemmkkmpchphkaaGreatDoor

set_option maxRecDepth 100000
namespace Go.Proofs.YtemmkkmpchphkaaGreatDoor
open Go.AL Go.NumSpec
set_option maxHeartbeats 1000000 in
theorem ref06_one_ok (c : Ctr) (ahead : List Ctr) (init : Bool) (hn : c.name.length ≤ 1000000) (him : c.image.length ≤ 1000000) (hpc : c.ports.length ≤ 1000000) (ha : ahead.length ≤ 1000000) (hap : ∀ x ∈ ahead, x.ports.length ≤ 1000000) : PCalls Tryz.prog 139 [ctrAV c, .sl (ctrsV ahead), .bool init] (cpAV (ctrE (ahead.map Ctr.name) (ahead.flatMap Ctr.ports) c (if init = true then 0 else 3) (if init = true then 0 else 1000))) := by
 intro st
 refine co 175 Tryz.func139 ?_
 refine AC_seq (AC_region ?_)
 refine s_ (S_box rfl (.tmp rfl)) ?_
 rintro _ _ ⟨b3, rfl, rfl⟩
 refine ac rfl rfl rfl ?_
 refine p_ (S_assign rfl (AEv.S _)) ?_
 refine AL_nil ?_
 refine AC_seq ?_
 refine AC_seq (AC_region ?_)
 refine fl 0 ?_
 refine ld 0 ?_
 refine p_ (S_pcall rfl (AEvs.cons (.tmp rfl) AEvs.nil) (ref03_Name_ok c.name (by omega))) ?_
 refine p_ (S_not rfl (.tmp rfl)) ?_
 refine AL_nil ?_
 refine AC_cond (.tmp rfl) (fun hb2 => ?_) (fun hb2 => ?_)
 ·try simp only [zA,zO,zN,zM,zP,zQ,zD,zF,gd] at hb2
  have hx := one_1 (ps := (ahead.flatMap Ctr.ports)) (a := (if init = true then 0 else 3)) (b := (if init = true then 0 else 1000)) (nameE_bad (ns := (ahead.map Ctr.name)) (c := c) hb2)
  refine AC_seq (AC_region ?_)
  refine ac rfl rfl rfl ?_
  refine p_ (S_assign rfl (AEv.S _)) ?_
  refine AL_nil (AC_ret ?_)
  refine ret_tmps (ts := [6, 7]) st rfl (by decide) rfl (Sub.l (List.Sublist.cons _ (List.Sublist.refl _))) (Conv.refl (Sub.l (List.Sublist.cons _ (List.Sublist.refl _))) _) ⟨cp_some hx rfl, rfl⟩ (.inl rfl)
 try simp only [zA,zO,zN,zM,zP,zQ,zD,zF,gd] at hb2
 have hnv : nameV c.name = true := hb2
 refine AC_skip ?_
 refine AC_seq ?_
 refine AC_seq (AC_region ?_)
 refine ac rfl rfl rfl ?_
 refine AL_nil ?_
 refine AC_block ?_
 refine AC_loopK (G := Nat) [(1, _), (2, _), (3, _)] (fun g => g ≤ ahead.length ∧ c.name ∉ (ahead.take g).map Ctr.name) (fun g => [(8, .int .i64 (g : Int))]) (fun g => (b3, .cells (ctrL c)) :: st) (fun g => ahead.length - g) (0) (⟨Nat.zero_le _, by simp⟩) (Sub.l (List.Sublist.refl _)) (.cons rfl (Le.refl _) (.cons rfl (Le.refl _) (.cons rfl (Le.refl _) .nil))) (.cons rfl (by first | exact Le.refl _ | exact Le.nils | exact Le.row _ _ _ _ | exact Le.of_eq (by first | rfl | (simp; done) | (push_cast; rfl) | (simp; omega))) .nil) ?_
 rintro i ⟨hi, hno⟩
 try dsimp only
 simp only [List.cons_append, List.nil_append]
 refine AC_seq ?_
 refine AC_seq (AC_region ?_)
 refine mv rfl rfl rfl rfl ?_
 refine mv rfl rfl rfl rfl ?_
 refine p_ (by first | exact S_lenM (e := 150) rfl (.tmp rfl) (by kernel_rfl) | exact S_len (e := 150) rfl (.tmp rfl) (by kernel_rfl)) ?_
 refine p_ (S_lss rfl (.tmp rfl) (.tmp rfl)) ?_
 refine AL_nil ?_
 refine AC_cond (.tmp rfl) (fun hb3 => ?_) (fun hb3 => ?_)
 ·try simp only [zA,zO,zN,zM,zP,zQ,zD,zF,gd] at hb3
  have hil : i < ahead.length := by omega
  refine AC_skip ?_
  refine AC_seq ?_
  refine AC_block ?_
  refine AC_seq ?_
  refine AC_draw (by kernel_rfl) (by kernel_rfl) (.cons rfl (Q_p rfl (S_move rfl (.tmp rfl))) <|
    .cons rfl (Q_p rfl (S_move rfl (.tmp rfl))) <|
    .cons rfl (Q_p rfl (S_elemN (e := 150) 11 rfl (.tmp rfl) (.tmp rfl) (by kernel_rfl) (by kernel_rfl) (by omega) (fun _ => rfl))) <|
    .cons rfl (Q_p rfl (S_fieldP 0 rfl (.tmp rfl) (by kernel_rfl))) <|
    .cons rfl (Q_p rfl (S_loadP rfl (.tmp rfl) rfl (by kernel_rfl))) <|
    .cons rfl (Q_p rfl (S_field 0 rfl (.tmp rfl) (by kernel_rfl))) <|
    .cons rfl (Q_p rfl (S_load 0 rfl (.tmp rfl) rfl rfl (by kernel_rfl))) <|
    .cons rfl (Q_p rfl (S_eqS rfl (.tmp rfl) (.tmp rfl))) <|
    .nil) ?_
  refine AC_cond (.tmp rfl) (fun hb4 => ?_) (fun hb4 => ?_)
  ·try simp only [zA,zO,zN,zM,zP,zQ,zD,zF,gd] at hb4
   have hx := one_1 (ps := (ahead.flatMap Ctr.ports)) (a := (if init = true then 0 else 3)) (b := (if init = true then 0 else 1000)) (nameE_there (ns := (ahead.map Ctr.name)) (c := c) hnv (by have := hb4; rw [← this]; exact List.mem_map_of_mem (List.getElem_mem hil)))
   refine AC_seq (AC_region ?_)
   refine ac rfl rfl rfl ?_
   refine p_ (S_assign rfl (AEv.S _)) ?_
   refine AL_nil (AC_ret ?_)
   refine ret_tmps (ts := [6, 7]) st rfl (by decide) rfl (Sub.l (List.Sublist.cons _ (List.Sublist.refl _))) (Conv.refl (Sub.l (List.Sublist.cons _ (List.Sublist.refl _))) _) ⟨cp_some hx rfl, rfl⟩ (.inl rfl)
  try simp only [zA,zO,zN,zM,zP,zQ,zD,zF,gd] at hb4
  have hne : (ahead[i]'hil).name ≠ c.name := hb4
  refine AC_skip ?_
  refine AC_region ?_
  refine mv rfl rfl rfl rfl ?_
  refine p_ (S_addI rfl (.tmp rfl) (AEv.const _) (by omega) (by omega)) ?_
  refine as_ rfl rfl rfl rfl ?_
  refine AL_nil ?_
  exact ⟨i + 1, ⟨by omega, by
   rw [List.take_succ_eq_append_getElem hil, List.map_append]
   intro h
   rcases List.mem_append.1 h with h | h
   ·exact hno h
   ·simp only [List.map_cons, List.map_nil, List.mem_singleton] at h; exact hne h.symm⟩, by omega, (Sub.l (List.Sublist.refl _)), (.cons rfl (by first | exact Le.refl _ | exact Le.nils | exact Le.row _ _ _ _ | exact Le.of_eq (by first | rfl | (simp; done) | (push_cast; rfl) | (simp; omega))) .nil), (.cons rfl (Le.refl _) (.cons rfl (Le.refl _) (.cons rfl (Le.refl _) .nil)))⟩
 try simp only [zA,zO,zN,zM,zP,zQ,zD,zF,gd] at hb3
 have hn0 : nameE (ahead.map Ctr.name) c.name = none := nameE_ok hnv (by rw [List.take_of_length_le (by omega)] at hno; exact hno)
 refine AC_exit ?_
 refine AC_seq (AC_region ?_)
 refine fl 1 ?_
 refine ld 0 ?_
 refine p_ (S_pcall rfl (AEvs.cons (.tmp rfl) AEvs.nil) (ref03_Split_ok c.image (by omega))) ?_
 refine mv rfl rfl rfl rfl ?_
 refine ex 0 ?_
 refine ex 1 ?_
 refine ex 2 ?_
 refine as_ rfl rfl rfl rfl ?_
 refine as_ rfl rfl rfl rfl ?_
 refine as_ rfl rfl rfl rfl ?_
 refine AL_nil ?_
 refine AC_seq ?_
 refine AC_seq (AC_region ?_)
 refine mv rfl rfl rfl rfl ?_
 refine p_ (S_not rfl (.tmp rfl)) ?_
 refine AL_nil ?_
 refine AC_cond (.tmp rfl) (fun hb5 => ?_) (fun hb5 => ?_)
 ·try simp only [zA,zO,zN,zM,zP,zQ,zD,zF,gd] at hb5
  have hx := one_2 (ps := (ahead.flatMap Ctr.ports)) (a := (if init = true then 0 else 3)) (b := (if init = true then 0 else 1000)) hn0 (show imgE c = some (33, [[105, 109, 97, 103, 101]]) by unfold imgE; rw [hb5]; rfl)
  refine AC_seq (AC_region ?_)
  refine ac rfl rfl rfl ?_
  refine p_ (S_assign rfl (AEv.S _)) ?_
  refine AL_nil (AC_ret ?_)
  refine ret_tmps (ts := [6, 7]) st rfl (by decide) rfl (Sub.l (List.Sublist.cons _ (List.Sublist.refl _))) (Conv.refl (Sub.l (List.Sublist.cons _ (List.Sublist.refl _))) _) ⟨cp_some hx rfl, rfl⟩ (.inl rfl)
 try simp only [zA,zO,zN,zM,zP,zQ,zD,zF,gd] at hb5
 have hi0 : imgE c = none := by unfold imgE; rw [hb5]; rfl
 refine AC_skip ?_
 refine AC_seq (AC_region ?_)
 refine p_ (S_buildSlice (e := 9) 1 rfl (AEvs.cons (AEv.S _) (AEvs.cons (AEv.S _) (AEvs.cons (AEv.S _) AEvs.nil))) rfl (by kernel_rfl) (by kernel_rfl) (by intro y hy; simp only [List.mem_cons, List.not_mem_nil, or_false] at hy; rcases hy with rfl | rfl | rfl <;> exact ⟨rfl, rfl⟩) (by decide) (by decide) (by decide)) ?_
 refine as_ rfl rfl rfl rfl ?_
 refine AL_nil (AC_seq (AC_region ?_))
 refine fl 2 ?_
 refine ldN 3 0 ?_
 refine p_ (S_pcall rfl (AEvs.cons (y := resAV c.req) (.tmp rfl) AEvs.nil) (ref06_three_ok c.req)) ?_
 refine p_ (S_build (t := 217) (pl := [(0, 1), (1, 1), (2, 1)]) (zs := [.int .i64 0, .int .i64 0, .int .i64 0]) rfl AEvs.nil (by kernel_rfl) rfl) ?_
 refine p_ (S_pcall rfl (AEvs.cons (y := resAV c.req) (.tmp rfl) (AEvs.cons (y := resAV (0, 0, 0)) (.tmp rfl) (AEvs.cons (AEv.const _) AEvs.nil))) (ref06_numbers_ok c.req (0, 0, 0) false)) ?_
 refine as_ rfl rfl rfl rfl ?_
 refine AL_nil ?_
 refine AC_seq ?_
 refine AC_seq (AC_region ?_)
 refine mv rfl rfl rfl rfl ?_
 refine p_ (S_geq rfl (.tmp rfl) (AEv.const _)) ?_
 refine AL_nil ?_
 refine AC_cond (.tmp rfl) (fun hb6 => ?_) (fun hb6 => ?_)
 ·try simp only [zA,zO,zN,zM,zP,zQ,zD,zF,gd] at hb6
  have hx := one_3 (ps := (ahead.flatMap Ctr.ports)) (a := (if init = true then 0 else 3)) (b := (if init = true then 0 else 1000)) hn0 hi0 (show reqE c.req = _ by rw [req_nums, if_pos (by omega)])
  have hk9 : (numsI c.req (0, 0, 0) false).toNat < numN.length := by have := (numsI_range c.req (0, 0, 0) false).2; show _ < 3; omega
  have hk8 := num_len hk9
  refine AC_seq ?_
  refine AC_draw (by kernel_rfl) (by kernel_rfl) (.cons rfl (Q_p rfl (S_move rfl (.tmp rfl))) <|
    .cons rfl (Q_p rfl (S_move rfl (.tmp rfl))) <|
    .cons rfl (Q_p rfl (S_elemN (e := 9) (f := fun s => .S s) (l := numN) (i := (numsI c.req (0, 0, 0) false).toNat) 1 rfl (.tmp rfl) ((AEv.tmp rfl).le (Le.of_eq (congrArg (AV.int _) (show (numsI c.req (0, 0, 0) false) = (((numsI c.req (0, 0, 0) false).toNat : Nat) : Int) by omega)))) (by kernel_rfl) (by kernel_rfl) (by have := (numsI_range c.req (0, 0, 0) false).2; show _ < 3; omega) (fun _ => rfl))) <|
    .cons rfl (Q_p rfl (S_loadP rfl (.tmp rfl) rfl (by kernel_rfl))) <|
    .cons rfl (Q_p rfl (S_cat rfl (AEv.S _) (.tmp rfl) (by first | omega | (simp only [List.length_append, List.length_cons, List.length_nil]; omega)))) <|
    .cons rfl (Q_p rfl (S_assign rfl (AEv.const _))) <|
    .cons rfl (Q_p rfl (S_assign rfl (.tmp rfl))) <|
    .nil) ?_
  refine AC_ret ?_
  refine ret_tmps (ts := [6, 7]) st rfl (by decide) rfl (Sub.l (List.Sublist.cons _ (List.Sublist.refl _))) (Conv.refl (Sub.l (List.Sublist.cons _ (List.Sublist.refl _))) _) ⟨cp_some hx (by rw [join_two]; exact num_text [114, 101, 113] hk9), rfl⟩ (.inl rfl)
 try simp only [zA,zO,zN,zM,zP,zQ,zD,zF,gd] at hb6
 have hr0 : reqE c.req = none := by rw [req_nums, if_neg (by omega)]
 refine AC_skip ?_
 refine AC_seq ?_
 refine AC_draw (by kernel_rfl) (by kernel_rfl) (.cons rfl (Q_p rfl (S_field 5 rfl (.tmp rfl) (by kernel_rfl))) <|
   .cons rfl (Q_p rfl (S_loadN (m := 3) 0 rfl (.tmp rfl) rfl (by kernel_rfl) (by first | exact Nat.le_of_ble_eq_true rfl | (simp; omega) | simp))) <|
   .cons rfl (Q_p rfl (S_pcall rfl (AEvs.cons (y := resAV c.lim) (.tmp rfl) AEvs.nil) (ref06_three_ok c.lim))) <|
   .cons rfl (Q_p rfl (S_field 2 rfl (.tmp rfl) (by kernel_rfl))) <|
   .cons rfl (Q_p rfl (S_loadN (m := 3) 0 rfl (.tmp rfl) rfl (by kernel_rfl) (by first | exact Nat.le_of_ble_eq_true rfl | (simp; omega) | simp))) <|
   .cons rfl (Q_p rfl (S_pcall rfl (AEvs.cons (y := resAV c.req) (.tmp rfl) AEvs.nil) (ref06_three_ok c.req))) <|
   .cons rfl (Q_p rfl (S_pcall rfl (AEvs.cons (.tmp rfl) (AEvs.cons (.tmp rfl) (AEvs.cons (AEv.const _) AEvs.nil))) (ref06_numbers_ok c.lim c.req true))) <|
   .cons rfl (Q_p rfl (S_assign rfl (.tmp rfl))) <|
   .nil) ?_
 refine AC_seq ?_
 refine AC_seq (AC_region ?_)
 refine mv rfl rfl rfl rfl ?_
 refine p_ (S_geq rfl (.tmp rfl) (AEv.const _)) ?_
 refine AL_nil ?_
 refine AC_cond (.tmp rfl) (fun hb7 => ?_) (fun hb7 => ?_)
 ·try simp only [zA,zO,zN,zM,zP,zQ,zD,zF,gd] at hb7
  have hx := one_4 (ps := (ahead.flatMap Ctr.ports)) (a := (if init = true then 0 else 3)) (b := (if init = true then 0 else 1000)) hn0 hi0 hr0 (show limE c.lim c.req = _ by rw [lim_nums, if_pos (by omega)])
  have hk9 : (numsI c.lim c.req true).toNat < numN.length := by have := (numsI_range c.lim c.req true).2; show _ < 3; omega
  have hk8 := num_len hk9
  refine AC_seq ?_
  refine AC_draw (by kernel_rfl) (by kernel_rfl) (.cons rfl (Q_p rfl (S_move rfl (.tmp rfl))) <|
    .cons rfl (Q_p rfl (S_move rfl (.tmp rfl))) <|
    .cons rfl (Q_p rfl (S_elemN (e := 9) (f := fun s => .S s) (l := numN) (i := (numsI c.lim c.req true).toNat) 1 rfl (.tmp rfl) ((AEv.tmp rfl).le (Le.of_eq (congrArg (AV.int _) (show (numsI c.lim c.req true) = (((numsI c.lim c.req true).toNat : Nat) : Int) by omega)))) (by kernel_rfl) (by kernel_rfl) (by have := (numsI_range c.lim c.req true).2; show _ < 3; omega) (fun _ => rfl))) <|
    .cons rfl (Q_p rfl (S_loadP rfl (.tmp rfl) rfl (by kernel_rfl))) <|
    .cons rfl (Q_p rfl (S_cat rfl (AEv.S _) (.tmp rfl) (by first | omega | (simp only [List.length_append, List.length_cons, List.length_nil]; omega)))) <|
    .cons rfl (Q_p rfl (S_assign rfl (AEv.const _))) <|
    .cons rfl (Q_p rfl (S_assign rfl (.tmp rfl))) <|
    .nil) ?_
  refine AC_ret ?_
  refine ret_tmps (ts := [6, 7]) st rfl (by decide) rfl (Sub.l (List.Sublist.cons _ (List.Sublist.refl _))) (Conv.refl (Sub.l (List.Sublist.cons _ (List.Sublist.refl _))) _) ⟨cp_some hx (by rw [join_two]; exact num_text [108, 105, 109] hk9), rfl⟩ (.inl rfl)
 try simp only [zA,zO,zN,zM,zP,zQ,zD,zF,gd] at hb7
 have hl0 : limE c.lim c.req = none := by rw [lim_nums, if_neg (by omega)]
 refine AC_skip ?_
 refine AC_seq ?_
 refine AC_seq (AC_region ?_)
 refine fl 8 ?_
 refine ld 0 ?_
 refine p_ (by first | exact S_lenM (e := 3) rfl (.tmp rfl) (by kernel_rfl) | exact S_len (e := 3) rfl (.tmp rfl) (by kernel_rfl)) ?_
 refine p_ (S_gtr rfl (.tmp rfl) (AEv.const _)) ?_
 refine mv rfl rfl rfl rfl ?_
 refine g_ (fun _ => mA) ?_
 refine g_ (fun _ => S_move rfl (AEv.cd (.tmp rfl))) ?_
 refine AL_gg rfl rfl (.tmp rfl) rfl (fun hg14 hg15 hg16 => S_field 8 rfl (.tmp rfl) (by kernel_rfl)) ?_
 refine AL_gg rfl rfl (.tmp rfl) rfl (fun hg17 hg18 hg19 => S_load 0 rfl (AEv.cd (.tmp rfl)) rfl rfl (by kernel_rfl)) ?_
 refine AL_gg rfl rfl (.tmp rfl) rfl (fun hg20 hg21 hg22 => by first | exact S_lenM (e := 3) rfl (AEv.cd (.tmp rfl)) (by kernel_rfl) | exact S_len (e := 3) rfl (AEv.cd (.tmp rfl)) (by kernel_rfl)) ?_
 refine AL_gg rfl rfl (.tmp rfl) rfl (fun hg23 hg24 hg25 => S_gtr rfl (AEv.cd (.tmp rfl)) (AEv.const _)) ?_
 refine g_ (fun _ => S_and rfl (AEv.cd (.tmp rfl)) (fun hp29 => (AEv.cd (.tmp rfl)))) ?_
 refine p_ (S_or rfl (.tmp rfl) (fun hp30 => (AEv.cd (.tmp rfl)))) ?_
 refine AL_nil ?_
 refine AC_cond (.tmp rfl) (fun hb31 => ?_) (fun hb31 => ?_)
 ·try simp only [zA,zO,zN,zM,zP,zQ,zD,zF,gd] at hb31
  have hx := one_5 (a := (if init = true then 0 else 3)) (b := (if init = true then 0 else 1000)) hn0 hi0 hr0 hl0 (port_many (ps := (ahead.flatMap Ctr.ports)) (l := c.ports) (n := (if init = true then 0 else 3)) (by cases init <;> simp only [Bool.true_eq_false, Bool.false_eq_true, false_or, or_false, true_or, or_true, false_and, and_false, true_and, and_true, if_true, if_false, reduceIte] at hb31 ⊢ <;> omega))
  refine AC_seq (AC_region ?_)
  refine ac rfl rfl rfl ?_
  refine p_ (S_assign rfl (AEv.S _)) ?_
  refine AL_nil (AC_ret ?_)
  refine ret_tmps (ts := [6, 7]) st rfl (by decide) rfl (Sub.l (List.Sublist.cons _ (List.Sublist.refl _))) (Conv.refl (Sub.l (List.Sublist.cons _ (List.Sublist.refl _))) _) ⟨cp_some hx rfl, rfl⟩ (.inl rfl)
 try simp only [zA,zO,zN,zM,zP,zQ,zD,zF,gd] at hb31
 have hpm : atMostE portsN (c.ports.length : Int) 0 (if init = true then 0 else 3) = none := by
  unfold atMostE; rw [if_neg]; cases init <;> simp only [Bool.true_eq_false, Bool.false_eq_true, false_or, or_false, true_or, or_true, false_and, and_false, true_and, and_true, if_true, if_false, reduceIte] at hb31 ⊢ <;> omega
 refine AC_skip ?_
 refine AC_seq ?_
 refine AC_seq (AC_region ?_)
 refine ac rfl rfl rfl ?_
 refine AL_nil ?_
 refine AC_block ?_
 refine AC_loopK (G := Nat) [(1, _), (2, _), (3, _)] (fun g => g ≤ c.ports.length ∧ ∀ j, j < g → portAt (ahead.flatMap Ctr.ports) c.ports j = none) (fun g => [(14, .int .i64 (g : Int))]) (fun g => (b3, .cells (ctrL c)) :: st) (fun g => c.ports.length - g) (0) (⟨Nat.zero_le _, fun j h => absurd h (Nat.not_lt_zero _)⟩) (Sub.l (List.Sublist.refl _)) (.cons rfl (Le.refl _) (.cons rfl (Le.refl _) (.cons rfl (Le.refl _) .nil))) (.cons rfl (by first | exact Le.refl _ | exact Le.nils | exact Le.row _ _ _ _ | exact Le.of_eq (by first | rfl | (simp; done) | (push_cast; rfl) | (simp; omega))) .nil) ?_
 rintro i ⟨hi, hall⟩
 try dsimp only
 simp only [List.cons_append, List.nil_append]
 refine AC_seq ?_
 refine AC_seq (AC_region ?_)
 refine mv rfl rfl rfl rfl ?_
 refine fl 8 ?_
 refine ld 0 ?_
 refine p_ (by first | exact S_lenM (e := 3) rfl (.tmp rfl) (by kernel_rfl) | exact S_len (e := 3) rfl (.tmp rfl) (by kernel_rfl)) ?_
 refine p_ (S_lss rfl (.tmp rfl) (.tmp rfl)) ?_
 refine AL_nil ?_
 refine AC_cond (.tmp rfl) (fun hb32 => ?_) (fun hb32 => ?_)
 ·try simp only [zA,zO,zN,zM,zP,zQ,zD,zF,gd] at hb32
  have hil : i < c.ports.length := by omega
  have hif : fits (i : Int) := by unfold fits; omega
  have hgd : c.ports.getD i 0 = c.ports[i] := by rw [List.getD_eq_getElem?_getD, List.getElem?_eq_getElem hil]; rfl
  refine AC_skip ?_
  refine AC_seq ?_
  refine AC_block ?_
  refine AC_seq ?_
  refine AC_seq (AC_region ?_)
  refine fl 8 ?_
  refine ld 0 ?_
  refine mv rfl rfl rfl rfl ?_
  refine p_ (S_elemN (e := 3) 1 rfl (.tmp rfl) (.tmp rfl) (by kernel_rfl) (by kernel_rfl) (by omega) (fun _ => rfl)) ?_
  refine p_ (S_loadP rfl (.tmp rfl) rfl (by kernel_rfl)) ?_
  refine p_ (S_lss rfl (.tmp rfl) (AEv.const _)) ?_
  refine mv rfl rfl rfl rfl ?_
  refine g_ (fun _ => fA 8) ?_
  refine g_ (fun _ => lA 0) ?_
  refine g_ (fun _ => mA) ?_
  refine g_ (fun _ => S_elemN (e := 3) 1 rfl (AEv.cd (.tmp rfl)) (AEv.cd (.tmp rfl)) (by kernel_rfl) (by kernel_rfl) (by (try simp only [gd, Bool.and_eq_true, Bool.or_eq_true, Bool.not_eq_true', Bool.not_eq_false', decide_eq_true_eq, decide_eq_false_iff_not, Bool.or_eq_false_iff, Bool.and_eq_false_iff] at *); omega) (fun _ => rfl)) ?_
  refine g_ (fun _ => S_loadP rfl (AEv.cd (.tmp rfl)) rfl (by kernel_rfl)) ?_
  refine g_ (fun _ => S_gtr rfl (AEv.cd (.tmp rfl)) (AEv.const _)) ?_
  refine p_ (S_or rfl (.tmp rfl) (fun hp51 => (AEv.cd (.tmp rfl)))) ?_
  refine AL_nil ?_
  refine AC_cond (.tmp rfl) (fun hb52 => ?_) (fun hb52 => ?_)
  ·try simp only [zA,zO,zN,zM,zP,zQ,zD,zF,gd] at hb52
   have hx := one_5 (a := (if init = true then 0 else 3)) (b := (if init = true then 0 else 1000)) hn0 hi0 hr0 hl0 (port_at hpm hil (portAt_range (ps := (ahead.flatMap Ctr.ports)) hil (by simpa using hb52)) hall)
   refine AC_seq (AC_region ?_)
   refine mv rfl rfl rfl rfl ?_
   refine p_ (S_pcall rfl (AEvs.cons (AEv.S _) (AEvs.cons (.tmp rfl) AEvs.nil)) (ref06_at_ok portsN (by decide) (i : Int) hif)) ?_
   refine ac rfl rfl rfl ?_
   refine as_ rfl rfl rfl rfl ?_
   refine AL_nil (AC_ret ?_)
   refine ret_tmps (ts := [6, 7]) st rfl (by decide) rfl (Sub.l (List.Sublist.cons _ (List.Sublist.refl _))) (Conv.refl (Sub.l (List.Sublist.cons _ (List.Sublist.refl _))) _) ⟨cp_some hx (Lib.join_one _ _).symm, rfl⟩ (.inl rfl)
  try simp only [zA,zO,zN,zM,zP,zQ,zD,zF,gd] at hb52
  have hr1 : 1 ≤ (c.ports[i]'hil) ∧ (c.ports[i]'hil) ≤ 65535 := by omega
  refine AC_skip ?_
  refine AC_seq ?_
  refine AC_draw (by kernel_rfl) (by kernel_rfl) (.cons rfl (Q_p rfl (S_move rfl (.tmp rfl))) <|
    .cons rfl (Q_p rfl (S_field 8 rfl (.tmp rfl) (by kernel_rfl))) <|
    .cons rfl (Q_p rfl (S_load 0 rfl (.tmp rfl) rfl rfl (by kernel_rfl))) <|
    .cons rfl (Q_p rfl (S_move rfl (.tmp rfl))) <|
    .cons rfl (Q_p rfl (S_elemN (e := 3) 1 rfl (.tmp rfl) (.tmp rfl) (by kernel_rfl) (by kernel_rfl) (by omega) (fun _ => rfl))) <|
    .cons rfl (Q_p rfl (S_loadP rfl (.tmp rfl) rfl (by kernel_rfl))) <|
    .cons rfl (Q_p rfl (S_pcall rfl (AEvs.cons (.tmp rfl) (AEvs.cons (.tmp rfl) AEvs.nil)) (ref06_Has_ok ahead (c.ports[i]'hil) (by omega) hap))) <|
    .cons rfl (Q_p rfl (S_move rfl (.tmp rfl))) <|
    .cons rfl (Q_g rfl rfl (.tmp rfl) (fun hg53 => S_field 8 rfl (.tmp rfl) (by kernel_rfl))) <|
    .cons rfl (Q_g rfl rfl (.tmp rfl) (fun hg56 => S_load 0 rfl (AEv.cd (.tmp rfl)) rfl rfl (by kernel_rfl))) <|
    .cons rfl (Q_g rfl rfl (.tmp rfl) (fun hg59 => S_move rfl (.tmp rfl))) <|
    .cons rfl (Q_g rfl rfl (.tmp rfl) (fun hg62 => S_cutHM (e := 3) 1 rfl (AEv.cd (.tmp rfl)) (AEv.cd (.tmp rfl)) (by kernel_rfl) (by kernel_rfl) (fun _ => rfl) (by (try simp only [gd, Bool.and_eq_true, Bool.or_eq_true, Bool.not_eq_true', Bool.not_eq_false', decide_eq_true_eq, decide_eq_false_iff_not, Bool.or_eq_false_iff, Bool.and_eq_false_iff] at *); omega))) <|
    .cons rfl (Q_g rfl rfl (.tmp rfl) (fun hg65 => S_build (t := 150) (pl := [(0, 1), (1, 1), (2, 3), (5, 3), (8, 1), (9, 2)]) (zs := [.string ⟨#[]⟩, .string ⟨#[]⟩, .int .i64 0, .int .i64 0, .int .i64 0, .int .i64 0, .int .i64 0, .int .i64 0, .slice none 0 0, .int .i64 0, .int .i64 0]) rfl (AEvs.cons (AEv.cd (.tmp rfl)) AEvs.nil) (by kernel_rfl) rfl)) <|
    .cons rfl (Q_g rfl rfl (.tmp rfl) (fun hg68 => S_buildSlice (e := 150) 11 rfl (AEvs.cons (AEv.cd (.tmp rfl)) AEvs.nil) rfl (by kernel_rfl) (by kernel_rfl) (by intro y hy; simp only [List.mem_cons, List.not_mem_nil, or_false] at hy; rcases hy with rfl <;> exact ⟨rfl, rfl⟩) (by decide) (by decide) (by decide))) <|
    .cons rfl (Q_g rfl rfl (.tmp rfl) (fun hg71 => S_field 8 rfl (.tmp rfl) (by kernel_rfl))) <|
    .cons rfl (Q_g rfl rfl (.tmp rfl) (fun hg74 => S_load 0 rfl (AEv.cd (.tmp rfl)) rfl rfl (by kernel_rfl))) <|
    .cons rfl (Q_g rfl rfl (.tmp rfl) (fun hg77 => S_move rfl (.tmp rfl))) <|
    .cons rfl (Q_g rfl rfl (.tmp rfl) (fun hg80 => S_elemN (e := 3) 1 rfl (AEv.cd (.tmp rfl)) (AEv.cd (.tmp rfl)) (by kernel_rfl) (by kernel_rfl) (by (try simp only [gd, Bool.and_eq_true, Bool.or_eq_true, Bool.not_eq_true', Bool.not_eq_false', decide_eq_true_eq, decide_eq_false_iff_not, Bool.or_eq_false_iff, Bool.and_eq_false_iff] at *); omega) (fun _ => rfl))) <|
    .cons rfl (Q_g rfl rfl (.tmp rfl) (fun hg83 => S_loadP rfl (AEv.cd (.tmp rfl)) rfl (by kernel_rfl))) <|
    .cons rfl (Q_g rfl rfl (.tmp rfl) (fun hg86 => S_pcall rfl (AEvs.cons (y := .sl (ctrsV [⟨[], [], (0, 0, 0), (0, 0, 0), c.ports.take i, (0, 0)⟩])) (AEv.cd (.tmp rfl)) (AEvs.cons (AEv.cd (.tmp rfl)) AEvs.nil)) (ref06_Has_ok [⟨[], [], (0, 0, 0), (0, 0, 0), c.ports.take i, (0, 0)⟩] (c.ports[i]'hil) (Nat.le_of_ble_eq_true rfl) (by intro x hx; rw [List.mem_singleton.1 hx]; simp only [List.length_take]; omega)))) <|
    .cons rfl (Q_p rfl (S_or rfl (.tmp rfl) (fun hp89 => (AEv.cd (.tmp rfl))))) <|
    .nil) ?_
  refine AC_cond (.tmp rfl) (fun hb90 => ?_) (fun hb90 => ?_)
  ·try simp only [zA,zO,zN,zM,zP,zQ,zD,zF,gd] at hb90
   have hx := one_5 (a := (if init = true then 0 else 3)) (b := (if init = true then 0 else 1000)) hn0 hi0 hr0 hl0 (port_at hpm hil (portAt_there (ps := (ahead.flatMap Ctr.ports)) hil hr1 (by simpa using hb90)) hall)
   refine AC_seq (AC_region ?_)
   refine mv rfl rfl rfl rfl ?_
   refine p_ (S_pcall rfl (AEvs.cons (AEv.S _) (AEvs.cons (.tmp rfl) AEvs.nil)) (ref06_at_ok portsN (by decide) (i : Int) hif)) ?_
   refine ac rfl rfl rfl ?_
   refine as_ rfl rfl rfl rfl ?_
   refine AL_nil (AC_ret ?_)
   refine ret_tmps (ts := [6, 7]) st rfl (by decide) rfl (Sub.l (List.Sublist.cons _ (List.Sublist.refl _))) (Conv.refl (Sub.l (List.Sublist.cons _ (List.Sublist.refl _))) _) ⟨cp_some hx (Lib.join_one _ _).symm, rfl⟩ (.inl rfl)
  try simp only [zA,zO,zN,zM,zP,zQ,zD,zF,gd] at hb90
  have hr2 : (c.ports[i]'hil) ∉ (ahead.flatMap Ctr.ports) ++ c.ports.take i := by simpa using hb90
  refine AC_skip ?_
  refine AC_region ?_
  refine mv rfl rfl rfl rfl ?_
  refine p_ (S_addI rfl (.tmp rfl) (AEv.const _) (by omega) (by omega)) ?_
  refine as_ rfl rfl rfl rfl ?_
  refine AL_nil ?_
  refine ⟨i + 1, ⟨by omega, fun j h => ?_⟩, by omega, (Sub.l (List.Sublist.refl _)), (.cons rfl (by first | exact Le.refl _ | exact Le.nils | exact Le.row _ _ _ _ | exact Le.of_eq (by first | rfl | (simp; done) | (push_cast; rfl) | (simp; omega))) .nil), (.cons rfl (Le.refl _) (.cons rfl (Le.refl _) (.cons rfl (Le.refl _) .nil)))⟩
  rcases Nat.lt_or_ge j i with h' | h'
  ·exact hall j h'
  ·have : j = i := by omega
   subst this
   exact portAt_ok hil hr1 hr2
 try simp only [zA,zO,zN,zM,zP,zQ,zD,zF,gd] at hb32
 have hp0 : portE (ahead.flatMap Ctr.ports) c.ports (if init = true then 0 else 3) = none := portE_in hpm fun j hj => hall j (by omega)
 refine AC_exit ?_
 refine AC_seq ?_
 refine AC_seq (AC_region ?_)
 refine fl 9 ?_
 refine fl 0 ?_
 refine ld 0 ?_
 refine p_ (S_lss rfl (.tmp rfl) (AEv.const _)) ?_
 refine mv rfl rfl rfl rfl ?_
 refine g_ (fun _ => fA 9) ?_
 refine g_ (fun _ => S_field 0 rfl (AEv.cd (.tmp rfl)) (by kernel_rfl)) ?_
 refine g_ (fun _ => lA 0) ?_
 refine g_ (fun _ => S_gtr rfl (AEv.cd (.tmp rfl)) (AEv.const _)) ?_
 refine p_ (S_or rfl (.tmp rfl) (fun hp103 => (AEv.cd (.tmp rfl)))) ?_
 refine mv rfl rfl rfl rfl ?_
 refine g_ (fun _ => mA) ?_
 refine g_ (fun _ => S_move rfl (AEv.cd (.tmp rfl))) ?_
 refine AL_gg rfl rfl (.tmp rfl) rfl (fun hg110 hg111 hg112 => S_field 9 rfl (.tmp rfl) (by kernel_rfl)) ?_
 refine AL_gg rfl rfl (.tmp rfl) rfl (fun hg113 hg114 hg115 => S_field 0 rfl (AEv.cd (.tmp rfl)) (by kernel_rfl)) ?_
 refine AL_gg rfl rfl (.tmp rfl) rfl (fun hg116 hg117 hg118 => S_load 0 rfl (AEv.cd (.tmp rfl)) rfl rfl (by kernel_rfl)) ?_
 refine AL_gg rfl rfl (.tmp rfl) rfl (fun hg119 hg120 hg121 => S_gtr rfl (AEv.cd (.tmp rfl)) (AEv.const _)) ?_
 refine g_ (fun _ => S_and rfl (AEv.cd (.tmp rfl)) (fun hp125 => (AEv.cd (.tmp rfl)))) ?_
 refine p_ (S_or rfl (.tmp rfl) (fun hp126 => (AEv.cd (.tmp rfl)))) ?_
 refine AL_nil ?_
 refine AC_cond (.tmp rfl) (fun hb127 => ?_) (fun hb127 => ?_)
 ·try simp only [zA,zO,zN,zM,zP,zQ,zD,zF,gd] at hb127
  have hpr : c.probe.1 < 0 ∨ (if init = true then 0 else 1000) < c.probe.1 := by cases init <;> simp only [Bool.true_eq_false, Bool.false_eq_true, false_or, or_false, true_or, or_true, false_and, and_false, true_and, and_true, if_true, if_false, reduceIte] at hb127 ⊢ <;> omega
  have hx := (one_6 (a := (if init = true then 0 else 3)) (b := (if init = true then 0 else 1000)) hn0 hi0 hr0 hl0 hp0).trans (probe_every hpr)
  refine AC_seq (AC_region ?_)
  refine ac rfl rfl rfl ?_
  refine p_ (S_assign rfl (AEv.S _)) ?_
  refine AL_nil (AC_ret ?_)
  refine ret_tmps (ts := [6, 7]) st rfl (by decide) rfl (Sub.l (List.Sublist.cons _ (List.Sublist.refl _))) (Conv.refl (Sub.l (List.Sublist.cons _ (List.Sublist.refl _))) _) ⟨cp_some hx rfl, rfl⟩ (.inl rfl)
 try simp only [zA,zO,zN,zM,zP,zQ,zD,zF,gd] at hb127
 have hpr : ¬ (c.probe.1 < 0 ∨ (if init = true then 0 else 1000) < c.probe.1) := by cases init <;> simp only [Bool.true_eq_false, Bool.false_eq_true, false_or, or_false, true_or, or_true, false_and, and_false, true_and, and_true, if_true, if_false, reduceIte] at hb127 ⊢ <;> omega
 refine AC_skip ?_
 refine AC_seq ?_
 refine AC_seq (AC_region ?_)
 refine fl 9 ?_
 refine fl 0 ?_
 refine ld 0 ?_
 refine p_ (S_eql rfl (.tmp rfl) (AEv.const _)) ?_
 refine mv rfl rfl rfl rfl ?_
 refine g_ (fun _ => fA 9) ?_
 refine g_ (fun _ => S_field 1 rfl (AEv.cd (.tmp rfl)) (by kernel_rfl)) ?_
 refine g_ (fun _ => lA 0) ?_
 refine g_ (fun _ => S_neq rfl (AEv.cd (.tmp rfl)) (AEv.const _)) ?_
 refine an ?_
 refine mv rfl rfl rfl rfl ?_
 refine g_ (fun _ => fA 9) ?_
 refine g_ (fun _ => S_field 0 rfl (AEv.cd (.tmp rfl)) (by kernel_rfl)) ?_
 refine g_ (fun _ => lA 0) ?_
 refine g_ (fun _ => S_gtr rfl (AEv.cd (.tmp rfl)) (AEv.const _)) ?_
 refine g_ (fun _ => S_move rfl (AEv.cd (.tmp rfl))) ?_
 refine AL_gg rfl rfl (.tmp rfl) rfl (fun hg156 hg157 hg158 => S_field 9 rfl (.tmp rfl) (by kernel_rfl)) ?_
 refine AL_gg rfl rfl (.tmp rfl) rfl (fun hg159 hg160 hg161 => S_field 1 rfl (AEv.cd (.tmp rfl)) (by kernel_rfl)) ?_
 refine AL_gg rfl rfl (.tmp rfl) rfl (fun hg162 hg163 hg164 => S_load 0 rfl (AEv.cd (.tmp rfl)) rfl rfl (by kernel_rfl)) ?_
 refine AL_gg rfl rfl (.tmp rfl) rfl (fun hg165 hg166 hg167 => S_lss rfl (AEv.cd (.tmp rfl)) (AEv.const _)) ?_
 refine AL_gg rfl rfl (.tmp rfl) rfl (fun hg168 hg169 hg170 => S_move rfl (AEv.cd (.tmp rfl))) ?_
 refine AL_gg rfl rfl (.tmp rfl) rfl (fun hg171 hg172 hg173 => S_field 9 rfl (.tmp rfl) (by kernel_rfl)) ?_
 refine AL_gg rfl rfl (.tmp rfl) rfl (fun hg174 hg175 hg176 => S_field 1 rfl (AEv.cd (.tmp rfl)) (by kernel_rfl)) ?_
 refine AL_gg rfl rfl (.tmp rfl) rfl (fun hg177 hg178 hg179 => S_load 0 rfl (AEv.cd (.tmp rfl)) rfl rfl (by kernel_rfl)) ?_
 refine AL_gg rfl rfl (.tmp rfl) rfl (fun hg180 hg181 hg182 => S_gtr rfl (AEv.cd (.tmp rfl)) (AEv.const _)) ?_
 refine AL_gg rfl rfl (.tmp rfl) rfl (fun hg183 hg184 hg185 => S_or rfl (AEv.cd (.tmp rfl)) (fun hp186 => (AEv.cd (.tmp rfl)))) ?_
 refine g_ (fun _ => S_and rfl (AEv.cd (.tmp rfl)) (fun hp190 => (AEv.cd (.tmp rfl)))) ?_
 refine p_ (S_or rfl (.tmp rfl) (fun hp191 => (AEv.cd (.tmp rfl)))) ?_
 refine AL_nil ?_
 refine AC_cond (.tmp rfl) (fun hb192 => ?_) (fun hb192 => ?_)
 ·try simp only [zA,zO,zN,zM,zP,zQ,zD,zF,gd] at hb192
  have hx := (one_6 (a := (if init = true then 0 else 3)) (b := (if init = true then 0 else 1000)) hn0 hi0 hr0 hl0 hp0).trans ((probe_rest hpr).trans (if_pos (by cases init <;> simp only [Bool.true_eq_false, Bool.false_eq_true, false_or, or_false, true_or, or_true, false_and, and_false, true_and, and_true, if_true, if_false, reduceIte] at hb192 hpr ⊢ <;> omega)))
  refine AC_seq (AC_region ?_)
  refine ac rfl rfl rfl ?_
  refine p_ (S_assign rfl (AEv.S _)) ?_
  refine AL_nil (AC_ret ?_)
  refine ret_tmps (ts := [6, 7]) st rfl (by decide) rfl (Sub.l (List.Sublist.cons _ (List.Sublist.refl _))) (Conv.refl (Sub.l (List.Sublist.cons _ (List.Sublist.refl _))) _) ⟨cp_some hx rfl, rfl⟩ (.inl rfl)
 try simp only [zA,zO,zN,zM,zP,zQ,zD,zF,gd] at hb192
 have hx := (one_6 (a := (if init = true then 0 else 3)) (b := (if init = true then 0 else 1000)) hn0 hi0 hr0 hl0 hp0).trans ((probe_rest hpr).trans (if_neg (by cases init <;> simp only [Bool.true_eq_false, Bool.false_eq_true, false_or, or_false, true_or, or_true, false_and, and_false, true_and, and_true, if_true, if_false, reduceIte] at hb192 hpr ⊢ <;> omega)))
 refine AC_skip ?_
 refine AC_seq (AC_region ?_)
 refine ac rfl rfl rfl ?_
 refine p_ (S_assign rfl (AEv.S _)) ?_
 refine AL_nil (AC_ret ?_)
 refine ret_tmps (ts := [6, 7]) st rfl (by decide) rfl (Sub.l (List.Sublist.cons _ (List.Sublist.refl _))) (Conv.refl (Sub.l (List.Sublist.cons _ (List.Sublist.refl _))) _) ⟨cp_none hx, rfl⟩ (.inl rfl)
set_option maxHeartbeats 1000000 in
theorem ref06_Check_ok (s : Spc) (hs : lightS s = true) : PCalls Tryz.prog 107 [spcAV s] (cpAV (checkE s)) := by
 intro st
 refine co 127 Tryz.func107 ?_
 obtain ⟨h1, h2, h3, h4, h5, h6, h7⟩ := lightS_out hs
 have hpi : ∀ c ∈ s.init, c.name.length ≤ 100 ∧ c.image.length ≤ 100 ∧ c.ports.length ≤ 10 := fun c hc => of_decide_eq_true (h6 c hc)
 have hpm : ∀ c ∈ s.main, c.name.length ≤ 100 ∧ c.image.length ≤ 100 ∧ c.ports.length ≤ 10 := fun c hc => of_decide_eq_true (h7 c hc)
 refine AC_seq (AC_region ?_)
 refine s_ (S_box rfl (.tmp rfl)) ?_
 rintro _ _ ⟨b1, rfl, rfl⟩
 refine ac rfl rfl rfl ?_
 refine p_ (S_assign rfl (AEv.S _)) ?_
 refine AL_nil ?_
 refine AC_seq ?_
 refine AC_seq (AC_region ?_)
 refine fl 0 ?_
 refine ld 0 ?_
 refine p_ (S_pcall rfl (AEvs.cons (.tmp rfl) AEvs.nil) (ref03_Name_ok s.name (by omega))) ?_
 refine p_ (S_not rfl (.tmp rfl)) ?_
 refine AL_nil ?_
 refine AC_cond (.tmp rfl) (fun hb2 => ?_) (fun hb2 => ?_)
 ·try simp only [zA,zO,zN,zM,zP,zQ,zD,zF,gd] at hb2
  have hx : (checkE s) = some (30, [nameN]) := check_bad1 (firstE_hd (by rw [hb2]; rfl))
  refine AC_seq (AC_region ?_)
  refine ac rfl rfl rfl ?_
  refine p_ (S_assign rfl (AEv.S _)) ?_
  refine AL_nil (AC_ret ?_)
  refine ret_tmps (ts := [2, 3]) st rfl (by decide) rfl (Sub.l (List.Sublist.cons _ (List.Sublist.refl _))) (Conv.refl (Sub.l (List.Sublist.cons _ (List.Sublist.refl _))) _) ⟨cp_some hx rfl, rfl⟩ (.inl rfl)
 try simp only [zA,zO,zN,zM,zP,zQ,zD,zF,gd] at hb2
 have hnm : erNew (saysV (nameV s.name) 30) [nameN] = none := by rw [hb2]; rfl
 refine AC_skip ?_
 refine AC_seq (AC_region ?_)
 refine fl 1 ?_
 refine ld 0 ?_
 refine p_ (S_pcall rfl (AEvs.cons (AEv.S _) (AEvs.cons (.tmp rfl) AEvs.nil)) (ref06_Labels_ok labelsN (by decide) s.labels (fun x hx => by have := h5 x hx; omega))) ?_
 refine mv rfl rfl rfl rfl ?_
 refine ex 0 ?_
 refine ex 1 ?_
 refine as_ rfl rfl rfl rfl ?_
 refine as_ rfl rfl rfl rfl ?_
 refine AL_nil ?_
 refine AC_seq ?_
 refine AC_seq (AC_region ?_)
 refine mv rfl rfl rfl rfl ?_
 refine p_ (S_neq rfl (.tmp rfl) (AEv.const _)) ?_
 refine AL_nil ?_
 refine AC_cond (.tmp rfl) (fun hb3 => ?_) (fun hb3 => ?_)
 ·try simp only [zA,zO,zN,zM,zP,zQ,zD,zF,gd] at hb3
  have hne : labelsE labelsN s.labels ≠ none := fun h => hb3 (by rw [h]; rfl)
  obtain ⟨x, hx⟩ : ∃ x, labelsE labelsN s.labels = some x := Option.ne_none_iff_exists'.1 hne
  have hx2 : (checkE s) = some x := check_bad1 ((firstE_tl hnm).trans (firstE_hd hx))
  refine AC_seq (AC_region ?_)
  refine mv rfl rfl rfl rfl ?_
  refine mv rfl rfl rfl rfl ?_
  refine as_ rfl rfl rfl rfl ?_
  refine as_ rfl rfl rfl rfl ?_
  refine AL_nil (AC_ret ?_)
  refine ret_tmps (ts := [2, 3]) st rfl (by decide) rfl (Sub.l (List.Sublist.cons _ (List.Sublist.refl _))) (Conv.refl (Sub.l (List.Sublist.cons _ (List.Sublist.refl _))) _) ⟨congrArg cpAV (hx.trans hx2.symm), rfl⟩ (.inl rfl)
 try simp only [zA,zO,zN,zM,zP,zQ,zD,zF,gd] at hb3
 have hlb : labelsE labelsN s.labels = none := (well_labels _ _).code.1 (by simpa using hb3)
 refine AC_skip ?_
 refine AC_seq ?_
 refine AC_seq (AC_region ?_)
 refine fl 2 ?_
 refine ld 0 ?_
 refine p_ (by first | exact S_lenM (e := 150) rfl (.tmp rfl) (by kernel_rfl) | exact S_len (e := 150) rfl (.tmp rfl) (by kernel_rfl)) ?_
 refine p_ (S_gtr rfl (.tmp rfl) (AEv.const _)) ?_
 refine AL_nil ?_
 refine AC_cond (.tmp rfl) (fun hb4 => ?_) (fun hb4 => ?_)
 ·try simp only [zA,zO,zN,zM,zP,zQ,zD,zF,gd] at hb4
  have hx : (checkE s) = some (2, [initN]) := check_bad1 ((firstE_tl hnm).trans ((firstE_tl hlb).trans (firstE_hd (by unfold atMostE; rw [if_pos (by omega)]))))
  refine AC_seq (AC_region ?_)
  refine ac rfl rfl rfl ?_
  refine p_ (S_assign rfl (AEv.S _)) ?_
  refine AL_nil (AC_ret ?_)
  refine ret_tmps (ts := [2, 3]) st rfl (by decide) rfl (Sub.l (List.Sublist.cons _ (List.Sublist.refl _))) (Conv.refl (Sub.l (List.Sublist.cons _ (List.Sublist.refl _))) _) ⟨cp_some hx rfl, rfl⟩ (.inl rfl)
 try simp only [zA,zO,zN,zM,zP,zQ,zD,zF,gd] at hb4
 have hc1 : firstE (check1 s) = none := (firstE_tl hnm).trans ((firstE_tl hlb).trans ((firstE_tl (by unfold atMostE; rw [if_neg (by omega)])).trans rfl))
 refine AC_skip ?_
 refine AC_seq (AC_region ?_)
 refine ac rfl rfl rfl ?_
 refine AL_nil ?_
 refine AC_seq ?_
 refine AC_seq (AC_region ?_)
 refine ac rfl rfl rfl ?_
 refine AL_nil ?_
 refine AC_block ?_
 refine AC_loopK (G := Nat × Own) [(1, _)] (fun g => g.1 ≤ s.init.length ∧ g.2.ok ((s.init.take g.1).map ctrAV) ∧ ∀ j, j < g.1 → ctrAt [] [] s.init 0 0 j = none) (fun g => [(6, ownAV g.2 11 ((s.init.take g.1).map ctrAV)), (7, .int .i64 (g.1 : Int))]) (fun g => (b1, .cells (spcL s)) :: (ownSt g.2 150 11 ((s.init.take g.1).map ctrAV) ++ st)) (fun g => s.init.length - g.1) ((0, .nil)) (⟨Nat.zero_le _, by simp [Own.ok], fun j h => absurd h (Nat.not_lt_zero _)⟩) (Sub.l (List.Sublist.refl _)) (.cons rfl (Le.refl _) .nil) (.cons rfl (by first | exact Le.refl _ | exact Le.nils | exact Le.row _ _ _ _ | exact Le.of_eq (by first | rfl | (simp; done) | (push_cast; rfl) | (simp; omega))) (.cons rfl (by first | exact Le.refl _ | exact Le.nils | exact Le.row _ _ _ _ | exact Le.of_eq (by first | rfl | (simp; done) | (push_cast; rfl) | (simp; omega))) .nil)) ?_
 rintro ⟨i, p⟩ ⟨hi, hq, hall⟩
 try dsimp only
 simp only [List.cons_append, List.nil_append]
 dsimp only at hi hq hall
 refine AC_seq ?_
 refine AC_seq (AC_region ?_)
 refine mv rfl rfl rfl rfl ?_
 refine fl 2 ?_
 refine ld 0 ?_
 refine p_ (by first | exact S_lenM (e := 150) rfl (.tmp rfl) (by kernel_rfl) | exact S_len (e := 150) rfl (.tmp rfl) (by kernel_rfl)) ?_
 refine p_ (S_lss rfl (.tmp rfl) (.tmp rfl)) ?_
 refine AL_nil ?_
 refine AC_cond (.tmp rfl) (fun hb5 => ?_) (fun hb5 => ?_)
 ·try simp only [zA,zO,zN,zM,zP,zQ,zD,zF,gd] at hb5
  have hil : i < s.init.length := by omega
  have hif : fits (i : Int) := by unfold fits; omega
  have hat := at_short (name := initN) (by decide) hil (by omega)
  have hsh := (short_ctr (ns := namesTo [] s.init i) (ps := portsTo [] s.init i) (a := 0) (b := 0) (c := s.init[i]'hil) (by have := hpi _ (List.getElem_mem hil); omega)).text
  refine AC_skip ?_
  refine AC_seq ?_
  refine AC_block ?_
  refine AC_seq (AC_region ?_)
  refine fl 2 ?_
  refine ld 0 ?_
  refine mv rfl rfl rfl rfl ?_
  refine p_ (S_elemN (e := 150) 11 rfl (.tmp rfl) (.tmp rfl) (by kernel_rfl) (by kernel_rfl) (by omega) (fun _ => rfl)) ?_
  refine p_ (S_loadPN (m := 11) rfl (.tmp rfl) (by kernel_rfl) (by first | exact Nat.le_of_ble_eq_true rfl | (simp; omega) | simp)) ?_
  refine mv rfl rfl rfl rfl ?_
  refine p_ (S_pcall rfl (AEvs.cons (y := ctrAV (s.init[i]'hil)) (.tmp rfl) (AEvs.cons ((AEv.tmp rfl).le (Le_own hq)) (AEvs.cons (AEv.const _) AEvs.nil))) ((ref06_one_ok (s.init[i]'hil) (s.init.take i) true (by have := hpi _ (List.getElem_mem hil); omega) (by have := hpi _ (List.getElem_mem hil); omega) (by have := hpi _ (List.getElem_mem hil); omega) (by rw [List.length_take]; omega) (fun x hx => by have := hpi x (List.mem_of_mem_take hx); omega)).of_eq (show _ = cpAV (ctrE (namesTo [] s.init i) (portsTo [] s.init i) (s.init[i]'hil) 0 0) from rfl))) ?_
  refine mv rfl rfl rfl rfl ?_
  refine ex 0 ?_
  refine ex 1 ?_
  refine as_ rfl rfl rfl rfl ?_
  refine as_ rfl rfl rfl rfl ?_
  refine AL_nil ?_
  refine AC_seq ?_
  refine AC_seq (AC_region ?_)
  refine mv rfl rfl rfl rfl ?_
  refine p_ (S_neq rfl (.tmp rfl) (AEv.const _)) ?_
  refine AL_nil ?_
  refine AC_cond (.tmp rfl) (fun hb6 => ?_) (fun hb6 => ?_)
  ·try simp only [zA,zO,zN,zM,zP,zQ,zD,zF,gd] at hb6
   have hne : (ctrE (namesTo [] s.init i) (portsTo [] s.init i) (s.init[i]'hil) 0 0) ≠ none := fun h => hb6 (congrArg erCode h)
   have hx : (checkE s) = erIn (ctrE (namesTo [] s.init i) (portsTo [] s.init i) (s.init[i]'hil) 0 0) (atT initN (i : Int)) := by
    obtain ⟨y, hy⟩ := Option.ne_none_iff_exists'.1 hne
    obtain ⟨z, hz⟩ : ∃ z, erIn (ctrE (namesTo [] s.init i) (portsTo [] s.init i) (s.init[i]'hil) 0 0) (atT initN (i : Int)) = some z := by rw [hy]; exact ⟨_, rfl⟩
    rw [hz]
    exact check_bad2 hc1 (firstE_hd (eachE_at hil (by rw [ctrAt_at hil, hz]) (fun j hj => by rw [hall j hj]; rfl)))
   refine AC_seq (AC_region ?_)
   refine mv rfl rfl rfl rfl ?_
   refine mv rfl rfl rfl rfl ?_
   refine p_ (S_pcall rfl (AEvs.cons (AEv.S _) (AEvs.cons (.tmp rfl) AEvs.nil)) (ref06_at_ok initN (by decide) (i : Int) hif)) ?_
   refine p_ (S_cat rfl (.tmp rfl) (AEv.S _) (by first | omega | (simp only [List.length_append, List.length_cons, List.length_nil]; omega))) ?_
   refine mv rfl rfl rfl rfl ?_
   refine p_ (S_cat rfl (.tmp rfl) (.tmp rfl) (by first | omega | (simp only [List.length_append, List.length_cons, List.length_nil]; omega))) ?_
   refine as_ rfl rfl rfl rfl ?_
   refine as_ rfl rfl rfl rfl ?_
   refine AL_nil (AC_ret ?_)
   refine ret_tmps (ts := [2, 3]) st rfl (by decide) rfl (Sub.l (List.Sublist.cons _ (List.sublist_append_right _ _))) (Conv.refl (Sub.l (List.Sublist.cons _ (List.sublist_append_right _ _))) _) ⟨cp_in (well_ctr _ _ _ _ _) hne hx rfl, rfl⟩ (.inl rfl)
  try simp only [zA,zO,zN,zM,zP,zQ,zD,zF,gd] at hb6
  have hnn : (ctrE (namesTo [] s.init i) (portsTo [] s.init i) (s.init[i]'hil) 0 0) = none := (well_ctr _ _ _ _ _).code.1 hb6
  refine AC_skip ?_
  refine AC_region ?_
  refine mv rfl rfl rfl rfl ?_
  refine fl 2 ?_
  refine ld 0 ?_
  refine mv rfl rfl rfl rfl ?_
  refine p_ (S_elemN (e := 150) 11 rfl (.tmp rfl) (.tmp rfl) (by kernel_rfl) (by kernel_rfl) (by omega) (fun _ => rfl)) ?_
  refine p_ (S_loadPN (m := 11) rfl (.tmp rfl) (by kernel_rfl) (by first | exact Nat.le_of_ble_eq_true rfl | (simp; omega) | simp)) ?_
  refine p_ (S_buildSlice (e := 150) 11 rfl (AEvs.cons (.tmp rfl) AEvs.nil) rfl (by kernel_rfl) (by kernel_rfl) (by intro y hy; simp only [List.mem_cons, List.not_mem_nil, or_false] at hy; rcases hy with rfl <;> exact ⟨rfl, rfl⟩) (by decide) (by decide) (by decide)) ?_
  refine s_ (S_appendT (f := ctrAV) (l := s.init) (i := i) (e := 150) (size := 11) (bytes := 120) (p := p) (by omega) ([_]) (st) rfl (.tmp rfl) (.tmp rfl) rfl hq (by kernel_rfl) (fun _ => ⟨rfl, rfl⟩) (by omega) (by omega)) ?_
  rintro _ _ ⟨b8, k8, cap8, hx8, rfl, rfl⟩
  refine as_ rfl rfl rfl rfl ?_
  refine AL_nil ?_
  refine AC_region ?_
  refine mv rfl rfl rfl rfl ?_
  refine p_ (S_addI rfl (.tmp rfl) (AEv.const _) (by omega) (by omega)) ?_
  refine as_ rfl rfl rfl rfl ?_
  refine AL_nil ?_
  refine ⟨(i + 1, .row b8 k8 cap8), ⟨by dsimp only; omega, hx8, fun j h => ?_⟩, by dsimp only; omega, (Sub.l (List.Sublist.refl _)), (.cons rfl (by first | exact Le.refl _ | exact Le.nils | exact Le.row _ _ _ _ | exact Le.of_eq (by first | rfl | (simp; done) | (push_cast; rfl) | (simp; omega))) (.cons rfl (by first | exact Le.refl _ | exact Le.nils | exact Le.row _ _ _ _ | exact Le.of_eq (by first | rfl | (simp; done) | (push_cast; rfl) | (simp; omega))) .nil)), (.cons rfl (Le.refl _) .nil)⟩
  rcases Nat.lt_or_ge j i with h' | h'
  ·exact hall j h'
  ·have : j = i := by dsimp only at h; omega
   subst this
   rw [ctrAt_at hil]; exact hnn
 try simp only [zA,zO,zN,zM,zP,zQ,zD,zF,gd] at hb5
 obtain rfl : i = s.init.length := by omega
 rw [List.take_length] at hq ⊢
 have hci : ctrsE initN [] [] s.init 0 0 = none := eachE_all fun j hj => by rw [hall j hj]; rfl
 refine AC_exit ?_
 refine AC_seq ?_
 refine AC_seq (AC_region ?_)
 refine fl 3 ?_
 refine ld 0 ?_
 refine p_ (by first | exact S_lenM (e := 150) rfl (.tmp rfl) (by kernel_rfl) | exact S_len (e := 150) rfl (.tmp rfl) (by kernel_rfl)) ?_
 refine p_ (S_lss rfl (.tmp rfl) (AEv.const _)) ?_
 refine mv rfl rfl rfl rfl ?_
 refine g_ (fun _ => fA 3) ?_
 refine g_ (fun _ => lA 0) ?_
 refine g_ (fun _ => by first | exact S_lenM (e := 150) rfl (AEv.cd (.tmp rfl)) (by kernel_rfl) | exact S_len (e := 150) rfl (AEv.cd (.tmp rfl)) (by kernel_rfl)) ?_
 refine g_ (fun _ => S_gtr rfl (AEv.cd (.tmp rfl)) (AEv.const _)) ?_
 refine p_ (S_or rfl (.tmp rfl) (fun hp21 => (AEv.cd (.tmp rfl)))) ?_
 refine AL_nil ?_
 refine AC_cond (.tmp rfl) (fun hb22 => ?_) (fun hb22 => ?_)
 ·try simp only [zA,zO,zN,zM,zP,zQ,zD,zF,gd] at hb22
  have hx : (checkE s) = some (2, [mainN]) := check_bad2 hc1 ((firstE_tl hci).trans (firstE_hd (by unfold atMostE; rw [if_pos (by omega)])))
  refine AC_seq (AC_region ?_)
  refine ac rfl rfl rfl ?_
  refine p_ (S_assign rfl (AEv.S _)) ?_
  refine AL_nil (AC_ret ?_)
  refine ret_tmps (ts := [2, 3]) st rfl (by decide) rfl (Sub.l (List.Sublist.cons _ (List.sublist_append_right _ _))) (Conv.refl (Sub.l (List.Sublist.cons _ (List.sublist_append_right _ _))) _) ⟨cp_some hx rfl, rfl⟩ (.inl rfl)
 try simp only [zA,zO,zN,zM,zP,zQ,zD,zF,gd] at hb22
 have hc2 : firstE (check2 s) = none := (firstE_tl hci).trans ((firstE_tl (by unfold atMostE; rw [if_neg (by omega)])).trans rfl)
 refine AC_skip ?_
 refine AC_seq ?_
 refine AC_seq (AC_region ?_)
 refine ac rfl rfl rfl ?_
 refine AL_nil ?_
 refine AC_block ?_
 refine AC_loopK (G := Nat × Own) [(1, _)] (fun g => g.1 ≤ s.main.length ∧ g.2.ok ((s.init ++ s.main.take g.1).map ctrAV) ∧ ∀ j, j < g.1 → ctrAt (namesTo [] s.init s.init.length) (portsTo [] s.init s.init.length) s.main 3 1000 j = none) (fun g => [(6, ownAV g.2 11 ((s.init ++ s.main.take g.1).map ctrAV)), (8, .int .i64 (g.1 : Int))]) (fun g => (b1, .cells (spcL s)) :: (ownSt g.2 150 11 ((s.init ++ s.main.take g.1).map ctrAV) ++ st)) (fun g => s.main.length - g.1) ((0, p)) (⟨Nat.zero_le _, by simpa using hq, fun j h => absurd h (Nat.not_lt_zero _)⟩) (by simp only [List.take_zero, List.append_nil]; exact Sub.l (List.Sublist.refl _)) (.cons rfl (Le.refl _) .nil) (.cons rfl (by first | exact Le.refl _ | exact Le.nils | exact Le.row _ _ _ _ | exact Le.of_eq (by first | rfl | (simp; done) | (push_cast; rfl) | (simp; omega))) (.cons rfl (by first | exact Le.refl _ | exact Le.nils | exact Le.row _ _ _ _ | exact Le.of_eq (by first | rfl | (simp; done) | (push_cast; rfl) | (simp; omega))) .nil)) ?_
 rintro ⟨i, p⟩ ⟨hi, hq, hall⟩
 try dsimp only
 simp only [List.cons_append, List.nil_append]
 dsimp only at hi hq hall
 refine AC_seq ?_
 refine AC_seq (AC_region ?_)
 refine mv rfl rfl rfl rfl ?_
 refine fl 3 ?_
 refine ld 0 ?_
 refine p_ (by first | exact S_lenM (e := 150) rfl (.tmp rfl) (by kernel_rfl) | exact S_len (e := 150) rfl (.tmp rfl) (by kernel_rfl)) ?_
 refine p_ (S_lss rfl (.tmp rfl) (.tmp rfl)) ?_
 refine AL_nil ?_
 refine AC_cond (.tmp rfl) (fun hb23 => ?_) (fun hb23 => ?_)
 ·try simp only [zA,zO,zN,zM,zP,zQ,zD,zF,gd] at hb23
  have hil : i < s.main.length := by omega
  have hif : fits (i : Int) := by unfold fits; omega
  have hat := at_short (name := mainN) (by decide) hil (by omega)
  have hsh := (short_ctr (ns := (s.init ++ s.main.take i).map Ctr.name) (ps := (s.init ++ s.main.take i).flatMap Ctr.ports) (a := 3) (b := 1000) (c := s.main[i]'hil) (by have := hpm _ (List.getElem_mem hil); omega)).text
  refine AC_skip ?_
  refine AC_seq ?_
  refine AC_block ?_
  refine AC_seq (AC_region ?_)
  refine fl 3 ?_
  refine ld 0 ?_
  refine mv rfl rfl rfl rfl ?_
  refine p_ (S_elemN (e := 150) 11 rfl (.tmp rfl) (.tmp rfl) (by kernel_rfl) (by kernel_rfl) (by omega) (fun _ => rfl)) ?_
  refine p_ (S_loadPN (m := 11) rfl (.tmp rfl) (by kernel_rfl) (by first | exact Nat.le_of_ble_eq_true rfl | (simp; omega) | simp)) ?_
  refine mv rfl rfl rfl rfl ?_
  refine p_ (S_pcall rfl (AEvs.cons (y := ctrAV (s.main[i]'hil)) (.tmp rfl) (AEvs.cons ((AEv.tmp rfl).le (Le_own hq)) (AEvs.cons (AEv.const _) AEvs.nil))) ((ref06_one_ok (s.main[i]'hil) (s.init ++ s.main.take i) false (by have := hpm _ (List.getElem_mem hil); omega) (by have := hpm _ (List.getElem_mem hil); omega) (by have := hpm _ (List.getElem_mem hil); omega) (by rw [List.length_append, List.length_take]; omega) (fun x hx => (List.mem_append.1 hx).elim (fun hx => by have := hpi x hx; omega) (fun hx => by have := hpm x (List.mem_of_mem_take hx); omega))).of_eq (show _ = cpAV (ctrE ((s.init ++ s.main.take i).map Ctr.name) ((s.init ++ s.main.take i).flatMap Ctr.ports) (s.main[i]'hil) 3 1000) from rfl))) ?_
  refine mv rfl rfl rfl rfl ?_
  refine ex 0 ?_
  refine ex 1 ?_
  refine as_ rfl rfl rfl rfl ?_
  refine as_ rfl rfl rfl rfl ?_
  refine AL_nil ?_
  refine AC_seq ?_
  refine AC_seq (AC_region ?_)
  refine mv rfl rfl rfl rfl ?_
  refine p_ (S_neq rfl (.tmp rfl) (AEv.const _)) ?_
  refine AL_nil ?_
  refine AC_cond (.tmp rfl) (fun hb24 => ?_) (fun hb24 => ?_)
  ·try simp only [zA,zO,zN,zM,zP,zQ,zD,zF,gd] at hb24
   have hne : (ctrE ((s.init ++ s.main.take i).map Ctr.name) ((s.init ++ s.main.take i).flatMap Ctr.ports) (s.main[i]'hil) 3 1000) ≠ none := fun h => hb24 (congrArg erCode h)
   have hx : (checkE s) = erIn (ctrE ((s.init ++ s.main.take i).map Ctr.name) ((s.init ++ s.main.take i).flatMap Ctr.ports) (s.main[i]'hil) 3 1000) (atT mainN (i : Int)) := by
    obtain ⟨y, hy⟩ := Option.ne_none_iff_exists'.1 hne
    obtain ⟨z, hz⟩ : ∃ z, erIn (ctrE ((s.init ++ s.main.take i).map Ctr.name) ((s.init ++ s.main.take i).flatMap Ctr.ports) (s.main[i]'hil) 3 1000) (atT mainN (i : Int)) = some z := by rw [hy]; exact ⟨_, rfl⟩
    rw [hz]
    exact (check_good hc1 hc2).trans (firstE_hd (eachE_at hil (by rw [ctrAt_at hil, seen_names, seen_ports, hz]) (fun j hj => by rw [hall j hj]; rfl)))
   refine AC_seq (AC_region ?_)
   refine mv rfl rfl rfl rfl ?_
   refine mv rfl rfl rfl rfl ?_
   refine p_ (S_pcall rfl (AEvs.cons (AEv.S _) (AEvs.cons (.tmp rfl) AEvs.nil)) (ref06_at_ok mainN (by decide) (i : Int) hif)) ?_
   refine p_ (S_cat rfl (.tmp rfl) (AEv.S _) (by first | omega | (simp only [List.length_append, List.length_cons, List.length_nil]; omega))) ?_
   refine mv rfl rfl rfl rfl ?_
   refine p_ (S_cat rfl (.tmp rfl) (.tmp rfl) (by first | omega | (simp only [List.length_append, List.length_cons, List.length_nil]; omega))) ?_
   refine as_ rfl rfl rfl rfl ?_
   refine as_ rfl rfl rfl rfl ?_
   refine AL_nil (AC_ret ?_)
   refine ret_tmps (ts := [2, 3]) st rfl (by decide) rfl (Sub.l (List.Sublist.cons _ (List.sublist_append_right _ _))) (Conv.refl (Sub.l (List.Sublist.cons _ (List.sublist_append_right _ _))) _) ⟨cp_in (well_ctr _ _ _ _ _) hne hx rfl, rfl⟩ (.inl rfl)
  try simp only [zA,zO,zN,zM,zP,zQ,zD,zF,gd] at hb24
  have hnn : (ctrE ((s.init ++ s.main.take i).map Ctr.name) ((s.init ++ s.main.take i).flatMap Ctr.ports) (s.main[i]'hil) 3 1000) = none := (well_ctr _ _ _ _ _).code.1 hb24
  refine AC_skip ?_
  refine AC_region ?_
  refine mv rfl rfl rfl rfl ?_
  refine fl 3 ?_
  refine ld 0 ?_
  refine mv rfl rfl rfl rfl ?_
  refine p_ (S_elemN (e := 150) 11 rfl (.tmp rfl) (.tmp rfl) (by kernel_rfl) (by kernel_rfl) (by omega) (fun _ => rfl)) ?_
  refine p_ (S_loadPN (m := 11) rfl (.tmp rfl) (by kernel_rfl) (by first | exact Nat.le_of_ble_eq_true rfl | (simp; omega) | simp)) ?_
  refine p_ (S_buildSlice (e := 150) 11 rfl (AEvs.cons (.tmp rfl) AEvs.nil) rfl (by kernel_rfl) (by kernel_rfl) (by intro y hy; simp only [List.mem_cons, List.not_mem_nil, or_false] at hy; rcases hy with rfl <;> exact ⟨rfl, rfl⟩) (by decide) (by decide) (by decide)) ?_
  refine s_ (S_appendM (f := ctrAV) (l := s.init ++ s.main.take i) (l2 := [(s.main[i]'hil)]) (e := 150) (size := 11) (bytes := 120) (p := p) ([_]) (st) rfl (.tmp rfl) (.tmp rfl) rfl hq (by kernel_rfl) (by simp) (fun _ => ⟨rfl, rfl⟩) (by simp only [List.length_append, List.length_take, List.length_singleton]; omega) (by simp only [List.length_append, List.length_take, List.length_singleton]; omega)) ?_
  rintro _ _ ⟨b8, k8, cap8, hx8, rfl, rfl⟩
  refine as_ rfl rfl rfl rfl ?_
  refine AL_nil ?_
  refine AC_region ?_
  refine mv rfl rfl rfl rfl ?_
  refine p_ (S_addI rfl (.tmp rfl) (AEv.const _) (by omega) (by omega)) ?_
  refine as_ rfl rfl rfl rfl ?_
  refine AL_nil ?_
  have e9 : s.init ++ s.main.take i ++ [(s.main[i]'hil)] = s.init ++ s.main.take (i + 1) := by rw [List.append_assoc, take_snoc]
  rw [e9] at hx8 ⊢
  refine ⟨(i + 1, .row b8 k8 cap8), ⟨by dsimp only; omega, hx8, fun j h => ?_⟩, by dsimp only; omega, (Sub.l (List.Sublist.refl _)), (.cons rfl (by first | exact Le.refl _ | exact Le.nils | exact Le.row _ _ _ _ | exact Le.of_eq (by first | rfl | (simp; done) | (push_cast; rfl) | (simp; omega))) (.cons rfl (by first | exact Le.refl _ | exact Le.nils | exact Le.row _ _ _ _ | exact Le.of_eq (by first | rfl | (simp; done) | (push_cast; rfl) | (simp; omega))) .nil)), (.cons rfl (Le.refl _) .nil)⟩
  rcases Nat.lt_or_ge j i with h' | h'
  ·exact hall j h'
  ·have : j = i := by dsimp only at h; omega
   subst this
   rw [ctrAt_at hil, seen_names, seen_ports]; exact hnn
 try simp only [zA,zO,zN,zM,zP,zQ,zD,zF,gd] at hb23
 have hcm : ctrsE mainN (namesTo [] s.init s.init.length) (portsTo [] s.init s.init.length) s.main 3 1000 = none := eachE_all fun j hj => by rw [hall j (by omega)]; rfl
 have hc3 := (check_good hc1 hc2).trans (firstE_tl hcm)
 refine AC_exit ?_
 refine AC_seq ?_
 refine AC_seq (AC_region ?_)
 refine fl 4 ?_
 refine ld 0 ?_
 refine p_ (S_lss rfl (.tmp rfl) (AEv.const _)) ?_
 refine mv rfl rfl rfl rfl ?_
 refine g_ (fun _ => fA 4) ?_
 refine g_ (fun _ => lA 0) ?_
 refine g_ (fun _ => S_gtr rfl (AEv.cd (.tmp rfl)) (AEv.const _)) ?_
 refine p_ (S_or rfl (.tmp rfl) (fun hp36 => (AEv.cd (.tmp rfl)))) ?_
 refine AL_nil ?_
 refine AC_cond (.tmp rfl) (fun hb37 => ?_) (fun hb37 => ?_)
 ·try simp only [zA,zO,zN,zM,zP,zQ,zD,zF,gd] at hb37
  have hx : (checkE s) = some (1, [[114, 101, 115, 116, 97, 114, 116]]) := hc3.trans (firstE_hd (by unfold withinE; rw [if_pos (by omega)]))
  refine AC_seq (AC_region ?_)
  refine ac rfl rfl rfl ?_
  refine p_ (S_assign rfl (AEv.S _)) ?_
  refine AL_nil (AC_ret ?_)
  refine ret_tmps (ts := [2, 3]) st rfl (by decide) rfl (Sub.l (List.Sublist.cons _ (List.sublist_append_right _ _))) (Conv.refl (Sub.l (List.Sublist.cons _ (List.sublist_append_right _ _))) _) ⟨cp_some hx rfl, rfl⟩ (.inl rfl)
 try simp only [zA,zO,zN,zM,zP,zQ,zD,zF,gd] at hb37
 have hc4 := hc3.trans (firstE_tl (by unfold withinE; rw [if_neg (by omega)]))
 refine AC_skip ?_
 refine AC_seq ?_
 refine AC_seq (AC_region ?_)
 refine fl 5 ?_
 refine ld 0 ?_
 refine p_ (S_lss rfl (.tmp rfl) (AEv.const _)) ?_
 refine mv rfl rfl rfl rfl ?_
 refine g_ (fun _ => fA 5) ?_
 refine g_ (fun _ => lA 0) ?_
 refine g_ (fun _ => S_gtr rfl (AEv.cd (.tmp rfl)) (AEv.const _)) ?_
 refine p_ (S_or rfl (.tmp rfl) (fun hp47 => (AEv.cd (.tmp rfl)))) ?_
 refine AL_nil ?_
 refine AC_cond (.tmp rfl) (fun hb48 => ?_) (fun hb48 => ?_)
 ·try simp only [zA,zO,zN,zM,zP,zQ,zD,zF,gd] at hb48
  have hx : (checkE s) = some (1, [[103, 114, 97, 99, 101]]) := hc4.trans (firstE_hd (by unfold withinE; rw [if_pos (by omega)]))
  refine AC_seq (AC_region ?_)
  refine ac rfl rfl rfl ?_
  refine p_ (S_assign rfl (AEv.S _)) ?_
  refine AL_nil (AC_ret ?_)
  refine ret_tmps (ts := [2, 3]) st rfl (by decide) rfl (Sub.l (List.Sublist.cons _ (List.sublist_append_right _ _))) (Conv.refl (Sub.l (List.Sublist.cons _ (List.sublist_append_right _ _))) _) ⟨cp_some hx rfl, rfl⟩ (.inl rfl)
 try simp only [zA,zO,zN,zM,zP,zQ,zD,zF,gd] at hb48
 have hc5 := hc4.trans (firstE_tl (by unfold withinE; rw [if_neg (by omega)]))
 refine AC_skip ?_
 refine AC_seq ?_
 refine AC_seq (AC_region ?_)
 refine fl 6 ?_
 refine ld 0 ?_
 refine p_ (S_lss rfl (.tmp rfl) (AEv.const _)) ?_
 refine mv rfl rfl rfl rfl ?_
 refine g_ (fun _ => fA 6) ?_
 refine g_ (fun _ => lA 0) ?_
 refine g_ (fun _ => S_gtr rfl (AEv.cd (.tmp rfl)) (AEv.const _)) ?_
 refine p_ (S_or rfl (.tmp rfl) (fun hp58 => (AEv.cd (.tmp rfl)))) ?_
 refine AL_nil ?_
 refine AC_cond (.tmp rfl) (fun hb59 => ?_) (fun hb59 => ?_)
 ·try simp only [zA,zO,zN,zM,zP,zQ,zD,zF,gd] at hb59
  have hx : (checkE s) = some (1, [[112, 114, 105, 111]]) := hc5.trans (firstE_hd (by unfold withinE; rw [if_pos (by omega)]))
  refine AC_seq (AC_region ?_)
  refine ac rfl rfl rfl ?_
  refine p_ (S_assign rfl (AEv.S _)) ?_
  refine AL_nil (AC_ret ?_)
  refine ret_tmps (ts := [2, 3]) st rfl (by decide) rfl (Sub.l (List.Sublist.cons _ (List.sublist_append_right _ _))) (Conv.refl (Sub.l (List.Sublist.cons _ (List.sublist_append_right _ _))) _) ⟨cp_some hx rfl, rfl⟩ (.inl rfl)
 try simp only [zA,zO,zN,zM,zP,zQ,zD,zF,gd] at hb59
 have hx : (checkE s) = none := hc5.trans ((firstE_tl (by unfold withinE; rw [if_neg (by omega)])).trans rfl)
 refine AC_skip ?_
 refine AC_seq (AC_region ?_)
 refine ac rfl rfl rfl ?_
 refine p_ (S_assign rfl (AEv.S _)) ?_
 refine AL_nil (AC_ret ?_)
 refine ret_tmps (ts := [2, 3]) st rfl (by decide) rfl (Sub.l (List.Sublist.cons _ (List.sublist_append_right _ _))) (Conv.refl (Sub.l (List.Sublist.cons _ (List.sublist_append_right _ _))) _) ⟨cp_none hx, rfl⟩ (.inl rfl)
theorem ref06_Right_ok (s : Spc) (hl : lightS s = true) : PCalls Tryz.prog 71 [spcAV s] (.bool (checkE s).isNone) := by
 intro st
 refine co 12 Tryz.func71 ?_
 refine AC_seq (AC_region ?_)
 refine s_ (S_box rfl (.tmp rfl)) ?_
 rintro _ _ ⟨b1, rfl, rfl⟩
 refine ac rfl rfl rfl ?_
 refine AL_nil (AC_seq (AC_region ?_))
 refine ldN 7 0 ?_
 refine p_ (S_pcall rfl (AEvs.cons (.tmp rfl) AEvs.nil) (ref06_Check_ok s hl)) ?_
 refine mv rfl rfl rfl rfl ?_
 refine ex 0 ?_
 refine ex 1 ?_
 refine as_ rfl rfl rfl rfl ?_
 refine as_ rfl rfl rfl rfl ?_
 refine AL_nil (AC_seq (AC_region ?_))
 refine mv rfl rfl rfl rfl ?_
 refine p_ (S_eql rfl (.tmp rfl) (AEv.const _)) ?_
 refine as_ rfl rfl rfl rfl ?_
 refine AL_nil (AC_ret ?_)
 refine ret_tmp st rfl rfl (Sub.l (List.sublist_cons_self _ _)) (Conv.refl (Sub.l (List.sublist_cons_self _ _)) _) ⟨congrArg AV.bool (well_check s).isNone.symm, rfl⟩ (.inl rfl)
theorem ref09_within_ok (n lo hi : Int) : PCalls Tryz.prog 40 [.int .i64 n, .int .i64 lo, .int .i64 hi] (.bool (decide (lo ≤ n ∧ n ≤ hi))) := by
 intro st
 refine co 15 Tryz.func40 ?_
 refine AC_seq (AC_region ?_)
 refine ac rfl rfl rfl ?_
 refine AL_nil (AC_seq (AC_region ?_))
 refine mv rfl rfl rfl rfl ?_
 refine mv rfl rfl rfl rfl ?_
 refine p_ (S_geq rfl (.tmp rfl) (.tmp rfl)) ?_
 refine mv rfl rfl rfl rfl ?_
 refine g_ (fun _ => mA) ?_
 refine g_ (fun _ => mA) ?_
 refine g_ (fun _ => S_leq rfl (AEv.cd (.tmp rfl)) (AEv.cd (.tmp rfl))) ?_
 refine an ?_
 refine as_ rfl rfl rfl rfl ?_
 refine AL_nil (AC_ret ?_)
 refine ret_tmp st rfl rfl (Sub.l (List.Sublist.refl _)) (Conv.refl (Sub.l (List.Sublist.refl _)) _) ⟨congrArg AV.bool (by by_cases h1 : lo ≤ n <;> by_cases h2 : n ≤ hi <;> simp [h1, h2]), rfl⟩ (.inl rfl)
theorem ref09_bareSpec_ok (s : Spc) : PCalls Tryz.prog 82 [spcAV s] (.bool (emptyB s)) := by
 intro st
 refine co 39 Tryz.func82 ?_
 refine AC_seq (AC_region ?_)
 refine s_ (S_box rfl (.tmp rfl)) ?_
 rintro _ _ ⟨b1, rfl, rfl⟩
 refine ac rfl rfl rfl ?_
 refine AL_nil (AC_seq (AC_region ?_))
 refine fl 0 ?_
 refine ld 0 ?_
 refine p_ (S_eqS rfl (.tmp rfl) (AEv.S _)) ?_
 refine mv rfl rfl rfl rfl ?_
 refine g_ (fun _ => fA 1) ?_
 refine g_ (fun _ => lA 0) ?_
 refine g_ (fun _ => by first | exact S_lenM (e := 140) rfl (AEv.cd (.tmp rfl)) (by kernel_rfl) | exact S_len (e := 140) rfl (AEv.cd (.tmp rfl)) (by kernel_rfl)) ?_
 refine g_ (fun _ => S_eql rfl (AEv.cd (.tmp rfl)) (AEv.const _)) ?_
 refine an ?_
 refine mv rfl rfl rfl rfl ?_
 refine g_ (fun _ => fA 2) ?_
 refine g_ (fun _ => lA 0) ?_
 refine g_ (fun _ => by first | exact S_lenM (e := 150) rfl (AEv.cd (.tmp rfl)) (by kernel_rfl) | exact S_len (e := 150) rfl (AEv.cd (.tmp rfl)) (by kernel_rfl)) ?_
 refine g_ (fun _ => S_eql rfl (AEv.cd (.tmp rfl)) (AEv.const _)) ?_
 refine an ?_
 refine mv rfl rfl rfl rfl ?_
 refine g_ (fun _ => fA 3) ?_
 refine g_ (fun _ => lA 0) ?_
 refine g_ (fun _ => by first | exact S_lenM (e := 150) rfl (AEv.cd (.tmp rfl)) (by kernel_rfl) | exact S_len (e := 150) rfl (AEv.cd (.tmp rfl)) (by kernel_rfl)) ?_
 refine g_ (fun _ => S_eql rfl (AEv.cd (.tmp rfl)) (AEv.const _)) ?_
 refine an ?_
 refine mv rfl rfl rfl rfl ?_
 refine g_ (fun _ => fA 4) ?_
 refine g_ (fun _ => lA 0) ?_
 refine g_ (fun _ => S_eql rfl (AEv.cd (.tmp rfl)) (AEv.const _)) ?_
 refine an ?_
 refine mv rfl rfl rfl rfl ?_
 refine g_ (fun _ => fA 5) ?_
 refine g_ (fun _ => lA 0) ?_
 refine g_ (fun _ => S_eql rfl (AEv.cd (.tmp rfl)) (AEv.const _)) ?_
 refine an ?_
 refine mv rfl rfl rfl rfl ?_
 refine g_ (fun _ => fA 6) ?_
 refine g_ (fun _ => lA 0) ?_
 refine g_ (fun _ => S_eql rfl (AEv.cd (.tmp rfl)) (AEv.const _)) ?_
 refine an ?_
 refine as_ rfl rfl rfl rfl ?_
 refine AL_nil (AC_ret ?_)
 refine ret_tmp st rfl rfl (Sub.l (List.sublist_cons_self _ _)) (Conv.refl (Sub.l (List.sublist_cons_self _ _)) _) ⟨rfl, rfl⟩ (.inl rfl)
theorem ref09_bare_ok (p : Pod) : PCalls Tryz.prog 39 [podAV p] (.bool (bareP p)) := by
 intro st
 refine co 37 Tryz.func39 ?_
 have hrv : decide ((p.ver : Int) = 0) = decide (p.ver = 0) := decide_eq_decide.2 (by omega)
 have hem : emptyB p.spec = sameS p.spec spc0 := by rw [Bool.eq_iff_iff, empty_iff, sameS_iff]
 refine AC_seq (AC_region ?_)
 refine s_ (S_box rfl (.tmp rfl)) ?_
 rintro _ _ ⟨b1, rfl, rfl⟩
 refine ac rfl rfl rfl ?_
 refine AL_nil (AC_seq (AC_region ?_))
 refine fl 0 ?_
 refine ld 0 ?_
 refine p_ (S_eql rfl (.tmp rfl) (AEv.const _)) ?_
 refine mv rfl rfl rfl rfl ?_
 refine g_ (fun _ => fA 1) ?_
 refine g_ (fun _ => lA 0) ?_
 refine g_ (fun _ => S_eql rfl (AEv.cd (.tmp rfl)) (AEv.const _)) ?_
 refine an ?_
 refine mv rfl rfl rfl rfl ?_
 refine g_ (fun _ => fA 2) ?_
 refine g_ (fun _ => lN 7 0) ?_
 refine g_ (fun _ => S_pcall rfl (AEvs.cons (AEv.cd (.tmp rfl)) AEvs.nil) (ref09_bareSpec_ok p.spec)) ?_
 refine an ?_
 refine mv rfl rfl rfl rfl ?_
 refine g_ (fun _ => fA 9) ?_
 refine g_ (fun _ => lA 0) ?_
 refine g_ (fun _ => S_eql rfl (AEv.cd (.tmp rfl)) (AEv.const _)) ?_
 refine an ?_
 refine mv rfl rfl rfl rfl ?_
 refine g_ (fun _ => fA 10) ?_
 refine g_ (fun _ => lA 0) ?_
 refine g_ (fun _ => by first | exact S_lenM (e := 3) rfl (AEv.cd (.tmp rfl)) (by kernel_rfl) | exact S_len (e := 3) rfl (AEv.cd (.tmp rfl)) (by kernel_rfl)) ?_
 refine g_ (fun _ => S_eql rfl (AEv.cd (.tmp rfl)) (AEv.const _)) ?_
 refine an ?_
 refine mv rfl rfl rfl rfl ?_
 refine g_ (fun _ => fA 11) ?_
 refine g_ (fun _ => lA 0) ?_
 refine g_ (fun _ => S_eql rfl (AEv.cd (.tmp rfl)) (AEv.const _)) ?_
 refine an ?_
 refine mv rfl rfl rfl rfl ?_
 refine g_ (fun _ => fA 12) ?_
 refine g_ (fun _ => lA 0) ?_
 refine g_ (fun _ => S_eql rfl (AEv.cd (.tmp rfl)) (AEv.const _)) ?_
 refine an ?_
 refine as_ rfl rfl rfl rfl ?_
 refine AL_nil (AC_ret ?_)
 refine ret_tmp st rfl rfl (Sub.l (List.sublist_cons_self _ _)) (Conv.refl (Sub.l (List.sublist_cons_self _ _)) _) ⟨congrArg AV.bool (by simp only [bareP, hrv, hem]), rfl⟩ (.inl rfl)
theorem ref09_Pod_ok (p : Pod) (hl : lightS p.spec = true) (hpl : p.ports.length ≤ 1000000) : PCalls Tryz.prog 24 [podAV p] (.bool (podMay p)) := by
 intro st
 refine co 55 Tryz.func24 ?_
 have hle : decide ((p.ports.length : Int) = (p.spec.main.length : Int)) = decide (p.ports.length = p.spec.main.length) := decide_eq_decide.2 (by omega)
 refine AC_seq (AC_region ?_)
 refine s_ (S_box rfl (.tmp rfl)) ?_
 rintro _ _ ⟨b1, rfl, rfl⟩
 refine ac rfl rfl rfl ?_
 refine AL_nil (AC_seq (AC_region ?_))
 refine fl 0 ?_
 refine ld 0 ?_
 refine p_ (S_pcall rfl (AEvs.cons (.tmp rfl) (AEvs.cons (AEv.const _) (AEvs.cons (AEv.const _) AEvs.nil))) (ref09_within_ok p.id 1 1073741824)) ?_
 refine mv rfl rfl rfl rfl ?_
 refine g_ (fun _ => fA 2) ?_
 refine g_ (fun _ => lN 7 0) ?_
 refine g_ (fun _ => S_pcall rfl (AEvs.cons (y := spcAV p.spec) (AEv.cd (.tmp rfl)) AEvs.nil) (ref06_Right_ok p.spec hl)) ?_
 refine an ?_
 refine mv rfl rfl rfl rfl ?_
 refine g_ (fun _ => fA 9) ?_
 refine g_ (fun _ => lA 0) ?_
 refine g_ (fun _ => S_pcall rfl (AEvs.cons (AEv.cd (.tmp rfl)) (AEvs.cons (AEv.const _) (AEvs.cons (AEv.const _) AEvs.nil))) (ref09_within_ok p.node 1 4)) ?_
 refine an ?_
 refine mv rfl rfl rfl rfl ?_
 refine g_ (fun _ => fA 10) ?_
 refine g_ (fun _ => lA 0) ?_
 refine g_ (fun _ => by first | exact S_lenM (e := 3) rfl (AEv.cd (.tmp rfl)) (by kernel_rfl) | exact S_len (e := 3) rfl (AEv.cd (.tmp rfl)) (by kernel_rfl)) ?_
 refine g_ (fun _ => fA 2) ?_
 refine g_ (fun _ => S_field 3 rfl (AEv.cd (.tmp rfl)) (by kernel_rfl)) ?_
 refine g_ (fun _ => lA 0) ?_
 refine g_ (fun _ => by first | exact S_lenM (e := 150) rfl (AEv.cd (.tmp rfl)) (by kernel_rfl) | exact S_len (e := 150) rfl (AEv.cd (.tmp rfl)) (by kernel_rfl)) ?_
 refine g_ (fun _ => S_eql rfl (AEv.cd (.tmp rfl)) (AEv.cd (.tmp rfl))) ?_
 refine an ?_
 refine mv rfl rfl rfl rfl ?_
 refine g_ (fun _ => fA 11) ?_
 refine g_ (fun _ => lA 0) ?_
 refine g_ (fun _ => S_pcall rfl (AEvs.cons (AEv.cd (.tmp rfl)) (AEvs.cons (AEv.const _) (AEvs.cons (AEv.const _) AEvs.nil))) (ref09_within_ok p.x 0 2)) ?_
 refine an ?_
 refine mv rfl rfl rfl rfl ?_
 refine g_ (fun _ => fA 12) ?_
 refine g_ (fun _ => lA 0) ?_
 refine g_ (fun _ => S_pcall rfl (AEvs.cons (AEv.cd (.tmp rfl)) (AEvs.cons (AEv.const _) (AEvs.cons (AEv.const _) AEvs.nil))) (ref09_within_ok p.y 0 1000)) ?_
 refine an ?_
 refine as_ rfl rfl rfl rfl ?_
 refine AL_nil ?_
 refine AC_seq ?_
 refine AC_seq (AC_region ?_)
 refine ac rfl rfl rfl ?_
 refine AL_nil ?_
 refine AC_block ?_
 refine AC_loopK (G := Nat) [(1, _), (2, _)] (fun g => g ≤ p.ports.length) (fun g => [(3, .bool ((decide (1 ≤ p.id ∧ p.id ≤ 1073741824) && (checkE p.spec).isNone && decide (1 ≤ p.node ∧ p.node ≤ 4) && decide (p.ports.length = p.spec.main.length) && decide (0 ≤ p.x ∧ p.x ≤ 2) && decide (0 ≤ p.y ∧ p.y ≤ 1000)) && (p.ports.take g).all (fun n => decide (0 ≤ n ∧ n ≤ 1073741824)))), (4, .int .i64 (g : Int))]) (fun g => (b1, .cells (podL p)) :: st) (fun g => p.ports.length - g) (0) (Nat.zero_le _) (Sub.l (List.Sublist.refl _)) (.cons rfl (Le.refl _) (.cons rfl (Le.refl _) .nil)) (.cons rfl (Le.of_eq (congrArg AV.bool (by simp only [List.take_zero, List.all_nil, Bool.and_true, hle]))) (.cons rfl (by first | exact Le.refl _ | exact Le.nils | exact Le.row _ _ _ _ | exact Le.of_eq (by first | rfl | (simp; done) | (push_cast; rfl) | (simp; omega))) .nil)) ?_
 rintro i hi
 try dsimp only
 simp only [List.cons_append, List.nil_append]
 refine AC_seq ?_
 refine AC_seq (AC_region ?_)
 refine mv rfl rfl rfl rfl ?_
 refine fl 10 ?_
 refine ld 0 ?_
 refine p_ (by first | exact S_lenM (e := 3) rfl (.tmp rfl) (by kernel_rfl) | exact S_len (e := 3) rfl (.tmp rfl) (by kernel_rfl)) ?_
 refine p_ (S_lss rfl (.tmp rfl) (.tmp rfl)) ?_
 refine AL_nil ?_
 refine AC_cond (.tmp rfl) (fun hb67 => ?_) (fun hb67 => ?_)
 ·try simp only [zA,zO,zN,zM,zP,zQ,zD,zF,gd] at hb67
  have hil : i < p.ports.length := by first | omega | (have h9 := hb67; simp [intsV] at h9; omega)
  refine AC_skip ?_
  refine AC_seq ?_
  refine AC_block ?_
  refine AC_region ?_
  refine mv rfl rfl rfl rfl ?_
  refine mv rfl rfl rfl rfl ?_
  refine g_ (fun _ => fA 10) ?_
  refine g_ (fun _ => lA 0) ?_
  refine g_ (fun _ => mA) ?_
  refine g_ (fun _ => S_elem (e := 3) (c := .int .i64 (p.ports.getD i 0)) (i := (i : Int)) 1 rfl (AEv.cd (.tmp rfl)) (AEv.cd (.tmp rfl)) (by kernel_rfl) (by kernel_rfl) (by first | (simp [intsV]; done) | (simp [intsV]; omega)) (by simp [intsV, hil]) rfl) ?_
  refine g_ (fun _ => S_loadP rfl (AEv.cd (.tmp rfl)) rfl (by kernel_rfl)) ?_
  refine g_ (fun _ => S_pcall rfl (AEvs.cons (AEv.cd (.tmp rfl)) (AEvs.cons (AEv.const _) (AEvs.cons (AEv.const _) AEvs.nil))) (ref09_within_ok (p.ports.getD i 0) 0 1073741824)) ?_
  refine an ?_
  refine as_ rfl rfl rfl rfl ?_
  refine AL_nil ?_
  refine AC_region ?_
  refine mv rfl rfl rfl rfl ?_
  refine p_ (S_addI rfl (.tmp rfl) (AEv.const _) (by omega) (by omega)) ?_
  refine as_ rfl rfl rfl rfl ?_
  refine AL_nil ?_
  exact ⟨i + 1, by omega, by omega, (Sub.l (List.Sublist.refl _)), (.cons rfl (Le.of_eq (congrArg AV.bool (all_snoc hil))) (.cons rfl (by first | exact Le.refl _ | exact Le.nils | exact Le.row _ _ _ _ | exact Le.of_eq (by first | rfl | (simp; done) | (push_cast; rfl) | (simp; omega))) .nil)), (.cons rfl (Le.refl _) (.cons rfl (Le.refl _) .nil))⟩
 try simp only [zA,zO,zN,zM,zP,zQ,zD,zF,gd] at hb67
 have hx : p.ports.take i = p.ports := List.take_of_length_le (by first | omega | (have h9 := hb67; simp [intsV] at h9; omega))
 refine AC_exit ?_
 refine AC_seq (AC_region ?_)
 refine mv rfl rfl rfl rfl ?_
 refine as_ rfl rfl rfl rfl ?_
 refine AL_nil (AC_ret ?_)
 refine ret_tmp st rfl rfl (Sub.l (List.sublist_cons_self _ _)) (Conv.refl (Sub.l (List.sublist_cons_self _ _)) _) ⟨congrArg AV.bool (by rw [hx]; exact refPod_eq p), rfl⟩ (.inl rfl)
set_option maxHeartbeats 2000000 in
theorem ref09_Check_ok (m : Msg) (hm : ShortM m) : PCalls Tryz.prog 12 [msgAV m] (.bool (msgMay m)) := by
 intro st
 refine co 186 Tryz.func12 ?_
 obtain ⟨⟨hm1, hm2, hm3, hm4⟩, hm5⟩ := hm
 have hr1 : decide ((m.reply.rev : Int) = 0) = decide (m.reply.rev = 0) := decide_eq_decide.2 (by omega)
 have hr2 : decide ((m.event.rev : Int) = 0) = decide (m.event.rev = 0) := decide_eq_decide.2 (by omega)
 refine AC_seq (AC_region ?_)
 refine s_ (S_box rfl (.tmp rfl)) ?_
 rintro _ _ ⟨b1, rfl, rfl⟩
 refine ac rfl rfl rfl ?_
 refine AL_nil (AC_seq (AC_region ?_))
 refine fl 2 ?_
 refine ldN 7 0 ?_
 refine s_ (S_alloc [.int .i64 0, .int .i64 0, .int .i64 0, .int .u64 0, .string ⟨#[]⟩, .slice none 0 0, .slice none 0 0] rfl (by kernel_rfl)) ?_
 rintro _ _ ⟨b3, rfl, rfl⟩
 refine stW 0 ?_
 refine AL_nil (AC_seq (AC_region ?_))
 refine fl 9 ?_
 refine ldN 15 1 ?_
 refine s_ (S_alloc [.int .i64 0, .int .u64 0, .int .i64 0, .int .u64 0, .string ⟨#[]⟩, .slice none 0 0, .slice none 0 0, .slice none 0 0, .int .i64 0, .int .i64 0, .int .i64 0, .int .i64 0, .slice none 0 0, .int .i64 0, .int .i64 0] rfl (by kernel_rfl)) ?_
 rintro _ _ ⟨b4, rfl, rfl⟩
 refine stW 0 ?_
 refine AL_nil ?_
 refine AC_seq ?_
 refine AC_seq (AC_region ?_)
 refine fl 1 ?_
 refine ld 2 ?_
 refine p_ (S_lss rfl (.tmp rfl) (AEv.const _)) ?_
 refine mv rfl rfl rfl rfl ?_
 refine g_ (fun _ => fA 1) ?_
 refine g_ (fun _ => lA 2) ?_
 refine g_ (fun _ => S_gtr rfl (AEv.cd (.tmp rfl)) (AEv.const _)) ?_
 refine p_ (S_or rfl (.tmp rfl) (fun hp13 => (AEv.cd (.tmp rfl)))) ?_
 refine AL_nil ?_
 refine AC_cond (.tmp rfl) (fun hb14 => ?_) (fun hb14 => ?_)
 ·try simp only [zA,zO,zN,zM,zP,zQ,zD,zF,gd] at hb14
  have hx := msg_out (m := m) (by omega)
  refine AC_seq (AC_region ?_)
  refine ac rfl rfl rfl ?_
  refine AL_nil (AC_ret ?_)
  refine ret_tmp st rfl rfl (Sub.l (.cons _ (.cons _ (.cons _ (List.Sublist.refl _))))) (Conv.refl (Sub.l (.cons _ (.cons _ (.cons _ (List.Sublist.refl _))))) _) ⟨by rw [hx], rfl⟩ (.inl rfl)
 try simp only [zA,zO,zN,zM,zP,zQ,zD,zF,gd] at hb14
 have hn : 1 ≤ m.num ∧ m.num ≤ 1073741824 := by omega
 refine AC_skip ?_
 refine AC_seq ?_
 refine AC_seq (AC_region ?_)
 refine fl 0 ?_
 refine ld 2 ?_
 refine p_ (S_eql rfl (.tmp rfl) (AEv.const _)) ?_
 refine AL_nil ?_
 refine AC_cond (.tmp rfl) (fun hb15 => ?_) (fun hb15 => ?_)
 ·try simp only [zA,zO,zN,zM,zP,zQ,zD,zF,gd] at hb15
  have hk : m.kind = 2 := by omega
  refine AC_seq (AC_region ?_)
  refine fl 0 ?_
  refine ld 1 ?_
  refine p_ (S_eql rfl (.tmp rfl) (AEv.const _)) ?_
  refine mv rfl rfl rfl rfl ?_
  refine g_ (fun _ => fA 1) ?_
  refine g_ (fun _ => lA 1) ?_
  refine g_ (fun _ => S_eql rfl (AEv.cd (.tmp rfl)) (AEv.const _)) ?_
  refine an ?_
  refine mv rfl rfl rfl rfl ?_
  refine g_ (fun _ => fA 2) ?_
  refine g_ (fun _ => lA 1) ?_
  refine g_ (fun _ => S_eql rfl (AEv.cd (.tmp rfl)) (AEv.const _)) ?_
  refine an ?_
  refine mv rfl rfl rfl rfl ?_
  refine g_ (fun _ => fA 3) ?_
  refine g_ (fun _ => lA 1) ?_
  refine g_ (fun _ => S_eql rfl (AEv.cd (.tmp rfl)) (AEv.const _)) ?_
  refine an ?_
  refine mv rfl rfl rfl rfl ?_
  refine g_ (fun _ => fA 4) ?_
  refine g_ (fun _ => lA 1) ?_
  refine g_ (fun _ => S_eqS rfl (AEv.cd (.tmp rfl)) (AEv.S _)) ?_
  refine an ?_
  refine mv rfl rfl rfl rfl ?_
  refine g_ (fun _ => fA 5) ?_
  refine g_ (fun _ => lA 1) ?_
  refine g_ (fun _ => by first | exact S_lenM (e := 34) rfl (AEv.cd (.tmp rfl)) (by kernel_rfl) | exact S_len (e := 34) rfl (AEv.cd (.tmp rfl)) (by kernel_rfl)) ?_
  refine g_ (fun _ => S_eql rfl (AEv.cd (.tmp rfl)) (AEv.const _)) ?_
  refine an ?_
  refine mv rfl rfl rfl rfl ?_
  refine g_ (fun _ => fA 6) ?_
  refine g_ (fun _ => lA 1) ?_
  refine g_ (fun _ => by first | exact S_lenM (e := 74) rfl (AEv.cd (.tmp rfl)) (by kernel_rfl) | exact S_len (e := 74) rfl (AEv.cd (.tmp rfl)) (by kernel_rfl)) ?_
  refine g_ (fun _ => S_eql rfl (AEv.cd (.tmp rfl)) (AEv.const _)) ?_
  refine an ?_
  refine as_ rfl rfl rfl rfl ?_
  refine AL_nil ?_
  refine AC_seq ?_
  refine AC_seq (AC_region ?_)
  refine fl 0 ?_
  refine ld 0 ?_
  refine p_ (S_geq rfl (.tmp rfl) (AEv.const _)) ?_
  refine mv rfl rfl rfl rfl ?_
  refine g_ (fun _ => fA 0) ?_
  refine g_ (fun _ => lA 0) ?_
  refine g_ (fun _ => S_leq rfl (AEv.cd (.tmp rfl)) (AEv.const _)) ?_
  refine an ?_
  refine AL_nil ?_
  refine AC_cond (.tmp rfl) (fun hb92 => ?_) (fun hb92 => ?_)
  ·try simp only [zA,zO,zN,zM,zP,zQ,zD,zF,gd] at hb92
   have hw : wholeB m.event.kind = true := decide_eq_true (by omega)
   have hx : msgMay m = (silentB m.reply && podMay m.event.pod) := by rw [msg_two hn hk]; unfold eventMay; rw [if_pos hw]
   refine AC_seq (AC_region ?_)
   refine mv rfl rfl rfl rfl ?_
   refine mv rfl rfl rfl rfl ?_
   refine g_ (fun _ => fA 2) ?_
   refine g_ (fun _ => lN 13 0) ?_
   refine g_ (fun _ => S_pcall rfl (AEvs.cons (y := podAV m.event.pod) (AEv.cd (.tmp rfl)) AEvs.nil) (ref09_Pod_ok m.event.pod hm5.1 (by have := hm5.2; omega))) ?_
   refine an ?_
   refine as_ rfl rfl rfl rfl ?_
   refine AL_nil (AC_ret ?_)
   refine ret_tmp st rfl rfl (Sub.l (.cons _ (.cons _ (.cons _ (List.Sublist.refl _))))) (Conv.refl (Sub.l (.cons _ (.cons _ (.cons _ (List.Sublist.refl _))))) _) ⟨congrArg AV.bool (by rw [hx]; simp only [silentB, hr1, List.length_map, podsV]), rfl⟩ (.inl rfl)
  try simp only [zA,zO,zN,zM,zP,zQ,zD,zF,gd] at hb92
  have hw : ¬ wholeB m.event.kind = true := by unfold wholeB; simp only [decide_eq_true_eq]; omega
  have hx : msgMay m = (silentB m.reply && ((decide (m.event.kind = 4) || decide (m.event.kind = 5)) && bareP m.event.pod)) := by rw [msg_two hn hk]; unfold eventMay; rw [if_neg hw]
  refine AC_skip ?_
  refine AC_seq (AC_region ?_)
  refine mv rfl rfl rfl rfl ?_
  refine mv rfl rfl rfl rfl ?_
  refine g_ (fun _ => fA 0) ?_
  refine g_ (fun _ => lA 0) ?_
  refine g_ (fun _ => S_eql rfl (AEv.cd (.tmp rfl)) (AEv.const _)) ?_
  refine g_ (fun _ => S_move rfl (AEv.cd (.tmp rfl))) ?_
  refine AL_gg rfl rfl (.tmp rfl) rfl (fun hg115 hg116 hg117 => S_field 0 rfl (.tmp rfl) (by kernel_rfl)) ?_
  refine AL_gg rfl rfl (.tmp rfl) rfl (fun hg118 hg119 hg120 => S_load 0 rfl (AEv.cd (.tmp rfl)) rfl rfl (by kernel_rfl)) ?_
  refine AL_gg rfl rfl (.tmp rfl) rfl (fun hg121 hg122 hg123 => S_eql rfl (AEv.cd (.tmp rfl)) (AEv.const _)) ?_
  refine g_ (fun _ => S_or rfl (AEv.cd (.tmp rfl)) (fun hp127 => (AEv.cd (.tmp rfl)))) ?_
  refine an ?_
  refine mv rfl rfl rfl rfl ?_
  refine g_ (fun _ => fA 2) ?_
  refine g_ (fun _ => lN 13 0) ?_
  refine g_ (fun _ => S_pcall rfl (AEvs.cons (y := podAV m.event.pod) (AEv.cd (.tmp rfl)) AEvs.nil) (ref09_bare_ok m.event.pod)) ?_
  refine an ?_
  refine as_ rfl rfl rfl rfl ?_
  refine AL_nil (AC_ret ?_)
  refine ret_tmp st rfl rfl (Sub.l (.cons _ (.cons _ (.cons _ (List.Sublist.refl _))))) (Conv.refl (Sub.l (.cons _ (.cons _ (.cons _ (List.Sublist.refl _))))) _) ⟨congrArg AV.bool (by rw [hx]; simp only [silentB, hr1, List.length_map, podsV, Bool.and_assoc]), rfl⟩ (.inl rfl)
 try simp only [zA,zO,zN,zM,zP,zQ,zD,zF,gd] at hb15
 have hk : ¬ m.kind = 2 := by omega
 refine AC_skip ?_
 refine AC_seq (AC_region ?_)
 refine fl 0 ?_
 refine ld 2 ?_
 refine p_ (S_eql rfl (.tmp rfl) (AEv.const _)) ?_
 refine mv rfl rfl rfl rfl ?_
 refine g_ (fun _ => fA 0) ?_
 refine g_ (fun _ => lA 0) ?_
 refine g_ (fun _ => S_eql rfl (AEv.cd (.tmp rfl)) (AEv.const _)) ?_
 refine an ?_
 refine mv rfl rfl rfl rfl ?_
 refine g_ (fun _ => fA 1) ?_
 refine g_ (fun _ => lA 0) ?_
 refine g_ (fun _ => S_eql rfl (AEv.cd (.tmp rfl)) (AEv.const _)) ?_
 refine an ?_
 refine mv rfl rfl rfl rfl ?_
 refine g_ (fun _ => fA 2) ?_
 refine g_ (fun _ => lN 13 0) ?_
 refine g_ (fun _ => S_pcall rfl (AEvs.cons (y := podAV m.event.pod) (AEv.cd (.tmp rfl)) AEvs.nil) (ref09_bare_ok m.event.pod)) ?_
 refine an ?_
 refine mv rfl rfl rfl rfl ?_
 refine g_ (fun _ => fA 0) ?_
 refine g_ (fun _ => lA 1) ?_
 refine g_ (fun _ => S_pcall rfl (AEvs.cons (AEv.cd (.tmp rfl)) (AEvs.cons (AEv.const _) (AEvs.cons (AEv.const _) AEvs.nil))) (ref09_within_ok m.reply.code 0 999)) ?_
 refine an ?_
 refine mv rfl rfl rfl rfl ?_
 refine g_ (fun _ => fA 1) ?_
 refine g_ (fun _ => lA 1) ?_
 refine g_ (fun _ => S_pcall rfl (AEvs.cons (AEv.cd (.tmp rfl)) (AEvs.cons (AEv.const _) (AEvs.cons (AEv.const _) AEvs.nil))) (ref09_within_ok m.reply.uid 0 1073741824)) ?_
 refine an ?_
 refine mv rfl rfl rfl rfl ?_
 refine g_ (fun _ => fA 2) ?_
 refine g_ (fun _ => lA 1) ?_
 refine g_ (fun _ => S_pcall rfl (AEvs.cons (AEv.cd (.tmp rfl)) (AEvs.cons (AEv.const _) (AEvs.cons (AEv.const _) AEvs.nil))) (ref09_within_ok m.reply.id 0 1073741824)) ?_
 refine an ?_
 refine mv rfl rfl rfl rfl ?_
 refine g_ (fun _ => fA 4) ?_
 refine g_ (fun _ => lA 1) ?_
 refine g_ (fun _ => S_lenS (ts := #[]) rfl (AEv.cd (.tmp rfl)) (by kernel_rfl)) ?_
 refine g_ (fun _ => S_leq rfl (AEv.cd (.tmp rfl)) (AEv.const _)) ?_
 refine an ?_
 refine mv rfl rfl rfl rfl ?_
 refine g_ (fun _ => fA 5) ?_
 refine g_ (fun _ => lA 1) ?_
 refine g_ (fun _ => by first | exact S_lenM (e := 34) rfl (AEv.cd (.tmp rfl)) (by kernel_rfl) | exact S_len (e := 34) rfl (AEv.cd (.tmp rfl)) (by kernel_rfl)) ?_
 refine g_ (fun _ => S_leq rfl (AEv.cd (.tmp rfl)) (AEv.const _)) ?_
 refine an ?_
 refine mv rfl rfl rfl rfl ?_
 refine g_ (fun _ => fA 6) ?_
 refine g_ (fun _ => lA 1) ?_
 refine g_ (fun _ => by first | exact S_lenM (e := 74) rfl (AEv.cd (.tmp rfl)) (by kernel_rfl) | exact S_len (e := 74) rfl (AEv.cd (.tmp rfl)) (by kernel_rfl)) ?_
 refine g_ (fun _ => S_leq rfl (AEv.cd (.tmp rfl)) (AEv.const _)) ?_
 refine an ?_
 refine as_ rfl rfl rfl rfl ?_
 refine AL_nil ?_
 refine AC_seq ?_
 refine AC_seq (AC_region ?_)
 refine ac rfl rfl rfl ?_
 refine AL_nil ?_
 refine AC_block ?_
 refine AC_loopK (G := Nat) [(2, _), (3, _)] (fun g => g ≤ m.reply.pods.length) (fun g => [(6, .bool (okM m && (m.reply.pods.take g).all podMay)), (7, .int .i64 (g : Int))]) (fun g => (b4, .cells (evtL m.event)) :: (b3, .cells (repL m.reply)) :: (b1, .cells (msgL m)) :: st) (fun g => m.reply.pods.length - g) (0) (Nat.zero_le _) (Sub.l (List.Sublist.refl _)) (.cons rfl (Le.refl _) (.cons rfl (Le.refl _) .nil)) (.cons rfl (Le.of_eq (congrArg AV.bool (by simp only [List.take_zero, List.all_nil, Bool.and_true, okM, hr2]))) (.cons rfl (by first | exact Le.refl _ | exact Le.nils | exact Le.row _ _ _ _ | exact Le.of_eq (by first | rfl | (simp; done) | (push_cast; rfl) | (simp; omega))) .nil)) ?_
 rintro i hi
 try dsimp only
 simp only [List.cons_append, List.nil_append]
 refine AC_seq ?_
 refine AC_seq (AC_region ?_)
 refine mv rfl rfl rfl rfl ?_
 refine mv rfl rfl rfl rfl ?_
 refine g_ (fun _ => mA) ?_
 refine g_ (fun _ => fA 5) ?_
 refine g_ (fun _ => lA 1) ?_
 refine g_ (fun _ => by first | exact S_lenM (e := 34) rfl (AEv.cd (.tmp rfl)) (by kernel_rfl) | exact S_len (e := 34) rfl (AEv.cd (.tmp rfl)) (by kernel_rfl)) ?_
 refine g_ (fun _ => S_lss rfl (AEv.cd (.tmp rfl)) (AEv.cd (.tmp rfl))) ?_
 refine an ?_
 refine AL_nil ?_
 refine AC_cond (.tmp rfl) (fun hb254 => ?_) (fun hb254 => ?_)
 ·try simp only [zA,zO,zN,zM,zP,zQ,zD,zF,gd] at hb254
  have hok : (okM m && (m.reply.pods.take i).all podMay) = true := by simpa using hb254.1
  have hil : i < m.reply.pods.length := by have h8 := hb254.2; first | omega | (simp [podsV] at h8; omega)
  refine AC_skip ?_
  refine AC_seq ?_
  refine AC_block ?_
  refine AC_region ?_
  refine fl 5 ?_
  refine ld 1 ?_
  refine mv rfl rfl rfl rfl ?_
  refine p_ (S_elemN (e := 34) 13 rfl (.tmp rfl) (.tmp rfl) (by kernel_rfl) (by kernel_rfl) (by omega) (fun _ => rfl)) ?_
  refine p_ (S_loadPN (m := 13) rfl (.tmp rfl) (by kernel_rfl) (by first | exact Nat.le_of_ble_eq_true rfl | (simp; omega) | simp)) ?_
  refine p_ (S_pcall rfl (AEvs.cons (y := podAV (m.reply.pods[i]'hil)) (.tmp rfl) AEvs.nil) (ref09_Pod_ok (m.reply.pods[i]'hil) (hm4 _ (List.getElem_mem hil)).1 (by have := (hm4 _ (List.getElem_mem hil)).2; omega))) ?_
  refine as_ rfl rfl rfl rfl ?_
  refine AL_nil ?_
  refine AC_region ?_
  refine mv rfl rfl rfl rfl ?_
  refine p_ (S_addI rfl (.tmp rfl) (AEv.const _) (by omega) (by omega)) ?_
  refine as_ rfl rfl rfl rfl ?_
  refine AL_nil ?_
  exact ⟨i + 1, by omega, by omega, (Sub.l (List.Sublist.refl _)), (.cons rfl (Le.of_eq (congrArg AV.bool (all_next hok hil).symm)) (.cons rfl (by first | exact Le.refl _ | exact Le.nils | exact Le.row _ _ _ _ | exact Le.of_eq (by first | rfl | (simp; done) | (push_cast; rfl) | (simp; omega))) .nil)), (.cons rfl (Le.refl _) (.cons rfl (Le.refl _) .nil))⟩
 try simp only [zA,zO,zN,zM,zP,zQ,zD,zF,gd] at hb254
 have hend := all_stop (f := podMay) (l := m.reply.pods) (i := i) (b := okM m) (by
  rcases hb254 with h | h
  ·exact .inl (by rcases h with h | h <;> rw [h] <;> simp)
  ·exact .inr (by first | omega | (simp [podsV] at h; omega)))
 refine AC_exit ?_
 refine AC_seq ?_
 refine AC_seq (AC_region ?_)
 refine ac rfl rfl rfl ?_
 refine AL_nil ?_
 refine AC_block ?_
 refine AC_loopK (G := Nat) [(2, _), (3, _)] (fun g => g ≤ m.reply.use.length) (fun g => [(6, .bool ((okM m && m.reply.pods.all podMay) && (m.reply.use.take g).all resMay)), (8, .int .i64 (g : Int))]) (fun g => (b4, .cells (evtL m.event)) :: (b3, .cells (repL m.reply)) :: (b1, .cells (msgL m)) :: st) (fun g => m.reply.use.length - g) (0) (Nat.zero_le _) (Sub.l (List.Sublist.refl _)) (.cons rfl (Le.refl _) (.cons rfl (Le.refl _) .nil)) (.cons rfl (Le.of_eq (congrArg AV.bool (by rw [hend]; simp only [List.take_zero, List.all_nil, Bool.and_true]))) (.cons rfl (by first | exact Le.refl _ | exact Le.nils | exact Le.row _ _ _ _ | exact Le.of_eq (by first | rfl | (simp; done) | (push_cast; rfl) | (simp; omega))) .nil)) ?_
 rintro j hj
 try dsimp only
 simp only [List.cons_append, List.nil_append]
 refine AC_seq ?_
 refine AC_seq (AC_region ?_)
 refine mv rfl rfl rfl rfl ?_
 refine mv rfl rfl rfl rfl ?_
 refine g_ (fun _ => mA) ?_
 refine g_ (fun _ => fA 6) ?_
 refine g_ (fun _ => lA 1) ?_
 refine g_ (fun _ => by first | exact S_lenM (e := 74) rfl (AEv.cd (.tmp rfl)) (by kernel_rfl) | exact S_len (e := 74) rfl (AEv.cd (.tmp rfl)) (by kernel_rfl)) ?_
 refine g_ (fun _ => S_lss rfl (AEv.cd (.tmp rfl)) (AEv.cd (.tmp rfl))) ?_
 refine an ?_
 refine AL_nil ?_
 refine AC_cond (.tmp rfl) (fun hb271 => ?_) (fun hb271 => ?_)
 ·try simp only [zA,zO,zN,zM,zP,zQ,zD,zF,gd] at hb271
  have hok : ((okM m && m.reply.pods.all podMay) && (m.reply.use.take j).all resMay) = true := by simpa using hb271.1
  have hjl : j < m.reply.use.length := by have h8 := hb271.2; first | omega | (simp at h8; omega)
  refine AC_skip ?_
  refine AC_seq ?_
  refine AC_block ?_
  refine AC_seq (AC_region ?_)
  refine fl 6 ?_
  refine ld 1 ?_
  refine mv rfl rfl rfl rfl ?_
  refine p_ (S_elemN (e := 74) 3 rfl (.tmp rfl) (.tmp rfl) (by kernel_rfl) (by kernel_rfl) (by omega) (fun _ => rfl)) ?_
  refine p_ (S_loadPN (m := 3) rfl (.tmp rfl) (by kernel_rfl) (by first | exact Nat.le_of_ble_eq_true rfl | (simp; omega) | simp)) ?_
  refine s_ (S_alloc [.int .i64 0, .int .i64 0, .int .i64 0] rfl (by kernel_rfl)) ?_
  rintro _ _ ⟨b9, rfl, rfl⟩
  refine stW 0 ?_
  refine AL_nil ?_
  refine AC_region ?_
  refine fl 0 ?_
  refine ld 0 ?_
  refine p_ (S_pcall rfl (AEvs.cons (.tmp rfl) (AEvs.cons (AEv.const _) (AEvs.cons (AEv.const _) AEvs.nil))) (ref09_within_ok (m.reply.use[j]'hjl).1 0 1099511627776)) ?_
  refine mv rfl rfl rfl rfl ?_
  refine g_ (fun _ => fA 1) ?_
  refine g_ (fun _ => lA 0) ?_
  refine g_ (fun _ => S_pcall rfl (AEvs.cons (AEv.cd (.tmp rfl)) (AEvs.cons (AEv.const _) (AEvs.cons (AEv.const _) AEvs.nil))) (ref09_within_ok (m.reply.use[j]'hjl).2.1 0 1099511627776)) ?_
  refine an ?_
  refine mv rfl rfl rfl rfl ?_
  refine g_ (fun _ => fA 2) ?_
  refine g_ (fun _ => lA 0) ?_
  refine g_ (fun _ => S_pcall rfl (AEvs.cons (AEv.cd (.tmp rfl)) (AEvs.cons (AEv.const _) (AEvs.cons (AEv.const _) AEvs.nil))) (ref09_within_ok (m.reply.use[j]'hjl).2.2 0 1099511627776)) ?_
  refine an ?_
  refine as_ rfl rfl rfl rfl ?_
  refine AL_nil ?_
  refine AC_region ?_
  refine mv rfl rfl rfl rfl ?_
  refine p_ (S_addI rfl (.tmp rfl) (AEv.const _) (by omega) (by omega)) ?_
  refine as_ rfl rfl rfl rfl ?_
  refine AL_nil ?_
  exact ⟨j + 1, by omega, by omega, (Sub.l (List.sublist_cons_self _ _)), (.cons rfl (Le.of_eq (congrArg AV.bool (all_next hok hjl).symm)) (.cons rfl (by first | exact Le.refl _ | exact Le.nils | exact Le.row _ _ _ _ | exact Le.of_eq (by first | rfl | (simp; done) | (push_cast; rfl) | (simp; omega))) .nil)), (.cons rfl (Le.refl _) (.cons rfl (Le.refl _) .nil))⟩
 try simp only [zA,zO,zN,zM,zP,zQ,zD,zF,gd] at hb271
 have hend := all_stop (f := resMay) (l := m.reply.use) (i := j) (b := (okM m && m.reply.pods.all podMay)) (by
  rcases hb271 with h | h
  ·exact .inl (by rcases h with (h | h) | h <;> rw [h] <;> simp)
  ·exact .inr (by first | omega | (simp at h; omega)))
 refine AC_exit ?_
 refine AC_seq (AC_region ?_)
 refine mv rfl rfl rfl rfl ?_
 refine as_ rfl rfl rfl rfl ?_
 refine AL_nil (AC_ret ?_)
 refine ret_tmp st rfl rfl (Sub.l (.cons _ (.cons _ (.cons _ (List.Sublist.refl _))))) (Conv.refl (Sub.l (.cons _ (.cons _ (.cons _ (List.Sublist.refl _))))) _) ⟨congrArg AV.bool (by rw [hend, msg_one hn hk]), rfl⟩ (.inl rfl)
end Go.Proofs.YtemmkkmpchphkaaGreatDoor

set_option maxRecDepth 100000
namespace Go.Proofs.YtemmkkmpchphkaaGreatDoor
open Go.AL Go.NumSpec
set_option maxHeartbeats 4000000 in
theorem ref09_takePod_ok (S r : List UInt8) (c : Int) (hr : r <:+ S) (hS : S.length ≤ 1000000) : PCalls Tryz.prog 54 [rdR S (r) (c)] (.tup [rdR S ((podP r c).2.1) ((podP r c).2.2), podAV (podP r c).1]) := by
 intro st
 refine co 90 Tryz.func54 ?_
 refine AC_seq (AC_region ?_)
 refine s_ (S_box rfl (.tmp rfl)) ?_
 rintro _ _ ⟨b1, rfl, rfl⟩
 refine s_ (S_alloc [.string ⟨#[]⟩, .int .i64 0, .int .i64 0] rfl (by kernel_rfl)) ?_
 rintro _ _ ⟨b2, rfl, rfl⟩
 refine s_ (S_alloc [.int .i64 0, .int .u64 0, .string ⟨#[]⟩, .slice none 0 0, .slice none 0 0, .slice none 0 0, .int .i64 0, .int .i64 0, .int .i64 0, .int .i64 0, .slice none 0 0, .int .i64 0, .int .i64 0] rfl (by kernel_rfl)) ?_
 rintro _ _ ⟨b3, rfl, rfl⟩
 refine AL_nil (AC_seq (AC_region ?_))
 refine s_ (S_alloc [.int .i64 0, .int .u64 0, .string ⟨#[]⟩, .slice none 0 0, .slice none 0 0, .slice none 0 0, .int .i64 0, .int .i64 0, .int .i64 0, .int .i64 0, .slice none 0 0, .int .i64 0, .int .i64 0] rfl (by kernel_rfl)) ?_
 rintro _ _ ⟨b4, rfl, rfl⟩
 refine AL_nil (AC_seq (AC_region ?_))
 refine ldN 3 3 ?_
 refine p_ (S_pcall rfl (AEvs.cons (.tmp rfl) (AEvs.cons (AEv.const _) AEvs.nil)) (ref04_Num_ok S r c hr hS 1073741824 (by decide))) ?_
 generalize h1 : numR r c 1073741824 = r1
 have q1 : r1.2.1 <:+ S := by rw [← h1]; exact (numR_suf _ _ _).trans hr
 refine mv rfl rfl rfl rfl ?_
 refine ex 0 ?_
 refine ex 1 ?_
 refine s_ (S_alloc [.string ⟨#[]⟩, .int .i64 0, .int .i64 0] rfl (by kernel_rfl)) ?_
 rintro _ _ ⟨b5, rfl, rfl⟩
 refine stW 0 ?_
 refine as_ rfl rfl rfl rfl ?_
 refine AL_nil (AC_seq (AC_region ?_))
 refine ldN 3 0 ?_
 refine stN 4 ?_
 refine AL_nil (AC_seq (AC_region ?_))
 refine mv rfl rfl rfl rfl ?_
 refine fl 0 ?_
 refine st1 1 ?_
 refine AL_nil (AC_seq (AC_region ?_))
 refine ldN 3 4 ?_
 refine p_ (S_pcall rfl (AEvs.cons (.tmp rfl) AEvs.nil) (ref04_Big_ok S r1.2.1 r1.2.2 q1 hS)) ?_
 generalize h2 : bigR r1.2.1 r1.2.2 = r2
 have q2 : r2.2.1 <:+ S := by rw [← h2]; exact (bigR_suf _ _).trans q1
 refine mv rfl rfl rfl rfl ?_
 refine ex 0 ?_
 refine ex 1 ?_
 refine s_ (S_alloc [.string ⟨#[]⟩, .int .i64 0, .int .i64 0] rfl (by kernel_rfl)) ?_
 rintro _ _ ⟨b7, rfl, rfl⟩
 refine stW 0 ?_
 refine as_ rfl rfl rfl rfl ?_
 refine AL_nil (AC_seq (AC_region ?_))
 refine ldN 3 0 ?_
 refine stN 5 ?_
 refine AL_nil (AC_seq (AC_region ?_))
 refine mv rfl rfl rfl rfl ?_
 refine fl 1 ?_
 refine st1 2 ?_
 refine AL_nil (AC_seq (AC_region ?_))
 refine ldN 3 5 ?_
 refine p_ (S_pcall rfl (AEvs.cons (.tmp rfl) AEvs.nil) (ref07_Take_ok S r2.2.1 r2.2.2 q2 hS)) ?_
 have hl3 : shortS (spcP r2.2.1 r2.2.2).1 := spcP_short _ _
 generalize h3 : spcP r2.2.1 r2.2.2 = r3
 have q3 : r3.2.1 <:+ S := by rw [← h3]; exact (spcP_suf _ _).trans q2
 rw [h3] at hl3
 have hml := hl3.2.2.1
 refine mv rfl rfl rfl rfl ?_
 refine ex 0 ?_
 refine ex 1 ?_
 refine s_ (S_alloc [.string ⟨#[]⟩, .int .i64 0, .int .i64 0] rfl (by kernel_rfl)) ?_
 rintro _ _ ⟨b9, rfl, rfl⟩
 refine s_ (S_alloc [.string ⟨#[]⟩, .slice none 0 0, .slice none 0 0, .slice none 0 0, .int .i64 0, .int .i64 0, .int .i64 0] rfl (by kernel_rfl)) ?_
 rintro _ _ ⟨b10, rfl, rfl⟩
 refine stW 1 ?_
 refine stW 0 ?_
 refine AL_nil (AC_seq (AC_region ?_))
 refine ldN 3 1 ?_
 refine stN 7 ?_
 refine AL_nil (AC_seq (AC_region ?_))
 refine ldN 7 0 ?_
 refine fl 2 ?_
 refine stN 4 ?_
 refine AL_nil (AC_seq (AC_region ?_))
 refine ldN 3 7 ?_
 refine p_ (S_pcall rfl (AEvs.cons (.tmp rfl) (AEvs.cons (AEv.const _) AEvs.nil)) (ref04_Num_ok S r3.2.1 r3.2.2 q3 hS 4 (by decide))) ?_
 generalize h4 : numR r3.2.1 r3.2.2 4 = r4
 have q4 : r4.2.1 <:+ S := by rw [← h4]; exact (numR_suf _ _ _).trans q3
 refine mv rfl rfl rfl rfl ?_
 refine ex 0 ?_
 refine ex 1 ?_
 refine s_ (S_alloc [.string ⟨#[]⟩, .int .i64 0, .int .i64 0] rfl (by kernel_rfl)) ?_
 rintro _ _ ⟨b11, rfl, rfl⟩
 refine stW 0 ?_
 refine as_ rfl rfl rfl rfl ?_
 refine AL_nil (AC_seq (AC_region ?_))
 refine ldN 3 0 ?_
 refine stN 8 ?_
 refine AL_nil (AC_seq (AC_region ?_))
 refine mv rfl rfl rfl rfl ?_
 refine fl 9 ?_
 refine st1 5 ?_
 refine AL_nil ?_
 refine AC_seq ?_
 refine AC_seq (AC_region ?_)
 refine ac rfl rfl rfl ?_
 refine AL_nil ?_
 refine AC_block ?_
 refine AC_loopK (G := Nat × Own) [(1, _), (2, _), (3, _), (4, _)] (fun g => g.1 ≤ r3.1.main.length ∧ g.2.ok (intsV (repR uidRd g.1 r4.2.1 r4.2.2).1) ∧ (repR uidRd g.1 r4.2.1 r4.2.2).2.1 <:+ S) (fun g => [(13, .int .i64 (g.1 : Int))]) (fun g => (b4, .cells [.int .i64 r1.1, .int .u64 (r2.1 : Int), .S r3.1.name, .sl (labsV r3.1.labels), .sl (ctrsV r3.1.init), .sl (ctrsV r3.1.main), .int .i64 r3.1.restart, .int .i64 r3.1.grace, .int .i64 r3.1.prio, .int .i64 r4.1, ownAV g.2 1 (intsV (repR uidRd g.1 r4.2.1 r4.2.2).1), .int .i64 0, .int .i64 0]) :: (b3, .cells [.int .i64 0, .int .u64 0, .S [], .nils, .nils, .nils, .int .i64 0, .int .i64 0, .int .i64 0, .int .i64 0, .nils, .int .i64 0, .int .i64 0]) :: (b2, .cells [.S [], .int .i64 0, .int .i64 0]) :: (b1, .cells (rdL S ((repR uidRd g.1 r4.2.1 r4.2.2).2.1) ((repR uidRd g.1 r4.2.1 r4.2.2).2.2))) :: (ownSt g.2 3 1 (intsV (repR uidRd g.1 r4.2.1 r4.2.2).1) ++ st)) (fun g => r3.1.main.length - g.1) ((0, .nil)) (⟨Nat.zero_le _, rfl, q4⟩) (Sub.l (List.Sublist.cons _ (List.Sublist.cons _ (List.Sublist.cons _ (List.Sublist.cons _ (List.Sublist.cons _ (List.Sublist.refl _))))))) (.cons rfl (Le.refl _) (.cons rfl (Le.refl _) (.cons rfl (Le.refl _) (.cons rfl (Le.refl _) .nil)))) (.cons rfl (by first | exact Le.refl _ | exact Le.nils | exact Le.row _ _ _ _ | exact Le.of_eq (by first | rfl | (simp; done) | (push_cast; rfl) | (simp; omega))) .nil) ?_
 rintro ⟨i, p⟩ ⟨hi, hq, hs⟩
 try dsimp only
 simp only [List.cons_append, List.nil_append]
 dsimp only at hi hq hs
 have hrl := repR_len uidRd i r4.2.1 r4.2.2
 refine AC_seq ?_
 refine AC_seq (AC_region ?_)
 refine mv rfl rfl rfl rfl ?_
 refine fl 2 ?_
 refine fl 3 ?_
 refine ld 0 ?_
 refine p_ (by first | exact S_lenM (e := 150) rfl (.tmp rfl) (by kernel_rfl) | exact S_len (e := 150) rfl (.tmp rfl) (by kernel_rfl)) ?_
 refine p_ (S_lss rfl (.tmp rfl) (.tmp rfl)) ?_
 refine AL_nil ?_
 refine AC_cond (.tmp rfl) (fun hb10 => ?_) (fun hb10 => ?_)
 ·try simp only [zA,zO,zN,zM,zP,zQ,zD,zF,gd] at hb10
  have hil : i < r3.1.main.length := by first | omega | (have h9 := hb10; simp [ctrsV] at h9; omega)
  refine AC_skip ?_
  refine AC_seq ?_
  refine AC_block ?_
  refine AC_seq (AC_region ?_)
  refine ldN 3 3 ?_
  refine p_ (S_pcall rfl (AEvs.cons (.tmp rfl) (AEvs.cons (AEv.const _) AEvs.nil)) (ref04_Num_ok S (repR uidRd i r4.2.1 r4.2.2).2.1 (repR uidRd i r4.2.1 r4.2.2).2.2 hs hS 1073741824 (by decide))) ?_
  refine mv rfl rfl rfl rfl ?_
  refine ex 0 ?_
  refine ex 1 ?_
  refine s_ (S_alloc [.string ⟨#[]⟩, .int .i64 0, .int .i64 0] rfl (by kernel_rfl)) ?_
  rintro _ _ ⟨b14, rfl, rfl⟩
  refine stW 0 ?_
  refine as_ rfl rfl rfl rfl ?_
  refine AL_nil (AC_seq (AC_region ?_))
  refine ldN 3 0 ?_
  refine stN 4 ?_
  refine AL_nil ?_
  refine AC_region ?_
  refine fl 10 ?_
  refine ld 1 ?_
  refine mv rfl rfl rfl rfl ?_
  refine p_ (S_buildSlice (e := 3) 1 rfl (AEvs.cons (.tmp rfl) AEvs.nil) rfl (by kernel_rfl) (by kernel_rfl) (by intro y hy; simp only [List.mem_cons, List.not_mem_nil, or_false] at hy; rcases hy with rfl <;> exact ⟨rfl, rfl⟩) (by decide) (by decide) (by decide)) ?_
  refine s_ (S_appendM (f := (fun n : Int => AV.int .i64 n)) (l := (repR uidRd i r4.2.1 r4.2.2).1) (l2 := [(uidRd (repR uidRd i r4.2.1 r4.2.2).2.1 (repR uidRd i r4.2.1 r4.2.2).2.2).1]) (e := 3) (size := 1) (bytes := 8) (p := p) ([_, _, _, _, _]) (st) rfl (.tmp rfl) (.tmp rfl) rfl hq (by kernel_rfl) (by simp) (fun _ => ⟨rfl, rfl⟩) (by simp only [List.length_singleton]; omega) (by simp only [List.length_singleton]; omega)) ?_
  rintro _ _ ⟨b8, k8, cap8, hx8, rfl, rfl⟩
  refine fl 10 ?_
  refine s_ (S_store 1 rfl (.tmp rfl) (.tmp rfl) rfl (by first | exact Nat.le_of_ble_eq_true rfl | simp) (by first | rfl | exact ownAV_one _ _ _) (by kernel_rfl)) ?_
  rintro _ _ ⟨rfl, rfl⟩
  refine AL_nil ?_
  refine AC_region ?_
  refine mv rfl rfl rfl rfl ?_
  refine p_ (S_addI rfl (.tmp rfl) (AEv.const _) (by omega) (by omega)) ?_
  refine as_ rfl rfl rfl rfl ?_
  refine AL_nil ?_
  refine ⟨(i + 1, .row b8 k8 cap8), ⟨by dsimp only; omega, by dsimp only; rw [repR_snoc]; exact hx8, by dsimp only; rw [repR_snoc]; exact (numR_suf _ _ _).trans hs⟩, by dsimp only; omega, by dsimp only; rw [repR_snoc]; exact (Sub.l (List.Sublist.cons _ (List.Sublist.refl _))), (.cons rfl (by first | exact Le.refl _ | exact Le.nils | exact Le.row _ _ _ _ | exact Le.of_eq (by first | rfl | (simp; done) | (push_cast; rfl) | (simp; omega))) .nil), (.cons rfl (Le.refl _) (.cons rfl (Le.refl _) (.cons rfl (Le.refl _) (.cons rfl (Le.refl _) .nil))))⟩
 try simp only [zA,zO,zN,zM,zP,zQ,zD,zF,gd] at hb10
 obtain rfl : i = r3.1.main.length := by first | omega | (have h9 := hb10; simp [ctrsV] at h9; omega)
 refine AC_exit ?_
 refine AC_seq (AC_region ?_)
 refine ldN 3 3 ?_
 refine p_ (S_pcall rfl (AEvs.cons (.tmp rfl) (AEvs.cons (AEv.const _) AEvs.nil)) (ref04_Num_ok S (repR uidRd r3.1.main.length r4.2.1 r4.2.2).2.1 (repR uidRd r3.1.main.length r4.2.1 r4.2.2).2.2 hs hS 2 (by decide))) ?_
 generalize h5 : numR (repR uidRd r3.1.main.length r4.2.1 r4.2.2).2.1 (repR uidRd r3.1.main.length r4.2.1 r4.2.2).2.2 2 = r5
 have q5 : r5.2.1 <:+ S := by rw [← h5]; exact (numR_suf _ _ _).trans hs
 refine mv rfl rfl rfl rfl ?_
 refine ex 0 ?_
 refine ex 1 ?_
 refine s_ (S_alloc [.string ⟨#[]⟩, .int .i64 0, .int .i64 0] rfl (by kernel_rfl)) ?_
 rintro _ _ ⟨b16, rfl, rfl⟩
 refine stW 0 ?_
 refine as_ rfl rfl rfl rfl ?_
 refine AL_nil (AC_seq (AC_region ?_))
 refine ldN 3 0 ?_
 refine stN 4 ?_
 refine AL_nil (AC_seq (AC_region ?_))
 refine mv rfl rfl rfl rfl ?_
 refine fl 11 ?_
 refine st1 1 ?_
 refine AL_nil (AC_seq (AC_region ?_))
 refine ldN 3 4 ?_
 refine p_ (S_pcall rfl (AEvs.cons (.tmp rfl) (AEvs.cons (AEv.const _) AEvs.nil)) (ref04_Num_ok S r5.2.1 r5.2.2 q5 hS 1000 (by decide))) ?_
 generalize h6 : numR r5.2.1 r5.2.2 1000 = r6
 have q6 : r6.2.1 <:+ S := by rw [← h6]; exact (numR_suf _ _ _).trans q5
 refine mv rfl rfl rfl rfl ?_
 refine ex 0 ?_
 refine ex 1 ?_
 refine s_ (S_alloc [.string ⟨#[]⟩, .int .i64 0, .int .i64 0] rfl (by kernel_rfl)) ?_
 rintro _ _ ⟨b18, rfl, rfl⟩
 refine stW 0 ?_
 refine as_ rfl rfl rfl rfl ?_
 refine AL_nil (AC_seq (AC_region ?_))
 refine ldN 3 0 ?_
 refine stN 5 ?_
 refine AL_nil (AC_seq (AC_region ?_))
 refine mv rfl rfl rfl rfl ?_
 refine fl 12 ?_
 refine st1 2 ?_
 refine AL_nil ?_
 refine AC_seq ?_
 refine AC_cells (n := 2) (ds := [.int .i64 r1.1, .int .u64 (r2.1 : Int), .S r3.1.name, .sl (labsV r3.1.labels), .sl (ctrsV r3.1.init), .sl (ctrsV r3.1.main), .int .i64 r3.1.restart, .int .i64 r3.1.grace, .int .i64 r3.1.prio, .int .i64 r4.1, .sl (intsV (repR uidRd r3.1.main.length r4.2.1 r4.2.2).1), .int .i64 r5.1, .int .i64 r6.1]) rfl (.cons (Le.refl _) (.cons (Le.refl _) (.cons (Le.refl _) (.cons (Le.refl _) (.cons (Le.refl _) (.cons (Le.refl _) (.cons (Le.refl _) (.cons (Le.refl _) (.cons (Le.refl _) (.cons (Le.refl _) (.cons (Le_own hq) (.cons (Le.refl _) (.cons (Le.refl _) .nil))))))))))))) ?_
 simp only [List.set_cons_succ, List.set_cons_zero]
 refine AC_plan (σ := [(0, 0), (1, 0), (2, 1), (3, 2)]) (by kernel_rfl) [(b1, Ob.cells (rdL S (r6.2.1) (r6.2.2))), (b4, Ob.cells [.int .i64 r1.1, .int .u64 (r2.1 : Int), .S r3.1.name, .sl (labsV r3.1.labels), .sl (ctrsV r3.1.init), .sl (ctrsV r3.1.main), .int .i64 r3.1.restart, .int .i64 r3.1.grace, .int .i64 r3.1.prio, .int .i64 r4.1, .sl (intsV (repR uidRd r3.1.main.length r4.2.1 r4.2.2).1), .int .i64 r5.1, .int .i64 r6.1])] (by kernel_rfl) (fun r hr => by simp only [List.mem_cons, List.not_mem_nil, or_false] at hr; rcases hr with rfl | rfl <;> repeat (first | exact List.mem_cons_self | refine List.mem_cons_of_mem _ ?_)) ?_
 refine AG.f rfl rfl (fun st' hst => Q_p rfl (S_loadNM (m := 3) rfl (.tmp rfl) (hst _ (List.mem_of_getElem? (i := 0) rfl)) (by kernel_rfl) (by first | exact Nat.le_of_ble_eq_true rfl | (simp; omega) | simp))) ?_
 refine AG.f rfl rfl (fun st' hst => Q_p rfl (S_loadNM (m := 13) rfl (.tmp rfl) (hst _ (List.mem_of_getElem? (i := 1) rfl)) (by kernel_rfl) (by first | exact Nat.le_of_ble_eq_true rfl | (simp; omega) | simp))) ?_
 refine AG.s rfl rfl rfl (S_storeW 4 rfl (.tmp rfl) (.tmp rfl) rfl rfl rfl (by kernel_rfl)) ?_ ?_
 ·rintro _ _ ⟨rfl, rfl⟩ r hr; simp only [List.mem_cons, List.not_mem_nil, or_false] at hr; rcases hr with rfl | rfl <;> repeat (first | exact List.mem_cons_self | refine List.mem_cons_of_mem _ ?_)
 rintro _ _ ⟨rfl, rfl⟩
 refine AG.h rfl rfl rfl (S_storeW 3 rfl (.tmp rfl) (.tmp rfl) rfl rfl rfl (by kernel_rfl)) ?_
 rintro _ _ ⟨rfl, rfl⟩
 refine AG.nil ?_
 refine AC_ret ?_
 refine ret_outs st rfl (by decide) (OutsR.row 4 rfl rfl (by kernel_rfl) (OutsR.row 3 rfl rfl (by kernel_rfl) OutsR.nil)) (Sub.l (List.Sublist.cons _ (List.Sublist.cons _ (List.Sublist.cons _ (List.Sublist.cons _ (List.Sublist.cons _ (List.Sublist.cons _ (List.sublist_append_right _ _)))))))) (Conv.refl (Sub.l (List.Sublist.cons _ (List.Sublist.cons _ (List.Sublist.cons _ (List.Sublist.cons _ (List.Sublist.cons _ (List.Sublist.cons _ (List.sublist_append_right _ _)))))))) _) ⟨by rw [podP_eq h1 h2 h3 h4 h5 h6]; rfl, rfl⟩ (.inl rfl)
set_option maxHeartbeats 8000000 in
theorem ref09_takeReply_ok (S r : List UInt8) (c : Int) (hr : r <:+ S) (hS : S.length ≤ 1000000) : PCalls Tryz.prog 52 [rdR S (r) (c)] (.tup [rdR S ((replyP r c).2.1) ((replyP r c).2.2), .agg (repL (replyP r c).1)]) := by
 intro st
 refine co 142 Tryz.func52 ?_
 refine AC_seq (AC_region ?_)
 refine s_ (S_box rfl (.tmp rfl)) ?_
 rintro _ _ ⟨b1, rfl, rfl⟩
 refine s_ (S_alloc [.string ⟨#[]⟩, .int .i64 0, .int .i64 0] rfl (by kernel_rfl)) ?_
 rintro _ _ ⟨b2, rfl, rfl⟩
 refine s_ (S_alloc [.int .i64 0, .int .i64 0, .int .i64 0, .int .u64 0, .string ⟨#[]⟩, .slice none 0 0, .slice none 0 0] rfl (by kernel_rfl)) ?_
 rintro _ _ ⟨b3, rfl, rfl⟩
 refine AL_nil (AC_seq (AC_region ?_))
 refine s_ (S_alloc [.int .i64 0, .int .i64 0, .int .i64 0, .int .u64 0, .string ⟨#[]⟩, .slice none 0 0, .slice none 0 0] rfl (by kernel_rfl)) ?_
 rintro _ _ ⟨b4, rfl, rfl⟩
 refine AL_nil (AC_seq (AC_region ?_))
 refine ldN 3 3 ?_
 refine p_ (S_pcall rfl (AEvs.cons (.tmp rfl) (AEvs.cons (AEv.const _) AEvs.nil)) (ref04_Num_ok S r c hr hS 999 (by decide))) ?_
 generalize h1 : numR r c 999 = r1
 have q1 : r1.2.1 <:+ S := by rw [← h1]; exact (numR_suf _ _ _).trans hr
 refine mv rfl rfl rfl rfl ?_
 refine ex 0 ?_
 refine ex 1 ?_
 refine stN 3 ?_
 refine as_ rfl rfl rfl rfl ?_
 refine AL_nil (AC_seq (AC_region ?_))
 refine mv rfl rfl rfl rfl ?_
 refine fl 0 ?_
 refine st1 0 ?_
 refine AL_nil (AC_seq (AC_region ?_))
 refine ldN 3 3 ?_
 refine p_ (S_pcall rfl (AEvs.cons (.tmp rfl) (AEvs.cons (AEv.const _) AEvs.nil)) (ref04_Num_ok S r1.2.1 r1.2.2 q1 hS 1073741824 (by decide))) ?_
 generalize h2 : numR r1.2.1 r1.2.2 1073741824 = r2
 have q2 : r2.2.1 <:+ S := by rw [← h2]; exact (numR_suf _ _ _).trans q1
 refine mv rfl rfl rfl rfl ?_
 refine ex 0 ?_
 refine ex 1 ?_
 refine s_ (S_alloc [.string ⟨#[]⟩, .int .i64 0, .int .i64 0] rfl (by kernel_rfl)) ?_
 rintro _ _ ⟨b6, rfl, rfl⟩
 refine stW 0 ?_
 refine as_ rfl rfl rfl rfl ?_
 refine AL_nil (AC_seq (AC_region ?_))
 refine ldN 3 0 ?_
 refine stN 4 ?_
 refine AL_nil (AC_seq (AC_region ?_))
 refine mv rfl rfl rfl rfl ?_
 refine fl 1 ?_
 refine st1 1 ?_
 refine AL_nil (AC_seq (AC_region ?_))
 refine ldN 3 4 ?_
 refine p_ (S_pcall rfl (AEvs.cons (.tmp rfl) (AEvs.cons (AEv.const _) AEvs.nil)) (ref04_Num_ok S r2.2.1 r2.2.2 q2 hS 1073741824 (by decide))) ?_
 generalize h3 : numR r2.2.1 r2.2.2 1073741824 = r3
 have q3 : r3.2.1 <:+ S := by rw [← h3]; exact (numR_suf _ _ _).trans q2
 refine mv rfl rfl rfl rfl ?_
 refine ex 0 ?_
 refine ex 1 ?_
 refine s_ (S_alloc [.string ⟨#[]⟩, .int .i64 0, .int .i64 0] rfl (by kernel_rfl)) ?_
 rintro _ _ ⟨b8, rfl, rfl⟩
 refine stW 0 ?_
 refine as_ rfl rfl rfl rfl ?_
 refine AL_nil (AC_seq (AC_region ?_))
 refine ldN 3 0 ?_
 refine stN 5 ?_
 refine AL_nil (AC_seq (AC_region ?_))
 refine mv rfl rfl rfl rfl ?_
 refine fl 2 ?_
 refine st1 2 ?_
 refine AL_nil (AC_seq (AC_region ?_))
 refine ldN 3 5 ?_
 refine p_ (S_pcall rfl (AEvs.cons (.tmp rfl) AEvs.nil) (ref04_Big_ok S r3.2.1 r3.2.2 q3 hS)) ?_
 generalize h4 : bigR r3.2.1 r3.2.2 = r4
 have q4 : r4.2.1 <:+ S := by rw [← h4]; exact (bigR_suf _ _).trans q3
 refine mv rfl rfl rfl rfl ?_
 refine ex 0 ?_
 refine ex 1 ?_
 refine s_ (S_alloc [.string ⟨#[]⟩, .int .i64 0, .int .i64 0] rfl (by kernel_rfl)) ?_
 rintro _ _ ⟨b10, rfl, rfl⟩
 refine stW 0 ?_
 refine as_ rfl rfl rfl rfl ?_
 refine AL_nil (AC_seq (AC_region ?_))
 refine ldN 3 0 ?_
 refine stN 6 ?_
 refine AL_nil (AC_seq (AC_region ?_))
 refine mv rfl rfl rfl rfl ?_
 refine fl 3 ?_
 refine st1 3 ?_
 refine AL_nil (AC_seq (AC_region ?_))
 refine ldN 3 6 ?_
 refine p_ (S_pcall rfl (AEvs.cons (.tmp rfl) (AEvs.cons (AEv.const _) AEvs.nil)) (ref04_Text_ok S r4.2.1 r4.2.2 q4 hS 32 (by decide))) ?_
 generalize h5 : wtextR r4.2.1 r4.2.2 32 = r5
 have q5 : r5.2.1 <:+ S := by rw [← h5]; exact (wtextR_suf _ _ _).trans q4
 refine mv rfl rfl rfl rfl ?_
 refine ex 0 ?_
 refine ex 1 ?_
 refine s_ (S_alloc [.string ⟨#[]⟩, .int .i64 0, .int .i64 0] rfl (by kernel_rfl)) ?_
 rintro _ _ ⟨b12, rfl, rfl⟩
 refine stW 0 ?_
 refine as_ rfl rfl rfl rfl ?_
 refine AL_nil (AC_seq (AC_region ?_))
 refine ldN 3 0 ?_
 refine stN 7 ?_
 refine AL_nil (AC_seq (AC_region ?_))
 refine mv rfl rfl rfl rfl ?_
 refine fl 4 ?_
 refine st1 4 ?_
 refine AL_nil (AC_seq (AC_region ?_))
 refine ldN 3 7 ?_
 refine p_ (S_pcall rfl (AEvs.cons (.tmp rfl) (AEvs.cons (AEv.const _) AEvs.nil)) (ref04_Num_ok S r5.2.1 r5.2.2 q5 hS 16 (by decide))) ?_
 have hn6 := numR_le (s := r5.2.1) (c := r5.2.2) (most := 16)
 have hz6 := numR_nonneg r5.2.1 r5.2.2 16
 generalize h6 : numR r5.2.1 r5.2.2 16 = r6
 have q6 : r6.2.1 <:+ S := by rw [← h6]; exact (numR_suf _ _ _).trans q5
 rw [h6] at hn6 hz6
 refine mv rfl rfl rfl rfl ?_
 refine ex 0 ?_
 refine ex 1 ?_
 refine s_ (S_alloc [.string ⟨#[]⟩, .int .i64 0, .int .i64 0] rfl (by kernel_rfl)) ?_
 rintro _ _ ⟨b14, rfl, rfl⟩
 refine stW 0 ?_
 refine as_ rfl rfl rfl rfl ?_
 refine AL_nil (AC_seq (AC_region ?_))
 refine ldN 3 0 ?_
 refine stN 8 ?_
 refine AL_nil ?_
 refine AC_seq ?_
 refine AC_seq (AC_region ?_)
 refine ac rfl rfl rfl ?_
 refine AL_nil ?_
 refine AC_block ?_
 refine AC_loopK (G := Nat × List Pod × List UInt8 × Int × Own) [(1, _), (2, _), (3, _), (4, _), (14, _), (15, _)] (fun g => PIv podP r6.1.toNat r6.2.1 r6.2.2 g.1 g.2.1 g.2.2.1 g.2.2.2.1 ∧ g.2.2.2.2.ok (g.2.1.map podAV) ∧ g.2.2.1 <:+ S) (fun g => [(16, .int .i64 (g.1 : Int))]) (fun g => (b14, .cells (rdL S (r6.2.1) (r6.2.2))) :: (b4, .cells [.int .i64 r1.1, .int .i64 r2.1, .int .i64 r3.1, .int .u64 (r4.1 : Int), .S r5.1, ownAV g.2.2.2.2 13 (podsV g.2.1), .nils]) :: (b3, .cells [.int .i64 0, .int .i64 0, .int .i64 0, .int .u64 0, .S [], .nils, .nils]) :: (b2, .cells [.S [], .int .i64 0, .int .i64 0]) :: (b1, .cells (rdL S (g.2.2.1) (g.2.2.2.1))) :: (ownSt g.2.2.2.2 34 13 (podsV g.2.1) ++ st)) (fun g => r6.1.toNat - g.1) ((0, [], r6.2.1, r6.2.2, .nil)) (⟨pi_start0 _ _ _, rfl, q6⟩) (Sub.l (.cons_cons _ (.cons _ (.cons _ (.cons _ (.cons _ (List.Sublist.refl _))))))) (.cons rfl (Le.refl _) (.cons rfl (Le.refl _) (.cons rfl (Le.refl _) (.cons rfl (Le.refl _) (.cons rfl (Le.refl _) (.cons rfl (Le.refl _) .nil)))))) (.cons rfl (by first | exact Le.refl _ | exact Le.nils | exact Le.row _ _ _ _ | exact Le.of_eq (by first | rfl | (simp; done) | (push_cast; rfl) | (simp; omega))) .nil) ?_
 rintro ⟨i, out, s1, c1, p⟩ ⟨hI, hq, hs⟩
 try dsimp only
 simp only [List.cons_append, List.nil_append]
 dsimp only at hI hq hs
 have hI1 := hI.1
 have hI2 := hI.2.1
 refine AC_seq ?_
 refine AC_seq (AC_region ?_)
 refine mv rfl rfl rfl rfl ?_
 refine mv rfl rfl rfl rfl ?_
 refine p_ (S_lss rfl (.tmp rfl) (.tmp rfl)) ?_
 refine mv rfl rfl rfl rfl ?_
 refine g_ (fun _ => fA 2) ?_
 refine g_ (fun _ => lA 4) ?_
 refine g_ (fun _ => S_eql rfl (AEv.cd (.tmp rfl)) (AEv.const _)) ?_
 refine an ?_
 refine AL_nil ?_
 refine AC_cond (.tmp rfl) (fun hb20 => ?_) (fun hb20 => ?_)
 ·try simp only [zA,zO,zN,zM,zP,zQ,zD,zF,gd] at hb20
  have hil : i < r6.1.toNat := by omega
  obtain rfl : c1 = 0 := by omega
  refine AC_skip ?_
  refine AC_seq ?_
  refine AC_block ?_
  refine AC_seq (AC_region ?_)
  refine ldN 3 4 ?_
  refine p_ (S_pcall rfl (AEvs.cons (.tmp rfl) AEvs.nil) (ref09_takePod_ok S s1 0 hs hS)) ?_
  refine mv rfl rfl rfl rfl ?_
  refine ex 0 ?_
  refine ex 1 ?_
  refine s_ (S_alloc [.string ⟨#[]⟩, .int .i64 0, .int .i64 0] rfl (by kernel_rfl)) ?_
  rintro _ _ ⟨b17, rfl, rfl⟩
  refine s_ (S_alloc [.int .i64 0, .int .u64 0, .string ⟨#[]⟩, .slice none 0 0, .slice none 0 0, .slice none 0 0, .int .i64 0, .int .i64 0, .int .i64 0, .int .i64 0, .slice none 0 0, .int .i64 0, .int .i64 0] rfl (by kernel_rfl)) ?_
  rintro _ _ ⟨b18, rfl, rfl⟩
  refine stW 1 ?_
  refine stW 0 ?_
  refine AL_nil (AC_seq (AC_region ?_))
  refine ldN 3 1 ?_
  refine stN 6 ?_
  refine AL_nil ?_
  refine AC_region ?_
  refine fl 5 ?_
  refine ld 3 ?_
  refine ldN 13 0 ?_
  refine p_ (S_buildSlice (e := 34) 13 rfl (AEvs.cons (.tmp rfl) AEvs.nil) rfl (by kernel_rfl) (by kernel_rfl) (by intro y hy; simp only [List.mem_cons, List.not_mem_nil, or_false] at hy; rcases hy with rfl <;> exact ⟨rfl, rfl⟩) (by decide) (by decide) (by decide)) ?_
  refine s_ (S_appendM (f := podAV) (l := out) (l2 := [(podP s1 0).1]) (e := 34) (size := 13) (bytes := 176) (p := p) ([_, _, _, _, _, _, _]) (st) rfl (.tmp rfl) (.tmp rfl) rfl hq (by kernel_rfl) (by simp) (fun _ => ⟨rfl, rfl⟩) (by simp only [List.length_singleton]; omega) (by simp only [List.length_singleton]; omega)) ?_
  rintro _ _ ⟨b8, k8, cap8, hx8, rfl, rfl⟩
  refine fl 5 ?_
  refine s_ (S_store 3 rfl (.tmp rfl) (.tmp rfl) rfl (by first | exact Nat.le_of_ble_eq_true rfl | simp) (by first | rfl | exact ownAV_one _ _ _) (by kernel_rfl)) ?_
  rintro _ _ ⟨rfl, rfl⟩
  refine AL_nil ?_
  refine AC_region ?_
  refine mv rfl rfl rfl rfl ?_
  refine p_ (S_addI rfl (.tmp rfl) (AEv.const _) (by omega) (by omega)) ?_
  refine as_ rfl rfl rfl rfl ?_
  refine AL_nil ?_
  exact ⟨(i + 1, out ++ [(podP s1 0).1], (podP s1 0).2.1, (podP s1 0).2.2, .row b8 k8 cap8), ⟨pi_more hI hil, hx8, (podP_suf _ _).trans hs⟩, by dsimp only; omega, (Sub.l (List.Sublist.cons _ (List.Sublist.cons _ (List.Sublist.refl _)))), (.cons rfl (by first | exact Le.refl _ | exact Le.nils | exact Le.row _ _ _ _ | exact Le.of_eq (by first | rfl | (simp; done) | (push_cast; rfl) | (simp; omega))) .nil), (.cons rfl (Le.refl _) (.cons rfl (Le.refl _) (.cons rfl (Le.refl _) (.cons rfl (Le.refl _) (.cons rfl (Le.refl _) (.cons rfl (Le.refl _) .nil))))))⟩
 try simp only [zA,zO,zN,zM,zP,zQ,zD,zF,gd] at hb20
 have hp16 : pallR podP 16 r5.2.1 r5.2.2 = (out, s1, c1) := by unfold pallR; rw [h6]; exact pi_stop hI (by omega)
 refine AC_exit ?_
 refine AC_seq (AC_region ?_)
 refine ldN 3 4 ?_
 refine p_ (S_pcall rfl (AEvs.cons (.tmp rfl) (AEvs.cons (AEv.const _) AEvs.nil)) (ref04_Num_ok S s1 c1 hs hS 4 (by decide))) ?_
 have hn7 := numR_le (s := s1) (c := c1) (most := 4)
 have hz7 := numR_nonneg s1 c1 4
 generalize h7 : numR s1 c1 4 = r7
 have q7 : r7.2.1 <:+ S := by rw [← h7]; exact (numR_suf _ _ _).trans hs
 rw [h7] at hn7 hz7
 refine mv rfl rfl rfl rfl ?_
 refine ex 0 ?_
 refine ex 1 ?_
 refine stW 0 ?_
 refine as_ rfl rfl rfl rfl ?_
 refine AL_nil (AC_seq (AC_region ?_))
 refine ldN 3 0 ?_
 refine stN 4 ?_
 refine AL_nil ?_
 refine AC_seq ?_
 refine AC_seq (AC_region ?_)
 refine ac rfl rfl rfl ?_
 refine AL_nil ?_
 refine AC_block ?_
 refine AC_loopK (G := Nat × List Tri × List UInt8 × Int × Own) [(1, _), (2, _), (3, _), (4, _), (15, _)] (fun g => PIv triRd r7.1.toNat r7.2.1 r7.2.2 g.1 g.2.1 g.2.2.1 g.2.2.2.1 ∧ g.2.2.2.2.ok (g.2.1.map resAV) ∧ g.2.2.1 <:+ S) (fun g => [(19, .int .i64 (g.1 : Int))]) (fun g => (b4, .cells [.int .i64 r1.1, .int .i64 r2.1, .int .i64 r3.1, .int .u64 (r4.1 : Int), .S r5.1, ownAV p 13 (podsV out), ownAV g.2.2.2.2 3 (g.2.1.map resAV)]) :: (b3, .cells [.int .i64 0, .int .i64 0, .int .i64 0, .int .u64 0, .S [], .nils, .nils]) :: (b2, .cells [.S [], .int .i64 0, .int .i64 0]) :: (b1, .cells (rdL S (g.2.2.1) (g.2.2.2.1))) :: (ownSt g.2.2.2.2 74 3 (g.2.1.map resAV) ++ (ownSt p 34 13 (podsV out) ++ st))) (fun g => r7.1.toNat - g.1) ((0, [], r7.2.1, r7.2.2, .nil)) (⟨pi_start0 _ _ _, rfl, q7⟩) (Sub.l (List.Sublist.cons _ (List.Sublist.refl _))) (.cons rfl (Le.refl _) (.cons rfl (Le.refl _) (.cons rfl (Le.refl _) (.cons rfl (Le.refl _) (.cons rfl (Le.refl _) .nil))))) (.cons rfl (by first | exact Le.refl _ | exact Le.nils | exact Le.row _ _ _ _ | exact Le.of_eq (by first | rfl | (simp; done) | (push_cast; rfl) | (simp; omega))) .nil) ?_
 rintro ⟨j, use, s2, c2, q⟩ ⟨hJ, hqu, hs2⟩
 try dsimp only
 simp only [List.cons_append, List.nil_append]
 dsimp only at hJ hqu hs2
 have hJ1 := hJ.1
 have hJ2 := hJ.2.1
 refine AC_seq ?_
 refine AC_seq (AC_region ?_)
 refine mv rfl rfl rfl rfl ?_
 refine mv rfl rfl rfl rfl ?_
 refine p_ (S_lss rfl (.tmp rfl) (.tmp rfl)) ?_
 refine mv rfl rfl rfl rfl ?_
 refine g_ (fun _ => fA 2) ?_
 refine g_ (fun _ => lA 3) ?_
 refine g_ (fun _ => S_eql rfl (AEv.cd (.tmp rfl)) (AEv.const _)) ?_
 refine an ?_
 refine AL_nil ?_
 refine AC_cond (.tmp rfl) (fun hb35 => ?_) (fun hb35 => ?_)
 ·try simp only [zA,zO,zN,zM,zP,zQ,zD,zF,gd] at hb35
  have hjl : j < r7.1.toNat := by omega
  obtain rfl : c2 = 0 := by omega
  refine AC_skip ?_
  refine AC_seq ?_
  refine AC_block ?_
  refine AC_seq (AC_region ?_)
  refine s_ (S_alloc [.int .i64 0, .int .i64 0, .int .i64 0] rfl (by kernel_rfl)) ?_
  rintro _ _ ⟨b20, rfl, rfl⟩
  refine AL_nil (AC_seq (AC_region ?_))
  refine ldN 3 4 ?_
  refine p_ (S_pcall rfl (AEvs.cons (.tmp rfl) (AEvs.cons (AEv.const _) AEvs.nil)) (ref04_Num_ok S s2 0 hs2 hS 1099511627776 (by decide))) ?_
  generalize h8 : numR s2 0 1099511627776 = r8
  have q8 : r8.2.1 <:+ S := by rw [← h8]; exact (numR_suf _ _ _).trans hs2
  refine mv rfl rfl rfl rfl ?_
  refine ex 0 ?_
  refine ex 1 ?_
  refine s_ (S_alloc [.string ⟨#[]⟩, .int .i64 0, .int .i64 0] rfl (by kernel_rfl)) ?_
  rintro _ _ ⟨b21, rfl, rfl⟩
  refine stW 0 ?_
  refine as_ rfl rfl rfl rfl ?_
  refine AL_nil (AC_seq (AC_region ?_))
  refine ldN 3 0 ?_
  refine stN 5 ?_
  refine AL_nil (AC_seq (AC_region ?_))
  refine mv rfl rfl rfl rfl ?_
  refine fl 0 ?_
  refine st1 1 ?_
  refine AL_nil (AC_seq (AC_region ?_))
  refine ldN 3 5 ?_
  refine p_ (S_pcall rfl (AEvs.cons (.tmp rfl) (AEvs.cons (AEv.const _) AEvs.nil)) (ref04_Num_ok S r8.2.1 r8.2.2 q8 hS 1099511627776 (by decide))) ?_
  generalize h9 : numR r8.2.1 r8.2.2 1099511627776 = r9
  have q9 : r9.2.1 <:+ S := by rw [← h9]; exact (numR_suf _ _ _).trans q8
  refine mv rfl rfl rfl rfl ?_
  refine ex 0 ?_
  refine ex 1 ?_
  refine s_ (S_alloc [.string ⟨#[]⟩, .int .i64 0, .int .i64 0] rfl (by kernel_rfl)) ?_
  rintro _ _ ⟨b23, rfl, rfl⟩
  refine stW 0 ?_
  refine as_ rfl rfl rfl rfl ?_
  refine AL_nil (AC_seq (AC_region ?_))
  refine ldN 3 0 ?_
  refine stN 6 ?_
  refine AL_nil (AC_seq (AC_region ?_))
  refine mv rfl rfl rfl rfl ?_
  refine fl 1 ?_
  refine st1 2 ?_
  refine AL_nil (AC_seq (AC_region ?_))
  refine ldN 3 6 ?_
  refine p_ (S_pcall rfl (AEvs.cons (.tmp rfl) (AEvs.cons (AEv.const _) AEvs.nil)) (ref04_Num_ok S r9.2.1 r9.2.2 q9 hS 1099511627776 (by decide))) ?_
  generalize h10 : numR r9.2.1 r9.2.2 1099511627776 = r10
  have q10 : r10.2.1 <:+ S := by rw [← h10]; exact (numR_suf _ _ _).trans q9
  refine mv rfl rfl rfl rfl ?_
  refine ex 0 ?_
  refine ex 1 ?_
  refine s_ (S_alloc [.string ⟨#[]⟩, .int .i64 0, .int .i64 0] rfl (by kernel_rfl)) ?_
  rintro _ _ ⟨b25, rfl, rfl⟩
  refine stW 0 ?_
  refine as_ rfl rfl rfl rfl ?_
  refine AL_nil (AC_seq (AC_region ?_))
  refine ldN 3 0 ?_
  refine stN 7 ?_
  refine AL_nil (AC_seq (AC_region ?_))
  refine mv rfl rfl rfl rfl ?_
  refine fl 2 ?_
  refine st1 3 ?_
  refine AL_nil ?_
  refine AC_region ?_
  refine fl 6 ?_
  refine ld 4 ?_
  refine ldN 3 3 ?_
  refine p_ (S_buildSlice (e := 74) 3 rfl (AEvs.cons (.tmp rfl) AEvs.nil) rfl (by kernel_rfl) (by kernel_rfl) (by intro y hy; simp only [List.mem_cons, List.not_mem_nil, or_false] at hy; rcases hy with rfl <;> exact ⟨rfl, rfl⟩) (by decide) (by decide) (by decide)) ?_
  refine s_ (S_appendM (f := resAV) (l := use) (l2 := [(r8.1, r9.1, r10.1)]) (e := 74) (size := 3) (bytes := 24) (p := q) ([_, _, _, _, _, _, _, _]) ((ownSt p 34 13 (podsV out) ++ st)) rfl (.tmp rfl) (.tmp rfl) rfl hqu (by kernel_rfl) (by simp) (fun _ => ⟨rfl, rfl⟩) (by simp only [List.length_singleton]; omega) (by simp only [List.length_singleton]; omega)) ?_
  rintro _ _ ⟨b8, k8, cap8, hx8, rfl, rfl⟩
  refine fl 6 ?_
  refine s_ (S_store 4 rfl (.tmp rfl) (.tmp rfl) rfl (by first | exact Nat.le_of_ble_eq_true rfl | simp) (by first | rfl | exact ownAV_one _ _ _) (by kernel_rfl)) ?_
  rintro _ _ ⟨rfl, rfl⟩
  refine AL_nil ?_
  refine AC_region ?_
  refine mv rfl rfl rfl rfl ?_
  refine p_ (S_addI rfl (.tmp rfl) (AEv.const _) (by omega) (by omega)) ?_
  refine as_ rfl rfl rfl rfl ?_
  refine AL_nil ?_
  have h11 := pi_more hJ hjl
  rw [triRd_eq h8 h9 h10] at h11
  exact ⟨(j + 1, use ++ [(r8.1, r9.1, r10.1)], r10.2.1, r10.2.2, .row b8 k8 cap8), ⟨h11, hx8, q10⟩, by dsimp only; omega, (Sub.l (List.Sublist.cons _ (List.Sublist.cons _ (List.Sublist.cons _ (List.Sublist.cons _ (List.Sublist.refl _)))))), (.cons rfl (by first | exact Le.refl _ | exact Le.nils | exact Le.row _ _ _ _ | exact Le.of_eq (by first | rfl | (simp; done) | (push_cast; rfl) | (simp; omega))) .nil), (.cons rfl (Le.refl _) (.cons rfl (Le.refl _) (.cons rfl (Le.refl _) (.cons rfl (Le.refl _) (.cons rfl (Le.refl _) .nil)))))⟩
 try simp only [zA,zO,zN,zM,zP,zQ,zD,zF,gd] at hb35
 have hp4 : pallR triRd 4 s1 c1 = (use, s2, c2) := by unfold pallR; rw [h7]; exact pi_stop hJ (by omega)
 have hx := replyP_eq h1 h2 h3 h4 h5 hp16 hp4
 refine AC_exit ?_
 refine AC_seq ?_
 refine AC_cells (n := 0) (ds := [.int .i64 r1.1, .int .i64 r2.1, .int .i64 r3.1, .int .u64 (r4.1 : Int), .S r5.1, .sl (podsV out), .sl (use.map resAV)]) rfl (.cons (Le.refl _) (.cons (Le.refl _) (.cons (Le.refl _) (.cons (Le.refl _) (.cons (Le.refl _) (.cons (Le_own hq) (.cons (Le_own hqu) .nil))))))) ?_
 simp only [List.set_cons_succ, List.set_cons_zero]
 refine AC_plan (σ := [(0, 0), (1, 0), (2, 1), (3, 2)]) (by kernel_rfl) [(b1, Ob.cells (rdL S (s2) (c2))), (b4, Ob.cells [.int .i64 r1.1, .int .i64 r2.1, .int .i64 r3.1, .int .u64 (r4.1 : Int), .S r5.1, .sl (podsV out), .sl (use.map resAV)])] (by kernel_rfl) (fun r hr => by simp only [List.mem_cons, List.not_mem_nil, or_false] at hr; rcases hr with rfl | rfl <;> repeat (first | exact List.mem_cons_self | refine List.mem_cons_of_mem _ ?_)) ?_
 refine AG.f rfl rfl (fun st' hst => Q_p rfl (S_loadNM (m := 3) rfl (.tmp rfl) (hst _ (List.mem_of_getElem? (i := 0) rfl)) (by kernel_rfl) (by first | exact Nat.le_of_ble_eq_true rfl | (simp; omega) | simp))) ?_
 refine AG.f rfl rfl (fun st' hst => Q_p rfl (S_loadNM (m := 7) rfl (.tmp rfl) (hst _ (List.mem_of_getElem? (i := 1) rfl)) (by kernel_rfl) (by first | exact Nat.le_of_ble_eq_true rfl | (simp; omega) | simp))) ?_
 refine AG.s rfl rfl rfl (S_storeW 2 rfl (.tmp rfl) (.tmp rfl) rfl rfl rfl (by kernel_rfl)) ?_ ?_
 ·rintro _ _ ⟨rfl, rfl⟩ r hr; simp only [List.mem_cons, List.not_mem_nil, or_false] at hr; rcases hr with rfl | rfl <;> repeat (first | exact List.mem_cons_self | refine List.mem_cons_of_mem _ ?_)
 rintro _ _ ⟨rfl, rfl⟩
 refine AG.h rfl rfl rfl (S_storeW 1 rfl (.tmp rfl) (.tmp rfl) rfl rfl rfl (by kernel_rfl)) ?_
 rintro _ _ ⟨rfl, rfl⟩
 refine AG.nil ?_
 refine AC_ret ?_
 refine ret_outs st rfl (by decide) (OutsR.row 2 rfl rfl (by kernel_rfl) (OutsR.row 1 rfl rfl (by kernel_rfl) OutsR.nil)) (Sub.l (List.Sublist.cons _ (List.Sublist.cons _ (List.Sublist.cons _ (List.Sublist.cons _ ((List.sublist_append_right _ _).trans (List.sublist_append_right _ _))))))) (Conv.refl (Sub.l (List.Sublist.cons _ (List.Sublist.cons _ (List.Sublist.cons _ (List.Sublist.cons _ ((List.sublist_append_right _ _).trans (List.sublist_append_right _ _))))))) _) ⟨by rw [hx]; rfl, rfl⟩ (.inl rfl)
end Go.Proofs.YtemmkkmpchphkaaGreatDoor

set_option maxRecDepth 100000
namespace Go.Proofs.YtemmkkmpchphkaaGreatDoor
open Go.AL Go.NumSpec
set_option maxHeartbeats 4000000 in
theorem ref09_Of_ok (s : List UInt8) (hs : s.length ≤ 1000000) : PCalls Tryz.prog 15 [.S s] (.tup [msgAV (ofM s), .int .i64 (ofMC s)]) := by
 intro st
 refine co 114 Tryz.func15 ?_
 have hsl := suf_len (msgP_suf s)
 have hend := end_suf (s := (msgP s 0).2.1) (c := (msgP s 0).2.2)
 refine AC_seq (AC_region ?_)
 refine s_ (S_alloc [.int .i64 0, .int .i64 0, .int .i64 0, .int .i64 0, .int .i64 0, .int .u64 0, .string ⟨#[]⟩, .slice none 0 0, .slice none 0 0, .int .i64 0, .int .u64 0, .int .i64 0, .int .u64 0, .string ⟨#[]⟩, .slice none 0 0, .slice none 0 0, .slice none 0 0, .int .i64 0, .int .i64 0, .int .i64 0, .int .i64 0, .slice none 0 0, .int .i64 0, .int .i64 0] rfl (by kernel_rfl)) ?_
 rintro _ _ ⟨b2, rfl, rfl⟩
 refine ac rfl rfl rfl ?_
 refine AL_nil (AC_seq (AC_region ?_))
 refine s_ (S_alloc [.int .i64 0, .int .i64 0, .int .i64 0, .int .i64 0, .int .i64 0, .int .u64 0, .string ⟨#[]⟩, .slice none 0 0, .slice none 0 0, .int .i64 0, .int .u64 0, .int .i64 0, .int .u64 0, .string ⟨#[]⟩, .slice none 0 0, .slice none 0 0, .slice none 0 0, .int .i64 0, .int .i64 0, .int .i64 0, .int .i64 0, .slice none 0 0, .int .i64 0, .int .i64 0] rfl (by kernel_rfl)) ?_
 rintro _ _ ⟨b4, rfl, rfl⟩
 refine AL_nil ?_
 refine AC_seq ?_
 refine AC_cells (n := 0) (ds := msgL msg0) rfl (.cons (Le.refl _) (.cons (Le.refl _) (.cons (Le.refl _) (.cons (Le.refl _) (.cons (Le.refl _) (.cons (Le.refl _) (.cons (Le.refl _) (.cons (Le.nils) (.cons (Le.nils) (.cons (Le.refl _) (.cons (Le.refl _) (.cons (Le.refl _) (.cons (Le.refl _) (.cons (Le.refl _) (.cons (Le.nils) (.cons (Le.nils) (.cons (Le.nils) (.cons (Le.refl _) (.cons (Le.refl _) (.cons (Le.refl _) (.cons (Le.refl _) (.cons (Le.nils) (.cons (Le.refl _) (.cons (Le.refl _) .nil)))))))))))))))))))))))) ?_
 simp only [List.set_cons_zero]
 refine AC_region ?_
 refine mv rfl rfl rfl rfl ?_
 refine p_ (S_build (t := 85) (pl := [(0, 1), (1, 1), (2, 1)]) (zs := [.string ⟨#[]⟩, .int .i64 0, .int .i64 0]) rfl (AEvs.cons (.tmp rfl) AEvs.nil) (by kernel_rfl) rfl) ?_
 refine s_ (S_alloc [.string ⟨#[]⟩, .int .i64 0, .int .i64 0] rfl (by kernel_rfl)) ?_
 rintro _ _ ⟨b5, rfl, rfl⟩
 refine stW 0 ?_
 refine AL_nil (AC_seq (AC_region ?_))
 refine ldN 3 0 ?_
 refine p_ (S_pcall rfl (AEvs.cons (y := rdR s s 0) ((AEv.tmp rfl).le (Le.of_eq (rd_all s).symm)) (AEvs.cons (AEv.const _) AEvs.nil)) (ref04_Num_ok s s 0 (List.suffix_refl _) hs 2 (by decide))) ?_
 generalize h1 : numR s 0 2 = r1
 have q1 : r1.2.1 <:+ s := by rw [← h1]; exact (numR_suf _ _ _).trans (List.suffix_refl _)
 refine mv rfl rfl rfl rfl ?_
 refine ex 0 ?_
 refine ex 1 ?_
 refine s_ (S_alloc [.string ⟨#[]⟩, .int .i64 0, .int .i64 0] rfl (by kernel_rfl)) ?_
 rintro _ _ ⟨b6, rfl, rfl⟩
 refine stW 0 ?_
 refine as_ rfl rfl rfl rfl ?_
 refine AL_nil (AC_seq (AC_region ?_))
 refine ldN 3 0 ?_
 refine stW 1 ?_
 refine AL_nil (AC_seq (AC_region ?_))
 refine mv rfl rfl rfl rfl ?_
 refine fl 0 ?_
 refine st1 2 ?_
 refine AL_nil (AC_seq (AC_region ?_))
 refine ldN 3 1 ?_
 refine p_ (S_pcall rfl (AEvs.cons (.tmp rfl) (AEvs.cons (AEv.const _) AEvs.nil)) (ref04_Num_ok s r1.2.1 r1.2.2 q1 hs 1073741824 (by decide))) ?_
 generalize h2 : numR r1.2.1 r1.2.2 1073741824 = r2
 have q2 : r2.2.1 <:+ s := by rw [← h2]; exact (numR_suf _ _ _).trans q1
 refine mv rfl rfl rfl rfl ?_
 refine ex 0 ?_
 refine ex 1 ?_
 refine s_ (S_alloc [.string ⟨#[]⟩, .int .i64 0, .int .i64 0] rfl (by kernel_rfl)) ?_
 rintro _ _ ⟨b8, rfl, rfl⟩
 refine stW 0 ?_
 refine as_ rfl rfl rfl rfl ?_
 refine AL_nil (AC_seq (AC_region ?_))
 refine ldN 3 0 ?_
 refine stW 2 ?_
 refine AL_nil (AC_seq (AC_region ?_))
 refine mv rfl rfl rfl rfl ?_
 refine fl 1 ?_
 refine st1 3 ?_
 refine AL_nil ?_
 refine AC_joinK (G := Rep × List UInt8 × Int) [(0, _), (2, _), (3, _), (4, _), (5, _)] (fun g => (r1.1 = 1 → msgP s 0 = (⟨r1.1, r2.1, g.1, evt0⟩, g.2.1, g.2.2)) ∧ (¬ r1.1 = 1 → g = (rep0, r2.2.1, r2.2.2)) ∧ g.2.1 <:+ s) (fun g => []) (fun g => (b5, .cells (rdL s g.2.1 g.2.2)) :: (b4, .cells (msgL ⟨r1.1, r2.1, g.1, evt0⟩)) :: (b2, .cells [.int .i64 0, .int .i64 0, .int .i64 0, .int .i64 0, .int .i64 0, .int .u64 0, .S [], .nils, .nils, .int .i64 0, .int .u64 0, .int .i64 0, .int .u64 0, .S [], .nils, .nils, .nils, .int .i64 0, .int .i64 0, .int .i64 0, .int .i64 0, .nils, .int .i64 0, .int .i64 0]) :: st) (.cons rfl (Le.refl _) (.cons rfl (Le.refl _) (.cons rfl (Le.refl _) (.cons rfl (Le.refl _) (.cons rfl (Le.refl _) .nil))))) ?_ ?_
 ·refine AC_seq (AC_region ?_)
  refine fl 0 ?_
  refine ld 3 ?_
  refine p_ (S_eql rfl (.tmp rfl) (AEv.const _)) ?_
  refine AL_nil ?_
  refine AC_cond (.tmp rfl) (fun hb6 => ?_) (fun hb6 => ?_)
  ·try simp only [zA,zO,zN,zM,zP,zQ,zD,zF,gd] at hb6
   have hk : r1.1 = 1 := by omega
   refine AC_seq (AC_region ?_)
   refine ldN 3 2 ?_
   refine p_ (S_pcall rfl (AEvs.cons (.tmp rfl) AEvs.nil) (ref09_takeReply_ok s r2.2.1 r2.2.2 q2 hs)) ?_
   refine mv rfl rfl rfl rfl ?_
   refine ex 0 ?_
   refine ex 1 ?_
   refine s_ (S_alloc [.string ⟨#[]⟩, .int .i64 0, .int .i64 0] rfl (by kernel_rfl)) ?_
   rintro _ _ ⟨b10, rfl, rfl⟩
   refine s_ (S_alloc [.int .i64 0, .int .i64 0, .int .i64 0, .int .u64 0, .string ⟨#[]⟩, .slice none 0 0, .slice none 0 0] rfl (by kernel_rfl)) ?_
   rintro _ _ ⟨b11, rfl, rfl⟩
   refine stW 1 ?_
   refine stW 0 ?_
   refine AL_nil (AC_seq (AC_region ?_))
   refine ldN 3 1 ?_
   refine stW 4 ?_
   refine AL_nil ?_
   refine AC_region ?_
   refine ldN 7 0 ?_
   refine fl 2 ?_
   refine stN 5 ?_
   refine AL_nil ?_
   exact ⟨((replyP r2.2.1 r2.2.2).1, (replyP r2.2.1 r2.2.2).2.1, (replyP r2.2.1 r2.2.2).2.2), ⟨fun _ => msgP_reply h1 h2 hk, fun h => absurd hk h, (replyP_suf _ _).trans q2⟩, (Sub.l (List.Sublist.cons _ (List.Sublist.cons _ (List.Sublist.cons _ (List.Sublist.cons _ (List.Sublist.refl _)))))), .nil, (.cons rfl (Le.refl _) (.cons rfl (Le.refl _) (.cons rfl (Le.refl _) (.cons rfl (Le.refl _) (.cons rfl (Le.refl _) .nil)))))⟩
  try simp only [zA,zO,zN,zM,zP,zQ,zD,zF,gd] at hb6
  have hk : ¬ r1.1 = 1 := by omega
  refine AC_skip ?_
  exact ⟨(rep0, r2.2.1, r2.2.2), ⟨fun h => absurd h hk, fun _ => rfl, q2⟩, (Sub.l (List.Sublist.cons _ (List.Sublist.cons _ (List.Sublist.refl _)))), .nil, (.cons rfl (Le.refl _) (.cons rfl (Le.refl _) (.cons rfl (Le.refl _) (.cons rfl (Le.refl _) (.cons rfl (Le.refl _) .nil)))))⟩
 rintro ⟨rep, s1, c1⟩ ⟨hI1, hI2, hI3⟩
 try dsimp only
 simp only [List.cons_append, List.nil_append]
 dsimp only at hI1 hI2 hI3
 refine AC_joinK (G := Unit) [(0, _), (2, _), (3, _), (4, _), (5, _)] (fun _ => True) (fun _ => []) (fun _ => (b5, .cells (rdL s (msgP s 0).2.1 (msgP s 0).2.2)) :: (b4, .cells (msgL (msgP s 0).1)) :: (b2, .cells [.int .i64 0, .int .i64 0, .int .i64 0, .int .i64 0, .int .i64 0, .int .u64 0, .S [], .nils, .nils, .int .i64 0, .int .u64 0, .int .i64 0, .int .u64 0, .S [], .nils, .nils, .nils, .int .i64 0, .int .i64 0, .int .i64 0, .int .i64 0, .nils, .int .i64 0, .int .i64 0]) :: st) (.cons rfl (Le.refl _) (.cons rfl (Le.refl _) (.cons rfl (Le.refl _) (.cons rfl (Le.refl _) (.cons rfl (Le.refl _) .nil))))) ?_ ?_
 ·refine AC_seq (AC_region ?_)
  refine fl 0 ?_
  refine ld 1 ?_
  refine p_ (S_eql rfl (.tmp rfl) (AEv.const _)) ?_
  refine AL_nil ?_
  refine AC_cond (.tmp rfl) (fun hb9 => ?_) (fun hb9 => ?_)
  ·try simp only [zA,zO,zN,zM,zP,zQ,zD,zF,gd] at hb9
   have hk2 : r1.1 = 2 := by omega
   obtain ⟨rfl, rfl, rfl⟩ : rep = rep0 ∧ s1 = r2.2.1 ∧ c1 = r2.2.2 := by have h9 := hI2 (by omega); simp only [Prod.mk.injEq] at h9; exact h9
   refine AC_seq (AC_region ?_)
   refine ldN 3 0 ?_
   refine p_ (S_pcall rfl (AEvs.cons (.tmp rfl) (AEvs.cons (AEv.const _) AEvs.nil)) (ref04_Num_ok s r2.2.1 r2.2.2 q2 hs 5 (by decide))) ?_
   generalize h3 : numR r2.2.1 r2.2.2 5 = r3
   have q3 : r3.2.1 <:+ s := by rw [← h3]; exact (numR_suf _ _ _).trans q2
   refine mv rfl rfl rfl rfl ?_
   refine ex 0 ?_
   refine ex 1 ?_
   refine s_ (S_alloc [.string ⟨#[]⟩, .int .i64 0, .int .i64 0] rfl (by kernel_rfl)) ?_
   rintro _ _ ⟨b12, rfl, rfl⟩
   refine stW 0 ?_
   refine as_ rfl rfl rfl rfl ?_
   refine AL_nil (AC_seq (AC_region ?_))
   refine ldN 3 0 ?_
   refine stW 1 ?_
   refine AL_nil (AC_seq (AC_region ?_))
   refine mv rfl rfl rfl rfl ?_
   refine fl 9 ?_
   refine fl 0 ?_
   refine st1 2 ?_
   refine AL_nil (AC_seq (AC_region ?_))
   refine ldN 3 1 ?_
   refine p_ (S_pcall rfl (AEvs.cons (.tmp rfl) AEvs.nil) (ref04_Big_ok s r3.2.1 r3.2.2 q3 hs)) ?_
   generalize h4 : bigR r3.2.1 r3.2.2 = r4
   have q4 : r4.2.1 <:+ s := by rw [← h4]; exact (bigR_suf _ _).trans q3
   refine mv rfl rfl rfl rfl ?_
   refine ex 0 ?_
   refine ex 1 ?_
   refine s_ (S_alloc [.string ⟨#[]⟩, .int .i64 0, .int .i64 0] rfl (by kernel_rfl)) ?_
   rintro _ _ ⟨b14, rfl, rfl⟩
   refine stW 0 ?_
   refine as_ rfl rfl rfl rfl ?_
   refine AL_nil (AC_seq (AC_region ?_))
   refine ldN 3 0 ?_
   refine stW 2 ?_
   refine AL_nil (AC_seq (AC_region ?_))
   refine mv rfl rfl rfl rfl ?_
   refine fl 9 ?_
   refine fl 1 ?_
   refine st1 3 ?_
   refine AL_nil (AC_seq (AC_region ?_))
   refine fl 9 ?_
   refine fl 0 ?_
   refine ld 3 ?_
   refine p_ (S_geq rfl (.tmp rfl) (AEv.const _)) ?_
   refine mv rfl rfl rfl rfl ?_
   refine g_ (fun _ => fA 9) ?_
   refine g_ (fun _ => S_field 0 rfl (AEv.cd (.tmp rfl)) (by kernel_rfl)) ?_
   refine g_ (fun _ => lA 3) ?_
   refine g_ (fun _ => S_leq rfl (AEv.cd (.tmp rfl)) (AEv.const _)) ?_
   refine an ?_
   refine AL_nil ?_
   refine AC_cond (.tmp rfl) (fun hb25 => ?_) (fun hb25 => ?_)
   ·try simp only [zA,zO,zN,zM,zP,zQ,zD,zF,gd] at hb25
    have hw : wholeB r3.1 = true := decide_eq_true (by omega)
    refine AC_seq (AC_region ?_)
    refine ldN 3 2 ?_
    refine p_ (S_pcall rfl (AEvs.cons (.tmp rfl) AEvs.nil) (ref09_takePod_ok s r4.2.1 r4.2.2 q4 hs)) ?_
    refine mv rfl rfl rfl rfl ?_
    refine ex 0 ?_
    refine ex 1 ?_
    refine s_ (S_alloc [.string ⟨#[]⟩, .int .i64 0, .int .i64 0] rfl (by kernel_rfl)) ?_
    rintro _ _ ⟨b16, rfl, rfl⟩
    refine s_ (S_alloc [.int .i64 0, .int .u64 0, .string ⟨#[]⟩, .slice none 0 0, .slice none 0 0, .slice none 0 0, .int .i64 0, .int .i64 0, .int .i64 0, .int .i64 0, .slice none 0 0, .int .i64 0, .int .i64 0] rfl (by kernel_rfl)) ?_
    rintro _ _ ⟨b17, rfl, rfl⟩
    refine stW 1 ?_
    refine stW 0 ?_
    refine AL_nil (AC_seq (AC_region ?_))
    refine ldN 3 1 ?_
    refine stW 4 ?_
    refine AL_nil ?_
    refine AC_region ?_
    refine ldN 13 0 ?_
    refine fl 9 ?_
    refine fl 2 ?_
    refine stN 5 ?_
    refine AL_nil ?_
    exact ⟨(), trivial, by rw [msgP_whole h1 h2 hk2 h3 h4 hw]; exact (Sub.l (List.Sublist.cons _ (List.Sublist.cons _ (List.Sublist.cons _ (List.Sublist.cons _ (List.Sublist.refl _)))))), .nil, (.cons rfl (Le.refl _) (.cons rfl (Le.refl _) (.cons rfl (Le.refl _) (.cons rfl (Le.refl _) (.cons rfl (Le.refl _) .nil)))))⟩
   try simp only [zA,zO,zN,zM,zP,zQ,zD,zF,gd] at hb25
   have hw : ¬ wholeB r3.1 = true := by unfold wholeB; simp only [decide_eq_true_eq]; omega
   refine AC_skip ?_
   exact ⟨(), trivial, by rw [msgP_mark h1 h2 hk2 h3 h4 hw]; exact (Sub.l (List.Sublist.cons _ (List.Sublist.cons _ (List.Sublist.refl _)))), .nil, (.cons rfl (Le.refl _) (.cons rfl (Le.refl _) (.cons rfl (Le.refl _) (.cons rfl (Le.refl _) (.cons rfl (Le.refl _) .nil)))))⟩
  try simp only [zA,zO,zN,zM,zP,zQ,zD,zF,gd] at hb9
  have hk2 : ¬ r1.1 = 2 := by omega
  refine AC_skip ?_
  have hmm : msgP s 0 = (⟨r1.1, r2.1, rep, evt0⟩, s1, c1) := by
   by_cases hk : r1.1 = 1
   ·exact hI1 hk
   ·have h9 := hI2 hk
    simp only [Prod.mk.injEq] at h9
    obtain ⟨e1, e2, e3⟩ := h9
    rw [msgP_none h1 h2 hk hk2, e1, e2, e3]
  exact ⟨(), trivial, by rw [hmm]; exact (Sub.l (List.Sublist.refl _)), .nil, (.cons rfl (Le.refl _) (.cons rfl (Le.refl _) (.cons rfl (Le.refl _) (.cons rfl (Le.refl _) (.cons rfl (Le.refl _) .nil)))))⟩
 rintro _ _
 try dsimp only
 simp only [List.cons_append, List.nil_append]
 refine AC_joinK (G := Unit) [(0, _), (2, _), (3, _), (4, _), (5, _)] (fun _ => True) (fun _ => []) (fun _ => (b5, .cells [.S s, .int .i64 ((s.length - (msgP s 0).2.1.length : Nat) : Int), .int .i64 (endR (msgP s 0).2.1 (msgP s 0).2.2)]) :: (b4, .cells (msgL (msgP s 0).1)) :: (b2, .cells [.int .i64 0, .int .i64 0, .int .i64 0, .int .i64 0, .int .i64 0, .int .u64 0, .S [], .nils, .nils, .int .i64 0, .int .u64 0, .int .i64 0, .int .u64 0, .S [], .nils, .nils, .nils, .int .i64 0, .int .i64 0, .int .i64 0, .int .i64 0, .nils, .int .i64 0, .int .i64 0]) :: st) (.cons rfl (Le.refl _) (.cons rfl (Le.refl _) (.cons rfl (Le.refl _) (.cons rfl (Le.refl _) (.cons rfl (Le.refl _) .nil))))) ?_ ?_
 ·refine AC_seq (AC_region ?_)
  refine fl 2 ?_
  refine ld 0 ?_
  refine p_ (S_eql rfl (.tmp rfl) (AEv.const _)) ?_
  refine mv rfl rfl rfl rfl ?_
  refine g_ (fun _ => fA 1) ?_
  refine g_ (fun _ => lA 0) ?_
  refine g_ (fun _ => mA) ?_
  refine g_ (fun _ => S_lenS (ts := #[]) rfl (AEv.cd (.tmp rfl)) (by kernel_rfl)) ?_
  refine g_ (fun _ => S_lss rfl (AEv.cd (.tmp rfl)) (AEv.cd (.tmp rfl))) ?_
  refine an ?_
  refine AL_nil ?_
  refine AC_cond (.tmp rfl) (fun hb44 => ?_) (fun hb44 => ?_)
  ·try simp only [zA,zO,zN,zM,zP,zQ,zD,zF,gd] at hb44
   have hc1 : (msgP s 0).2.2 = 0 := hb44.1
   have hc2 : (msgP s 0).2.1 ≠ [] := fun h => by have h9 := hb44.2; rw [h] at h9; simp at h9
   refine AC_region ?_
   refine fl 2 ?_
   refine s_ (S_store 0 rfl (.tmp rfl) (AEv.const _) rfl (by first | exact Nat.le_of_ble_eq_true rfl | simp) rfl (by kernel_rfl)) ?_
   rintro _ _ ⟨rfl, rfl⟩
   refine AL_nil ?_
   exact ⟨(), trivial, by rw [show (endR (msgP s 0).2.1 (msgP s 0).2.2) = 3 by rw [hend, if_pos ⟨hc1, hc2⟩]]; exact (Sub.l (List.Sublist.refl _)), .nil, (.cons rfl (Le.refl _) (.cons rfl (Le.refl _) (.cons rfl (Le.refl _) (.cons rfl (Le.refl _) (.cons rfl (Le.refl _) .nil)))))⟩
  try simp only [zA,zO,zN,zM,zP,zQ,zD,zF,gd] at hb44
  have hc3 : ¬ ((msgP s 0).2.2 = 0 ∧ (msgP s 0).2.1 ≠ []) := fun h => by
   have h9 := List.length_pos_iff.2 h.2
   rcases hb44 with h8 | h8
   ·exact h8 h.1
   ·omega
  refine AC_skip ?_
  exact ⟨(), trivial, by rw [show (endR (msgP s 0).2.1 (msgP s 0).2.2) = (msgP s 0).2.2 by rw [hend, if_neg hc3]]; exact (Sub.l (List.Sublist.refl _)), .nil, (.cons rfl (Le.refl _) (.cons rfl (Le.refl _) (.cons rfl (Le.refl _) (.cons rfl (Le.refl _) (.cons rfl (Le.refl _) .nil)))))⟩
 rintro _ _
 try dsimp only
 simp only [List.cons_append, List.nil_append]
 refine AC_joinK (G := Unit) [(2, _), (3, _), (4, _), (5, _)] (fun _ => True) (fun _ => []) (fun _ => (b5, .cells [.S s, .int .i64 ((s.length - (msgP s 0).2.1.length : Nat) : Int), .int .i64 (ofMC s)]) :: (b4, .cells (msgL (msgP s 0).1)) :: (b2, .cells [.int .i64 0, .int .i64 0, .int .i64 0, .int .i64 0, .int .i64 0, .int .u64 0, .S [], .nils, .nils, .int .i64 0, .int .u64 0, .int .i64 0, .int .u64 0, .S [], .nils, .nils, .nils, .int .i64 0, .int .i64 0, .int .i64 0, .int .i64 0, .nils, .int .i64 0, .int .i64 0]) :: st) (.cons rfl (Le.refl _) (.cons rfl (Le.refl _) (.cons rfl (Le.refl _) (.cons rfl (Le.refl _) .nil)))) ?_ ?_
 ·refine AC_seq (AC_region ?_)
  refine fl 2 ?_
  refine ld 0 ?_
  refine p_ (S_eql rfl (.tmp rfl) (AEv.const _)) ?_
  refine mv rfl rfl rfl rfl ?_
  refine g_ (fun _ => S_loadN (m := 24) 1 rfl (.tmp rfl) rfl (by kernel_rfl) (by first | exact Nat.le_of_ble_eq_true rfl | (simp; omega) | simp)) ?_
  refine g_ (fun _ => S_pcall rfl (AEvs.cons (y := msgAV (msgP s 0).1) (AEv.cd (.tmp rfl)) AEvs.nil) (ref09_Check_ok (msgP s 0).1 (short_P (by (try simp only [gd, decide_eq_true_eq] at *); assumption)))) ?_
  refine g_ (fun _ => S_not rfl (AEv.cd (.tmp rfl))) ?_
  refine an ?_
  refine AL_nil ?_
  refine AC_cond (.tmp rfl) (fun hb55 => ?_) (fun hb55 => ?_)
  ·try simp only [zA,zO,zN,zM,zP,zQ,zD,zF,gd] at hb55
   have hx : ofMC s = 4 := by rw [ofMP_four hb55.1, if_neg (by rw [hb55.2]; simp)]
   refine AC_region ?_
   refine fl 2 ?_
   refine s_ (S_store 0 rfl (.tmp rfl) (AEv.const _) rfl (by first | exact Nat.le_of_ble_eq_true rfl | simp) rfl (by kernel_rfl)) ?_
   rintro _ _ ⟨rfl, rfl⟩
   refine AL_nil ?_
   exact ⟨(), trivial, by rw [hx]; exact (Sub.l (List.Sublist.refl _)), .nil, (.cons rfl (Le.refl _) (.cons rfl (Le.refl _) (.cons rfl (Le.refl _) (.cons rfl (Le.refl _) .nil))))⟩
  try simp only [zA,zO,zN,zM,zP,zQ,zD,zF,gd] at hb55
  have hx : ofMC s = (endR (msgP s 0).2.1 (msgP s 0).2.2) := by
   by_cases hz : (endR (msgP s 0).2.1 (msgP s 0).2.2) = 0
   ·rw [ofMP_four hz, if_pos (hb55.resolve_left fun h => h hz), hz]
   ·exact ofMP_end hz
  refine AC_skip ?_
  exact ⟨(), trivial, by rw [hx]; exact (Sub.l (List.Sublist.refl _)), .nil, (.cons rfl (Le.refl _) (.cons rfl (Le.refl _) (.cons rfl (Le.refl _) (.cons rfl (Le.refl _) .nil))))⟩
 rintro _ _
 try dsimp only
 simp only [List.cons_append, List.nil_append]
 refine AC_seq ?_
 refine AC_seq (AC_region ?_)
 refine fl 2 ?_
 refine ld 0 ?_
 refine p_ (S_neq rfl (.tmp rfl) (AEv.const _)) ?_
 refine AL_nil ?_
 refine AC_cond (.tmp rfl) (fun hb56 => ?_) (fun hb56 => ?_)
 ·try simp only [zA,zO,zN,zM,zP,zQ,zD,zF,gd] at hb56
  have hy := ofM_bad (s := s) (by simpa using hb56)
  refine AC_seq ?_
  refine AC_plan (σ := [(0, 0), (1, 0), (2, 0), (3, 1), (4, 0)]) (by kernel_rfl) [_] (by kernel_rfl) (fun r hr => List.mem_append_left _ hr) ?_
  refine AG.f rfl rfl (fun st' hst => Q_p rfl (S_build (t := 38) (pl := [(0, 1), (1, 1), (2, 7), (9, 15)]) (zs := [.int .i64 0, .int .i64 0, .int .i64 0, .int .i64 0, .int .i64 0, .int .u64 0, .string ⟨#[]⟩, .slice none 0 0, .slice none 0 0, .int .i64 0, .int .u64 0, .int .i64 0, .int .u64 0, .string ⟨#[]⟩, .slice none 0 0, .slice none 0 0, .slice none 0 0, .int .i64 0, .int .i64 0, .int .i64 0, .int .i64 0, .slice none 0 0, .int .i64 0, .int .i64 0]) rfl AEvs.nil (by kernel_rfl) rfl)) ?_
  refine AG.f rfl rfl (fun st' hst => Q_p rfl (S_field 2 rfl (.tmp rfl) (by kernel_rfl))) ?_
  refine AG.f rfl rfl (fun st' hst => Q_p rfl (S_loadM rfl (.tmp rfl) (hst _ (List.mem_of_getElem? (i := 0) rfl)) rfl (by kernel_rfl))) ?_
  refine AG.s rfl rfl rfl (S_storeW 2 rfl (.tmp rfl) (.tmp rfl) rfl rfl rfl (by kernel_rfl)) ?_ ?_
  ·rintro _ _ ⟨rfl, rfl⟩ r hr; rw [List.mem_singleton.1 hr]; exact List.mem_cons_self
  rintro _ _ ⟨rfl, rfl⟩
  refine AG.f rfl rfl (fun st' hst => Q_p rfl (S_assign rfl (.tmp rfl))) ?_
  refine AG.nil ?_
  refine AC_ret ?_
  refine ret_outs st rfl (by decide) (OutsR.row 2 rfl rfl (by kernel_rfl) (OutsR.tmp rfl OutsR.nil)) (Sub.l (List.Sublist.cons _ (List.Sublist.cons _ (List.Sublist.cons _ (List.Sublist.refl _))))) (Conv.le (Sub.l (List.Sublist.cons _ (List.Sublist.cons _ (List.Sublist.cons _ (List.Sublist.refl _))))) (Les.tup (.cons (Les.agg (.cons (Le.refl _) (.cons (Le.refl _) (.cons (Le.refl _) (.cons (Le.refl _) (.cons (Le.refl _) (.cons (Le.refl _) (.cons (Le.refl _) (.cons (Le.nils) (.cons (Le.nils) (.cons (Le.refl _) (.cons (Le.refl _) (.cons (Le.refl _) (.cons (Le.refl _) (.cons (Le.refl _) (.cons (Le.nils) (.cons (Le.nils) (.cons (Le.nils) (.cons (Le.refl _) (.cons (Le.refl _) (.cons (Le.refl _) (.cons (Le.refl _) (.cons (Le.nils) (.cons (Le.refl _) (.cons (Le.refl _) .nil))))))))))))))))))))))))) (.cons (Le.refl _) .nil)))) ⟨by rw [hy] <;> rfl, rfl⟩ (.inl rfl)
 try simp only [zA,zO,zN,zM,zP,zQ,zD,zF,gd] at hb56
 have hz : ofMC s = 0 := by simpa using hb56
 have hy := ofMP_good hz
 refine AC_skip ?_
 refine AC_seq (AC_region ?_)
 refine ldN 24 1 ?_
 refine stW 2 ?_
 refine ac rfl rfl rfl ?_
 refine AL_nil (AC_ret ?_)
 refine ret_outs st rfl (by decide) (OutsR.row 2 rfl rfl (by kernel_rfl) (OutsR.tmp rfl OutsR.nil)) (Sub.l (List.Sublist.cons _ (List.Sublist.cons _ (List.Sublist.cons _ (List.Sublist.refl _))))) (Conv.refl (Sub.l (List.Sublist.cons _ (List.Sublist.cons _ (List.Sublist.cons _ (List.Sublist.refl _))))) _) ⟨by rw [hy, hz] <;> rfl, rfl⟩ (.inl rfl)
theorem law_TellReads (s : List UInt8) : GCalls Tryz.prog tabs 4 [.S s] (.bool true) := by
 intro st hG
 refine co 32 Tryz.func4 ?_
 refine AC_seq (AC_region ?_)
 refine ac rfl rfl rfl ?_
 refine AL_nil ?_
 refine AC_seq ?_
 refine AC_seq (AC_region ?_)
 refine mv rfl rfl rfl rfl ?_
 refine p_ (S_lenS (ts := #[]) rfl (.tmp rfl) (by kernel_rfl)) ?_
 refine p_ (S_gtr rfl (.tmp rfl) (AEv.const _)) ?_
 refine AL_nil ?_
 refine AC_cond (.tmp rfl) (fun hb1 => ?_) (fun hb1 => ?_)
 ·try simp only [zA,zO,zN,zM,zP,zQ,zD,zF,gd] at hb1
  refine AC_seq (AC_region ?_)
  refine p_ (S_gcall rfl AEvs.nil ((law09_works_ok) _ (fun p hp => by repeat (first | exact hG p hp | refine List.mem_cons_of_mem _ ?_ | refine List.mem_append_right _ ?_)))) ?_
  refine as_ rfl rfl rfl rfl ?_
  refine AL_nil (AC_ret ?_)
  refine ret_tmp st rfl rfl (Sub.l (List.Sublist.refl _)) (Conv.refl (Sub.l (List.Sublist.refl _)) _) ⟨rfl, rfl⟩ (.inl rfl)
 try simp only [zA,zO,zN,zM,zP,zQ,zD,zF,gd] at hb1
 refine AC_skip ?_
 refine AC_seq (AC_region ?_)
 refine mv rfl rfl rfl rfl ?_
 refine p_ (S_gcall rfl (AEvs.cons (.tmp rfl) AEvs.nil) ((tell_Of_ok s) _ (fun p hp => by repeat (first | exact hG p hp | refine List.mem_cons_of_mem _ ?_ | refine List.mem_append_right _ ?_)))) ?_
 refine mv rfl rfl rfl rfl ?_
 refine ex 0 ?_
 refine ex 1 ?_
 refine s_ (S_alloc [.int .i64 0, .int .i64 0, .int .i64 0, .int .i64 0, .int .i64 0, .int .u64 0, .string ⟨#[]⟩, .slice none 0 0, .slice none 0 0, .int .i64 0, .int .u64 0, .int .i64 0, .int .u64 0, .string ⟨#[]⟩, .slice none 0 0, .slice none 0 0, .slice none 0 0, .int .i64 0, .int .i64 0, .int .i64 0, .int .i64 0, .slice none 0 0, .int .i64 0, .int .i64 0] rfl (by kernel_rfl)) ?_
 rintro _ _ ⟨b3, rfl, rfl⟩
 refine stW 0 ?_
 refine as_ rfl rfl rfl rfl ?_
 refine AL_nil (AC_seq (AC_region ?_))
 refine mv rfl rfl rfl rfl ?_
 refine p_ (S_pcall rfl (AEvs.cons (.tmp rfl) AEvs.nil) (ref09_Of_ok s (by omega))) ?_
 refine mv rfl rfl rfl rfl ?_
 refine ex 0 ?_
 refine ex 1 ?_
 refine s_ (S_alloc [.int .i64 0, .int .i64 0, .int .i64 0, .int .i64 0, .int .i64 0, .int .u64 0, .string ⟨#[]⟩, .slice none 0 0, .slice none 0 0, .int .i64 0, .int .u64 0, .int .i64 0, .int .u64 0, .string ⟨#[]⟩, .slice none 0 0, .slice none 0 0, .slice none 0 0, .int .i64 0, .int .i64 0, .int .i64 0, .int .i64 0, .slice none 0 0, .int .i64 0, .int .i64 0] rfl (by kernel_rfl)) ?_
 rintro _ _ ⟨b5, rfl, rfl⟩
 refine stW 0 ?_
 refine as_ rfl rfl rfl rfl ?_
 refine AL_nil (AC_seq (AC_region ?_))
 refine ldN 24 1 ?_
 refine ldN 24 0 ?_
 refine p_ (S_pcall rfl (AEvs.cons (y := msgAV (ofM s)) (.tmp rfl) (AEvs.cons (y := msgAV (ofM s)) (.tmp rfl) AEvs.nil)) (book_SameMsg_ok (ofM s) (ofM s) (ofM_short s) (ofM_short s))) ?_
 refine mv rfl rfl rfl rfl ?_
 refine g_ (fun _ => mA) ?_
 refine g_ (fun _ => mA) ?_
 refine g_ (fun _ => S_eql rfl (AEv.cd (.tmp rfl)) (AEv.cd (.tmp rfl))) ?_
 refine an ?_
 refine mv rfl rfl rfl rfl ?_
 refine g_ (fun _ => S_gcall rfl AEvs.nil ((law09_works_ok) _ (fun p hp => by repeat (first | exact hG p hp | refine List.mem_cons_of_mem _ ?_ | refine List.mem_append_right _ ?_)))) ?_
 refine an ?_
 refine as_ rfl rfl rfl rfl ?_
 refine AL_nil (AC_ret ?_)
 refine ret_tmp st rfl rfl (Sub.l ((List.sublist_cons_self _ _).trans (List.sublist_cons_self _ _))) (Conv.refl (Sub.l ((List.sublist_cons_self _ _).trans (List.sublist_cons_self _ _))) _) ⟨congrArg AV.bool (by rw [sameM_refl]; simp), rfl⟩ (.inl rfl)
end Go.Proofs.YtemmkkmpchphkaaGreatDoor
