/- A part of the proof: what the program's functions answer.
Conditions: none beyond each theorem's own. -/
import Derived.Test.YtemmkkmpchphkaaGreatDoorW2
set_option linter.unusedVariables false
set_option linter.unusedSimpArgs false
set_option maxRecDepth 100000
namespace Go.Proofs.YtemmkkmpchphkaaGreatDoor
open Go.AL Go.NumSpec
theorem slices_EqualI_ok (l m : List (Int)) (hl : l.length ≤ 1000000) (hm : m.length ≤ 1000000) : PCalls Tryz.prog 176 [.sl (intsV l), .sl (intsV m)] (.bool (sameL (fun a b => decide (a = b)) l m)) := by
 intro st
 refine co 26 Tryz.func176 ?_
 refine AC_seq (AC_region ?_)
 refine ac rfl rfl rfl ?_
 refine AL_nil ?_
 refine AC_seq ?_
 refine AC_seq (AC_region ?_)
 refine mv rfl rfl rfl rfl ?_
 refine p_ (by first | exact S_lenM (e := 3) rfl (.tmp rfl) (by kernel_rfl) | exact S_len (e := 3) rfl (.tmp rfl) (by kernel_rfl)) ?_
 refine mv rfl rfl rfl rfl ?_
 refine p_ (by first | exact S_lenM (e := 3) rfl (.tmp rfl) (by kernel_rfl) | exact S_len (e := 3) rfl (.tmp rfl) (by kernel_rfl)) ?_
 refine p_ (S_neq rfl (.tmp rfl) (.tmp rfl)) ?_
 refine AL_nil ?_
 refine AC_cond (.tmp rfl) (fun hb1 => ?_) (fun hb1 => ?_)
 ·try simp only [zA,zO,zN,zM,zP,zQ,zD,zF,gd] at hb1
  have hbad : sameL (fun a b => decide (a = b)) l m = false := sameL_len (by omega)
  refine AC_seq (AC_region ?_)
  refine ac rfl rfl rfl ?_
  refine AL_nil (AC_ret ?_)
  refine ret_tmp st rfl rfl (Sub.l (List.Sublist.refl _)) (Conv.refl (Sub.l (List.Sublist.refl _)) _) ⟨by rw [hbad], rfl⟩ (.inl rfl)
 try simp only [zA,zO,zN,zM,zP,zQ,zD,zF,gd] at hb1
 have hlen : l.length = m.length := by omega
 refine AC_skip ?_
 refine AC_seq ?_
 refine AC_seq (AC_region ?_)
 refine mv rfl rfl rfl rfl ?_
 refine p_ (by first | exact S_lenM (e := 3) rfl (.tmp rfl) (by kernel_rfl) | exact S_len (e := 3) rfl (.tmp rfl) (by kernel_rfl)) ?_
 refine p_ (S_move rfl (AEv.const _)) ?_
 refine AL_nil ?_
 refine AC_block ?_
 refine AC_loopK (G := Nat) [(0, _), (1, _), (12, _)] (fun i => i ≤ l.length ∧ ∀ j (h1 : j < l.length) (h2 : j < m.length), j < i → (fun a b => decide (a = b)) (l[j]'h1) (m[j]'h2) = true) (fun g => [(13, .int .i64 (g : Int))]) (fun g => st) (fun g => l.length - g) (0) (⟨Nat.zero_le _, fun j _ _ h => absurd h (Nat.not_lt_zero _)⟩) (Sub.l (List.Sublist.refl _)) (.cons rfl (Le.refl _) (.cons rfl (Le.refl _) (.cons rfl (Le.refl _) .nil))) (.cons rfl (by first | exact Le.refl _ | exact Le.nils | exact Le.row _ _ _ _ | exact Le.of_eq (by first | rfl | (simp; done) | (push_cast; rfl) | (simp; omega))) .nil) ?_
 rintro i ⟨hi, hall⟩
 try dsimp only
 simp only [List.cons_append, List.nil_append]
 refine AC_seq (AC_region ?_)
 refine p_ (S_lss rfl (.tmp rfl) (.tmp rfl)) ?_
 refine AL_nil ?_
 refine AC_seq ?_
 refine AC_cond (.tmp rfl) (fun hb2 => ?_) (fun hb2 => ?_)
 ·try simp only [zA,zO,zN,zM,zP,zQ,zD,zF,gd] at hb2
  have hil : i < l.length := by omega
  refine AC_skip ?_
  refine AC_seq ?_
  refine AC_block ?_
  refine AC_seq (AC_region ?_)
  refine mv rfl rfl rfl rfl ?_
  refine as_ rfl rfl rfl rfl ?_
  refine AL_nil ?_
  refine AC_seq ?_
  refine AC_draw (by kernel_rfl) (by kernel_rfl) (.cons rfl (Q_p rfl (S_move rfl (.tmp rfl))) <|
    .cons rfl (Q_p rfl (S_move rfl (.tmp rfl))) <|
    .cons rfl (Q_p rfl (S_elemN (e := 3) 1 rfl (.tmp rfl) (.tmp rfl) (by kernel_rfl) (by kernel_rfl) (by omega) (fun _ => rfl))) <|
    .cons rfl (Q_p rfl (S_loadP rfl (.tmp rfl) rfl (by kernel_rfl))) <|
    .cons rfl (Q_p rfl (S_move rfl (.tmp rfl))) <|
    .cons rfl (Q_p rfl (S_move rfl (.tmp rfl))) <|
    .cons rfl (Q_p rfl (S_elemN (e := 3) 1 rfl (.tmp rfl) (.tmp rfl) (by kernel_rfl) (by kernel_rfl) (by omega) (fun _ => rfl))) <|
    .cons rfl (Q_p rfl (S_loadP rfl (.tmp rfl) rfl (by kernel_rfl))) <|
    .cons rfl (Q_p rfl (S_neq rfl (.tmp rfl) (.tmp rfl))) <|
    .nil) ?_
  refine AC_cond (.tmp rfl) (fun hb3 => ?_) (fun hb3 => ?_)
  ·try simp only [zA,zO,zN,zM,zP,zQ,zD,zF,gd] at hb3
   have hbad : sameL (fun a b => decide (a = b)) l m = false := sameL_bad hil (by omega) (by simpa using hb3)
   refine AC_seq (AC_region ?_)
   refine ac rfl rfl rfl ?_
   refine AL_nil (AC_ret ?_)
   refine ret_tmp st rfl rfl (Sub.l (List.Sublist.refl _)) (Conv.refl (Sub.l (List.Sublist.refl _)) _) ⟨by rw [hbad], rfl⟩ (.inl rfl)
  try simp only [zA,zO,zN,zM,zP,zQ,zD,zF,gd] at hb3
  have hne : (fun a b => decide (a = b)) (l[i]'hil) (m[i]'(by omega)) = true := by simpa using hb3
  refine AC_skip ?_
  refine AC_region ?_
  refine p_ (S_addI rfl (.tmp rfl) (AEv.const _) (by omega) (by omega)) ?_
  refine mv rfl rfl rfl rfl ?_
  refine AL_nil ?_
  refine ⟨i + 1, ⟨by omega, fun j h1 h2 h => ?_⟩, by omega, Sub.l (List.Sublist.refl _), (.cons rfl (by first | exact Le.refl _ | exact Le.nils | exact Le.row _ _ _ _ | exact Le.of_eq (by first | rfl | (simp; done) | (push_cast; rfl) | (simp; omega))) .nil), (.cons rfl (Le.refl _) (.cons rfl (Le.refl _) (.cons rfl (Le.refl _) .nil)))⟩
  rcases Nat.lt_or_ge j i with h' | h'
  ·exact hall j h1 h2 h'
  ·have : j = i := by omega
   subst this
   exact hne
 try simp only [zA,zO,zN,zM,zP,zQ,zD,zF,gd] at hb2
 have hgood : sameL (fun a b => decide (a = b)) l m = true := sameL_all hlen fun j h1 h2 => hall j h1 h2 (by omega)
 refine AC_exit ?_
 refine AC_seq (AC_region ?_)
 refine ac rfl rfl rfl ?_
 refine AL_nil (AC_ret ?_)
 refine ret_tmp st rfl rfl (Sub.l (List.Sublist.refl _)) (Conv.refl (Sub.l (List.Sublist.refl _)) _) ⟨by rw [hgood], rfl⟩ (.inl rfl)
theorem slices_EqualL_ok (l m : List (Lab)) (hl : l.length ≤ 1000000) (hm : m.length ≤ 1000000) : PCalls Tryz.prog 126 [.sl (labsV l), .sl (labsV m)] (.bool (sameL (fun a b => decide (a = b)) l m)) := by
 intro st
 refine co 26 Tryz.func126 ?_
 refine AC_seq (AC_region ?_)
 refine ac rfl rfl rfl ?_
 refine AL_nil ?_
 refine AC_seq ?_
 refine AC_seq (AC_region ?_)
 refine mv rfl rfl rfl rfl ?_
 refine p_ (by first | exact S_lenM (e := 140) rfl (.tmp rfl) (by kernel_rfl) | exact S_len (e := 140) rfl (.tmp rfl) (by kernel_rfl)) ?_
 refine mv rfl rfl rfl rfl ?_
 refine p_ (by first | exact S_lenM (e := 140) rfl (.tmp rfl) (by kernel_rfl) | exact S_len (e := 140) rfl (.tmp rfl) (by kernel_rfl)) ?_
 refine p_ (S_neq rfl (.tmp rfl) (.tmp rfl)) ?_
 refine AL_nil ?_
 refine AC_cond (.tmp rfl) (fun hb1 => ?_) (fun hb1 => ?_)
 ·try simp only [zA,zO,zN,zM,zP,zQ,zD,zF,gd] at hb1
  have hbad : sameL (fun a b => decide (a = b)) l m = false := sameL_len (by omega)
  refine AC_seq (AC_region ?_)
  refine ac rfl rfl rfl ?_
  refine AL_nil (AC_ret ?_)
  refine ret_tmp st rfl rfl (Sub.l (List.Sublist.refl _)) (Conv.refl (Sub.l (List.Sublist.refl _)) _) ⟨by rw [hbad], rfl⟩ (.inl rfl)
 try simp only [zA,zO,zN,zM,zP,zQ,zD,zF,gd] at hb1
 have hlen : l.length = m.length := by omega
 refine AC_skip ?_
 refine AC_seq ?_
 refine AC_seq (AC_region ?_)
 refine mv rfl rfl rfl rfl ?_
 refine p_ (by first | exact S_lenM (e := 140) rfl (.tmp rfl) (by kernel_rfl) | exact S_len (e := 140) rfl (.tmp rfl) (by kernel_rfl)) ?_
 refine p_ (S_move rfl (AEv.const _)) ?_
 refine AL_nil ?_
 refine AC_block ?_
 refine AC_loopK (G := Nat) [(0, _), (1, _), (12, _)] (fun i => i ≤ l.length ∧ ∀ j (h1 : j < l.length) (h2 : j < m.length), j < i → (fun a b => decide (a = b)) (l[j]'h1) (m[j]'h2) = true) (fun g => [(13, .int .i64 (g : Int))]) (fun g => st) (fun g => l.length - g) (0) (⟨Nat.zero_le _, fun j _ _ h => absurd h (Nat.not_lt_zero _)⟩) (Sub.l (List.Sublist.refl _)) (.cons rfl (Le.refl _) (.cons rfl (Le.refl _) (.cons rfl (Le.refl _) .nil))) (.cons rfl (by first | exact Le.refl _ | exact Le.nils | exact Le.row _ _ _ _ | exact Le.of_eq (by first | rfl | (simp; done) | (push_cast; rfl) | (simp; omega))) .nil) ?_
 rintro i ⟨hi, hall⟩
 try dsimp only
 simp only [List.cons_append, List.nil_append]
 refine AC_seq (AC_region ?_)
 refine p_ (S_lss rfl (.tmp rfl) (.tmp rfl)) ?_
 refine AL_nil ?_
 refine AC_seq ?_
 refine AC_cond (.tmp rfl) (fun hb2 => ?_) (fun hb2 => ?_)
 ·try simp only [zA,zO,zN,zM,zP,zQ,zD,zF,gd] at hb2
  have hil : i < l.length := by omega
  refine AC_skip ?_
  refine AC_seq ?_
  refine AC_block ?_
  refine AC_seq (AC_region ?_)
  refine mv rfl rfl rfl rfl ?_
  refine as_ rfl rfl rfl rfl ?_
  refine AL_nil ?_
  refine AC_seq ?_
  refine AC_draw (by kernel_rfl) (by kernel_rfl) (.cons rfl (Q_p rfl (S_move rfl (.tmp rfl))) <|
    .cons rfl (Q_p rfl (S_move rfl (.tmp rfl))) <|
    .cons rfl (Q_p rfl (S_elemN (e := 140) 2 rfl (.tmp rfl) (.tmp rfl) (by kernel_rfl) (by kernel_rfl) (by omega) (fun _ => rfl))) <|
    .cons rfl (Q_p rfl (S_loadPN (m := 2) rfl (.tmp rfl) (by kernel_rfl) (by first | exact Nat.le_of_ble_eq_true rfl | (simp; omega) | simp))) <|
    .cons rfl (Q_p rfl (S_move rfl (.tmp rfl))) <|
    .cons rfl (Q_p rfl (S_move rfl (.tmp rfl))) <|
    .cons rfl (Q_p rfl (S_elemN (e := 140) 2 rfl (.tmp rfl) (.tmp rfl) (by kernel_rfl) (by kernel_rfl) (by omega) (fun _ => rfl))) <|
    .cons rfl (Q_p rfl (S_loadPN (m := 2) rfl (.tmp rfl) (by kernel_rfl) (by first | exact Nat.le_of_ble_eq_true rfl | (simp; omega) | simp))) <|
    .cons rfl (Q_p rfl ((S_neqAgg rfl (.tmp rfl) (.tmp rfl) (by kernel_rfl) (EqAV.struct Tryz.underlying140 (by kernel_rfl) (EqFs.flat (by kernel_rfl) (by kernel_rfl) rfl rfl (EqAV.S (by kernel_rfl)) (EqFs.flat (by kernel_rfl) (by kernel_rfl) rfl rfl (EqAV.S (by kernel_rfl)) EqFs.nil)))).ofV (V' := .bool (!decide ((l[i]'hil) = (m[i]'(by omega))))) (congrArg AV.bool (congrArg Bool.not lab_eqB)))) <|
    .nil) ?_
  refine AC_cond (.tmp rfl) (fun hb3 => ?_) (fun hb3 => ?_)
  ·try simp only [zA,zO,zN,zM,zP,zQ,zD,zF,gd] at hb3
   have hbad : sameL (fun a b => decide (a = b)) l m = false := sameL_bad hil (by omega) (by simpa using hb3)
   refine AC_seq (AC_region ?_)
   refine ac rfl rfl rfl ?_
   refine AL_nil (AC_ret ?_)
   refine ret_tmp st rfl rfl (Sub.l (List.Sublist.refl _)) (Conv.refl (Sub.l (List.Sublist.refl _)) _) ⟨by rw [hbad], rfl⟩ (.inl rfl)
  try simp only [zA,zO,zN,zM,zP,zQ,zD,zF,gd] at hb3
  have hne : (fun a b => decide (a = b)) (l[i]'hil) (m[i]'(by omega)) = true := by simpa using hb3
  refine AC_skip ?_
  refine AC_region ?_
  refine p_ (S_addI rfl (.tmp rfl) (AEv.const _) (by omega) (by omega)) ?_
  refine mv rfl rfl rfl rfl ?_
  refine AL_nil ?_
  refine ⟨i + 1, ⟨by omega, fun j h1 h2 h => ?_⟩, by omega, Sub.l (List.Sublist.refl _), (.cons rfl (by first | exact Le.refl _ | exact Le.nils | exact Le.row _ _ _ _ | exact Le.of_eq (by first | rfl | (simp; done) | (push_cast; rfl) | (simp; omega))) .nil), (.cons rfl (Le.refl _) (.cons rfl (Le.refl _) (.cons rfl (Le.refl _) .nil)))⟩
  rcases Nat.lt_or_ge j i with h' | h'
  ·exact hall j h1 h2 h'
  ·have : j = i := by omega
   subst this
   exact hne
 try simp only [zA,zO,zN,zM,zP,zQ,zD,zF,gd] at hb2
 have hgood : sameL (fun a b => decide (a = b)) l m = true := sameL_all hlen fun j h1 h2 => hall j h1 h2 (by omega)
 refine AC_exit ?_
 refine AC_seq (AC_region ?_)
 refine ac rfl rfl rfl ?_
 refine AL_nil (AC_ret ?_)
 refine ret_tmp st rfl rfl (Sub.l (List.Sublist.refl _)) (Conv.refl (Sub.l (List.Sublist.refl _)) _) ⟨by rw [hgood], rfl⟩ (.inl rfl)
theorem spec_alike_ok (a b : Ctr) (ha : a.ports.length ≤ 1000000) (hb : b.ports.length ≤ 1000000) : PCalls Tryz.prog 158 [ctrAV a, ctrAV b] (.bool (alikeC a b)) := by
 intro st
 refine co 38 Tryz.func158 ?_
 refine AC_seq (AC_region ?_)
 refine s_ (S_box rfl (.tmp rfl)) ?_
 rintro _ _ ⟨b1, rfl, rfl⟩
 refine s_ (S_box rfl (.tmp rfl)) ?_
 rintro _ _ ⟨b2, rfl, rfl⟩
 refine ac rfl rfl rfl ?_
 refine AL_nil (AC_seq (AC_region ?_))
 refine fl 0 ?_
 refine ld 1 ?_
 refine fl 0 ?_
 refine ld 0 ?_
 refine p_ (S_eqS rfl (.tmp rfl) (.tmp rfl)) ?_
 refine mv rfl rfl rfl rfl ?_
 refine g_ (fun _ => fA 2) ?_
 refine g_ (fun _ => lN 3 1) ?_
 refine g_ (fun _ => fA 2) ?_
 refine g_ (fun _ => lN 3 0) ?_
 refine g_ (fun _ => S_eqlAgg rfl (AEv.cd (.tmp rfl)) (AEv.cd (.tmp rfl)) (by kernel_rfl) (EqAV.struct Tryz.underlying74 (by kernel_rfl) (EqFs.flat (by kernel_rfl) (by kernel_rfl) rfl rfl (EqAV.int (k' := .i64) (by kernel_rfl)) (EqFs.flat (by kernel_rfl) (by kernel_rfl) rfl rfl (EqAV.int (k' := .i64) (by kernel_rfl)) (EqFs.flat (by kernel_rfl) (by kernel_rfl) rfl rfl (EqAV.int (k' := .i64) (by kernel_rfl)) EqFs.nil))))) ?_
 refine an ?_
 refine mv rfl rfl rfl rfl ?_
 refine g_ (fun _ => fA 5) ?_
 refine g_ (fun _ => lN 3 1) ?_
 refine g_ (fun _ => fA 5) ?_
 refine g_ (fun _ => lN 3 0) ?_
 refine g_ (fun _ => S_eqlAgg rfl (AEv.cd (.tmp rfl)) (AEv.cd (.tmp rfl)) (by kernel_rfl) (EqAV.struct Tryz.underlying74 (by kernel_rfl) (EqFs.flat (by kernel_rfl) (by kernel_rfl) rfl rfl (EqAV.int (k' := .i64) (by kernel_rfl)) (EqFs.flat (by kernel_rfl) (by kernel_rfl) rfl rfl (EqAV.int (k' := .i64) (by kernel_rfl)) (EqFs.flat (by kernel_rfl) (by kernel_rfl) rfl rfl (EqAV.int (k' := .i64) (by kernel_rfl)) EqFs.nil))))) ?_
 refine an ?_
 refine mv rfl rfl rfl rfl ?_
 refine g_ (fun _ => fA 8) ?_
 refine g_ (fun _ => lA 1) ?_
 refine g_ (fun _ => fA 8) ?_
 refine g_ (fun _ => lA 0) ?_
 refine g_ (fun _ => S_pcall rfl (AEvs.cons (AEv.cd (.tmp rfl)) (AEvs.cons (AEv.cd (.tmp rfl)) AEvs.nil)) (slices_EqualI_ok a.ports b.ports ha hb)) ?_
 refine an ?_
 refine mv rfl rfl rfl rfl ?_
 refine g_ (fun _ => fA 9) ?_
 refine g_ (fun _ => lN 2 1) ?_
 refine g_ (fun _ => fA 9) ?_
 refine g_ (fun _ => lN 2 0) ?_
 refine g_ (fun _ => S_eqlAgg rfl (AEv.cd (.tmp rfl)) (AEv.cd (.tmp rfl)) (by kernel_rfl) (EqAV.struct Tryz.underlying148 (by kernel_rfl) (EqFs.flat (by kernel_rfl) (by kernel_rfl) rfl rfl (EqAV.int (k' := .i64) (by kernel_rfl)) (EqFs.flat (by kernel_rfl) (by kernel_rfl) rfl rfl (EqAV.int (k' := .i64) (by kernel_rfl)) EqFs.nil)))) ?_
 refine an ?_
 refine as_ rfl rfl rfl rfl ?_
 refine AL_nil (AC_ret ?_)
 refine ret_tmp st rfl rfl (Sub.l (List.Sublist.cons _ (List.Sublist.cons _ (List.Sublist.refl _)))) (Conv.refl (Sub.l (List.Sublist.cons _ (List.Sublist.cons _ (List.Sublist.refl _)))) _) ⟨congrArg AV.bool (by rw [res_eqB, res_eqB, probe_eqB, sameL_eq]; simp only [alikeC, Bool.and_assoc]), rfl⟩ (.inl rfl)
theorem spec_exact_ok (a b : Ctr) (ha : a.ports.length ≤ 1000000) (hb : b.ports.length ≤ 1000000) : PCalls Tryz.prog 128 [ctrAV a, ctrAV b] (.bool (exactC a b)) := by
 intro st
 refine co 15 Tryz.func128 ?_
 refine AC_seq (AC_region ?_)
 refine s_ (S_box rfl (.tmp rfl)) ?_
 rintro _ _ ⟨b1, rfl, rfl⟩
 refine s_ (S_box rfl (.tmp rfl)) ?_
 rintro _ _ ⟨b2, rfl, rfl⟩
 refine ac rfl rfl rfl ?_
 refine AL_nil (AC_seq (AC_region ?_))
 refine ldN 11 1 ?_
 refine ldN 11 0 ?_
 refine p_ (S_pcall rfl (AEvs.cons (y := ctrAV a) (.tmp rfl) (AEvs.cons (y := ctrAV b) (.tmp rfl) AEvs.nil)) (spec_alike_ok a b ha hb)) ?_
 refine mv rfl rfl rfl rfl ?_
 refine g_ (fun _ => fA 1) ?_
 refine g_ (fun _ => lA 1) ?_
 refine g_ (fun _ => fA 1) ?_
 refine g_ (fun _ => lA 0) ?_
 refine g_ (fun _ => S_eqS rfl (AEv.cd (.tmp rfl)) (AEv.cd (.tmp rfl))) ?_
 refine an ?_
 refine as_ rfl rfl rfl rfl ?_
 refine AL_nil (AC_ret ?_)
 refine ret_tmp st rfl rfl (Sub.l (List.Sublist.cons _ (List.Sublist.cons _ (List.Sublist.refl _)))) (Conv.refl (Sub.l (List.Sublist.cons _ (List.Sublist.cons _ (List.Sublist.refl _)))) _) ⟨rfl, rfl⟩ (.inl rfl)
theorem slices_EqualFunc_ok (l m : List Ctr) (hl : l.length ≤ 1000000) (hm : m.length ≤ 1000000) (hlp : ∀ c ∈ l, c.ports.length ≤ 1000000) (hmp : ∀ c ∈ m, c.ports.length ≤ 1000000) : PCalls Tryz.prog 157 [.sl (ctrsV l), .sl (ctrsV m), .fn 128 []] (.bool (sameL exactC l m)) := by
 intro st
 refine co 32 Tryz.func157 ?_
 refine AC_seq (AC_region ?_)
 refine ac rfl rfl rfl ?_
 refine AL_nil ?_
 refine AC_seq ?_
 refine AC_seq (AC_region ?_)
 refine mv rfl rfl rfl rfl ?_
 refine p_ (by first | exact S_lenM (e := 150) rfl (.tmp rfl) (by kernel_rfl) | exact S_len (e := 150) rfl (.tmp rfl) (by kernel_rfl)) ?_
 refine mv rfl rfl rfl rfl ?_
 refine p_ (by first | exact S_lenM (e := 150) rfl (.tmp rfl) (by kernel_rfl) | exact S_len (e := 150) rfl (.tmp rfl) (by kernel_rfl)) ?_
 refine p_ (S_neq rfl (.tmp rfl) (.tmp rfl)) ?_
 refine AL_nil ?_
 refine AC_cond (.tmp rfl) (fun hb1 => ?_) (fun hb1 => ?_)
 ·try simp only [zA,zO,zN,zM,zP,zQ,zD,zF,gd] at hb1
  have hbad : sameL exactC l m = false := sameL_len (by omega)
  refine AC_seq (AC_region ?_)
  refine ac rfl rfl rfl ?_
  refine AL_nil (AC_ret ?_)
  refine ret_tmp st rfl rfl (Sub.l (List.Sublist.refl _)) (Conv.refl (Sub.l (List.Sublist.refl _)) _) ⟨by rw [hbad], rfl⟩ (.inl rfl)
 try simp only [zA,zO,zN,zM,zP,zQ,zD,zF,gd] at hb1
 have hlen : l.length = m.length := by omega
 refine AC_skip ?_
 refine AC_seq ?_
 refine AC_seq (AC_region ?_)
 refine mv rfl rfl rfl rfl ?_
 refine p_ (by first | exact S_lenM (e := 150) rfl (.tmp rfl) (by kernel_rfl) | exact S_len (e := 150) rfl (.tmp rfl) (by kernel_rfl)) ?_
 refine p_ (S_move rfl (AEv.const _)) ?_
 refine AL_nil ?_
 refine AC_block ?_
 refine AC_loopK (G := Nat) [(1, _), (2, _), (15, _), (16, _)] (fun i => i ≤ l.length ∧ ∀ j (h1 : j < l.length) (h2 : j < m.length), j < i → exactC (l[j]'h1) (m[j]'h2) = true) (fun g => [(17, .int .i64 (g : Int))]) (fun g => st) (fun g => l.length - g) (0) (⟨Nat.zero_le _, fun j _ _ h => absurd h (Nat.not_lt_zero _)⟩) (Sub.l (List.Sublist.refl _)) (.cons rfl (Le.refl _) (.cons rfl (Le.refl _) (.cons rfl (Le.refl _) (.cons rfl (Le.refl _) .nil)))) (.cons rfl (by first | exact Le.refl _ | exact Le.nils | exact Le.row _ _ _ _ | exact Le.of_eq (by first | rfl | (simp; done) | (push_cast; rfl) | (simp; omega))) .nil) ?_
 rintro i ⟨hi, hall⟩
 try dsimp only
 simp only [List.cons_append, List.nil_append]
 refine AC_seq (AC_region ?_)
 refine p_ (S_lss rfl (.tmp rfl) (.tmp rfl)) ?_
 refine AL_nil ?_
 refine AC_seq ?_
 refine AC_cond (.tmp rfl) (fun hb2 => ?_) (fun hb2 => ?_)
 ·try simp only [zA,zO,zN,zM,zP,zQ,zD,zF,gd] at hb2
  have hil : i < l.length := by omega
  have him : i < m.length := by omega
  refine AC_skip ?_
  refine AC_seq ?_
  refine AC_block ?_
  refine AC_seq (AC_region ?_)
  refine mv rfl rfl rfl rfl ?_
  refine p_ (S_elemN (e := 150) 11 rfl (.tmp rfl) (.tmp rfl) (by kernel_rfl) (by kernel_rfl) (by omega) (fun _ => rfl)) ?_
  refine p_ (S_loadPN (m := 11) rfl (.tmp rfl) (by kernel_rfl) (by first | exact Nat.le_of_ble_eq_true rfl | (simp; omega) | simp)) ?_
  refine s_ (S_alloc [.string ⟨#[]⟩, .string ⟨#[]⟩, .int .i64 0, .int .i64 0, .int .i64 0, .int .i64 0, .int .i64 0, .int .i64 0, .slice none 0 0, .int .i64 0, .int .i64 0] rfl (by kernel_rfl)) ?_
  rintro _ _ ⟨b8, rfl, rfl⟩
  refine as_ rfl rfl rfl rfl ?_
  refine stW 0 ?_
  refine AL_nil (AC_seq (AC_region ?_))
  refine mv rfl rfl rfl rfl ?_
  refine mv rfl rfl rfl rfl ?_
  refine p_ (S_elemN (e := 150) 11 rfl (.tmp rfl) (.tmp rfl) (by kernel_rfl) (by kernel_rfl) (by omega) (fun _ => rfl)) ?_
  refine p_ (S_loadPN (m := 11) rfl (.tmp rfl) (by kernel_rfl) (by first | exact Nat.le_of_ble_eq_true rfl | (simp; omega) | simp)) ?_
  refine s_ (S_alloc [.string ⟨#[]⟩, .string ⟨#[]⟩, .int .i64 0, .int .i64 0, .int .i64 0, .int .i64 0, .int .i64 0, .int .i64 0, .slice none 0 0, .int .i64 0, .int .i64 0] rfl (by kernel_rfl)) ?_
  rintro _ _ ⟨b9, rfl, rfl⟩
  refine stW 0 ?_
  refine AL_nil (AC_seq (AC_region ?_))
  refine mv rfl rfl rfl rfl ?_
  refine ldN 11 1 ?_
  refine ldN 11 0 ?_
  refine s_ (S_callF (caps := []) rfl (.tmp rfl) (AEvs.cons (y := ctrAV (l[i]'hil)) (.tmp rfl) (AEvs.cons (y := ctrAV (m[i]'him)) (.tmp rfl) AEvs.nil)) (spec_exact_ok (l[i]'hil) (m[i]'him) (hlp _ (List.getElem_mem _)) (hmp _ (List.getElem_mem _)) _)) ?_
  rintro _ _ ⟨rfl, rfl⟩
  refine p_ (S_not rfl (.tmp rfl)) ?_
  refine AL_nil ?_
  refine AC_cond (.tmp rfl) (fun hb5 => ?_) (fun hb5 => ?_)
  ·try simp only [zA,zO,zN,zM,zP,zQ,zD,zF,gd] at hb5
   have hbad : sameL exactC l m = false := sameL_bad hil him hb5
   refine AC_seq (AC_region ?_)
   refine ac rfl rfl rfl ?_
   refine AL_nil (AC_ret ?_)
   refine ret_tmp st rfl rfl (Sub.l (List.Sublist.cons _ (List.Sublist.cons _ (List.Sublist.refl _)))) (Conv.refl (Sub.l (List.Sublist.cons _ (List.Sublist.cons _ (List.Sublist.refl _)))) _) ⟨by rw [hbad], rfl⟩ (.inl rfl)
  try simp only [zA,zO,zN,zM,zP,zQ,zD,zF,gd] at hb5
  have hne : exactC (l[i]'hil) (m[i]'him) = true := hb5
  refine AC_skip ?_
  refine AC_region ?_
  refine p_ (S_addI rfl (.tmp rfl) (AEv.const _) (by omega) (by omega)) ?_
  refine mv rfl rfl rfl rfl ?_
  refine AL_nil ?_
  refine ⟨i + 1, ⟨by omega, fun j h1 h2 h => ?_⟩, by omega, (Sub.l (List.Sublist.cons _ (List.Sublist.cons _ (List.Sublist.refl _)))), (.cons rfl (by first | exact Le.refl _ | exact Le.nils | exact Le.row _ _ _ _ | exact Le.of_eq (by first | rfl | (simp; done) | (push_cast; rfl) | (simp; omega))) .nil), (.cons rfl (Le.refl _) (.cons rfl (Le.refl _) (.cons rfl (Le.refl _) (.cons rfl (Le.refl _) .nil))))⟩
  rcases Nat.lt_or_ge j i with h' | h'
  ·exact hall j h1 h2 h'
  ·have : j = i := by omega
   subst this
   exact hne
 try simp only [zA,zO,zN,zM,zP,zQ,zD,zF,gd] at hb2
 have hgood : sameL exactC l m = true := sameL_all hlen fun j h1 h2 => hall j h1 h2 (by omega)
 refine AC_exit ?_
 refine AC_seq (AC_region ?_)
 refine ac rfl rfl rfl ?_
 refine AL_nil (AC_ret ?_)
 refine ret_tmp st rfl rfl (Sub.l (List.Sublist.refl _)) (Conv.refl (Sub.l (List.Sublist.refl _)) _) ⟨by rw [hgood], rfl⟩ (.inl rfl)
theorem spec_each_ok (l m : List Ctr) (hl : l.length ≤ 1000000) (hm : m.length ≤ 1000000) (hlp : ∀ c ∈ l, c.ports.length ≤ 1000000) (hmp : ∀ c ∈ m, c.ports.length ≤ 1000000) : PCalls Tryz.prog 127 [.sl (ctrsV l), .sl (ctrsV m), .fn 128 []] (.bool (sameL exactC l m)) := by
 intro st
 refine co 11 Tryz.func127 ?_
 refine AC_seq (AC_region ?_)
 refine ac rfl rfl rfl ?_
 refine AL_nil (AC_seq (AC_region ?_))
 refine mv rfl rfl rfl rfl ?_
 refine mv rfl rfl rfl rfl ?_
 refine mv rfl rfl rfl rfl ?_
 refine p_ (S_pcall rfl (AEvs.cons (.tmp rfl) (AEvs.cons (.tmp rfl) (AEvs.cons (.tmp rfl) AEvs.nil))) (slices_EqualFunc_ok _ _ (by omega) (by omega) (by assumption) (by assumption))) ?_
 refine as_ rfl rfl rfl rfl ?_
 refine AL_nil (AC_ret ?_)
 refine ret_tmp st rfl rfl (Sub.l (List.Sublist.refl _)) (Conv.refl (Sub.l (List.Sublist.refl _)) _) ⟨rfl, rfl⟩ (.inl rfl)
theorem spec_Same_ok (a b : Spc) (ha : shortS a) (hb : shortS b) : PCalls Tryz.prog 99 [spcAV a, spcAV b] (.bool (sameS a b)) := by
 intro st
 refine co 52 Tryz.func99 ?_
 obtain ⟨a1, a2, a3, a4, a5⟩ := ha
 obtain ⟨b1', b2', b3', b4', b5'⟩ := hb
 refine AC_seq (AC_region ?_)
 refine s_ (S_box rfl (.tmp rfl)) ?_
 rintro _ _ ⟨b1, rfl, rfl⟩
 refine s_ (S_box rfl (.tmp rfl)) ?_
 rintro _ _ ⟨b2, rfl, rfl⟩
 refine ac rfl rfl rfl ?_
 refine AL_nil (AC_seq (AC_region ?_))
 refine fl 0 ?_
 refine ld 1 ?_
 refine fl 0 ?_
 refine ld 0 ?_
 refine p_ (S_eqS rfl (.tmp rfl) (.tmp rfl)) ?_
 refine mv rfl rfl rfl rfl ?_
 refine g_ (fun _ => fA 1) ?_
 refine g_ (fun _ => lA 1) ?_
 refine g_ (fun _ => fA 1) ?_
 refine g_ (fun _ => lA 0) ?_
 refine g_ (fun _ => S_pcall rfl (AEvs.cons (AEv.cd (.tmp rfl)) (AEvs.cons (AEv.cd (.tmp rfl)) AEvs.nil)) (slices_EqualL_ok a.labels b.labels a1 b1')) ?_
 refine an ?_
 refine mv rfl rfl rfl rfl ?_
 refine g_ (fun _ => fA 2) ?_
 refine g_ (fun _ => lA 1) ?_
 refine g_ (fun _ => fA 2) ?_
 refine g_ (fun _ => lA 0) ?_
 refine g_ (fun _ => S_pcall rfl (AEvs.cons (AEv.cd (.tmp rfl)) (AEvs.cons (AEv.cd (.tmp rfl)) (AEvs.cons (AEv.func _) AEvs.nil))) (spec_each_ok a.init b.init a2 b2' a4 b4')) ?_
 refine an ?_
 refine mv rfl rfl rfl rfl ?_
 refine g_ (fun _ => fA 3) ?_
 refine g_ (fun _ => lA 1) ?_
 refine g_ (fun _ => fA 3) ?_
 refine g_ (fun _ => lA 0) ?_
 refine g_ (fun _ => S_pcall rfl (AEvs.cons (AEv.cd (.tmp rfl)) (AEvs.cons (AEv.cd (.tmp rfl)) (AEvs.cons (AEv.func _) AEvs.nil))) (spec_each_ok a.main b.main a3 b3' a5 b5')) ?_
 refine an ?_
 refine mv rfl rfl rfl rfl ?_
 refine g_ (fun _ => fA 4) ?_
 refine g_ (fun _ => lA 1) ?_
 refine g_ (fun _ => fA 4) ?_
 refine g_ (fun _ => lA 0) ?_
 refine g_ (fun _ => S_eql rfl (AEv.cd (.tmp rfl)) (AEv.cd (.tmp rfl))) ?_
 refine an ?_
 refine mv rfl rfl rfl rfl ?_
 refine g_ (fun _ => fA 5) ?_
 refine g_ (fun _ => lA 1) ?_
 refine g_ (fun _ => fA 5) ?_
 refine g_ (fun _ => lA 0) ?_
 refine g_ (fun _ => S_eql rfl (AEv.cd (.tmp rfl)) (AEv.cd (.tmp rfl))) ?_
 refine an ?_
 refine mv rfl rfl rfl rfl ?_
 refine g_ (fun _ => fA 6) ?_
 refine g_ (fun _ => lA 1) ?_
 refine g_ (fun _ => fA 6) ?_
 refine g_ (fun _ => lA 0) ?_
 refine g_ (fun _ => S_eql rfl (AEv.cd (.tmp rfl)) (AEv.cd (.tmp rfl))) ?_
 refine an ?_
 refine as_ rfl rfl rfl rfl ?_
 refine AL_nil (AC_ret ?_)
 refine ret_tmp st rfl rfl (Sub.l (List.Sublist.cons _ (List.Sublist.cons _ (List.Sublist.refl _)))) (Conv.refl (Sub.l (List.Sublist.cons _ (List.Sublist.cons _ (List.Sublist.refl _)))) _) ⟨congrArg AV.bool (by rw [sameL_eq]; rfl), rfl⟩ (.inl rfl)
theorem tell_within_ok (n lo hi : Int) : PCalls Tryz.prog 57 [.int .i64 n, .int .i64 lo, .int .i64 hi] (.bool (decide (lo ≤ n ∧ n ≤ hi))) := by
 intro st
 refine co 15 Tryz.func57 ?_
 refine AC_seq (AC_region ?_)
 refine ac rfl rfl rfl ?_
 refine AL_nil (AC_seq (AC_region ?_))
 refine mv rfl rfl rfl rfl ?_
 refine mv rfl rfl rfl rfl ?_
 refine p_ (S_geq rfl (.tmp rfl) (.tmp rfl)) ?_
 refine mv rfl rfl rfl rfl ?_
 refine g_ (fun _ => mA) ?_
 refine g_ (fun _ => mA) ?_
 refine g_ (fun _ => S_leq rfl (AEv.cd (.tmp rfl)) (AEv.cd (.tmp rfl))) ?_
 refine an ?_
 refine as_ rfl rfl rfl rfl ?_
 refine AL_nil (AC_ret ?_)
 refine ret_tmp st rfl rfl (Sub.l (List.Sublist.refl _)) (Conv.refl (Sub.l (List.Sublist.refl _)) _) ⟨congrArg AV.bool (by by_cases h1 : lo ≤ n <;> by_cases h2 : n ≤ hi <;> simp [h1, h2]), rfl⟩ (.inl rfl)
theorem tell_says_ok (b : Bool) : PCalls Tryz.prog 62 [.bool b] (.int .i64 (if b = true then 0 else 4)) := by
 intro st
 refine co 4 Tryz.func62 ?_
 refine AC_seq (AC_region ?_)
 refine ac rfl rfl rfl ?_
 refine AL_nil ?_
 refine AC_seq ?_
 refine AC_seq (AC_region ?_)
 refine mv rfl rfl rfl rfl ?_
 refine AL_nil ?_
 refine AC_cond (.tmp rfl) (fun hb1 => ?_) (fun hb1 => ?_)
 ·try simp only [zA,zO,zN,zM,zP,zQ,zD,zF,gd] at hb1
  have hx : b = true := hb1
  refine AC_seq (AC_region ?_)
  refine ac rfl rfl rfl ?_
  refine AL_nil (AC_ret ?_)
  refine ret_tmp st rfl rfl (Sub.l (List.Sublist.refl _)) (Conv.refl (Sub.l (List.Sublist.refl _)) _) ⟨by rw [hx] <;> rfl, rfl⟩ (.inl rfl)
 try simp only [zA,zO,zN,zM,zP,zQ,zD,zF,gd] at hb1
 have hx : b = false := by simpa using hb1
 refine AC_skip ?_
 refine AC_seq (AC_region ?_)
 refine ac rfl rfl rfl ?_
 refine AL_nil (AC_ret ?_)
 refine ret_tmp st rfl rfl (Sub.l (List.Sublist.refl _)) (Conv.refl (Sub.l (List.Sublist.refl _)) _) ⟨by rw [hx] <;> rfl, rfl⟩ (.inl rfl)
theorem tell_whole_ok (k : Int) : PCalls Tryz.prog 30 [.int .i64 k] (.bool (wholeB k)) := by
 intro st
 refine co 5 Tryz.func30 ?_
 refine AC_seq (AC_region ?_)
 refine ac rfl rfl rfl ?_
 refine AL_nil (AC_seq (AC_region ?_))
 refine mv rfl rfl rfl rfl ?_
 refine p_ (S_pcall rfl (AEvs.cons (.tmp rfl) (AEvs.cons (AEv.const _) (AEvs.cons (AEv.const _) AEvs.nil))) (tell_within_ok k 1 3)) ?_
 refine as_ rfl rfl rfl rfl ?_
 refine AL_nil (AC_ret ?_)
 refine ret_tmp st rfl rfl (Sub.l (List.Sublist.refl _)) (Conv.refl (Sub.l (List.Sublist.refl _)) _) ⟨rfl, rfl⟩ (.inl rfl)
theorem tell_res_ok (r : Tri) : PCalls Tryz.prog 98 [resAV r] (.bool (resMay r)) := by
 intro st
 refine co 16 Tryz.func98 ?_
 refine AC_seq (AC_region ?_)
 refine s_ (S_box rfl (.tmp rfl)) ?_
 rintro _ _ ⟨b1, rfl, rfl⟩
 refine ac rfl rfl rfl ?_
 refine AL_nil (AC_seq (AC_region ?_))
 refine fl 0 ?_
 refine ld 0 ?_
 refine p_ (S_pcall rfl (AEvs.cons (.tmp rfl) (AEvs.cons (AEv.const _) (AEvs.cons (AEv.const _) AEvs.nil))) (tell_within_ok r.1 0 1099511627776)) ?_
 refine mv rfl rfl rfl rfl ?_
 refine g_ (fun _ => fA 1) ?_
 refine g_ (fun _ => lA 0) ?_
 refine g_ (fun _ => S_pcall rfl (AEvs.cons (AEv.cd (.tmp rfl)) (AEvs.cons (AEv.const _) (AEvs.cons (AEv.const _) AEvs.nil))) (tell_within_ok r.2.1 0 1099511627776)) ?_
 refine an ?_
 refine mv rfl rfl rfl rfl ?_
 refine g_ (fun _ => fA 2) ?_
 refine g_ (fun _ => lA 0) ?_
 refine g_ (fun _ => S_pcall rfl (AEvs.cons (AEv.cd (.tmp rfl)) (AEvs.cons (AEv.const _) (AEvs.cons (AEv.const _) AEvs.nil))) (tell_within_ok r.2.2 0 1099511627776)) ?_
 refine an ?_
 refine as_ rfl rfl rfl rfl ?_
 refine AL_nil (AC_ret ?_)
 refine ret_tmp st rfl rfl (Sub.l (List.sublist_cons_self _ _)) (Conv.refl (Sub.l (List.sublist_cons_self _ _)) _) ⟨rfl, rfl⟩ (.inl rfl)
theorem tell_silent_ok (r : Rep) : PCalls Tryz.prog 60 [.agg (repL r)] (.bool (silentB r)) := by
 intro st
 refine co 38 Tryz.func60 ?_
 refine AC_seq (AC_region ?_)
 refine s_ (S_box rfl (.tmp rfl)) ?_
 rintro _ _ ⟨b1, rfl, rfl⟩
 refine ac rfl rfl rfl ?_
 refine AL_nil (AC_seq (AC_region ?_))
 refine fl 0 ?_
 refine ld 0 ?_
 refine p_ (S_eql rfl (.tmp rfl) (AEv.const _)) ?_
 refine mv rfl rfl rfl rfl ?_
 refine g_ (fun _ => fA 1) ?_
 refine g_ (fun _ => lA 0) ?_
 refine g_ (fun _ => S_eql rfl (AEv.cd (.tmp rfl)) (AEv.const _)) ?_
 refine an ?_
 refine mv rfl rfl rfl rfl ?_
 refine g_ (fun _ => fA 2) ?_
 refine g_ (fun _ => lA 0) ?_
 refine g_ (fun _ => S_eql rfl (AEv.cd (.tmp rfl)) (AEv.const _)) ?_
 refine an ?_
 refine mv rfl rfl rfl rfl ?_
 refine g_ (fun _ => fA 3) ?_
 refine g_ (fun _ => lA 0) ?_
 refine g_ (fun _ => S_eql rfl (AEv.cd (.tmp rfl)) (AEv.const _)) ?_
 refine an ?_
 refine mv rfl rfl rfl rfl ?_
 refine g_ (fun _ => fA 4) ?_
 refine g_ (fun _ => lA 0) ?_
 refine g_ (fun _ => S_eqS rfl (AEv.cd (.tmp rfl)) (AEv.S _)) ?_
 refine an ?_
 refine mv rfl rfl rfl rfl ?_
 refine g_ (fun _ => fA 5) ?_
 refine g_ (fun _ => lA 0) ?_
 refine g_ (fun _ => by first | exact S_lenM (e := 34) rfl (AEv.cd (.tmp rfl)) (by kernel_rfl) | exact S_len (e := 34) rfl (AEv.cd (.tmp rfl)) (by kernel_rfl)) ?_
 refine g_ (fun _ => S_eql rfl (AEv.cd (.tmp rfl)) (AEv.const _)) ?_
 refine an ?_
 refine mv rfl rfl rfl rfl ?_
 refine g_ (fun _ => fA 6) ?_
 refine g_ (fun _ => lA 0) ?_
 refine g_ (fun _ => by first | exact S_lenM (e := 74) rfl (AEv.cd (.tmp rfl)) (by kernel_rfl) | exact S_len (e := 74) rfl (AEv.cd (.tmp rfl)) (by kernel_rfl)) ?_
 refine g_ (fun _ => S_eql rfl (AEv.cd (.tmp rfl)) (AEv.const _)) ?_
 refine an ?_
 refine as_ rfl rfl rfl rfl ?_
 refine AL_nil (AC_ret ?_)
 refine ret_tmp st rfl rfl (Sub.l (List.sublist_cons_self _ _)) (Conv.refl (Sub.l (List.sublist_cons_self _ _)) _) ⟨congrArg AV.bool (by simp only [silentB]; congr 4; exact decide_eq_decide.2 (by omega)), rfl⟩ (.inl rfl)
theorem tell_bare_ok (p : Pod) (hp : ShortP p) : PCalls Tryz.prog 59 [podAV p] (.bool (bareP p)) := by
 intro st
 refine co 38 Tryz.func59 ?_
 refine AC_seq (AC_region ?_)
 refine s_ (S_box rfl (.tmp rfl)) ?_
 rintro _ _ ⟨b1, rfl, rfl⟩
 refine ac rfl rfl rfl ?_
 refine AL_nil (AC_seq (AC_region ?_))
 refine fl 0 ?_
 refine ld 0 ?_
 refine p_ (S_eql rfl (.tmp rfl) (AEv.const _)) ?_
 refine mv rfl rfl rfl rfl ?_
 refine g_ (fun _ => fA 1) ?_
 refine g_ (fun _ => lA 0) ?_
 refine g_ (fun _ => S_eql rfl (AEv.cd (.tmp rfl)) (AEv.const _)) ?_
 refine an ?_
 refine mv rfl rfl rfl rfl ?_
 refine g_ (fun _ => fA 2) ?_
 refine g_ (fun _ => lN 7 0) ?_
 refine g_ (fun _ => S_build (t := 31) (pl := [(0, 1), (1, 1), (2, 1), (3, 1), (4, 1), (5, 1), (6, 1)]) (zs := [.string ⟨#[]⟩, .slice none 0 0, .slice none 0 0, .slice none 0 0, .int .i64 0, .int .i64 0, .int .i64 0]) rfl AEvs.nil (by kernel_rfl) rfl) ?_
 refine g_ (fun _ => S_pcall rfl (AEvs.cons (AEv.cd (.tmp rfl)) (AEvs.cons (y := spcAV spc0) ((AEv.cd (.tmp rfl)).le (by exact (Les.agg (.cons (Le.refl _) (.cons Le.nils (.cons Le.nils (.cons Le.nils (.cons (Le.refl _) (.cons (Le.refl _) (.cons (Le.refl _) .nil)))))))))) AEvs.nil)) (spec_Same_ok p.spec spc0 (light_short hp.1) (light_short spc0_light))) ?_
 refine an ?_
 refine mv rfl rfl rfl rfl ?_
 refine g_ (fun _ => fA 9) ?_
 refine g_ (fun _ => lA 0) ?_
 refine g_ (fun _ => S_eql rfl (AEv.cd (.tmp rfl)) (AEv.const _)) ?_
 refine an ?_
 refine mv rfl rfl rfl rfl ?_
 refine g_ (fun _ => fA 10) ?_
 refine g_ (fun _ => lA 0) ?_
 refine g_ (fun _ => by first | exact S_lenM (e := 3) rfl (AEv.cd (.tmp rfl)) (by kernel_rfl) | exact S_len (e := 3) rfl (AEv.cd (.tmp rfl)) (by kernel_rfl)) ?_
 refine g_ (fun _ => S_eql rfl (AEv.cd (.tmp rfl)) (AEv.const _)) ?_
 refine an ?_
 refine mv rfl rfl rfl rfl ?_
 refine g_ (fun _ => fA 11) ?_
 refine g_ (fun _ => lA 0) ?_
 refine g_ (fun _ => S_eql rfl (AEv.cd (.tmp rfl)) (AEv.const _)) ?_
 refine an ?_
 refine mv rfl rfl rfl rfl ?_
 refine g_ (fun _ => fA 12) ?_
 refine g_ (fun _ => lA 0) ?_
 refine g_ (fun _ => S_eql rfl (AEv.cd (.tmp rfl)) (AEv.const _)) ?_
 refine an ?_
 refine as_ rfl rfl rfl rfl ?_
 refine AL_nil (AC_ret ?_)
 refine ret_tmp st rfl rfl (Sub.l (List.sublist_cons_self _ _)) (Conv.refl (Sub.l (List.sublist_cons_self _ _)) _) ⟨congrArg AV.bool (by simp only [bareP]; congr 6; exact decide_eq_decide.2 (by omega)), rfl⟩ (.inl rfl)
theorem tell_pod_ok (p : Pod) (hp : ShortP p) : GCalls Tryz.prog tabs 70 [podAV p] (.bool (podMay p)) := by
 intro st hG
 refine co 50 Tryz.func70 ?_
 have hpl := hp.2
 refine AC_seq (AC_region ?_)
 refine s_ (S_box rfl (.tmp rfl)) ?_
 rintro _ _ ⟨b1, rfl, rfl⟩
 refine ac rfl rfl rfl ?_
 refine AL_nil ?_
 refine AC_seq ?_
 refine AC_seq (AC_region ?_)
 refine fl 10 ?_
 refine ld 0 ?_
 refine p_ (by first | exact S_lenM (e := 3) rfl (.tmp rfl) (by kernel_rfl) | exact S_len (e := 3) rfl (.tmp rfl) (by kernel_rfl)) ?_
 refine p_ (S_move rfl (AEv.const _)) ?_
 refine AL_nil ?_
 refine AC_block ?_
 refine AC_loopK (G := Nat) [(1, _), (6, _), (7, _)] (fun g => g ≤ p.ports.length ∧ ∀ j (h : j < p.ports.length), j < g → 0 ≤ p.ports[j]'h ∧ p.ports[j]'h ≤ 1073741824) (fun g => [(8, .int .i64 (g : Int))]) (fun g => (b1, .cells (podL p)) :: st) (fun g => p.ports.length - g) (0) (⟨Nat.zero_le _, fun j _ h => absurd h (Nat.not_lt_zero _)⟩) (Sub.l (List.Sublist.refl _)) (.cons rfl (Le.refl _) (.cons rfl (Le.refl _) (.cons rfl (Le.refl _) .nil))) (.cons rfl (by first | exact Le.refl _ | exact Le.nils | exact Le.row _ _ _ _ | exact Le.of_eq (by first | rfl | (simp; done) | (push_cast; rfl) | (simp; omega))) .nil) ?_
 rintro i ⟨hi, hall⟩
 try dsimp only
 simp only [List.cons_append, List.nil_append]
 refine AC_seq (AC_region ?_)
 refine p_ (S_lss rfl (.tmp rfl) (.tmp rfl)) ?_
 refine AL_nil ?_
 refine AC_seq ?_
 refine AC_cond (.tmp rfl) (fun hb2 => ?_) (fun hb2 => ?_)
 ·try simp only [zA,zO,zN,zM,zP,zQ,zD,zF,gd] at hb2
  have hil : i < p.ports.length := by omega
  refine AC_skip ?_
  refine AC_seq ?_
  refine AC_block ?_
  refine AC_seq (AC_region ?_)
  refine p_ (S_elemN (e := 3) 1 rfl (.tmp rfl) (.tmp rfl) (by kernel_rfl) (by kernel_rfl) (by omega) (fun _ => rfl)) ?_
  refine p_ (S_loadP rfl (.tmp rfl) rfl (by kernel_rfl)) ?_
  refine as_ rfl rfl rfl rfl ?_
  refine AL_nil (AC_seq (AC_region ?_))
  refine mv rfl rfl rfl rfl ?_
  refine p_ (S_pcall rfl (AEvs.cons (.tmp rfl) (AEvs.cons (AEv.const _) (AEvs.cons (AEv.const _) AEvs.nil))) (tell_within_ok (p.ports[i]'hil) 0 1073741824)) ?_
  refine p_ (S_not rfl (.tmp rfl)) ?_
  refine AL_nil ?_
  refine AC_cond (.tmp rfl) (fun hb3 => ?_) (fun hb3 => ?_)
  ·try simp only [zA,zO,zN,zM,zP,zQ,zD,zF,gd] at hb3
   have hx : podMay p = false := by
    have h9 : p.ports.all (fun n => decide (0 ≤ n ∧ n ≤ 1073741824)) = false := List.all_eq_false.2 ⟨_, List.getElem_mem hil, by simpa using hb3⟩
    unfold podMay; rw [h9]; rfl
   refine AC_seq (AC_region ?_)
   refine ac rfl rfl rfl ?_
   refine AL_nil (AC_ret ?_)
   refine ret_tmp st rfl rfl (Sub.l (List.sublist_cons_self _ _)) (Conv.refl (Sub.l (List.sublist_cons_self _ _)) _) ⟨by rw [hx], rfl⟩ (.inl rfl)
  try simp only [zA,zO,zN,zM,zP,zQ,zD,zF,gd] at hb3
  have hne : 0 ≤ (p.ports[i]'hil) ∧ (p.ports[i]'hil) ≤ 1073741824 := by simpa using hb3
  refine AC_skip ?_
  refine AC_region ?_
  refine p_ (S_addI rfl (.tmp rfl) (AEv.const _) (by omega) (by omega)) ?_
  refine mv rfl rfl rfl rfl ?_
  refine AL_nil ?_
  refine ⟨i + 1, ⟨by omega, fun j h1 h => ?_⟩, by omega, (Sub.l (List.Sublist.refl _)), (.cons rfl (by first | exact Le.refl _ | exact Le.nils | exact Le.row _ _ _ _ | exact Le.of_eq (by first | rfl | (simp; done) | (push_cast; rfl) | (simp; omega))) .nil), (.cons rfl (Le.refl _) (.cons rfl (Le.refl _) (.cons rfl (Le.refl _) .nil)))⟩
  rcases Nat.lt_or_ge j i with h' | h'
  ·exact hall j h1 h'
  ·have : j = i := by omega
   subst this
   exact hne
 try simp only [zA,zO,zN,zM,zP,zQ,zD,zF,gd] at hb2
 have hx : p.ports.all (fun n => decide (0 ≤ n ∧ n ≤ 1073741824)) = true := List.all_eq_true.2 fun n hn => by
  obtain ⟨j, hj, rfl⟩ := List.getElem_of_mem hn
  exact decide_eq_true (hall j hj (by omega))
 refine AC_exit ?_
 refine AC_seq (AC_region ?_)
 refine fl 0 ?_
 refine ld 0 ?_
 refine p_ (S_pcall rfl (AEvs.cons (.tmp rfl) (AEvs.cons (AEv.const _) (AEvs.cons (AEv.const _) AEvs.nil))) (tell_within_ok p.id 1 1073741824)) ?_
 refine mv rfl rfl rfl rfl ?_
 refine g_ (fun _ => fA 2) ?_
 refine g_ (fun _ => lN 7 0) ?_
 refine g_ (fun _ => S_gcall rfl (AEvs.cons (AEv.cd (.tmp rfl)) AEvs.nil) ((spec_Check_ok p.spec hp.1) _ (fun p hp => by repeat (first | exact hG p hp | refine List.mem_cons_of_mem _ ?_ | refine List.mem_append_right _ ?_)))) ?_
 refine g_ (fun _ => S_eqlE (er_is 22 231 (checkE p.spec)) rfl (AEv.cd (.tmp rfl)) (by kernel_rfl)) ?_
 refine an ?_
 refine mv rfl rfl rfl rfl ?_
 refine g_ (fun _ => fA 9) ?_
 refine g_ (fun _ => lA 0) ?_
 refine g_ (fun _ => S_pcall rfl (AEvs.cons (AEv.cd (.tmp rfl)) (AEvs.cons (AEv.const _) (AEvs.cons (AEv.const _) AEvs.nil))) (tell_within_ok p.node 1 4)) ?_
 refine an ?_
 refine mv rfl rfl rfl rfl ?_
 refine g_ (fun _ => fA 10) ?_
 refine g_ (fun _ => lA 0) ?_
 refine g_ (fun _ => by first | exact S_lenM (e := 3) rfl (AEv.cd (.tmp rfl)) (by kernel_rfl) | exact S_len (e := 3) rfl (AEv.cd (.tmp rfl)) (by kernel_rfl)) ?_
 refine g_ (fun _ => fA 2) ?_
 refine g_ (fun _ => S_field 3 rfl (AEv.cd (.tmp rfl)) (by kernel_rfl)) ?_
 refine g_ (fun _ => lA 0) ?_
 refine g_ (fun _ => by first | exact S_lenM (e := 150) rfl (AEv.cd (.tmp rfl)) (by kernel_rfl) | exact S_len (e := 150) rfl (AEv.cd (.tmp rfl)) (by kernel_rfl)) ?_
 refine g_ (fun _ => S_eql rfl (AEv.cd (.tmp rfl)) (AEv.cd (.tmp rfl))) ?_
 refine an ?_
 refine mv rfl rfl rfl rfl ?_
 refine g_ (fun _ => fA 11) ?_
 refine g_ (fun _ => lA 0) ?_
 refine g_ (fun _ => S_pcall rfl (AEvs.cons (AEv.cd (.tmp rfl)) (AEvs.cons (AEv.const _) (AEvs.cons (AEv.const _) AEvs.nil))) (tell_within_ok p.x 0 2)) ?_
 refine an ?_
 refine mv rfl rfl rfl rfl ?_
 refine g_ (fun _ => fA 12) ?_
 refine g_ (fun _ => lA 0) ?_
 refine g_ (fun _ => S_pcall rfl (AEvs.cons (AEv.cd (.tmp rfl)) (AEvs.cons (AEv.const _) (AEvs.cons (AEv.const _) AEvs.nil))) (tell_within_ok p.y 0 1000)) ?_
 refine an ?_
 refine as_ rfl rfl rfl rfl ?_
 refine AL_nil (AC_ret ?_)
 refine ret_tmp st rfl rfl (Sub.l (List.sublist_cons_self _ _)) (Conv.refl (Sub.l (List.sublist_cons_self _ _)) _) ⟨congrArg AV.bool (by simp only [podMay, hx, Bool.true_and]; congr 3; exact decide_eq_decide.2 (by omega)), rfl⟩ (.inl rfl)
theorem tell_event_ok (e : Evt) (hp : ShortP e.pod) : GCalls Tryz.prog tabs 61 [.agg (evtL e)] (.bool (eventMay e)) := by
 intro st hG
 refine co 22 Tryz.func61 ?_
 refine AC_seq (AC_region ?_)
 refine s_ (S_box rfl (.tmp rfl)) ?_
 rintro _ _ ⟨b1, rfl, rfl⟩
 refine ac rfl rfl rfl ?_
 refine AL_nil ?_
 refine AC_seq ?_
 refine AC_seq (AC_region ?_)
 refine fl 0 ?_
 refine ld 0 ?_
 refine p_ (S_pcall rfl (AEvs.cons (.tmp rfl) AEvs.nil) (tell_whole_ok e.kind)) ?_
 refine AL_nil ?_
 refine AC_cond (.tmp rfl) (fun hb2 => ?_) (fun hb2 => ?_)
 ·try simp only [zA,zO,zN,zM,zP,zQ,zD,zF,gd] at hb2
  have hw : wholeB e.kind = true := hb2
  refine AC_seq (AC_region ?_)
  refine fl 2 ?_
  refine ldN 13 0 ?_
  refine p_ (S_gcall rfl (AEvs.cons (.tmp rfl) AEvs.nil) ((tell_pod_ok e.pod hp) _ (fun p hp => by repeat (first | exact hG p hp | refine List.mem_cons_of_mem _ ?_ | refine List.mem_append_right _ ?_)))) ?_
  refine as_ rfl rfl rfl rfl ?_
  refine AL_nil (AC_ret ?_)
  refine ret_tmp st rfl rfl (Sub.l (List.sublist_cons_self _ _)) (Conv.refl (Sub.l (List.sublist_cons_self _ _)) _) ⟨by unfold eventMay; rw [if_pos hw], rfl⟩ (.inl rfl)
 try simp only [zA,zO,zN,zM,zP,zQ,zD,zF,gd] at hb2
 have hw : ¬ wholeB e.kind = true := by simpa using hb2
 refine AC_skip ?_
 refine AC_seq (AC_region ?_)
 refine fl 0 ?_
 refine ld 0 ?_
 refine p_ (S_eql rfl (.tmp rfl) (AEv.const _)) ?_
 refine mv rfl rfl rfl rfl ?_
 refine g_ (fun _ => fA 0) ?_
 refine g_ (fun _ => lA 0) ?_
 refine g_ (fun _ => S_eql rfl (AEv.cd (.tmp rfl)) (AEv.const _)) ?_
 refine p_ (S_or rfl (.tmp rfl) (fun hp12 => (AEv.cd (.tmp rfl)))) ?_
 refine mv rfl rfl rfl rfl ?_
 refine g_ (fun _ => fA 2) ?_
 refine g_ (fun _ => lN 13 0) ?_
 refine g_ (fun _ => S_pcall rfl (AEvs.cons (AEv.cd (.tmp rfl)) AEvs.nil) (tell_bare_ok e.pod hp)) ?_
 refine an ?_
 refine as_ rfl rfl rfl rfl ?_
 refine AL_nil (AC_ret ?_)
 refine ret_tmp st rfl rfl (Sub.l (List.sublist_cons_self _ _)) (Conv.refl (Sub.l (List.sublist_cons_self _ _)) _) ⟨by unfold eventMay; rw [if_neg hw], rfl⟩ (.inl rfl)
end Go.Proofs.YtemmkkmpchphkaaGreatDoor

set_option maxRecDepth 100000
namespace Go.Proofs.YtemmkkmpchphkaaGreatDoor
open Go.AL Go.NumSpec
theorem tell_reply1_ok (p : Pod) (hp : ShortP p) : GCalls Tryz.prog tabs 95 [podAV p] (.bool (!podMay p)) := by
 intro st hG
 refine co 6 Tryz.func95 ?_
 refine AC_seq (AC_region ?_)
 refine s_ (S_box rfl (.tmp rfl)) ?_
 rintro _ _ ⟨b1, rfl, rfl⟩
 refine ac rfl rfl rfl ?_
 refine AL_nil (AC_seq (AC_region ?_))
 refine ldN 13 0 ?_
 refine p_ (S_gcall rfl (AEvs.cons (y := podAV p) (.tmp rfl) AEvs.nil) ((tell_pod_ok p hp) _ (fun p hp => by repeat (first | exact hG p hp | refine List.mem_cons_of_mem _ ?_ | refine List.mem_append_right _ ?_)))) ?_
 refine p_ (S_not rfl (.tmp rfl)) ?_
 refine as_ rfl rfl rfl rfl ?_
 refine AL_nil (AC_ret ?_)
 refine ret_tmp st rfl rfl (Sub.l (List.sublist_cons_self _ _)) (Conv.refl (Sub.l (List.sublist_cons_self _ _)) _) ⟨rfl, rfl⟩ (.inl rfl)
theorem tell_reply2_ok (r : Tri) : GCalls Tryz.prog tabs 97 [resAV r] (.bool (!resMay r)) := by
 intro st hG
 refine co 6 Tryz.func97 ?_
 refine AC_seq (AC_region ?_)
 refine s_ (S_box rfl (.tmp rfl)) ?_
 rintro _ _ ⟨b1, rfl, rfl⟩
 refine ac rfl rfl rfl ?_
 refine AL_nil (AC_seq (AC_region ?_))
 refine ldN 3 0 ?_
 refine p_ (S_pcall rfl (AEvs.cons (y := resAV r) (.tmp rfl) AEvs.nil) (tell_res_ok r)) ?_
 refine p_ (S_not rfl (.tmp rfl)) ?_
 refine as_ rfl rfl rfl rfl ?_
 refine AL_nil (AC_ret ?_)
 refine ret_tmp st rfl rfl (Sub.l (List.sublist_cons_self _ _)) (Conv.refl (Sub.l (List.sublist_cons_self _ _)) _) ⟨rfl, rfl⟩ (.inl rfl)
theorem slices_IndexFuncP_ok (l : List Pod) (hl : l.length ≤ 1000) (hls : ∀ p ∈ l, ShortP p) : GCalls Tryz.prog tabs 124 [.sl (podsV l), .fn 95 []] (.int .i64 (idxB (fun p : Pod => !podMay p) l)) := by
 intro st hG
 refine co 19 Tryz.func124 ?_
 refine AC_seq (AC_region ?_)
 refine ac rfl rfl rfl ?_
 refine AL_nil ?_
 refine AC_seq ?_
 refine AC_seq (AC_region ?_)
 refine mv rfl rfl rfl rfl ?_
 refine p_ (by first | exact S_lenM (e := 34) rfl (.tmp rfl) (by kernel_rfl) | exact S_len (e := 34) rfl (.tmp rfl) (by kernel_rfl)) ?_
 refine p_ (S_move rfl (AEv.const _)) ?_
 refine AL_nil ?_
 refine AC_block ?_
 refine AC_loopK (G := Nat) [(0, _), (1, _), (7, _)] (fun g => g ≤ l.length ∧ ∀ j (h : j < l.length), j < g → (fun p : Pod => !podMay p) (l[j]'h) = false) (fun g => [(8, .int .i64 (g : Int))]) (fun g => st) (fun g => l.length - g) (0) (⟨Nat.zero_le _, fun j _ h => absurd h (Nat.not_lt_zero _)⟩) (Sub.l (List.Sublist.refl _)) (.cons rfl (Le.refl _) (.cons rfl (Le.refl _) (.cons rfl (Le.refl _) .nil))) (.cons rfl (by first | exact Le.refl _ | exact Le.nils | exact Le.row _ _ _ _ | exact Le.of_eq (by first | rfl | (simp; done) | (push_cast; rfl) | (simp; omega))) .nil) ?_
 rintro i ⟨hi, hall⟩
 try dsimp only
 simp only [List.cons_append, List.nil_append]
 refine AC_seq (AC_region ?_)
 refine p_ (S_lss rfl (.tmp rfl) (.tmp rfl)) ?_
 refine AL_nil ?_
 refine AC_seq ?_
 refine AC_cond (.tmp rfl) (fun hb1 => ?_) (fun hb1 => ?_)
 ·try simp only [zA,zO,zN,zM,zP,zQ,zD,zF,gd] at hb1
  have hil : i < l.length := by first | omega | (have h9 := hb1; simp [podsV] at h9; omega)
  refine AC_skip ?_
  refine AC_seq ?_
  refine AC_block ?_
  refine AC_seq (AC_region ?_)
  refine mv rfl rfl rfl rfl ?_
  refine as_ rfl rfl rfl rfl ?_
  refine AL_nil (AC_seq (AC_region ?_))
  refine mv rfl rfl rfl rfl ?_
  refine mv rfl rfl rfl rfl ?_
  refine mv rfl rfl rfl rfl ?_
  refine p_ (S_elemN (e := 34) 13 rfl (.tmp rfl) (.tmp rfl) (by kernel_rfl) (by kernel_rfl) (by omega) (fun _ => rfl)) ?_
  refine p_ (S_loadPN (m := 13) rfl (.tmp rfl) (by kernel_rfl) (by first | exact Nat.le_of_ble_eq_true rfl | (simp; omega) | simp)) ?_
  refine s_ (S_callF (caps := []) rfl (.tmp rfl) (AEvs.cons (y := podAV (l[i]'hil)) (.tmp rfl) AEvs.nil) (tell_reply1_ok (l[i]'hil) (hls _ (List.getElem_mem hil)) _ (fun p hp => hG p hp))) ?_
  rintro _ st9 ⟨rfl, h9⟩
  rw [h9]
  clear h9 st9
  refine AL_nil ?_
  refine AC_cond (.tmp rfl) (fun hb2 => ?_) (fun hb2 => ?_)
  ·try simp only [zA,zO,zN,zM,zP,zQ,zD,zF,gd] at hb2
   have hx := idxB_hit (f := (fun p : Pod => !podMay p)) hil (by simpa using hb2) (fun j hj h => hall j hj h)
   refine AC_seq (AC_region ?_)
   refine mv rfl rfl rfl rfl ?_
   refine as_ rfl rfl rfl rfl ?_
   refine AL_nil (AC_ret ?_)
   refine ret_tmp st rfl rfl (Sub.l (List.Sublist.refl _)) (Conv.refl (Sub.l (List.Sublist.refl _)) _) ⟨by rw [hx], rfl⟩ (.inl rfl)
  try simp only [zA,zO,zN,zM,zP,zQ,zD,zF,gd] at hb2
  have hne : (fun p : Pod => !podMay p) (l[i]'hil) = false := by simpa using hb2
  refine AC_skip ?_
  refine AC_region ?_
  refine p_ (S_addI rfl (.tmp rfl) (AEv.const _) (by omega) (by omega)) ?_
  refine mv rfl rfl rfl rfl ?_
  refine AL_nil ?_
  refine ⟨i + 1, ⟨by omega, fun j h1 h => ?_⟩, by omega, (Sub.l (List.Sublist.refl _)), (.cons rfl (by first | exact Le.refl _ | exact Le.nils | exact Le.row _ _ _ _ | exact Le.of_eq (by first | rfl | (simp; done) | (push_cast; rfl) | (simp; omega))) .nil), (.cons rfl (Le.refl _) (.cons rfl (Le.refl _) (.cons rfl (Le.refl _) .nil)))⟩
  rcases Nat.lt_or_ge j i with h' | h'
  ·exact hall j h1 h'
  ·have : j = i := by omega
   subst this
   exact hne
 try simp only [zA,zO,zN,zM,zP,zQ,zD,zF,gd] at hb1
 have hx := idxB_none (f := (fun p : Pod => !podMay p)) (l := l) fun j hj => hall j hj (by first | omega | (have h9 := hb1; simp [podsV] at h9; omega))
 refine AC_exit ?_
 refine AC_seq (AC_region ?_)
 refine ac rfl rfl rfl ?_
 refine AL_nil (AC_ret ?_)
 refine ret_tmp st rfl rfl (Sub.l (List.Sublist.refl _)) (Conv.refl (Sub.l (List.Sublist.refl _)) _) ⟨by rw [hx], rfl⟩ (.inl rfl)
theorem slices_ContainsFuncP_ok (l : List Pod) (hl : l.length ≤ 1000) (hls : ∀ p ∈ l, ShortP p) : GCalls Tryz.prog tabs 94 [.sl (podsV l), .fn 95 []] (.bool (l.any (fun p : Pod => !podMay p))) := by
 intro st hG
 refine co 9 Tryz.func94 ?_
 refine AC_seq (AC_region ?_)
 refine ac rfl rfl rfl ?_
 refine AL_nil (AC_seq (AC_region ?_))
 refine mv rfl rfl rfl rfl ?_
 refine mv rfl rfl rfl rfl ?_
 refine p_ (S_gcall rfl (AEvs.cons (.tmp rfl) (AEvs.cons (.tmp rfl) AEvs.nil)) ((slices_IndexFuncP_ok l hl hls) _ (fun p hp => by repeat (first | exact hG p hp | refine List.mem_cons_of_mem _ ?_ | refine List.mem_append_right _ ?_)))) ?_
 refine p_ (S_geq rfl (.tmp rfl) (AEv.const _)) ?_
 refine as_ rfl rfl rfl rfl ?_
 refine AL_nil (AC_ret ?_)
 refine ret_tmp st rfl rfl (Sub.l (List.Sublist.refl _)) (Conv.refl (Sub.l (List.Sublist.refl _)) _) ⟨congrArg AV.bool (by exact idxB_ge _ l), rfl⟩ (.inl rfl)
theorem slices_IndexFuncR_ok (l : List Tri) (hl : l.length ≤ 1000)  : GCalls Tryz.prog tabs 125 [.sl (l.map resAV), .fn 97 []] (.int .i64 (idxB (fun r : Tri => !resMay r) l)) := by
 intro st hG
 refine co 19 Tryz.func125 ?_
 refine AC_seq (AC_region ?_)
 refine ac rfl rfl rfl ?_
 refine AL_nil ?_
 refine AC_seq ?_
 refine AC_seq (AC_region ?_)
 refine mv rfl rfl rfl rfl ?_
 refine p_ (by first | exact S_lenM (e := 74) rfl (.tmp rfl) (by kernel_rfl) | exact S_len (e := 74) rfl (.tmp rfl) (by kernel_rfl)) ?_
 refine p_ (S_move rfl (AEv.const _)) ?_
 refine AL_nil ?_
 refine AC_block ?_
 refine AC_loopK (G := Nat) [(0, _), (1, _), (7, _)] (fun g => g ≤ l.length ∧ ∀ j (h : j < l.length), j < g → (fun r : Tri => !resMay r) (l[j]'h) = false) (fun g => [(8, .int .i64 (g : Int))]) (fun g => st) (fun g => l.length - g) (0) (⟨Nat.zero_le _, fun j _ h => absurd h (Nat.not_lt_zero _)⟩) (Sub.l (List.Sublist.refl _)) (.cons rfl (Le.refl _) (.cons rfl (Le.refl _) (.cons rfl (Le.refl _) .nil))) (.cons rfl (by first | exact Le.refl _ | exact Le.nils | exact Le.row _ _ _ _ | exact Le.of_eq (by first | rfl | (simp; done) | (push_cast; rfl) | (simp; omega))) .nil) ?_
 rintro i ⟨hi, hall⟩
 try dsimp only
 simp only [List.cons_append, List.nil_append]
 refine AC_seq (AC_region ?_)
 refine p_ (S_lss rfl (.tmp rfl) (.tmp rfl)) ?_
 refine AL_nil ?_
 refine AC_seq ?_
 refine AC_cond (.tmp rfl) (fun hb1 => ?_) (fun hb1 => ?_)
 ·try simp only [zA,zO,zN,zM,zP,zQ,zD,zF,gd] at hb1
  have hil : i < l.length := by first | omega | (have h9 := hb1; simp [podsV] at h9; omega)
  refine AC_skip ?_
  refine AC_seq ?_
  refine AC_block ?_
  refine AC_seq (AC_region ?_)
  refine mv rfl rfl rfl rfl ?_
  refine as_ rfl rfl rfl rfl ?_
  refine AL_nil (AC_seq (AC_region ?_))
  refine mv rfl rfl rfl rfl ?_
  refine mv rfl rfl rfl rfl ?_
  refine mv rfl rfl rfl rfl ?_
  refine p_ (S_elemN (e := 74) 3 rfl (.tmp rfl) (.tmp rfl) (by kernel_rfl) (by kernel_rfl) (by omega) (fun _ => rfl)) ?_
  refine p_ (S_loadPN (m := 3) rfl (.tmp rfl) (by kernel_rfl) (by first | exact Nat.le_of_ble_eq_true rfl | (simp; omega) | simp)) ?_
  refine s_ (S_callF (caps := []) rfl (.tmp rfl) (AEvs.cons (y := resAV (l[i]'hil)) (.tmp rfl) AEvs.nil) (tell_reply2_ok (l[i]'hil)  _ (fun p hp => hG p hp))) ?_
  rintro _ st9 ⟨rfl, h9⟩
  rw [h9]
  clear h9 st9
  refine AL_nil ?_
  refine AC_cond (.tmp rfl) (fun hb2 => ?_) (fun hb2 => ?_)
  ·try simp only [zA,zO,zN,zM,zP,zQ,zD,zF,gd] at hb2
   have hx := idxB_hit (f := (fun r : Tri => !resMay r)) hil (by simpa using hb2) (fun j hj h => hall j hj h)
   refine AC_seq (AC_region ?_)
   refine mv rfl rfl rfl rfl ?_
   refine as_ rfl rfl rfl rfl ?_
   refine AL_nil (AC_ret ?_)
   refine ret_tmp st rfl rfl (Sub.l (List.Sublist.refl _)) (Conv.refl (Sub.l (List.Sublist.refl _)) _) ⟨by rw [hx], rfl⟩ (.inl rfl)
  try simp only [zA,zO,zN,zM,zP,zQ,zD,zF,gd] at hb2
  have hne : (fun r : Tri => !resMay r) (l[i]'hil) = false := by simpa using hb2
  refine AC_skip ?_
  refine AC_region ?_
  refine p_ (S_addI rfl (.tmp rfl) (AEv.const _) (by omega) (by omega)) ?_
  refine mv rfl rfl rfl rfl ?_
  refine AL_nil ?_
  refine ⟨i + 1, ⟨by omega, fun j h1 h => ?_⟩, by omega, (Sub.l (List.Sublist.refl _)), (.cons rfl (by first | exact Le.refl _ | exact Le.nils | exact Le.row _ _ _ _ | exact Le.of_eq (by first | rfl | (simp; done) | (push_cast; rfl) | (simp; omega))) .nil), (.cons rfl (Le.refl _) (.cons rfl (Le.refl _) (.cons rfl (Le.refl _) .nil)))⟩
  rcases Nat.lt_or_ge j i with h' | h'
  ·exact hall j h1 h'
  ·have : j = i := by omega
   subst this
   exact hne
 try simp only [zA,zO,zN,zM,zP,zQ,zD,zF,gd] at hb1
 have hx := idxB_none (f := (fun r : Tri => !resMay r)) (l := l) fun j hj => hall j hj (by first | omega | (have h9 := hb1; simp [podsV] at h9; omega))
 refine AC_exit ?_
 refine AC_seq (AC_region ?_)
 refine ac rfl rfl rfl ?_
 refine AL_nil (AC_ret ?_)
 refine ret_tmp st rfl rfl (Sub.l (List.Sublist.refl _)) (Conv.refl (Sub.l (List.Sublist.refl _)) _) ⟨by rw [hx], rfl⟩ (.inl rfl)
theorem slices_ContainsFuncR_ok (l : List Tri) (hl : l.length ≤ 1000)  : GCalls Tryz.prog tabs 96 [.sl (l.map resAV), .fn 97 []] (.bool (l.any (fun r : Tri => !resMay r))) := by
 intro st hG
 refine co 9 Tryz.func96 ?_
 refine AC_seq (AC_region ?_)
 refine ac rfl rfl rfl ?_
 refine AL_nil (AC_seq (AC_region ?_))
 refine mv rfl rfl rfl rfl ?_
 refine mv rfl rfl rfl rfl ?_
 refine p_ (S_gcall rfl (AEvs.cons (.tmp rfl) (AEvs.cons (.tmp rfl) AEvs.nil)) ((slices_IndexFuncR_ok l hl ) _ (fun p hp => by repeat (first | exact hG p hp | refine List.mem_cons_of_mem _ ?_ | refine List.mem_append_right _ ?_)))) ?_
 refine p_ (S_geq rfl (.tmp rfl) (AEv.const _)) ?_
 refine as_ rfl rfl rfl rfl ?_
 refine AL_nil (AC_ret ?_)
 refine ret_tmp st rfl rfl (Sub.l (List.Sublist.refl _)) (Conv.refl (Sub.l (List.Sublist.refl _)) _) ⟨congrArg AV.bool (by exact idxB_ge _ l), rfl⟩ (.inl rfl)
theorem tell_reply_ok (r : Rep) (hr : ShortRp r) : GCalls Tryz.prog tabs 58 [.agg (repL r)] (.bool (replyMay r)) := by
 intro st hG
 refine co 46 Tryz.func58 ?_
 obtain ⟨hr1, hr2, hr3, hr4⟩ := hr
 refine AC_seq (AC_region ?_)
 refine s_ (S_box rfl (.tmp rfl)) ?_
 rintro _ _ ⟨b1, rfl, rfl⟩
 refine ac rfl rfl rfl ?_
 refine AL_nil (AC_seq (AC_region ?_))
 refine fl 0 ?_
 refine ld 0 ?_
 refine p_ (S_pcall rfl (AEvs.cons (.tmp rfl) (AEvs.cons (AEv.const _) (AEvs.cons (AEv.const _) AEvs.nil))) (tell_within_ok r.code 0 999)) ?_
 refine mv rfl rfl rfl rfl ?_
 refine g_ (fun _ => fA 1) ?_
 refine g_ (fun _ => lA 0) ?_
 refine g_ (fun _ => S_pcall rfl (AEvs.cons (AEv.cd (.tmp rfl)) (AEvs.cons (AEv.const _) (AEvs.cons (AEv.const _) AEvs.nil))) (tell_within_ok r.uid 0 1073741824)) ?_
 refine an ?_
 refine mv rfl rfl rfl rfl ?_
 refine g_ (fun _ => fA 2) ?_
 refine g_ (fun _ => lA 0) ?_
 refine g_ (fun _ => S_pcall rfl (AEvs.cons (AEv.cd (.tmp rfl)) (AEvs.cons (AEv.const _) (AEvs.cons (AEv.const _) AEvs.nil))) (tell_within_ok r.id 0 1073741824)) ?_
 refine an ?_
 refine mv rfl rfl rfl rfl ?_
 refine g_ (fun _ => fA 4) ?_
 refine g_ (fun _ => lA 0) ?_
 refine g_ (fun _ => S_lenS (ts := #[]) rfl (AEv.cd (.tmp rfl)) (by kernel_rfl)) ?_
 refine g_ (fun _ => S_leq rfl (AEv.cd (.tmp rfl)) (AEv.const _)) ?_
 refine an ?_
 refine mv rfl rfl rfl rfl ?_
 refine g_ (fun _ => fA 5) ?_
 refine g_ (fun _ => lA 0) ?_
 refine g_ (fun _ => by first | exact S_lenM (e := 34) rfl (AEv.cd (.tmp rfl)) (by kernel_rfl) | exact S_len (e := 34) rfl (AEv.cd (.tmp rfl)) (by kernel_rfl)) ?_
 refine g_ (fun _ => S_leq rfl (AEv.cd (.tmp rfl)) (AEv.const _)) ?_
 refine an ?_
 refine mv rfl rfl rfl rfl ?_
 refine g_ (fun _ => fA 6) ?_
 refine g_ (fun _ => lA 0) ?_
 refine g_ (fun _ => by first | exact S_lenM (e := 74) rfl (AEv.cd (.tmp rfl)) (by kernel_rfl) | exact S_len (e := 74) rfl (AEv.cd (.tmp rfl)) (by kernel_rfl)) ?_
 refine g_ (fun _ => S_leq rfl (AEv.cd (.tmp rfl)) (AEv.const _)) ?_
 refine an ?_
 refine mv rfl rfl rfl rfl ?_
 refine g_ (fun _ => fA 5) ?_
 refine g_ (fun _ => lA 0) ?_
 refine g_ (fun _ => S_gcall rfl (AEvs.cons (y := .sl (podsV r.pods)) (AEv.cd (.tmp rfl)) (AEvs.cons (y := .fn 95 []) (AEv.func _) AEvs.nil)) ((slices_ContainsFuncP_ok r.pods hr2 hr4) _ (fun p hp => by repeat (first | exact hG p hp | refine List.mem_cons_of_mem _ ?_ | refine List.mem_append_right _ ?_)))) ?_
 refine g_ (fun _ => S_not rfl (AEv.cd (.tmp rfl))) ?_
 refine an ?_
 refine mv rfl rfl rfl rfl ?_
 refine g_ (fun _ => fA 6) ?_
 refine g_ (fun _ => lA 0) ?_
 refine g_ (fun _ => S_gcall rfl (AEvs.cons (y := .sl (r.use.map resAV)) (AEv.cd (.tmp rfl)) (AEvs.cons (y := .fn 97 []) (AEv.func _) AEvs.nil)) ((slices_ContainsFuncR_ok r.use hr3) _ (fun p hp => by repeat (first | exact hG p hp | refine List.mem_cons_of_mem _ ?_ | refine List.mem_append_right _ ?_)))) ?_
 refine g_ (fun _ => S_not rfl (AEv.cd (.tmp rfl))) ?_
 refine an ?_
 refine as_ rfl rfl rfl rfl ?_
 refine AL_nil (AC_ret ?_)
 refine ret_tmp st rfl rfl (Sub.l (List.sublist_cons_self _ _)) (Conv.refl (Sub.l (List.sublist_cons_self _ _)) _) ⟨congrArg AV.bool (by simp only [replyMay, ← not_any podMay, ← not_any resMay, podsV, List.length_map]), rfl⟩ (.inl rfl)
theorem tell_Check_ok (m : Msg) (hm : ShortM m) : GCalls Tryz.prog tabs 17 [msgAV m] (.int .i64 (checkM m)) := by
 intro st hG
 refine co 50 Tryz.func17 ?_
 have hrv : decide ((m.event.rev : Int) = 0) = decide (m.event.rev = 0) := decide_eq_decide.2 (by omega)
 refine AC_seq (AC_region ?_)
 refine s_ (S_box rfl (.tmp rfl)) ?_
 rintro _ _ ⟨b1, rfl, rfl⟩
 refine ac rfl rfl rfl ?_
 refine AL_nil (AC_seq (AC_region ?_))
 refine fl 1 ?_
 refine ld 0 ?_
 refine p_ (S_pcall rfl (AEvs.cons (.tmp rfl) (AEvs.cons (AEv.const _) (AEvs.cons (AEv.const _) AEvs.nil))) (tell_within_ok m.num 1 1073741824)) ?_
 refine as_ rfl rfl rfl rfl ?_
 refine AL_nil ?_
 refine AC_seq ?_
 refine AC_seq (AC_region ?_)
 refine fl 0 ?_
 refine ld 0 ?_
 refine AL_nil ?_
 refine AC_block ?_
 refine AC_seq (AC_region ?_)
 refine p_ (S_eql rfl (.tmp rfl) (AEv.const _)) ?_
 refine as_ rfl rfl rfl rfl ?_
 refine AL_nil ?_
 refine AC_cond (.tmp rfl) (fun hb2 => ?_) (fun hb2 => ?_)
 ·try simp only [zA,zO,zN,zM,zP,zQ,zD,zF,gd] at hb2
  have hk : m.kind = 1 := by omega
  refine AC_region ?_
  refine mv rfl rfl rfl rfl ?_
  refine mv rfl rfl rfl rfl ?_
  refine g_ (fun _ => fA 2) ?_
  refine g_ (fun _ => lN 7 0) ?_
  refine g_ (fun _ => S_gcall rfl (AEvs.cons (y := .agg (repL m.reply)) (AEv.cd (.tmp rfl)) AEvs.nil) ((tell_reply_ok m.reply hm.1) _ (fun p hp => by repeat (first | exact hG p hp | refine List.mem_cons_of_mem _ ?_ | refine List.mem_append_right _ ?_)))) ?_
  refine an ?_
  refine mv rfl rfl rfl rfl ?_
  refine g_ (fun _ => fA 9) ?_
  refine g_ (fun _ => S_field 0 rfl (AEv.cd (.tmp rfl)) (by kernel_rfl)) ?_
  refine g_ (fun _ => lA 0) ?_
  refine g_ (fun _ => S_eql rfl (AEv.cd (.tmp rfl)) (AEv.const _)) ?_
  refine an ?_
  refine mv rfl rfl rfl rfl ?_
  refine g_ (fun _ => fA 9) ?_
  refine g_ (fun _ => S_field 1 rfl (AEv.cd (.tmp rfl)) (by kernel_rfl)) ?_
  refine g_ (fun _ => lA 0) ?_
  refine g_ (fun _ => S_eql rfl (AEv.cd (.tmp rfl)) (AEv.const _)) ?_
  refine an ?_
  refine mv rfl rfl rfl rfl ?_
  refine g_ (fun _ => fA 9) ?_
  refine g_ (fun _ => S_field 2 rfl (AEv.cd (.tmp rfl)) (by kernel_rfl)) ?_
  refine g_ (fun _ => lN 13 0) ?_
  refine g_ (fun _ => S_pcall rfl (AEvs.cons (y := podAV m.event.pod) (AEv.cd (.tmp rfl)) AEvs.nil) (tell_bare_ok m.event.pod hm.2)) ?_
  refine an ?_
  refine as_ rfl rfl rfl rfl ?_
  refine AL_nil (AC_seq (AC_region ?_))
  refine mv rfl rfl rfl rfl ?_
  refine p_ (S_pcall rfl (AEvs.cons (y := .bool (msgMay m)) ((AEv.tmp rfl).le (Le.of_eq (congrArg AV.bool (by unfold msgMay; first | (rw [if_pos hk]; simp only [Bool.and_assoc, hrv]; done) | (rw [if_neg hk, if_pos hk2]; simp only [Bool.and_assoc]; done) | (rw [if_neg hk, if_neg hk2]; exact (Bool.and_false _).symm))))) AEvs.nil) (tell_says_ok (msgMay m))) ?_
  refine as_ rfl rfl rfl rfl ?_
  refine AL_nil (AC_ret ?_)
  refine ret_tmp st rfl rfl (Sub.l (List.sublist_cons_self _ _)) (Conv.refl (Sub.l (List.sublist_cons_self _ _)) _) ⟨rfl, rfl⟩ (.inl rfl)
 try simp only [zA,zO,zN,zM,zP,zQ,zD,zF,gd] at hb2
 have hk : ¬ m.kind = 1 := by omega
 refine AC_seq (AC_region ?_)
 refine p_ (S_eql rfl (.tmp rfl) (AEv.const _)) ?_
 refine as_ rfl rfl rfl rfl ?_
 refine AL_nil ?_
 refine AC_cond (.tmp rfl) (fun hb52 => ?_) (fun hb52 => ?_)
 ·try simp only [zA,zO,zN,zM,zP,zQ,zD,zF,gd] at hb52
  have hk2 : m.kind = 2 := by omega
  refine AC_region ?_
  refine mv rfl rfl rfl rfl ?_
  refine mv rfl rfl rfl rfl ?_
  refine g_ (fun _ => fA 2) ?_
  refine g_ (fun _ => lN 7 0) ?_
  refine g_ (fun _ => S_pcall rfl (AEvs.cons (y := .agg (repL m.reply)) (AEv.cd (.tmp rfl)) AEvs.nil) (tell_silent_ok m.reply)) ?_
  refine an ?_
  refine mv rfl rfl rfl rfl ?_
  refine g_ (fun _ => fA 9) ?_
  refine g_ (fun _ => lN 15 0) ?_
  refine g_ (fun _ => S_gcall rfl (AEvs.cons (y := .agg (evtL m.event)) (AEv.cd (.tmp rfl)) AEvs.nil) ((tell_event_ok m.event hm.2) _ (fun p hp => by repeat (first | exact hG p hp | refine List.mem_cons_of_mem _ ?_ | refine List.mem_append_right _ ?_)))) ?_
  refine an ?_
  refine as_ rfl rfl rfl rfl ?_
  refine AL_nil (AC_seq (AC_region ?_))
  refine mv rfl rfl rfl rfl ?_
  refine p_ (S_pcall rfl (AEvs.cons (y := .bool (msgMay m)) ((AEv.tmp rfl).le (Le.of_eq (congrArg AV.bool (by unfold msgMay; first | (rw [if_pos hk]; simp only [Bool.and_assoc, hrv]; done) | (rw [if_neg hk, if_pos hk2]; simp only [Bool.and_assoc]; done) | (rw [if_neg hk, if_neg hk2]; exact (Bool.and_false _).symm))))) AEvs.nil) (tell_says_ok (msgMay m))) ?_
  refine as_ rfl rfl rfl rfl ?_
  refine AL_nil (AC_ret ?_)
  refine ret_tmp st rfl rfl (Sub.l (List.sublist_cons_self _ _)) (Conv.refl (Sub.l (List.sublist_cons_self _ _)) _) ⟨rfl, rfl⟩ (.inl rfl)
 try simp only [zA,zO,zN,zM,zP,zQ,zD,zF,gd] at hb52
 have hk2 : ¬ m.kind = 2 := by omega
 refine AC_region ?_
 refine ac rfl rfl rfl ?_
 refine AL_nil (AC_seq (AC_region ?_))
 refine mv rfl rfl rfl rfl ?_
 refine p_ (S_pcall rfl (AEvs.cons (y := .bool (msgMay m)) ((AEv.tmp rfl).le (Le.of_eq (congrArg AV.bool (by unfold msgMay; first | (rw [if_pos hk]; simp only [Bool.and_assoc, hrv]; done) | (rw [if_neg hk, if_pos hk2]; simp only [Bool.and_assoc]; done) | (rw [if_neg hk, if_neg hk2]; exact (Bool.and_false _).symm))))) AEvs.nil) (tell_says_ok (msgMay m))) ?_
 refine as_ rfl rfl rfl rfl ?_
 refine AL_nil (AC_ret ?_)
 refine ret_tmp st rfl rfl (Sub.l (List.sublist_cons_self _ _)) (Conv.refl (Sub.l (List.sublist_cons_self _ _)) _) ⟨rfl, rfl⟩ (.inl rfl)
theorem tell_Pod_ok (p : Pod) (hp : ShortP p) : GCalls Tryz.prog tabs 22 [podAV p] (.int .i64 (if podMay p = true then 0 else 4)) := by
 intro st hG
 refine co 6 Tryz.func22 ?_
 refine AC_seq (AC_region ?_)
 refine s_ (S_box rfl (.tmp rfl)) ?_
 rintro _ _ ⟨b1, rfl, rfl⟩
 refine ac rfl rfl rfl ?_
 refine AL_nil (AC_seq (AC_region ?_))
 refine ldN 13 0 ?_
 refine p_ (S_gcall rfl (AEvs.cons (y := podAV p) (.tmp rfl) AEvs.nil) ((tell_pod_ok p hp) _ (fun p hp => by repeat (first | exact hG p hp | refine List.mem_cons_of_mem _ ?_ | refine List.mem_append_right _ ?_)))) ?_
 refine p_ (S_pcall rfl (AEvs.cons (.tmp rfl) AEvs.nil) (tell_says_ok (podMay p))) ?_
 refine as_ rfl rfl rfl rfl ?_
 refine AL_nil (AC_ret ?_)
 refine ret_tmp st rfl rfl (Sub.l (List.sublist_cons_self _ _)) (Conv.refl (Sub.l (List.sublist_cons_self _ _)) _) ⟨rfl, rfl⟩ (.inl rfl)
end Go.Proofs.YtemmkkmpchphkaaGreatDoor

set_option maxRecDepth 100000
namespace Go.Proofs.YtemmkkmpchphkaaGreatDoor
open Go.AL Go.NumSpec
set_option maxHeartbeats 2000000 in
theorem tell_putPod_ok (b : Nat) (u2 : Bool) (q2 : Buf) (l : List UInt8) (c : Int) (hq2 : q2.ok l)  (hl : l.length + 40000 ≤ 100000000000) (p : Pod) (hp : PodOk p) (hs : ShortP p) (hck : checkE p.spec = none) (F : St) (hG : ∀ r, r ∈ Gs tabs → r ∈ F) : ACalls Tryz.prog 31 [.ptr b 0, podAV p] (((b, .cells [addrB u2 b 112 3, bufAV q2 (l), .int .i64 (c)]) :: bufSt q2 5 (l)) ++ F) (fun v9 st' => ∃ foot', (∃ (u' : Bool) (q' : Buf), q'.ok (wput c l (podB p)) ∧ v9 = .tup [] ∧ foot' = (b, .cells [addrB u' b 112 3, bufAV q' (wput c l (podB p)), .int .i64 (c)]) :: bufSt q' 5 (wput c l (podB p))) ∧ st' = foot' ++ F) := by
 refine co 41 Tryz.func31 ?_
 obtain ⟨⟨hp1, hp2, hp3, hp4⟩, ⟨hp5, hp6⟩, hp7, hp8⟩ := hp
 have n1 := numB_len (n := p.id) (by omega)
 have n2 := putL_few p.ver hp2
 have n3 := spcB_len hck
 have n4 := numB_len (n := p.node) (by omega)
 have n5 := numB_len (n := p.x) (by omega)
 have n6 := numB_len (n := p.y) (by omega)
 have hpl := hs.2
 refine AC_seq (AC_region ?_)
 refine s_ (S_box rfl (.tmp rfl)) ?_
 rintro _ _ ⟨b3, rfl, rfl⟩
 refine AL_nil (AC_seq (AC_region ?_))
 refine mv rfl rfl rfl rfl ?_
 refine fl 0 ?_
 refine ld 0 ?_
 refine s_ (S_call rfl (AEvs.cons (.tmp rfl) (AEvs.cons (.tmp rfl) AEvs.nil)) (ACalls.preQ (pre := [_]) (F := F) (w_NumN b u2 q2 _ c hq2 (by first | omega | (refine Nat.le_trans (Nat.add_le_add_right (wput_len _ _ _) _) ?_; (try simp only [List.length_append]); omega)) p.id (by omega) (by omega) _))) ?_
 rintro _ _ ⟨_, ⟨u2, q2, hq2, rfl, rfl⟩, rfl⟩
 refine AL_nil (AC_seq (AC_region ?_))
 refine mv rfl rfl rfl rfl ?_
 refine fl 1 ?_
 refine ld 0 ?_
 refine s_ (S_call rfl (AEvs.cons (.tmp rfl) (AEvs.cons (.tmp rfl) AEvs.nil)) (ACalls.preQ (pre := [_]) (F := F) (w_Big_ok b u2 q2 _ c hq2 p.ver hp2 (by first | omega | (refine Nat.le_trans (Nat.add_le_add_right (wput_len _ _ _) _) ?_; (try simp only [List.length_append]); omega)) _))) ?_
 rintro _ _ ⟨_, ⟨u2, q2, hq2, rfl, rfl⟩, rfl⟩
 rw [wput_wput] at hq2 ⊢
 refine AL_nil (AC_seq (AC_region ?_))
 refine mv rfl rfl rfl rfl ?_
 refine fl 2 ?_
 refine ldN 7 0 ?_
 refine s_ (S_call rfl (AEvs.cons (.tmp rfl) (AEvs.cons (.tmp rfl) AEvs.nil)) (ACalls.preQ (pre := [_]) (F := F) (pack_Put_ok b u2 q2 _ c hq2 (by first | omega | (refine Nat.le_trans (Nat.add_le_add_right (wput_len _ _ _) _) ?_; (try simp only [List.length_append]); omega)) p.spec hs.1 _ (fun r hr => List.mem_append_right _ (hG r hr))))) ?_
 rintro _ _ ⟨_, ⟨u2, q2, hq2, rfl, rfl⟩, rfl⟩
 rw [if_pos hck] at hq2
 rw [if_pos hck, if_pos hck]
 rw [wput_wput] at hq2 ⊢
 refine AL_nil (AC_seq (AC_region ?_))
 refine mv rfl rfl rfl rfl ?_
 refine fl 9 ?_
 refine ld 0 ?_
 refine s_ (S_call rfl (AEvs.cons (.tmp rfl) (AEvs.cons (.tmp rfl) AEvs.nil)) (ACalls.preQ (pre := [_]) (F := F) (w_NumN b u2 q2 _ c hq2 (by first | omega | (refine Nat.le_trans (Nat.add_le_add_right (wput_len _ _ _) _) ?_; (try simp only [List.length_append]); omega)) p.node (by omega) (by omega) _))) ?_
 rintro _ _ ⟨_, ⟨u2, q2, hq2, rfl, rfl⟩, rfl⟩
 rw [wput_wput] at hq2 ⊢
 refine AL_nil ?_
 refine AC_seq ?_
 refine AC_seq (AC_region ?_)
 refine fl 10 ?_
 refine ld 0 ?_
 refine p_ (by first | exact S_lenM (e := 3) rfl (.tmp rfl) (by kernel_rfl) | exact S_len (e := 3) rfl (.tmp rfl) (by kernel_rfl)) ?_
 refine p_ (S_move rfl (AEv.const _)) ?_
 refine AL_nil ?_
 refine AC_block ?_
 refine AC_loopK (G := Nat × Bool × Buf) [(0, _), (3, _), (23, _), (24, _)] (fun g => g.1 ≤ p.ports.length ∧ g.2.2.ok (wput c l ((((numB p.id ++ putL p.ver) ++ spcB p.spec) ++ numB p.node) ++ (p.ports.take g.1).flatMap numB))) (fun g => [(25, .int .i64 (g.1 : Int))]) (fun g => (b3, .cells (podL p)) :: (((b, .cells [addrB g.2.1 b 112 3, bufAV g.2.2 (wput c l ((((numB p.id ++ putL p.ver) ++ spcB p.spec) ++ numB p.node) ++ (p.ports.take g.1).flatMap numB)), .int .i64 (c)]) :: bufSt g.2.2 5 (wput c l ((((numB p.id ++ putL p.ver) ++ spcB p.spec) ++ numB p.node) ++ (p.ports.take g.1).flatMap numB))) ++ F)) (fun g => p.ports.length - g.1) ((0, u2, q2)) (⟨Nat.zero_le _, by simpa using hq2⟩) (by simp only [List.take_zero, List.flatMap_nil, List.append_nil]; exact (Sub.l (List.Sublist.refl _))) (.cons rfl (Le.refl _) (.cons rfl (Le.refl _) (.cons rfl (Le.refl _) (.cons rfl (Le.refl _) .nil)))) (.cons rfl (by first | exact Le.refl _ | exact Le.nils | exact Le.row _ _ _ _ | exact Le.of_eq (by first | rfl | (simp; done) | (push_cast; rfl) | (simp; omega))) .nil) ?_
 rintro ⟨i, u2, q2⟩ ⟨hi, hq2⟩
 try dsimp only
 simp only [List.cons_append, List.nil_append]
 dsimp only at hi hq2
 have hfm := flatB_len (e := numB) (B := 10) (l := p.ports.take i) fun n hn => numB_len (by have := (hp6 n (List.mem_of_mem_take hn)).2; omega)
 rw [List.length_take, show min i p.ports.length = i by omega] at hfm
 refine AC_seq (AC_region ?_)
 refine p_ (S_lss rfl (.tmp rfl) (.tmp rfl)) ?_
 refine AL_nil ?_
 refine AC_seq ?_
 refine AC_cond (.tmp rfl) (fun hb2 => ?_) (fun hb2 => ?_)
 ·try simp only [zA,zO,zN,zM,zP,zQ,zD,zF,gd] at hb2
  have hil : i < p.ports.length := by omega
  have hpi := hp6 _ (List.getElem_mem hil)
  have hni := numB_len (n := (p.ports[i]'hil)) (by omega)
  refine AC_skip ?_
  refine AC_seq ?_
  refine AC_block ?_
  refine AC_seq (AC_region ?_)
  refine p_ (S_elemN (e := 3) 1 rfl (.tmp rfl) (.tmp rfl) (by kernel_rfl) (by kernel_rfl) (by omega) (fun _ => rfl)) ?_
  refine p_ (S_loadP rfl (.tmp rfl) rfl (by kernel_rfl)) ?_
  refine as_ rfl rfl rfl rfl ?_
  refine AL_nil ?_
  refine AC_region ?_
  refine mv rfl rfl rfl rfl ?_
  refine mv rfl rfl rfl rfl ?_
  refine s_ (S_call rfl (AEvs.cons (.tmp rfl) (AEvs.cons (.tmp rfl) AEvs.nil)) (ACalls.preQ (pre := [_]) (F := F) (w_NumN b u2 q2 _ c hq2 (by first | omega | (refine Nat.le_trans (Nat.add_le_add_right (wput_len _ _ _) _) ?_; (try simp only [List.length_append]); omega)) (p.ports[i]'hil) (by omega) (by omega) _))) ?_
  rintro _ _ ⟨_, ⟨u2, q2, hq2, rfl, rfl⟩, rfl⟩
  rw [wput_wput] at hq2 ⊢
  refine AL_nil ?_
  refine AC_region ?_
  refine p_ (S_addI rfl (.tmp rfl) (AEv.const _) (by omega) (by omega)) ?_
  refine mv rfl rfl rfl rfl ?_
  refine AL_nil ?_
  refine ⟨(i + 1, u2, q2), ⟨by dsimp only; omega, by dsimp only; rw [flatB_next hil]; exact hq2⟩, by dsimp only; omega, by dsimp only; rw [flatB_next hil]; exact (Sub.l (List.Sublist.refl _)), (.cons rfl (by first | exact Le.refl _ | exact Le.nils | exact Le.row _ _ _ _ | exact Le.of_eq (by first | rfl | (simp; done) | (push_cast; rfl) | (simp; omega))) .nil), (.cons rfl (Le.refl _) (.cons rfl (Le.refl _) (.cons rfl (Le.refl _) (.cons rfl (Le.refl _) .nil))))⟩
 try simp only [zA,zO,zN,zM,zP,zQ,zD,zF,gd] at hb2
 rw [List.take_of_length_le (show p.ports.length ≤ i by omega)] at hq2 hfm ⊢
 refine AC_exit ?_
 refine AC_seq (AC_region ?_)
 refine mv rfl rfl rfl rfl ?_
 refine fl 11 ?_
 refine ld 0 ?_
 refine s_ (S_call rfl (AEvs.cons (.tmp rfl) (AEvs.cons (.tmp rfl) AEvs.nil)) (ACalls.preQ (pre := [_]) (F := F) (w_NumN b u2 q2 _ c hq2 (by first | omega | (refine Nat.le_trans (Nat.add_le_add_right (wput_len _ _ _) _) ?_; (try simp only [List.length_append]); omega)) p.x (by omega) (by omega) _))) ?_
 rintro _ _ ⟨_, ⟨u2, q2, hq2, rfl, rfl⟩, rfl⟩
 rw [wput_wput] at hq2 ⊢
 refine AL_nil ?_
 refine AC_region ?_
 refine mv rfl rfl rfl rfl ?_
 refine fl 12 ?_
 refine ld 0 ?_
 refine s_ (S_call rfl (AEvs.cons (.tmp rfl) (AEvs.cons (.tmp rfl) AEvs.nil)) (ACalls.preQ (pre := [_]) (F := F) (w_NumN b u2 q2 _ c hq2 (by first | omega | (refine Nat.le_trans (Nat.add_le_add_right (wput_len _ _ _) _) ?_; (try simp only [List.length_append]); omega)) p.y (by omega) (by omega) _))) ?_
 rintro _ _ ⟨_, ⟨u2, q2, hq2, rfl, rfl⟩, rfl⟩
 rw [wput_wput] at hq2 ⊢
 rw [podB_assoc] at hq2 ⊢
 refine AL_nil ?_
 refine ret_none (((b, .cells [addrB u2 b 112 3, bufAV q2 (wput c l (podB p)), .int .i64 (c)]) :: bufSt q2 5 (wput c l (podB p))) ++ F) rfl (Sub.l (List.sublist_cons_self _ _)) ⟨_, ⟨u2, q2, hq2, rfl, rfl⟩, rfl⟩ (.inr rfl)
set_option maxHeartbeats 2000000 in
theorem tell_putReply_ok (b : Nat) (u2 : Bool) (q2 : Buf) (l : List UInt8) (c : Int) (hq2 : q2.ok l)  (hl : l.length + 1000000 ≤ 100000000000) (r : Rep) (hr : RepOk r) (hs : ShortRp r) (hck : ∀ p ∈ r.pods, checkE p.spec = none) (F : St) (hG : ∀ r, r ∈ Gs tabs → r ∈ F) : ACalls Tryz.prog 27 [.ptr b 0, .agg (repL r)] (((b, .cells [addrB u2 b 112 3, bufAV q2 (l), .int .i64 (c)]) :: bufSt q2 5 (l)) ++ F) (fun v9 st' => ∃ foot', (∃ (u' : Bool) (q' : Buf), q'.ok (wput c l (replyB r)) ∧ v9 = .tup [] ∧ foot' = (b, .cells [addrB u' b 112 3, bufAV q' (wput c l (replyB r)), .int .i64 (c)]) :: bufSt q' 5 (wput c l (replyB r))) ∧ st' = foot' ++ F) := by
 refine co 69 Tryz.func27 ?_
 obtain ⟨hr1, hr2, hr3, hr4, hr5, ⟨hr6, hr7⟩, hr8, hr9⟩ := hr
 have n1 := numB_len (n := r.code) (by omega)
 have n2 := numB_len (n := r.uid) (by omega)
 have n3 := numB_len (n := r.id) (by omega)
 have n4 := putL_few r.rev hr4
 have n5 := textB_len (s := r.data) (by omega)
 have n6 := numB_len (n := (r.pods.length : Int)) (by omega)
 have n7 := numB_len (n := (r.use.length : Int)) (by omega)
 have n8 := flatB_len (e := podB) (B := 21000) (l := r.pods) fun p hp => podB_len (hr7 p hp) (hck p hp)
 have n9 : r.pods.length * 21000 ≤ 16 * 21000 := Nat.mul_le_mul_right _ (by omega)
 have hpl : (podsV r.pods).length = r.pods.length := List.length_map ..
 have hul : (r.use.map resAV).length = r.use.length := List.length_map ..
 refine AC_seq (AC_region ?_)
 refine s_ (S_box rfl (.tmp rfl)) ?_
 rintro _ _ ⟨b3, rfl, rfl⟩
 refine AL_nil (AC_seq (AC_region ?_))
 refine mv rfl rfl rfl rfl ?_
 refine fl 0 ?_
 refine ld 0 ?_
 refine s_ (S_call rfl (AEvs.cons (.tmp rfl) (AEvs.cons (.tmp rfl) AEvs.nil)) (ACalls.preQ (pre := [_]) (F := F) (w_NumN b u2 q2 _ c hq2 (by first | omega | (refine Nat.le_trans (Nat.add_le_add_right (wput_len _ _ _) _) ?_; (try simp only [List.length_append]); omega)) r.code (by omega) (by omega) _))) ?_
 rintro _ _ ⟨_, ⟨u2, q2, hq2, rfl, rfl⟩, rfl⟩
 refine AL_nil (AC_seq (AC_region ?_))
 refine mv rfl rfl rfl rfl ?_
 refine fl 1 ?_
 refine ld 0 ?_
 refine s_ (S_call rfl (AEvs.cons (.tmp rfl) (AEvs.cons (.tmp rfl) AEvs.nil)) (ACalls.preQ (pre := [_]) (F := F) (w_NumN b u2 q2 _ c hq2 (by first | omega | (refine Nat.le_trans (Nat.add_le_add_right (wput_len _ _ _) _) ?_; (try simp only [List.length_append]); omega)) r.uid (by omega) (by omega) _))) ?_
 rintro _ _ ⟨_, ⟨u2, q2, hq2, rfl, rfl⟩, rfl⟩
 rw [wput_wput] at hq2 ⊢
 refine AL_nil (AC_seq (AC_region ?_))
 refine mv rfl rfl rfl rfl ?_
 refine fl 2 ?_
 refine ld 0 ?_
 refine s_ (S_call rfl (AEvs.cons (.tmp rfl) (AEvs.cons (.tmp rfl) AEvs.nil)) (ACalls.preQ (pre := [_]) (F := F) (w_NumN b u2 q2 _ c hq2 (by first | omega | (refine Nat.le_trans (Nat.add_le_add_right (wput_len _ _ _) _) ?_; (try simp only [List.length_append]); omega)) r.id (by omega) (by omega) _))) ?_
 rintro _ _ ⟨_, ⟨u2, q2, hq2, rfl, rfl⟩, rfl⟩
 rw [wput_wput] at hq2 ⊢
 refine AL_nil (AC_seq (AC_region ?_))
 refine mv rfl rfl rfl rfl ?_
 refine fl 3 ?_
 refine ld 0 ?_
 refine s_ (S_call rfl (AEvs.cons (.tmp rfl) (AEvs.cons (.tmp rfl) AEvs.nil)) (ACalls.preQ (pre := [_]) (F := F) (w_Big_ok b u2 q2 _ c hq2 r.rev hr4 (by first | omega | (refine Nat.le_trans (Nat.add_le_add_right (wput_len _ _ _) _) ?_; (try simp only [List.length_append]); omega)) _))) ?_
 rintro _ _ ⟨_, ⟨u2, q2, hq2, rfl, rfl⟩, rfl⟩
 rw [wput_wput] at hq2 ⊢
 refine AL_nil (AC_seq (AC_region ?_))
 refine mv rfl rfl rfl rfl ?_
 refine fl 4 ?_
 refine ld 0 ?_
 refine s_ (S_call rfl (AEvs.cons (.tmp rfl) (AEvs.cons (.tmp rfl) AEvs.nil)) (ACalls.preQ (pre := [_]) (F := F) (w_TextN b u2 q2 _ c hq2 (by first | omega | (refine Nat.le_trans (Nat.add_le_add_right (wput_len _ _ _) _) ?_; (try simp only [List.length_append]); omega)) r.data (by omega) (by first | omega | (refine Nat.le_trans (Nat.add_le_add_right (wput_len _ _ _) _) ?_; (try simp only [List.length_append]); omega)) _))) ?_
 rintro _ _ ⟨_, ⟨u2, q2, hq2, rfl, rfl⟩, rfl⟩
 rw [wput_wput] at hq2 ⊢
 refine AL_nil (AC_seq (AC_region ?_))
 refine mv rfl rfl rfl rfl ?_
 refine fl 5 ?_
 refine ld 0 ?_
 refine p_ (by first | exact S_lenM (e := 34) rfl (.tmp rfl) (by kernel_rfl) | exact S_len (e := 34) rfl (.tmp rfl) (by kernel_rfl)) ?_
 refine s_ (S_call rfl (AEvs.cons (.tmp rfl) (AEvs.cons (.tmp rfl) AEvs.nil)) (ACalls.preQ (pre := [_]) (F := F) (w_NumN b u2 q2 _ c hq2 (by first | omega | (refine Nat.le_trans (Nat.add_le_add_right (wput_len _ _ _) _) ?_; (try simp only [List.length_append]); omega)) (r.pods.length : Int) (by omega) (by omega) _))) ?_
 rintro _ _ ⟨_, ⟨u2, q2, hq2, rfl, rfl⟩, rfl⟩
 rw [wput_wput] at hq2 ⊢
 refine AL_nil ?_
 refine AC_seq ?_
 refine AC_seq (AC_region ?_)
 refine fl 5 ?_
 refine ld 0 ?_
 refine p_ (by first | exact S_lenM (e := 34) rfl (.tmp rfl) (by kernel_rfl) | exact S_len (e := 34) rfl (.tmp rfl) (by kernel_rfl)) ?_
 refine p_ (S_move rfl (AEv.const _)) ?_
 refine AL_nil ?_
 refine AC_block ?_
 refine AC_loopK (G := Nat × Bool × Buf) [(0, _), (3, _), (34, _), (35, _)] (fun g => g.1 ≤ r.pods.length ∧ g.2.2.ok (wput c l ((((((numB r.code ++ numB r.uid) ++ numB r.id) ++ putL r.rev) ++ textB r.data) ++ numB (r.pods.length : Int)) ++ (r.pods.take g.1).flatMap podB))) (fun g => [(36, .int .i64 (g.1 : Int))]) (fun g => (b3, .cells (repL r)) :: (((b, .cells [addrB g.2.1 b 112 3, bufAV g.2.2 (wput c l ((((((numB r.code ++ numB r.uid) ++ numB r.id) ++ putL r.rev) ++ textB r.data) ++ numB (r.pods.length : Int)) ++ (r.pods.take g.1).flatMap podB)), .int .i64 (c)]) :: bufSt g.2.2 5 (wput c l ((((((numB r.code ++ numB r.uid) ++ numB r.id) ++ putL r.rev) ++ textB r.data) ++ numB (r.pods.length : Int)) ++ (r.pods.take g.1).flatMap podB))) ++ F)) (fun g => r.pods.length - g.1) ((0, u2, q2)) (⟨Nat.zero_le _, by simpa using hq2⟩) (by simp only [List.take_zero, List.flatMap_nil, List.append_nil]; exact (Sub.l (List.Sublist.refl _))) (.cons rfl (Le.refl _) (.cons rfl (Le.refl _) (.cons rfl (Le.refl _) (.cons rfl (Le.refl _) .nil)))) (.cons rfl (by first | exact Le.refl _ | exact Le.nils | exact Le.row _ _ _ _ | exact Le.of_eq (by first | rfl | (simp; done) | (push_cast; rfl) | (simp; omega))) .nil) ?_
 rintro ⟨i, u2, q2⟩ ⟨hi, hq2⟩
 try dsimp only
 simp only [List.cons_append, List.nil_append]
 dsimp only at hi hq2
 have hfm := flatB_len (e := podB) (B := 21000) (l := r.pods.take i) fun p hp => podB_len (hr7 p (List.mem_of_mem_take hp)) (hck p (List.mem_of_mem_take hp))
 rw [List.length_take, show min i r.pods.length = i by omega] at hfm
 refine AC_seq (AC_region ?_)
 refine p_ (S_lss rfl (.tmp rfl) (.tmp rfl)) ?_
 refine AL_nil ?_
 refine AC_seq ?_
 refine AC_cond (.tmp rfl) (fun hb2 => ?_) (fun hb2 => ?_)
 ·try simp only [zA,zO,zN,zM,zP,zQ,zD,zF,gd] at hb2
  have hil : i < r.pods.length := by omega
  refine AC_skip ?_
  refine AC_seq ?_
  refine AC_block ?_
  refine AC_seq (AC_region ?_)
  refine p_ (S_elemN (e := 34) 13 rfl (.tmp rfl) (.tmp rfl) (by kernel_rfl) (by kernel_rfl) (by omega) (fun _ => rfl)) ?_
  refine p_ (S_loadPN (m := 13) rfl (.tmp rfl) (by kernel_rfl) (by first | exact Nat.le_of_ble_eq_true rfl | (simp; omega) | simp)) ?_
  refine s_ (S_alloc [.int .i64 0, .int .u64 0, .string ⟨#[]⟩, .slice none 0 0, .slice none 0 0, .slice none 0 0, .int .i64 0, .int .i64 0, .int .i64 0, .int .i64 0, .slice none 0 0, .int .i64 0, .int .i64 0] rfl (by kernel_rfl)) ?_
  rintro _ _ ⟨b5, rfl, rfl⟩
  refine stW 0 ?_
  refine AL_nil ?_
  refine AC_region ?_
  refine mv rfl rfl rfl rfl ?_
  refine ldN 13 0 ?_
  refine s_ (S_call rfl (AEvs.cons (.tmp rfl) (AEvs.cons (.tmp rfl) AEvs.nil)) (ACalls.preQ (pre := [_, _]) (F := F) (tell_putPod_ok b u2 q2 _ c hq2 (by first | omega | (refine Nat.le_trans (Nat.add_le_add_right (wput_len _ _ _) _) ?_; (try simp only [List.length_append]); omega)) (r.pods[i]'hil) (hr7 _ (List.getElem_mem hil)) (hs.2.2.2 _ (List.getElem_mem hil)) (hck _ (List.getElem_mem hil)) _ (fun r hr => List.mem_append_right _ (hG r hr))))) ?_
  rintro _ _ ⟨_, ⟨u2, q2, hq2, rfl, rfl⟩, rfl⟩
  rw [wput_wput] at hq2 ⊢
  refine AL_nil ?_
  refine AC_region ?_
  refine p_ (S_addI rfl (.tmp rfl) (AEv.const _) (by omega) (by omega)) ?_
  refine mv rfl rfl rfl rfl ?_
  refine AL_nil ?_
  refine ⟨(i + 1, u2, q2), ⟨by dsimp only; omega, by dsimp only; rw [flatB_next hil]; exact hq2⟩, by dsimp only; omega, by dsimp only; rw [flatB_next hil]; exact (Sub.l (List.sublist_cons_self _ _)), (.cons rfl (by first | exact Le.refl _ | exact Le.nils | exact Le.row _ _ _ _ | exact Le.of_eq (by first | rfl | (simp; done) | (push_cast; rfl) | (simp; omega))) .nil), (.cons rfl (Le.refl _) (.cons rfl (Le.refl _) (.cons rfl (Le.refl _) (.cons rfl (Le.refl _) .nil))))⟩
 try simp only [zA,zO,zN,zM,zP,zQ,zD,zF,gd] at hb2
 rw [List.take_of_length_le (show r.pods.length ≤ i by omega)] at hq2 hfm ⊢
 refine AC_exit ?_
 refine AC_seq (AC_region ?_)
 refine mv rfl rfl rfl rfl ?_
 refine fl 6 ?_
 refine ld 0 ?_
 refine p_ (by first | exact S_lenM (e := 74) rfl (.tmp rfl) (by kernel_rfl) | exact S_len (e := 74) rfl (.tmp rfl) (by kernel_rfl)) ?_
 refine s_ (S_call rfl (AEvs.cons (.tmp rfl) (AEvs.cons (.tmp rfl) AEvs.nil)) (ACalls.preQ (pre := [_]) (F := F) (w_NumN b u2 q2 _ c hq2 (by first | omega | (refine Nat.le_trans (Nat.add_le_add_right (wput_len _ _ _) _) ?_; (try simp only [List.length_append]); omega)) (r.use.length : Int) (by omega) (by omega) _))) ?_
 rintro _ _ ⟨_, ⟨u2, q2, hq2, rfl, rfl⟩, rfl⟩
 rw [wput_wput] at hq2 ⊢
 refine AL_nil (AC_seq (AC_region ?_))
 refine fl 6 ?_
 refine ld 0 ?_
 refine p_ (by first | exact S_lenM (e := 74) rfl (.tmp rfl) (by kernel_rfl) | exact S_len (e := 74) rfl (.tmp rfl) (by kernel_rfl)) ?_
 refine p_ (S_move rfl (AEv.const _)) ?_
 refine AL_nil ?_
 refine AC_block ?_
 refine AC_loopK (G := Nat × Bool × Buf) [(0, _), (50, _), (51, _)] (fun g => g.1 ≤ r.use.length ∧ g.2.2.ok (wput c l ((((((((numB r.code ++ numB r.uid) ++ numB r.id) ++ putL r.rev) ++ textB r.data) ++ numB (r.pods.length : Int)) ++ r.pods.flatMap podB) ++ numB (r.use.length : Int)) ++ (r.use.take g.1).flatMap triB))) (fun g => [(52, .int .i64 (g.1 : Int))]) (fun g => (b3, .cells (repL r)) :: (((b, .cells [addrB g.2.1 b 112 3, bufAV g.2.2 (wput c l ((((((((numB r.code ++ numB r.uid) ++ numB r.id) ++ putL r.rev) ++ textB r.data) ++ numB (r.pods.length : Int)) ++ r.pods.flatMap podB) ++ numB (r.use.length : Int)) ++ (r.use.take g.1).flatMap triB)), .int .i64 (c)]) :: bufSt g.2.2 5 (wput c l ((((((((numB r.code ++ numB r.uid) ++ numB r.id) ++ putL r.rev) ++ textB r.data) ++ numB (r.pods.length : Int)) ++ r.pods.flatMap podB) ++ numB (r.use.length : Int)) ++ (r.use.take g.1).flatMap triB))) ++ F)) (fun g => r.use.length - g.1) ((0, u2, q2)) (⟨Nat.zero_le _, by simpa using hq2⟩) (by simp only [List.take_zero, List.flatMap_nil, List.append_nil]; exact (Sub.l (List.Sublist.refl _))) (.cons rfl (Le.refl _) (.cons rfl (Le.refl _) (.cons rfl (Le.refl _) .nil))) (.cons rfl (by first | exact Le.refl _ | exact Le.nils | exact Le.row _ _ _ _ | exact Le.of_eq (by first | rfl | (simp; done) | (push_cast; rfl) | (simp; omega))) .nil) ?_
 rintro ⟨j, u2, q2⟩ ⟨hj, hq2⟩
 try dsimp only
 simp only [List.cons_append, List.nil_append]
 dsimp only at hj hq2
 have hfm := flatB_len (e := triB) (B := 30) (l := r.use.take j) fun p hp => triB_len (hr9 p (List.mem_of_mem_take hp))
 rw [List.length_take, show min j r.use.length = j by omega] at hfm
 refine AC_seq (AC_region ?_)
 refine p_ (S_lss rfl (.tmp rfl) (.tmp rfl)) ?_
 refine AL_nil ?_
 refine AC_seq ?_
 refine AC_cond (.tmp rfl) (fun hb4 => ?_) (fun hb4 => ?_)
 ·try simp only [zA,zO,zN,zM,zP,zQ,zD,zF,gd] at hb4
  have hjl : j < r.use.length := by omega
  have hu1 := hr9 _ (List.getElem_mem hjl)
  have hu2 := hu1.1
  have hu3 := hu1.2.1
  have hu4 := hu1.2.2
  unfold MR at hu2 hu3 hu4
  have m1 := numB_len (n := (r.use[j]'hjl).1) (by omega)
  have m2 := numB_len (n := (r.use[j]'hjl).2.1) (by omega)
  have m3 := numB_len (n := (r.use[j]'hjl).2.2) (by omega)
  refine AC_skip ?_
  refine AC_seq ?_
  refine AC_block ?_
  refine AC_seq (AC_region ?_)
  refine p_ (S_elemN (e := 74) 3 rfl (.tmp rfl) (.tmp rfl) (by kernel_rfl) (by kernel_rfl) (by omega) (fun _ => rfl)) ?_
  refine p_ (S_loadPN (m := 3) rfl (.tmp rfl) (by kernel_rfl) (by first | exact Nat.le_of_ble_eq_true rfl | (simp; omega) | simp)) ?_
  refine s_ (S_alloc [.int .i64 0, .int .i64 0, .int .i64 0] rfl (by kernel_rfl)) ?_
  rintro _ _ ⟨b7, rfl, rfl⟩
  refine stW 0 ?_
  refine AL_nil (AC_seq (AC_region ?_))
  refine mv rfl rfl rfl rfl ?_
  refine fl 0 ?_
  refine ld 0 ?_
  refine s_ (S_call rfl (AEvs.cons (.tmp rfl) (AEvs.cons (.tmp rfl) AEvs.nil)) (ACalls.preQ (pre := [_, _]) (F := F) (w_NumN b u2 q2 _ c hq2 (by first | omega | (refine Nat.le_trans (Nat.add_le_add_right (wput_len _ _ _) _) ?_; (try simp only [List.length_append]); omega)) (r.use[j]'hjl).1 (by omega) (by omega) _))) ?_
  rintro _ _ ⟨_, ⟨u2, q2, hq2, rfl, rfl⟩, rfl⟩
  rw [wput_wput] at hq2 ⊢
  refine AL_nil (AC_seq (AC_region ?_))
  refine mv rfl rfl rfl rfl ?_
  refine fl 1 ?_
  refine ld 0 ?_
  refine s_ (S_call rfl (AEvs.cons (.tmp rfl) (AEvs.cons (.tmp rfl) AEvs.nil)) (ACalls.preQ (pre := [_, _]) (F := F) (w_NumN b u2 q2 _ c hq2 (by first | omega | (refine Nat.le_trans (Nat.add_le_add_right (wput_len _ _ _) _) ?_; (try simp only [List.length_append]); omega)) (r.use[j]'hjl).2.1 (by omega) (by omega) _))) ?_
  rintro _ _ ⟨_, ⟨u2, q2, hq2, rfl, rfl⟩, rfl⟩
  rw [wput_wput] at hq2 ⊢
  refine AL_nil ?_
  refine AC_region ?_
  refine mv rfl rfl rfl rfl ?_
  refine fl 2 ?_
  refine ld 0 ?_
  refine s_ (S_call rfl (AEvs.cons (.tmp rfl) (AEvs.cons (.tmp rfl) AEvs.nil)) (ACalls.preQ (pre := [_, _]) (F := F) (w_NumN b u2 q2 _ c hq2 (by first | omega | (refine Nat.le_trans (Nat.add_le_add_right (wput_len _ _ _) _) ?_; (try simp only [List.length_append]); omega)) (r.use[j]'hjl).2.2 (by omega) (by omega) _))) ?_
  rintro _ _ ⟨_, ⟨u2, q2, hq2, rfl, rfl⟩, rfl⟩
  rw [wput_wput] at hq2 ⊢
  rw [triB_app] at hq2 ⊢
  refine AL_nil ?_
  refine AC_region ?_
  refine p_ (S_addI rfl (.tmp rfl) (AEv.const _) (by omega) (by omega)) ?_
  refine mv rfl rfl rfl rfl ?_
  refine AL_nil ?_
  refine ⟨(j + 1, u2, q2), ⟨by dsimp only; omega, by dsimp only; rw [flatB_next hjl]; exact hq2⟩, by dsimp only; omega, by dsimp only; rw [flatB_next hjl]; exact (Sub.l (List.sublist_cons_self _ _)), (.cons rfl (by first | exact Le.refl _ | exact Le.nils | exact Le.row _ _ _ _ | exact Le.of_eq (by first | rfl | (simp; done) | (push_cast; rfl) | (simp; omega))) .nil), (.cons rfl (Le.refl _) (.cons rfl (Le.refl _) (.cons rfl (Le.refl _) .nil)))⟩
 try simp only [zA,zO,zN,zM,zP,zQ,zD,zF,gd] at hb4
 rw [List.take_of_length_le (show r.use.length ≤ j by omega)] at hq2 hfm ⊢
 rw [replyB_assoc] at hq2 ⊢
 refine AC_exit ?_
 refine ret_none (((b, .cells [addrB u2 b 112 3, bufAV q2 (wput c l (replyB r)), .int .i64 (c)]) :: bufSt q2 5 (wput c l (replyB r))) ++ F) rfl (Sub.l (List.sublist_cons_self _ _)) ⟨_, ⟨u2, q2, hq2, rfl, rfl⟩, rfl⟩ (.inr rfl)
set_option maxHeartbeats 2000000 in
theorem tell_Bytes_ok (m : Msg) (hm : ShortM m) (hu : MsgU m) : GCalls Tryz.prog tabs 9 [msgAV m] (.tup [.S (if checkM m = 0 then msgB m else []), .int .i64 (checkM m)]) := by
 intro st hG
 refine co 54 Tryz.func9 ?_
 refine AC_seq (AC_region ?_)
 refine s_ (S_box rfl (.tmp rfl)) ?_
 rintro _ _ ⟨b1, rfl, rfl⟩
 refine p_ (S_assign rfl (AEv.S _)) ?_
 refine ac rfl rfl rfl ?_
 refine AL_nil ?_
 refine AC_seq ?_
 refine AC_seq (AC_region ?_)
 refine ldN 24 0 ?_
 refine p_ (S_gcall rfl (AEvs.cons (y := msgAV m) (.tmp rfl) AEvs.nil) ((tell_Check_ok m hm) _ (fun p hp => by repeat (first | exact hG p hp | refine List.mem_cons_of_mem _ ?_ | refine List.mem_append_right _ ?_)))) ?_
 refine as_ rfl rfl rfl rfl ?_
 refine AL_nil (AC_seq (AC_region ?_))
 refine mv rfl rfl rfl rfl ?_
 refine p_ (S_neq rfl (.tmp rfl) (AEv.const _)) ?_
 refine AL_nil ?_
 refine AC_cond (.tmp rfl) (fun hb2 => ?_) (fun hb2 => ?_)
 ·try simp only [zA,zO,zN,zM,zP,zQ,zD,zF,gd] at hb2
  have hk : ¬ checkM m = 0 := by simpa using hb2
  refine AC_seq (AC_region ?_)
  refine mv rfl rfl rfl rfl ?_
  refine p_ (S_assign rfl (AEv.S _)) ?_
  refine as_ rfl rfl rfl rfl ?_
  refine AL_nil (AC_ret ?_)
  refine ret_tmps (ts := [2, 3]) st rfl (by decide) rfl (Sub.l (List.sublist_cons_self _ _)) (Conv.refl (Sub.l (List.sublist_cons_self _ _)) _) ⟨by rw [if_neg hk] <;> rfl, rfl⟩ (.inl rfl)
 try simp only [zA,zO,zN,zM,zP,zQ,zD,zF,gd] at hb2
 have hk : checkM m = 0 := by simpa using hb2
 obtain ⟨hmay, hk1, hk2⟩ := msg_kinds hu hk
 have nk := numB_len (n := m.kind) (by omega)
 have nn := numB_len (n := m.num) (by omega)
 have h00 : ([] : List UInt8).length = 0 := rfl
 refine AC_skip ?_
 refine AC_seq (AC_region ?_)
 refine s_ (S_call rfl AEvs.nil (wire_Write_ok _)) ?_
 rintro _ _ ⟨_, ⟨b4, rfl, rfl⟩, rfl⟩
 refine as_ rfl rfl rfl rfl ?_
 refine AL_nil (AC_seq (AC_region ?_))
 refine mv rfl rfl rfl rfl ?_
 refine fl 0 ?_
 refine ld 1 ?_
 refine s_ (S_call rfl (AEvs.cons (.tmp rfl) (AEvs.cons (.tmp rfl) AEvs.nil)) (w_NumN b4 false .nil [] 0 rfl (by decide) m.kind (by omega) (by omega) _)) ?_
 rintro _ _ ⟨_, ⟨u2, q2, hq2, rfl, rfl⟩, rfl⟩
 refine AL_nil (AC_seq (AC_region ?_))
 refine mv rfl rfl rfl rfl ?_
 refine fl 1 ?_
 refine p_ (S_loadM rfl (.tmp rfl) (by repeat (first | exact List.mem_cons_self | refine List.mem_append_right _ ?_ | refine List.mem_cons_of_mem _ ?_)) rfl (by kernel_rfl)) ?_
 refine s_ (S_call rfl (AEvs.cons (.tmp rfl) (AEvs.cons (.tmp rfl) AEvs.nil)) (w_NumN b4 u2 q2 _ 0 hq2 (by first | omega | (refine Nat.le_trans (Nat.add_le_add_right (wput_len _ _ _) _) ?_; (try simp only [List.length_append]); omega)) m.num (by omega) (by omega) _)) ?_
 rintro _ _ ⟨_, ⟨u2, q2, hq2, rfl, rfl⟩, rfl⟩
 rw [wput_wput] at hq2 ⊢
 refine AL_nil ?_
 refine AC_seq ?_
 refine AC_seq (AC_region ?_)
 refine fl 0 ?_
 refine p_ (S_loadM rfl (.tmp rfl) (by repeat (first | exact List.mem_cons_self | refine List.mem_append_right _ ?_ | refine List.mem_cons_of_mem _ ?_)) rfl (by kernel_rfl)) ?_
 refine p_ (S_eql rfl (.tmp rfl) (AEv.const _)) ?_
 refine AL_nil ?_
 refine AC_cond (.tmp rfl) (fun hb3 => ?_) (fun hb3 => ?_)
 ·try simp only [zA,zO,zN,zM,zP,zQ,zD,zF,gd] at hb3
  have h1 : m.kind = 1 := by omega
  have hr0 := msg_reply hu hmay h1
  refine AC_seq (AC_region ?_)
  refine mv rfl rfl rfl rfl ?_
  refine fl 2 ?_
  refine p_ (S_loadNM (m := 7) rfl (.tmp rfl) (by repeat (first | exact List.mem_cons_self | refine List.mem_append_right _ ?_ | refine List.mem_cons_of_mem _ ?_)) (by kernel_rfl) (by first | exact Nat.le_of_ble_eq_true rfl | (simp; omega) | simp)) ?_
  refine s_ (S_call rfl (AEvs.cons (.tmp rfl) (AEvs.cons (.tmp rfl) AEvs.nil)) (tell_putReply_ok b4 u2 q2 _ 0 hq2 (by first | omega | (refine Nat.le_trans (Nat.add_le_add_right (wput_len _ _ _) _) ?_; (try simp only [List.length_append]); omega)) m.reply hr0.1 hm.1 hr0.2 _ (fun r hr => List.mem_cons_of_mem _ (hG r hr)))) ?_
  rintro _ _ ⟨_, ⟨u2, q2, hq2, rfl, rfl⟩, rfl⟩
  rw [wput_wput] at hq2 ⊢
  refine AL_nil (AC_seq (AC_region ?_))
  refine mv rfl rfl rfl rfl ?_
  refine s_ (S_call rfl (AEvs.cons (.tmp rfl) AEvs.nil) (w_End_ok b4 u2 q2 _ _ hq2 _)) ?_
  rintro _ _ ⟨_, ⟨cs2, rfl, rfl⟩, rfl⟩
  refine ex 0 ?_
  refine ex 1 ?_
  refine as_ rfl rfl rfl rfl ?_
  refine as_ rfl rfl rfl rfl ?_
  refine AL_nil (AC_ret ?_)
  refine ret_tmps (ts := [2, 3]) st rfl (by decide) rfl (Sub.l ((List.sublist_cons_self _ _).trans (List.sublist_cons_self _ _))) (Conv.refl (Sub.l ((List.sublist_cons_self _ _).trans (List.sublist_cons_self _ _))) _) ⟨by rw [if_pos hk, hk, ← msgB_reply h1] <;> rfl, rfl⟩ (.inl rfl)
 try simp only [zA,zO,zN,zM,zP,zQ,zD,zF,gd] at hb3
 have h2 : m.kind = 2 := by omega
 obtain ⟨he1, he2, he3⟩ := msg_event hu hmay h2
 have ne := numB_len (n := m.event.kind) (by omega)
 have nv := putL_few m.event.rev he2
 refine AC_skip ?_
 refine AC_seq (AC_region ?_)
 refine mv rfl rfl rfl rfl ?_
 refine fl 9 ?_
 refine fl 0 ?_
 refine p_ (S_loadM rfl (.tmp rfl) (by repeat (first | exact List.mem_cons_self | refine List.mem_append_right _ ?_ | refine List.mem_cons_of_mem _ ?_)) rfl (by kernel_rfl)) ?_
 refine s_ (S_call rfl (AEvs.cons (.tmp rfl) (AEvs.cons (.tmp rfl) AEvs.nil)) (w_NumN b4 u2 q2 _ 0 hq2 (by first | omega | (refine Nat.le_trans (Nat.add_le_add_right (wput_len _ _ _) _) ?_; (try simp only [List.length_append]); omega)) m.event.kind (by omega) (by omega) _)) ?_
 rintro _ _ ⟨_, ⟨u2, q2, hq2, rfl, rfl⟩, rfl⟩
 rw [wput_wput] at hq2 ⊢
 refine AL_nil (AC_seq (AC_region ?_))
 refine mv rfl rfl rfl rfl ?_
 refine fl 9 ?_
 refine fl 1 ?_
 refine p_ (S_loadM rfl (.tmp rfl) (by repeat (first | exact List.mem_cons_self | refine List.mem_append_right _ ?_ | refine List.mem_cons_of_mem _ ?_)) rfl (by kernel_rfl)) ?_
 refine s_ (S_call rfl (AEvs.cons (.tmp rfl) (AEvs.cons (.tmp rfl) AEvs.nil)) (w_Big_ok b4 u2 q2 _ 0 hq2 m.event.rev he2 (by first | omega | (refine Nat.le_trans (Nat.add_le_add_right (wput_len _ _ _) _) ?_; (try simp only [List.length_append]); omega)) _)) ?_
 rintro _ _ ⟨_, ⟨u2, q2, hq2, rfl, rfl⟩, rfl⟩
 rw [wput_wput] at hq2 ⊢
 refine AL_nil ?_
 refine AC_seq ?_
 refine AC_seq (AC_region ?_)
 refine fl 9 ?_
 refine fl 0 ?_
 refine p_ (S_loadM rfl (.tmp rfl) (by repeat (first | exact List.mem_cons_self | refine List.mem_append_right _ ?_ | refine List.mem_cons_of_mem _ ?_)) rfl (by kernel_rfl)) ?_
 refine p_ (S_pcall rfl (AEvs.cons (.tmp rfl) AEvs.nil) (tell_whole_ok m.event.kind)) ?_
 refine AL_nil ?_
 refine AC_cond (.tmp rfl) (fun hb4 => ?_) (fun hb4 => ?_)
 ·try simp only [zA,zO,zN,zM,zP,zQ,zD,zF,gd] at hb4
  have hw : wholeB m.event.kind = true := hb4
  refine AC_region ?_
  refine mv rfl rfl rfl rfl ?_
  refine fl 9 ?_
  refine fl 2 ?_
  refine p_ (S_loadNM (m := 13) rfl (.tmp rfl) (by repeat (first | exact List.mem_cons_self | refine List.mem_append_right _ ?_ | refine List.mem_cons_of_mem _ ?_)) (by kernel_rfl) (by first | exact Nat.le_of_ble_eq_true rfl | (simp; omega) | simp)) ?_
  refine s_ (S_call rfl (AEvs.cons (.tmp rfl) (AEvs.cons (.tmp rfl) AEvs.nil)) (tell_putPod_ok b4 u2 q2 _ 0 hq2 (by first | omega | (refine Nat.le_trans (Nat.add_le_add_right (wput_len _ _ _) _) ?_; (try simp only [List.length_append]); omega)) m.event.pod (he3 hw).1 hm.2 (he3 hw).2 _ (fun r hr => List.mem_cons_of_mem _ (hG r hr)))) ?_
  rintro _ _ ⟨_, ⟨u2, q2, hq2, rfl, rfl⟩, rfl⟩
  rw [wput_wput] at hq2 ⊢
  refine AL_nil (AC_seq (AC_region ?_))
  refine mv rfl rfl rfl rfl ?_
  refine s_ (S_call rfl (AEvs.cons (.tmp rfl) AEvs.nil) (w_End_ok b4 u2 q2 _ _ hq2 _)) ?_
  rintro _ _ ⟨_, ⟨cs2, rfl, rfl⟩, rfl⟩
  refine ex 0 ?_
  refine ex 1 ?_
  refine as_ rfl rfl rfl rfl ?_
  refine as_ rfl rfl rfl rfl ?_
  refine AL_nil (AC_ret ?_)
  refine ret_tmps (ts := [2, 3]) st rfl (by decide) rfl (Sub.l ((List.sublist_cons_self _ _).trans (List.sublist_cons_self _ _))) (Conv.refl (Sub.l ((List.sublist_cons_self _ _).trans (List.sublist_cons_self _ _))) _) ⟨by rw [if_pos hk, hk, ← msgB_whole h2 hw] <;> rfl, rfl⟩ (.inl rfl)
 try simp only [zA,zO,zN,zM,zP,zQ,zD,zF,gd] at hb4
 have hw : ¬ wholeB m.event.kind = true := by simpa using hb4
 refine AC_skip ?_
 refine AC_seq (AC_region ?_)
 refine mv rfl rfl rfl rfl ?_
 refine s_ (S_call rfl (AEvs.cons (.tmp rfl) AEvs.nil) (w_End_ok b4 u2 q2 _ _ hq2 _)) ?_
 rintro _ _ ⟨_, ⟨cs2, rfl, rfl⟩, rfl⟩
 refine ex 0 ?_
 refine ex 1 ?_
 refine as_ rfl rfl rfl rfl ?_
 refine as_ rfl rfl rfl rfl ?_
 refine AL_nil (AC_ret ?_)
 refine ret_tmps (ts := [2, 3]) st rfl (by decide) rfl (Sub.l ((List.sublist_cons_self _ _).trans (List.sublist_cons_self _ _))) (Conv.refl (Sub.l ((List.sublist_cons_self _ _).trans (List.sublist_cons_self _ _))) _) ⟨by rw [if_pos hk, hk, ← msgB_mark h2 hw] <;> rfl, rfl⟩ (.inl rfl)
end Go.Proofs.YtemmkkmpchphkaaGreatDoor

set_option maxRecDepth 100000
namespace Go.Proofs.YtemmkkmpchphkaaGreatDoor
open Go.AL Go.NumSpec
set_option maxHeartbeats 2000000 in
theorem tell_takePod_ok (b : Nat) (s : List UInt8) (c : Int) (F : St) : ACalls Tryz.prog 49 [.ptr b 0] ([(b, Ob.cells [.S (s), .int .i64 (c)])] ++ F) (fun x st' => ∃ foot', (x = podAV (podRd s c).1 ∧ foot' = [(b, Ob.cells [.S ((podRd s c).2.1), .int .i64 ((podRd s c).2.2)])]) ∧ st' = foot' ++ F) := by
 refine co 34 Tryz.func49 ?_
 refine AC_seq (AC_region ?_)
 refine s_ (S_alloc [.int .i64 0, .int .u64 0, .string ⟨#[]⟩, .slice none 0 0, .slice none 0 0, .slice none 0 0, .int .i64 0, .int .i64 0, .int .i64 0, .int .i64 0, .slice none 0 0, .int .i64 0, .int .i64 0] rfl (by kernel_rfl)) ?_
 rintro _ _ ⟨b2, rfl, rfl⟩
 refine AL_nil (AC_seq (AC_region ?_))
 refine mv rfl rfl rfl rfl ?_
 refine s_ (S_call rfl (AEvs.cons (.tmp rfl) (AEvs.cons (AEv.const _) AEvs.nil)) (ACalls.preQ (pre := [_]) (F := _) (r_Num_ok b _ _ 1073741824 (by decide) _))) ?_
 rintro _ _ ⟨_, ⟨rfl, rfl⟩, rfl⟩
 generalize h1 : numR s c 1073741824 = r1
 refine mv rfl rfl rfl rfl ?_
 refine s_ (S_call rfl (AEvs.cons (.tmp rfl) AEvs.nil) (ACalls.preQ (pre := [_]) (F := _) (r_Big_ok b _ _ _))) ?_
 rintro _ _ ⟨_, ⟨rfl, rfl⟩, rfl⟩
 generalize h2 : bigR r1.2.1 r1.2.2 = r2
 refine mv rfl rfl rfl rfl ?_
 refine s_ (S_call rfl (AEvs.cons (.tmp rfl) AEvs.nil) (ACalls.preQ (pre := [_]) (F := _) (pack_Raw_ok b _ _ _))) ?_
 rintro _ _ ⟨_, ⟨rfl, rfl⟩, rfl⟩
 have hl3 := lightS_out (spcRd_light r2.2.1 r2.2.2)
 generalize h3 : spcRd r2.2.1 r2.2.2 = r3
 rw [h3] at hl3
 refine mv rfl rfl rfl rfl ?_
 refine s_ (S_call rfl (AEvs.cons (.tmp rfl) (AEvs.cons (AEv.const _) AEvs.nil)) (ACalls.preQ (pre := [_]) (F := _) (r_Num_ok b _ _ 4 (by decide) _))) ?_
 rintro _ _ ⟨_, ⟨rfl, rfl⟩, rfl⟩
 generalize h4 : numR r3.2.1 r3.2.2 4 = r4
 have hml := hl3.2.2.2.1
 refine p_ (S_build (t := 34) (pl := [(0, 1), (1, 1), (2, 7), (9, 1), (10, 1), (11, 1), (12, 1)]) (zs := [.int .i64 0, .int .u64 0, .string ⟨#[]⟩, .slice none 0 0, .slice none 0 0, .slice none 0 0, .int .i64 0, .int .i64 0, .int .i64 0, .int .i64 0, .slice none 0 0, .int .i64 0, .int .i64 0]) rfl (AEvs.cons (.tmp rfl) (AEvs.cons (.tmp rfl) (AEvs.cons (.tmp rfl) (AEvs.cons (.tmp rfl) AEvs.nil)))) (by kernel_rfl) rfl) ?_
 refine s_ (S_alloc [.int .i64 0, .int .u64 0, .string ⟨#[]⟩, .slice none 0 0, .slice none 0 0, .slice none 0 0, .int .i64 0, .int .i64 0, .int .i64 0, .int .i64 0, .slice none 0 0, .int .i64 0, .int .i64 0] rfl (by kernel_rfl)) ?_
 rintro _ _ ⟨b3, rfl, rfl⟩
 refine s_ (S_storeW 0 rfl (.tmp rfl) ((AEv.tmp rfl).le (z := .agg [.int .i64 r1.1, .int .u64 (r2.1 : Int), .S r3.1.name, .sl (labsV r3.1.labels), .sl (ctrsV r3.1.init), .sl (ctrsV r3.1.main), .int .i64 r3.1.restart, .int .i64 r3.1.grace, .int .i64 r3.1.prio, .int .i64 r4.1, .nils, .int .i64 0, .int .i64 0]) (by exact (Les.agg (.cons (Le.refl _) (.cons (Le.refl _) (.cons (Le.refl _) (.cons (Le.refl _) (.cons (Le.refl _) (.cons (Le.refl _) (.cons (Le.refl _) (.cons (Le.refl _) (.cons (Le.refl _) (.cons (Le.refl _) (.cons (Le.refl _) (.cons (Le.refl _) (.cons (Le.refl _) .nil)))))))))))))))) rfl rfl rfl (by kernel_rfl)) ?_
 rintro _ _ ⟨rfl, rfl⟩
 refine AL_nil ?_
 refine AC_seq ?_
 refine AC_seq (AC_region ?_)
 refine fl 2 ?_
 refine fl 3 ?_
 refine ld 0 ?_
 refine p_ (by first | exact S_lenM (e := 150) rfl (.tmp rfl) (by kernel_rfl) | exact S_len (e := 150) rfl (.tmp rfl) (by kernel_rfl)) ?_
 refine p_ (S_move rfl (AEv.const _)) ?_
 refine AL_nil ?_
 refine AC_block ?_
 refine AC_loopK (G := Nat × Own) [(0, _), (2, _), (3, _), (16, _)] (fun g => g.1 ≤ r3.1.main.length ∧ g.2.ok (intsV (repR uidRd g.1 r4.2.1 r4.2.2).1)) (fun g => [(17, .int .i64 (g.1 : Int))]) (fun g => (b3, .cells [.int .i64 r1.1, .int .u64 (r2.1 : Int), .S r3.1.name, .sl (labsV r3.1.labels), .sl (ctrsV r3.1.init), .sl (ctrsV r3.1.main), .int .i64 r3.1.restart, .int .i64 r3.1.grace, .int .i64 r3.1.prio, .int .i64 r4.1, ownAV g.2 1 (intsV (repR uidRd g.1 r4.2.1 r4.2.2).1), .int .i64 0, .int .i64 0]) :: (b2, .cells [.int .i64 0, .int .u64 0, .S [], .nils, .nils, .nils, .int .i64 0, .int .i64 0, .int .i64 0, .int .i64 0, .nils, .int .i64 0, .int .i64 0]) :: (b, .cells [.S (repR uidRd g.1 r4.2.1 r4.2.2).2.1, .int .i64 (repR uidRd g.1 r4.2.1 r4.2.2).2.2]) :: (ownSt g.2 3 1 (intsV (repR uidRd g.1 r4.2.1 r4.2.2).1) ++ F)) (fun g => r3.1.main.length - g.1) ((0, .nil)) (⟨Nat.zero_le _, rfl⟩) (Sub.l (List.Sublist.refl _)) (.cons rfl (Le.refl _) (.cons rfl (Le.refl _) (.cons rfl (Le.refl _) (.cons rfl (Le.refl _) .nil)))) (.cons rfl (by first | exact Le.refl _ | exact Le.nils | exact Le.row _ _ _ _ | exact Le.of_eq (by first | rfl | (simp; done) | (push_cast; rfl) | (simp; omega))) .nil) ?_
 rintro ⟨i, p⟩ ⟨hi, hq⟩
 try dsimp only
 simp only [List.cons_append, List.nil_append]
 dsimp only at hi hq
 have hrl := repR_len uidRd i r4.2.1 r4.2.2
 refine AC_seq (AC_region ?_)
 refine p_ (S_lss rfl (.tmp rfl) (.tmp rfl)) ?_
 refine AL_nil ?_
 refine AC_seq ?_
 refine AC_cond (.tmp rfl) (fun hb3 => ?_) (fun hb3 => ?_)
 ·try simp only [zA,zO,zN,zM,zP,zQ,zD,zF,gd] at hb3
  have hil : i < r3.1.main.length := by first | omega | (have h9 := hb3; simp [ctrsV] at h9; omega)
  refine AC_skip ?_
  refine AC_seq ?_
  refine AC_block ?_
  refine AC_plan (σ := [(0, 0), (1, 0), (2, 0), (3, 1), (4, 0), (5, 2), (6, 0), (7, 2)]) (by kernel_rfl) [_] (by kernel_rfl) (fun r hr => List.mem_append_left _ hr) ?_
  refine AG.f rfl rfl (fun st' hst => Q_p rfl (S_field 10 rfl (.tmp rfl) (by kernel_rfl))) ?_
  refine AG.f rfl rfl (fun st' hst => Q_p rfl (S_loadM rfl (.tmp rfl) (hst _ (List.mem_of_getElem? (i := 0) rfl)) rfl (by kernel_rfl))) ?_
  refine AG.f rfl rfl (fun st' hst => Q_p rfl (S_move rfl (.tmp rfl))) ?_
  refine AG.s rfl rfl rfl (S_call rfl (AEvs.cons (.tmp rfl) (AEvs.cons (AEv.const _) AEvs.nil)) (ACalls.preQ (pre := [_, _]) (F := _) (r_Num_ok b _ _ 1073741824 (by decide) _))) ?_ ?_
  ·rintro _ _ ⟨_, ⟨rfl, rfl⟩, rfl⟩ r hr; rw [List.mem_singleton.1 hr]; exact List.mem_cons_self
  rintro _ _ ⟨_, ⟨rfl, rfl⟩, rfl⟩
  refine AG.f rfl rfl (fun st' hst => Q_p rfl (S_buildSlice (e := 3) 1 rfl (AEvs.cons (.tmp rfl) AEvs.nil) rfl (by kernel_rfl) (by kernel_rfl) (by intro y hy; simp only [List.mem_cons, List.not_mem_nil, or_false] at hy; rcases hy with rfl <;> exact ⟨rfl, rfl⟩) (by decide) (by decide) (by decide))) ?_
  refine AG.h rfl rfl rfl (S_appendM (f := (fun n : Int => AV.int .i64 n)) (l := (repR uidRd i r4.2.1 r4.2.2).1) (l2 := [(uidRd (repR uidRd i r4.2.1 r4.2.2).2.1 (repR uidRd i r4.2.1 r4.2.2).2.2).1]) (e := 3) (size := 1) (bytes := 8) (p := p) ([_, _, _]) (F) rfl (.tmp rfl) (.tmp rfl) rfl hq (by kernel_rfl) (by simp) (fun _ => ⟨rfl, rfl⟩) (by simp only [List.length_singleton]; omega) (by simp only [List.length_singleton]; omega)) ?_
  rintro _ _ ⟨b8, k8, cap8, hx8, rfl, rfl⟩
  refine AG.f rfl rfl (fun st' hst => Q_p rfl (S_field 10 rfl (.tmp rfl) (by kernel_rfl))) ?_
  refine AG.h rfl rfl rfl (S_store 0 rfl (.tmp rfl) (.tmp rfl) rfl (by first | exact Nat.le_of_ble_eq_true rfl | simp) (by first | rfl | exact ownAV_one _ _ _) (by kernel_rfl)) ?_
  rintro _ _ ⟨rfl, rfl⟩
  refine AG.nil ?_
  refine AC_region ?_
  refine p_ (S_addI rfl (.tmp rfl) (AEv.const _) (by omega) (by omega)) ?_
  refine mv rfl rfl rfl rfl ?_
  refine AL_nil ?_
  refine ⟨(i + 1, .row b8 k8 cap8), ⟨by dsimp only; omega, by dsimp only; rw [repR_snoc]; exact hx8⟩, by dsimp only; omega, by dsimp only; rw [repR_snoc]; exact (Sub.l (List.Sublist.refl _)), (.cons rfl (by first | exact Le.refl _ | exact Le.nils | exact Le.row _ _ _ _ | exact Le.of_eq (by first | rfl | (simp; done) | (push_cast; rfl) | (simp; omega))) .nil), (.cons rfl (Le.refl _) (.cons rfl (Le.refl _) (.cons rfl (Le.refl _) (.cons rfl (Le.refl _) .nil))))⟩
 try simp only [zA,zO,zN,zM,zP,zQ,zD,zF,gd] at hb3
 obtain rfl : i = r3.1.main.length := by first | omega | (have h9 := hb3; simp [ctrsV] at h9; omega)
 refine AC_exit ?_
 refine AC_seq (AC_region ?_)
 refine mv rfl rfl rfl rfl ?_
 refine s_ (S_call rfl (AEvs.cons (.tmp rfl) (AEvs.cons (AEv.const _) AEvs.nil)) (ACalls.preQ (pre := [_, _]) (F := _) (r_Num_ok b _ _ 2 (by decide) _))) ?_
 rintro _ _ ⟨_, ⟨rfl, rfl⟩, rfl⟩
 generalize h5 : numR (repR uidRd r3.1.main.length r4.2.1 r4.2.2).2.1 (repR uidRd r3.1.main.length r4.2.1 r4.2.2).2.2 2 = r5
 refine fl 11 ?_
 refine st1 0 ?_
 refine AL_nil (AC_seq (AC_region ?_))
 refine mv rfl rfl rfl rfl ?_
 refine s_ (S_call rfl (AEvs.cons (.tmp rfl) (AEvs.cons (AEv.const _) AEvs.nil)) (ACalls.preQ (pre := [_, _]) (F := _) (r_Num_ok b _ _ 1000 (by decide) _))) ?_
 rintro _ _ ⟨_, ⟨rfl, rfl⟩, rfl⟩
 generalize h6 : numR r5.2.1 r5.2.2 1000 = r6
 refine fl 12 ?_
 refine st1 0 ?_
 refine AL_nil ?_
 refine AC_seq ?_
 refine AC_cells (n := 0) (ds := [.int .i64 r1.1, .int .u64 (r2.1 : Int), .S r3.1.name, .sl (labsV r3.1.labels), .sl (ctrsV r3.1.init), .sl (ctrsV r3.1.main), .int .i64 r3.1.restart, .int .i64 r3.1.grace, .int .i64 r3.1.prio, .int .i64 r4.1, .sl (intsV (repR uidRd r3.1.main.length r4.2.1 r4.2.2).1), .int .i64 r5.1, .int .i64 r6.1]) rfl (.cons (Le.refl _) (.cons (Le.refl _) (.cons (Le.refl _) (.cons (Le.refl _) (.cons (Le.refl _) (.cons (Le.refl _) (.cons (Le.refl _) (.cons (Le.refl _) (.cons (Le.refl _) (.cons (Le.refl _) (.cons (Le_own hq) (.cons (Le.refl _) (.cons (Le.refl _) .nil))))))))))))) ?_
 refine AC_region ?_
 refine ldN 13 0 ?_
 refine stW 1 ?_
 refine AL_nil (AC_ret ?_)
 refine ret_cell 1 ([(b, Ob.cells [.S (r6.2.1), .int .i64 (r6.2.2)])] ++ F) rfl rfl rfl (by kernel_rfl) (Sub.l (.cons _ (.cons _ (.cons_cons _ (List.sublist_append_right _ _))))) (Conv.refl (Sub.l (.cons _ (.cons _ (.cons_cons _ (List.sublist_append_right _ _))))) _) ⟨_, ⟨by subst h6 h5 h4 h3 h2 h1; rfl, by subst h6 h5 h4 h3 h2 h1; rfl⟩, rfl⟩ (.inl rfl)
set_option maxHeartbeats 2000000 in
theorem tell_takeReply_ok (b : Nat) (s : List UInt8) (c : Int) (F : St) : ACalls Tryz.prog 47 [.ptr b 0] ([(b, Ob.cells [.S (s), .int .i64 (c)])] ++ F) (fun x st' => ∃ foot', (x = .agg (repL (replyRd s c).1) ∧ foot' = [(b, Ob.cells [.S ((replyRd s c).2.1), .int .i64 ((replyRd s c).2.2)])]) ∧ st' = foot' ++ F) := by
 refine co 45 Tryz.func47 ?_
 refine AC_seq (AC_region ?_)
 refine s_ (S_alloc [.int .i64 0, .int .i64 0, .int .i64 0, .int .u64 0, .string ⟨#[]⟩, .slice none 0 0, .slice none 0 0] rfl (by kernel_rfl)) ?_
 rintro _ _ ⟨b2, rfl, rfl⟩
 refine AL_nil (AC_seq (AC_region ?_))
 refine mv rfl rfl rfl rfl ?_
 refine s_ (S_call rfl (AEvs.cons (.tmp rfl) (AEvs.cons (AEv.const _) AEvs.nil)) (ACalls.preQ (pre := [_]) (F := _) (r_Num_ok b _ _ 999 (by decide) _))) ?_
 rintro _ _ ⟨_, ⟨rfl, rfl⟩, rfl⟩
 generalize h1 : numR s c 999 = r1
 refine mv rfl rfl rfl rfl ?_
 refine s_ (S_call rfl (AEvs.cons (.tmp rfl) (AEvs.cons (AEv.const _) AEvs.nil)) (ACalls.preQ (pre := [_]) (F := _) (r_Num_ok b _ _ 1073741824 (by decide) _))) ?_
 rintro _ _ ⟨_, ⟨rfl, rfl⟩, rfl⟩
 generalize h2 : numR r1.2.1 r1.2.2 1073741824 = r2
 refine mv rfl rfl rfl rfl ?_
 refine s_ (S_call rfl (AEvs.cons (.tmp rfl) (AEvs.cons (AEv.const _) AEvs.nil)) (ACalls.preQ (pre := [_]) (F := _) (r_Num_ok b _ _ 1073741824 (by decide) _))) ?_
 rintro _ _ ⟨_, ⟨rfl, rfl⟩, rfl⟩
 generalize h3 : numR r2.2.1 r2.2.2 1073741824 = r3
 refine mv rfl rfl rfl rfl ?_
 refine s_ (S_call rfl (AEvs.cons (.tmp rfl) AEvs.nil) (ACalls.preQ (pre := [_]) (F := _) (r_Big_ok b _ _ _))) ?_
 rintro _ _ ⟨_, ⟨rfl, rfl⟩, rfl⟩
 generalize h4 : bigR r3.2.1 r3.2.2 = r4
 refine mv rfl rfl rfl rfl ?_
 refine s_ (S_call rfl (AEvs.cons (.tmp rfl) (AEvs.cons (AEv.const _) AEvs.nil)) (ACalls.preQ (pre := [_]) (F := _) (r_Text_ok b _ _ 32 (by decide) _))) ?_
 rintro _ _ ⟨_, ⟨rfl, rfl⟩, rfl⟩
 generalize h5 : wtextR r4.2.1 r4.2.2 32 = r5
 refine p_ (S_build (t := 27) (pl := [(0, 1), (1, 1), (2, 1), (3, 1), (4, 1), (5, 1), (6, 1)]) (zs := [.int .i64 0, .int .i64 0, .int .i64 0, .int .u64 0, .string ⟨#[]⟩, .slice none 0 0, .slice none 0 0]) rfl (AEvs.cons (.tmp rfl) (AEvs.cons (.tmp rfl) (AEvs.cons (.tmp rfl) (AEvs.cons (.tmp rfl) (AEvs.cons (.tmp rfl) AEvs.nil))))) (by kernel_rfl) rfl) ?_
 refine s_ (S_alloc [.int .i64 0, .int .i64 0, .int .i64 0, .int .u64 0, .string ⟨#[]⟩, .slice none 0 0, .slice none 0 0] rfl (by kernel_rfl)) ?_
 rintro _ _ ⟨b3, rfl, rfl⟩
 refine s_ (S_storeW 0 rfl (.tmp rfl) ((AEv.tmp rfl).le (z := .agg [.int .i64 r1.1, .int .i64 r2.1, .int .i64 r3.1, .int .u64 (r4.1 : Int), .S r5.1, .nils, .nils]) (by exact (Les.agg (.cons (Le.refl _) (.cons (Le.refl _) (.cons (Le.refl _) (.cons (Le.refl _) (.cons (Le.refl _) (.cons (Le.refl _) (.cons (Le.refl _) .nil)))))))))) rfl rfl rfl (by kernel_rfl)) ?_
 rintro _ _ ⟨rfl, rfl⟩
 refine AL_nil ?_
 refine AC_seq ?_
 refine AC_seq (AC_region ?_)
 refine mv rfl rfl rfl rfl ?_
 refine s_ (S_call rfl (AEvs.cons (.tmp rfl) (AEvs.cons (AEv.const _) AEvs.nil)) (ACalls.preQ (pre := [_, _]) (F := _) (r_Num_ok b _ _ 16 (by decide) _))) ?_
 rintro _ _ ⟨_, ⟨rfl, rfl⟩, rfl⟩
 have hn6 := numR_le (s := r5.2.1) (c := r5.2.2) (most := 16)
 have hz6 := numR_nonneg r5.2.1 r5.2.2 16
 generalize h6 : numR r5.2.1 r5.2.2 16 = r6
 rw [h6] at hn6 hz6
 refine p_ (S_move rfl (AEv.const _)) ?_
 refine AL_nil ?_
 refine AC_block ?_
 refine AC_loopK (G := Nat × Own) [(0, _), (2, _), (3, _), (16, _)] (fun g => g.1 ≤ r6.1.toNat ∧ g.2.ok (podsV (repR podRd g.1 r6.2.1 r6.2.2).1)) (fun g => [(17, .int .i64 (g.1 : Int))]) (fun g => (b3, .cells [.int .i64 r1.1, .int .i64 r2.1, .int .i64 r3.1, .int .u64 (r4.1 : Int), .S r5.1, ownAV g.2 13 (podsV (repR podRd g.1 r6.2.1 r6.2.2).1), .nils]) :: (b2, .cells [.int .i64 0, .int .i64 0, .int .i64 0, .int .u64 0, .S [], .nils, .nils]) :: (b, .cells [.S (repR podRd g.1 r6.2.1 r6.2.2).2.1, .int .i64 (repR podRd g.1 r6.2.1 r6.2.2).2.2]) :: (ownSt g.2 34 13 (podsV (repR podRd g.1 r6.2.1 r6.2.2).1) ++ F)) (fun g => r6.1.toNat - g.1) ((0, .nil)) (⟨Nat.zero_le _, rfl⟩) (Sub.l (List.Sublist.refl _)) (.cons rfl (Le.refl _) (.cons rfl (Le.refl _) (.cons rfl (Le.refl _) (.cons rfl (Le.refl _) .nil)))) (.cons rfl (by first | exact Le.refl _ | exact Le.nils | exact Le.row _ _ _ _ | exact Le.of_eq (by first | rfl | (simp; done) | (push_cast; rfl) | (simp; omega))) .nil) ?_
 rintro ⟨i, p⟩ ⟨hi, hq⟩
 try dsimp only
 simp only [List.cons_append, List.nil_append]
 dsimp only at hi hq
 have hrl := repR_len podRd i r6.2.1 r6.2.2
 refine AC_seq (AC_region ?_)
 refine p_ (S_lss rfl (.tmp rfl) (.tmp rfl)) ?_
 refine AL_nil ?_
 refine AC_seq ?_
 refine AC_cond (.tmp rfl) (fun hb3 => ?_) (fun hb3 => ?_)
 ·try simp only [zA,zO,zN,zM,zP,zQ,zD,zF,gd] at hb3
  have hil : i < r6.1.toNat := by omega
  refine AC_skip ?_
  refine AC_seq ?_
  refine AC_block ?_
  refine AC_plan (σ := [(0, 0), (1, 0), (2, 0), (3, 1), (4, 0), (5, 2), (6, 0), (7, 2)]) (by kernel_rfl) [_] (by kernel_rfl) (fun r hr => List.mem_append_left _ hr) ?_
  refine AG.f rfl rfl (fun st' hst => Q_p rfl (S_field 5 rfl (.tmp rfl) (by kernel_rfl))) ?_
  refine AG.f rfl rfl (fun st' hst => Q_p rfl (S_loadM rfl (.tmp rfl) (hst _ (List.mem_of_getElem? (i := 0) rfl)) rfl (by kernel_rfl))) ?_
  refine AG.f rfl rfl (fun st' hst => Q_p rfl (S_move rfl (.tmp rfl))) ?_
  refine AG.s rfl rfl rfl (S_call rfl (AEvs.cons (.tmp rfl) AEvs.nil) (ACalls.preQ (pre := [_, _]) (F := _) (tell_takePod_ok b _ _ _))) ?_ ?_
  ·rintro _ _ ⟨_, ⟨rfl, rfl⟩, rfl⟩ r hr; rw [List.mem_singleton.1 hr]; exact List.mem_cons_self
  rintro _ _ ⟨_, ⟨rfl, rfl⟩, rfl⟩
  refine AG.f rfl rfl (fun st' hst => Q_p rfl (S_buildSlice (e := 34) 13 rfl (AEvs.cons (.tmp rfl) AEvs.nil) rfl (by kernel_rfl) (by kernel_rfl) (by intro y hy; simp only [List.mem_cons, List.not_mem_nil, or_false] at hy; rcases hy with rfl <;> exact ⟨rfl, rfl⟩) (by decide) (by decide) (by decide))) ?_
  refine AG.h rfl rfl rfl (S_appendM (f := podAV) (l := (repR podRd i r6.2.1 r6.2.2).1) (l2 := [(podRd (repR podRd i r6.2.1 r6.2.2).2.1 (repR podRd i r6.2.1 r6.2.2).2.2).1]) (e := 34) (size := 13) (bytes := 176) (p := p) ([_, _, _]) (F) rfl (.tmp rfl) (.tmp rfl) rfl hq (by kernel_rfl) (by simp) (fun _ => ⟨rfl, rfl⟩) (by simp only [List.length_singleton]; omega) (by simp only [List.length_singleton]; omega)) ?_
  rintro _ _ ⟨b8, k8, cap8, hx8, rfl, rfl⟩
  refine AG.f rfl rfl (fun st' hst => Q_p rfl (S_field 5 rfl (.tmp rfl) (by kernel_rfl))) ?_
  refine AG.h rfl rfl rfl (S_store 0 rfl (.tmp rfl) (.tmp rfl) rfl (by first | exact Nat.le_of_ble_eq_true rfl | simp) (by first | rfl | exact ownAV_one _ _ _) (by kernel_rfl)) ?_
  rintro _ _ ⟨rfl, rfl⟩
  refine AG.nil ?_
  refine AC_region ?_
  refine p_ (S_addI rfl (.tmp rfl) (AEv.const _) (by omega) (by omega)) ?_
  refine mv rfl rfl rfl rfl ?_
  refine AL_nil ?_
  refine ⟨(i + 1, .row b8 k8 cap8), ⟨by dsimp only; omega, by dsimp only; rw [repR_snoc]; exact hx8⟩, by dsimp only; omega, by dsimp only; rw [repR_snoc]; exact (Sub.l (List.Sublist.refl _)), (.cons rfl (by first | exact Le.refl _ | exact Le.nils | exact Le.row _ _ _ _ | exact Le.of_eq (by first | rfl | (simp; done) | (push_cast; rfl) | (simp; omega))) .nil), (.cons rfl (Le.refl _) (.cons rfl (Le.refl _) (.cons rfl (Le.refl _) (.cons rfl (Le.refl _) .nil))))⟩
 try simp only [zA,zO,zN,zM,zP,zQ,zD,zF,gd] at hb3
 obtain rfl : i = r6.1.toNat := by omega
 refine AC_exit ?_
 refine AC_seq ?_
 refine AC_seq (AC_region ?_)
 refine mv rfl rfl rfl rfl ?_
 refine s_ (S_call rfl (AEvs.cons (.tmp rfl) (AEvs.cons (AEv.const _) AEvs.nil)) (ACalls.preQ (pre := [_, _]) (F := _) (r_Num_ok b _ _ 4 (by decide) _))) ?_
 rintro _ _ ⟨_, ⟨rfl, rfl⟩, rfl⟩
 have hn7 := numR_le (s := (repR podRd r6.1.toNat r6.2.1 r6.2.2).2.1) (c := (repR podRd r6.1.toNat r6.2.1 r6.2.2).2.2) (most := 4)
 have hz7 := numR_nonneg (repR podRd r6.1.toNat r6.2.1 r6.2.2).2.1 (repR podRd r6.1.toNat r6.2.1 r6.2.2).2.2 4
 generalize h7 : numR (repR podRd r6.1.toNat r6.2.1 r6.2.2).2.1 (repR podRd r6.1.toNat r6.2.1 r6.2.2).2.2 4 = r7
 rw [h7] at hn7 hz7
 refine p_ (S_move rfl (AEv.const _)) ?_
 refine AL_nil ?_
 refine AC_block ?_
 refine AC_loopK (G := Nat × Own) [(0, _), (2, _), (3, _), (28, _)] (fun g => g.1 ≤ r7.1.toNat ∧ g.2.ok ((repR triRd g.1 r7.2.1 r7.2.2).1.map resAV)) (fun g => [(29, .int .i64 (g.1 : Int))]) (fun g => (b3, .cells [.int .i64 r1.1, .int .i64 r2.1, .int .i64 r3.1, .int .u64 (r4.1 : Int), .S r5.1, ownAV p 13 (podsV (repR podRd r6.1.toNat r6.2.1 r6.2.2).1), ownAV g.2 3 ((repR triRd g.1 r7.2.1 r7.2.2).1.map resAV)]) :: (b2, .cells [.int .i64 0, .int .i64 0, .int .i64 0, .int .u64 0, .S [], .nils, .nils]) :: (b, .cells [.S (repR triRd g.1 r7.2.1 r7.2.2).2.1, .int .i64 (repR triRd g.1 r7.2.1 r7.2.2).2.2]) :: (ownSt g.2 74 3 ((repR triRd g.1 r7.2.1 r7.2.2).1.map resAV) ++ (ownSt p 34 13 (podsV (repR podRd r6.1.toNat r6.2.1 r6.2.2).1) ++ F))) (fun g => r7.1.toNat - g.1) ((0, .nil)) (⟨Nat.zero_le _, rfl⟩) (Sub.l (List.Sublist.refl _)) (.cons rfl (Le.refl _) (.cons rfl (Le.refl _) (.cons rfl (Le.refl _) (.cons rfl (Le.refl _) .nil)))) (.cons rfl (by first | exact Le.refl _ | exact Le.nils | exact Le.row _ _ _ _ | exact Le.of_eq (by first | rfl | (simp; done) | (push_cast; rfl) | (simp; omega))) .nil) ?_
 rintro ⟨j, q⟩ ⟨hj, hqu⟩
 try dsimp only
 simp only [List.cons_append, List.nil_append]
 dsimp only at hj hqu
 have hru := repR_len triRd j r7.2.1 r7.2.2
 refine AC_seq (AC_region ?_)
 refine p_ (S_lss rfl (.tmp rfl) (.tmp rfl)) ?_
 refine AL_nil ?_
 refine AC_seq ?_
 refine AC_cond (.tmp rfl) (fun hb6 => ?_) (fun hb6 => ?_)
 ·try simp only [zA,zO,zN,zM,zP,zQ,zD,zF,gd] at hb6
  have hjl : j < r7.1.toNat := by omega
  refine AC_skip ?_
  refine AC_seq ?_
  refine AC_block ?_
  refine AC_plan (σ := [(0, 0), (1, 0), (2, 0), (4, 0), (6, 0), (3, 1), (5, 1), (7, 1), (8, 0), (9, 0), (10, 2), (11, 0), (12, 2)]) (by kernel_rfl) [_] (by kernel_rfl) (fun r hr => List.mem_append_left _ hr) ?_
  refine AG.f rfl rfl (fun st' hst => Q_p rfl (S_field 6 rfl (.tmp rfl) (by kernel_rfl))) ?_
  refine AG.f rfl rfl (fun st' hst => Q_p rfl (S_loadM rfl (.tmp rfl) (hst _ (List.mem_of_getElem? (i := 0) rfl)) rfl (by kernel_rfl))) ?_
  refine AG.f rfl rfl (fun st' hst => Q_p rfl (S_move rfl (.tmp rfl))) ?_
  refine AG.f rfl rfl (fun st' hst => Q_p rfl (S_move rfl (.tmp rfl))) ?_
  refine AG.f rfl rfl (fun st' hst => Q_p rfl (S_move rfl (.tmp rfl))) ?_
  refine AG.s rfl rfl rfl (S_call rfl (AEvs.cons (.tmp rfl) (AEvs.cons (AEv.const _) AEvs.nil)) (ACalls.preQ (pre := [_, _]) (F := _) (r_Num_ok b _ _ 1099511627776 (by decide) _))) ?_ ?_
  ·rintro _ _ ⟨_, ⟨rfl, rfl⟩, rfl⟩ r hr; rw [List.mem_singleton.1 hr]; exact List.mem_cons_self
  rintro _ _ ⟨_, ⟨rfl, rfl⟩, rfl⟩
  refine AG.s rfl rfl rfl (S_call rfl (AEvs.cons (.tmp rfl) (AEvs.cons (AEv.const _) AEvs.nil)) (ACalls.preQ (pre := [_, _]) (F := _) (r_Num_ok b _ _ 1099511627776 (by decide) _))) ?_ ?_
  ·rintro _ _ ⟨_, ⟨rfl, rfl⟩, rfl⟩ r hr; rw [List.mem_singleton.1 hr]; exact List.mem_cons_self
  rintro _ _ ⟨_, ⟨rfl, rfl⟩, rfl⟩
  refine AG.s rfl rfl rfl (S_call rfl (AEvs.cons (.tmp rfl) (AEvs.cons (AEv.const _) AEvs.nil)) (ACalls.preQ (pre := [_, _]) (F := _) (r_Num_ok b _ _ 1099511627776 (by decide) _))) ?_ ?_
  ·rintro _ _ ⟨_, ⟨rfl, rfl⟩, rfl⟩ r hr; rw [List.mem_singleton.1 hr]; exact List.mem_cons_self
  rintro _ _ ⟨_, ⟨rfl, rfl⟩, rfl⟩
  refine AG.f rfl rfl (fun st' hst => Q_p rfl (S_build (t := 74) (pl := [(0, 1), (1, 1), (2, 1)]) (zs := [.int .i64 0, .int .i64 0, .int .i64 0]) rfl (AEvs.cons (.tmp rfl) (AEvs.cons (.tmp rfl) (AEvs.cons (.tmp rfl) AEvs.nil))) (by kernel_rfl) rfl)) ?_
  refine AG.f rfl rfl (fun st' hst => Q_p rfl (S_buildSlice (e := 74) 3 rfl (AEvs.cons (.tmp rfl) AEvs.nil) rfl (by kernel_rfl) (by kernel_rfl) (by intro y hy; simp only [List.mem_cons, List.not_mem_nil, or_false] at hy; rcases hy with rfl <;> exact ⟨rfl, rfl⟩) (by decide) (by decide) (by decide))) ?_
  refine AG.h rfl rfl rfl (S_appendM (f := resAV) (l := (repR triRd j r7.2.1 r7.2.2).1) (l2 := [(triRd (repR triRd j r7.2.1 r7.2.2).2.1 (repR triRd j r7.2.1 r7.2.2).2.2).1]) (e := 74) (size := 3) (bytes := 24) (p := q) ([_, _, _]) ((ownSt p 34 13 (podsV (repR podRd r6.1.toNat r6.2.1 r6.2.2).1) ++ F)) rfl (.tmp rfl) (.tmp rfl) rfl hqu (by kernel_rfl) (by simp) (fun _ => ⟨rfl, rfl⟩) (by simp only [List.length_singleton]; omega) (by simp only [List.length_singleton]; omega)) ?_
  rintro _ _ ⟨b8, k8, cap8, hx8, rfl, rfl⟩
  refine AG.f rfl rfl (fun st' hst => Q_p rfl (S_field 6 rfl (.tmp rfl) (by kernel_rfl))) ?_
  refine AG.h rfl rfl rfl (S_store 0 rfl (.tmp rfl) (.tmp rfl) rfl (by first | exact Nat.le_of_ble_eq_true rfl | simp) (by first | rfl | exact ownAV_one _ _ _) (by kernel_rfl)) ?_
  rintro _ _ ⟨rfl, rfl⟩
  refine AG.nil ?_
  refine AC_region ?_
  refine p_ (S_addI rfl (.tmp rfl) (AEv.const _) (by omega) (by omega)) ?_
  refine mv rfl rfl rfl rfl ?_
  refine AL_nil ?_
  refine ⟨(j + 1, .row b8 k8 cap8), ⟨by dsimp only; omega, by dsimp only; rw [repR_snoc]; exact hx8⟩, by dsimp only; omega, by dsimp only; rw [repR_snoc]; exact (Sub.l (List.Sublist.refl _)), (.cons rfl (by first | exact Le.refl _ | exact Le.nils | exact Le.row _ _ _ _ | exact Le.of_eq (by first | rfl | (simp; done) | (push_cast; rfl) | (simp; omega))) .nil), (.cons rfl (Le.refl _) (.cons rfl (Le.refl _) (.cons rfl (Le.refl _) (.cons rfl (Le.refl _) .nil))))⟩
 try simp only [zA,zO,zN,zM,zP,zQ,zD,zF,gd] at hb6
 obtain rfl : j = r7.1.toNat := by omega
 refine AC_exit ?_
 refine AC_seq ?_
 refine AC_cells (n := 0) (ds := [.int .i64 r1.1, .int .i64 r2.1, .int .i64 r3.1, .int .u64 (r4.1 : Int), .S r5.1, .sl (podsV (repR podRd r6.1.toNat r6.2.1 r6.2.2).1), .sl ((repR triRd r7.1.toNat r7.2.1 r7.2.2).1.map resAV)]) rfl (.cons (Le.refl _) (.cons (Le.refl _) (.cons (Le.refl _) (.cons (Le.refl _) (.cons (Le.refl _) (.cons (Le_own hq) (.cons (Le_own hqu) .nil))))))) ?_
 refine AC_region ?_
 refine ldN 7 0 ?_
 refine stW 1 ?_
 refine AL_nil (AC_ret ?_)
 refine ret_cell 1 ([(b, Ob.cells [.S ((repR triRd r7.1.toNat r7.2.1 r7.2.2).2.1), .int .i64 ((repR triRd r7.1.toNat r7.2.1 r7.2.2).2.2)])] ++ F) rfl rfl rfl (by kernel_rfl) (Sub.l (.cons _ (.cons _ (.cons_cons _ ((List.sublist_append_right _ _).trans (List.sublist_append_right _ _)))))) (Conv.refl (Sub.l (.cons _ (.cons _ (.cons_cons _ ((List.sublist_append_right _ _).trans (List.sublist_append_right _ _)))))) _) ⟨_, ⟨by subst h7 h6 h5 h4 h3 h2 h1; rfl, by subst h7 h6 h5 h4 h3 h2 h1; rfl⟩, rfl⟩ (.inl rfl)
set_option maxHeartbeats 2000000 in
theorem tell_Of_ok (s : List UInt8) : GCalls Tryz.prog tabs 14 [.S s] (.tup [msgAV (ofM s), .int .i64 (ofMC s)]) := by
 intro st hG
 refine co 48 Tryz.func14 ?_
 refine AC_seq (AC_region ?_)
 refine s_ (S_alloc [.int .i64 0, .int .i64 0, .int .i64 0, .int .i64 0, .int .i64 0, .int .u64 0, .string ⟨#[]⟩, .slice none 0 0, .slice none 0 0, .int .i64 0, .int .u64 0, .int .i64 0, .int .u64 0, .string ⟨#[]⟩, .slice none 0 0, .slice none 0 0, .slice none 0 0, .int .i64 0, .int .i64 0, .int .i64 0, .int .i64 0, .slice none 0 0, .int .i64 0, .int .i64 0] rfl (by kernel_rfl)) ?_
 rintro _ _ ⟨b2, rfl, rfl⟩
 refine ac rfl rfl rfl ?_
 refine AL_nil (AC_seq (AC_region ?_))
 refine mv rfl rfl rfl rfl ?_
 refine s_ (S_call rfl (AEvs.cons (.tmp rfl) AEvs.nil) (wire_Read_ok s _)) ?_
 rintro _ _ ⟨_, ⟨b4, rfl, rfl⟩, rfl⟩
 refine as_ rfl rfl rfl rfl ?_
 refine AL_nil (AC_seq (AC_region ?_))
 refine mv rfl rfl rfl rfl ?_
 refine s_ (S_call rfl (AEvs.cons (.tmp rfl) (AEvs.cons (AEv.const _) AEvs.nil)) (ACalls.preQ (pre := []) (F := _) (r_Num_ok b4 s 0 2 (by decide) _))) ?_
 rintro _ _ ⟨_, ⟨rfl, rfl⟩, rfl⟩
 generalize h1 : numR s 0 2 = r1
 refine mv rfl rfl rfl rfl ?_
 refine s_ (S_call rfl (AEvs.cons (.tmp rfl) (AEvs.cons (AEv.const _) AEvs.nil)) (ACalls.preQ (pre := []) (F := _) (r_Num_ok b4 _ _ 1073741824 (by decide) _))) ?_
 rintro _ _ ⟨_, ⟨rfl, rfl⟩, rfl⟩
 generalize h2 : numR r1.2.1 r1.2.2 1073741824 = r2
 refine p_ (S_build (t := 38) (pl := [(0, 1), (1, 1), (2, 7), (9, 15)]) (zs := [.int .i64 0, .int .i64 0, .int .i64 0, .int .i64 0, .int .i64 0, .int .u64 0, .string ⟨#[]⟩, .slice none 0 0, .slice none 0 0, .int .i64 0, .int .u64 0, .int .i64 0, .int .u64 0, .string ⟨#[]⟩, .slice none 0 0, .slice none 0 0, .slice none 0 0, .int .i64 0, .int .i64 0, .int .i64 0, .int .i64 0, .slice none 0 0, .int .i64 0, .int .i64 0]) rfl (AEvs.cons (.tmp rfl) (AEvs.cons (.tmp rfl) AEvs.nil)) (by kernel_rfl) rfl) ?_
 refine s_ (S_alloc [.int .i64 0, .int .i64 0, .int .i64 0, .int .i64 0, .int .i64 0, .int .u64 0, .string ⟨#[]⟩, .slice none 0 0, .slice none 0 0, .int .i64 0, .int .u64 0, .int .i64 0, .int .u64 0, .string ⟨#[]⟩, .slice none 0 0, .slice none 0 0, .slice none 0 0, .int .i64 0, .int .i64 0, .int .i64 0, .int .i64 0, .slice none 0 0, .int .i64 0, .int .i64 0] rfl (by kernel_rfl)) ?_
 rintro _ _ ⟨b5, rfl, rfl⟩
 refine s_ (S_storeW 0 rfl (.tmp rfl) ((AEv.tmp rfl).le (z := msgAV ⟨r1.1, r2.1, rep0, evt0⟩) (by exact (Les.agg (.cons (Le.refl _) (.cons (Le.refl _) (.cons (Le.refl _) (.cons (Le.refl _) (.cons (Le.refl _) (.cons (Le.refl _) (.cons (Le.refl _) (.cons (Le.nils) (.cons (Le.nils) (.cons (Le.refl _) (.cons (Le.refl _) (.cons (Le.refl _) (.cons (Le.refl _) (.cons (Le.refl _) (.cons (Le.nils) (.cons (Le.nils) (.cons (Le.nils) (.cons (Le.refl _) (.cons (Le.refl _) (.cons (Le.refl _) (.cons (Le.refl _) (.cons (Le.nils) (.cons (Le.refl _) (.cons (Le.refl _) .nil))))))))))))))))))))))))))) rfl rfl rfl (by kernel_rfl)) ?_
 rintro _ _ ⟨rfl, rfl⟩
 refine AL_nil ?_
 refine AC_joinK (G := Unit) [(2, _), (3, _), (4, _), (5, _)] (fun _ => True) (fun _ => []) (fun _ => (b5, .cells (msgL (msgRd s 0).1)) :: (b4, .cells [.S (msgRd s 0).2.1, .int .i64 (msgRd s 0).2.2]) :: (b2, .cells [.int .i64 0, .int .i64 0, .int .i64 0, .int .i64 0, .int .i64 0, .int .u64 0, .S [], .nils, .nils, .int .i64 0, .int .u64 0, .int .i64 0, .int .u64 0, .S [], .nils, .nils, .nils, .int .i64 0, .int .i64 0, .int .i64 0, .int .i64 0, .nils, .int .i64 0, .int .i64 0]) :: st) (.cons rfl (Le.refl _) (.cons rfl (Le.refl _) (.cons rfl (Le.refl _) (.cons rfl (Le.refl _) .nil)))) ?_ ?_
 ·refine AC_seq (AC_region ?_)
  refine fl 0 ?_
  refine ld 0 ?_
  refine AL_nil ?_
  refine AC_block ?_
  refine AC_seq (AC_region ?_)
  refine p_ (S_eql rfl (.tmp rfl) (AEv.const _)) ?_
  refine as_ rfl rfl rfl rfl ?_
  refine AL_nil ?_
  refine AC_cond (.tmp rfl) (fun hb3 => ?_) (fun hb3 => ?_)
  ·try simp only [zA,zO,zN,zM,zP,zQ,zD,zF,gd] at hb3
   have hk : r1.1 = 1 := by omega
   refine AC_region ?_
   refine mv rfl rfl rfl rfl ?_
   refine s_ (S_call rfl (AEvs.cons (.tmp rfl) AEvs.nil) (ACalls.preQ (pre := [_]) (F := _) (tell_takeReply_ok b4 _ _ _))) ?_
   rintro _ _ ⟨_, ⟨rfl, rfl⟩, rfl⟩
   refine fl 2 ?_
   refine stN 0 ?_
   refine AL_nil ?_
   exact ⟨(), trivial, by rw [msgRd_reply h1 h2 hk]; exact (Sub.l (List.Sublist.refl _)), .nil, (.cons rfl (Le.refl _) (.cons rfl (Le.refl _) (.cons rfl (Le.refl _) (.cons rfl (Le.refl _) .nil))))⟩
  try simp only [zA,zO,zN,zM,zP,zQ,zD,zF,gd] at hb3
  have hk : ¬ r1.1 = 1 := by omega
  refine AC_seq (AC_region ?_)
  refine p_ (S_eql rfl (.tmp rfl) (AEv.const _)) ?_
  refine as_ rfl rfl rfl rfl ?_
  refine AL_nil ?_
  refine AC_cond (.tmp rfl) (fun hb4 => ?_) (fun hb4 => ?_)
  ·try simp only [zA,zO,zN,zM,zP,zQ,zD,zF,gd] at hb4
   have hk2 : r1.1 = 2 := by omega
   refine AC_seq (AC_region ?_)
   refine mv rfl rfl rfl rfl ?_
   refine s_ (S_call rfl (AEvs.cons (.tmp rfl) (AEvs.cons (AEv.const _) AEvs.nil)) (ACalls.preQ (pre := [_]) (F := _) (r_Num_ok b4 _ _ 5 (by decide) _))) ?_
   rintro _ _ ⟨_, ⟨rfl, rfl⟩, rfl⟩
   generalize h3 : numR r2.2.1 r2.2.2 5 = r3
   refine mv rfl rfl rfl rfl ?_
   refine s_ (S_call rfl (AEvs.cons (.tmp rfl) AEvs.nil) (ACalls.preQ (pre := [_]) (F := _) (r_Big_ok b4 _ _ _))) ?_
   rintro _ _ ⟨_, ⟨rfl, rfl⟩, rfl⟩
   generalize h4 : bigR r3.2.1 r3.2.2 = r4
   refine p_ (S_build (t := 36) (pl := [(0, 1), (1, 1), (2, 13)]) (zs := [.int .i64 0, .int .u64 0, .int .i64 0, .int .u64 0, .string ⟨#[]⟩, .slice none 0 0, .slice none 0 0, .slice none 0 0, .int .i64 0, .int .i64 0, .int .i64 0, .int .i64 0, .slice none 0 0, .int .i64 0, .int .i64 0]) rfl (AEvs.cons (.tmp rfl) (AEvs.cons (.tmp rfl) AEvs.nil)) (by kernel_rfl) rfl) ?_
   refine fl 9 ?_
   refine s_ (S_storeN 0 rfl (.tmp rfl) ((AEv.tmp rfl).le (z := .agg (evtL ⟨r3.1, r4.1, pod0⟩)) (by exact (Les.agg (.cons (Le.refl _) (.cons (Le.refl _) (.cons (Le.refl _) (.cons (Le.refl _) (.cons (Le.refl _) (.cons (Le.nils) (.cons (Le.nils) (.cons (Le.nils) (.cons (Le.refl _) (.cons (Le.refl _) (.cons (Le.refl _) (.cons (Le.refl _) (.cons (Le.nils) (.cons (Le.refl _) (.cons (Le.refl _) .nil)))))))))))))))))) rfl (by exact Nat.le_of_ble_eq_true rfl) (by first | rfl | simp [AV.one, Value.oneCell']) (by kernel_rfl)) ?_
   rintro _ _ ⟨rfl, rfl⟩
   refine AL_nil (AC_seq (AC_region ?_))
   refine fl 9 ?_
   refine fl 0 ?_
   refine ld 0 ?_
   refine p_ (S_pcall rfl (AEvs.cons (.tmp rfl) AEvs.nil) (tell_whole_ok r3.1)) ?_
   refine AL_nil ?_
   refine AC_cond (.tmp rfl) (fun hb5 => ?_) (fun hb5 => ?_)
   ·try simp only [zA,zO,zN,zM,zP,zQ,zD,zF,gd] at hb5
    have hw : wholeB r3.1 = true := hb5
    refine AC_region ?_
    refine mv rfl rfl rfl rfl ?_
    refine s_ (S_call rfl (AEvs.cons (.tmp rfl) AEvs.nil) (ACalls.preQ (pre := [_]) (F := _) (tell_takePod_ok b4 _ _ _))) ?_
    rintro _ _ ⟨_, ⟨rfl, rfl⟩, rfl⟩
    refine fl 9 ?_
    refine fl 2 ?_
    refine stN 0 ?_
    refine AL_nil ?_
    exact ⟨(), trivial, by rw [msgRd_whole h1 h2 hk2 h3 h4 hw]; exact (Sub.l (List.Sublist.refl _)), .nil, (.cons rfl (Le.refl _) (.cons rfl (Le.refl _) (.cons rfl (Le.refl _) (.cons rfl (Le.refl _) .nil))))⟩
   try simp only [zA,zO,zN,zM,zP,zQ,zD,zF,gd] at hb5
   have hw : ¬ wholeB r3.1 = true := by simpa using hb5
   refine AC_skip ?_
   exact ⟨(), trivial, by rw [msgRd_mark h1 h2 hk2 h3 h4 hw]; exact (Sub.l (List.Sublist.refl _)), .nil, (.cons rfl (Le.refl _) (.cons rfl (Le.refl _) (.cons rfl (Le.refl _) (.cons rfl (Le.refl _) .nil))))⟩
  try simp only [zA,zO,zN,zM,zP,zQ,zD,zF,gd] at hb4
  have hk2 : ¬ r1.1 = 2 := by omega
  refine AC_skip ?_
  exact ⟨(), trivial, by rw [msgRd_none h1 h2 hk hk2]; exact (Sub.l (List.Sublist.refl _)), .nil, (.cons rfl (Le.refl _) (.cons rfl (Le.refl _) (.cons rfl (Le.refl _) (.cons rfl (Le.refl _) .nil))))⟩
 rintro _ _
 try dsimp only
 simp only [List.cons_append, List.nil_append]
 refine AC_seq (AC_region ?_)
 refine mv rfl rfl rfl rfl ?_
 refine s_ (S_call rfl (AEvs.cons (.tmp rfl) AEvs.nil) (ACalls.preQ (pre := [_]) (F := _) (r_End_ok b4 _ _ _))) ?_
 rintro _ _ ⟨_, ⟨rfl, rfl⟩, rfl⟩
 refine as_ rfl rfl rfl rfl ?_
 refine AL_nil ?_
 refine AC_joinK (G := Unit) [(2, _), (3, _), (5, _)] (fun _ => True) (fun _ => [(6, .int .i64 (ofMC s))]) (fun _ => (b5, .cells (msgL (msgRd s 0).1)) :: (b2, .cells [.int .i64 0, .int .i64 0, .int .i64 0, .int .i64 0, .int .i64 0, .int .u64 0, .S [], .nils, .nils, .int .i64 0, .int .u64 0, .int .i64 0, .int .u64 0, .S [], .nils, .nils, .nils, .int .i64 0, .int .i64 0, .int .i64 0, .int .i64 0, .nils, .int .i64 0, .int .i64 0]) :: st) (.cons rfl (Le.refl _) (.cons rfl (Le.refl _) (.cons rfl (Le.refl _) .nil))) ?_ ?_
 ·refine AC_seq (AC_region ?_)
  refine mv rfl rfl rfl rfl ?_
  refine p_ (S_eql rfl (.tmp rfl) (AEv.const _)) ?_
  refine AL_nil ?_
  refine AC_cond (.tmp rfl) (fun hb6 => ?_) (fun hb6 => ?_)
  ·try simp only [zA,zO,zN,zM,zP,zQ,zD,zF,gd] at hb6
   have hx := ofMC_end (s := s) (by simpa using hb6)
   refine AC_region ?_
   refine ldN 24 0 ?_
   refine p_ (S_gcall rfl (AEvs.cons (y := msgAV (msgRd s 0).1) (.tmp rfl) AEvs.nil) ((tell_Check_ok (msgRd s 0).1 (msgRd_short s 0)) _ (fun p hp => by repeat (first | exact hG p hp | refine List.mem_cons_of_mem _ ?_ | refine List.mem_append_right _ ?_)))) ?_
   refine as_ rfl rfl rfl rfl ?_
   refine AL_nil ?_
   exact ⟨(), trivial, (Sub.l (.cons_cons _ (List.sublist_cons_self _ _))), (.cons rfl (Le.of_eq (congrArg (AV.int .i64) hx.symm)) .nil), (.cons rfl (Le.refl _) (.cons rfl (Le.refl _) (.cons rfl (Le.refl _) .nil)))⟩
  try simp only [zA,zO,zN,zM,zP,zQ,zD,zF,gd] at hb6
  have hx := ofMC_bad (s := s) (by simpa using hb6)
  refine AC_skip ?_
  exact ⟨(), trivial, (Sub.l (.cons_cons _ (List.sublist_cons_self _ _))), (.cons rfl (Le.of_eq (congrArg (AV.int .i64) hx.symm)) .nil), (.cons rfl (Le.refl _) (.cons rfl (Le.refl _) (.cons rfl (Le.refl _) .nil)))⟩
 rintro _ _
 try dsimp only
 simp only [List.cons_append, List.nil_append]
 refine AC_seq ?_
 refine AC_seq (AC_region ?_)
 refine mv rfl rfl rfl rfl ?_
 refine p_ (S_neq rfl (.tmp rfl) (AEv.const _)) ?_
 refine AL_nil ?_
 refine AC_cond (.tmp rfl) (fun hb7 => ?_) (fun hb7 => ?_)
 ·try simp only [zA,zO,zN,zM,zP,zQ,zD,zF,gd] at hb7
  have hy := ofM_bad (s := s) (by simpa using hb7)
  refine AC_seq (AC_region ?_)
  refine p_ (S_build (t := 38) (pl := [(0, 1), (1, 1), (2, 7), (9, 15)]) (zs := [.int .i64 0, .int .i64 0, .int .i64 0, .int .i64 0, .int .i64 0, .int .u64 0, .string ⟨#[]⟩, .slice none 0 0, .slice none 0 0, .int .i64 0, .int .u64 0, .int .i64 0, .int .u64 0, .string ⟨#[]⟩, .slice none 0 0, .slice none 0 0, .slice none 0 0, .int .i64 0, .int .i64 0, .int .i64 0, .int .i64 0, .slice none 0 0, .int .i64 0, .int .i64 0]) rfl AEvs.nil (by kernel_rfl) rfl) ?_
  refine mv rfl rfl rfl rfl ?_
  refine stW 1 ?_
  refine as_ rfl rfl rfl rfl ?_
  refine AL_nil (AC_ret ?_)
  refine ret_outs st rfl (by decide) (OutsR.row 1 rfl rfl (by kernel_rfl) (OutsR.tmp rfl OutsR.nil)) (Sub.l ((List.sublist_cons_self _ _).trans (List.sublist_cons_self _ _))) (Conv.le (Sub.l ((List.sublist_cons_self _ _).trans (List.sublist_cons_self _ _))) (Les.tup (.cons (Les.agg (.cons (Le.refl _) (.cons (Le.refl _) (.cons (Le.refl _) (.cons (Le.refl _) (.cons (Le.refl _) (.cons (Le.refl _) (.cons (Le.refl _) (.cons (Le.nils) (.cons (Le.nils) (.cons (Le.refl _) (.cons (Le.refl _) (.cons (Le.refl _) (.cons (Le.refl _) (.cons (Le.refl _) (.cons (Le.nils) (.cons (Le.nils) (.cons (Le.nils) (.cons (Le.refl _) (.cons (Le.refl _) (.cons (Le.refl _) (.cons (Le.refl _) (.cons (Le.nils) (.cons (Le.refl _) (.cons (Le.refl _) .nil))))))))))))))))))))))))) (.cons (Le.refl _) .nil)))) ⟨by rw [hy] <;> rfl, rfl⟩ (.inl rfl)
 try simp only [zA,zO,zN,zM,zP,zQ,zD,zF,gd] at hb7
 have hz : ofMC s = 0 := by simpa using hb7
 have hy := ofM_good hz
 refine AC_skip ?_
 refine AC_seq (AC_region ?_)
 refine ldN 24 0 ?_
 refine stW 1 ?_
 refine ac rfl rfl rfl ?_
 refine AL_nil (AC_ret ?_)
 refine ret_outs st rfl (by decide) (OutsR.row 1 rfl rfl (by kernel_rfl) (OutsR.tmp rfl OutsR.nil)) (Sub.l ((List.sublist_cons_self _ _).trans (List.sublist_cons_self _ _))) (Conv.refl (Sub.l ((List.sublist_cons_self _ _).trans (List.sublist_cons_self _ _))) _) ⟨by rw [hy, hz] <;> rfl, rfl⟩ (.inl rfl)
end Go.Proofs.YtemmkkmpchphkaaGreatDoor

set_option maxRecDepth 100000
namespace Go.Proofs.YtemmkkmpchphkaaGreatDoor
open Go.AL Go.NumSpec
theorem tell_big_ok (n : Nat) (h : n < 18446744073709551616) : PCalls Tryz.prog 34 [.int .u64 (n : Int)] (.S (digL n)) := by
 revert h
 induction n using Nat.strongRecOn with
 | _ n ih =>
  intro h
  intro st
  refine co 20 Tryz.func34 ?_
  refine AC_seq (AC_region ?_)
  refine p_ (S_assign rfl (AEv.S _)) ?_
  refine AL_nil ?_
  refine AC_seq ?_
  refine AC_seq (AC_region ?_)
  refine mv rfl rfl rfl rfl ?_
  refine p_ (S_lss rfl (.tmp rfl) (AEv.const _)) ?_
  refine AL_nil ?_
  refine AC_cond (.tmp rfl) (fun hb1 => ?_) (fun hb1 => ?_)
  ·try simp only [zA,zO,zN,zM,zP,zQ,zD,zF,gd] at hb1
   have hx : digL n = [UInt8.ofNat (48 + n)] := by rw [digL, if_pos (by omega)]
   refine AC_seq (AC_region ?_)
   refine mv rfl rfl rfl rfl ?_
   refine p_ (S_conv (k' := .u8) rfl (.tmp rfl) (by kernel_rfl) (by kernel_rfl)) ?_
   refine p_ (S_add rfl (AEv.const _) (.tmp rfl)) ?_
   refine p_ (S_buildSlice (e := 5) 1 rfl (AEvs.cons (.tmp rfl) AEvs.nil) rfl (by kernel_rfl) (by kernel_rfl) (by intro y hy; simp only [List.mem_cons, List.not_mem_nil, or_false] at hy; rcases hy with rfl <;> exact ⟨rfl, rfl⟩) (by decide) (by decide) (by decide)) ?_
   refine p_ (S_bytesSl (e := 5) [UInt8.ofNat (48 + n)] rfl (.tmp rfl) (by simp [bytesAV]; rw [wrap_u8 (n := (n : Int)) (by omega) (by omega), wrap_u8 (by omega) (by omega)]; omega) (by kernel_rfl) (by kernel_rfl) (by kernel_rfl)) ?_
   refine as_ rfl rfl rfl rfl ?_
   refine AL_nil (AC_ret ?_)
   refine ret_tmp st rfl rfl (Sub.l (List.Sublist.refl _)) (Conv.refl (Sub.l (List.Sublist.refl _)) _) ⟨by rw [hx], rfl⟩ (.inl rfl)
  try simp only [zA,zO,zN,zM,zP,zQ,zD,zF,gd] at hb1
  have hx : digL n = digL (n / 10) ++ [UInt8.ofNat (48 + n % 10)] := by rw [digL, if_neg (by omega)]
  refine AC_skip ?_
  refine AC_seq ?_
  refine AC_draw (by kernel_rfl) (by kernel_rfl) (.cons rfl (Q_p rfl (S_move rfl (.tmp rfl))) <|
    .cons rfl (Q_p rfl (S_quoN (n := 10) (.inl rfl) rfl (.tmp rfl) (AEv.const _) (by omega) (.inr ⟨rfl, by omega⟩))) <|
    .cons rfl (Q_p rfl (S_pcall rfl (AEvs.cons (.tmp rfl) AEvs.nil) (ih (n / 10) (by omega) (by omega)))) <|
    .cons rfl (Q_p rfl (S_move rfl (.tmp rfl))) <|
    .cons rfl (Q_p rfl (S_remN (n := 10) rfl (.tmp rfl) (AEv.const _) (by omega))) <|
    .cons rfl (Q_p rfl (S_conv (k' := .u8) rfl (.tmp rfl) (by kernel_rfl) (by kernel_rfl))) <|
    .cons rfl (Q_p rfl (S_add rfl (AEv.const _) (.tmp rfl))) <|
    .cons rfl (Q_p rfl (S_buildSlice (e := 5) 1 rfl (AEvs.cons (.tmp rfl) AEvs.nil) rfl (by kernel_rfl) (by kernel_rfl) (by intro y hy; simp only [List.mem_cons, List.not_mem_nil, or_false] at hy; rcases hy with rfl <;> exact ⟨rfl, rfl⟩) (by decide) (by decide) (by decide))) <|
    .cons rfl (Q_p rfl (S_bytesSl (e := 5) [UInt8.ofNat (48 + n % 10)] rfl (.tmp rfl) (by simp [bytesAV]; rw [wrap_u8 (n := (n : Int) % 10) (by omega) (by omega), wrap_u8 (by omega) (by omega)]; omega) (by kernel_rfl) (by kernel_rfl) (by kernel_rfl))) <|
    .cons rfl (Q_p rfl (S_cat rfl (.tmp rfl) (.tmp rfl) (by have h9 := digL_20 (n := n / 10) (by omega); simp only [List.length_cons, List.length_nil]; omega))) <|
    .cons rfl (Q_p rfl (S_assign rfl (.tmp rfl))) <|
    .nil) ?_
  refine AC_ret ?_
  refine ret_tmp st rfl rfl (Sub.l (List.Sublist.refl _)) (Conv.refl (Sub.l (List.Sublist.refl _)) _) ⟨by rw [hx], rfl⟩ (.inl rfl)
theorem tell_word_ok (k : Int) : PCalls Tryz.prog 36 [.int .i64 k] (.S (wordE k)) := by
 intro st
 refine co 14 Tryz.func36 ?_
 refine AC_seq (AC_region ?_)
 refine p_ (S_assign rfl (AEv.S _)) ?_
 refine AL_nil (AC_seq (AC_region ?_))
 refine p_ (S_build (t := 121) (pl := [(0, 1), (1, 1), (2, 1), (3, 1), (4, 1), (5, 1)]) (zs := [.string ⟨#[]⟩, .string ⟨#[]⟩, .string ⟨#[]⟩, .string ⟨#[]⟩, .string ⟨#[]⟩, .string ⟨#[]⟩]) rfl (AEvs.cons (AEv.S _) (AEvs.cons (AEv.S _) (AEvs.cons (AEv.S _) (AEvs.cons (AEv.S _) (AEvs.cons (AEv.S _) (AEvs.cons (AEv.S _) AEvs.nil)))))) (by kernel_rfl) rfl) ?_
 refine s_ (S_alloc (List.replicate 6 (.string ⟨#[]⟩)) rfl (by kernel_rfl)) ?_
 rintro _ _ ⟨b3, rfl, rfl⟩
 refine stW 0 ?_
 refine AL_nil ?_
 refine AC_seq ?_
 refine AC_seq (AC_region ?_)
 refine mv rfl rfl rfl rfl ?_
 refine p_ (S_lss rfl (.tmp rfl) (AEv.const _)) ?_
 refine mv rfl rfl rfl rfl ?_
 refine g_ (fun _ => mA) ?_
 refine g_ (fun _ => S_geq rfl (AEv.cd (.tmp rfl)) (AEv.const _)) ?_
 refine p_ (S_or rfl (.tmp rfl) (fun hp8 => (AEv.cd (.tmp rfl)))) ?_
 refine AL_nil ?_
 refine AC_cond (.tmp rfl) (fun hb9 => ?_) (fun hb9 => ?_)
 ·try simp only [zA,zO,zN,zM,zP,zQ,zD,zF,gd] at hb9
  have hk : k < 1 ∨ 6 ≤ k := by omega
  refine AC_region ?_
  refine ac rfl rfl rfl ?_
  refine AL_nil (AC_seq (AC_region ?_))
  refine mv rfl rfl rfl rfl ?_
  refine p_ (S_elemA (e := 9) (len := 6) (i := 0) 1 rfl (.tmp rfl) (.tmp rfl) (by kernel_rfl) (by kernel_rfl) (by omega) (by omega)) ?_
  refine p_ (S_load (c := .S (wordE k)) 0 rfl (.tmp rfl) rfl (by rw [word_zero hk]; rfl) (by kernel_rfl)) ?_
  refine as_ rfl rfl rfl rfl ?_
  refine AL_nil (AC_ret ?_)
  refine ret_tmp st rfl rfl (Sub.l (List.sublist_cons_self _ _)) (Conv.refl (Sub.l (List.sublist_cons_self _ _)) _) ⟨rfl, rfl⟩ (.inl rfl)
 try simp only [zA,zO,zN,zM,zP,zQ,zD,zF,gd] at hb9
 have hk : ¬ (k < 1 ∨ 6 ≤ k) := by omega
 refine AC_skip ?_
 refine AC_seq (AC_region ?_)
 refine mv rfl rfl rfl rfl ?_
 refine p_ (S_elemA (e := 9) (len := 6) (i := k) 1 rfl (.tmp rfl) (.tmp rfl) (by kernel_rfl) (by kernel_rfl) (by omega) (by omega)) ?_
 refine p_ (S_load (c := .S (wordE k)) 0 rfl (.tmp rfl) rfl (word_cell (by omega) (by omega)) (by kernel_rfl)) ?_
 refine as_ rfl rfl rfl rfl ?_
 refine AL_nil (AC_ret ?_)
 refine ret_tmp st rfl rfl (Sub.l (List.sublist_cons_self _ _)) (Conv.refl (Sub.l (List.sublist_cons_self _ _)) _) ⟨rfl, rfl⟩ (.inl rfl)
theorem tell_said_ok (p : Own) (l : List (List UInt8)) (hp : p.ok (l.map AV.S)) (hl : l.length ≤ 1000) (name : List UInt8) (hn : name.length ≤ 100) (n : Int) (hf : fits n) (F : St) : ACalls Tryz.prog 32 [ownAV p 1 (l.map AV.S), .S name, .int .i64 n] (ownSt p 9 1 ((l).map AV.S) ++ F) (fun x st' => ∃ foot', (∃ p' : Own, p'.ok ((saidL l name n).map AV.S) ∧ x = ownAV p' 1 ((saidL l name n).map AV.S) ∧ foot' = ownSt p' 9 1 ((saidL l name n).map AV.S)) ∧ st' = foot' ++ F) := by
 refine co 18 Tryz.func32 ?_
 have htl := textL_len hf
 refine AC_seq (AC_region ?_)
 refine ac rfl rfl rfl ?_
 refine AL_nil ?_
 refine AC_seq ?_
 refine AC_seq (AC_region ?_)
 refine mv rfl rfl rfl rfl ?_
 refine p_ (S_eql rfl (.tmp rfl) (AEv.const _)) ?_
 refine AL_nil ?_
 refine AC_cond (.tmp rfl) (fun hb1 => ?_) (fun hb1 => ?_)
 ·try simp only [zA,zO,zN,zM,zP,zQ,zD,zF,gd] at hb1
  have hx := said_none (l := l) (name := name) hb1
  refine AC_seq (AC_region ?_)
  refine mv rfl rfl rfl rfl ?_
  refine as_ rfl rfl rfl rfl ?_
  refine AL_nil (AC_ret ?_)
  refine ret_tmp (ownSt p 9 1 ((l).map AV.S) ++ F) rfl rfl (Sub.l (List.Sublist.refl _)) (Conv.refl (Sub.l (List.Sublist.refl _)) _) ⟨_, ⟨p, by rw [hx]; exact hp, by rw [hx], by rw [hx]⟩, rfl⟩ (.inl rfl)
 try simp only [zA,zO,zN,zM,zP,zQ,zD,zF,gd] at hb1
 have hx := said_some (l := l) (name := name) hb1
 refine AC_skip ?_
 refine AC_seq (AC_region ?_)
 refine mv rfl rfl rfl rfl ?_
 refine mv rfl rfl rfl rfl ?_
 refine p_ (S_cat rfl (.tmp rfl) (AEv.S _) (by first | omega | (simp only [List.length_append, List.length_cons, List.length_nil]; omega))) ?_
 refine mv rfl rfl rfl rfl ?_
 refine p_ (S_pcall rfl (AEvs.cons (.tmp rfl) AEvs.nil) (num_Text_ok n hf)) ?_
 refine p_ (S_cat rfl (.tmp rfl) (.tmp rfl) (by first | omega | (simp only [List.length_append, List.length_cons, List.length_nil]; omega))) ?_
 refine p_ (S_buildSlice (e := 9) 1 rfl (AEvs.cons (.tmp rfl) AEvs.nil) rfl (by kernel_rfl) (by kernel_rfl) (by intro y hy; simp only [List.mem_cons, List.not_mem_nil, or_false] at hy; rcases hy with rfl <;> exact ⟨rfl, rfl⟩) (by decide) (by decide) (by decide)) ?_
 refine s_ (S_appendM (f := AV.S) (l := l) (l2 := [(name ++ [61]) ++ textL n]) (e := 9) (size := 1) (bytes := 16) (p := p) ([]) (F) rfl (.tmp rfl) (.tmp rfl) rfl hp (by kernel_rfl) (by simp) (fun _ => ⟨rfl, rfl⟩) (by simp only [List.length_singleton]; omega) (by simp only [List.length_singleton]; omega)) ?_
 rintro _ _ ⟨b8, k8, cap8, hx8, rfl, rfl⟩
 simp only [List.nil_append]
 rw [← hx] at hx8 ⊢
 refine as_ rfl rfl rfl rfl ?_
 refine AL_nil (AC_ret ?_)
 refine ret_tmp (ownSt (Own.row b8 k8 cap8) 9 1 ((saidL l name n).map AV.S) ++ F) rfl rfl (Sub.l (List.Sublist.refl _)) (Conv.refl (Sub.l (List.Sublist.refl _)) _) ⟨_, ⟨.row b8 k8 cap8, hx8, rfl, rfl⟩, rfl⟩ (.inl rfl)
set_option maxHeartbeats 4000000 in
theorem tell_Line_ok (m : Msg) (hm : ShortM m) (hu : MsgU m) (hf : MsgF m) : PCalls Tryz.prog 10 [msgAV m] (.S (lineM m)) := by
 intro st
 refine co 82 Tryz.func10 ?_
 obtain ⟨hf1, hf2, hf3, hf4⟩ := hf
 have hfp : fits ((m.reply.pods.length : Nat) : Int) := by have := hm.1.2.1; unfold fits; omega
 have hfu : fits ((m.reply.use.length : Nat) : Int) := by have := hm.1.2.2.1; unfold fits; omega
 have hrd := hm.1.1
 have hg1 := digL_20 hu.1
 have hg2 := digL_20 hu.2.2.1
 have hll0 : ([replyN, textL m.num, textL m.reply.code]).length = 3 := rfl
 have hll1 := said_more [replyN, textL m.num, textL m.reply.code] [117, 105, 100] m.reply.uid
 have hll2 := said_more (saidL [replyN, textL m.num, textL m.reply.code] [117, 105, 100] m.reply.uid) [105, 100] m.reply.id
 have hll3 := rev_more (saidL (saidL [replyN, textL m.num, textL m.reply.code] [117, 105, 100] m.reply.uid) [105, 100] m.reply.id) m.reply.rev
 have hll4 := data_more (revL (saidL (saidL [replyN, textL m.num, textL m.reply.code] [117, 105, 100] m.reply.uid) [105, 100] m.reply.id) m.reply.rev) m.reply.data
 have hll5 := said_more (dataL (revL (saidL (saidL [replyN, textL m.num, textL m.reply.code] [117, 105, 100] m.reply.uid) [105, 100] m.reply.id) m.reply.rev) m.reply.data) [112, 111, 100, 115] (m.reply.pods.length : Int)
 have hll6 := said_more (saidL (dataL (revL (saidL (saidL [replyN, textL m.num, textL m.reply.code] [117, 105, 100] m.reply.uid) [105, 100] m.reply.id) m.reply.rev) m.reply.data) [112, 111, 100, 115] (m.reply.pods.length : Int)) [117, 115, 101] (m.reply.use.length : Int)
 have hll : True := trivial
 refine AC_seq (AC_region ?_)
 refine s_ (S_box rfl (.tmp rfl)) ?_
 rintro _ _ ⟨b1, rfl, rfl⟩
 refine p_ (S_assign rfl (AEv.S _)) ?_
 refine AL_nil ?_
 refine AC_seq ?_
 refine AC_seq (AC_region ?_)
 refine fl 0 ?_
 refine ld 0 ?_
 refine AL_nil ?_
 refine AC_block ?_
 refine AC_seq (AC_region ?_)
 refine p_ (S_eql rfl (.tmp rfl) (AEv.const _)) ?_
 refine as_ rfl rfl rfl rfl ?_
 refine AL_nil ?_
 refine AC_cond (.tmp rfl) (fun hb2 => ?_) (fun hb2 => ?_)
 ·try simp only [zA,zO,zN,zM,zP,zQ,zD,zF,gd] at hb2
  have hk : m.kind = 1 := by omega
  refine AC_seq (AC_region ?_)
  refine fl 2 ?_
  refine ldN 7 0 ?_
  refine s_ (S_alloc [.int .i64 0, .int .i64 0, .int .i64 0, .int .u64 0, .string ⟨#[]⟩, .slice none 0 0, .slice none 0 0] rfl (by kernel_rfl)) ?_
  rintro _ _ ⟨b3, rfl, rfl⟩
  refine stW 0 ?_
  refine AL_nil ?_
  refine AC_seq ?_
  refine AC_plan (σ := [(0, 0), (1, 0), (2, 0), (3, 0), (4, 0), (5, 0), (7, 0), (8, 0), (10, 0), (11, 0), (6, 1), (9, 1), (12, 2), (13, 0)]) (by kernel_rfl) [_, _] (by kernel_rfl) (fun r hr => List.mem_append_left _ hr) ?_
  refine AG.f rfl rfl (fun st' hst => Q_p rfl (S_field 1 rfl (.tmp rfl) (by kernel_rfl))) ?_
  refine AG.f rfl rfl (fun st' hst => Q_p rfl (S_loadM rfl (.tmp rfl) (hst _ (List.mem_of_getElem? (i := 1) rfl)) rfl (by kernel_rfl))) ?_
  refine AG.f rfl rfl (fun st' hst => Q_p rfl (S_pcall rfl (AEvs.cons (.tmp rfl) AEvs.nil) (num_Text_ok m.num hf1))) ?_
  refine AG.f rfl rfl (fun st' hst => Q_p rfl (S_field 0 rfl (.tmp rfl) (by kernel_rfl))) ?_
  refine AG.f rfl rfl (fun st' hst => Q_p rfl (S_loadM rfl (.tmp rfl) (hst _ (List.mem_of_getElem? (i := 0) rfl)) rfl (by kernel_rfl))) ?_
  refine AG.f rfl rfl (fun st' hst => Q_p rfl (S_pcall rfl (AEvs.cons (.tmp rfl) AEvs.nil) (num_Text_ok m.reply.code hf2))) ?_
  refine AG.f rfl rfl (fun st' hst => Q_p rfl (S_field 1 rfl (.tmp rfl) (by kernel_rfl))) ?_
  refine AG.f rfl rfl (fun st' hst => Q_p rfl (S_loadM rfl (.tmp rfl) (hst _ (List.mem_of_getElem? (i := 0) rfl)) rfl (by kernel_rfl))) ?_
  refine AG.f rfl rfl (fun st' hst => Q_p rfl (S_field 2 rfl (.tmp rfl) (by kernel_rfl))) ?_
  refine AG.f rfl rfl (fun st' hst => Q_p rfl (S_loadM rfl (.tmp rfl) (hst _ (List.mem_of_getElem? (i := 0) rfl)) rfl (by kernel_rfl))) ?_
  refine AG.s rfl rfl rfl (S_buildOwn (e := 9) 1 rfl (AEvs.cons (AEv.S _) (AEvs.cons (.tmp rfl) (AEvs.cons (.tmp rfl) AEvs.nil))) rfl (by kernel_rfl) (by kernel_rfl) (by simp [AV.flat, AV.one, AV.cells, Value.oneCell']) (by decide) (by decide) (by decide)) ?_ ?_
  ·rintro _ _ ⟨b4, rfl, rfl⟩ r hr; exact List.mem_cons_of_mem _ (List.mem_append_left _ hr)
  rintro _ _ ⟨b4, rfl, rfl⟩
  refine AG.s rfl rfl rfl (S_call rfl (AEvs.cons (y := ownAV (.row b4 0 3) 1 ([replyN, textL m.num, textL m.reply.code].map AV.S)) (.tmp rfl) (AEvs.cons (AEv.S _) (AEvs.cons (.tmp rfl) AEvs.nil))) (tell_said_ok (.row b4 0 3) [replyN, textL m.num, textL m.reply.code] (Nat.le_refl _) (by have := hll; omega) [117, 105, 100] (by decide) m.reply.uid hf3 ((b3, .cells (repL m.reply)) :: (b1, .cells (msgL m)) :: st))) ?_ ?_
  ·rintro _ _ ⟨_, ⟨p1, hp1, rfl, rfl⟩, rfl⟩ r hr; exact List.mem_append_right _ (List.mem_append_left _ hr)
  rintro _ _ ⟨_, ⟨p1, hp1, rfl, rfl⟩, rfl⟩
  refine AG.h rfl rfl rfl (S_call rfl (AEvs.cons (.tmp rfl) (AEvs.cons (AEv.S _) (AEvs.cons (.tmp rfl) AEvs.nil))) (tell_said_ok p1 (saidL [replyN, textL m.num, textL m.reply.code] [117, 105, 100] m.reply.uid) hp1 (by have := hll; omega) [105, 100] (by decide) m.reply.id hf4 ((b3, .cells (repL m.reply)) :: (b1, .cells (msgL m)) :: st))) ?_
  rintro _ _ ⟨_, ⟨p2, hp2, rfl, rfl⟩, rfl⟩
  refine AG.f rfl rfl (fun st' hst => Q_p rfl (S_assign rfl (.tmp rfl))) ?_
  refine AG.nil ?_
  refine AC_joinK (G := Own) [(1, _), (2, _), (3, _), (7, _)] (fun p => p.ok ((revL (saidL (saidL [replyN, textL m.num, textL m.reply.code] [117, 105, 100] m.reply.uid) [105, 100] m.reply.id) m.reply.rev).map AV.S)) (fun g => [(4, ownAV g 1 ((revL (saidL (saidL [replyN, textL m.num, textL m.reply.code] [117, 105, 100] m.reply.uid) [105, 100] m.reply.id) m.reply.rev).map AV.S))]) (fun g => ownSt g 9 1 (((revL (saidL (saidL [replyN, textL m.num, textL m.reply.code] [117, 105, 100] m.reply.uid) [105, 100] m.reply.id) m.reply.rev)).map AV.S) ++ ((b3, .cells (repL m.reply)) :: (b1, .cells (msgL m)) :: st)) (.cons rfl (Le.refl _) (.cons rfl (Le.refl _) (.cons rfl (Le.refl _) (.cons rfl (Le.refl _) .nil)))) ?_ ?_
  ·refine AC_seq (AC_region ?_)
   refine fl 3 ?_
   refine p_ (S_loadM rfl (.tmp rfl) (by repeat (first | exact List.mem_cons_self | refine List.mem_append_right _ ?_ | refine List.mem_cons_of_mem _ ?_)) rfl (by kernel_rfl)) ?_
   refine p_ (S_gtr rfl (.tmp rfl) (AEv.const _)) ?_
   refine AL_nil ?_
   refine AC_cond (.tmp rfl) (fun hb4 => ?_) (fun hb4 => ?_)
   ·try simp only [zA,zO,zN,zM,zP,zQ,zD,zF,gd] at hb4
    have hpe := rev_some (l := (saidL (saidL [replyN, textL m.num, textL m.reply.code] [117, 105, 100] m.reply.uid) [105, 100] m.reply.id)) (n := m.reply.rev) (by omega)
    refine AC_region ?_
    refine mv rfl rfl rfl rfl ?_
    refine fl 3 ?_
    refine p_ (S_loadM rfl (.tmp rfl) (by repeat (first | exact List.mem_cons_self | refine List.mem_append_right _ ?_ | refine List.mem_cons_of_mem _ ?_)) rfl (by kernel_rfl)) ?_
    refine p_ (S_pcall rfl (AEvs.cons (.tmp rfl) AEvs.nil) (tell_big_ok m.reply.rev hu.1)) ?_
    refine p_ (S_cat rfl (AEv.S _) (.tmp rfl) (by first | omega | (simp only [List.length_append, List.length_cons, List.length_nil]; omega))) ?_
    refine p_ (S_buildSlice (e := 9) 1 rfl (AEvs.cons (.tmp rfl) AEvs.nil) rfl (by kernel_rfl) (by kernel_rfl) (by intro y hy; simp only [List.mem_cons, List.not_mem_nil, or_false] at hy; rcases hy with rfl <;> exact ⟨rfl, rfl⟩) (by decide) (by decide) (by decide)) ?_
    refine s_ (S_appendM (f := AV.S) (l := (saidL (saidL [replyN, textL m.num, textL m.reply.code] [117, 105, 100] m.reply.uid) [105, 100] m.reply.id)) (l2 := [[114, 101, 118, 61] ++ digL m.reply.rev]) (e := 9) (size := 1) (bytes := 16) (p := p2) ([]) (((b3, .cells (repL m.reply)) :: (b1, .cells (msgL m)) :: st)) rfl (.tmp rfl) (.tmp rfl) rfl hp2 (by kernel_rfl) (by simp) (fun _ => ⟨rfl, rfl⟩) (by simp only [List.length_singleton]; omega) (by simp only [List.length_singleton]; omega)) ?_
    rintro _ _ ⟨b8, k8, cap8, hx8, rfl, rfl⟩
    refine as_ rfl rfl rfl rfl ?_
    refine AL_nil ?_
    exact ⟨.row b8 k8 cap8, by rw [hpe]; exact hx8, by rw [hpe]; exact (Sub.l (List.Sublist.refl _)), (.cons rfl (Le.of_eq (by rw [hpe])) .nil), (.cons rfl (Le.refl _) (.cons rfl (Le.refl _) (.cons rfl (Le.refl _) (.cons rfl (Le.refl _) .nil))))⟩
   try simp only [zA,zO,zN,zM,zP,zQ,zD,zF,gd] at hb4
   have hpe := rev_none (l := (saidL (saidL [replyN, textL m.num, textL m.reply.code] [117, 105, 100] m.reply.uid) [105, 100] m.reply.id)) (n := m.reply.rev) (by omega)
   refine AC_skip ?_
   exact ⟨p2, by rw [hpe]; exact hp2, by rw [hpe]; exact (Sub.l (List.Sublist.refl _)), (.cons rfl (Le.of_eq (by rw [hpe])) .nil), (.cons rfl (Le.refl _) (.cons rfl (Le.refl _) (.cons rfl (Le.refl _) (.cons rfl (Le.refl _) .nil))))⟩
  rintro p9 hq9
  try dsimp only
  simp only [List.cons_append, List.nil_append]
  refine AC_joinK (G := Own) [(1, _), (2, _), (3, _), (7, _)] (fun p => p.ok ((dataL (revL (saidL (saidL [replyN, textL m.num, textL m.reply.code] [117, 105, 100] m.reply.uid) [105, 100] m.reply.id) m.reply.rev) m.reply.data).map AV.S)) (fun g => [(4, ownAV g 1 ((dataL (revL (saidL (saidL [replyN, textL m.num, textL m.reply.code] [117, 105, 100] m.reply.uid) [105, 100] m.reply.id) m.reply.rev) m.reply.data).map AV.S))]) (fun g => ownSt g 9 1 (((dataL (revL (saidL (saidL [replyN, textL m.num, textL m.reply.code] [117, 105, 100] m.reply.uid) [105, 100] m.reply.id) m.reply.rev) m.reply.data)).map AV.S) ++ ((b3, .cells (repL m.reply)) :: (b1, .cells (msgL m)) :: st)) (.cons rfl (Le.refl _) (.cons rfl (Le.refl _) (.cons rfl (Le.refl _) (.cons rfl (Le.refl _) .nil)))) ?_ ?_
  ·refine AC_seq (AC_region ?_)
   refine fl 4 ?_
   refine p_ (S_loadM rfl (.tmp rfl) (by repeat (first | exact List.mem_cons_self | refine List.mem_append_right _ ?_ | refine List.mem_cons_of_mem _ ?_)) rfl (by kernel_rfl)) ?_
   refine p_ (S_neS rfl (.tmp rfl) (AEv.S _)) ?_
   refine AL_nil ?_
   refine AC_cond (.tmp rfl) (fun hb7 => ?_) (fun hb7 => ?_)
   ·try simp only [zA,zO,zN,zM,zP,zQ,zD,zF,gd] at hb7
    have hpe := data_some (l := (revL (saidL (saidL [replyN, textL m.num, textL m.reply.code] [117, 105, 100] m.reply.uid) [105, 100] m.reply.id) m.reply.rev)) (d := m.reply.data) (by simpa using hb7)
    refine AC_region ?_
    refine mv rfl rfl rfl rfl ?_
    refine fl 4 ?_
    refine p_ (S_loadM rfl (.tmp rfl) (by repeat (first | exact List.mem_cons_self | refine List.mem_append_right _ ?_ | refine List.mem_cons_of_mem _ ?_)) rfl (by kernel_rfl)) ?_
    refine p_ (S_cat rfl (AEv.S _) (.tmp rfl) (by first | omega | (simp only [List.length_append, List.length_cons, List.length_nil]; omega))) ?_
    refine p_ (S_buildSlice (e := 9) 1 rfl (AEvs.cons (.tmp rfl) AEvs.nil) rfl (by kernel_rfl) (by kernel_rfl) (by intro y hy; simp only [List.mem_cons, List.not_mem_nil, or_false] at hy; rcases hy with rfl <;> exact ⟨rfl, rfl⟩) (by decide) (by decide) (by decide)) ?_
    refine s_ (S_appendM (f := AV.S) (l := (revL (saidL (saidL [replyN, textL m.num, textL m.reply.code] [117, 105, 100] m.reply.uid) [105, 100] m.reply.id) m.reply.rev)) (l2 := [[100, 97, 116, 97, 61] ++ m.reply.data]) (e := 9) (size := 1) (bytes := 16) (p := p9) ([]) (((b3, .cells (repL m.reply)) :: (b1, .cells (msgL m)) :: st)) rfl (.tmp rfl) (.tmp rfl) rfl hq9 (by kernel_rfl) (by simp) (fun _ => ⟨rfl, rfl⟩) (by simp only [List.length_singleton]; omega) (by simp only [List.length_singleton]; omega)) ?_
    rintro _ _ ⟨b8, k8, cap8, hx8, rfl, rfl⟩
    refine as_ rfl rfl rfl rfl ?_
    refine AL_nil ?_
    exact ⟨.row b8 k8 cap8, by rw [hpe]; exact hx8, by rw [hpe]; exact (Sub.l (List.Sublist.refl _)), (.cons rfl (Le.of_eq (by rw [hpe])) .nil), (.cons rfl (Le.refl _) (.cons rfl (Le.refl _) (.cons rfl (Le.refl _) (.cons rfl (Le.refl _) .nil))))⟩
   try simp only [zA,zO,zN,zM,zP,zQ,zD,zF,gd] at hb7
   have hpe := data_none (l := (revL (saidL (saidL [replyN, textL m.num, textL m.reply.code] [117, 105, 100] m.reply.uid) [105, 100] m.reply.id) m.reply.rev)) (d := m.reply.data) (by simpa using hb7)
   refine AC_skip ?_
   exact ⟨p9, by rw [hpe]; exact hq9, by rw [hpe]; exact (Sub.l (List.Sublist.refl _)), (.cons rfl (Le.of_eq (by rw [hpe])) .nil), (.cons rfl (Le.refl _) (.cons rfl (Le.refl _) (.cons rfl (Le.refl _) (.cons rfl (Le.refl _) .nil))))⟩
  rintro p9 hq9
  try dsimp only
  simp only [List.cons_append, List.nil_append]
  refine AC_seq ?_
  refine AC_plan (σ := [(0, 0), (1, 0), (2, 0), (3, 0), (5, 0), (6, 0), (7, 0), (4, 1), (8, 2), (9, 0), (10, 0)]) (by kernel_rfl) [(b3, Ob.cells (repL m.reply)), (b1, Ob.cells (msgL m))] (by kernel_rfl) (fun r hr => List.mem_append_right _ (List.mem_append_left _ hr)) ?_
  refine AG.f rfl rfl (fun st' hst => Q_p rfl (S_move rfl (.tmp rfl))) ?_
  refine AG.f rfl rfl (fun st' hst => Q_p rfl (S_field 5 rfl (.tmp rfl) (by kernel_rfl))) ?_
  refine AG.f rfl rfl (fun st' hst => Q_p rfl (S_loadM rfl (.tmp rfl) (hst _ (List.mem_of_getElem? (i := 0) rfl)) rfl (by kernel_rfl))) ?_
  refine AG.f rfl rfl (fun st' hst => Q_p rfl (by first | exact S_lenM (e := 34) rfl (.tmp rfl) (by kernel_rfl) | exact S_len (e := 34) rfl (.tmp rfl) (by kernel_rfl))) ?_
  refine AG.f rfl rfl (fun st' hst => Q_p rfl (S_field 6 rfl (.tmp rfl) (by kernel_rfl))) ?_
  refine AG.f rfl rfl (fun st' hst => Q_p rfl (S_loadM rfl (.tmp rfl) (hst _ (List.mem_of_getElem? (i := 0) rfl)) rfl (by kernel_rfl))) ?_
  refine AG.f rfl rfl (fun st' hst => Q_p rfl (by first | exact S_lenM (e := 74) rfl (.tmp rfl) (by kernel_rfl) | exact S_len (e := 74) rfl (.tmp rfl) (by kernel_rfl))) ?_
  refine AG.s rfl rfl rfl (S_call rfl (AEvs.cons (.tmp rfl) (AEvs.cons (AEv.S _) (AEvs.cons (.tmp rfl) AEvs.nil))) (tell_said_ok p9 (dataL (revL (saidL (saidL [replyN, textL m.num, textL m.reply.code] [117, 105, 100] m.reply.uid) [105, 100] m.reply.id) m.reply.rev) m.reply.data) hq9 (by have := hll; omega) [112, 111, 100, 115] (by decide) (m.reply.pods.length : Int) hfp ((b3, .cells (repL m.reply)) :: (b1, .cells (msgL m)) :: st))) ?_ ?_
  ·rintro _ _ ⟨_, ⟨p5, hp5, rfl, rfl⟩, rfl⟩ r hr; exact List.mem_append_right _ (List.mem_append_left _ hr)
  rintro _ _ ⟨_, ⟨p5, hp5, rfl, rfl⟩, rfl⟩
  refine AG.h rfl rfl rfl (S_call rfl (AEvs.cons (.tmp rfl) (AEvs.cons (AEv.S _) (AEvs.cons (.tmp rfl) AEvs.nil))) (tell_said_ok p5 (saidL (dataL (revL (saidL (saidL [replyN, textL m.num, textL m.reply.code] [117, 105, 100] m.reply.uid) [105, 100] m.reply.id) m.reply.rev) m.reply.data) [112, 111, 100, 115] (m.reply.pods.length : Int)) hp5 (by have := hll; omega) [117, 115, 101] (by decide) (m.reply.use.length : Int) hfu ((b3, .cells (repL m.reply)) :: (b1, .cells (msgL m)) :: st))) ?_
  rintro _ _ ⟨_, ⟨p6, hp6, rfl, rfl⟩, rfl⟩
  refine AG.f rfl rfl (fun st' hst => Q_p rfl (S_pcall rfl (AEvs.cons (y := .sl ((saidL (saidL (dataL (revL (saidL (saidL [replyN, textL m.num, textL m.reply.code] [117, 105, 100] m.reply.uid) [105, 100] m.reply.id) m.reply.rev) m.reply.data) [112, 111, 100, 115] (m.reply.pods.length : Int)) [117, 115, 101] (m.reply.use.length : Int)).map AV.S)) ((AEv.tmp rfl).le (Le_own hp6)) (AEvs.cons (AEv.S _) AEvs.nil)) (join_ok (saidL (saidL (dataL (revL (saidL (saidL [replyN, textL m.num, textL m.reply.code] [117, 105, 100] m.reply.uid) [105, 100] m.reply.id) m.reply.rev) m.reply.data) [112, 111, 100, 115] (m.reply.pods.length : Int)) [117, 115, 101] (m.reply.use.length : Int)) [32] (by omega) (by have := replyLn_join hm hu ⟨hf1, hf2, hf3, hf4⟩; unfold replyLn at this; omega)))) ?_
  refine AG.f rfl rfl (fun st' hst => Q_p rfl (S_assign rfl (.tmp rfl))) ?_
  refine AG.nil ?_
  refine AC_ret ?_
  refine ret_tmp st rfl rfl (Sub.l (List.sublist_append_of_sublist_right (.cons _ (.cons _ (List.Sublist.refl _))))) (Conv.refl (Sub.l (List.sublist_append_of_sublist_right (.cons _ (.cons _ (List.Sublist.refl _))))) _) ⟨by unfold lineM; rw [if_pos hk]; rfl, rfl⟩ (.inl rfl)
 try simp only [zA,zO,zN,zM,zP,zQ,zD,zF,gd] at hb2
 have hk : ¬ m.kind = 1 := by omega
 refine AC_seq (AC_region ?_)
 refine p_ (S_eql rfl (.tmp rfl) (AEv.const _)) ?_
 refine as_ rfl rfl rfl rfl ?_
 refine AL_nil ?_
 refine AC_cond (.tmp rfl) (fun hb10 => ?_) (fun hb10 => ?_)
 ·try simp only [zA,zO,zN,zM,zP,zQ,zD,zF,gd] at hb10
  have hk2 : m.kind = 2 := by omega
  refine AC_seq ?_
  refine AC_plan (σ := [(0, 0), (1, 0), (2, 0), (3, 0), (4, 0), (5, 0), (6, 0), (7, 0), (8, 0), (9, 0), (10, 0), (11, 2), (12, 0)]) (by kernel_rfl) [_] (by kernel_rfl) (fun r hr => List.mem_append_left _ hr) ?_
  refine AG.f rfl rfl (fun st' hst => Q_p rfl (S_field 1 rfl (.tmp rfl) (by kernel_rfl))) ?_
  refine AG.f rfl rfl (fun st' hst => Q_p rfl (S_loadM rfl (.tmp rfl) (hst _ (List.mem_of_getElem? (i := 0) rfl)) rfl (by kernel_rfl))) ?_
  refine AG.f rfl rfl (fun st' hst => Q_p rfl (S_pcall rfl (AEvs.cons (.tmp rfl) AEvs.nil) (num_Text_ok m.num hf1))) ?_
  refine AG.f rfl rfl (fun st' hst => Q_p rfl (S_field 9 rfl (.tmp rfl) (by kernel_rfl))) ?_
  refine AG.f rfl rfl (fun st' hst => Q_p rfl (S_field 0 rfl (.tmp rfl) (by kernel_rfl))) ?_
  refine AG.f rfl rfl (fun st' hst => Q_p rfl (S_loadM rfl (.tmp rfl) (hst _ (List.mem_of_getElem? (i := 0) rfl)) rfl (by kernel_rfl))) ?_
  refine AG.f rfl rfl (fun st' hst => Q_p rfl (S_pcall rfl (AEvs.cons (.tmp rfl) AEvs.nil) (tell_word_ok m.event.kind))) ?_
  refine AG.f rfl rfl (fun st' hst => Q_p rfl (S_field 9 rfl (.tmp rfl) (by kernel_rfl))) ?_
  refine AG.f rfl rfl (fun st' hst => Q_p rfl (S_field 1 rfl (.tmp rfl) (by kernel_rfl))) ?_
  refine AG.f rfl rfl (fun st' hst => Q_p rfl (S_loadM rfl (.tmp rfl) (hst _ (List.mem_of_getElem? (i := 0) rfl)) rfl (by kernel_rfl))) ?_
  refine AG.f rfl rfl (fun st' hst => Q_p rfl (S_pcall rfl (AEvs.cons (.tmp rfl) AEvs.nil) (tell_big_ok m.event.rev hu.2.2.1))) ?_
  refine AG.h rfl rfl rfl (S_buildOwn (e := 9) 1 rfl (AEvs.cons (AEv.S _) (AEvs.cons (.tmp rfl) (AEvs.cons (.tmp rfl) (AEvs.cons (.tmp rfl) AEvs.nil)))) rfl (by kernel_rfl) (by kernel_rfl) (by simp [AV.flat, AV.one, AV.cells, Value.oneCell']) (by decide) (by decide) (by decide)) ?_
  rintro _ _ ⟨b5, rfl, rfl⟩
  refine AG.f rfl rfl (fun st' hst => Q_p rfl (S_assign rfl (.tmp rfl))) ?_
  refine AG.nil ?_
  refine AC_seq ?_
  refine AC_seq (AC_region ?_)
  refine fl 9 ?_
  refine fl 0 ?_
  refine p_ (S_loadM rfl (.tmp rfl) (by repeat (first | exact List.mem_cons_self | refine List.mem_append_right _ ?_ | refine List.mem_cons_of_mem _ ?_)) rfl (by kernel_rfl)) ?_
  refine p_ (S_pcall rfl (AEvs.cons (.tmp rfl) AEvs.nil) (tell_whole_ok m.event.kind)) ?_
  refine AL_nil ?_
  refine AC_cond (.tmp rfl) (fun hb11 => ?_) (fun hb11 => ?_)
  ·try simp only [zA,zO,zN,zM,zP,zQ,zD,zF,gd] at hb11
   have hw : wholeB m.event.kind = true := hb11
   have hev : eventLn m.num m.event = [eventN, textL m.num, wordE m.event.kind, digL m.event.rev] ++ [m.event.pod.spec.name] := by unfold eventLn; rw [if_pos hw]
   refine AC_region ?_
   refine mv rfl rfl rfl rfl ?_
   refine fl 9 ?_
   refine fl 2 ?_
   refine fl 2 ?_
   refine fl 0 ?_
   refine p_ (S_loadM rfl (.tmp rfl) (by repeat (first | exact List.mem_cons_self | refine List.mem_append_right _ ?_ | refine List.mem_cons_of_mem _ ?_)) rfl (by kernel_rfl)) ?_
   refine p_ (S_buildSlice (e := 9) 1 rfl (AEvs.cons (.tmp rfl) AEvs.nil) rfl (by kernel_rfl) (by kernel_rfl) (by intro y hy; simp only [List.mem_cons, List.not_mem_nil, or_false] at hy; rcases hy with rfl <;> exact ⟨rfl, rfl⟩) (by decide) (by decide) (by decide)) ?_
   refine s_ (S_appendM (f := AV.S) (l := [eventN, textL m.num, wordE m.event.kind, digL m.event.rev]) (l2 := [m.event.pod.spec.name]) (e := 9) (size := 1) (bytes := 16) (p := (.row b5 0 4)) ([]) (((b1, .cells (msgL m)) :: st)) rfl (.tmp rfl) (.tmp rfl) rfl (Nat.le_refl _) (by kernel_rfl) (by simp) (fun _ => ⟨rfl, rfl⟩) (by simp) (by simp)) ?_
   rintro _ _ ⟨b8, k8, cap8, hx8, rfl, rfl⟩
   refine as_ rfl rfl rfl rfl ?_
   refine AL_nil (AC_seq (AC_region ?_))
   refine mv rfl rfl rfl rfl ?_
   refine p_ (S_pcall rfl (AEvs.cons (y := .sl ((eventLn m.num m.event).map AV.S)) ((AEv.tmp rfl).le (by first | exact (Le_own hx8).tr (Le.of_eq (congrArg AV.sl (by rw [hev]))) | exact (Le.row _ _ _ _).tr (Le.of_eq (congrArg AV.sl (by rw [hev]; rfl))))) (AEvs.cons (AEv.S _) AEvs.nil)) (join_ok (eventLn m.num m.event) [32] (by unfold eventLn; split <;> simp) (by have := eventLn_join hm hu ⟨hf1, hf2, hf3, hf4⟩; omega))) ?_
   refine as_ rfl rfl rfl rfl ?_
   refine AL_nil (AC_ret ?_)
   refine ret_tmp st rfl rfl (Sub.l (List.sublist_append_of_sublist_right (.cons _ (List.Sublist.refl _)))) (Conv.refl (Sub.l (List.sublist_append_of_sublist_right (.cons _ (List.Sublist.refl _)))) _) ⟨by unfold lineM; rw [if_neg hk, if_pos hk2], rfl⟩ (.inl rfl)
  try simp only [zA,zO,zN,zM,zP,zQ,zD,zF,gd] at hb11
  have hw : ¬ wholeB m.event.kind = true := by simpa using hb11
  have hev : eventLn m.num m.event = [eventN, textL m.num, wordE m.event.kind, digL m.event.rev] := by unfold eventLn; rw [if_neg hw, List.append_nil]
  refine AC_skip ?_
  refine AC_seq (AC_region ?_)
  refine mv rfl rfl rfl rfl ?_
  refine p_ (S_pcall rfl (AEvs.cons (y := .sl ((eventLn m.num m.event).map AV.S)) ((AEv.tmp rfl).le (by first | exact (Le_own hx8).tr (Le.of_eq (congrArg AV.sl (by rw [hev]))) | exact (Le.row _ _ _ _).tr (Le.of_eq (congrArg AV.sl (by rw [hev]; rfl))))) (AEvs.cons (AEv.S _) AEvs.nil)) (join_ok (eventLn m.num m.event) [32] (by unfold eventLn; split <;> simp) (by have := eventLn_join hm hu ⟨hf1, hf2, hf3, hf4⟩; omega))) ?_
  refine as_ rfl rfl rfl rfl ?_
  refine AL_nil (AC_ret ?_)
  refine ret_tmp st rfl rfl (Sub.l (.cons _ (.cons _ (List.Sublist.refl _)))) (Conv.refl (Sub.l (.cons _ (.cons _ (List.Sublist.refl _)))) _) ⟨by unfold lineM; rw [if_neg hk, if_pos hk2], rfl⟩ (.inl rfl)
 try simp only [zA,zO,zN,zM,zP,zQ,zD,zF,gd] at hb10
 have hk2 : ¬ m.kind = 2 := by omega
 refine AC_skip ?_
 refine AC_seq (AC_region ?_)
 refine p_ (S_assign rfl (AEv.S _)) ?_
 refine AL_nil (AC_ret ?_)
 refine ret_tmp st rfl rfl (Sub.l (.cons _ (List.Sublist.refl _))) (Conv.refl (Sub.l (.cons _ (List.Sublist.refl _))) _) ⟨by unfold lineM; rw [if_neg hk, if_neg hk2], rfl⟩ (.inl rfl)
end Go.Proofs.YtemmkkmpchphkaaGreatDoor

set_option maxRecDepth 100000
namespace Go.Proofs.YtemmkkmpchphkaaGreatDoor
open Go.AL Go.NumSpec
theorem book_SamePod_ok (a b : Pod) (ha : ShortP a) (hb : ShortP b) : PCalls Tryz.prog 20 [podAV a, podAV b] (.bool (samePd a b)) := by
 intro st
 refine co 52 Tryz.func20 ?_
 have ha2 := ha.2
 have hb2' := hb.2
 refine AC_seq (AC_region ?_)
 refine s_ (S_box rfl (.tmp rfl)) ?_
 rintro _ _ ⟨b2, rfl, rfl⟩
 refine s_ (S_box rfl (.tmp rfl)) ?_
 rintro _ _ ⟨b3, rfl, rfl⟩
 refine ac rfl rfl rfl ?_
 refine AL_nil (AC_seq (AC_region ?_))
 refine fl 0 ?_
 refine ld 1 ?_
 refine fl 0 ?_
 refine ld 0 ?_
 refine p_ (S_eql rfl (.tmp rfl) (.tmp rfl)) ?_
 refine mv rfl rfl rfl rfl ?_
 refine g_ (fun _ => fA 1) ?_
 refine g_ (fun _ => lA 1) ?_
 refine g_ (fun _ => fA 1) ?_
 refine g_ (fun _ => lA 0) ?_
 refine g_ (fun _ => S_eql rfl (AEv.cd (.tmp rfl)) (AEv.cd (.tmp rfl))) ?_
 refine an ?_
 refine mv rfl rfl rfl rfl ?_
 refine g_ (fun _ => fA 2) ?_
 refine g_ (fun _ => lN 7 1) ?_
 refine g_ (fun _ => fA 2) ?_
 refine g_ (fun _ => lN 7 0) ?_
 refine g_ (fun _ => S_pcall rfl (AEvs.cons (AEv.cd (.tmp rfl)) (AEvs.cons (AEv.cd (.tmp rfl)) AEvs.nil)) (book_SameSpec_ok a.spec b.spec (light_short ha.1) (light_short hb.1))) ?_
 refine an ?_
 refine mv rfl rfl rfl rfl ?_
 refine g_ (fun _ => fA 9) ?_
 refine g_ (fun _ => lA 1) ?_
 refine g_ (fun _ => fA 9) ?_
 refine g_ (fun _ => lA 0) ?_
 refine g_ (fun _ => S_eql rfl (AEv.cd (.tmp rfl)) (AEv.cd (.tmp rfl))) ?_
 refine an ?_
 refine mv rfl rfl rfl rfl ?_
 refine g_ (fun _ => fA 10) ?_
 refine g_ (fun _ => lA 1) ?_
 refine g_ (fun _ => fA 10) ?_
 refine g_ (fun _ => lA 0) ?_
 refine g_ (fun _ => S_pcall rfl (AEvs.cons (AEv.cd (.tmp rfl)) (AEvs.cons (AEv.cd (.tmp rfl)) AEvs.nil)) (book_SameInts_ok a.ports b.ports (by omega) (by omega))) ?_
 refine an ?_
 refine mv rfl rfl rfl rfl ?_
 refine g_ (fun _ => fA 11) ?_
 refine g_ (fun _ => lA 1) ?_
 refine g_ (fun _ => fA 11) ?_
 refine g_ (fun _ => lA 0) ?_
 refine g_ (fun _ => S_eql rfl (AEv.cd (.tmp rfl)) (AEv.cd (.tmp rfl))) ?_
 refine an ?_
 refine mv rfl rfl rfl rfl ?_
 refine g_ (fun _ => fA 12) ?_
 refine g_ (fun _ => lA 1) ?_
 refine g_ (fun _ => fA 12) ?_
 refine g_ (fun _ => lA 0) ?_
 refine g_ (fun _ => S_eql rfl (AEv.cd (.tmp rfl)) (AEv.cd (.tmp rfl))) ?_
 refine an ?_
 refine as_ rfl rfl rfl rfl ?_
 refine AL_nil (AC_ret ?_)
 refine ret_tmp st rfl rfl (Sub.l ((List.sublist_cons_self _ _).trans (List.sublist_cons_self _ _))) (Conv.refl (Sub.l ((List.sublist_cons_self _ _).trans (List.sublist_cons_self _ _))) _) ⟨congrArg AV.bool (by simp only [samePd, Int.ofNat_inj]), rfl⟩ (.inl rfl)
theorem law09_lightPod_ok (p : Pod) : PCalls Tryz.prog 18 [podAV p] (.bool (lightPd p)) := by
 intro st
 refine co 12 Tryz.func18 ?_
 refine AC_seq (AC_region ?_)
 refine s_ (S_box rfl (.tmp rfl)) ?_
 rintro _ _ ⟨b1, rfl, rfl⟩
 refine ac rfl rfl rfl ?_
 refine AL_nil (AC_seq (AC_region ?_))
 refine fl 2 ?_
 refine ldN 7 0 ?_
 refine p_ (S_pcall rfl (AEvs.cons (.tmp rfl) AEvs.nil) (book_LightSpec_ok p.spec)) ?_
 refine mv rfl rfl rfl rfl ?_
 refine g_ (fun _ => fA 10) ?_
 refine g_ (fun _ => lA 0) ?_
 refine g_ (fun _ => by first | exact S_lenM (e := 3) rfl (AEv.cd (.tmp rfl)) (by kernel_rfl) | exact S_len (e := 3) rfl (AEv.cd (.tmp rfl)) (by kernel_rfl)) ?_
 refine g_ (fun _ => S_leq rfl (AEv.cd (.tmp rfl)) (AEv.const _)) ?_
 refine an ?_
 refine as_ rfl rfl rfl rfl ?_
 refine AL_nil (AC_ret ?_)
 refine ret_tmp st rfl rfl (Sub.l (List.sublist_cons_self _ _)) (Conv.refl (Sub.l (List.sublist_cons_self _ _)) _) ⟨rfl, rfl⟩ (.inl rfl)
theorem law09_light_ok (m : Msg) : PCalls Tryz.prog 7 [msgAV m] (.bool (lightM m)) := by
 intro st
 refine co 46 Tryz.func7 ?_
 refine AC_seq (AC_region ?_)
 refine s_ (S_box rfl (.tmp rfl)) ?_
 rintro _ _ ⟨b1, rfl, rfl⟩
 refine ac rfl rfl rfl ?_
 refine AL_nil ?_
 refine AC_seq ?_
 refine AC_seq (AC_region ?_)
 refine fl 2 ?_
 refine fl 4 ?_
 refine ld 0 ?_
 refine p_ (S_lenS (ts := #[]) rfl (.tmp rfl) (by kernel_rfl)) ?_
 refine p_ (S_gtr rfl (.tmp rfl) (AEv.const _)) ?_
 refine mv rfl rfl rfl rfl ?_
 refine g_ (fun _ => fA 2) ?_
 refine g_ (fun _ => S_field 5 rfl (AEv.cd (.tmp rfl)) (by kernel_rfl)) ?_
 refine g_ (fun _ => lA 0) ?_
 refine g_ (fun _ => by first | exact S_lenM (e := 34) rfl (AEv.cd (.tmp rfl)) (by kernel_rfl) | exact S_len (e := 34) rfl (AEv.cd (.tmp rfl)) (by kernel_rfl)) ?_
 refine g_ (fun _ => S_gtr rfl (AEv.cd (.tmp rfl)) (AEv.const _)) ?_
 refine p_ (S_or rfl (.tmp rfl) (fun hp17 => (AEv.cd (.tmp rfl)))) ?_
 refine mv rfl rfl rfl rfl ?_
 refine g_ (fun _ => fA 2) ?_
 refine g_ (fun _ => S_field 6 rfl (AEv.cd (.tmp rfl)) (by kernel_rfl)) ?_
 refine g_ (fun _ => lA 0) ?_
 refine g_ (fun _ => by first | exact S_lenM (e := 74) rfl (AEv.cd (.tmp rfl)) (by kernel_rfl) | exact S_len (e := 74) rfl (AEv.cd (.tmp rfl)) (by kernel_rfl)) ?_
 refine g_ (fun _ => S_gtr rfl (AEv.cd (.tmp rfl)) (AEv.const _)) ?_
 refine p_ (S_or rfl (.tmp rfl) (fun hp33 => (AEv.cd (.tmp rfl)))) ?_
 refine mv rfl rfl rfl rfl ?_
 refine g_ (fun _ => fA 9) ?_
 refine g_ (fun _ => S_field 2 rfl (AEv.cd (.tmp rfl)) (by kernel_rfl)) ?_
 refine g_ (fun _ => lN 13 0) ?_
 refine g_ (fun _ => S_pcall rfl (AEvs.cons (y := podAV m.event.pod) (AEv.cd (.tmp rfl)) AEvs.nil) (law09_lightPod_ok m.event.pod)) ?_
 refine g_ (fun _ => S_not rfl (AEv.cd (.tmp rfl))) ?_
 refine p_ (S_or rfl (.tmp rfl) (fun hp49 => (AEv.cd (.tmp rfl)))) ?_
 refine AL_nil ?_
 refine AC_cond (.tmp rfl) (fun hb50 => ?_) (fun hb50 => ?_)
 ·try simp only [zA,zO,zN,zM,zP,zQ,zD,zF,gd] at hb50
  have hx : lightM m = false := by
   cases h9 : lightM m with
   | false => rfl
   | true =>
    exfalso
    simp only [lightM, Bool.and_eq_true, decide_eq_true_eq] at h9
    obtain ⟨⟨⟨⟨h1, h2⟩, h3⟩, h4⟩, h5⟩ := h9
    (try simp only [podsV, List.length_map] at hb50)
    rcases hb50 with ((h | h) | h) | h
    ·omega
    ·omega
    ·omega
    ·rw [h4] at h; cases h
  refine AC_seq (AC_region ?_)
  refine ac rfl rfl rfl ?_
  refine AL_nil (AC_ret ?_)
  refine ret_tmp st rfl rfl (Sub.l (List.sublist_cons_self _ _)) (Conv.refl (Sub.l (List.sublist_cons_self _ _)) _) ⟨by rw [hx] <;> rfl, rfl⟩ (.inl rfl)
 try simp only [zA,zO,zN,zM,zP,zQ,zD,zF,gd] at hb50
 have hh := hb50
 refine AC_skip ?_
 refine AC_seq ?_
 refine AC_seq (AC_region ?_)
 refine ac rfl rfl rfl ?_
 refine AL_nil ?_
 refine AC_block ?_
 refine AC_loopK (G := Nat) [(1, _)] (fun g => g ≤ m.reply.pods.length ∧ ∀ j (h : j < m.reply.pods.length), j < g → lightPd (m.reply.pods[j]'h) = true) (fun g => [(3, .int .i64 (g : Int))]) (fun g => (b1, .cells (msgL m)) :: st) (fun g => m.reply.pods.length - g) (0) (⟨Nat.zero_le _, fun j _ h => absurd h (Nat.not_lt_zero _)⟩) (Sub.l (List.Sublist.refl _)) (.cons rfl (Le.refl _) .nil) (.cons rfl (by first | exact Le.refl _ | exact Le.nils | exact Le.row _ _ _ _ | exact Le.of_eq (by first | rfl | (simp; done) | (push_cast; rfl) | (simp; omega))) .nil) ?_
 rintro i ⟨hi, hall⟩
 try dsimp only
 simp only [List.cons_append, List.nil_append]
 refine AC_seq ?_
 refine AC_seq (AC_region ?_)
 refine mv rfl rfl rfl rfl ?_
 refine fl 2 ?_
 refine fl 5 ?_
 refine ld 0 ?_
 refine p_ (by first | exact S_lenM (e := 34) rfl (.tmp rfl) (by kernel_rfl) | exact S_len (e := 34) rfl (.tmp rfl) (by kernel_rfl)) ?_
 refine p_ (S_lss rfl (.tmp rfl) (.tmp rfl)) ?_
 refine AL_nil ?_
 refine AC_cond (.tmp rfl) (fun hb51 => ?_) (fun hb51 => ?_)
 ·try simp only [zA,zO,zN,zM,zP,zQ,zD,zF,gd] at hb51
  have hil : i < m.reply.pods.length := by first | omega | (have h9 := hb51; simp [podsV] at h9; omega)
  refine AC_skip ?_
  refine AC_seq ?_
  refine AC_block ?_
  refine AC_seq (AC_region ?_)
  refine fl 2 ?_
  refine fl 5 ?_
  refine ld 0 ?_
  refine mv rfl rfl rfl rfl ?_
  refine p_ (S_elemN (e := 34) 13 rfl (.tmp rfl) (.tmp rfl) (by kernel_rfl) (by kernel_rfl) (by omega) (fun _ => rfl)) ?_
  refine p_ (S_loadPN (m := 13) rfl (.tmp rfl) (by kernel_rfl) (by first | exact Nat.le_of_ble_eq_true rfl | (simp; omega) | simp)) ?_
  refine p_ (S_pcall rfl (AEvs.cons (y := podAV (m.reply.pods[i]'hil)) (.tmp rfl) AEvs.nil) (law09_lightPod_ok (m.reply.pods[i]'hil))) ?_
  refine p_ (S_not rfl (.tmp rfl)) ?_
  refine AL_nil ?_
  refine AC_cond (.tmp rfl) (fun hb52 => ?_) (fun hb52 => ?_)
  ·try simp only [zA,zO,zN,zM,zP,zQ,zD,zF,gd] at hb52
   have hx : lightM m = false := by
    cases h9 : lightM m with
    | false => rfl
    | true =>
     exfalso
     simp only [lightM, Bool.and_eq_true, List.all_eq_true] at h9
     have h1 := h9.2 _ (List.getElem_mem hil)
     rw [h1] at hb52; simp at hb52
   refine AC_seq (AC_region ?_)
   refine ac rfl rfl rfl ?_
   refine AL_nil (AC_ret ?_)
   refine ret_tmp st rfl rfl (Sub.l (List.sublist_cons_self _ _)) (Conv.refl (Sub.l (List.sublist_cons_self _ _)) _) ⟨by rw [hx] <;> rfl, rfl⟩ (.inl rfl)
  try simp only [zA,zO,zN,zM,zP,zQ,zD,zF,gd] at hb52
  have hne : lightPd (m.reply.pods[i]'hil) = true := by simpa using hb52
  refine AC_skip ?_
  refine AC_region ?_
  refine mv rfl rfl rfl rfl ?_
  refine p_ (S_addI rfl (.tmp rfl) (AEv.const _) (by omega) (by omega)) ?_
  refine as_ rfl rfl rfl rfl ?_
  refine AL_nil ?_
  refine ⟨i + 1, ⟨by omega, fun j h1 h => ?_⟩, by omega, (Sub.l (List.Sublist.refl _)), (.cons rfl (by first | exact Le.refl _ | exact Le.nils | exact Le.row _ _ _ _ | exact Le.of_eq (by first | rfl | (simp; done) | (push_cast; rfl) | (simp; omega))) .nil), (.cons rfl (Le.refl _) .nil)⟩
  rcases Nat.lt_or_ge j i with h' | h'
  ·exact hall j h1 h'
  ·have : j = i := by omega
   subst this
   exact hne
 try simp only [zA,zO,zN,zM,zP,zQ,zD,zF,gd] at hb51
 have hx : lightM m = true := by
  have hp : m.reply.pods.all lightPd = true := lightPd_all fun j hj => hall j hj (by first | omega | (have h9 := hb51; simp [podsV] at h9; omega))
  obtain ⟨⟨⟨h1, h2⟩, h3⟩, h4⟩ := hh
  unfold lightM
  rw [hp, decide_eq_true (by omega), decide_eq_true (by omega), decide_eq_true (by omega)]
  simpa using h4
 refine AC_exit ?_
 refine AC_seq (AC_region ?_)
 refine ac rfl rfl rfl ?_
 refine AL_nil (AC_ret ?_)
 refine ret_tmp st rfl rfl (Sub.l (List.sublist_cons_self _ _)) (Conv.refl (Sub.l (List.sublist_cons_self _ _)) _) ⟨by rw [hx] <;> rfl, rfl⟩ (.inl rfl)
theorem law09_works_ok : GCalls Tryz.prog tabs 8 [] (.bool true) := by
 intro st hG
 refine co 43 Tryz.func8 ?_
 have e1 := wM_line
 have e2 := msg0_check
 refine AC_seq (AC_region ?_)
 refine ac rfl rfl rfl ?_
 refine AL_nil (AC_seq (AC_region ?_))
 refine p_ (S_build (t := 27) (pl := [(0, 1), (1, 1), (2, 1), (3, 1), (4, 1), (5, 1), (6, 1)]) (zs := [.int .i64 0, .int .i64 0, .int .i64 0, .int .u64 0, .string ⟨#[]⟩, .slice none 0 0, .slice none 0 0]) rfl (AEvs.cons (AEv.const _) AEvs.nil) (by kernel_rfl) rfl) ?_
 refine p_ (S_build (t := 38) (pl := [(0, 1), (1, 1), (2, 7), (9, 15)]) (zs := [.int .i64 0, .int .i64 0, .int .i64 0, .int .i64 0, .int .i64 0, .int .u64 0, .string ⟨#[]⟩, .slice none 0 0, .slice none 0 0, .int .i64 0, .int .u64 0, .int .i64 0, .int .u64 0, .string ⟨#[]⟩, .slice none 0 0, .slice none 0 0, .slice none 0 0, .int .i64 0, .int .i64 0, .int .i64 0, .int .i64 0, .slice none 0 0, .int .i64 0, .int .i64 0]) rfl (AEvs.cons (AEv.const _) (AEvs.cons (AEv.const _) (AEvs.cons (.tmp rfl) AEvs.nil))) (by kernel_rfl) rfl) ?_
 refine s_ (S_alloc [.int .i64 0, .int .i64 0, .int .i64 0, .int .i64 0, .int .i64 0, .int .u64 0, .string ⟨#[]⟩, .slice none 0 0, .slice none 0 0, .int .i64 0, .int .u64 0, .int .i64 0, .int .u64 0, .string ⟨#[]⟩, .slice none 0 0, .slice none 0 0, .slice none 0 0, .int .i64 0, .int .i64 0, .int .i64 0, .int .i64 0, .slice none 0 0, .int .i64 0, .int .i64 0] rfl (by kernel_rfl)) ?_
 rintro _ _ ⟨b1, rfl, rfl⟩
 refine s_ (S_storeW 0 rfl (.tmp rfl) ((AEv.tmp rfl).le (z := msgAV wM) (by exact (Les.agg (.cons (Le.refl _) (.cons (Le.refl _) (.cons (Le.refl _) (.cons (Le.refl _) (.cons (Le.refl _) (.cons (Le.refl _) (.cons (Le.refl _) (.cons (Le.nils) (.cons (Le.nils) (.cons (Le.refl _) (.cons (Le.refl _) (.cons (Le.refl _) (.cons (Le.refl _) (.cons (Le.refl _) (.cons (Le.nils) (.cons (Le.nils) (.cons (Le.nils) (.cons (Le.refl _) (.cons (Le.refl _) (.cons (Le.refl _) (.cons (Le.refl _) (.cons (Le.nils) (.cons (Le.refl _) (.cons (Le.refl _) .nil))))))))))))))))))))))))))) rfl rfl rfl (by kernel_rfl)) ?_
 rintro _ _ ⟨rfl, rfl⟩
 refine AL_nil (AC_seq (AC_region ?_))
 refine ldN 24 0 ?_
 refine p_ (S_gcall rfl (AEvs.cons (y := msgAV wM) (.tmp rfl) AEvs.nil) ((GCalls.of_eq (tell_Bytes_ok wM wM_short wM_u) wM_bytes) _ (fun p hp => by repeat (first | exact hG p hp | refine List.mem_cons_of_mem _ ?_ | refine List.mem_append_right _ ?_)))) ?_
 refine mv rfl rfl rfl rfl ?_
 refine ex 0 ?_
 refine ex 1 ?_
 refine as_ rfl rfl rfl rfl ?_
 refine as_ rfl rfl rfl rfl ?_
 refine AL_nil (AC_seq (AC_region ?_))
 refine mv rfl rfl rfl rfl ?_
 refine p_ (S_gcall rfl (AEvs.cons (.tmp rfl) AEvs.nil) ((GCalls.of_eq (tell_Of_ok [1, 3, 6, 0, 0, 0, 0, 0, 0]) (congrArg (fun x : Msg × Int => AV.tup [msgAV x.1, .int .i64 x.2]) (show (ofM [1, 3, 6, 0, 0, 0, 0, 0, 0], ofMC [1, 3, 6, 0, 0, 0, 0, 0, 0]) = (wM, 0) from wM_of))) _ (fun p hp => by repeat (first | exact hG p hp | refine List.mem_cons_of_mem _ ?_ | refine List.mem_append_right _ ?_)))) ?_
 refine mv rfl rfl rfl rfl ?_
 refine ex 0 ?_
 refine ex 1 ?_
 refine s_ (S_alloc [.int .i64 0, .int .i64 0, .int .i64 0, .int .i64 0, .int .i64 0, .int .u64 0, .string ⟨#[]⟩, .slice none 0 0, .slice none 0 0, .int .i64 0, .int .u64 0, .int .i64 0, .int .u64 0, .string ⟨#[]⟩, .slice none 0 0, .slice none 0 0, .slice none 0 0, .int .i64 0, .int .i64 0, .int .i64 0, .int .i64 0, .slice none 0 0, .int .i64 0, .int .i64 0] rfl (by kernel_rfl)) ?_
 rintro _ _ ⟨b4, rfl, rfl⟩
 refine stW 0 ?_
 refine as_ rfl rfl rfl rfl ?_
 refine AL_nil (AC_seq (AC_region ?_))
 refine ldN 24 1 ?_
 refine p_ (S_pcall rfl (AEvs.cons (y := msgAV wM) (.tmp rfl) AEvs.nil) (tell_Line_ok wM wM_short wM_u wM_f)) ?_
 refine p_ (S_eqS rfl (.tmp rfl) (AEv.S _)) ?_
 refine mv rfl rfl rfl rfl ?_
 refine g_ (fun _ => mA) ?_
 refine g_ (fun _ => S_eqS rfl (AEv.cd (.tmp rfl)) (AEv.S _)) ?_
 refine an ?_
 refine mv rfl rfl rfl rfl ?_
 refine g_ (fun _ => mA) ?_
 refine g_ (fun _ => S_eql rfl (AEv.cd (.tmp rfl)) (AEv.const _)) ?_
 refine an ?_
 refine mv rfl rfl rfl rfl ?_
 refine g_ (fun _ => mA) ?_
 refine g_ (fun _ => S_eql rfl (AEv.cd (.tmp rfl)) (AEv.const _)) ?_
 refine an ?_
 refine mv rfl rfl rfl rfl ?_
 refine g_ (fun _ => fA 1) ?_
 refine g_ (fun _ => lA 0) ?_
 refine g_ (fun _ => S_eql rfl (AEv.cd (.tmp rfl)) (AEv.const _)) ?_
 refine an ?_
 refine mv rfl rfl rfl rfl ?_
 refine g_ (fun _ => S_build (t := 38) (pl := [(0, 1), (1, 1), (2, 7), (9, 15)]) (zs := [.int .i64 0, .int .i64 0, .int .i64 0, .int .i64 0, .int .i64 0, .int .u64 0, .string ⟨#[]⟩, .slice none 0 0, .slice none 0 0, .int .i64 0, .int .u64 0, .int .i64 0, .int .u64 0, .string ⟨#[]⟩, .slice none 0 0, .slice none 0 0, .slice none 0 0, .int .i64 0, .int .i64 0, .int .i64 0, .int .i64 0, .slice none 0 0, .int .i64 0, .int .i64 0]) rfl AEvs.nil (by kernel_rfl) rfl) ?_
 refine g_ (fun _ => S_gcall rfl (AEvs.cons (y := msgAV msg0) ((AEv.cd (.tmp rfl)).le (by exact (Les.agg (.cons (Le.refl _) (.cons (Le.refl _) (.cons (Le.refl _) (.cons (Le.refl _) (.cons (Le.refl _) (.cons (Le.refl _) (.cons (Le.refl _) (.cons (Le.nils) (.cons (Le.nils) (.cons (Le.refl _) (.cons (Le.refl _) (.cons (Le.refl _) (.cons (Le.refl _) (.cons (Le.refl _) (.cons (Le.nils) (.cons (Le.nils) (.cons (Le.nils) (.cons (Le.refl _) (.cons (Le.refl _) (.cons (Le.refl _) (.cons (Le.refl _) (.cons (Le.nils) (.cons (Le.refl _) (.cons (Le.refl _) .nil))))))))))))))))))))))))))) AEvs.nil) ((tell_Check_ok msg0 msg0_short) _ (fun p hp => by repeat (first | exact hG p hp | refine List.mem_cons_of_mem _ ?_ | refine List.mem_append_right _ ?_)))) ?_
 refine g_ (fun _ => S_eql rfl (AEv.cd (.tmp rfl)) (AEv.const _)) ?_
 refine an ?_
 refine as_ rfl rfl rfl rfl ?_
 refine AL_nil (AC_ret ?_)
 refine ret_tmp st rfl rfl (Sub.l ((List.sublist_cons_self _ _).trans (List.sublist_cons_self _ _))) (Conv.refl (Sub.l ((List.sublist_cons_self _ _).trans (List.sublist_cons_self _ _))) _) ⟨congrArg AV.bool (by rw [e1, e2]; rfl), rfl⟩ (.inl rfl)
end Go.Proofs.YtemmkkmpchphkaaGreatDoor

namespace Go.Proofs.YtemmkkmpchphkaaGreatDoor
open Go.AL Go.NumSpec

end Go.Proofs.YtemmkkmpchphkaaGreatDoor
