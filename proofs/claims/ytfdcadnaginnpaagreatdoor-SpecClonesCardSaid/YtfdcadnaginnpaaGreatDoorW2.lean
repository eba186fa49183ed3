/- A part of the proof: what the program's functions answer.
Conditions: none beyond each theorem's own. -/
import Derived.Test.YtfdcadnaginnpaaGreatDoorW1
set_option linter.unusedVariables false
set_option linter.unusedSimpArgs false
set_option maxRecDepth 100000
namespace Go.Proofs.YtfdcadnaginnpaaGreatDoor
open Go.AL Go.NumSpec
theorem slices_EqualI_ok (l m : List (Int)) (hl : l.length ≤ 1000000) (hm : m.length ≤ 1000000) : PCalls Tryz.prog 76 [.sl (intsV l), .sl (intsV m)] (.bool (sameL (fun a b => decide (a = b)) l m)) := by
 intro st
 refine co 26 Tryz.func76 ?_
 refine AC_seq (AC_region ?_)
 refine ac rfl rfl rfl ?_
 refine AL_nil ?_
 refine AC_seq ?_
 refine AC_seq (AC_region ?_)
 refine mv rfl rfl rfl rfl ?_
 refine p_ (by first | exact S_lenM (e := 3) rfl (.tmp rfl) (by kernel_rfl) | exact S_len (e := 3) rfl (.tmp rfl) (by kernel_rfl)) ?_
 refine mv rfl rfl rfl rfl ?_
 refine p_ (by first | exact S_lenM (e := 3) rfl (.tmp rfl) (by kernel_rfl) | exact S_len (e := 3) rfl (.tmp rfl) (by kernel_rfl)) ?_
 refine p_ (S_neq rfl (.tmp rfl) (.tmp rfl)) ?_
 refine AL_nil ?_
 refine AC_cond (.tmp rfl) (fun hb1 => ?_) (fun hb1 => ?_)
 ·try simp only [zA,zO,zN,zM,zP,zQ,zD,zF,gd] at hb1
  have hbad : sameL (fun a b => decide (a = b)) l m = false := sameL_len (by omega)
  refine AC_seq (AC_region ?_)
  refine ac rfl rfl rfl ?_
  refine AL_nil (AC_ret ?_)
  refine ret_tmp st rfl rfl (Sub.l (List.Sublist.refl _)) (Conv.refl (Sub.l (List.Sublist.refl _)) _) ⟨by rw [hbad], rfl⟩ (.inl rfl)
 try simp only [zA,zO,zN,zM,zP,zQ,zD,zF,gd] at hb1
 have hlen : l.length = m.length := by omega
 refine AC_skip ?_
 refine AC_seq ?_
 refine AC_seq (AC_region ?_)
 refine mv rfl rfl rfl rfl ?_
 refine p_ (by first | exact S_lenM (e := 3) rfl (.tmp rfl) (by kernel_rfl) | exact S_len (e := 3) rfl (.tmp rfl) (by kernel_rfl)) ?_
 refine p_ (S_move rfl (AEv.const _)) ?_
 refine AL_nil ?_
 refine AC_block ?_
 refine AC_loopK (G := Nat) [(0, _), (1, _), (12, _)] (fun i => i ≤ l.length ∧ ∀ j (h1 : j < l.length) (h2 : j < m.length), j < i → (fun a b => decide (a = b)) (l[j]'h1) (m[j]'h2) = true) (fun g => [(13, .int .i64 (g : Int))]) (fun g => st) (fun g => l.length - g) (0) (⟨Nat.zero_le _, fun j _ _ h => absurd h (Nat.not_lt_zero _)⟩) (Sub.l (List.Sublist.refl _)) (.cons rfl (Le.refl _) (.cons rfl (Le.refl _) (.cons rfl (Le.refl _) .nil))) (.cons rfl (by first | exact Le.refl _ | exact Le.nils | exact Le.row _ _ _ _ | exact Le.of_eq (by first | rfl | (simp; done) | (push_cast; rfl) | (simp; omega))) .nil) ?_
 rintro i ⟨hi, hall⟩
 try dsimp only
 simp only [List.cons_append, List.nil_append]
 refine AC_seq (AC_region ?_)
 refine p_ (S_lss rfl (.tmp rfl) (.tmp rfl)) ?_
 refine AL_nil ?_
 refine AC_seq ?_
 refine AC_cond (.tmp rfl) (fun hb2 => ?_) (fun hb2 => ?_)
 ·try simp only [zA,zO,zN,zM,zP,zQ,zD,zF,gd] at hb2
  have hil : i < l.length := by omega
  refine AC_skip ?_
  refine AC_seq ?_
  refine AC_block ?_
  refine AC_seq (AC_region ?_)
  refine mv rfl rfl rfl rfl ?_
  refine as_ rfl rfl rfl rfl ?_
  refine AL_nil ?_
  refine AC_seq ?_
  refine AC_draw (by kernel_rfl) (by kernel_rfl) (.cons rfl (Q_p rfl (S_move rfl (.tmp rfl))) <|
    .cons rfl (Q_p rfl (S_move rfl (.tmp rfl))) <|
    .cons rfl (Q_p rfl (S_elemN (e := 3) 1 rfl (.tmp rfl) (.tmp rfl) (by kernel_rfl) (by kernel_rfl) (by omega) (fun _ => rfl))) <|
    .cons rfl (Q_p rfl (S_loadP rfl (.tmp rfl) rfl (by kernel_rfl))) <|
    .cons rfl (Q_p rfl (S_move rfl (.tmp rfl))) <|
    .cons rfl (Q_p rfl (S_move rfl (.tmp rfl))) <|
    .cons rfl (Q_p rfl (S_elemN (e := 3) 1 rfl (.tmp rfl) (.tmp rfl) (by kernel_rfl) (by kernel_rfl) (by omega) (fun _ => rfl))) <|
    .cons rfl (Q_p rfl (S_loadP rfl (.tmp rfl) rfl (by kernel_rfl))) <|
    .cons rfl (Q_p rfl (S_neq rfl (.tmp rfl) (.tmp rfl))) <|
    .nil) ?_
  refine AC_cond (.tmp rfl) (fun hb3 => ?_) (fun hb3 => ?_)
  ·try simp only [zA,zO,zN,zM,zP,zQ,zD,zF,gd] at hb3
   have hbad : sameL (fun a b => decide (a = b)) l m = false := sameL_bad hil (by omega) (by simpa using hb3)
   refine AC_seq (AC_region ?_)
   refine ac rfl rfl rfl ?_
   refine AL_nil (AC_ret ?_)
   refine ret_tmp st rfl rfl (Sub.l (List.Sublist.refl _)) (Conv.refl (Sub.l (List.Sublist.refl _)) _) ⟨by rw [hbad], rfl⟩ (.inl rfl)
  try simp only [zA,zO,zN,zM,zP,zQ,zD,zF,gd] at hb3
  have hne : (fun a b => decide (a = b)) (l[i]'hil) (m[i]'(by omega)) = true := by simpa using hb3
  refine AC_skip ?_
  refine AC_region ?_
  refine p_ (S_addI rfl (.tmp rfl) (AEv.const _) (by omega) (by omega)) ?_
  refine mv rfl rfl rfl rfl ?_
  refine AL_nil ?_
  refine ⟨i + 1, ⟨by omega, fun j h1 h2 h => ?_⟩, by omega, Sub.l (List.Sublist.refl _), (.cons rfl (by first | exact Le.refl _ | exact Le.nils | exact Le.row _ _ _ _ | exact Le.of_eq (by first | rfl | (simp; done) | (push_cast; rfl) | (simp; omega))) .nil), (.cons rfl (Le.refl _) (.cons rfl (Le.refl _) (.cons rfl (Le.refl _) .nil)))⟩
  rcases Nat.lt_or_ge j i with h' | h'
  ·exact hall j h1 h2 h'
  ·have : j = i := by omega
   subst this
   exact hne
 try simp only [zA,zO,zN,zM,zP,zQ,zD,zF,gd] at hb2
 have hgood : sameL (fun a b => decide (a = b)) l m = true := sameL_all hlen fun j h1 h2 => hall j h1 h2 (by omega)
 refine AC_exit ?_
 refine AC_seq (AC_region ?_)
 refine ac rfl rfl rfl ?_
 refine AL_nil (AC_ret ?_)
 refine ret_tmp st rfl rfl (Sub.l (List.Sublist.refl _)) (Conv.refl (Sub.l (List.Sublist.refl _)) _) ⟨by rw [hgood], rfl⟩ (.inl rfl)
theorem slices_EqualL_ok (l m : List (Lab)) (hl : l.length ≤ 1000000) (hm : m.length ≤ 1000000) : PCalls Tryz.prog 46 [.sl (labsV l), .sl (labsV m)] (.bool (sameL (fun a b => decide (a = b)) l m)) := by
 intro st
 refine co 26 Tryz.func46 ?_
 refine AC_seq (AC_region ?_)
 refine ac rfl rfl rfl ?_
 refine AL_nil ?_
 refine AC_seq ?_
 refine AC_seq (AC_region ?_)
 refine mv rfl rfl rfl rfl ?_
 refine p_ (by first | exact S_lenM (e := 56) rfl (.tmp rfl) (by kernel_rfl) | exact S_len (e := 56) rfl (.tmp rfl) (by kernel_rfl)) ?_
 refine mv rfl rfl rfl rfl ?_
 refine p_ (by first | exact S_lenM (e := 56) rfl (.tmp rfl) (by kernel_rfl) | exact S_len (e := 56) rfl (.tmp rfl) (by kernel_rfl)) ?_
 refine p_ (S_neq rfl (.tmp rfl) (.tmp rfl)) ?_
 refine AL_nil ?_
 refine AC_cond (.tmp rfl) (fun hb1 => ?_) (fun hb1 => ?_)
 ·try simp only [zA,zO,zN,zM,zP,zQ,zD,zF,gd] at hb1
  have hbad : sameL (fun a b => decide (a = b)) l m = false := sameL_len (by omega)
  refine AC_seq (AC_region ?_)
  refine ac rfl rfl rfl ?_
  refine AL_nil (AC_ret ?_)
  refine ret_tmp st rfl rfl (Sub.l (List.Sublist.refl _)) (Conv.refl (Sub.l (List.Sublist.refl _)) _) ⟨by rw [hbad], rfl⟩ (.inl rfl)
 try simp only [zA,zO,zN,zM,zP,zQ,zD,zF,gd] at hb1
 have hlen : l.length = m.length := by omega
 refine AC_skip ?_
 refine AC_seq ?_
 refine AC_seq (AC_region ?_)
 refine mv rfl rfl rfl rfl ?_
 refine p_ (by first | exact S_lenM (e := 56) rfl (.tmp rfl) (by kernel_rfl) | exact S_len (e := 56) rfl (.tmp rfl) (by kernel_rfl)) ?_
 refine p_ (S_move rfl (AEv.const _)) ?_
 refine AL_nil ?_
 refine AC_block ?_
 refine AC_loopK (G := Nat) [(0, _), (1, _), (12, _)] (fun i => i ≤ l.length ∧ ∀ j (h1 : j < l.length) (h2 : j < m.length), j < i → (fun a b => decide (a = b)) (l[j]'h1) (m[j]'h2) = true) (fun g => [(13, .int .i64 (g : Int))]) (fun g => st) (fun g => l.length - g) (0) (⟨Nat.zero_le _, fun j _ _ h => absurd h (Nat.not_lt_zero _)⟩) (Sub.l (List.Sublist.refl _)) (.cons rfl (Le.refl _) (.cons rfl (Le.refl _) (.cons rfl (Le.refl _) .nil))) (.cons rfl (by first | exact Le.refl _ | exact Le.nils | exact Le.row _ _ _ _ | exact Le.of_eq (by first | rfl | (simp; done) | (push_cast; rfl) | (simp; omega))) .nil) ?_
 rintro i ⟨hi, hall⟩
 try dsimp only
 simp only [List.cons_append, List.nil_append]
 refine AC_seq (AC_region ?_)
 refine p_ (S_lss rfl (.tmp rfl) (.tmp rfl)) ?_
 refine AL_nil ?_
 refine AC_seq ?_
 refine AC_cond (.tmp rfl) (fun hb2 => ?_) (fun hb2 => ?_)
 ·try simp only [zA,zO,zN,zM,zP,zQ,zD,zF,gd] at hb2
  have hil : i < l.length := by omega
  refine AC_skip ?_
  refine AC_seq ?_
  refine AC_block ?_
  refine AC_seq (AC_region ?_)
  refine mv rfl rfl rfl rfl ?_
  refine as_ rfl rfl rfl rfl ?_
  refine AL_nil ?_
  refine AC_seq ?_
  refine AC_draw (by kernel_rfl) (by kernel_rfl) (.cons rfl (Q_p rfl (S_move rfl (.tmp rfl))) <|
    .cons rfl (Q_p rfl (S_move rfl (.tmp rfl))) <|
    .cons rfl (Q_p rfl (S_elemN (e := 56) 2 rfl (.tmp rfl) (.tmp rfl) (by kernel_rfl) (by kernel_rfl) (by omega) (fun _ => rfl))) <|
    .cons rfl (Q_p rfl (S_loadPN (m := 2) rfl (.tmp rfl) (by kernel_rfl) (by first | exact Nat.le_of_ble_eq_true rfl | (simp; omega) | simp))) <|
    .cons rfl (Q_p rfl (S_move rfl (.tmp rfl))) <|
    .cons rfl (Q_p rfl (S_move rfl (.tmp rfl))) <|
    .cons rfl (Q_p rfl (S_elemN (e := 56) 2 rfl (.tmp rfl) (.tmp rfl) (by kernel_rfl) (by kernel_rfl) (by omega) (fun _ => rfl))) <|
    .cons rfl (Q_p rfl (S_loadPN (m := 2) rfl (.tmp rfl) (by kernel_rfl) (by first | exact Nat.le_of_ble_eq_true rfl | (simp; omega) | simp))) <|
    .cons rfl (Q_p rfl ((S_neqAgg rfl (.tmp rfl) (.tmp rfl) (by kernel_rfl) (EqAV.struct Tryz.underlying56 (by kernel_rfl) (EqFs.flat (by kernel_rfl) (by kernel_rfl) rfl rfl (EqAV.S (by kernel_rfl)) (EqFs.flat (by kernel_rfl) (by kernel_rfl) rfl rfl (EqAV.S (by kernel_rfl)) EqFs.nil)))).ofV (V' := .bool (!decide ((l[i]'hil) = (m[i]'(by omega))))) (congrArg AV.bool (congrArg Bool.not lab_eqB)))) <|
    .nil) ?_
  refine AC_cond (.tmp rfl) (fun hb3 => ?_) (fun hb3 => ?_)
  ·try simp only [zA,zO,zN,zM,zP,zQ,zD,zF,gd] at hb3
   have hbad : sameL (fun a b => decide (a = b)) l m = false := sameL_bad hil (by omega) (by simpa using hb3)
   refine AC_seq (AC_region ?_)
   refine ac rfl rfl rfl ?_
   refine AL_nil (AC_ret ?_)
   refine ret_tmp st rfl rfl (Sub.l (List.Sublist.refl _)) (Conv.refl (Sub.l (List.Sublist.refl _)) _) ⟨by rw [hbad], rfl⟩ (.inl rfl)
  try simp only [zA,zO,zN,zM,zP,zQ,zD,zF,gd] at hb3
  have hne : (fun a b => decide (a = b)) (l[i]'hil) (m[i]'(by omega)) = true := by simpa using hb3
  refine AC_skip ?_
  refine AC_region ?_
  refine p_ (S_addI rfl (.tmp rfl) (AEv.const _) (by omega) (by omega)) ?_
  refine mv rfl rfl rfl rfl ?_
  refine AL_nil ?_
  refine ⟨i + 1, ⟨by omega, fun j h1 h2 h => ?_⟩, by omega, Sub.l (List.Sublist.refl _), (.cons rfl (by first | exact Le.refl _ | exact Le.nils | exact Le.row _ _ _ _ | exact Le.of_eq (by first | rfl | (simp; done) | (push_cast; rfl) | (simp; omega))) .nil), (.cons rfl (Le.refl _) (.cons rfl (Le.refl _) (.cons rfl (Le.refl _) .nil)))⟩
  rcases Nat.lt_or_ge j i with h' | h'
  ·exact hall j h1 h2 h'
  ·have : j = i := by omega
   subst this
   exact hne
 try simp only [zA,zO,zN,zM,zP,zQ,zD,zF,gd] at hb2
 have hgood : sameL (fun a b => decide (a = b)) l m = true := sameL_all hlen fun j h1 h2 => hall j h1 h2 (by omega)
 refine AC_exit ?_
 refine AC_seq (AC_region ?_)
 refine ac rfl rfl rfl ?_
 refine AL_nil (AC_ret ?_)
 refine ret_tmp st rfl rfl (Sub.l (List.Sublist.refl _)) (Conv.refl (Sub.l (List.Sublist.refl _)) _) ⟨by rw [hgood], rfl⟩ (.inl rfl)
theorem spec_alike_ok (a b : Ctr) (ha : a.ports.length ≤ 1000000) (hb : b.ports.length ≤ 1000000) : PCalls Tryz.prog 50 [ctrAV a, ctrAV b] (.bool (alikeC a b)) := by
 intro st
 refine co 38 Tryz.func50 ?_
 refine AC_seq (AC_region ?_)
 refine s_ (S_box rfl (.tmp rfl)) ?_
 rintro _ _ ⟨b1, rfl, rfl⟩
 refine s_ (S_box rfl (.tmp rfl)) ?_
 rintro _ _ ⟨b2, rfl, rfl⟩
 refine ac rfl rfl rfl ?_
 refine AL_nil (AC_seq (AC_region ?_))
 refine fl 0 ?_
 refine ld 1 ?_
 refine fl 0 ?_
 refine ld 0 ?_
 refine p_ (S_eqS rfl (.tmp rfl) (.tmp rfl)) ?_
 refine mv rfl rfl rfl rfl ?_
 refine g_ (fun _ => fA 2) ?_
 refine g_ (fun _ => lN 3 1) ?_
 refine g_ (fun _ => fA 2) ?_
 refine g_ (fun _ => lN 3 0) ?_
 refine g_ (fun _ => S_eqlAgg rfl (AEv.cd (.tmp rfl)) (AEv.cd (.tmp rfl)) (by kernel_rfl) (EqAV.struct Tryz.underlying48 (by kernel_rfl) (EqFs.flat (by kernel_rfl) (by kernel_rfl) rfl rfl (EqAV.int (k' := .i64) (by kernel_rfl)) (EqFs.flat (by kernel_rfl) (by kernel_rfl) rfl rfl (EqAV.int (k' := .i64) (by kernel_rfl)) (EqFs.flat (by kernel_rfl) (by kernel_rfl) rfl rfl (EqAV.int (k' := .i64) (by kernel_rfl)) EqFs.nil))))) ?_
 refine an ?_
 refine mv rfl rfl rfl rfl ?_
 refine g_ (fun _ => fA 5) ?_
 refine g_ (fun _ => lN 3 1) ?_
 refine g_ (fun _ => fA 5) ?_
 refine g_ (fun _ => lN 3 0) ?_
 refine g_ (fun _ => S_eqlAgg rfl (AEv.cd (.tmp rfl)) (AEv.cd (.tmp rfl)) (by kernel_rfl) (EqAV.struct Tryz.underlying48 (by kernel_rfl) (EqFs.flat (by kernel_rfl) (by kernel_rfl) rfl rfl (EqAV.int (k' := .i64) (by kernel_rfl)) (EqFs.flat (by kernel_rfl) (by kernel_rfl) rfl rfl (EqAV.int (k' := .i64) (by kernel_rfl)) (EqFs.flat (by kernel_rfl) (by kernel_rfl) rfl rfl (EqAV.int (k' := .i64) (by kernel_rfl)) EqFs.nil))))) ?_
 refine an ?_
 refine mv rfl rfl rfl rfl ?_
 refine g_ (fun _ => fA 8) ?_
 refine g_ (fun _ => lA 1) ?_
 refine g_ (fun _ => fA 8) ?_
 refine g_ (fun _ => lA 0) ?_
 refine g_ (fun _ => S_pcall rfl (AEvs.cons (AEv.cd (.tmp rfl)) (AEvs.cons (AEv.cd (.tmp rfl)) AEvs.nil)) (slices_EqualI_ok a.ports b.ports ha hb)) ?_
 refine an ?_
 refine mv rfl rfl rfl rfl ?_
 refine g_ (fun _ => fA 9) ?_
 refine g_ (fun _ => lN 2 1) ?_
 refine g_ (fun _ => fA 9) ?_
 refine g_ (fun _ => lN 2 0) ?_
 refine g_ (fun _ => S_eqlAgg rfl (AEv.cd (.tmp rfl)) (AEv.cd (.tmp rfl)) (by kernel_rfl) (EqAV.struct Tryz.underlying50 (by kernel_rfl) (EqFs.flat (by kernel_rfl) (by kernel_rfl) rfl rfl (EqAV.int (k' := .i64) (by kernel_rfl)) (EqFs.flat (by kernel_rfl) (by kernel_rfl) rfl rfl (EqAV.int (k' := .i64) (by kernel_rfl)) EqFs.nil)))) ?_
 refine an ?_
 refine as_ rfl rfl rfl rfl ?_
 refine AL_nil (AC_ret ?_)
 refine ret_tmp st rfl rfl (Sub.l (List.Sublist.cons _ (List.Sublist.cons _ (List.Sublist.refl _)))) (Conv.refl (Sub.l (List.Sublist.cons _ (List.Sublist.cons _ (List.Sublist.refl _)))) _) ⟨congrArg AV.bool (by rw [res_eqB, res_eqB, probe_eqB, sameL_eq]; simp only [alikeC, Bool.and_assoc]), rfl⟩ (.inl rfl)
theorem spec_exact_ok (a b : Ctr) (ha : a.ports.length ≤ 1000000) (hb : b.ports.length ≤ 1000000) : PCalls Tryz.prog 48 [ctrAV a, ctrAV b] (.bool (exactC a b)) := by
 intro st
 refine co 15 Tryz.func48 ?_
 refine AC_seq (AC_region ?_)
 refine s_ (S_box rfl (.tmp rfl)) ?_
 rintro _ _ ⟨b1, rfl, rfl⟩
 refine s_ (S_box rfl (.tmp rfl)) ?_
 rintro _ _ ⟨b2, rfl, rfl⟩
 refine ac rfl rfl rfl ?_
 refine AL_nil (AC_seq (AC_region ?_))
 refine ldN 11 1 ?_
 refine ldN 11 0 ?_
 refine p_ (S_pcall rfl (AEvs.cons (y := ctrAV a) (.tmp rfl) (AEvs.cons (y := ctrAV b) (.tmp rfl) AEvs.nil)) (spec_alike_ok a b ha hb)) ?_
 refine mv rfl rfl rfl rfl ?_
 refine g_ (fun _ => fA 1) ?_
 refine g_ (fun _ => lA 1) ?_
 refine g_ (fun _ => fA 1) ?_
 refine g_ (fun _ => lA 0) ?_
 refine g_ (fun _ => S_eqS rfl (AEv.cd (.tmp rfl)) (AEv.cd (.tmp rfl))) ?_
 refine an ?_
 refine as_ rfl rfl rfl rfl ?_
 refine AL_nil (AC_ret ?_)
 refine ret_tmp st rfl rfl (Sub.l (List.Sublist.cons _ (List.Sublist.cons _ (List.Sublist.refl _)))) (Conv.refl (Sub.l (List.Sublist.cons _ (List.Sublist.cons _ (List.Sublist.refl _)))) _) ⟨rfl, rfl⟩ (.inl rfl)
theorem slices_EqualFunc_ok (l m : List Ctr) (hl : l.length ≤ 1000000) (hm : m.length ≤ 1000000) (hlp : ∀ c ∈ l, c.ports.length ≤ 1000000) (hmp : ∀ c ∈ m, c.ports.length ≤ 1000000) : PCalls Tryz.prog 75 [.sl (ctrsV l), .sl (ctrsV m), .fn 48 []] (.bool (sameL exactC l m)) := by
 intro st
 refine co 32 Tryz.func75 ?_
 refine AC_seq (AC_region ?_)
 refine ac rfl rfl rfl ?_
 refine AL_nil ?_
 refine AC_seq ?_
 refine AC_seq (AC_region ?_)
 refine mv rfl rfl rfl rfl ?_
 refine p_ (by first | exact S_lenM (e := 52) rfl (.tmp rfl) (by kernel_rfl) | exact S_len (e := 52) rfl (.tmp rfl) (by kernel_rfl)) ?_
 refine mv rfl rfl rfl rfl ?_
 refine p_ (by first | exact S_lenM (e := 52) rfl (.tmp rfl) (by kernel_rfl) | exact S_len (e := 52) rfl (.tmp rfl) (by kernel_rfl)) ?_
 refine p_ (S_neq rfl (.tmp rfl) (.tmp rfl)) ?_
 refine AL_nil ?_
 refine AC_cond (.tmp rfl) (fun hb1 => ?_) (fun hb1 => ?_)
 ·try simp only [zA,zO,zN,zM,zP,zQ,zD,zF,gd] at hb1
  have hbad : sameL exactC l m = false := sameL_len (by omega)
  refine AC_seq (AC_region ?_)
  refine ac rfl rfl rfl ?_
  refine AL_nil (AC_ret ?_)
  refine ret_tmp st rfl rfl (Sub.l (List.Sublist.refl _)) (Conv.refl (Sub.l (List.Sublist.refl _)) _) ⟨by rw [hbad], rfl⟩ (.inl rfl)
 try simp only [zA,zO,zN,zM,zP,zQ,zD,zF,gd] at hb1
 have hlen : l.length = m.length := by omega
 refine AC_skip ?_
 refine AC_seq ?_
 refine AC_seq (AC_region ?_)
 refine mv rfl rfl rfl rfl ?_
 refine p_ (by first | exact S_lenM (e := 52) rfl (.tmp rfl) (by kernel_rfl) | exact S_len (e := 52) rfl (.tmp rfl) (by kernel_rfl)) ?_
 refine p_ (S_move rfl (AEv.const _)) ?_
 refine AL_nil ?_
 refine AC_block ?_
 refine AC_loopK (G := Nat) [(1, _), (2, _), (15, _), (16, _)] (fun i => i ≤ l.length ∧ ∀ j (h1 : j < l.length) (h2 : j < m.length), j < i → exactC (l[j]'h1) (m[j]'h2) = true) (fun g => [(17, .int .i64 (g : Int))]) (fun g => st) (fun g => l.length - g) (0) (⟨Nat.zero_le _, fun j _ _ h => absurd h (Nat.not_lt_zero _)⟩) (Sub.l (List.Sublist.refl _)) (.cons rfl (Le.refl _) (.cons rfl (Le.refl _) (.cons rfl (Le.refl _) (.cons rfl (Le.refl _) .nil)))) (.cons rfl (by first | exact Le.refl _ | exact Le.nils | exact Le.row _ _ _ _ | exact Le.of_eq (by first | rfl | (simp; done) | (push_cast; rfl) | (simp; omega))) .nil) ?_
 rintro i ⟨hi, hall⟩
 try dsimp only
 simp only [List.cons_append, List.nil_append]
 refine AC_seq (AC_region ?_)
 refine p_ (S_lss rfl (.tmp rfl) (.tmp rfl)) ?_
 refine AL_nil ?_
 refine AC_seq ?_
 refine AC_cond (.tmp rfl) (fun hb2 => ?_) (fun hb2 => ?_)
 ·try simp only [zA,zO,zN,zM,zP,zQ,zD,zF,gd] at hb2
  have hil : i < l.length := by omega
  have him : i < m.length := by omega
  refine AC_skip ?_
  refine AC_seq ?_
  refine AC_block ?_
  refine AC_seq (AC_region ?_)
  refine mv rfl rfl rfl rfl ?_
  refine p_ (S_elemN (e := 52) 11 rfl (.tmp rfl) (.tmp rfl) (by kernel_rfl) (by kernel_rfl) (by omega) (fun _ => rfl)) ?_
  refine p_ (S_loadPN (m := 11) rfl (.tmp rfl) (by kernel_rfl) (by first | exact Nat.le_of_ble_eq_true rfl | (simp; omega) | simp)) ?_
  refine s_ (S_alloc [.string ⟨#[]⟩, .string ⟨#[]⟩, .int .i64 0, .int .i64 0, .int .i64 0, .int .i64 0, .int .i64 0, .int .i64 0, .slice none 0 0, .int .i64 0, .int .i64 0] rfl (by kernel_rfl)) ?_
  rintro _ _ ⟨b8, rfl, rfl⟩
  refine as_ rfl rfl rfl rfl ?_
  refine stW 0 ?_
  refine AL_nil (AC_seq (AC_region ?_))
  refine mv rfl rfl rfl rfl ?_
  refine mv rfl rfl rfl rfl ?_
  refine p_ (S_elemN (e := 52) 11 rfl (.tmp rfl) (.tmp rfl) (by kernel_rfl) (by kernel_rfl) (by omega) (fun _ => rfl)) ?_
  refine p_ (S_loadPN (m := 11) rfl (.tmp rfl) (by kernel_rfl) (by first | exact Nat.le_of_ble_eq_true rfl | (simp; omega) | simp)) ?_
  refine s_ (S_alloc [.string ⟨#[]⟩, .string ⟨#[]⟩, .int .i64 0, .int .i64 0, .int .i64 0, .int .i64 0, .int .i64 0, .int .i64 0, .slice none 0 0, .int .i64 0, .int .i64 0] rfl (by kernel_rfl)) ?_
  rintro _ _ ⟨b9, rfl, rfl⟩
  refine stW 0 ?_
  refine AL_nil (AC_seq (AC_region ?_))
  refine mv rfl rfl rfl rfl ?_
  refine ldN 11 1 ?_
  refine ldN 11 0 ?_
  refine s_ (S_callF (caps := []) rfl (.tmp rfl) (AEvs.cons (y := ctrAV (l[i]'hil)) (.tmp rfl) (AEvs.cons (y := ctrAV (m[i]'him)) (.tmp rfl) AEvs.nil)) (spec_exact_ok (l[i]'hil) (m[i]'him) (hlp _ (List.getElem_mem _)) (hmp _ (List.getElem_mem _)) _)) ?_
  rintro _ _ ⟨rfl, rfl⟩
  refine p_ (S_not rfl (.tmp rfl)) ?_
  refine AL_nil ?_
  refine AC_cond (.tmp rfl) (fun hb5 => ?_) (fun hb5 => ?_)
  ·try simp only [zA,zO,zN,zM,zP,zQ,zD,zF,gd] at hb5
   have hbad : sameL exactC l m = false := sameL_bad hil him hb5
   refine AC_seq (AC_region ?_)
   refine ac rfl rfl rfl ?_
   refine AL_nil (AC_ret ?_)
   refine ret_tmp st rfl rfl (Sub.l (List.Sublist.cons _ (List.Sublist.cons _ (List.Sublist.refl _)))) (Conv.refl (Sub.l (List.Sublist.cons _ (List.Sublist.cons _ (List.Sublist.refl _)))) _) ⟨by rw [hbad], rfl⟩ (.inl rfl)
  try simp only [zA,zO,zN,zM,zP,zQ,zD,zF,gd] at hb5
  have hne : exactC (l[i]'hil) (m[i]'him) = true := hb5
  refine AC_skip ?_
  refine AC_region ?_
  refine p_ (S_addI rfl (.tmp rfl) (AEv.const _) (by omega) (by omega)) ?_
  refine mv rfl rfl rfl rfl ?_
  refine AL_nil ?_
  refine ⟨i + 1, ⟨by omega, fun j h1 h2 h => ?_⟩, by omega, (Sub.l (List.Sublist.cons _ (List.Sublist.cons _ (List.Sublist.refl _)))), (.cons rfl (by first | exact Le.refl _ | exact Le.nils | exact Le.row _ _ _ _ | exact Le.of_eq (by first | rfl | (simp; done) | (push_cast; rfl) | (simp; omega))) .nil), (.cons rfl (Le.refl _) (.cons rfl (Le.refl _) (.cons rfl (Le.refl _) (.cons rfl (Le.refl _) .nil))))⟩
  rcases Nat.lt_or_ge j i with h' | h'
  ·exact hall j h1 h2 h'
  ·have : j = i := by omega
   subst this
   exact hne
 try simp only [zA,zO,zN,zM,zP,zQ,zD,zF,gd] at hb2
 have hgood : sameL exactC l m = true := sameL_all hlen fun j h1 h2 => hall j h1 h2 (by omega)
 refine AC_exit ?_
 refine AC_seq (AC_region ?_)
 refine ac rfl rfl rfl ?_
 refine AL_nil (AC_ret ?_)
 refine ret_tmp st rfl rfl (Sub.l (List.Sublist.refl _)) (Conv.refl (Sub.l (List.Sublist.refl _)) _) ⟨by rw [hgood], rfl⟩ (.inl rfl)
theorem spec_each_ok (l m : List Ctr) (hl : l.length ≤ 1000000) (hm : m.length ≤ 1000000) (hlp : ∀ c ∈ l, c.ports.length ≤ 1000000) (hmp : ∀ c ∈ m, c.ports.length ≤ 1000000) : PCalls Tryz.prog 47 [.sl (ctrsV l), .sl (ctrsV m), .fn 48 []] (.bool (sameL exactC l m)) := by
 intro st
 refine co 11 Tryz.func47 ?_
 refine AC_seq (AC_region ?_)
 refine ac rfl rfl rfl ?_
 refine AL_nil (AC_seq (AC_region ?_))
 refine mv rfl rfl rfl rfl ?_
 refine mv rfl rfl rfl rfl ?_
 refine mv rfl rfl rfl rfl ?_
 refine p_ (S_pcall rfl (AEvs.cons (.tmp rfl) (AEvs.cons (.tmp rfl) (AEvs.cons (.tmp rfl) AEvs.nil))) (slices_EqualFunc_ok _ _ (by omega) (by omega) (by assumption) (by assumption))) ?_
 refine as_ rfl rfl rfl rfl ?_
 refine AL_nil (AC_ret ?_)
 refine ret_tmp st rfl rfl (Sub.l (List.Sublist.refl _)) (Conv.refl (Sub.l (List.Sublist.refl _)) _) ⟨rfl, rfl⟩ (.inl rfl)
theorem spec_Frozen_ok (a b : Spc) (h1 : a.init.length ≤ 1000000) (h2 : b.init.length ≤ 1000000) (h3 : a.main.length ≤ 1000000) (h4 : b.main.length ≤ 1000000) (hp : ∀ s : Spc, s = a ∨ s = b → (∀ c ∈ s.init, c.ports.length ≤ 1000000) ∧ ∀ c ∈ s.main, c.ports.length ≤ 1000000 ∧ c.image.length ≤ 1000000) : GCalls Tryz.prog tabs 24 [spcAV a, spcAV b] (erV 33 116 (frozenE a b)) := by
 intro st hG
 refine co 80 Tryz.func24 ?_
 obtain ⟨pa1, pa2⟩ := hp a (.inl rfl)
 obtain ⟨pb1, pb2⟩ := hp b (.inr rfl)
 refine AC_seq (AC_region ?_)
 refine s_ (S_box rfl (.tmp rfl)) ?_
 rintro _ _ ⟨b2, rfl, rfl⟩
 refine s_ (S_box rfl (.tmp rfl)) ?_
 rintro _ _ ⟨b3, rfl, rfl⟩
 refine ac rfl rfl rfl ?_
 refine AL_nil ?_
 refine AC_seq ?_
 refine AC_block ?_
 refine AC_seq (AC_region ?_)
 refine fl 0 ?_
 refine ld 1 ?_
 refine fl 0 ?_
 refine ld 0 ?_
 refine p_ (S_neS rfl (.tmp rfl) (.tmp rfl)) ?_
 refine as_ rfl rfl rfl rfl ?_
 refine AL_nil ?_
 refine AC_cond (.tmp rfl) (fun hb3 => ?_) (fun hb3 => ?_)
 ·try simp only [zA,zO,zN,zM,zP,zQ,zD,zF,gd] at hb3
  have hne : a.name ≠ b.name := by simpa using hb3
  refine AC_seq (AC_region ?_)
  refine p_ (S_buildSlice (e := 9) 1 rfl (AEvs.cons (AEv.S _) AEvs.nil) rfl (by kernel_rfl) (by kernel_rfl) (by intro y hy; simp only [List.mem_cons, List.not_mem_nil, or_false] at hy; rcases hy with rfl <;> exact ⟨rfl, rfl⟩) (by decide) (by decide) (by decide)) ?_
  refine p_ (S_pcall rfl (AEvs.cons (AEv.const _) (AEvs.cons (.tmp rfl) AEvs.nil)) (fail_New_ok 4 [nameN] (by simp))) ?_
  refine as_ rfl rfl rfl rfl ?_
  refine AL_nil (AC_ret ?_)
  refine ret_tmp st rfl rfl (Sub.l (List.Sublist.cons _ (List.Sublist.cons _ (List.Sublist.refl _)))) (Conv.refl (Sub.l (List.Sublist.cons _ (List.Sublist.cons _ (List.Sublist.refl _)))) _) ⟨by rw [frozenE, if_pos hne]; rfl, rfl⟩ (.inl rfl)
 try simp only [zA,zO,zN,zM,zP,zQ,zD,zF,gd] at hb3
 have hnm : a.name = b.name := by simpa using hb3
 refine AC_seq (AC_region ?_)
 refine fl 2 ?_
 refine ld 1 ?_
 refine fl 2 ?_
 refine ld 0 ?_
 refine p_ (S_pcall rfl (AEvs.cons (.tmp rfl) (AEvs.cons (.tmp rfl) (AEvs.cons (AEv.func _) AEvs.nil))) (spec_each_ok _ _ (by omega) (by omega) (by assumption) (by assumption))) ?_
 refine p_ (S_not rfl (.tmp rfl)) ?_
 refine as_ rfl rfl rfl rfl ?_
 refine AL_nil ?_
 refine AC_cond (.tmp rfl) (fun hb4 => ?_) (fun hb4 => ?_)
 ·try simp only [zA,zO,zN,zM,zP,zQ,zD,zF,gd] at hb4
  have hbi : sameL exactC a.init b.init = false := hb4
  refine AC_seq (AC_region ?_)
  refine p_ (S_buildSlice (e := 9) 1 rfl (AEvs.cons (AEv.S _) AEvs.nil) rfl (by kernel_rfl) (by kernel_rfl) (by intro y hy; simp only [List.mem_cons, List.not_mem_nil, or_false] at hy; rcases hy with rfl <;> exact ⟨rfl, rfl⟩) (by decide) (by decide) (by decide)) ?_
  refine p_ (S_pcall rfl (AEvs.cons (AEv.const _) (AEvs.cons (.tmp rfl) AEvs.nil)) (fail_New_ok 4 [initN] (by simp))) ?_
  refine as_ rfl rfl rfl rfl ?_
  refine AL_nil (AC_ret ?_)
  refine ret_tmp st rfl rfl (Sub.l (List.Sublist.cons _ (List.Sublist.cons _ (List.Sublist.refl _)))) (Conv.refl (Sub.l (List.Sublist.cons _ (List.Sublist.cons _ (List.Sublist.refl _)))) _) ⟨by rw [frozenE, if_neg (fun h => h hnm), if_pos hbi]; rfl, rfl⟩ (.inl rfl)
 try simp only [zA,zO,zN,zM,zP,zQ,zD,zF,gd] at hb4
 have hbi : sameL exactC a.init b.init = true := hb4
 refine AC_seq (AC_region ?_)
 refine fl 3 ?_
 refine ld 1 ?_
 refine p_ (by first | exact S_lenM (e := 52) rfl (.tmp rfl) (by kernel_rfl) | exact S_len (e := 52) rfl (.tmp rfl) (by kernel_rfl)) ?_
 refine fl 3 ?_
 refine ld 0 ?_
 refine p_ (by first | exact S_lenM (e := 52) rfl (.tmp rfl) (by kernel_rfl) | exact S_len (e := 52) rfl (.tmp rfl) (by kernel_rfl)) ?_
 refine p_ (S_neq rfl (.tmp rfl) (.tmp rfl)) ?_
 refine as_ rfl rfl rfl rfl ?_
 refine AL_nil ?_
 refine AC_cond (.tmp rfl) (fun hb5 => ?_) (fun hb5 => ?_)
 ·try simp only [zA,zO,zN,zM,zP,zQ,zD,zF,gd] at hb5
  have hml : a.main.length ≠ b.main.length := by omega
  refine AC_seq (AC_region ?_)
  refine p_ (S_buildSlice (e := 9) 1 rfl (AEvs.cons (AEv.S _) AEvs.nil) rfl (by kernel_rfl) (by kernel_rfl) (by intro y hy; simp only [List.mem_cons, List.not_mem_nil, or_false] at hy; rcases hy with rfl <;> exact ⟨rfl, rfl⟩) (by decide) (by decide) (by decide)) ?_
  refine p_ (S_pcall rfl (AEvs.cons (AEv.const _) (AEvs.cons (.tmp rfl) AEvs.nil)) (fail_New_ok 4 [mainN] (by simp))) ?_
  refine as_ rfl rfl rfl rfl ?_
  refine AL_nil (AC_ret ?_)
  refine ret_tmp st rfl rfl (Sub.l (List.Sublist.cons _ (List.Sublist.cons _ (List.Sublist.refl _)))) (Conv.refl (Sub.l (List.Sublist.cons _ (List.Sublist.cons _ (List.Sublist.refl _)))) _) ⟨by rw [frozenE, if_neg (fun h => h hnm), if_neg (by rw [hbi]; simp), if_pos hml]; rfl, rfl⟩ (.inl rfl)
 try simp only [zA,zO,zN,zM,zP,zQ,zD,zF,gd] at hb5
 have hml : a.main.length = b.main.length := by omega
 have hfe : frozenE a b = eachE a.main.length (frozenAt a.main b.main) := by rw [frozenE, if_neg (fun h => h hnm), if_neg (by rw [hbi]; simp), if_neg (fun h => h hml)]
 refine AC_skip ?_
 refine AC_seq ?_
 refine AC_seq (AC_region ?_)
 refine fl 3 ?_
 refine ld 1 ?_
 refine p_ (by first | exact S_lenM (e := 52) rfl (.tmp rfl) (by kernel_rfl) | exact S_len (e := 52) rfl (.tmp rfl) (by kernel_rfl)) ?_
 refine p_ (S_move rfl (AEv.const _)) ?_
 refine AL_nil ?_
 refine AC_block ?_
 refine AC_loopK (G := Nat) [(3, _), (35, _), (36, _)] (fun g => g ≤ a.main.length ∧ ∀ j, j < g → frozenAt a.main b.main j = none) (fun g => [(37, .int .i64 (g : Int))]) (fun g => (b3, .cells (spcL b)) :: (b2, .cells (spcL a)) :: st) (fun g => a.main.length - g) (0) (⟨Nat.zero_le _, fun j h => absurd h (Nat.not_lt_zero _)⟩) (Sub.l (List.Sublist.refl _)) (.cons rfl (Le.refl _) (.cons rfl (Le.refl _) (.cons rfl (Le.refl _) .nil))) (.cons rfl (by first | exact Le.refl _ | exact Le.nils | exact Le.row _ _ _ _ | exact Le.of_eq (by first | rfl | (simp; done) | (push_cast; rfl) | (simp; omega))) .nil) ?_
 rintro i ⟨hi, hall⟩
 try dsimp only
 simp only [List.cons_append, List.nil_append]
 refine AC_seq (AC_region ?_)
 refine p_ (S_lss rfl (.tmp rfl) (.tmp rfl)) ?_
 refine AL_nil ?_
 refine AC_seq ?_
 refine AC_cond (.tmp rfl) (fun hb6 => ?_) (fun hb6 => ?_)
 ·try simp only [zA,zO,zN,zM,zP,zQ,zD,zF,gd] at hb6
  have hil : i < a.main.length := by omega
  have him : i < b.main.length := by omega
  have hif : fits (i : Int) := by unfold fits; omega
  have hat := frozenAt_at hil him
  refine AC_skip ?_
  refine AC_seq ?_
  refine AC_block ?_
  refine AC_seq (AC_region ?_)
  refine mv rfl rfl rfl rfl ?_
  refine p_ (S_elemN (e := 52) 11 rfl (.tmp rfl) (.tmp rfl) (by kernel_rfl) (by kernel_rfl) (by omega) (fun _ => rfl)) ?_
  refine p_ (S_loadPN (m := 11) rfl (.tmp rfl) (by kernel_rfl) (by first | exact Nat.le_of_ble_eq_true rfl | (simp; omega) | simp)) ?_
  refine s_ (S_alloc [.string ⟨#[]⟩, .string ⟨#[]⟩, .int .i64 0, .int .i64 0, .int .i64 0, .int .i64 0, .int .i64 0, .int .i64 0, .slice none 0 0, .int .i64 0, .int .i64 0] rfl (by kernel_rfl)) ?_
  rintro _ _ ⟨b6, rfl, rfl⟩
  refine as_ rfl rfl rfl rfl ?_
  refine stW 0 ?_
  refine AL_nil ?_
  refine AC_seq ?_
  refine AC_seq ?_
  refine AC_draw (by kernel_rfl) (by kernel_rfl) (.cons rfl (Q_p rfl (S_loadN (m := 11) 0 rfl (.tmp rfl) rfl (by kernel_rfl) (by first | exact Nat.le_of_ble_eq_true rfl | (simp; omega) | simp))) <|
    .cons rfl (Q_p rfl (S_field 3 rfl (.tmp rfl) (by kernel_rfl))) <|
    .cons rfl (Q_p rfl (S_load 1 rfl (.tmp rfl) rfl rfl (by kernel_rfl))) <|
    .cons rfl (Q_p rfl (S_move rfl (.tmp rfl))) <|
    .cons rfl (Q_p rfl (S_elemN (e := 52) 11 rfl (.tmp rfl) (.tmp rfl) (by kernel_rfl) (by kernel_rfl) (by omega) (fun _ => rfl))) <|
    .cons rfl (Q_p rfl (S_loadPN (m := 11) rfl (.tmp rfl) (by kernel_rfl) (by first | exact Nat.le_of_ble_eq_true rfl | (simp; omega) | simp))) <|
    .cons rfl (Q_p rfl (S_pcall rfl (AEvs.cons (y := ctrAV (a.main[i]'hil)) (.tmp rfl) (AEvs.cons (y := ctrAV (b.main[i]'him)) (.tmp rfl) AEvs.nil)) (spec_alike_ok (a.main[i]'hil) (b.main[i]'him) (pa2 _ (List.getElem_mem _)).1 (pb2 _ (List.getElem_mem _)).1))) <|
    .cons rfl (Q_p rfl (S_not rfl (.tmp rfl))) <|
    .nil) ?_
  refine AC_cond (.tmp rfl) (fun hb8 => ?_) (fun hb8 => ?_)
  ·try simp only [zA,zO,zN,zM,zP,zQ,zD,zF,gd] at hb8
   have hend : frozenE a b = some (4, [atT mainN (i : Int)]) := by rw [hfe, eachE_at hil (by rw [hat, if_pos hb8]) hall]
   refine AC_seq (AC_region ?_)
   refine mv rfl rfl rfl rfl ?_
   refine p_ (S_pcall rfl (AEvs.cons (AEv.S _) (AEvs.cons (.tmp rfl) AEvs.nil)) (spec_at_ok mainN (by decide) (i : Int) hif)) ?_
   refine p_ (S_buildSlice (e := 9) 1 rfl (AEvs.cons (.tmp rfl) AEvs.nil) rfl (by kernel_rfl) (by kernel_rfl) (by intro y hy; simp only [List.mem_cons, List.not_mem_nil, or_false] at hy; rcases hy with rfl <;> exact ⟨rfl, rfl⟩) (by decide) (by decide) (by decide)) ?_
   refine p_ (S_pcall rfl (AEvs.cons (AEv.const _) (AEvs.cons (.tmp rfl) AEvs.nil)) (fail_New_ok 4 [atT mainN (i : Int)] (by simp))) ?_
   refine as_ rfl rfl rfl rfl ?_
   refine AL_nil (AC_ret ?_)
   refine ret_tmp st rfl rfl (Sub.l (List.Sublist.cons _ (List.Sublist.cons _ (List.Sublist.cons _ (List.Sublist.refl _))))) (Conv.refl (Sub.l (List.Sublist.cons _ (List.Sublist.cons _ (List.Sublist.cons _ (List.Sublist.refl _))))) _) ⟨by rw [hend]; rfl, rfl⟩ (.inl rfl)
  try simp only [zA,zO,zN,zM,zP,zQ,zD,zF,gd] at hb8
  have hal : ¬ alikeC (a.main[i]'hil) (b.main[i]'him) = false := by rw [hb8]; simp
  refine AC_skip ?_
  refine AC_seq ?_
  refine AC_draw (by kernel_rfl) (by kernel_rfl) (.cons rfl (Q_p rfl (S_field 1 rfl (.tmp rfl) (by kernel_rfl))) <|
    .cons rfl (Q_p rfl (S_load 0 rfl (.tmp rfl) rfl rfl (by kernel_rfl))) <|
    .cons rfl (Q_p rfl (S_field 3 rfl (.tmp rfl) (by kernel_rfl))) <|
    .cons rfl (Q_p rfl (S_load 1 rfl (.tmp rfl) rfl rfl (by kernel_rfl))) <|
    .cons rfl (Q_p rfl (S_move rfl (.tmp rfl))) <|
    .cons rfl (Q_p rfl (S_elemN (e := 52) (f := ctrAV) (l := b.main) 11 rfl (.tmp rfl) (.tmp rfl) (by kernel_rfl) (by kernel_rfl) (by omega) (fun _ => rfl))) <|
    .cons rfl (Q_p rfl (S_fieldP 1 rfl (.tmp rfl) (by kernel_rfl))) <|
    .cons rfl (Q_p rfl (S_loadP rfl (.tmp rfl) rfl (by kernel_rfl))) <|
    .cons rfl (Q_p rfl (S_neS rfl (.tmp rfl) (.tmp rfl))) <|
    .cons rfl (Q_p rfl (S_move rfl (.tmp rfl))) <|
    .cons rfl (Q_g rfl rfl (.tmp rfl) (fun hg9 => S_field 1 rfl (.tmp rfl) (by kernel_rfl))) <|
    .cons rfl (Q_g rfl rfl (.tmp rfl) (fun hg12 => S_load 0 rfl (AEv.cd (.tmp rfl)) rfl rfl (by kernel_rfl))) <|
    .cons rfl (Q_g rfl rfl (.tmp rfl) (fun hg15 => S_field 3 rfl (.tmp rfl) (by kernel_rfl))) <|
    .cons rfl (Q_g rfl rfl (.tmp rfl) (fun hg18 => S_load 1 rfl (AEv.cd (.tmp rfl)) rfl rfl (by kernel_rfl))) <|
    .cons rfl (Q_g rfl rfl (.tmp rfl) (fun hg21 => S_move rfl (.tmp rfl))) <|
    .cons rfl (Q_g rfl rfl (.tmp rfl) (fun hg24 => S_elemN (e := 52) (f := ctrAV) (l := b.main) 11 rfl (AEv.cd (.tmp rfl)) (AEv.cd (.tmp rfl)) (by kernel_rfl) (by kernel_rfl) (by (try simp only [gd, Bool.and_eq_true, Bool.or_eq_true, Bool.not_eq_true', Bool.not_eq_false', decide_eq_true_eq, decide_eq_false_iff_not, Bool.or_eq_false_iff, Bool.and_eq_false_iff] at *); omega) (fun _ => rfl))) <|
    .cons rfl (Q_g rfl rfl (.tmp rfl) (fun hg27 => S_fieldP 1 rfl (AEv.cd (.tmp rfl)) (by kernel_rfl))) <|
    .cons rfl (Q_g rfl rfl (.tmp rfl) (fun hg30 => S_loadP rfl (AEv.cd (.tmp rfl)) rfl (by kernel_rfl))) <|
    .cons rfl (Q_g rfl rfl (.tmp rfl) (fun hg33 => S_gcall rfl (AEvs.cons (AEv.cd (.tmp rfl)) (AEvs.cons (AEv.cd (.tmp rfl)) AEvs.nil)) ((text_Same_ok (a.main[i]'hil).image (b.main[i]'him).image (by have := (pa2 _ (List.getElem_mem hil)).2; omega) (by have := (pb2 _ (List.getElem_mem him)).2; omega)) _ (fun p hp => by first | exact hG p hp | (simp [hG p hp]; done))))) <|
    .cons rfl (Q_g rfl rfl (.tmp rfl) (fun hg36 => S_not rfl (AEv.cd (.tmp rfl)))) <|
    .cons rfl (Q_p rfl (S_and rfl (.tmp rfl) (fun hp39 => (AEv.cd (.tmp rfl))))) <|
    .nil) ?_
  refine AC_cond (.tmp rfl) (fun hb40 => ?_) (fun hb40 => ?_)
  ·try simp only [zA,zO,zN,zM,zP,zQ,zD,zF,gd] at hb40
   have hend : frozenE a b = some (33, [atT mainN (i : Int), [105, 109, 97, 103, 101]]) := by rw [hfe, eachE_at hil (by rw [hat, if_neg hal, if_pos ⟨by simpa using hb40.1, by simpa using hb40.2⟩]) hall]
   refine AC_seq (AC_region ?_)
   refine mv rfl rfl rfl rfl ?_
   refine p_ (S_pcall rfl (AEvs.cons (AEv.S _) (AEvs.cons (.tmp rfl) AEvs.nil)) (spec_at_ok mainN (by decide) (i : Int) hif)) ?_
   refine p_ (S_buildSlice (e := 9) 1 rfl (AEvs.cons (.tmp rfl) (AEvs.cons (AEv.S _) AEvs.nil)) rfl (by kernel_rfl) (by kernel_rfl) (by intro y hy; simp only [List.mem_cons, List.not_mem_nil, or_false] at hy; rcases hy with rfl | rfl <;> exact ⟨rfl, rfl⟩) (by decide) (by decide) (by decide)) ?_
   refine p_ (S_pcall rfl (AEvs.cons (AEv.const _) (AEvs.cons (.tmp rfl) AEvs.nil)) (fail_New_ok 33 [atT mainN (i : Int), [105, 109, 97, 103, 101]] (by simp))) ?_
   refine as_ rfl rfl rfl rfl ?_
   refine AL_nil (AC_ret ?_)
   refine ret_tmp st rfl rfl (Sub.l (List.Sublist.cons _ (List.Sublist.cons _ (List.Sublist.cons _ (List.Sublist.refl _))))) (Conv.refl (Sub.l (List.Sublist.cons _ (List.Sublist.cons _ (List.Sublist.cons _ (List.Sublist.refl _))))) _) ⟨by rw [hend]; rfl, rfl⟩ (.inl rfl)
  try simp only [zA,zO,zN,zM,zP,zQ,zD,zF,gd] at hb40
  have hfa : (frozenAt a.main b.main i) = none := by
   rw [hat, if_neg hal, if_neg]
   rintro ⟨k1, k2⟩
   rcases hb40 with h | h
   ·exact k1 (by simpa using h)
   ·rw [k2] at h; simp at h
  refine AC_skip ?_
  refine AC_region ?_
  refine p_ (S_addI rfl (.tmp rfl) (AEv.const _) (by omega) (by omega)) ?_
  refine mv rfl rfl rfl rfl ?_
  refine AL_nil ?_
  refine ⟨i + 1, ⟨by omega, fun j h => ?_⟩, by omega, (Sub.l (List.Sublist.cons _ (List.Sublist.refl _))), (.cons rfl (by first | exact Le.refl _ | exact Le.nils | exact Le.row _ _ _ _ | exact Le.of_eq (by first | rfl | (simp; done) | (push_cast; rfl) | (simp; omega))) .nil), (.cons rfl (Le.refl _) (.cons rfl (Le.refl _) (.cons rfl (Le.refl _) .nil)))⟩
  rcases Nat.lt_or_ge j i with h' | h'
  ·exact hall j h'
  ·have : j = i := by omega
   subst this
   exact hfa
 try simp only [zA,zO,zN,zM,zP,zQ,zD,zF,gd] at hb6
 have hend : frozenE a b = none := by rw [hfe, eachE_all fun j hj => hall j (by omega)]
 refine AC_exit ?_
 refine AC_seq (AC_region ?_)
 refine ac rfl rfl rfl ?_
 refine AL_nil (AC_ret ?_)
 refine ret_tmp st rfl rfl (Sub.l (List.Sublist.cons _ (List.Sublist.cons _ (List.Sublist.refl _)))) (Conv.refl (Sub.l (List.Sublist.cons _ (List.Sublist.cons _ (List.Sublist.refl _)))) _) ⟨by rw [hend]; rfl, rfl⟩ (.inl rfl)
theorem spec_Ports_ok (s : Spc) (hm : s.main.length ≤ 8) (hp : ∀ c ∈ s.main, c.ports.length ≤ 10) : PCalls Tryz.prog 18 [spcAV s] (.sl (intsV (portsS s))) := by
 intro st
 refine co 19 Tryz.func18 ?_
 refine AC_seq (AC_region ?_)
 refine s_ (S_box rfl (.tmp rfl)) ?_
 rintro _ _ ⟨b1, rfl, rfl⟩
 refine ac rfl rfl rfl ?_
 refine AL_nil (AC_seq (AC_region ?_))
 refine ac rfl rfl rfl ?_
 refine AL_nil ?_
 refine AC_seq ?_
 refine AC_seq (AC_region ?_)
 refine fl 3 ?_
 refine ld 0 ?_
 refine p_ (by first | exact S_lenM (e := 52) rfl (.tmp rfl) (by kernel_rfl) | exact S_len (e := 52) rfl (.tmp rfl) (by kernel_rfl)) ?_
 refine p_ (S_move rfl (AEv.const _)) ?_
 refine AL_nil ?_
 refine AC_block ?_
 refine AC_loopK (G := Nat × Own) [(2, _), (7, _), (8, _)] (fun g => g.1 ≤ s.main.length ∧ g.2.ok (((s.main.take g.1).flatMap Ctr.ports).map (fun n : Int => AV.int .i64 n))) (fun g => [(3, ownAV g.2 1 (((s.main.take g.1).flatMap Ctr.ports).map (fun n : Int => AV.int .i64 n))), (9, .int .i64 (g.1 : Int))]) (fun g => (b1, .cells (spcL s)) :: (ownSt g.2 3 1 (((s.main.take g.1).flatMap Ctr.ports).map (fun n : Int => AV.int .i64 n)) ++ st)) (fun g => s.main.length - g.1) ((0, .nil)) (⟨Nat.zero_le _, by simp [Own.ok]⟩) (Sub.l (List.Sublist.refl _)) (.cons rfl (Le.refl _) (.cons rfl (Le.refl _) (.cons rfl (Le.refl _) .nil))) (.cons rfl (by first | exact Le.refl _ | exact Le.nils | exact Le.row _ _ _ _ | exact Le.of_eq (by first | rfl | (simp; done) | (push_cast; rfl) | (simp; omega))) (.cons rfl (by first | exact Le.refl _ | exact Le.nils | exact Le.row _ _ _ _ | exact Le.of_eq (by first | rfl | (simp; done) | (push_cast; rfl) | (simp; omega))) .nil)) ?_
 rintro ⟨i, p⟩ ⟨hi, hq⟩
 try dsimp only
 simp only [List.cons_append, List.nil_append]
 dsimp only at hi hq
 refine AC_seq (AC_region ?_)
 refine p_ (S_lss rfl (.tmp rfl) (.tmp rfl)) ?_
 refine AL_nil ?_
 refine AC_seq ?_
 refine AC_cond (.tmp rfl) (fun hb2 => ?_) (fun hb2 => ?_)
 ·try simp only [zA,zO,zN,zM,zP,zQ,zD,zF,gd] at hb2
  have hil : i < s.main.length := by omega
  have hpl := hp _ (List.getElem_mem hil)
  have hfl := flat_le (l := s.main.take i) fun c h => hp c (List.mem_of_mem_take h)
  have htl : (s.main.take i).length = i := by rw [List.length_take]; omega
  refine AC_skip ?_
  refine AC_seq ?_
  refine AC_block ?_
  refine AC_seq (AC_region ?_)
  refine p_ (S_elemN (e := 52) 11 rfl (.tmp rfl) (.tmp rfl) (by kernel_rfl) (by kernel_rfl) (by omega) (fun _ => rfl)) ?_
  refine p_ (S_loadPN (m := 11) rfl (.tmp rfl) (by kernel_rfl) (by first | exact Nat.le_of_ble_eq_true rfl | (simp; omega) | simp)) ?_
  refine s_ (S_alloc [.string ⟨#[]⟩, .string ⟨#[]⟩, .int .i64 0, .int .i64 0, .int .i64 0, .int .i64 0, .int .i64 0, .int .i64 0, .slice none 0 0, .int .i64 0, .int .i64 0] rfl (by kernel_rfl)) ?_
  rintro _ _ ⟨b5, rfl, rfl⟩
  refine stW 0 ?_
  refine AL_nil ?_
  refine AC_region ?_
  refine mv rfl rfl rfl rfl ?_
  refine fl 8 ?_
  refine ld 0 ?_
  refine s_ (S_appendAny (f := (fun n : Int => AV.int .i64 n)) (l := (s.main.take i).flatMap Ctr.ports) (l2 := (s.main[i]'hil).ports) (e := 3) (size := 1) (bytes := 8) (p := p) ([_, _]) (st) rfl (.tmp rfl) (.tmp rfl) rfl hq (by kernel_rfl) (fun _ => ⟨rfl, rfl⟩) (by omega) (by omega)) ?_
  rintro _ _ ⟨q8, hx, rfl, rfl⟩
  refine as_ rfl rfl rfl rfl ?_
  refine AL_nil ?_
  refine AC_region ?_
  refine p_ (S_addI rfl (.tmp rfl) (AEv.const _) (by omega) (by omega)) ?_
  refine mv rfl rfl rfl rfl ?_
  refine AL_nil ?_
  rw [flat_snoc hil] at hx ⊢
  exact ⟨(i + 1, q8), ⟨by dsimp only; omega, hx⟩, by dsimp only; omega, (Sub.l (List.Sublist.cons _ (List.Sublist.refl _))), (.cons rfl (by first | exact Le.refl _ | exact Le.nils | exact Le.row _ _ _ _ | exact Le.of_eq (by first | rfl | (simp; done) | (push_cast; rfl) | (simp; omega))) (.cons rfl (by first | exact Le.refl _ | exact Le.nils | exact Le.row _ _ _ _ | exact Le.of_eq (by first | rfl | (simp; done) | (push_cast; rfl) | (simp; omega))) .nil)), (.cons rfl (Le.refl _) (.cons rfl (Le.refl _) (.cons rfl (Le.refl _) .nil)))⟩
 try simp only [zA,zO,zN,zM,zP,zQ,zD,zF,gd] at hb2
 obtain rfl : i = s.main.length := by omega
 refine AC_exit ?_
 refine AC_seq (AC_region ?_)
 refine mv rfl rfl rfl rfl ?_
 refine as_ rfl rfl rfl rfl ?_
 refine AL_nil (AC_ret ?_)
 refine ret_tmp st rfl rfl (Sub.l (List.Sublist.cons _ (List.sublist_append_right _ _))) (Conv.le (Sub.l (List.Sublist.cons _ (List.sublist_append_right _ _))) (Le_own hq)) ⟨by rw [List.take_length]; rfl, rfl⟩ (.inl rfl)
end Go.Proofs.YtfdcadnaginnpaaGreatDoor

set_option maxRecDepth 100000
namespace Go.Proofs.YtfdcadnaginnpaaGreatDoor
open Go.AL Go.NumSpec
theorem law_plain (st : St) : ACalls Tryz.prog 26 [] st (fun x st' => ∃ b, x = .agg [.S [119, 101, 98], .nils, .nils, .lit (.slice (some ⟨b, 0, none⟩) 2 2), .int .i64 3, .int .i64 0, .int .i64 0] ∧ st' = (b, .cells ([ctrAV ctrA6, ctrAV (ctrB6 [98])].flatMap AV.cells)) :: st) := by
 refine co 6 Tryz.func26 ?_
 refine AC_seq (AC_region ?_)
 refine s_ (S_alloc [.string ⟨#[]⟩, .slice none 0 0, .slice none 0 0, .slice none 0 0, .int .i64 0, .int .i64 0, .int .i64 0] rfl (by kernel_rfl)) ?_
 rintro _ _ ⟨b0, rfl, rfl⟩
 refine AL_nil (AC_seq (AC_region ?_))
 refine p_ (S_build (t := 52) (pl := [(0, 1), (1, 1), (2, 3), (5, 3), (8, 1), (9, 2)]) (zs := [.string ⟨#[]⟩, .string ⟨#[]⟩, .int .i64 0, .int .i64 0, .int .i64 0, .int .i64 0, .int .i64 0, .int .i64 0, .slice none 0 0, .int .i64 0, .int .i64 0]) rfl (AEvs.cons (AEv.S _) (AEvs.cons (AEv.S _) AEvs.nil)) (by kernel_rfl) rfl) ?_
 refine p_ (S_buildSlice (e := 3) 1 rfl (AEvs.cons (AEv.const _) AEvs.nil) rfl (by kernel_rfl) (by kernel_rfl) (by intro y hy; simp only [List.mem_cons, List.not_mem_nil, or_false] at hy; rcases hy with rfl <;> exact ⟨rfl, rfl⟩) (by decide) (by decide) (by decide)) ?_
 refine p_ (S_build (t := 52) (pl := [(0, 1), (1, 1), (2, 3), (5, 3), (8, 1), (9, 2)]) (zs := [.string ⟨#[]⟩, .string ⟨#[]⟩, .int .i64 0, .int .i64 0, .int .i64 0, .int .i64 0, .int .i64 0, .int .i64 0, .slice none 0 0, .int .i64 0, .int .i64 0]) rfl (AEvs.cons (AEv.S _) (AEvs.cons (AEv.S _) (AEvs.cons (.tmp rfl) AEvs.nil))) (by kernel_rfl) rfl) ?_
 refine s_ (S_buildV (e := 52) (ys := [ctrAV ctrA6, ctrAV (ctrB6 [98])]) 11 rfl (AEvs.cons ((AEv.tmp rfl).le (Les.agg (.cons (Le.refl _) (.cons (Le.refl _) (.cons (Le.refl _) (.cons (Le.refl _) (.cons (Le.refl _) (.cons (Le.refl _) (.cons (Le.refl _) (.cons (Le.refl _) (.cons Le.nils (.cons (Le.refl _) (.cons (Le.refl _) .nil))))))))))))) (AEvs.cons (.tmp rfl) AEvs.nil)) rfl (by kernel_rfl) (by kernel_rfl) (by intro y hy; simp only [List.mem_cons, List.not_mem_nil, or_false] at hy; rcases hy with rfl | rfl <;> exact ⟨rfl, rfl⟩) (by decide) (by decide) (by decide)) ?_
 rintro _ _ ⟨b9, rfl, rfl⟩
 refine p_ (S_build (t := 25) (pl := [(0, 1), (1, 1), (2, 1), (3, 1), (4, 1), (5, 1), (6, 1)]) (zs := [.string ⟨#[]⟩, .slice none 0 0, .slice none 0 0, .slice none 0 0, .int .i64 0, .int .i64 0, .int .i64 0]) rfl (AEvs.cons (AEv.S _) (AEvs.cons (.tmp rfl) (AEvs.cons (AEv.const _) AEvs.nil))) (by kernel_rfl) rfl) ?_
 refine stW 1 ?_
 refine AL_nil (AC_ret ?_)
 refine ret_cell (y := .agg [.S [119, 101, 98], .nils, .nils, .lit (.slice (some ⟨b9, 0, none⟩) 2 2), .int .i64 3, .int .i64 0, .int .i64 0]) 1 ((b9, .cells ([ctrAV ctrA6, ctrAV (ctrB6 [98])].flatMap AV.cells)) :: st) rfl rfl rfl (by kernel_rfl) (Sub.l (List.Sublist.cons_cons _ (List.Sublist.cons _ (List.Sublist.refl _)))) (Conv.refl (Sub.l (List.Sublist.cons_cons _ (List.Sublist.cons _ (List.Sublist.refl _)))) _) ⟨b9, rfl, rfl⟩ (.inl rfl)
set_option maxHeartbeats 1000000 in
theorem law_works : GCalls Tryz.prog tabs 8 [] (.bool true) := by
 intro st hG
 refine co 37 Tryz.func8 ?_
 refine AC_seq (AC_region ?_)
 refine ac rfl rfl rfl ?_
 refine AL_nil (AC_seq (AC_region ?_))
 refine s_ (S_call rfl AEvs.nil (law_plain _)) ?_
 rintro _ _ ⟨b9, rfl, rfl⟩
 refine s_ (S_alloc [.string ⟨#[]⟩, .slice none 0 0, .slice none 0 0, .slice none 0 0, .int .i64 0, .int .i64 0, .int .i64 0] rfl (by kernel_rfl)) ?_
 rintro _ _ ⟨b1, rfl, rfl⟩
 refine stW 0 ?_
 refine AL_nil (AC_seq (AC_region ?_))
 refine ldN 7 0 ?_
 refine p_ (S_gcallB (gs := tabs) (fun p hp => List.mem_cons_of_mem _ (List.mem_cons_of_mem _ (hG p hp))) (by decide) rfl (AEvs.cons (.tmp rfl) AEvs.nil) (args := [spcAV (plain6 [98])]) (.cons (LendsG.agg (.cons (Conv.mut (MutLe.memb (fun p hp => List.mem_cons_of_mem _ (List.mem_cons_of_mem _ (hG p hp)))) (Le.refl _)) (.cons (Conv.mut (MutLe.memb (fun p hp => List.mem_cons_of_mem _ (List.mem_cons_of_mem _ (hG p hp)))) Le.nils) (.cons (Conv.mut (MutLe.memb (fun p hp => List.mem_cons_of_mem _ (List.mem_cons_of_mem _ (hG p hp)))) Le.nils) (.cons (Conv.nd fun hnd => (Conv.vecM (q := .at b9 2) (size := 11) (xs := [ctrAV ctrA6, ctrAV (ctrB6 [98])]) (MutLe.memb (fun p hp => List.mem_cons_of_mem _ (List.mem_cons_of_mem _ (hG p hp)))) (Nat.le_refl 2) (fun x hx => by simp only [List.mem_cons, List.not_mem_nil, or_false] at hx; rcases hx with rfl | rfl <;> rfl) (fun p hp => by obtain rfl := List.mem_singleton.1 hp; exact List.mem_cons_of_mem _ List.mem_cons_self) (fun b cap hb => by cases hb; exact not_table hnd (fun p hp => List.mem_cons_of_mem _ (List.mem_cons_of_mem _ (hG p hp))) (cs := ([ctrAV ctrA6, ctrAV (ctrB6 [98])].flatMap AV.cells)) (List.mem_cons_of_mem _ List.mem_cons_self)))) (.cons (Conv.mut (MutLe.memb (fun p hp => List.mem_cons_of_mem _ (List.mem_cons_of_mem _ (hG p hp)))) (Le.refl _)) (.cons (Conv.mut (MutLe.memb (fun p hp => List.mem_cons_of_mem _ (List.mem_cons_of_mem _ (hG p hp)))) (Le.refl _)) (.cons (Conv.mut (MutLe.memb (fun p hp => List.mem_cons_of_mem _ (List.mem_cons_of_mem _ (hG p hp)))) (Le.refl _)) .nil)))))))) .nil) (v := .nilIface) (spec_Check_ok (plain6 [98]) (by decide +kernel))) ?_
 refine as_ rfl rfl rfl rfl ?_
 refine AL_nil (AC_seq (AC_region ?_))
 refine fl 3 ?_
 refine ld 0 ?_
 refine p_ (S_elemO (e := 52) 11 rfl (.tmp rfl) (AEv.const _) (by kernel_rfl) (by kernel_rfl) (by omega) (by omega)) ?_
 refine fl 0 ?_
 refine s_ (S_store 1 rfl (.tmp rfl) (AEv.S _) rfl (by decide) rfl (by kernel_rfl)) ?_
 rintro _ _ ⟨rfl, rfl⟩
 refine AL_nil ?_
 refine AC_seq ?_
 refine AC_conv (st' := (b1, .cells (spcL (plain6 [65]))) :: st) (env' := [(1, .ptr b1 0), (2, .nili)]) (StConv.cellsL (.cons (Conv.mut (MutLe.cells (MutLe.drop (MutLe.refl _))) (Le.refl _)) (.cons (Conv.mut (MutLe.cells (MutLe.drop (MutLe.refl _))) Le.nils) (.cons (Conv.mut (MutLe.cells (MutLe.drop (MutLe.refl _))) Le.nils) (.cons (Conv.nd fun hnd => (Conv.vecM (q := .at b9 2) (size := 11) (xs := [ctrAV ctrA6, ctrAV (ctrB6 [65])]) (MutLe.cells (MutLe.drop (MutLe.refl _))) (Nat.le_refl 2) (fun x hx => by simp only [List.mem_cons, List.not_mem_nil, or_false] at hx; rcases hx with rfl | rfl <;> rfl) (fun p hp => by obtain rfl := List.mem_singleton.1 hp; exact List.mem_cons_of_mem _ List.mem_cons_self) (fun b cap hb => by cases hb; exact (fun o ho => by
   simp only [List.set_cons_zero, List.set_cons_succ, List.map_cons, List.nodup_cons, List.mem_cons] at hnd
   rcases List.mem_cons.1 ho with h | h
   ·cases h; exact hnd.1 (.inl rfl)
   ·exact hnd.2.1 (List.mem_map_of_mem (f := Prod.fst) h))))) (.cons (Conv.mut (MutLe.cells (MutLe.drop (MutLe.refl _))) (Le.refl _)) (.cons (Conv.mut (MutLe.cells (MutLe.drop (MutLe.refl _))) (Le.refl _)) (.cons (Conv.mut (MutLe.cells (MutLe.drop (MutLe.refl _))) (Le.refl _)) .nil))))))) (.drop (.rest _ (fun c => Conv.mut (MutLe.cells (MutLe.drop (MutLe.refl _))) (Le.refl c))))) (.cons rfl (Conv.lits _) (.cons rfl (Conv.lits _) .nil)) ?_
 refine AC_region ?_
 refine ldN 7 0 ?_
 refine p_ (S_gcall rfl (AEvs.cons (y := spcAV (plain6 [65])) (.tmp rfl) AEvs.nil) ((spec_Check_ok (plain6 [65]) (by decide +kernel)) _ (fun p hp => by first | exact hG p hp | (simp [hG p hp]; done)))) ?_
 refine as_ rfl rfl rfl rfl ?_
 refine AL_nil (AC_seq (AC_region ?_))
 refine mv rfl rfl rfl rfl ?_
 refine p_ (S_eqlE (show ErrIs .nili true from rfl) rfl (.tmp rfl) (by kernel_rfl)) ?_
 refine mv rfl rfl rfl rfl ?_
 refine g_ (fun _ => mA) ?_
 refine g_ (fun _ => S_gcall rfl (AEvs.cons (AEv.cd (.tmp rfl)) AEvs.nil) ((fail_Text_ok (checkE (plain6 [65])) (by decide +kernel) (by decide +kernel)) _ (fun p hp => by first | exact hG p hp | (simp [hG p hp]; done)))) ?_
 refine g_ (fun _ => S_eqS rfl (AEv.cd (.tmp rfl)) (AEv.S _)) ?_
 refine an ?_
 refine mv rfl rfl rfl rfl ?_
 refine g_ (fun _ => mA) ?_
 refine g_ (fun _ => S_gcall rfl (AEvs.cons (AEv.cd (.tmp rfl)) AEvs.nil) ((fail_Code_ok (checkE (plain6 [65]))) _ (fun p hp => by first | exact hG p hp | (simp [hG p hp]; done)))) ?_
 refine g_ (fun _ => S_eql rfl (AEv.cd (.tmp rfl)) (AEv.const _)) ?_
 refine an ?_
 refine mv rfl rfl rfl rfl ?_
 refine g_ (fun _ => S_loadN (m := 7) 0 rfl (.tmp rfl) rfl (by kernel_rfl) (by first | exact Nat.le_of_ble_eq_true rfl | (simp; omega) | simp)) ?_
 refine g_ (fun _ => S_pcall rfl (AEvs.cons (y := spcAV (plain6 [65])) (AEv.cd (.tmp rfl)) AEvs.nil) (spec_Ports_ok (plain6 [65]) (by decide) (by decide))) ?_
 refine g_ (fun _ => by first | exact S_lenM (e := 3) rfl (AEv.cd (.tmp rfl)) (by kernel_rfl) | exact S_len (e := 3) rfl (AEv.cd (.tmp rfl)) (by kernel_rfl)) ?_
 refine g_ (fun _ => S_eql rfl (AEv.cd (.tmp rfl)) (AEv.const _)) ?_
 refine an ?_
 refine mv rfl rfl rfl rfl ?_
 refine g_ (fun _ => S_loadN (m := 7) 0 rfl (.tmp rfl) rfl (by kernel_rfl) (by first | exact Nat.le_of_ble_eq_true rfl | (simp; omega) | simp)) ?_
 refine g_ (fun _ => S_loadN (m := 7) 0 rfl (.tmp rfl) rfl (by kernel_rfl) (by first | exact Nat.le_of_ble_eq_true rfl | (simp; omega) | simp)) ?_
 refine g_ (fun _ => S_gcall rfl (AEvs.cons (y := spcAV (plain6 [65])) (AEv.cd (.tmp rfl)) (AEvs.cons (y := spcAV (plain6 [65])) (AEv.cd (.tmp rfl)) AEvs.nil)) ((spec_Frozen_ok (plain6 [65]) (plain6 [65]) (by decide) (by decide) (by decide) (by decide) (by rintro s (rfl | rfl) <;> exact ⟨by decide, by decide⟩)) _ (fun p hp => by first | exact hG p hp | (simp [hG p hp]; done)))) ?_
 refine g_ (fun _ => S_eqlE (er_is 33 116 (frozenE (plain6 [65]) (plain6 [65]))) rfl (AEv.cd (.tmp rfl)) (by kernel_rfl)) ?_
 refine an ?_
 refine as_ rfl rfl rfl rfl ?_
 refine AL_nil (AC_ret ?_)
 refine ret_tmp st rfl rfl (Sub.l (List.Sublist.cons _ (List.Sublist.refl _))) (Conv.refl (Sub.l (List.Sublist.cons _ (List.Sublist.refl _))) _) ⟨congrArg AV.bool (by decide +kernel), rfl⟩ (.inl rfl)
end Go.Proofs.YtfdcadnaginnpaaGreatDoor

namespace Go.Proofs.YtfdcadnaginnpaaGreatDoor
open Go.AL Go.NumSpec

end Go.Proofs.YtfdcadnaginnpaaGreatDoor

namespace Go.Proofs.YtfdcadnaginnpaaGreatDoor
open Go.AL Go.NumSpec

end Go.Proofs.YtfdcadnaginnpaaGreatDoor

namespace Go.Proofs.YtfdcadnaginnpaaGreatDoor
open Go.AL Go.NumSpec

end Go.Proofs.YtfdcadnaginnpaaGreatDoor

namespace Go.Proofs.YtfdcadnaginnpaaGreatDoor
open Go.AL Go.NumSpec

end Go.Proofs.YtfdcadnaginnpaaGreatDoor

set_option maxRecDepth 100000
namespace Go.Proofs.YtfdcadnaginnpaaGreatDoor
open Go.AL Go.NumSpec
theorem book_SameInts_ok (a b : List (Int)) (ha : a.length ≤ 1000000) (hb : b.length ≤ 1000000) : PCalls Tryz.prog 17 [.sl (intsV a), .sl (intsV b)] (.bool (decide (a = b))) := by
 intro st
 refine co 37 Tryz.func17 ?_
 refine AC_seq (AC_region ?_)
 refine ac rfl rfl rfl ?_
 refine AL_nil (AC_seq (AC_region ?_))
 refine mv rfl rfl rfl rfl ?_
 refine p_ (by first | exact S_lenM (e := 3) rfl (.tmp rfl) (by kernel_rfl) | exact S_len (e := 3) rfl (.tmp rfl) (by kernel_rfl)) ?_
 refine mv rfl rfl rfl rfl ?_
 refine p_ (by first | exact S_lenM (e := 3) rfl (.tmp rfl) (by kernel_rfl) | exact S_len (e := 3) rfl (.tmp rfl) (by kernel_rfl)) ?_
 refine p_ (S_eql rfl (.tmp rfl) (.tmp rfl)) ?_
 refine as_ rfl rfl rfl rfl ?_
 refine AL_nil ?_
 refine AC_seq ?_
 refine AC_seq (AC_region ?_)
 refine ac rfl rfl rfl ?_
 refine AL_nil ?_
 refine AC_block ?_
 refine AC_loopK (G := Nat) [(0, _), (1, _), (4, _)] (fun i => i ≤ a.length) (fun g => [(5, .bool (sameP (fun a b => decide (a = b)) a b g)), (6, .int .i64 (g : Int))]) (fun g => st) (fun g => a.length - g) (0) (Nat.zero_le _) (Sub.l (List.Sublist.refl _)) (.cons rfl (Le.refl _) (.cons rfl (Le.refl _) (.cons rfl (Le.refl _) .nil))) (.cons rfl (Le.of_eq (congrArg AV.bool (by rw [sameP_zero]; exact decide_eq_decide.2 (by omega)))) (.cons rfl (by first | exact Le.refl _ | exact Le.nils | exact Le.row _ _ _ _ | exact Le.of_eq (by first | rfl | (simp; done) | (push_cast; rfl) | (simp; omega))) .nil)) ?_
 rintro i hi
 try dsimp only
 simp only [List.cons_append, List.nil_append]
 refine AC_seq ?_
 refine AC_seq (AC_region ?_)
 refine mv rfl rfl rfl rfl ?_
 refine mv rfl rfl rfl rfl ?_
 refine g_ (fun _ => mA) ?_
 refine g_ (fun _ => mA) ?_
 refine g_ (fun _ => by first | exact S_lenM (e := 3) rfl (AEv.cd (.tmp rfl)) (by kernel_rfl) | exact S_len (e := 3) rfl (AEv.cd (.tmp rfl)) (by kernel_rfl)) ?_
 refine g_ (fun _ => S_lss rfl (AEv.cd (.tmp rfl)) (AEv.cd (.tmp rfl))) ?_
 refine an ?_
 refine mv rfl rfl rfl rfl ?_
 refine g_ (fun _ => mA) ?_
 refine g_ (fun _ => mA) ?_
 refine g_ (fun _ => by first | exact S_lenM (e := 3) rfl (AEv.cd (.tmp rfl)) (by kernel_rfl) | exact S_len (e := 3) rfl (AEv.cd (.tmp rfl)) (by kernel_rfl)) ?_
 refine g_ (fun _ => S_lss rfl (AEv.cd (.tmp rfl)) (AEv.cd (.tmp rfl))) ?_
 refine an ?_
 refine AL_nil ?_
 refine AC_cond (.tmp rfl) (fun hb27 => ?_) (fun hb27 => ?_)
 ·try simp only [zA,zO,zN,zM,zP,zQ,zD,zF,gd] at hb27
  have hs : sameP (fun a b => decide (a = b)) a b i = true := hb27.1.1
  have hia : i < a.length := by have := hb27.1.2; omega
  have hib : i < b.length := by have := hb27.2; omega
  refine AC_skip ?_
  refine AC_seq ?_
  refine AC_block ?_
  refine AC_draw (by kernel_rfl) (by kernel_rfl) (.cons rfl (Q_p rfl (S_move rfl (.tmp rfl))) <|
    .cons rfl (Q_p rfl (S_move rfl (.tmp rfl))) <|
    .cons rfl (Q_p rfl (S_elemN (e := 3) 1 rfl (.tmp rfl) (.tmp rfl) (by kernel_rfl) (by kernel_rfl) (by omega) (fun _ => rfl))) <|
    .cons rfl (Q_p rfl (S_loadP rfl (.tmp rfl) rfl (by kernel_rfl))) <|
    .cons rfl (Q_p rfl (S_move rfl (.tmp rfl))) <|
    .cons rfl (Q_p rfl (S_move rfl (.tmp rfl))) <|
    .cons rfl (Q_p rfl (S_elemN (e := 3) 1 rfl (.tmp rfl) (.tmp rfl) (by kernel_rfl) (by kernel_rfl) (by omega) (fun _ => rfl))) <|
    .cons rfl (Q_p rfl (S_loadP rfl (.tmp rfl) rfl (by kernel_rfl))) <|
    .cons rfl (Q_p rfl (S_eql rfl (.tmp rfl) (.tmp rfl))) <|
    .cons rfl (Q_p rfl (S_assign rfl (.tmp rfl))) <|
    .nil) ?_
  refine AC_region ?_
  refine mv rfl rfl rfl rfl ?_
  refine p_ (S_addI rfl (.tmp rfl) (AEv.const _) (by omega) (by omega)) ?_
  refine as_ rfl rfl rfl rfl ?_
  refine AL_nil ?_
  exact ⟨i + 1, by omega, by omega, (Sub.l (List.Sublist.refl _)), (.cons rfl (Le.of_eq (congrArg AV.bool (sameP_next hs hia hib).symm)) (.cons rfl (by first | exact Le.refl _ | exact Le.nils | exact Le.row _ _ _ _ | exact Le.of_eq (by first | rfl | (simp; done) | (push_cast; rfl) | (simp; omega))) .nil)), (.cons rfl (Le.refl _) (.cons rfl (Le.refl _) (.cons rfl (Le.refl _) .nil)))⟩
 try simp only [zA,zO,zN,zM,zP,zQ,zD,zF,gd] at hb27
 have hend := sameP_end (f := (fun a b => decide (a = b))) (a := a) (b := b) (i := i) (by
  rcases hb27 with (h | h) | h
  ·exact .inl h
  ·exact .inr (.inl (by omega))
  ·exact .inr (.inr (by omega)))
 refine AC_exit ?_
 refine AC_seq (AC_region ?_)
 refine mv rfl rfl rfl rfl ?_
 refine as_ rfl rfl rfl rfl ?_
 refine AL_nil (AC_ret ?_)
 refine ret_tmp st rfl rfl (Sub.l (List.Sublist.refl _)) (Conv.refl (Sub.l (List.Sublist.refl _)) _) ⟨congrArg AV.bool (hend.trans sameL_eq), rfl⟩ (.inl rfl)
theorem book_SameLabels_ok (a b : List (Lab)) (ha : a.length ≤ 1000000) (hb : b.length ≤ 1000000) : PCalls Tryz.prog 44 [.sl (labsV a), .sl (labsV b)] (.bool (decide (a = b))) := by
 intro st
 refine co 37 Tryz.func44 ?_
 refine AC_seq (AC_region ?_)
 refine ac rfl rfl rfl ?_
 refine AL_nil (AC_seq (AC_region ?_))
 refine mv rfl rfl rfl rfl ?_
 refine p_ (by first | exact S_lenM (e := 56) rfl (.tmp rfl) (by kernel_rfl) | exact S_len (e := 56) rfl (.tmp rfl) (by kernel_rfl)) ?_
 refine mv rfl rfl rfl rfl ?_
 refine p_ (by first | exact S_lenM (e := 56) rfl (.tmp rfl) (by kernel_rfl) | exact S_len (e := 56) rfl (.tmp rfl) (by kernel_rfl)) ?_
 refine p_ (S_eql rfl (.tmp rfl) (.tmp rfl)) ?_
 refine as_ rfl rfl rfl rfl ?_
 refine AL_nil ?_
 refine AC_seq ?_
 refine AC_seq (AC_region ?_)
 refine ac rfl rfl rfl ?_
 refine AL_nil ?_
 refine AC_block ?_
 refine AC_loopK (G := Nat) [(0, _), (1, _), (4, _)] (fun i => i ≤ a.length) (fun g => [(5, .bool (sameP (fun a b => decide (a = b)) a b g)), (6, .int .i64 (g : Int))]) (fun g => st) (fun g => a.length - g) (0) (Nat.zero_le _) (Sub.l (List.Sublist.refl _)) (.cons rfl (Le.refl _) (.cons rfl (Le.refl _) (.cons rfl (Le.refl _) .nil))) (.cons rfl (Le.of_eq (congrArg AV.bool (by rw [sameP_zero]; exact decide_eq_decide.2 (by omega)))) (.cons rfl (by first | exact Le.refl _ | exact Le.nils | exact Le.row _ _ _ _ | exact Le.of_eq (by first | rfl | (simp; done) | (push_cast; rfl) | (simp; omega))) .nil)) ?_
 rintro i hi
 try dsimp only
 simp only [List.cons_append, List.nil_append]
 refine AC_seq ?_
 refine AC_seq (AC_region ?_)
 refine mv rfl rfl rfl rfl ?_
 refine mv rfl rfl rfl rfl ?_
 refine g_ (fun _ => mA) ?_
 refine g_ (fun _ => mA) ?_
 refine g_ (fun _ => by first | exact S_lenM (e := 56) rfl (AEv.cd (.tmp rfl)) (by kernel_rfl) | exact S_len (e := 56) rfl (AEv.cd (.tmp rfl)) (by kernel_rfl)) ?_
 refine g_ (fun _ => S_lss rfl (AEv.cd (.tmp rfl)) (AEv.cd (.tmp rfl))) ?_
 refine an ?_
 refine mv rfl rfl rfl rfl ?_
 refine g_ (fun _ => mA) ?_
 refine g_ (fun _ => mA) ?_
 refine g_ (fun _ => by first | exact S_lenM (e := 56) rfl (AEv.cd (.tmp rfl)) (by kernel_rfl) | exact S_len (e := 56) rfl (AEv.cd (.tmp rfl)) (by kernel_rfl)) ?_
 refine g_ (fun _ => S_lss rfl (AEv.cd (.tmp rfl)) (AEv.cd (.tmp rfl))) ?_
 refine an ?_
 refine AL_nil ?_
 refine AC_cond (.tmp rfl) (fun hb27 => ?_) (fun hb27 => ?_)
 ·try simp only [zA,zO,zN,zM,zP,zQ,zD,zF,gd] at hb27
  have hs : sameP (fun a b => decide (a = b)) a b i = true := hb27.1.1
  have hia : i < a.length := by have := hb27.1.2; omega
  have hib : i < b.length := by have := hb27.2; omega
  refine AC_skip ?_
  refine AC_seq ?_
  refine AC_block ?_
  refine AC_draw (by kernel_rfl) (by kernel_rfl) (.cons rfl (Q_p rfl (S_move rfl (.tmp rfl))) <|
    .cons rfl (Q_p rfl (S_move rfl (.tmp rfl))) <|
    .cons rfl (Q_p rfl (S_elemN (e := 56) 2 rfl (.tmp rfl) (.tmp rfl) (by kernel_rfl) (by kernel_rfl) (by omega) (fun _ => rfl))) <|
    .cons rfl (Q_p rfl (S_loadPN (m := 2) rfl (.tmp rfl) (by kernel_rfl) (by first | exact Nat.le_of_ble_eq_true rfl | (simp; omega) | simp))) <|
    .cons rfl (Q_p rfl (S_move rfl (.tmp rfl))) <|
    .cons rfl (Q_p rfl (S_move rfl (.tmp rfl))) <|
    .cons rfl (Q_p rfl (S_elemN (e := 56) 2 rfl (.tmp rfl) (.tmp rfl) (by kernel_rfl) (by kernel_rfl) (by omega) (fun _ => rfl))) <|
    .cons rfl (Q_p rfl (S_loadPN (m := 2) rfl (.tmp rfl) (by kernel_rfl) (by first | exact Nat.le_of_ble_eq_true rfl | (simp; omega) | simp))) <|
    .cons rfl (Q_p rfl ((S_eqlAgg rfl (.tmp rfl) (.tmp rfl) (by kernel_rfl) (EqAV.struct Tryz.underlying56 (by kernel_rfl) (EqFs.flat (by kernel_rfl) (by kernel_rfl) rfl rfl (EqAV.S (by kernel_rfl)) (EqFs.flat (by kernel_rfl) (by kernel_rfl) rfl rfl (EqAV.S (by kernel_rfl)) EqFs.nil)))).ofV (V' := .bool (decide ((a[i]'hia) = (b[i]'hib)))) (congrArg AV.bool lab_eqB))) <|
    .cons rfl (Q_p rfl (S_assign rfl (.tmp rfl))) <|
    .nil) ?_
  refine AC_region ?_
  refine mv rfl rfl rfl rfl ?_
  refine p_ (S_addI rfl (.tmp rfl) (AEv.const _) (by omega) (by omega)) ?_
  refine as_ rfl rfl rfl rfl ?_
  refine AL_nil ?_
  exact ⟨i + 1, by omega, by omega, (Sub.l (List.Sublist.refl _)), (.cons rfl (Le.of_eq (congrArg AV.bool (sameP_next hs hia hib).symm)) (.cons rfl (by first | exact Le.refl _ | exact Le.nils | exact Le.row _ _ _ _ | exact Le.of_eq (by first | rfl | (simp; done) | (push_cast; rfl) | (simp; omega))) .nil)), (.cons rfl (Le.refl _) (.cons rfl (Le.refl _) (.cons rfl (Le.refl _) .nil)))⟩
 try simp only [zA,zO,zN,zM,zP,zQ,zD,zF,gd] at hb27
 have hend := sameP_end (f := (fun a b => decide (a = b))) (a := a) (b := b) (i := i) (by
  rcases hb27 with (h | h) | h
  ·exact .inl h
  ·exact .inr (.inl (by omega))
  ·exact .inr (.inr (by omega)))
 refine AC_exit ?_
 refine AC_seq (AC_region ?_)
 refine mv rfl rfl rfl rfl ?_
 refine as_ rfl rfl rfl rfl ?_
 refine AL_nil (AC_ret ?_)
 refine ret_tmp st rfl rfl (Sub.l (List.Sublist.refl _)) (Conv.refl (Sub.l (List.Sublist.refl _)) _) ⟨congrArg AV.bool (hend.trans sameL_eq), rfl⟩ (.inl rfl)
theorem book_SameContainers_ok (a b : List (Ctr)) (ha : a.length ≤ 1000000) (hb : b.length ≤ 1000000) (hap : ∀ c ∈ a, c.ports.length ≤ 1000000) (hbp : ∀ c ∈ b, c.ports.length ≤ 1000000) : PCalls Tryz.prog 45 [.sl (ctrsV a), .sl (ctrsV b)] (.bool (sameL exactC a b)) := by
 intro st
 refine co 78 Tryz.func45 ?_
 refine AC_seq (AC_region ?_)
 refine ac rfl rfl rfl ?_
 refine AL_nil (AC_seq (AC_region ?_))
 refine mv rfl rfl rfl rfl ?_
 refine p_ (by first | exact S_lenM (e := 52) rfl (.tmp rfl) (by kernel_rfl) | exact S_len (e := 52) rfl (.tmp rfl) (by kernel_rfl)) ?_
 refine mv rfl rfl rfl rfl ?_
 refine p_ (by first | exact S_lenM (e := 52) rfl (.tmp rfl) (by kernel_rfl) | exact S_len (e := 52) rfl (.tmp rfl) (by kernel_rfl)) ?_
 refine p_ (S_eql rfl (.tmp rfl) (.tmp rfl)) ?_
 refine as_ rfl rfl rfl rfl ?_
 refine AL_nil ?_
 refine AC_seq ?_
 refine AC_seq (AC_region ?_)
 refine ac rfl rfl rfl ?_
 refine AL_nil ?_
 refine AC_block ?_
 refine AC_loopK (G := Nat) [(0, _), (1, _), (4, _)] (fun i => i ≤ a.length) (fun g => [(5, .bool (sameP exactC a b g)), (6, .int .i64 (g : Int))]) (fun g => st) (fun g => a.length - g) (0) (Nat.zero_le _) (Sub.l (List.Sublist.refl _)) (.cons rfl (Le.refl _) (.cons rfl (Le.refl _) (.cons rfl (Le.refl _) .nil))) (.cons rfl (Le.of_eq (congrArg AV.bool (by rw [sameP_zero]; exact decide_eq_decide.2 (by omega)))) (.cons rfl (by first | exact Le.refl _ | exact Le.nils | exact Le.row _ _ _ _ | exact Le.of_eq (by first | rfl | (simp; done) | (push_cast; rfl) | (simp; omega))) .nil)) ?_
 rintro i hi
 try dsimp only
 simp only [List.cons_append, List.nil_append]
 refine AC_seq ?_
 refine AC_seq (AC_region ?_)
 refine mv rfl rfl rfl rfl ?_
 refine mv rfl rfl rfl rfl ?_
 refine g_ (fun _ => mA) ?_
 refine g_ (fun _ => mA) ?_
 refine g_ (fun _ => by first | exact S_lenM (e := 52) rfl (AEv.cd (.tmp rfl)) (by kernel_rfl) | exact S_len (e := 52) rfl (AEv.cd (.tmp rfl)) (by kernel_rfl)) ?_
 refine g_ (fun _ => S_lss rfl (AEv.cd (.tmp rfl)) (AEv.cd (.tmp rfl))) ?_
 refine an ?_
 refine mv rfl rfl rfl rfl ?_
 refine g_ (fun _ => mA) ?_
 refine g_ (fun _ => mA) ?_
 refine g_ (fun _ => by first | exact S_lenM (e := 52) rfl (AEv.cd (.tmp rfl)) (by kernel_rfl) | exact S_len (e := 52) rfl (AEv.cd (.tmp rfl)) (by kernel_rfl)) ?_
 refine g_ (fun _ => S_lss rfl (AEv.cd (.tmp rfl)) (AEv.cd (.tmp rfl))) ?_
 refine an ?_
 refine AL_nil ?_
 refine AC_cond (.tmp rfl) (fun hb27 => ?_) (fun hb27 => ?_)
 ·try simp only [zA,zO,zN,zM,zP,zQ,zD,zF,gd] at hb27
  have hs : sameP exactC a b i = true := hb27.1.1
  have hia : i < a.length := by have := hb27.1.2; omega
  have hib : i < b.length := by have := hb27.2; omega
  refine AC_skip ?_
  refine AC_seq ?_
  refine AC_block ?_
  refine AC_seq (AC_region ?_)
  refine mv rfl rfl rfl rfl ?_
  refine mv rfl rfl rfl rfl ?_
  refine p_ (S_elemN (e := 52) 11 rfl (.tmp rfl) (.tmp rfl) (by kernel_rfl) (by kernel_rfl) (by omega) (fun _ => rfl)) ?_
  refine p_ (S_loadPN (m := 11) rfl (.tmp rfl) (by kernel_rfl) (by first | exact Nat.le_of_ble_eq_true rfl | (simp; omega) | simp)) ?_
  refine s_ (S_alloc [.string ⟨#[]⟩, .string ⟨#[]⟩, .int .i64 0, .int .i64 0, .int .i64 0, .int .i64 0, .int .i64 0, .int .i64 0, .slice none 0 0, .int .i64 0, .int .i64 0] rfl (by kernel_rfl)) ?_
  rintro _ _ ⟨b7, rfl, rfl⟩
  refine stW 0 ?_
  refine AL_nil (AC_seq (AC_region ?_))
  refine mv rfl rfl rfl rfl ?_
  refine mv rfl rfl rfl rfl ?_
  refine p_ (S_elemN (e := 52) 11 rfl (.tmp rfl) (.tmp rfl) (by kernel_rfl) (by kernel_rfl) (by omega) (fun _ => rfl)) ?_
  refine p_ (S_loadPN (m := 11) rfl (.tmp rfl) (by kernel_rfl) (by first | exact Nat.le_of_ble_eq_true rfl | (simp; omega) | simp)) ?_
  refine s_ (S_alloc [.string ⟨#[]⟩, .string ⟨#[]⟩, .int .i64 0, .int .i64 0, .int .i64 0, .int .i64 0, .int .i64 0, .int .i64 0, .slice none 0 0, .int .i64 0, .int .i64 0] rfl (by kernel_rfl)) ?_
  rintro _ _ ⟨b8, rfl, rfl⟩
  refine stW 0 ?_
  refine AL_nil ?_
  refine AC_region ?_
  refine fl 0 ?_
  refine ld 1 ?_
  refine fl 0 ?_
  refine ld 0 ?_
  refine p_ (S_eqS rfl (.tmp rfl) (.tmp rfl)) ?_
  refine mv rfl rfl rfl rfl ?_
  refine g_ (fun _ => fA 1) ?_
  refine g_ (fun _ => lA 1) ?_
  refine g_ (fun _ => fA 1) ?_
  refine g_ (fun _ => lA 0) ?_
  refine g_ (fun _ => S_eqS rfl (AEv.cd (.tmp rfl)) (AEv.cd (.tmp rfl))) ?_
  refine an ?_
  refine mv rfl rfl rfl rfl ?_
  refine g_ (fun _ => fA 2) ?_
  refine g_ (fun _ => lN 3 1) ?_
  refine g_ (fun _ => fA 2) ?_
  refine g_ (fun _ => lN 3 0) ?_
  refine g_ (fun _ => S_eqlAgg rfl (AEv.cd (.tmp rfl)) (AEv.cd (.tmp rfl)) (by kernel_rfl) (EqAV.struct Tryz.underlying48 (by kernel_rfl) (EqFs.flat (by kernel_rfl) (by kernel_rfl) rfl rfl (EqAV.int (k' := .i64) (by kernel_rfl)) (EqFs.flat (by kernel_rfl) (by kernel_rfl) rfl rfl (EqAV.int (k' := .i64) (by kernel_rfl)) (EqFs.flat (by kernel_rfl) (by kernel_rfl) rfl rfl (EqAV.int (k' := .i64) (by kernel_rfl)) EqFs.nil))))) ?_
  refine an ?_
  refine mv rfl rfl rfl rfl ?_
  refine g_ (fun _ => fA 5) ?_
  refine g_ (fun _ => lN 3 1) ?_
  refine g_ (fun _ => fA 5) ?_
  refine g_ (fun _ => lN 3 0) ?_
  refine g_ (fun _ => S_eqlAgg rfl (AEv.cd (.tmp rfl)) (AEv.cd (.tmp rfl)) (by kernel_rfl) (EqAV.struct Tryz.underlying48 (by kernel_rfl) (EqFs.flat (by kernel_rfl) (by kernel_rfl) rfl rfl (EqAV.int (k' := .i64) (by kernel_rfl)) (EqFs.flat (by kernel_rfl) (by kernel_rfl) rfl rfl (EqAV.int (k' := .i64) (by kernel_rfl)) (EqFs.flat (by kernel_rfl) (by kernel_rfl) rfl rfl (EqAV.int (k' := .i64) (by kernel_rfl)) EqFs.nil))))) ?_
  refine an ?_
  refine mv rfl rfl rfl rfl ?_
  refine g_ (fun _ => fA 8) ?_
  refine g_ (fun _ => lA 1) ?_
  refine g_ (fun _ => fA 8) ?_
  refine g_ (fun _ => lA 0) ?_
  refine g_ (fun _ => S_pcall rfl (AEvs.cons (AEv.cd (.tmp rfl)) (AEvs.cons (AEv.cd (.tmp rfl)) AEvs.nil)) (book_SameInts_ok (a[i]'hia).ports (b[i]'hib).ports (hap _ (List.getElem_mem _)) (hbp _ (List.getElem_mem _)))) ?_
  refine an ?_
  refine mv rfl rfl rfl rfl ?_
  refine g_ (fun _ => fA 9) ?_
  refine g_ (fun _ => lN 2 1) ?_
  refine g_ (fun _ => fA 9) ?_
  refine g_ (fun _ => lN 2 0) ?_
  refine g_ (fun _ => S_eqlAgg rfl (AEv.cd (.tmp rfl)) (AEv.cd (.tmp rfl)) (by kernel_rfl) (EqAV.struct Tryz.underlying50 (by kernel_rfl) (EqFs.flat (by kernel_rfl) (by kernel_rfl) rfl rfl (EqAV.int (k' := .i64) (by kernel_rfl)) (EqFs.flat (by kernel_rfl) (by kernel_rfl) rfl rfl (EqAV.int (k' := .i64) (by kernel_rfl)) EqFs.nil)))) ?_
  refine an ?_
  refine as_ rfl rfl rfl rfl ?_
  refine AL_nil ?_
  refine AC_region ?_
  refine mv rfl rfl rfl rfl ?_
  refine p_ (S_addI rfl (.tmp rfl) (AEv.const _) (by omega) (by omega)) ?_
  refine as_ rfl rfl rfl rfl ?_
  refine AL_nil ?_
  exact ⟨i + 1, by omega, by omega, (Sub.l (List.Sublist.cons _ (List.Sublist.cons _ (List.Sublist.refl _)))), (.cons rfl (Le.of_eq (congrArg AV.bool (by rw [sameP_next hs hia hib, ← exactC_order, res_eqB, res_eqB, probe_eqB]))) (.cons rfl (by first | exact Le.refl _ | exact Le.nils | exact Le.row _ _ _ _ | exact Le.of_eq (by first | rfl | (simp; done) | (push_cast; rfl) | (simp; omega))) .nil)), (.cons rfl (Le.refl _) (.cons rfl (Le.refl _) (.cons rfl (Le.refl _) .nil)))⟩
 try simp only [zA,zO,zN,zM,zP,zQ,zD,zF,gd] at hb27
 have hend := sameP_end (f := exactC) (a := a) (b := b) (i := i) (by
  rcases hb27 with (h | h) | h
  ·exact .inl h
  ·exact .inr (.inl (by omega))
  ·exact .inr (.inr (by omega)))
 refine AC_exit ?_
 refine AC_seq (AC_region ?_)
 refine mv rfl rfl rfl rfl ?_
 refine as_ rfl rfl rfl rfl ?_
 refine AL_nil (AC_ret ?_)
 refine ret_tmp st rfl rfl (Sub.l (List.Sublist.refl _)) (Conv.refl (Sub.l (List.Sublist.refl _)) _) ⟨congrArg AV.bool (hend.trans rfl), rfl⟩ (.inl rfl)
theorem book_SameSpec_ok (a b : Spc) (ha : shortS a) (hb : shortS b) : PCalls Tryz.prog 16 [spcAV a, spcAV b] (.bool (sameS a b)) := by
 intro st
 refine co 52 Tryz.func16 ?_
 obtain ⟨a1, a2, a3, a4, a5⟩ := ha
 obtain ⟨b1', b2', b3', b4', b5'⟩ := hb
 refine AC_seq (AC_region ?_)
 refine s_ (S_box rfl (.tmp rfl)) ?_
 rintro _ _ ⟨b1, rfl, rfl⟩
 refine s_ (S_box rfl (.tmp rfl)) ?_
 rintro _ _ ⟨b2, rfl, rfl⟩
 refine ac rfl rfl rfl ?_
 refine AL_nil (AC_seq (AC_region ?_))
 refine fl 0 ?_
 refine ld 1 ?_
 refine fl 0 ?_
 refine ld 0 ?_
 refine p_ (S_eqS rfl (.tmp rfl) (.tmp rfl)) ?_
 refine mv rfl rfl rfl rfl ?_
 refine g_ (fun _ => fA 1) ?_
 refine g_ (fun _ => lA 1) ?_
 refine g_ (fun _ => fA 1) ?_
 refine g_ (fun _ => lA 0) ?_
 refine g_ (fun _ => S_pcall rfl (AEvs.cons (AEv.cd (.tmp rfl)) (AEvs.cons (AEv.cd (.tmp rfl)) AEvs.nil)) (book_SameLabels_ok a.labels b.labels a1 b1')) ?_
 refine an ?_
 refine mv rfl rfl rfl rfl ?_
 refine g_ (fun _ => fA 2) ?_
 refine g_ (fun _ => lA 1) ?_
 refine g_ (fun _ => fA 2) ?_
 refine g_ (fun _ => lA 0) ?_
 refine g_ (fun _ => S_pcall rfl (AEvs.cons (AEv.cd (.tmp rfl)) (AEvs.cons (AEv.cd (.tmp rfl)) AEvs.nil)) (book_SameContainers_ok a.init b.init a2 b2' a4 b4')) ?_
 refine an ?_
 refine mv rfl rfl rfl rfl ?_
 refine g_ (fun _ => fA 3) ?_
 refine g_ (fun _ => lA 1) ?_
 refine g_ (fun _ => fA 3) ?_
 refine g_ (fun _ => lA 0) ?_
 refine g_ (fun _ => S_pcall rfl (AEvs.cons (AEv.cd (.tmp rfl)) (AEvs.cons (AEv.cd (.tmp rfl)) AEvs.nil)) (book_SameContainers_ok a.main b.main a3 b3' a5 b5')) ?_
 refine an ?_
 refine mv rfl rfl rfl rfl ?_
 refine g_ (fun _ => fA 4) ?_
 refine g_ (fun _ => lA 1) ?_
 refine g_ (fun _ => fA 4) ?_
 refine g_ (fun _ => lA 0) ?_
 refine g_ (fun _ => S_eql rfl (AEv.cd (.tmp rfl)) (AEv.cd (.tmp rfl))) ?_
 refine an ?_
 refine mv rfl rfl rfl rfl ?_
 refine g_ (fun _ => fA 5) ?_
 refine g_ (fun _ => lA 1) ?_
 refine g_ (fun _ => fA 5) ?_
 refine g_ (fun _ => lA 0) ?_
 refine g_ (fun _ => S_eql rfl (AEv.cd (.tmp rfl)) (AEv.cd (.tmp rfl))) ?_
 refine an ?_
 refine mv rfl rfl rfl rfl ?_
 refine g_ (fun _ => fA 6) ?_
 refine g_ (fun _ => lA 1) ?_
 refine g_ (fun _ => fA 6) ?_
 refine g_ (fun _ => lA 0) ?_
 refine g_ (fun _ => S_eql rfl (AEv.cd (.tmp rfl)) (AEv.cd (.tmp rfl))) ?_
 refine an ?_
 refine as_ rfl rfl rfl rfl ?_
 refine AL_nil (AC_ret ?_)
 refine ret_tmp st rfl rfl (Sub.l (List.Sublist.cons _ (List.Sublist.cons _ (List.Sublist.refl _)))) (Conv.refl (Sub.l (List.Sublist.cons _ (List.Sublist.cons _ (List.Sublist.refl _)))) _) ⟨rfl, rfl⟩ (.inl rfl)
end Go.Proofs.YtfdcadnaginnpaaGreatDoor

set_option maxRecDepth 100000
namespace Go.Proofs.YtfdcadnaginnpaaGreatDoor
open Go.AL Go.NumSpec
theorem clone_ints_ok (l : List Int) (hl : l.length ≤ 1000000) (F : St) : ACalls Tryz.prog 74 [.sl (intsV l)] ([] ++ F) (fun x st' => ∃ foot', (∃ q : Vec, q.ok (intsV l) ∧ x = .lit (vecV q (intsV l).length) ∧ foot' = vecSt q 1 (intsV l)) ∧ st' = foot' ++ F) := by
 refine co 8 Tryz.func74 ?_
 have hln : (intsV l).length = l.length := by simp [intsV]
 refine AC_seq (AC_region ?_)
 refine ac rfl rfl rfl ?_
 refine AL_nil ?_
 refine AC_seq ?_
 refine AC_seq (AC_region ?_)
 refine mv rfl rfl rfl rfl ?_
 refine s_ (S_eqlNilSl (e := 3) rfl (.tmp rfl) (AEv.const _) (by kernel_rfl)) ?_
 rintro _ st9 ⟨c, rfl, hc, h9⟩
 rw [h9]
 clear h9 st9
 refine AL_nil ?_
 refine AC_cond (.tmp rfl) (fun hb1 => ?_) (fun hb1 => ?_)
 ·try simp only [zA,zO,zN,zM,zP,zQ,zD,zF,gd] at hb1
  have hnil := hc hb1
  refine AC_seq (AC_region ?_)
  refine ac rfl rfl rfl ?_
  refine AL_nil (AC_ret ?_)
  refine ret_tmp ([] ++ F) rfl rfl (Sub.l (List.Sublist.refl _)) (Conv.refl (Sub.l (List.Sublist.refl _)) _) ⟨[], ⟨.nil, hnil, rfl, rfl⟩, rfl⟩ (.inl rfl)
 try simp only [zA,zO,zN,zM,zP,zQ,zD,zF,gd] at hb1
 refine AC_skip ?_
 refine AC_seq (AC_region ?_)
 refine s_ (S_build0 (e := 3) rfl rfl (by kernel_rfl) (by kernel_rfl)) ?_
 rintro _ st9 ⟨A, rfl, h9⟩
 rw [h9]
 clear h9 st9
 refine mv rfl rfl rfl rfl ?_
 refine s_ (S_appendEmpV (e := 3) (size := 1) (bytes := 8) rfl (.tmp rfl) (.tmp rfl) (by kernel_rfl) (fun y hy => by obtain ⟨r, _, rfl⟩ := List.mem_map.1 hy; exact ⟨rfl, rfl⟩) (by rw [hln]; omega) (by rw [hln]; omega)) ?_
 rintro _ _ ⟨q, hq, rfl, rfl⟩
 refine as_ rfl rfl rfl rfl ?_
 refine AL_nil (AC_ret ?_)
 refine ret_tmp (vecSt q 1 (intsV l) ++ F) rfl rfl (Sub.l (List.Sublist.refl _)) (Conv.refl (Sub.l (List.Sublist.refl _)) _) ⟨_, ⟨q, hq, rfl, rfl⟩, rfl⟩ (.inl rfl)
theorem clone_labs_ok (l : List Lab) (hl : l.length ≤ 1000000) (F : St) : ACalls Tryz.prog 42 [.sl (labsV l)] ([] ++ F) (fun x st' => ∃ foot', (∃ q : Vec, q.ok (labsV l) ∧ x = .lit (vecV q (labsV l).length) ∧ foot' = vecSt q 2 (labsV l)) ∧ st' = foot' ++ F) := by
 refine co 8 Tryz.func42 ?_
 have hln : (labsV l).length = l.length := by simp [labsV]
 refine AC_seq (AC_region ?_)
 refine ac rfl rfl rfl ?_
 refine AL_nil ?_
 refine AC_seq ?_
 refine AC_seq (AC_region ?_)
 refine mv rfl rfl rfl rfl ?_
 refine s_ (S_eqlNilSl (e := 56) rfl (.tmp rfl) (AEv.const _) (by kernel_rfl)) ?_
 rintro _ st9 ⟨c, rfl, hc, h9⟩
 rw [h9]
 clear h9 st9
 refine AL_nil ?_
 refine AC_cond (.tmp rfl) (fun hb1 => ?_) (fun hb1 => ?_)
 ·try simp only [zA,zO,zN,zM,zP,zQ,zD,zF,gd] at hb1
  have hnil := hc hb1
  refine AC_seq (AC_region ?_)
  refine ac rfl rfl rfl ?_
  refine AL_nil (AC_ret ?_)
  refine ret_tmp ([] ++ F) rfl rfl (Sub.l (List.Sublist.refl _)) (Conv.refl (Sub.l (List.Sublist.refl _)) _) ⟨[], ⟨.nil, hnil, rfl, rfl⟩, rfl⟩ (.inl rfl)
 try simp only [zA,zO,zN,zM,zP,zQ,zD,zF,gd] at hb1
 refine AC_skip ?_
 refine AC_seq (AC_region ?_)
 refine s_ (S_build0 (e := 56) rfl rfl (by kernel_rfl) (by kernel_rfl)) ?_
 rintro _ st9 ⟨A, rfl, h9⟩
 rw [h9]
 clear h9 st9
 refine mv rfl rfl rfl rfl ?_
 refine s_ (S_appendEmpV (e := 56) (size := 2) (bytes := 32) rfl (.tmp rfl) (.tmp rfl) (by kernel_rfl) (fun y hy => by obtain ⟨r, _, rfl⟩ := List.mem_map.1 hy; exact ⟨rfl, rfl⟩) (by rw [hln]; omega) (by rw [hln]; omega)) ?_
 rintro _ _ ⟨q, hq, rfl, rfl⟩
 refine as_ rfl rfl rfl rfl ?_
 refine AL_nil (AC_ret ?_)
 refine ret_tmp (vecSt q 2 (labsV l) ++ F) rfl rfl (Sub.l (List.Sublist.refl _)) (Conv.refl (Sub.l (List.Sublist.refl _)) _) ⟨_, ⟨q, hq, rfl, rfl⟩, rfl⟩ (.inl rfl)
theorem clone_ctrs_ok (l : List Ctr) (hl : l.length ≤ 1000000) (F : St) : ACalls Tryz.prog 73 [.sl (ctrsV l)] ([] ++ F) (fun x st' => ∃ foot', (∃ q : Vec, q.ok (ctrsV l) ∧ x = .lit (vecV q (ctrsV l).length) ∧ foot' = vecSt q 11 (ctrsV l)) ∧ st' = foot' ++ F) := by
 refine co 8 Tryz.func73 ?_
 have hln : (ctrsV l).length = l.length := by simp [ctrsV]
 refine AC_seq (AC_region ?_)
 refine ac rfl rfl rfl ?_
 refine AL_nil ?_
 refine AC_seq ?_
 refine AC_seq (AC_region ?_)
 refine mv rfl rfl rfl rfl ?_
 refine s_ (S_eqlNilSl (e := 52) rfl (.tmp rfl) (AEv.const _) (by kernel_rfl)) ?_
 rintro _ st9 ⟨c, rfl, hc, h9⟩
 rw [h9]
 clear h9 st9
 refine AL_nil ?_
 refine AC_cond (.tmp rfl) (fun hb1 => ?_) (fun hb1 => ?_)
 ·try simp only [zA,zO,zN,zM,zP,zQ,zD,zF,gd] at hb1
  have hnil := hc hb1
  refine AC_seq (AC_region ?_)
  refine ac rfl rfl rfl ?_
  refine AL_nil (AC_ret ?_)
  refine ret_tmp ([] ++ F) rfl rfl (Sub.l (List.Sublist.refl _)) (Conv.refl (Sub.l (List.Sublist.refl _)) _) ⟨[], ⟨.nil, hnil, rfl, rfl⟩, rfl⟩ (.inl rfl)
 try simp only [zA,zO,zN,zM,zP,zQ,zD,zF,gd] at hb1
 refine AC_skip ?_
 refine AC_seq (AC_region ?_)
 refine s_ (S_build0 (e := 52) rfl rfl (by kernel_rfl) (by kernel_rfl)) ?_
 rintro _ st9 ⟨A, rfl, h9⟩
 rw [h9]
 clear h9 st9
 refine mv rfl rfl rfl rfl ?_
 refine s_ (S_appendEmpV (e := 52) (size := 11) (bytes := 120) rfl (.tmp rfl) (.tmp rfl) (by kernel_rfl) (fun y hy => by obtain ⟨r, _, rfl⟩ := List.mem_map.1 hy; exact ⟨rfl, rfl⟩) (by rw [hln]; omega) (by rw [hln]; omega)) ?_
 rintro _ _ ⟨q, hq, rfl, rfl⟩
 refine as_ rfl rfl rfl rfl ?_
 refine AL_nil (AC_ret ?_)
 refine ret_tmp (vecSt q 11 (ctrsV l) ++ F) rfl rfl (Sub.l (List.Sublist.refl _)) (Conv.refl (Sub.l (List.Sublist.refl _)) _) ⟨_, ⟨q, hq, rfl, rfl⟩, rfl⟩ (.inl rfl)
theorem spec_clones_ok (l : List Ctr) (hl : l.length ≤ 1000) (hk : ∀ c ∈ l, c.ports.length ≤ 1000) (F : St) : ACalls Tryz.prog 43 [.sl (ctrsV l)] ([] ++ F) (fun x st' => ∃ foot', (∃ (q : Vec) (is : List CO), (q.ok (cosV is) ∧ coOk is ∧ is.map CO.c = l) ∧ x = .lit (vecV q (cosV is).length) ∧ foot' = ctrsSt q is) ∧ st' = foot' ++ F) := by
 refine co 24 Tryz.func43 ?_
 have hln := ctrsV_len' l
 refine AC_seq (AC_region ?_)
 refine ac rfl rfl rfl ?_
 refine AL_nil (AC_seq (AC_region ?_))
 refine mv rfl rfl rfl rfl ?_
 refine s_ (S_call rfl (AEvs.cons (.tmp rfl) AEvs.nil) (clone_ctrs_ok l (by omega) F)) ?_
 rintro _ _ ⟨_, ⟨q, hq, rfl, rfl⟩, rfl⟩
 refine as_ rfl rfl rfl rfl ?_
 refine AL_nil ?_
 refine AC_seq ?_
 refine AC_seq (AC_region ?_)
 refine mv rfl rfl rfl rfl ?_
 refine p_ (S_lenV (e := 52) hq rfl (.tmp rfl) (by kernel_rfl)) ?_
 refine p_ (S_move rfl (AEv.const _)) ?_
 refine AL_nil ?_
 refine AC_block ?_
 refine AC_loopK (G := List CO) [(0, _), (2, _), (3, _), (8, _)] (fun g => g.length ≤ l.length ∧ coOk g ∧ g.reverse.map CO.c = l.take g.length) (fun g => [(9, .int .i64 (g.length : Int))]) (fun g => vecSt q 11 (halfV g l) ++ (coSt g ++ F)) (fun g => l.length - g.length) ([]) (⟨Nat.zero_le _, (fun x h => absurd h List.not_mem_nil), rfl⟩) (Sub.l (List.Sublist.refl _)) (.cons rfl (Le.refl _) (.cons rfl (Le.refl _) (.cons rfl (Le.refl _) (.cons rfl (Le.refl _) .nil)))) (.cons rfl (by first | exact Le.refl _ | exact Le.nils | exact Le.row _ _ _ _ | exact Le.of_eq (by first | rfl | (simp; done) | (push_cast; rfl) | (simp; omega))) .nil) ?_
 rintro rs ⟨hi, hok, hmap⟩
 try dsimp only
 simp only [List.cons_append, List.nil_append]
 refine AC_seq (AC_region ?_)
 refine p_ (S_lss rfl (.tmp rfl) (.tmp rfl)) ?_
 refine AL_nil ?_
 refine AC_seq ?_
 refine AC_cond (.tmp rfl) (fun hb1 => ?_) (fun hb1 => ?_)
 ·try simp only [zA,zO,zN,zM,zP,zQ,zD,zF,gd] at hb1
  have hil : rs.length < l.length := by omega
  obtain ⟨b9, cap9, rfl, hcap⟩ := vec_cells_ne hq (by omega)
  simp only [vecSt, List.cons_append, List.nil_append]
  refine AC_skip ?_
  refine AC_seq ?_
  refine AC_block ?_
  refine AC_seq (AC_region ?_)
  refine mv rfl rfl rfl rfl ?_
  refine as_ rfl rfl rfl rfl ?_
  refine AL_nil ?_
  refine AC_region ?_
  refine mv rfl rfl rfl rfl ?_
  refine mv rfl rfl rfl rfl ?_
  refine mv rfl rfl rfl rfl ?_
  refine mv rfl rfl rfl rfl ?_
  refine p_ (S_elemN (e := 52) 11 rfl (.tmp rfl) (.tmp rfl) (by kernel_rfl) (by kernel_rfl) (by omega) (fun _ => rfl)) ?_
  refine p_ (S_fieldP 8 rfl (.tmp rfl) (by kernel_rfl)) ?_
  refine p_ (S_loadP rfl (.tmp rfl) rfl (by kernel_rfl)) ?_
  refine s_ (S_call rfl (AEvs.cons (.tmp rfl) AEvs.nil) (ACalls.preQ (foot := []) (pre := [_]) (F := coSt rs ++ F) (clone_ints_ok (l[rs.length]'hil).ports (by have := hk _ (List.getElem_mem hil); omega) _))) ?_
  rintro _ _ ⟨_, ⟨p, hp, rfl, rfl⟩, rfl⟩
  refine p_ (S_elemO (e := 52) 11 rfl (.tmp rfl) (.tmp rfl) (by kernel_rfl) (by kernel_rfl) (by omega) (by omega)) ?_
  refine fl 8 ?_
  refine s_ (S_store 0 rfl (.tmp rfl) (.tmp rfl) rfl (by have h7 := vecCells_len (cap := cap9) (halfV_size rs l); rw [halfV_len (by omega)] at h7; simp only [Int.toNat_natCast]; omega) (vecV_one _ _) (by kernel_rfl)) ?_
  rintro _ _ ⟨rfl, rfl⟩
  refine AL_nil ?_
  refine AC_region ?_
  refine p_ (S_addI rfl (.tmp rfl) (AEv.const _) (by omega) (by omega)) ?_
  refine mv rfl rfl rfl rfl ?_
  refine AL_nil ?_
  refine ⟨⟨(l[rs.length]'hil), p⟩ :: rs, ⟨by simp only [List.length_cons]; omega, fun x hx => ?_, ?_⟩, by simp only [List.length_cons]; omega, clones_next hil p _ _ _, (.cons rfl (by first | exact Le.refl _ | exact Le.nils | exact Le.row _ _ _ _ | exact Le.of_eq (by first | rfl | (simp; done) | (push_cast; rfl) | (simp; omega))) .nil), (.cons rfl (Le.refl _) (.cons rfl (Le.refl _) (.cons rfl (Le.refl _) (.cons rfl (Le.refl _) .nil))))⟩
  ·rcases List.mem_cons.1 hx with rfl | h9
   ·exact hp
   ·exact hok x h9
  ·rw [List.reverse_cons, List.map_append, hmap, List.length_cons, List.take_succ_eq_append_getElem hil]; rfl
 try simp only [zA,zO,zN,zM,zP,zQ,zD,zF,gd] at hb1
 have hfull : rs.length = l.length := by omega
 refine AC_exit ?_
 refine AC_seq (AC_region ?_)
 refine mv rfl rfl rfl rfl ?_
 refine as_ rfl rfl rfl rfl ?_
 refine AL_nil (AC_ret ?_)
 refine ret_tmp (ctrsSt q rs.reverse ++ F) rfl rfl (clones_end hfull q F) (Conv.refl (clones_end hfull q F) _) ⟨_, ⟨q, rs.reverse, ⟨clones_ok hfull hq, fun x hx => hok x (List.mem_reverse.1 hx), by rw [hmap, hfull, List.take_length]⟩, clones_len hfull q, rfl⟩, rfl⟩ (.inl rfl)
theorem spec_Clone_ok (s : Spc) (hs : lightS s = true) (F : St) : ACalls Tryz.prog 15 [spcAV s] ([] ++ F) (fun x st' => ∃ foot', (∃ o : SO, (soOk o ∧ o.s = s) ∧ x = .agg (soL o) ∧ foot' = soSt o) ∧ st' = foot' ++ F) := by
 refine co 16 Tryz.func15 ?_
 obtain ⟨g1, g2, g3, g4, g5⟩ := light_short hs
 obtain ⟨k1, k2, k3⟩ := light_counts hs
 refine AC_seq (AC_region ?_)
 refine s_ (S_box rfl (.tmp rfl)) ?_
 rintro _ _ ⟨b1, rfl, rfl⟩
 refine s_ (S_alloc [.string ⟨#[]⟩, .slice none 0 0, .slice none 0 0, .slice none 0 0, .int .i64 0, .int .i64 0, .int .i64 0] rfl (by kernel_rfl)) ?_
 rintro _ _ ⟨b2, rfl, rfl⟩
 refine AL_nil (AC_seq (AC_region ?_))
 refine fl 1 ?_
 refine ld 1 ?_
 refine s_ (S_call rfl (AEvs.cons (.tmp rfl) AEvs.nil) (ACalls.preQ (foot := []) (pre := [_, _]) (F := F) (clone_labs_ok s.labels (by omega) _))) ?_
 rintro _ _ ⟨_, ⟨lq, hlq, rfl, rfl⟩, rfl⟩
 refine fl 1 ?_
 refine s_ (S_store 1 rfl (.tmp rfl) (.tmp rfl) rfl (by first | exact Nat.le_of_ble_eq_true rfl | simp) (vecV_one _ _) (by kernel_rfl)) ?_
 rintro _ _ ⟨rfl, rfl⟩
 refine AL_nil ?_
 refine AC_seq ?_
 refine AC_plan (σ := [(0, 0), (1, 0), (3, 0), (4, 0), (2, 1), (6, 0), (5, 1), (7, 2), (8, 0), (9, 2)]) (by kernel_rfl) [_, _] (by kernel_rfl) (fun r hr => List.mem_append_left _ hr) ?_
 refine AG.f rfl rfl (fun st' hst => Q_p rfl (S_field 2 rfl (.tmp rfl) (by kernel_rfl))) ?_
 refine AG.f rfl rfl (fun st' hst => Q_p rfl (S_loadM rfl (.tmp rfl) (hst _ (List.mem_of_getElem? (i := 1) rfl)) rfl (by kernel_rfl))) ?_
 refine AG.f rfl rfl (fun st' hst => Q_p rfl (S_field 3 rfl (.tmp rfl) (by kernel_rfl))) ?_
 refine AG.f rfl rfl (fun st' hst => Q_p rfl (S_loadM rfl (.tmp rfl) (hst _ (List.mem_of_getElem? (i := 1) rfl)) rfl (by kernel_rfl))) ?_
 refine AG.s rfl rfl rfl (S_call rfl (AEvs.cons (.tmp rfl) AEvs.nil) (ACalls.preQ (foot := []) (pre := [_, _]) (F := vecSt lq 2 (labsV s.labels) ++ F) (spec_clones_ok s.init (by omega) (fun c hc => (light_ports hs).1 c hc) _))) ?_ ?_
 ·rintro _ _ ⟨_, ⟨iq, is, hi, rfl, rfl⟩, rfl⟩ r hr; first | exact List.mem_append_left _ hr | exact absurd hr List.not_mem_nil
 rintro _ _ ⟨_, ⟨iq, is, hi, rfl, rfl⟩, rfl⟩
 refine AG.f rfl rfl (fun st' hst => Q_p rfl (S_field 2 rfl (.tmp rfl) (by kernel_rfl))) ?_
 refine AG.s rfl rfl rfl (S_call rfl (AEvs.cons (.tmp rfl) AEvs.nil) (ACalls.preQ (foot := []) (pre := [_, _]) (F := ctrsSt iq is ++ (vecSt lq 2 (labsV s.labels) ++ F)) (spec_clones_ok s.main (by omega) (fun c hc => (light_ports hs).2 c hc) _))) ?_ ?_
 ·rintro _ _ ⟨_, ⟨mq, ms, hm, rfl, rfl⟩, rfl⟩ r hr; first | exact List.mem_append_left _ hr | exact absurd hr List.not_mem_nil
 rintro _ _ ⟨_, ⟨mq, ms, hm, rfl, rfl⟩, rfl⟩
 refine AG.h rfl rfl rfl (S_store 1 rfl (.tmp rfl) (.tmp rfl) rfl (by first | exact Nat.le_of_ble_eq_true rfl | simp) (vecV_one _ _) (by kernel_rfl)) ?_
 rintro _ _ ⟨rfl, rfl⟩
 refine AG.f rfl rfl (fun st' hst => Q_p rfl (S_field 3 rfl (.tmp rfl) (by kernel_rfl))) ?_
 refine AG.h rfl rfl rfl (S_store 1 rfl (.tmp rfl) (.tmp rfl) rfl (by first | exact Nat.le_of_ble_eq_true rfl | simp) (vecV_one _ _) (by kernel_rfl)) ?_
 rintro _ _ ⟨rfl, rfl⟩
 refine AG.nil ?_
 refine AC_seq (AC_region ?_)
 refine ldN 7 1 ?_
 refine s_ (S_storeW 0 rfl (.tmp rfl) (.tmp rfl) rfl rfl (by exact soL_one ⟨s.name, s.labels, lq, is, iq, ms, mq, s.restart, s.grace, s.prio⟩) (by kernel_rfl)) ?_
 rintro _ _ ⟨rfl, rfl⟩
 refine AL_nil (AC_ret ?_)
 refine ret_cell 0 ((ctrsSt mq ms ++ (ctrsSt iq is ++ vecSt lq 2 (labsV s.labels))) ++ F) rfl rfl rfl (by kernel_rfl) (Sub.l (by rw [List.append_assoc, List.append_assoc]; exact .cons _ (.cons _ (List.Sublist.refl _)))) (Conv.refl (Sub.l (by rw [List.append_assoc, List.append_assoc]; exact .cons _ (.cons _ (List.Sublist.refl _)))) _) ⟨_, ⟨⟨s.name, s.labels, lq, is, iq, ms, mq, s.restart, s.grace, s.prio⟩, ⟨⟨hlq, hi.1, hm.1, hi.2.1, hm.2.1⟩, by cases s; simp [SO.s, hi.2.2, hm.2.2]⟩, rfl, rfl⟩, rfl⟩ (.inl rfl)
end Go.Proofs.YtfdcadnaginnpaaGreatDoor

set_option maxRecDepth 100000
namespace Go.Proofs.YtfdcadnaginnpaaGreatDoor
open Go.AL Go.NumSpec
theorem book_SpoilI_at (b off n cap : Nat) (cs : List AV) (h : off + n * 1 ≤ cs.length) (hn : n ≤ 1000000) (F : St) : ACalls Tryz.prog 21 [.lit (.slice (some ⟨b, off, none⟩) n cap)] ((b, .cells cs) :: F) (fun x st' => ∃ Z, st' = Z ++ F) := by
 refine co 12 Tryz.func21 ?_
 refine AC_seq (AC_region ?_)
 refine mv rfl rfl rfl rfl ?_
 refine p_ (S_lenO (e := 3) rfl (.tmp rfl) (by kernel_rfl)) ?_
 refine p_ (S_move rfl (AEv.const _)) ?_
 refine AL_nil ?_
 refine AC_block ?_
 refine AC_loopK (G := Nat × List AV) [(0, _), (4, _)] (fun g => g.1 ≤ n ∧ g.2.length = cs.length) (fun g => [(5, .int .i64 (g.1 : Int))]) (fun g => ((b, .cells g.2) :: F)) (fun g => n - g.1) ((0, cs)) (⟨Nat.zero_le _, rfl⟩) (Sub.l (List.Sublist.refl _)) (.cons rfl (Le.refl _) (.cons rfl (Le.refl _) .nil)) (.cons rfl (by first | exact Le.refl _ | exact Le.nils | exact Le.row _ _ _ _ | exact Le.of_eq (by first | rfl | (simp; done) | (push_cast; rfl) | (simp; omega))) .nil) ?_
 rintro ⟨i, ds⟩ ⟨hi, hds⟩
 try dsimp only
 simp only [List.cons_append, List.nil_append]
 dsimp only at hi hds
 refine AC_seq (AC_region ?_)
 refine p_ (S_lss rfl (.tmp rfl) (.tmp rfl)) ?_
 refine AL_nil ?_
 refine AC_seq ?_
 refine AC_cond (.tmp rfl) (fun hb1 => ?_) (fun hb1 => ?_)
 ·try simp only [zA,zO,zN,zM,zP,zQ,zD,zF,gd] at hb1
  have hil : i < n := by omega
  refine AC_skip ?_
  refine AC_seq ?_
  refine AC_block ?_
  refine AC_seq (AC_region ?_)
  refine mv rfl rfl rfl rfl ?_
  refine as_ rfl rfl rfl rfl ?_
  refine AL_nil ?_
  refine AC_region ?_
  refine mv rfl rfl rfl rfl ?_
  refine mv rfl rfl rfl rfl ?_
  refine p_ (S_elemO (e := 3) 1 rfl (.tmp rfl) (.tmp rfl) (by kernel_rfl) (by kernel_rfl) (by omega) (by omega)) ?_
  refine s_ (S_store 0 rfl (.tmp rfl) (.const _) rfl (by rw [hds]; simp only [Int.toNat_natCast]; omega) rfl (by kernel_rfl)) ?_
  rintro _ _ ⟨rfl, rfl⟩
  refine AL_nil ?_
  refine AC_region ?_
  refine p_ (S_addI rfl (.tmp rfl) (AEv.const _) (by omega) (by omega)) ?_
  refine mv rfl rfl rfl rfl ?_
  refine AL_nil ?_
  refine ⟨(i + 1, _), ⟨by dsimp only; omega, by dsimp only; rw [List.length_set]; exact hds⟩, by dsimp only; omega, (Sub.l (List.Sublist.refl _)), (.cons rfl (by first | exact Le.refl _ | exact Le.nils | exact Le.row _ _ _ _ | exact Le.of_eq (by first | rfl | (simp; done) | (push_cast; rfl) | (simp; omega))) .nil), (.cons rfl (Le.refl _) (.cons rfl (Le.refl _) .nil))⟩
 try simp only [zA,zO,zN,zM,zP,zQ,zD,zF,gd] at hb1
 refine AC_exit ?_
 refine ret_none ([(b, Ob.cells ds)] ++ F) rfl (Sub.l (List.Sublist.refl _)) ⟨_, rfl⟩ (.inr rfl)
theorem book_SpoilI_nil (A : Option Addr) (cap : Nat) : PCalls Tryz.prog 21 [.lit (.slice A 0 cap)] (.tup []) := by
 intro st
 refine co 12 Tryz.func21 ?_
 refine AC_seq (AC_region ?_)
 refine mv rfl rfl rfl rfl ?_
 refine p_ (S_lenO (e := 3) rfl (.tmp rfl) (by kernel_rfl)) ?_
 refine p_ (S_move rfl (AEv.const _)) ?_
 refine AL_nil ?_
 refine AC_block ?_
 refine AC_loopK (G := Unit) [(0, _), (4, _)] (fun _ => True) (fun g => [(5, .int .i64 0)]) (fun g => st) (fun g => 0) (()) (trivial) (Sub.l (List.Sublist.refl _)) (.cons rfl (Le.refl _) (.cons rfl (Le.refl _) .nil)) (.cons rfl (by first | exact Le.refl _ | exact Le.nils | exact Le.row _ _ _ _ | exact Le.of_eq (by first | rfl | (simp; done) | (push_cast; rfl) | (simp; omega))) .nil) ?_
 rintro _ _
 try dsimp only
 simp only [List.cons_append, List.nil_append]
 refine AC_seq (AC_region ?_)
 refine p_ (S_lss rfl (.tmp rfl) (.tmp rfl)) ?_
 refine AL_nil ?_
 refine AC_seq ?_
 refine AC_cond (.tmp rfl) (fun hb1 => ?_) (fun hb1 => ?_)
 ·simp at hb1; done
 try simp only [zA,zO,zN,zM,zP,zQ,zD,zF,gd] at hb1
 refine AC_exit ?_
 refine ret_none st rfl (Sub.l (List.Sublist.refl _)) ⟨rfl, rfl⟩ (.inr rfl)
theorem book_SpoilI_ok {x : AV} {foot : St} (h : Spoil 1 x foot) (F : St) : ACalls Tryz.prog 21 [x] (foot ++ F) (fun _ st' => ∃ foot', True ∧ st' = foot' ++ F) := by
 rcases h with ⟨b, off, n, cap, cs, rfl, h1, h2, rfl⟩ | ⟨A, cap, rfl, rfl⟩
 ·exact (book_SpoilI_at b off n cap cs h1 h2 F).mono fun x st' ⟨Z, h⟩ => ⟨Z, trivial, h⟩
 ·exact (book_SpoilI_nil A cap F).mono fun x st' ⟨_, h⟩ => ⟨[], trivial, h⟩
theorem book_SpoilL_at (b off n cap : Nat) (cs : List AV) (h : off + n * 2 ≤ cs.length) (hn : n ≤ 1000000) (F : St) : ACalls Tryz.prog 49 [.lit (.slice (some ⟨b, off, none⟩) n cap)] ((b, .cells cs) :: F) (fun x st' => ∃ Z, st' = Z ++ F) := by
 refine co 13 Tryz.func49 ?_
 refine AC_seq (AC_region ?_)
 refine mv rfl rfl rfl rfl ?_
 refine p_ (S_lenO (e := 56) rfl (.tmp rfl) (by kernel_rfl)) ?_
 refine p_ (S_move rfl (AEv.const _)) ?_
 refine AL_nil ?_
 refine AC_block ?_
 refine AC_loopK (G := Nat × List AV) [(0, _), (4, _)] (fun g => g.1 ≤ n ∧ g.2.length = cs.length) (fun g => [(5, .int .i64 (g.1 : Int))]) (fun g => ((b, .cells g.2) :: F)) (fun g => n - g.1) ((0, cs)) (⟨Nat.zero_le _, rfl⟩) (Sub.l (List.Sublist.refl _)) (.cons rfl (Le.refl _) (.cons rfl (Le.refl _) .nil)) (.cons rfl (by first | exact Le.refl _ | exact Le.nils | exact Le.row _ _ _ _ | exact Le.of_eq (by first | rfl | (simp; done) | (push_cast; rfl) | (simp; omega))) .nil) ?_
 rintro ⟨i, ds⟩ ⟨hi, hds⟩
 try dsimp only
 simp only [List.cons_append, List.nil_append]
 dsimp only at hi hds
 refine AC_seq (AC_region ?_)
 refine p_ (S_lss rfl (.tmp rfl) (.tmp rfl)) ?_
 refine AL_nil ?_
 refine AC_seq ?_
 refine AC_cond (.tmp rfl) (fun hb1 => ?_) (fun hb1 => ?_)
 ·try simp only [zA,zO,zN,zM,zP,zQ,zD,zF,gd] at hb1
  have hil : i < n := by omega
  have hat : off + (i : Int).toNat * 2 + ([.S [115, 112, 111, 105, 108, 116], .S []] : List AV).length ≤ ds.length := by rw [hds]; simp only [Int.toNat_natCast, List.length_cons, List.length_nil]; omega
  refine AC_skip ?_
  refine AC_seq ?_
  refine AC_block ?_
  refine AC_seq (AC_region ?_)
  refine mv rfl rfl rfl rfl ?_
  refine as_ rfl rfl rfl rfl ?_
  refine AL_nil ?_
  refine AC_region ?_
  refine mv rfl rfl rfl rfl ?_
  refine mv rfl rfl rfl rfl ?_
  refine p_ (S_build (t := 56) (pl := [(0, 1), (1, 1)]) (zs := [.string ⟨#[]⟩, .string ⟨#[]⟩]) rfl (AEvs.cons (AEv.S _) AEvs.nil) (by kernel_rfl) rfl) ?_
  refine p_ (S_elemO (e := 56) 2 rfl (.tmp rfl) (.tmp rfl) (by kernel_rfl) (by kernel_rfl) (by omega) (by omega)) ?_
  refine s_ (S_storeN (ds := [.S [115, 112, 111, 105, 108, 116], .S []]) 0 rfl (.tmp rfl) (.tmp rfl) rfl hat rfl (by kernel_rfl)) ?_
  rintro _ _ ⟨rfl, rfl⟩
  refine AL_nil ?_
  refine AC_region ?_
  refine p_ (S_addI rfl (.tmp rfl) (AEv.const _) (by omega) (by omega)) ?_
  refine mv rfl rfl rfl rfl ?_
  refine AL_nil ?_
  refine ⟨(i + 1, _), ⟨by dsimp only; omega, (putAt_len hat).trans hds⟩, by dsimp only; omega, (Sub.l (List.Sublist.refl _)), (.cons rfl (by first | exact Le.refl _ | exact Le.nils | exact Le.row _ _ _ _ | exact Le.of_eq (by first | rfl | (simp; done) | (push_cast; rfl) | (simp; omega))) .nil), (.cons rfl (Le.refl _) (.cons rfl (Le.refl _) .nil))⟩
 try simp only [zA,zO,zN,zM,zP,zQ,zD,zF,gd] at hb1
 refine AC_exit ?_
 refine ret_none ([(b, Ob.cells ds)] ++ F) rfl (Sub.l (List.Sublist.refl _)) ⟨_, rfl⟩ (.inr rfl)
theorem book_SpoilL_nil (A : Option Addr) (cap : Nat) : PCalls Tryz.prog 49 [.lit (.slice A 0 cap)] (.tup []) := by
 intro st
 refine co 13 Tryz.func49 ?_
 refine AC_seq (AC_region ?_)
 refine mv rfl rfl rfl rfl ?_
 refine p_ (S_lenO (e := 56) rfl (.tmp rfl) (by kernel_rfl)) ?_
 refine p_ (S_move rfl (AEv.const _)) ?_
 refine AL_nil ?_
 refine AC_block ?_
 refine AC_loopK (G := Unit) [(0, _), (4, _)] (fun _ => True) (fun g => [(5, .int .i64 0)]) (fun g => st) (fun g => 0) (()) (trivial) (Sub.l (List.Sublist.refl _)) (.cons rfl (Le.refl _) (.cons rfl (Le.refl _) .nil)) (.cons rfl (by first | exact Le.refl _ | exact Le.nils | exact Le.row _ _ _ _ | exact Le.of_eq (by first | rfl | (simp; done) | (push_cast; rfl) | (simp; omega))) .nil) ?_
 rintro _ _
 try dsimp only
 simp only [List.cons_append, List.nil_append]
 refine AC_seq (AC_region ?_)
 refine p_ (S_lss rfl (.tmp rfl) (.tmp rfl)) ?_
 refine AL_nil ?_
 refine AC_seq ?_
 refine AC_cond (.tmp rfl) (fun hb1 => ?_) (fun hb1 => ?_)
 ·simp at hb1; done
 try simp only [zA,zO,zN,zM,zP,zQ,zD,zF,gd] at hb1
 refine AC_exit ?_
 refine ret_none st rfl (Sub.l (List.Sublist.refl _)) ⟨rfl, rfl⟩ (.inr rfl)
theorem book_SpoilL_ok {x : AV} {foot : St} (h : Spoil 2 x foot) (F : St) : ACalls Tryz.prog 49 [x] (foot ++ F) (fun _ st' => ∃ foot', True ∧ st' = foot' ++ F) := by
 rcases h with ⟨b, off, n, cap, cs, rfl, h1, h2, rfl⟩ | ⟨A, cap, rfl, rfl⟩
 ·exact (book_SpoilL_at b off n cap cs h1 h2 F).mono fun x st' ⟨Z, h⟩ => ⟨Z, trivial, h⟩
 ·exact (book_SpoilL_nil A cap F).mono fun x st' ⟨_, h⟩ => ⟨[], trivial, h⟩
set_option maxHeartbeats 1000000 in
theorem book_SpoilS_ok (o : SO) (ho : soOk o) (hs : lightS o.s = true) (F : St) : ACalls Tryz.prog 22 [.agg (soL o)] (soSt o ++ F) (fun _ st' => ∃ foot', True ∧ st' = foot' ++ F) := by
 refine co 45 Tryz.func22 ?_
 obtain ⟨g1, g2, g3⟩ := light_counts hs
 obtain ⟨p1, p2⟩ := light_ports hs
 obtain ⟨nm, lb, lq, is, iq, ms, mq, rs, gr, pr⟩ := o
 obtain ⟨h1, h2, h3, h4, h5⟩ := ho
 dsimp only [SO.s] at h1 h2 h3 h4 h5 g1 g2 g3 p1 p2
 rw [List.length_map] at g2 g3
 have p3 : ∀ x ∈ is, x.c.ports.length ≤ 1000 := fun x hx => p1 _ (List.mem_map_of_mem hx)
 have p4 : ∀ x ∈ ms, x.c.ports.length ≤ 1000 := fun x hx => p2 _ (List.mem_map_of_mem hx)
 refine AC_seq (AC_region ?_)
 refine s_ (S_box rfl (.tmp rfl)) ?_
 rintro _ _ ⟨b1, rfl, rfl⟩
 refine AL_nil ?_
 refine AC_seq ?_
 refine AC_sub (so_start _ lq iq mq lb is ms F) ?_
 refine AC_region ?_
 refine fl 1 ?_
 refine ld 0 ?_
 refine s_ (S_call rfl (AEvs.cons (.tmp rfl) AEvs.nil) (ACalls.preQ (pre := [_]) (foot := vecSt lq 2 (labsV lb)) (F := ctrsSt iq is ++ (ctrsSt mq ms ++ F)) (book_SpoilL_ok (Spoil.vec h1 (labsV_size _) (by simp only [labsV, List.length_map]; omega)) _))) ?_
 rintro _ _ ⟨Z1, _, rfl⟩
 refine AL_nil ?_
 refine AC_seq ?_
 refine AC_seq (AC_region ?_)
 refine fl 2 ?_
 refine ld 0 ?_
 refine p_ (S_lenV (e := 52) h2 rfl (.tmp rfl) (by kernel_rfl)) ?_
 refine p_ (S_move rfl (AEv.const _)) ?_
 refine AL_nil ?_
 refine AC_block ?_
 refine AC_loopK (G := Nat × St) [(1, _), (9, _)] (fun g => g.1 ≤ is.length) (fun g => [(10, .int .i64 (g.1 : Int))]) (fun g => (b1, .cells (soL ⟨nm, lb, lq, is, iq, ms, mq, rs, gr, pr⟩)) :: (vecSt iq 11 (cosV (spoilL [115, 112, 111, 105, 108, 116] g.1 is)) ++ (g.2 ++ (coSt (is.drop g.1) ++ (ctrsSt mq ms ++ F))))) (fun g => is.length - g.1) ((0, Z1)) (Nat.zero_le _) (spoil_start _ _ _ _ _ _) (.cons rfl (Le.refl _) (.cons rfl (Le.refl _) .nil)) (.cons rfl (by first | exact Le.refl _ | exact Le.nils | exact Le.row _ _ _ _ | exact Le.of_eq (by first | rfl | (simp; done) | (push_cast; rfl) | (simp; omega))) .nil) ?_
 rintro ⟨k, Z⟩ hi
 try dsimp only
 simp only [List.cons_append, List.nil_append]
 dsimp only at hi
 refine AC_seq (AC_region ?_)
 refine p_ (S_lss rfl (.tmp rfl) (.tmp rfl)) ?_
 refine AL_nil ?_
 refine AC_seq ?_
 refine AC_cond (.tmp rfl) (fun hb2 => ?_) (fun hb2 => ?_)
 ·try simp only [zA,zO,zN,zM,zP,zQ,zD,zF,gd] at hb2
  have hil : k < is.length := by have h9 := hb2; rw [cosV_len] at h9; omega
  obtain ⟨b9, cap9, rfl, hcap⟩ := vec_cells_ne h2 (by rw [cosV_len]; omega)
  simp only [vecSt, List.cons_append, List.nil_append]
  rw [coSt_drop hil]
  simp only [List.append_assoc]
  refine AC_skip ?_
  refine AC_seq ?_
  refine AC_block ?_
  refine AC_seq (AC_region ?_)
  refine mv rfl rfl rfl rfl ?_
  refine as_ rfl rfl rfl rfl ?_
  refine AL_nil (AC_seq (AC_region ?_))
  refine fl 2 ?_
  refine ld 0 ?_
  refine mv rfl rfl rfl rfl ?_
  refine p_ (S_elemO (e := 52) 11 rfl (.tmp rfl) (.tmp rfl) (by kernel_rfl) (by kernel_rfl) (by omega) (by show (k : Int) < ((cosV is).length : Nat); rw [cosV_len]; omega)) ?_
  refine fl 8 ?_
  refine p_ (S_load 1 (c := .lit (vecV (is[k]'hil).p (intsV (is[k]'hil).c.ports).length)) rfl (.tmp rfl) rfl (by simp only [Int.toNat_natCast, Nat.zero_add]; exact vecCells_get (cosV_size _) (spoilL_at hil) rfl) (by kernel_rfl)) ?_
  refine s_ (S_call rfl (AEvs.cons (.tmp rfl) AEvs.nil) (ACalls.preQ (pre := _ :: _ :: Z) (foot := vecSt (is[k]'hil).p 1 (intsV (is[k]'hil).c.ports)) (F := coSt (is.drop (k + 1)) ++ (ctrsSt mq ms ++ F)) (book_SpoilI_ok (Spoil.vec (h4 _ (List.getElem_mem hil)) (intsV_size _) (by have := p3 _ (List.getElem_mem hil); simp only [intsV, List.length_map]; omega)) _))) ?_
  rintro _ _ ⟨Z2, _, rfl⟩
  refine AL_nil ?_
  refine AC_region ?_
  refine fl 2 ?_
  refine ld 0 ?_
  refine mv rfl rfl rfl rfl ?_
  refine p_ (S_elemO (e := 52) 11 rfl (.tmp rfl) (.tmp rfl) (by kernel_rfl) (by kernel_rfl) (by omega) (by show (k : Int) < ((cosV is).length : Nat); rw [cosV_len]; omega)) ?_
  refine fl 0 ?_
  refine s_ (S_store 1 rfl (.tmp rfl) (.S _) rfl (by have h7 := vecCells_len (cap := cap9) (cosV_size (spoilL [115, 112, 111, 105, 108, 116] k is)); rw [cosV_len, spoilL_len] at h7; simp only [Int.toNat_natCast]; omega) rfl (by kernel_rfl)) ?_
  rintro _ _ ⟨rfl, rfl⟩
  refine AL_nil ?_
  refine AC_region ?_
  refine p_ (S_addI rfl (.tmp rfl) (AEv.const _) (by omega) (by omega)) ?_
  refine mv rfl rfl rfl rfl ?_
  refine AL_nil ?_
  exact ⟨(k + 1, Z ++ Z2), (by dsimp only; omega), (by dsimp only; omega), spoil_next hil _ _ _ _ _ _ _, (.cons rfl (by first | exact Le.refl _ | exact Le.nils | exact Le.row _ _ _ _ | exact Le.of_eq (by first | rfl | (simp; done) | (push_cast; rfl) | (simp; omega))) .nil), (.cons rfl (Le.refl _) (.cons rfl (Le.refl _) .nil))⟩
 try simp only [zA,zO,zN,zM,zP,zQ,zD,zF,gd] at hb2
 refine AC_exit ?_
 refine AC_seq (AC_region ?_)
 refine fl 3 ?_
 refine ld 0 ?_
 refine p_ (S_lenV (e := 52) h3 rfl (.tmp rfl) (by kernel_rfl)) ?_
 refine p_ (S_move rfl (AEv.const _)) ?_
 refine AL_nil ?_
 refine AC_block ?_
 refine AC_loopK (G := Nat × St) [(1, _), (28, _)] (fun g => g.1 ≤ ms.length) (fun g => [(29, .int .i64 (g.1 : Int))]) (fun g => (b1, .cells (soL ⟨nm, lb, lq, is, iq, ms, mq, rs, gr, pr⟩)) :: (vecSt mq 11 (cosV (spoilL [115, 112, 111, 105, 108, 116] g.1 ms)) ++ (g.2 ++ (coSt (ms.drop g.1) ++ F)))) (fun g => ms.length - g.1) ((0, vecSt iq 11 (cosV (spoilL [115, 112, 111, 105, 108, 116] k is)) ++ (Z ++ coSt (is.drop k)))) (Nat.zero_le _) (spoil_mid _ _ _ _ _ _ _ _) (.cons rfl (Le.refl _) (.cons rfl (Le.refl _) .nil)) (.cons rfl (by first | exact Le.refl _ | exact Le.nils | exact Le.row _ _ _ _ | exact Le.of_eq (by first | rfl | (simp; done) | (push_cast; rfl) | (simp; omega))) .nil) ?_
 rintro ⟨k, Z⟩ hi
 try dsimp only
 simp only [List.cons_append, List.nil_append]
 dsimp only at hi
 refine AC_seq (AC_region ?_)
 refine p_ (S_lss rfl (.tmp rfl) (.tmp rfl)) ?_
 refine AL_nil ?_
 refine AC_seq ?_
 refine AC_cond (.tmp rfl) (fun hb3 => ?_) (fun hb3 => ?_)
 ·try simp only [zA,zO,zN,zM,zP,zQ,zD,zF,gd] at hb3
  have hil : k < ms.length := by have h9 := hb3; rw [cosV_len] at h9; omega
  obtain ⟨b9, cap9, rfl, hcap⟩ := vec_cells_ne h3 (by rw [cosV_len]; omega)
  simp only [vecSt, List.cons_append, List.nil_append]
  rw [coSt_drop hil]
  simp only [List.append_assoc]
  refine AC_skip ?_
  refine AC_seq ?_
  refine AC_block ?_
  refine AC_seq (AC_region ?_)
  refine mv rfl rfl rfl rfl ?_
  refine as_ rfl rfl rfl rfl ?_
  refine AL_nil (AC_seq (AC_region ?_))
  refine fl 3 ?_
  refine ld 0 ?_
  refine mv rfl rfl rfl rfl ?_
  refine p_ (S_elemO (e := 52) 11 rfl (.tmp rfl) (.tmp rfl) (by kernel_rfl) (by kernel_rfl) (by omega) (by show (k : Int) < ((cosV ms).length : Nat); rw [cosV_len]; omega)) ?_
  refine fl 8 ?_
  refine p_ (S_load 1 (c := .lit (vecV (ms[k]'hil).p (intsV (ms[k]'hil).c.ports).length)) rfl (.tmp rfl) rfl (by simp only [Int.toNat_natCast, Nat.zero_add]; exact vecCells_get (cosV_size _) (spoilL_at hil) rfl) (by kernel_rfl)) ?_
  refine s_ (S_call rfl (AEvs.cons (.tmp rfl) AEvs.nil) (ACalls.preQ (pre := _ :: _ :: Z) (foot := vecSt (ms[k]'hil).p 1 (intsV (ms[k]'hil).c.ports)) (F := coSt (ms.drop (k + 1)) ++ F) (book_SpoilI_ok (Spoil.vec (h5 _ (List.getElem_mem hil)) (intsV_size _) (by have := p4 _ (List.getElem_mem hil); simp only [intsV, List.length_map]; omega)) _))) ?_
  rintro _ _ ⟨Z2, _, rfl⟩
  refine AL_nil ?_
  refine AC_region ?_
  refine fl 3 ?_
  refine ld 0 ?_
  refine mv rfl rfl rfl rfl ?_
  refine p_ (S_elemO (e := 52) 11 rfl (.tmp rfl) (.tmp rfl) (by kernel_rfl) (by kernel_rfl) (by omega) (by show (k : Int) < ((cosV ms).length : Nat); rw [cosV_len]; omega)) ?_
  refine fl 0 ?_
  refine s_ (S_store 1 rfl (.tmp rfl) (.S _) rfl (by have h7 := vecCells_len (cap := cap9) (cosV_size (spoilL [115, 112, 111, 105, 108, 116] k ms)); rw [cosV_len, spoilL_len] at h7; simp only [Int.toNat_natCast]; omega) rfl (by kernel_rfl)) ?_
  rintro _ _ ⟨rfl, rfl⟩
  refine AL_nil ?_
  refine AC_region ?_
  refine p_ (S_addI rfl (.tmp rfl) (AEv.const _) (by omega) (by omega)) ?_
  refine mv rfl rfl rfl rfl ?_
  refine AL_nil ?_
  exact ⟨(k + 1, Z ++ Z2), (by dsimp only; omega), (by dsimp only; omega), spoil_next hil _ _ _ _ _ _ _, (.cons rfl (by first | exact Le.refl _ | exact Le.nils | exact Le.row _ _ _ _ | exact Le.of_eq (by first | rfl | (simp; done) | (push_cast; rfl) | (simp; omega))) .nil), (.cons rfl (Le.refl _) (.cons rfl (Le.refl _) .nil))⟩
 try simp only [zA,zO,zN,zM,zP,zQ,zD,zF,gd] at hb3
 refine AC_exit ?_
 refine ret_none (((b1, .cells (soL ⟨nm, lb, lq, is, iq, ms, mq, rs, gr, pr⟩)) :: (vecSt mq 11 (cosV (spoilL [115, 112, 111, 105, 108, 116] k ms)) ++ (Z ++ coSt (ms.drop k)))) ++ F) rfl (Sub.l (by rw [← spoil_end]; exact List.Sublist.refl _)) ⟨_, trivial, rfl⟩ (.inr rfl)
end Go.Proofs.YtfdcadnaginnpaaGreatDoor

set_option maxRecDepth 100000
namespace Go.Proofs.YtfdcadnaginnpaaGreatDoor
open Go.AL Go.NumSpec
theorem spec_PortsO_ok (s : Spc) (hm : s.main.length ≤ 8) (hp : ∀ c ∈ s.main, c.ports.length ≤ 10) (F : St) : ACalls Tryz.prog 18 [spcAV s] ([] ++ F) (fun x st' => ∃ foot', (∃ p : Own, p.ok (intsV (portsS s)) ∧ x = ownAV p 1 (intsV (portsS s)) ∧ foot' = ownSt p 3 1 (intsV (portsS s))) ∧ st' = foot' ++ F) := by
 refine co 19 Tryz.func18 ?_
 refine AC_seq (AC_region ?_)
 refine s_ (S_box rfl (.tmp rfl)) ?_
 rintro _ _ ⟨b1, rfl, rfl⟩
 refine ac rfl rfl rfl ?_
 refine AL_nil (AC_seq (AC_region ?_))
 refine ac rfl rfl rfl ?_
 refine AL_nil ?_
 refine AC_seq ?_
 refine AC_seq (AC_region ?_)
 refine fl 3 ?_
 refine ld 0 ?_
 refine p_ (by first | exact S_lenM (e := 52) rfl (.tmp rfl) (by kernel_rfl) | exact S_len (e := 52) rfl (.tmp rfl) (by kernel_rfl)) ?_
 refine p_ (S_move rfl (AEv.const _)) ?_
 refine AL_nil ?_
 refine AC_block ?_
 refine AC_loopK (G := Nat × Own) [(2, _), (7, _), (8, _)] (fun g => g.1 ≤ s.main.length ∧ g.2.ok (((s.main.take g.1).flatMap Ctr.ports).map (fun n : Int => AV.int .i64 n))) (fun g => [(3, ownAV g.2 1 (((s.main.take g.1).flatMap Ctr.ports).map (fun n : Int => AV.int .i64 n))), (9, .int .i64 (g.1 : Int))]) (fun g => (b1, .cells (spcL s)) :: (ownSt g.2 3 1 (((s.main.take g.1).flatMap Ctr.ports).map (fun n : Int => AV.int .i64 n)) ++ F)) (fun g => s.main.length - g.1) ((0, .nil)) (⟨Nat.zero_le _, by simp [Own.ok]⟩) (Sub.l (List.Sublist.refl _)) (.cons rfl (Le.refl _) (.cons rfl (Le.refl _) (.cons rfl (Le.refl _) .nil))) (.cons rfl (by first | exact Le.refl _ | exact Le.nils | exact Le.row _ _ _ _ | exact Le.of_eq (by first | rfl | (simp; done) | (push_cast; rfl) | (simp; omega))) (.cons rfl (by first | exact Le.refl _ | exact Le.nils | exact Le.row _ _ _ _ | exact Le.of_eq (by first | rfl | (simp; done) | (push_cast; rfl) | (simp; omega))) .nil)) ?_
 rintro ⟨i, p⟩ ⟨hi, hq⟩
 try dsimp only
 simp only [List.cons_append, List.nil_append]
 dsimp only at hi hq
 refine AC_seq (AC_region ?_)
 refine p_ (S_lss rfl (.tmp rfl) (.tmp rfl)) ?_
 refine AL_nil ?_
 refine AC_seq ?_
 refine AC_cond (.tmp rfl) (fun hb2 => ?_) (fun hb2 => ?_)
 ·try simp only [zA,zO,zN,zM,zP,zQ,zD,zF,gd] at hb2
  have hil : i < s.main.length := by first | omega | (have h9 := hb2; simp [ctrsV] at h9; omega)
  have hpl := hp _ (List.getElem_mem hil)
  have hfl := flat_le (l := s.main.take i) fun c h => hp c (List.mem_of_mem_take h)
  have htl : (s.main.take i).length = i := by rw [List.length_take]; omega
  refine AC_skip ?_
  refine AC_seq ?_
  refine AC_block ?_
  refine AC_seq (AC_region ?_)
  refine p_ (S_elemN (e := 52) 11 rfl (.tmp rfl) (.tmp rfl) (by kernel_rfl) (by kernel_rfl) (by omega) (fun _ => rfl)) ?_
  refine p_ (S_loadPN (m := 11) rfl (.tmp rfl) (by kernel_rfl) (by first | exact Nat.le_of_ble_eq_true rfl | (simp; omega) | simp)) ?_
  refine s_ (S_alloc [.string ⟨#[]⟩, .string ⟨#[]⟩, .int .i64 0, .int .i64 0, .int .i64 0, .int .i64 0, .int .i64 0, .int .i64 0, .slice none 0 0, .int .i64 0, .int .i64 0] rfl (by kernel_rfl)) ?_
  rintro _ _ ⟨b5, rfl, rfl⟩
  refine stW 0 ?_
  refine AL_nil ?_
  refine AC_region ?_
  refine mv rfl rfl rfl rfl ?_
  refine fl 8 ?_
  refine ld 0 ?_
  refine s_ (S_appendAny (f := (fun n : Int => AV.int .i64 n)) (l := ((s.main.take i).flatMap Ctr.ports)) (l2 := (s.main[i]'hil).ports) (e := 3) (size := 1) (bytes := 8) (p := p) ([_, _]) (F) rfl (.tmp rfl) (.tmp rfl) rfl hq (by kernel_rfl) (fun _ => ⟨rfl, rfl⟩) (by omega) (by omega)) ?_
  rintro _ _ ⟨q8, hx, rfl, rfl⟩
  refine as_ rfl rfl rfl rfl ?_
  refine AL_nil ?_
  refine AC_region ?_
  refine p_ (S_addI rfl (.tmp rfl) (AEv.const _) (by omega) (by omega)) ?_
  refine mv rfl rfl rfl rfl ?_
  refine AL_nil ?_
  rw [flat_snoc hil] at hx ⊢
  exact ⟨(i + 1, q8), ⟨by dsimp only; omega, hx⟩, by dsimp only; omega, (Sub.l (List.Sublist.cons _ (List.Sublist.refl _))), (.cons rfl (by first | exact Le.refl _ | exact Le.nils | exact Le.row _ _ _ _ | exact Le.of_eq (by first | rfl | (simp; done) | (push_cast; rfl) | (simp; omega))) (.cons rfl (by first | exact Le.refl _ | exact Le.nils | exact Le.row _ _ _ _ | exact Le.of_eq (by first | rfl | (simp; done) | (push_cast; rfl) | (simp; omega))) .nil)), (.cons rfl (Le.refl _) (.cons rfl (Le.refl _) (.cons rfl (Le.refl _) .nil)))⟩
 try simp only [zA,zO,zN,zM,zP,zQ,zD,zF,gd] at hb2
 obtain rfl : i = s.main.length := by first | omega | (have h9 := hb2; simp [ctrsV] at h9; omega)
 refine AC_exit ?_
 refine AC_seq (AC_region ?_)
 refine mv rfl rfl rfl rfl ?_
 refine as_ rfl rfl rfl rfl ?_
 refine AL_nil (AC_ret ?_)
 refine ret_tmp (ownSt p 3 1 (((s.main.take s.main.length).flatMap Ctr.ports).map (fun n : Int => AV.int .i64 n)) ++ F) rfl rfl (Sub.l (List.Sublist.cons _ (List.Sublist.refl _))) (Conv.refl (Sub.l (List.Sublist.cons _ (List.Sublist.refl _))) _) ⟨_, ⟨p, by rw [List.take_length] at hq; exact hq, by rw [List.take_length]; rfl, by rw [List.take_length]; rfl⟩, rfl⟩ (.inl rfl)
theorem ref06_PortsO_ok (s : Spc) (hm : s.main.length ≤ 8) (hp : ∀ c ∈ s.main, c.ports.length ≤ 10) (F : St) : ACalls Tryz.prog 19 [spcAV s] ([] ++ F) (fun x st' => ∃ foot', (∃ p : Own, p.ok (intsV (portsS s)) ∧ x = ownAV p 1 (intsV (portsS s)) ∧ foot' = ownSt p 3 1 (intsV (portsS s))) ∧ st' = foot' ++ F) := by
 refine co 21 Tryz.func19 ?_
 refine AC_seq (AC_region ?_)
 refine s_ (S_box rfl (.tmp rfl)) ?_
 rintro _ _ ⟨b1, rfl, rfl⟩
 refine ac rfl rfl rfl ?_
 refine AL_nil (AC_seq (AC_region ?_))
 refine ac rfl rfl rfl ?_
 refine AL_nil ?_
 refine AC_seq ?_
 refine AC_seq (AC_region ?_)
 refine ac rfl rfl rfl ?_
 refine AL_nil ?_
 refine AC_block ?_
 refine AC_loopK (G := Nat × Own) [(1, _), (2, _)] (fun g => g.1 ≤ s.main.length ∧ g.2.ok (((s.main.take g.1).flatMap Ctr.ports).map (fun n : Int => AV.int .i64 n))) (fun g => [(3, ownAV g.2 1 (((s.main.take g.1).flatMap Ctr.ports).map (fun n : Int => AV.int .i64 n))), (4, .int .i64 (g.1 : Int))]) (fun g => (b1, .cells (spcL s)) :: (ownSt g.2 3 1 (((s.main.take g.1).flatMap Ctr.ports).map (fun n : Int => AV.int .i64 n)) ++ F)) (fun g => s.main.length - g.1) ((0, .nil)) (⟨Nat.zero_le _, by simp [Own.ok]⟩) (Sub.l (List.Sublist.refl _)) (.cons rfl (Le.refl _) (.cons rfl (Le.refl _) .nil)) (.cons rfl (by first | exact Le.refl _ | exact Le.nils | exact Le.row _ _ _ _ | exact Le.of_eq (by first | rfl | (simp; done) | (push_cast; rfl) | (simp; omega))) (.cons rfl (by first | exact Le.refl _ | exact Le.nils | exact Le.row _ _ _ _ | exact Le.of_eq (by first | rfl | (simp; done) | (push_cast; rfl) | (simp; omega))) .nil)) ?_
 rintro ⟨i, p⟩ ⟨hi, hq⟩
 try dsimp only
 simp only [List.cons_append, List.nil_append]
 dsimp only at hi hq
 refine AC_seq ?_
 refine AC_seq (AC_region ?_)
 refine mv rfl rfl rfl rfl ?_
 refine fl 3 ?_
 refine ld 0 ?_
 refine p_ (by first | exact S_lenM (e := 52) rfl (.tmp rfl) (by kernel_rfl) | exact S_len (e := 52) rfl (.tmp rfl) (by kernel_rfl)) ?_
 refine p_ (S_lss rfl (.tmp rfl) (.tmp rfl)) ?_
 refine AL_nil ?_
 refine AC_cond (.tmp rfl) (fun hb2 => ?_) (fun hb2 => ?_)
 ·try simp only [zA,zO,zN,zM,zP,zQ,zD,zF,gd] at hb2
  have hil : i < s.main.length := by first | omega | (have h9 := hb2; simp [ctrsV] at h9; omega)
  have hpl := hp _ (List.getElem_mem hil)
  have hfl := flat_le (l := s.main.take i) fun c h => hp c (List.mem_of_mem_take h)
  have htl : (s.main.take i).length = i := by rw [List.length_take]; omega
  refine AC_skip ?_
  refine AC_seq ?_
  refine AC_block ?_
  refine AC_region ?_
  refine mv rfl rfl rfl rfl ?_
  refine fl 3 ?_
  refine ld 0 ?_
  refine mv rfl rfl rfl rfl ?_
  refine p_ (S_elemN (e := 52) 11 rfl (.tmp rfl) (.tmp rfl) (by kernel_rfl) (by kernel_rfl) (by omega) (fun _ => rfl)) ?_
  refine p_ (S_fieldP 8 rfl (.tmp rfl) (by kernel_rfl)) ?_
  refine p_ (S_loadP rfl (.tmp rfl) rfl (by kernel_rfl)) ?_
  refine s_ (S_appendAny (f := (fun n : Int => AV.int .i64 n)) (l := ((s.main.take i).flatMap Ctr.ports)) (l2 := (s.main[i]'hil).ports) (e := 3) (size := 1) (bytes := 8) (p := p) ([_]) (F) rfl (.tmp rfl) (.tmp rfl) rfl hq (by kernel_rfl) (fun _ => ⟨rfl, rfl⟩) (by omega) (by omega)) ?_
  rintro _ _ ⟨q8, hx, rfl, rfl⟩
  refine as_ rfl rfl rfl rfl ?_
  refine AL_nil ?_
  refine AC_region ?_
  refine mv rfl rfl rfl rfl ?_
  refine p_ (S_addI rfl (.tmp rfl) (AEv.const _) (by omega) (by omega)) ?_
  refine as_ rfl rfl rfl rfl ?_
  refine AL_nil ?_
  rw [flat_snoc hil] at hx ⊢
  exact ⟨(i + 1, q8), ⟨by dsimp only; omega, hx⟩, by dsimp only; omega, (Sub.l (List.Sublist.refl _)), (.cons rfl (by first | exact Le.refl _ | exact Le.nils | exact Le.row _ _ _ _ | exact Le.of_eq (by first | rfl | (simp; done) | (push_cast; rfl) | (simp; omega))) (.cons rfl (by first | exact Le.refl _ | exact Le.nils | exact Le.row _ _ _ _ | exact Le.of_eq (by first | rfl | (simp; done) | (push_cast; rfl) | (simp; omega))) .nil)), (.cons rfl (Le.refl _) (.cons rfl (Le.refl _) .nil))⟩
 try simp only [zA,zO,zN,zM,zP,zQ,zD,zF,gd] at hb2
 obtain rfl : i = s.main.length := by first | omega | (have h9 := hb2; simp [ctrsV] at h9; omega)
 refine AC_exit ?_
 refine AC_seq (AC_region ?_)
 refine mv rfl rfl rfl rfl ?_
 refine as_ rfl rfl rfl rfl ?_
 refine AL_nil (AC_ret ?_)
 refine ret_tmp (ownSt p 3 1 (((s.main.take s.main.length).flatMap Ctr.ports).map (fun n : Int => AV.int .i64 n)) ++ F) rfl rfl (Sub.l (List.Sublist.cons _ (List.Sublist.refl _))) (Conv.refl (Sub.l (List.Sublist.cons _ (List.Sublist.refl _))) _) ⟨_, ⟨p, by rw [List.take_length] at hq; exact hq, by rw [List.take_length]; rfl, by rw [List.take_length]; rfl⟩, rfl⟩ (.inl rfl)
end Go.Proofs.YtfdcadnaginnpaaGreatDoor

set_option maxRecDepth 100000
namespace Go.Proofs.YtfdcadnaginnpaaGreatDoor
open Go.AL Go.NumSpec
theorem spec_Same_ok (a b : Spc) (ha : shortS a) (hb : shortS b) : PCalls Tryz.prog 20 [spcAV a, spcAV b] (.bool (sameS a b)) := by
 intro st
 refine co 52 Tryz.func20 ?_
 obtain ⟨a1, a2, a3, a4, a5⟩ := ha
 obtain ⟨b1', b2', b3', b4', b5'⟩ := hb
 refine AC_seq (AC_region ?_)
 refine s_ (S_box rfl (.tmp rfl)) ?_
 rintro _ _ ⟨b1, rfl, rfl⟩
 refine s_ (S_box rfl (.tmp rfl)) ?_
 rintro _ _ ⟨b2, rfl, rfl⟩
 refine ac rfl rfl rfl ?_
 refine AL_nil (AC_seq (AC_region ?_))
 refine fl 0 ?_
 refine ld 1 ?_
 refine fl 0 ?_
 refine ld 0 ?_
 refine p_ (S_eqS rfl (.tmp rfl) (.tmp rfl)) ?_
 refine mv rfl rfl rfl rfl ?_
 refine g_ (fun _ => fA 1) ?_
 refine g_ (fun _ => lA 1) ?_
 refine g_ (fun _ => fA 1) ?_
 refine g_ (fun _ => lA 0) ?_
 refine g_ (fun _ => S_pcall rfl (AEvs.cons (AEv.cd (.tmp rfl)) (AEvs.cons (AEv.cd (.tmp rfl)) AEvs.nil)) (slices_EqualL_ok a.labels b.labels a1 b1')) ?_
 refine an ?_
 refine mv rfl rfl rfl rfl ?_
 refine g_ (fun _ => fA 2) ?_
 refine g_ (fun _ => lA 1) ?_
 refine g_ (fun _ => fA 2) ?_
 refine g_ (fun _ => lA 0) ?_
 refine g_ (fun _ => S_pcall rfl (AEvs.cons (AEv.cd (.tmp rfl)) (AEvs.cons (AEv.cd (.tmp rfl)) (AEvs.cons (AEv.func _) AEvs.nil))) (spec_each_ok a.init b.init a2 b2' a4 b4')) ?_
 refine an ?_
 refine mv rfl rfl rfl rfl ?_
 refine g_ (fun _ => fA 3) ?_
 refine g_ (fun _ => lA 1) ?_
 refine g_ (fun _ => fA 3) ?_
 refine g_ (fun _ => lA 0) ?_
 refine g_ (fun _ => S_pcall rfl (AEvs.cons (AEv.cd (.tmp rfl)) (AEvs.cons (AEv.cd (.tmp rfl)) (AEvs.cons (AEv.func _) AEvs.nil))) (spec_each_ok a.main b.main a3 b3' a5 b5')) ?_
 refine an ?_
 refine mv rfl rfl rfl rfl ?_
 refine g_ (fun _ => fA 4) ?_
 refine g_ (fun _ => lA 1) ?_
 refine g_ (fun _ => fA 4) ?_
 refine g_ (fun _ => lA 0) ?_
 refine g_ (fun _ => S_eql rfl (AEv.cd (.tmp rfl)) (AEv.cd (.tmp rfl))) ?_
 refine an ?_
 refine mv rfl rfl rfl rfl ?_
 refine g_ (fun _ => fA 5) ?_
 refine g_ (fun _ => lA 1) ?_
 refine g_ (fun _ => fA 5) ?_
 refine g_ (fun _ => lA 0) ?_
 refine g_ (fun _ => S_eql rfl (AEv.cd (.tmp rfl)) (AEv.cd (.tmp rfl))) ?_
 refine an ?_
 refine mv rfl rfl rfl rfl ?_
 refine g_ (fun _ => fA 6) ?_
 refine g_ (fun _ => lA 1) ?_
 refine g_ (fun _ => fA 6) ?_
 refine g_ (fun _ => lA 0) ?_
 refine g_ (fun _ => S_eql rfl (AEv.cd (.tmp rfl)) (AEv.cd (.tmp rfl))) ?_
 refine an ?_
 refine as_ rfl rfl rfl rfl ?_
 refine AL_nil (AC_ret ?_)
 refine ret_tmp st rfl rfl (Sub.l (List.Sublist.cons _ (List.Sublist.cons _ (List.Sublist.refl _)))) (Conv.refl (Sub.l (List.Sublist.cons _ (List.Sublist.cons _ (List.Sublist.refl _)))) _) ⟨congrArg AV.bool (by rw [sameL_eq]; rfl), rfl⟩ (.inl rfl)
theorem clone_fresh (s : Spc) (hs : lightS s = true) : ACalls Tryz.prog 15 [spcAV s] (Gs []) (fun x st' => ∃ new, st' = new ++ Gs [] ∧ StaySt new ∧ Stay x ∧ ∃ o : SO, (soOk o ∧ o.s = s) ∧ x = .agg (soL o) ∧ new = soSt o) := (spec_Clone_ok s hs []).mono fun x st' ⟨_, ⟨o, ho, hx, hf⟩, h⟩ => ⟨soSt o, by rw [h, hf]; rfl, soSt_stay o, by rw [hx]; exact Stay.agg (soL_stay o), o, ho, hx, rfl⟩
set_option maxHeartbeats 1000000 in
theorem law_SpecClones (a b : Spc) : GCalls Tryz.prog tabs 5 [spcAV a, spcAV b] (.bool true) := by
 intro st hG
 refine co 65 Tryz.func5 ?_
 refine AC_seq (AC_region ?_)
 refine s_ (S_box rfl (.tmp rfl)) ?_
 rintro _ _ ⟨b2, rfl, rfl⟩
 refine s_ (S_box rfl (.tmp rfl)) ?_
 rintro _ _ ⟨b3, rfl, rfl⟩
 refine ac rfl rfl rfl ?_
 refine AL_nil ?_
 refine AC_seq ?_
 refine AC_seq (AC_region ?_)
 refine ldN 7 1 ?_
 refine p_ (S_pcall rfl (AEvs.cons (y := spcAV a) (.tmp rfl) AEvs.nil) (book_LightSpec_ok _)) ?_
 refine p_ (S_not rfl (.tmp rfl)) ?_
 refine mv rfl rfl rfl rfl ?_
 refine g_ (fun _ => S_loadN (m := 7) 0 rfl (.tmp rfl) rfl (by kernel_rfl) (by first | exact Nat.le_of_ble_eq_true rfl | (simp; omega) | simp)) ?_
 refine g_ (fun _ => S_pcall rfl (AEvs.cons (y := spcAV b) (AEv.cd (.tmp rfl)) AEvs.nil) (book_LightSpec_ok _)) ?_
 refine g_ (fun _ => S_not rfl (AEv.cd (.tmp rfl))) ?_
 refine p_ (S_or rfl (.tmp rfl) (fun hp12 => (AEv.cd (.tmp rfl)))) ?_
 refine AL_nil ?_
 refine AC_cond (.tmp rfl) (fun hb13 => ?_) (fun hb13 => ?_)
 ·try simp only [zA,zO,zN,zM,zP,zQ,zD,zF,gd] at hb13
  refine AC_seq (AC_region ?_)
  refine p_ (S_gcall rfl AEvs.nil ((law_works) _ (fun p hp => by repeat (first | exact hG p hp | refine List.mem_cons_of_mem _ ?_ | refine List.mem_append_right _ ?_)))) ?_
  refine as_ rfl rfl rfl rfl ?_
  refine AL_nil (AC_ret ?_)
  refine ret_tmp st rfl rfl (Sub.l ((List.sublist_cons_self _ _).trans (List.sublist_cons_self _ _))) (Conv.refl (Sub.l ((List.sublist_cons_self _ _).trans (List.sublist_cons_self _ _))) _) ⟨rfl, rfl⟩ (.inl rfl)
 try simp only [zA,zO,zN,zM,zP,zQ,zD,zF,gd] at hb13
 obtain ⟨hla, hlb⟩ : lightS a = true ∧ lightS b = true := by simpa using hb13
 have hsa := light_short hla
 have hsb := light_short hlb
 obtain ⟨k1, k2, k3⟩ := light_counts hla
 have hpa := light_few hla
 have hpo := ports_few hla
 refine AC_skip ?_
 refine AC_seq (AC_region ?_)
 refine p_ (S_loadNM (m := 7) rfl (.tmp rfl) (by repeat (first | exact List.mem_cons_self | refine List.mem_append_right _ ?_ | refine List.mem_cons_of_mem _ ?_)) (by kernel_rfl) (by first | exact Nat.le_of_ble_eq_true rfl | (simp; omega) | simp)) ?_
 refine s_ (S_call rfl (AEvs.cons (y := spcAV a) (.tmp rfl) AEvs.nil) (spec_Clone_ok a hla _)) ?_
 rintro _ _ ⟨_, ⟨o1, ⟨ho1, e1⟩, rfl, rfl⟩, rfl⟩
 have hl1 : lightS o1.s = true := by rw [e1]; exact hla
 have hs1 := light_short hl1
 have hq1 : sameS o1.s a = true := by rw [e1]; exact sameS_refl a
 have hq2 : sameS a o1.s = true := by rw [e1]; exact sameS_refl a
 refine s_ (S_alloc [.string ⟨#[]⟩, .slice none 0 0, .slice none 0 0, .slice none 0 0, .int .i64 0, .int .i64 0, .int .i64 0] rfl (by kernel_rfl)) ?_
 rintro _ _ ⟨b5, rfl, rfl⟩
 refine s_ (S_storeW 0 rfl (.tmp rfl) (.tmp rfl) rfl rfl (soL_one o1) (by kernel_rfl)) ?_
 rintro _ _ ⟨rfl, rfl⟩
 refine AL_nil (AC_seq (AC_region ?_))
 refine ldN 7 0 ?_
 refine s_ (S_gcallF (gs := []) (fun _ h => absurd h List.not_mem_nil) List.nodup_nil rfl (AEvs.cons (y := .agg (soL o1)) (.tmp rfl) AEvs.nil) (LendsG.cons (so_conv0 ho1 (fun p hp => by repeat (first | exact List.mem_append_left _ hp | refine List.mem_append_right _ ?_ | refine List.mem_cons_of_mem _ ?_))) .nil) (clone_fresh o1.s hl1)) ?_
 rintro _ _ ⟨_, rfl, o2, ⟨ho2, e2⟩, rfl, rfl⟩
 have hl2 : lightS o2.s = true := by rw [e2]; exact hl1
 have hs2 := light_short hl2
 refine s_ (S_alloc [.string ⟨#[]⟩, .slice none 0 0, .slice none 0 0, .slice none 0 0, .int .i64 0, .int .i64 0, .int .i64 0] rfl (by kernel_rfl)) ?_
 rintro _ _ ⟨b6, rfl, rfl⟩
 refine s_ (S_storeW 0 rfl (.tmp rfl) (.tmp rfl) rfl rfl (soL_one o2) (by kernel_rfl)) ?_
 rintro _ _ ⟨rfl, rfl⟩
 refine AL_nil ?_
 refine AC_seq ?_
 refine AC_seq ?_
 refine AC_draw (by kernel_rfl) (by kernel_rfl) (.cons rfl (Q_p rfl (S_loadNM (m := 7) rfl (.tmp rfl) (by repeat (first | exact List.mem_cons_self | refine List.mem_append_right _ ?_ | refine List.mem_cons_of_mem _ ?_)) (by kernel_rfl) (by first | exact Nat.le_of_ble_eq_true rfl | (simp; omega) | simp))) <|
   .cons rfl (Q_p rfl (S_loadNM (m := 7) rfl (.tmp rfl) (by repeat (first | exact List.mem_cons_self | refine List.mem_append_right _ ?_ | refine List.mem_cons_of_mem _ ?_)) (by kernel_rfl) (by first | exact Nat.le_of_ble_eq_true rfl | (simp; omega) | simp))) <|
   .cons rfl (Q_p rfl (S_pcallB rfl (AEvs.cons (y := .agg (soL o1)) (.tmp rfl) (AEvs.cons (y := spcAV a) (.tmp rfl) AEvs.nil)) (Lends.cons (so_conv0 ho1 (fun p hp => by repeat (first | exact List.mem_append_left _ hp | refine List.mem_append_right _ ?_ | refine List.mem_cons_of_mem _ ?_))) (Lends.cons (Conv.refl Sub.nil _) Lends.nil)) (book_SameSpec_ok o1.s a hs1 hsa))) <|
   .cons rfl (Q_p rfl (S_not rfl (.tmp rfl))) <|
   .cons rfl (Q_p rfl (S_move rfl (.tmp rfl))) <|
   .cons rfl (Q_g rfl rfl (.tmp rfl) (fun hg16 => S_loadNM (m := 7) rfl (.tmp rfl) (by repeat (first | exact List.mem_cons_self | refine List.mem_append_right _ ?_ | refine List.mem_cons_of_mem _ ?_)) (by kernel_rfl) (by first | exact Nat.le_of_ble_eq_true rfl | (simp; omega) | simp))) <|
   .cons rfl (Q_g rfl rfl (.tmp rfl) (fun hg19 => S_pcall rfl (AEvs.cons (y := spcAV a) (AEv.cd (.tmp rfl)) AEvs.nil) (spec_Ports_ok a k3 hpa))) <|
   .cons rfl (Q_g rfl rfl (.tmp rfl) (fun hg22 => S_loadNM (m := 7) rfl (.tmp rfl) (by repeat (first | exact List.mem_cons_self | refine List.mem_append_right _ ?_ | refine List.mem_cons_of_mem _ ?_)) (by kernel_rfl) (by first | exact Nat.le_of_ble_eq_true rfl | (simp; omega) | simp))) <|
   .cons rfl (Q_g rfl rfl (.tmp rfl) (fun hg25 => S_keepC (S_call rfl (AEvs.cons (y := spcAV a) (AEv.cd (.tmp rfl)) AEvs.nil) (ref06_PortsO_ok a k3 hpa _)) (by rintro _ _ ⟨_, ⟨p, hp, rfl, rfl⟩, rfl⟩; exact ⟨Sub.l (List.sublist_append_right _ _), Conv.le (Sub.l (List.sublist_append_right _ _)) (Le_own hp)⟩))) <|
   .cons rfl (Q_g rfl rfl (.tmp rfl) (fun hg28 => S_pcall rfl (AEvs.cons (y := .sl (intsV (portsS a))) (AEv.cd (.tmp rfl)) (AEvs.cons (y := .sl (intsV (portsS a))) (AEv.cd (.tmp rfl)) AEvs.nil)) (book_SameInts_ok (portsS a) (portsS a) hpo hpo))) <|
   .cons rfl (Q_g rfl rfl (.tmp rfl) (fun hg31 => S_not rfl (AEv.cd (.tmp rfl)))) <|
   .cons rfl (Q_p rfl (S_or rfl (.tmp rfl) (fun hp34 => (AEv.cd (.tmp rfl))))) <|
   .cons rfl (Q_p rfl (S_move rfl (.tmp rfl))) <|
   .cons rfl (Q_g rfl rfl (.tmp rfl) (fun hg35 => S_loadNM (m := 7) rfl (.tmp rfl) (by repeat (first | exact List.mem_cons_self | refine List.mem_append_right _ ?_ | refine List.mem_cons_of_mem _ ?_)) (by kernel_rfl) (by first | exact Nat.le_of_ble_eq_true rfl | (simp; omega) | simp))) <|
   .cons rfl (Q_g rfl rfl (.tmp rfl) (fun hg38 => S_loadNM (m := 7) rfl (.tmp rfl) (by repeat (first | exact List.mem_cons_self | refine List.mem_append_right _ ?_ | refine List.mem_cons_of_mem _ ?_)) (by kernel_rfl) (by first | exact Nat.le_of_ble_eq_true rfl | (simp; omega) | simp))) <|
   .cons rfl (Q_g rfl rfl (.tmp rfl) (fun hg41 => S_pcall rfl (AEvs.cons (y := spcAV a) (AEv.cd (.tmp rfl)) (AEvs.cons (y := spcAV b) (AEv.cd (.tmp rfl)) AEvs.nil)) (spec_Same_ok a b hsa hsb))) <|
   .cons rfl (Q_g rfl rfl (.tmp rfl) (fun hg44 => S_loadNM (m := 7) rfl (.tmp rfl) (by repeat (first | exact List.mem_cons_self | refine List.mem_append_right _ ?_ | refine List.mem_cons_of_mem _ ?_)) (by kernel_rfl) (by first | exact Nat.le_of_ble_eq_true rfl | (simp; omega) | simp))) <|
   .cons rfl (Q_g rfl rfl (.tmp rfl) (fun hg47 => S_loadNM (m := 7) rfl (.tmp rfl) (by repeat (first | exact List.mem_cons_self | refine List.mem_append_right _ ?_ | refine List.mem_cons_of_mem _ ?_)) (by kernel_rfl) (by first | exact Nat.le_of_ble_eq_true rfl | (simp; omega) | simp))) <|
   .cons rfl (Q_g rfl rfl (.tmp rfl) (fun hg50 => S_pcall rfl (AEvs.cons (y := spcAV a) (AEv.cd (.tmp rfl)) (AEvs.cons (y := spcAV b) (AEv.cd (.tmp rfl)) AEvs.nil)) (book_SameSpec_ok a b hsa hsb))) <|
   .cons rfl (Q_g rfl rfl (.tmp rfl) (fun hg53 => S_neB rfl (AEv.cd (.tmp rfl)) (AEv.cd (.tmp rfl)) (by kernel_rfl))) <|
   .cons rfl (Q_p rfl (S_or rfl (.tmp rfl) (fun hp56 => (AEv.cd (.tmp rfl))))) <|
   .cons rfl (Q_p rfl (S_move rfl (.tmp rfl))) <|
   .cons rfl (Q_g rfl rfl (.tmp rfl) (fun hg57 => S_loadNM (m := 7) rfl (.tmp rfl) (by repeat (first | exact List.mem_cons_self | refine List.mem_append_right _ ?_ | refine List.mem_cons_of_mem _ ?_)) (by kernel_rfl) (by first | exact Nat.le_of_ble_eq_true rfl | (simp; omega) | simp))) <|
   .cons rfl (Q_g rfl rfl (.tmp rfl) (fun hg60 => S_loadNM (m := 7) rfl (.tmp rfl) (by repeat (first | exact List.mem_cons_self | refine List.mem_append_right _ ?_ | refine List.mem_cons_of_mem _ ?_)) (by kernel_rfl) (by first | exact Nat.le_of_ble_eq_true rfl | (simp; omega) | simp))) <|
   .cons rfl (Q_g rfl rfl (.tmp rfl) (fun hg63 => S_pcallB rfl (AEvs.cons (y := spcAV a) (AEv.cd (.tmp rfl)) (AEvs.cons (y := .agg (soL o1)) (AEv.cd (.tmp rfl)) AEvs.nil)) (Lends.cons (Conv.refl Sub.nil _) (Lends.cons (so_conv0 ho1 (fun p hp => by repeat (first | exact List.mem_append_left _ hp | refine List.mem_append_right _ ?_ | refine List.mem_cons_of_mem _ ?_))) Lends.nil)) (spec_Same_ok a o1.s hsa hs1))) <|
   .cons rfl (Q_g rfl rfl (.tmp rfl) (fun hg66 => S_not rfl (AEv.cd (.tmp rfl)))) <|
   .cons rfl (Q_p rfl (S_or rfl (.tmp rfl) (fun hp69 => (AEv.cd (.tmp rfl))))) <|
   .nil) ?_
 refine AC_cond (.tmp rfl) (fun hb70 => ?_) (fun hb70 => ?_)
 ·exfalso; revert hb70; simp [hq1, hq2, same_same]
 try simp only [zA,zO,zN,zM,zP,zQ,zD,zF,gd] at hb70
 refine AC_skip ?_
 refine AC_seq (AC_region ?_)
 refine p_ (S_loadNM (m := 7) rfl (.tmp rfl) (by repeat (first | exact List.mem_cons_self | refine List.mem_append_right _ ?_ | refine List.mem_cons_of_mem _ ?_)) (by kernel_rfl) (by first | exact Nat.le_of_ble_eq_true rfl | (simp; omega) | simp)) ?_
 refine s_ (S_gcallO (gs := []) (e := 3) (ys := intsV (portsS o1.s)) (by rw [e1]; simpa [intsV] using hpo) (fun _ h => absurd h List.not_mem_nil) List.nodup_nil rfl (AEvs.cons (y := .agg (soL o1)) (.tmp rfl) AEvs.nil) (LendsG.cons (so_conv0 ho1 (fun p hp => by repeat (first | exact List.mem_append_left _ hp | refine List.mem_append_right _ ?_ | refine List.mem_cons_of_mem _ ?_))) .nil) ((spec_PortsO_ok o1.s (by rw [e1]; exact k3) (by rw [e1]; exact hpa) []).mono fun x st' ⟨_, ⟨p, hp, hx, hf⟩, h⟩ => ⟨p, hp, hx, by rw [h, hf]; rfl⟩)) ?_
 rintro x9 _ ⟨ft, hsp, rfl⟩
 refine s_ (S_call rfl (AEvs.cons (.tmp rfl) AEvs.nil) (book_SpoilI_ok hsp _)) ?_
 rintro _ _ ⟨Z, _, rfl⟩
 refine AL_nil (AC_seq (AC_region ?_))
 refine p_ (S_loadNM (m := 7) rfl (.tmp rfl) (by repeat (first | exact List.mem_cons_self | refine List.mem_append_right _ ?_ | refine List.mem_cons_of_mem _ ?_)) (by kernel_rfl) (by first | exact Nat.le_of_ble_eq_true rfl | (simp; omega) | simp)) ?_
 refine p_ (S_loadNM (m := 7) rfl (.tmp rfl) (by repeat (first | exact List.mem_cons_self | refine List.mem_append_right _ ?_ | refine List.mem_cons_of_mem _ ?_)) (by kernel_rfl) (by first | exact Nat.le_of_ble_eq_true rfl | (simp; omega) | simp)) ?_
 refine p_ (S_pcallB rfl (AEvs.cons (y := .agg (soL o1)) (.tmp rfl) (AEvs.cons (y := .agg (soL o2)) (.tmp rfl) AEvs.nil)) (Lends.cons (so_conv0 ho1 (fun p hp => by repeat (first | exact List.mem_append_left _ hp | refine List.mem_append_right _ ?_ | refine List.mem_cons_of_mem _ ?_))) (Lends.cons (so_conv0 ho2 (fun p hp => by repeat (first | exact List.mem_append_left _ hp | refine List.mem_append_right _ ?_ | refine List.mem_cons_of_mem _ ?_))) Lends.nil)) (book_SameSpec_ok o1.s o2.s hs1 hs2)) ?_
 refine as_ rfl rfl rfl rfl ?_
 refine AL_nil ?_
 refine AC_seq ?_
 refine AC_sub (Sub.p (perm_swap3 ((b6, .cells (soL o2)) :: soSt o2) ((b5, .cells (soL o1)) :: soSt o1) _) (List.sublist_append_right Z _)) ?_
 simp only [List.cons_append]
 refine AC_region ?_
 refine p_ (S_loadNM (m := 7) rfl (.tmp rfl) (by repeat (first | exact List.mem_cons_self | refine List.mem_append_right _ ?_ | refine List.mem_cons_of_mem _ ?_)) (by kernel_rfl) (by first | exact Nat.le_of_ble_eq_true rfl | (simp; omega) | simp)) ?_
 refine s_ (S_call rfl (AEvs.cons (y := .agg (soL o1)) (.tmp rfl) AEvs.nil) (ACalls.preQ (pre := [_]) (foot := soSt o1) (F := _) (book_SpoilS_ok o1 ho1 hl1 _))) ?_
 rintro _ _ ⟨Z3, _, rfl⟩
 refine AL_nil (AC_seq (AC_region ?_))
 refine mv rfl rfl rfl rfl ?_
 refine mv rfl rfl rfl rfl ?_
 refine g_ (fun _ => S_loadNM (m := 7) rfl (.tmp rfl) (by repeat (first | exact List.mem_cons_self | refine List.mem_append_right _ ?_ | refine List.mem_cons_of_mem _ ?_)) (by kernel_rfl) (by first | exact Nat.le_of_ble_eq_true rfl | (simp; omega) | simp)) ?_
 refine g_ (fun _ => S_loadNM (m := 7) rfl (.tmp rfl) (by repeat (first | exact List.mem_cons_self | refine List.mem_append_right _ ?_ | refine List.mem_cons_of_mem _ ?_)) (by kernel_rfl) (by first | exact Nat.le_of_ble_eq_true rfl | (simp; omega) | simp)) ?_
 refine g_ (fun _ => S_pcallB rfl (AEvs.cons (y := .agg (soL o2)) (AEv.cd (.tmp rfl)) (AEvs.cons (y := spcAV a) (AEv.cd (.tmp rfl)) AEvs.nil)) (Lends.cons (so_conv0 ho2 (fun p hp => by repeat (first | exact List.mem_append_left _ hp | refine List.mem_append_right _ ?_ | refine List.mem_cons_of_mem _ ?_))) (Lends.cons (Conv.refl Sub.nil _) Lends.nil)) (book_SameSpec_ok o2.s a hs2 hsa)) ?_
 refine an ?_
 refine mv rfl rfl rfl rfl ?_
 refine g_ (fun _ => S_gcall rfl AEvs.nil ((law_works) _ (fun p hp => by repeat (first | exact hG p hp | refine List.mem_cons_of_mem _ ?_ | refine List.mem_append_right _ ?_)))) ?_
 refine an ?_
 refine as_ rfl rfl rfl rfl ?_
 refine AL_nil (AC_ret ?_)
 refine ret_tmp st rfl rfl (Sub.l (List.Sublist.cons _ ((List.Sublist.cons _ ((List.Sublist.cons _ (List.Sublist.cons _ (List.Sublist.refl _))).trans (List.sublist_append_right _ _))).trans (List.sublist_append_right _ _)))) (Conv.refl (Sub.l (List.Sublist.cons _ ((List.Sublist.cons _ ((List.Sublist.cons _ (List.Sublist.cons _ (List.Sublist.refl _))).trans (List.sublist_append_right _ _))).trans (List.sublist_append_right _ _)))) _) ⟨congrArg AV.bool (by rw [e2, e1]; simp [sameS_refl]), rfl⟩ (.inl rfl)
end Go.Proofs.YtfdcadnaginnpaaGreatDoor
