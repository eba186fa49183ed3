/- A part of the proof: what the program's functions answer.
Conditions: none beyond each theorem's own. -/
import Derived.Test.YtfdcadnaginnpaaGreatDoorW1
set_option linter.unusedVariables false
set_option linter.unusedSimpArgs false
set_option maxRecDepth 100000
namespace Go.Proofs.YtfdcadnaginnpaaGreatDoor
open Go.AL Go.NumSpec
theorem slices_EqualI_ok (l m : List (Int)) (hl : l.length ≤ 1000000) (hm : m.length ≤ 1000000) : PCalls Tryz.prog 76 [.sl (intsV l), .sl (intsV m)] (.bool (sameL (fun a b => decide (a = b)) l m)) := by
 intro st
 refine co 26 Tryz.func76 ?_
 refine AC_seq (AC_region ?_)
 refine ac rfl rfl rfl ?_
 refine AL_nil ?_
 refine AC_seq ?_
 refine AC_seq (AC_region ?_)
 refine mv rfl rfl rfl rfl ?_
 refine p_ (by first | exact S_lenM (e := 3) rfl (.tmp rfl) (by kernel_rfl) | exact S_len (e := 3) rfl (.tmp rfl) (by kernel_rfl)) ?_
 refine mv rfl rfl rfl rfl ?_
 refine p_ (by first | exact S_lenM (e := 3) rfl (.tmp rfl) (by kernel_rfl) | exact S_len (e := 3) rfl (.tmp rfl) (by kernel_rfl)) ?_
 refine p_ (S_neq rfl (.tmp rfl) (.tmp rfl)) ?_
 refine AL_nil ?_
 refine AC_cond (.tmp rfl) (fun hb1 => ?_) (fun hb1 => ?_)
 ·try simp only [zA,zO,zN,zM,zP,zQ,zD,zF,gd] at hb1
  have hbad : sameL (fun a b => decide (a = b)) l m = false := sameL_len (by omega)
  refine AC_seq (AC_region ?_)
  refine ac rfl rfl rfl ?_
  refine AL_nil (AC_ret ?_)
  refine ret_tmp st rfl rfl (Sub.l (List.Sublist.refl _)) (Conv.refl (Sub.l (List.Sublist.refl _)) _) ⟨by rw [hbad], rfl⟩ (.inl rfl)
 try simp only [zA,zO,zN,zM,zP,zQ,zD,zF,gd] at hb1
 have hlen : l.length = m.length := by omega
 refine AC_skip ?_
 refine AC_seq ?_
 refine AC_seq (AC_region ?_)
 refine mv rfl rfl rfl rfl ?_
 refine p_ (by first | exact S_lenM (e := 3) rfl (.tmp rfl) (by kernel_rfl) | exact S_len (e := 3) rfl (.tmp rfl) (by kernel_rfl)) ?_
 refine p_ (S_move rfl (AEv.const _)) ?_
 refine AL_nil ?_
 refine AC_block ?_
 refine AC_loopK (G := Nat) [(0, _), (1, _), (12, _)] (fun i => i ≤ l.length ∧ ∀ j (h1 : j < l.length) (h2 : j < m.length), j < i → (fun a b => decide (a = b)) (l[j]'h1) (m[j]'h2) = true) (fun g => [(13, .int .i64 (g : Int))]) (fun g => st) (fun g => l.length - g) (0) (⟨Nat.zero_le _, fun j _ _ h => absurd h (Nat.not_lt_zero _)⟩) (Sub.l (List.Sublist.refl _)) (.cons rfl (Le.refl _) (.cons rfl (Le.refl _) (.cons rfl (Le.refl _) .nil))) (.cons rfl (by first | exact Le.refl _ | exact Le.nils | exact Le.row _ _ _ _ | exact Le.of_eq (by first | rfl | (simp; done) | (push_cast; rfl) | (simp; omega))) .nil) ?_
 rintro i ⟨hi, hall⟩
 try dsimp only
 simp only [List.cons_append, List.nil_append]
 refine AC_seq (AC_region ?_)
 refine p_ (S_lss rfl (.tmp rfl) (.tmp rfl)) ?_
 refine AL_nil ?_
 refine AC_seq ?_
 refine AC_cond (.tmp rfl) (fun hb2 => ?_) (fun hb2 => ?_)
 ·try simp only [zA,zO,zN,zM,zP,zQ,zD,zF,gd] at hb2
  have hil : i < l.length := by omega
  refine AC_skip ?_
  refine AC_seq ?_
  refine AC_block ?_
  refine AC_seq (AC_region ?_)
  refine mv rfl rfl rfl rfl ?_
  refine as_ rfl rfl rfl rfl ?_
  refine AL_nil ?_
  refine AC_seq ?_
  refine AC_draw (by kernel_rfl) (by kernel_rfl) (.cons rfl (Q_p rfl (S_move rfl (.tmp rfl))) <|
    .cons rfl (Q_p rfl (S_move rfl (.tmp rfl))) <|
    .cons rfl (Q_p rfl (S_elemN (e := 3) 1 rfl (.tmp rfl) (.tmp rfl) (by kernel_rfl) (by kernel_rfl) (by omega) (fun _ => rfl))) <|
    .cons rfl (Q_p rfl (S_loadP rfl (.tmp rfl) rfl (by kernel_rfl))) <|
    .cons rfl (Q_p rfl (S_move rfl (.tmp rfl))) <|
    .cons rfl (Q_p rfl (S_move rfl (.tmp rfl))) <|
    .cons rfl (Q_p rfl (S_elemN (e := 3) 1 rfl (.tmp rfl) (.tmp rfl) (by kernel_rfl) (by kernel_rfl) (by omega) (fun _ => rfl))) <|
    .cons rfl (Q_p rfl (S_loadP rfl (.tmp rfl) rfl (by kernel_rfl))) <|
    .cons rfl (Q_p rfl (S_neq rfl (.tmp rfl) (.tmp rfl))) <|
    .nil) ?_
  refine AC_cond (.tmp rfl) (fun hb3 => ?_) (fun hb3 => ?_)
  ·try simp only [zA,zO,zN,zM,zP,zQ,zD,zF,gd] at hb3
   have hbad : sameL (fun a b => decide (a = b)) l m = false := sameL_bad hil (by omega) (by simpa using hb3)
   refine AC_seq (AC_region ?_)
   refine ac rfl rfl rfl ?_
   refine AL_nil (AC_ret ?_)
   refine ret_tmp st rfl rfl (Sub.l (List.Sublist.refl _)) (Conv.refl (Sub.l (List.Sublist.refl _)) _) ⟨by rw [hbad], rfl⟩ (.inl rfl)
  try simp only [zA,zO,zN,zM,zP,zQ,zD,zF,gd] at hb3
  have hne : (fun a b => decide (a = b)) (l[i]'hil) (m[i]'(by omega)) = true := by simpa using hb3
  refine AC_skip ?_
  refine AC_region ?_
  refine p_ (S_addI rfl (.tmp rfl) (AEv.const _) (by omega) (by omega)) ?_
  refine mv rfl rfl rfl rfl ?_
  refine AL_nil ?_
  refine ⟨i + 1, ⟨by omega, fun j h1 h2 h => ?_⟩, by omega, Sub.l (List.Sublist.refl _), (.cons rfl (by first | exact Le.refl _ | exact Le.nils | exact Le.row _ _ _ _ | exact Le.of_eq (by first | rfl | (simp; done) | (push_cast; rfl) | (simp; omega))) .nil), (.cons rfl (Le.refl _) (.cons rfl (Le.refl _) (.cons rfl (Le.refl _) .nil)))⟩
  rcases Nat.lt_or_ge j i with h' | h'
  ·exact hall j h1 h2 h'
  ·have : j = i := by omega
   subst this
   exact hne
 try simp only [zA,zO,zN,zM,zP,zQ,zD,zF,gd] at hb2
 have hgood : sameL (fun a b => decide (a = b)) l m = true := sameL_all hlen fun j h1 h2 => hall j h1 h2 (by omega)
 refine AC_exit ?_
 refine AC_seq (AC_region ?_)
 refine ac rfl rfl rfl ?_
 refine AL_nil (AC_ret ?_)
 refine ret_tmp st rfl rfl (Sub.l (List.Sublist.refl _)) (Conv.refl (Sub.l (List.Sublist.refl _)) _) ⟨by rw [hgood], rfl⟩ (.inl rfl)
theorem slices_EqualL_ok (l m : List (Lab)) (hl : l.length ≤ 1000000) (hm : m.length ≤ 1000000) : PCalls Tryz.prog 46 [.sl (labsV l), .sl (labsV m)] (.bool (sameL (fun a b => decide (a = b)) l m)) := by
 intro st
 refine co 26 Tryz.func46 ?_
 refine AC_seq (AC_region ?_)
 refine ac rfl rfl rfl ?_
 refine AL_nil ?_
 refine AC_seq ?_
 refine AC_seq (AC_region ?_)
 refine mv rfl rfl rfl rfl ?_
 refine p_ (by first | exact S_lenM (e := 56) rfl (.tmp rfl) (by kernel_rfl) | exact S_len (e := 56) rfl (.tmp rfl) (by kernel_rfl)) ?_
 refine mv rfl rfl rfl rfl ?_
 refine p_ (by first | exact S_lenM (e := 56) rfl (.tmp rfl) (by kernel_rfl) | exact S_len (e := 56) rfl (.tmp rfl) (by kernel_rfl)) ?_
 refine p_ (S_neq rfl (.tmp rfl) (.tmp rfl)) ?_
 refine AL_nil ?_
 refine AC_cond (.tmp rfl) (fun hb1 => ?_) (fun hb1 => ?_)
 ·try simp only [zA,zO,zN,zM,zP,zQ,zD,zF,gd] at hb1
  have hbad : sameL (fun a b => decide (a = b)) l m = false := sameL_len (by omega)
  refine AC_seq (AC_region ?_)
  refine ac rfl rfl rfl ?_
  refine AL_nil (AC_ret ?_)
  refine ret_tmp st rfl rfl (Sub.l (List.Sublist.refl _)) (Conv.refl (Sub.l (List.Sublist.refl _)) _) ⟨by rw [hbad], rfl⟩ (.inl rfl)
 try simp only [zA,zO,zN,zM,zP,zQ,zD,zF,gd] at hb1
 have hlen : l.length = m.length := by omega
 refine AC_skip ?_
 refine AC_seq ?_
 refine AC_seq (AC_region ?_)
 refine mv rfl rfl rfl rfl ?_
 refine p_ (by first | exact S_lenM (e := 56) rfl (.tmp rfl) (by kernel_rfl) | exact S_len (e := 56) rfl (.tmp rfl) (by kernel_rfl)) ?_
 refine p_ (S_move rfl (AEv.const _)) ?_
 refine AL_nil ?_
 refine AC_block ?_
 refine AC_loopK (G := Nat) [(0, _), (1, _), (12, _)] (fun i => i ≤ l.length ∧ ∀ j (h1 : j < l.length) (h2 : j < m.length), j < i → (fun a b => decide (a = b)) (l[j]'h1) (m[j]'h2) = true) (fun g => [(13, .int .i64 (g : Int))]) (fun g => st) (fun g => l.length - g) (0) (⟨Nat.zero_le _, fun j _ _ h => absurd h (Nat.not_lt_zero _)⟩) (Sub.l (List.Sublist.refl _)) (.cons rfl (Le.refl _) (.cons rfl (Le.refl _) (.cons rfl (Le.refl _) .nil))) (.cons rfl (by first | exact Le.refl _ | exact Le.nils | exact Le.row _ _ _ _ | exact Le.of_eq (by first | rfl | (simp; done) | (push_cast; rfl) | (simp; omega))) .nil) ?_
 rintro i ⟨hi, hall⟩
 try dsimp only
 simp only [List.cons_append, List.nil_append]
 refine AC_seq (AC_region ?_)
 refine p_ (S_lss rfl (.tmp rfl) (.tmp rfl)) ?_
 refine AL_nil ?_
 refine AC_seq ?_
 refine AC_cond (.tmp rfl) (fun hb2 => ?_) (fun hb2 => ?_)
 ·try simp only [zA,zO,zN,zM,zP,zQ,zD,zF,gd] at hb2
  have hil : i < l.length := by omega
  refine AC_skip ?_
  refine AC_seq ?_
  refine AC_block ?_
  refine AC_seq (AC_region ?_)
  refine mv rfl rfl rfl rfl ?_
  refine as_ rfl rfl rfl rfl ?_
  refine AL_nil ?_
  refine AC_seq ?_
  refine AC_draw (by kernel_rfl) (by kernel_rfl) (.cons rfl (Q_p rfl (S_move rfl (.tmp rfl))) <|
    .cons rfl (Q_p rfl (S_move rfl (.tmp rfl))) <|
    .cons rfl (Q_p rfl (S_elemN (e := 56) 2 rfl (.tmp rfl) (.tmp rfl) (by kernel_rfl) (by kernel_rfl) (by omega) (fun _ => rfl))) <|
    .cons rfl (Q_p rfl (S_loadPN (m := 2) rfl (.tmp rfl) (by kernel_rfl) (by first | exact Nat.le_of_ble_eq_true rfl | (simp; omega) | simp))) <|
    .cons rfl (Q_p rfl (S_move rfl (.tmp rfl))) <|
    .cons rfl (Q_p rfl (S_move rfl (.tmp rfl))) <|
    .cons rfl (Q_p rfl (S_elemN (e := 56) 2 rfl (.tmp rfl) (.tmp rfl) (by kernel_rfl) (by kernel_rfl) (by omega) (fun _ => rfl))) <|
    .cons rfl (Q_p rfl (S_loadPN (m := 2) rfl (.tmp rfl) (by kernel_rfl) (by first | exact Nat.le_of_ble_eq_true rfl | (simp; omega) | simp))) <|
    .cons rfl (Q_p rfl ((S_neqAgg rfl (.tmp rfl) (.tmp rfl) (by kernel_rfl) (EqAV.struct Tryz.underlying56 (by kernel_rfl) (EqFs.flat (by kernel_rfl) (by kernel_rfl) rfl rfl (EqAV.S (by kernel_rfl)) (EqFs.flat (by kernel_rfl) (by kernel_rfl) rfl rfl (EqAV.S (by kernel_rfl)) EqFs.nil)))).ofV (V' := .bool (!decide ((l[i]'hil) = (m[i]'(by omega))))) (congrArg AV.bool (congrArg Bool.not lab_eqB)))) <|
    .nil) ?_
  refine AC_cond (.tmp rfl) (fun hb3 => ?_) (fun hb3 => ?_)
  ·try simp only [zA,zO,zN,zM,zP,zQ,zD,zF,gd] at hb3
   have hbad : sameL (fun a b => decide (a = b)) l m = false := sameL_bad hil (by omega) (by simpa using hb3)
   refine AC_seq (AC_region ?_)
   refine ac rfl rfl rfl ?_
   refine AL_nil (AC_ret ?_)
   refine ret_tmp st rfl rfl (Sub.l (List.Sublist.refl _)) (Conv.refl (Sub.l (List.Sublist.refl _)) _) ⟨by rw [hbad], rfl⟩ (.inl rfl)
  try simp only [zA,zO,zN,zM,zP,zQ,zD,zF,gd] at hb3
  have hne : (fun a b => decide (a = b)) (l[i]'hil) (m[i]'(by omega)) = true := by simpa using hb3
  refine AC_skip ?_
  refine AC_region ?_
  refine p_ (S_addI rfl (.tmp rfl) (AEv.const _) (by omega) (by omega)) ?_
  refine mv rfl rfl rfl rfl ?_
  refine AL_nil ?_
  refine ⟨i + 1, ⟨by omega, fun j h1 h2 h => ?_⟩, by omega, Sub.l (List.Sublist.refl _), (.cons rfl (by first | exact Le.refl _ | exact Le.nils | exact Le.row _ _ _ _ | exact Le.of_eq (by first | rfl | (simp; done) | (push_cast; rfl) | (simp; omega))) .nil), (.cons rfl (Le.refl _) (.cons rfl (Le.refl _) (.cons rfl (Le.refl _) .nil)))⟩
  rcases Nat.lt_or_ge j i with h' | h'
  ·exact hall j h1 h2 h'
  ·have : j = i := by omega
   subst this
   exact hne
 try simp only [zA,zO,zN,zM,zP,zQ,zD,zF,gd] at hb2
 have hgood : sameL (fun a b => decide (a = b)) l m = true := sameL_all hlen fun j h1 h2 => hall j h1 h2 (by omega)
 refine AC_exit ?_
 refine AC_seq (AC_region ?_)
 refine ac rfl rfl rfl ?_
 refine AL_nil (AC_ret ?_)
 refine ret_tmp st rfl rfl (Sub.l (List.Sublist.refl _)) (Conv.refl (Sub.l (List.Sublist.refl _)) _) ⟨by rw [hgood], rfl⟩ (.inl rfl)
theorem spec_alike_ok (a b : Ctr) (ha : a.ports.length ≤ 1000000) (hb : b.ports.length ≤ 1000000) : PCalls Tryz.prog 50 [ctrAV a, ctrAV b] (.bool (alikeC a b)) := by
 intro st
 refine co 38 Tryz.func50 ?_
 refine AC_seq (AC_region ?_)
 refine s_ (S_box rfl (.tmp rfl)) ?_
 rintro _ _ ⟨b1, rfl, rfl⟩
 refine s_ (S_box rfl (.tmp rfl)) ?_
 rintro _ _ ⟨b2, rfl, rfl⟩
 refine ac rfl rfl rfl ?_
 refine AL_nil (AC_seq (AC_region ?_))
 refine fl 0 ?_
 refine ld 1 ?_
 refine fl 0 ?_
 refine ld 0 ?_
 refine p_ (S_eqS rfl (.tmp rfl) (.tmp rfl)) ?_
 refine mv rfl rfl rfl rfl ?_
 refine g_ (fun _ => fA 2) ?_
 refine g_ (fun _ => lN 3 1) ?_
 refine g_ (fun _ => fA 2) ?_
 refine g_ (fun _ => lN 3 0) ?_
 refine g_ (fun _ => S_eqlAgg rfl (AEv.cd (.tmp rfl)) (AEv.cd (.tmp rfl)) (by kernel_rfl) (EqAV.struct Tryz.underlying48 (by kernel_rfl) (EqFs.flat (by kernel_rfl) (by kernel_rfl) rfl rfl (EqAV.int (k' := .i64) (by kernel_rfl)) (EqFs.flat (by kernel_rfl) (by kernel_rfl) rfl rfl (EqAV.int (k' := .i64) (by kernel_rfl)) (EqFs.flat (by kernel_rfl) (by kernel_rfl) rfl rfl (EqAV.int (k' := .i64) (by kernel_rfl)) EqFs.nil))))) ?_
 refine an ?_
 refine mv rfl rfl rfl rfl ?_
 refine g_ (fun _ => fA 5) ?_
 refine g_ (fun _ => lN 3 1) ?_
 refine g_ (fun _ => fA 5) ?_
 refine g_ (fun _ => lN 3 0) ?_
 refine g_ (fun _ => S_eqlAgg rfl (AEv.cd (.tmp rfl)) (AEv.cd (.tmp rfl)) (by kernel_rfl) (EqAV.struct Tryz.underlying48 (by kernel_rfl) (EqFs.flat (by kernel_rfl) (by kernel_rfl) rfl rfl (EqAV.int (k' := .i64) (by kernel_rfl)) (EqFs.flat (by kernel_rfl) (by kernel_rfl) rfl rfl (EqAV.int (k' := .i64) (by kernel_rfl)) (EqFs.flat (by kernel_rfl) (by kernel_rfl) rfl rfl (EqAV.int (k' := .i64) (by kernel_rfl)) EqFs.nil))))) ?_
 refine an ?_
 refine mv rfl rfl rfl rfl ?_
 refine g_ (fun _ => fA 8) ?_
 refine g_ (fun _ => lA 1) ?_
 refine g_ (fun _ => fA 8) ?_
 refine g_ (fun _ => lA 0) ?_
 refine g_ (fun _ => S_pcall rfl (AEvs.cons (AEv.cd (.tmp rfl)) (AEvs.cons (AEv.cd (.tmp rfl)) AEvs.nil)) (slices_EqualI_ok a.ports b.ports ha hb)) ?_
 refine an ?_
 refine mv rfl rfl rfl rfl ?_
 refine g_ (fun _ => fA 9) ?_
 refine g_ (fun _ => lN 2 1) ?_
 refine g_ (fun _ => fA 9) ?_
 refine g_ (fun _ => lN 2 0) ?_
 refine g_ (fun _ => S_eqlAgg rfl (AEv.cd (.tmp rfl)) (AEv.cd (.tmp rfl)) (by kernel_rfl) (EqAV.struct Tryz.underlying50 (by kernel_rfl) (EqFs.flat (by kernel_rfl) (by kernel_rfl) rfl rfl (EqAV.int (k' := .i64) (by kernel_rfl)) (EqFs.flat (by kernel_rfl) (by kernel_rfl) rfl rfl (EqAV.int (k' := .i64) (by kernel_rfl)) EqFs.nil)))) ?_
 refine an ?_
 refine as_ rfl rfl rfl rfl ?_
 refine AL_nil (AC_ret ?_)
 refine ret_tmp st rfl rfl (Sub.l (List.Sublist.cons _ (List.Sublist.cons _ (List.Sublist.refl _)))) (Conv.refl (Sub.l (List.Sublist.cons _ (List.Sublist.cons _ (List.Sublist.refl _)))) _) ⟨congrArg AV.bool (by rw [res_eqB, res_eqB, probe_eqB, sameL_eq]; simp only [alikeC, Bool.and_assoc]), rfl⟩ (.inl rfl)
theorem spec_exact_ok (a b : Ctr) (ha : a.ports.length ≤ 1000000) (hb : b.ports.length ≤ 1000000) : PCalls Tryz.prog 48 [ctrAV a, ctrAV b] (.bool (exactC a b)) := by
 intro st
 refine co 15 Tryz.func48 ?_
 refine AC_seq (AC_region ?_)
 refine s_ (S_box rfl (.tmp rfl)) ?_
 rintro _ _ ⟨b1, rfl, rfl⟩
 refine s_ (S_box rfl (.tmp rfl)) ?_
 rintro _ _ ⟨b2, rfl, rfl⟩
 refine ac rfl rfl rfl ?_
 refine AL_nil (AC_seq (AC_region ?_))
 refine ldN 11 1 ?_
 refine ldN 11 0 ?_
 refine p_ (S_pcall rfl (AEvs.cons (y := ctrAV a) (.tmp rfl) (AEvs.cons (y := ctrAV b) (.tmp rfl) AEvs.nil)) (spec_alike_ok a b ha hb)) ?_
 refine mv rfl rfl rfl rfl ?_
 refine g_ (fun _ => fA 1) ?_
 refine g_ (fun _ => lA 1) ?_
 refine g_ (fun _ => fA 1) ?_
 refine g_ (fun _ => lA 0) ?_
 refine g_ (fun _ => S_eqS rfl (AEv.cd (.tmp rfl)) (AEv.cd (.tmp rfl))) ?_
 refine an ?_
 refine as_ rfl rfl rfl rfl ?_
 refine AL_nil (AC_ret ?_)
 refine ret_tmp st rfl rfl (Sub.l (List.Sublist.cons _ (List.Sublist.cons _ (List.Sublist.refl _)))) (Conv.refl (Sub.l (List.Sublist.cons _ (List.Sublist.cons _ (List.Sublist.refl _)))) _) ⟨rfl, rfl⟩ (.inl rfl)
theorem slices_EqualFunc_ok (l m : List Ctr) (hl : l.length ≤ 1000000) (hm : m.length ≤ 1000000) (hlp : ∀ c ∈ l, c.ports.length ≤ 1000000) (hmp : ∀ c ∈ m, c.ports.length ≤ 1000000) : PCalls Tryz.prog 75 [.sl (ctrsV l), .sl (ctrsV m), .fn 48 []] (.bool (sameL exactC l m)) := by
 intro st
 refine co 32 Tryz.func75 ?_
 refine AC_seq (AC_region ?_)
 refine ac rfl rfl rfl ?_
 refine AL_nil ?_
 refine AC_seq ?_
 refine AC_seq (AC_region ?_)
 refine mv rfl rfl rfl rfl ?_
 refine p_ (by first | exact S_lenM (e := 52) rfl (.tmp rfl) (by kernel_rfl) | exact S_len (e := 52) rfl (.tmp rfl) (by kernel_rfl)) ?_
 refine mv rfl rfl rfl rfl ?_
 refine p_ (by first | exact S_lenM (e := 52) rfl (.tmp rfl) (by kernel_rfl) | exact S_len (e := 52) rfl (.tmp rfl) (by kernel_rfl)) ?_
 refine p_ (S_neq rfl (.tmp rfl) (.tmp rfl)) ?_
 refine AL_nil ?_
 refine AC_cond (.tmp rfl) (fun hb1 => ?_) (fun hb1 => ?_)
 ·try simp only [zA,zO,zN,zM,zP,zQ,zD,zF,gd] at hb1
  have hbad : sameL exactC l m = false := sameL_len (by omega)
  refine AC_seq (AC_region ?_)
  refine ac rfl rfl rfl ?_
  refine AL_nil (AC_ret ?_)
  refine ret_tmp st rfl rfl (Sub.l (List.Sublist.refl _)) (Conv.refl (Sub.l (List.Sublist.refl _)) _) ⟨by rw [hbad], rfl⟩ (.inl rfl)
 try simp only [zA,zO,zN,zM,zP,zQ,zD,zF,gd] at hb1
 have hlen : l.length = m.length := by omega
 refine AC_skip ?_
 refine AC_seq ?_
 refine AC_seq (AC_region ?_)
 refine mv rfl rfl rfl rfl ?_
 refine p_ (by first | exact S_lenM (e := 52) rfl (.tmp rfl) (by kernel_rfl) | exact S_len (e := 52) rfl (.tmp rfl) (by kernel_rfl)) ?_
 refine p_ (S_move rfl (AEv.const _)) ?_
 refine AL_nil ?_
 refine AC_block ?_
 refine AC_loopK (G := Nat) [(1, _), (2, _), (15, _), (16, _)] (fun i => i ≤ l.length ∧ ∀ j (h1 : j < l.length) (h2 : j < m.length), j < i → exactC (l[j]'h1) (m[j]'h2) = true) (fun g => [(17, .int .i64 (g : Int))]) (fun g => st) (fun g => l.length - g) (0) (⟨Nat.zero_le _, fun j _ _ h => absurd h (Nat.not_lt_zero _)⟩) (Sub.l (List.Sublist.refl _)) (.cons rfl (Le.refl _) (.cons rfl (Le.refl _) (.cons rfl (Le.refl _) (.cons rfl (Le.refl _) .nil)))) (.cons rfl (by first | exact Le.refl _ | exact Le.nils | exact Le.row _ _ _ _ | exact Le.of_eq (by first | rfl | (simp; done) | (push_cast; rfl) | (simp; omega))) .nil) ?_
 rintro i ⟨hi, hall⟩
 try dsimp only
 simp only [List.cons_append, List.nil_append]
 refine AC_seq (AC_region ?_)
 refine p_ (S_lss rfl (.tmp rfl) (.tmp rfl)) ?_
 refine AL_nil ?_
 refine AC_seq ?_
 refine AC_cond (.tmp rfl) (fun hb2 => ?_) (fun hb2 => ?_)
 ·try simp only [zA,zO,zN,zM,zP,zQ,zD,zF,gd] at hb2
  have hil : i < l.length := by omega
  have him : i < m.length := by omega
  refine AC_skip ?_
  refine AC_seq ?_
  refine AC_block ?_
  refine AC_seq (AC_region ?_)
  refine mv rfl rfl rfl rfl ?_
  refine p_ (S_elemN (e := 52) 11 rfl (.tmp rfl) (.tmp rfl) (by kernel_rfl) (by kernel_rfl) (by omega) (fun _ => rfl)) ?_
  refine p_ (S_loadPN (m := 11) rfl (.tmp rfl) (by kernel_rfl) (by first | exact Nat.le_of_ble_eq_true rfl | (simp; omega) | simp)) ?_
  refine s_ (S_alloc [.string ⟨#[]⟩, .string ⟨#[]⟩, .int .i64 0, .int .i64 0, .int .i64 0, .int .i64 0, .int .i64 0, .int .i64 0, .slice none 0 0, .int .i64 0, .int .i64 0] rfl (by kernel_rfl)) ?_
  rintro _ _ ⟨b8, rfl, rfl⟩
  refine as_ rfl rfl rfl rfl ?_
  refine stW 0 ?_
  refine AL_nil (AC_seq (AC_region ?_))
  refine mv rfl rfl rfl rfl ?_
  refine mv rfl rfl rfl rfl ?_
  refine p_ (S_elemN (e := 52) 11 rfl (.tmp rfl) (.tmp rfl) (by kernel_rfl) (by kernel_rfl) (by omega) (fun _ => rfl)) ?_
  refine p_ (S_loadPN (m := 11) rfl (.tmp rfl) (by kernel_rfl) (by first | exact Nat.le_of_ble_eq_true rfl | (simp; omega) | simp)) ?_
  refine s_ (S_alloc [.string ⟨#[]⟩, .string ⟨#[]⟩, .int .i64 0, .int .i64 0, .int .i64 0, .int .i64 0, .int .i64 0, .int .i64 0, .slice none 0 0, .int .i64 0, .int .i64 0] rfl (by kernel_rfl)) ?_
  rintro _ _ ⟨b9, rfl, rfl⟩
  refine stW 0 ?_
  refine AL_nil (AC_seq (AC_region ?_))
  refine mv rfl rfl rfl rfl ?_
  refine ldN 11 1 ?_
  refine ldN 11 0 ?_
  refine s_ (S_callF (caps := []) rfl (.tmp rfl) (AEvs.cons (y := ctrAV (l[i]'hil)) (.tmp rfl) (AEvs.cons (y := ctrAV (m[i]'him)) (.tmp rfl) AEvs.nil)) (spec_exact_ok (l[i]'hil) (m[i]'him) (hlp _ (List.getElem_mem _)) (hmp _ (List.getElem_mem _)) _)) ?_
  rintro _ _ ⟨rfl, rfl⟩
  refine p_ (S_not rfl (.tmp rfl)) ?_
  refine AL_nil ?_
  refine AC_cond (.tmp rfl) (fun hb5 => ?_) (fun hb5 => ?_)
  ·try simp only [zA,zO,zN,zM,zP,zQ,zD,zF,gd] at hb5
   have hbad : sameL exactC l m = false := sameL_bad hil him hb5
   refine AC_seq (AC_region ?_)
   refine ac rfl rfl rfl ?_
   refine AL_nil (AC_ret ?_)
   refine ret_tmp st rfl rfl (Sub.l (List.Sublist.cons _ (List.Sublist.cons _ (List.Sublist.refl _)))) (Conv.refl (Sub.l (List.Sublist.cons _ (List.Sublist.cons _ (List.Sublist.refl _)))) _) ⟨by rw [hbad], rfl⟩ (.inl rfl)
  try simp only [zA,zO,zN,zM,zP,zQ,zD,zF,gd] at hb5
  have hne : exactC (l[i]'hil) (m[i]'him) = true := hb5
  refine AC_skip ?_
  refine AC_region ?_
  refine p_ (S_addI rfl (.tmp rfl) (AEv.const _) (by omega) (by omega)) ?_
  refine mv rfl rfl rfl rfl ?_
  refine AL_nil ?_
  refine ⟨i + 1, ⟨by omega, fun j h1 h2 h => ?_⟩, by omega, (Sub.l (List.Sublist.cons _ (List.Sublist.cons _ (List.Sublist.refl _)))), (.cons rfl (by first | exact Le.refl _ | exact Le.nils | exact Le.row _ _ _ _ | exact Le.of_eq (by first | rfl | (simp; done) | (push_cast; rfl) | (simp; omega))) .nil), (.cons rfl (Le.refl _) (.cons rfl (Le.refl _) (.cons rfl (Le.refl _) (.cons rfl (Le.refl _) .nil))))⟩
  rcases Nat.lt_or_ge j i with h' | h'
  ·exact hall j h1 h2 h'
  ·have : j = i := by omega
   subst this
   exact hne
 try simp only [zA,zO,zN,zM,zP,zQ,zD,zF,gd] at hb2
 have hgood : sameL exactC l m = true := sameL_all hlen fun j h1 h2 => hall j h1 h2 (by omega)
 refine AC_exit ?_
 refine AC_seq (AC_region ?_)
 refine ac rfl rfl rfl ?_
 refine AL_nil (AC_ret ?_)
 refine ret_tmp st rfl rfl (Sub.l (List.Sublist.refl _)) (Conv.refl (Sub.l (List.Sublist.refl _)) _) ⟨by rw [hgood], rfl⟩ (.inl rfl)
theorem spec_each_ok (l m : List Ctr) (hl : l.length ≤ 1000000) (hm : m.length ≤ 1000000) (hlp : ∀ c ∈ l, c.ports.length ≤ 1000000) (hmp : ∀ c ∈ m, c.ports.length ≤ 1000000) : PCalls Tryz.prog 47 [.sl (ctrsV l), .sl (ctrsV m), .fn 48 []] (.bool (sameL exactC l m)) := by
 intro st
 refine co 11 Tryz.func47 ?_
 refine AC_seq (AC_region ?_)
 refine ac rfl rfl rfl ?_
 refine AL_nil (AC_seq (AC_region ?_))
 refine mv rfl rfl rfl rfl ?_
 refine mv rfl rfl rfl rfl ?_
 refine mv rfl rfl rfl rfl ?_
 refine p_ (S_pcall rfl (AEvs.cons (.tmp rfl) (AEvs.cons (.tmp rfl) (AEvs.cons (.tmp rfl) AEvs.nil))) (slices_EqualFunc_ok _ _ (by omega) (by omega) (by assumption) (by assumption))) ?_
 refine as_ rfl rfl rfl rfl ?_
 refine AL_nil (AC_ret ?_)
 refine ret_tmp st rfl rfl (Sub.l (List.Sublist.refl _)) (Conv.refl (Sub.l (List.Sublist.refl _)) _) ⟨rfl, rfl⟩ (.inl rfl)
theorem spec_Frozen_ok (a b : Spc) (h1 : a.init.length ≤ 1000000) (h2 : b.init.length ≤ 1000000) (h3 : a.main.length ≤ 1000000) (h4 : b.main.length ≤ 1000000) (hp : ∀ s : Spc, s = a ∨ s = b → (∀ c ∈ s.init, c.ports.length ≤ 1000000) ∧ ∀ c ∈ s.main, c.ports.length ≤ 1000000 ∧ c.image.length ≤ 1000000) : GCalls Tryz.prog tabs 24 [spcAV a, spcAV b] (erV 33 116 (frozenE a b)) := by
 intro st hG
 refine co 80 Tryz.func24 ?_
 obtain ⟨pa1, pa2⟩ := hp a (.inl rfl)
 obtain ⟨pb1, pb2⟩ := hp b (.inr rfl)
 refine AC_seq (AC_region ?_)
 refine s_ (S_box rfl (.tmp rfl)) ?_
 rintro _ _ ⟨b2, rfl, rfl⟩
 refine s_ (S_box rfl (.tmp rfl)) ?_
 rintro _ _ ⟨b3, rfl, rfl⟩
 refine ac rfl rfl rfl ?_
 refine AL_nil ?_
 refine AC_seq ?_
 refine AC_block ?_
 refine AC_seq (AC_region ?_)
 refine fl 0 ?_
 refine ld 1 ?_
 refine fl 0 ?_
 refine ld 0 ?_
 refine p_ (S_neS rfl (.tmp rfl) (.tmp rfl)) ?_
 refine as_ rfl rfl rfl rfl ?_
 refine AL_nil ?_
 refine AC_cond (.tmp rfl) (fun hb3 => ?_) (fun hb3 => ?_)
 ·try simp only [zA,zO,zN,zM,zP,zQ,zD,zF,gd] at hb3
  have hne : a.name ≠ b.name := by simpa using hb3
  refine AC_seq (AC_region ?_)
  refine p_ (S_buildSlice (e := 9) 1 rfl (AEvs.cons (AEv.S _) AEvs.nil) rfl (by kernel_rfl) (by kernel_rfl) (by intro y hy; simp only [List.mem_cons, List.not_mem_nil, or_false] at hy; rcases hy with rfl <;> exact ⟨rfl, rfl⟩) (by decide) (by decide) (by decide)) ?_
  refine p_ (S_pcall rfl (AEvs.cons (AEv.const _) (AEvs.cons (.tmp rfl) AEvs.nil)) (fail_New_ok 4 [nameN] (by simp))) ?_
  refine as_ rfl rfl rfl rfl ?_
  refine AL_nil (AC_ret ?_)
  refine ret_tmp st rfl rfl (Sub.l (List.Sublist.cons _ (List.Sublist.cons _ (List.Sublist.refl _)))) (Conv.refl (Sub.l (List.Sublist.cons _ (List.Sublist.cons _ (List.Sublist.refl _)))) _) ⟨by rw [frozenE, if_pos hne]; rfl, rfl⟩ (.inl rfl)
 try simp only [zA,zO,zN,zM,zP,zQ,zD,zF,gd] at hb3
 have hnm : a.name = b.name := by simpa using hb3
 refine AC_seq (AC_region ?_)
 refine fl 2 ?_
 refine ld 1 ?_
 refine fl 2 ?_
 refine ld 0 ?_
 refine p_ (S_pcall rfl (AEvs.cons (.tmp rfl) (AEvs.cons (.tmp rfl) (AEvs.cons (AEv.func _) AEvs.nil))) (spec_each_ok _ _ (by omega) (by omega) (by assumption) (by assumption))) ?_
 refine p_ (S_not rfl (.tmp rfl)) ?_
 refine as_ rfl rfl rfl rfl ?_
 refine AL_nil ?_
 refine AC_cond (.tmp rfl) (fun hb4 => ?_) (fun hb4 => ?_)
 ·try simp only [zA,zO,zN,zM,zP,zQ,zD,zF,gd] at hb4
  have hbi : sameL exactC a.init b.init = false := hb4
  refine AC_seq (AC_region ?_)
  refine p_ (S_buildSlice (e := 9) 1 rfl (AEvs.cons (AEv.S _) AEvs.nil) rfl (by kernel_rfl) (by kernel_rfl) (by intro y hy; simp only [List.mem_cons, List.not_mem_nil, or_false] at hy; rcases hy with rfl <;> exact ⟨rfl, rfl⟩) (by decide) (by decide) (by decide)) ?_
  refine p_ (S_pcall rfl (AEvs.cons (AEv.const _) (AEvs.cons (.tmp rfl) AEvs.nil)) (fail_New_ok 4 [initN] (by simp))) ?_
  refine as_ rfl rfl rfl rfl ?_
  refine AL_nil (AC_ret ?_)
  refine ret_tmp st rfl rfl (Sub.l (List.Sublist.cons _ (List.Sublist.cons _ (List.Sublist.refl _)))) (Conv.refl (Sub.l (List.Sublist.cons _ (List.Sublist.cons _ (List.Sublist.refl _)))) _) ⟨by rw [frozenE, if_neg (fun h => h hnm), if_pos hbi]; rfl, rfl⟩ (.inl rfl)
 try simp only [zA,zO,zN,zM,zP,zQ,zD,zF,gd] at hb4
 have hbi : sameL exactC a.init b.init = true := hb4
 refine AC_seq (AC_region ?_)
 refine fl 3 ?_
 refine ld 1 ?_
 refine p_ (by first | exact S_lenM (e := 52) rfl (.tmp rfl) (by kernel_rfl) | exact S_len (e := 52) rfl (.tmp rfl) (by kernel_rfl)) ?_
 refine fl 3 ?_
 refine ld 0 ?_
 refine p_ (by first | exact S_lenM (e := 52) rfl (.tmp rfl) (by kernel_rfl) | exact S_len (e := 52) rfl (.tmp rfl) (by kernel_rfl)) ?_
 refine p_ (S_neq rfl (.tmp rfl) (.tmp rfl)) ?_
 refine as_ rfl rfl rfl rfl ?_
 refine AL_nil ?_
 refine AC_cond (.tmp rfl) (fun hb5 => ?_) (fun hb5 => ?_)
 ·try simp only [zA,zO,zN,zM,zP,zQ,zD,zF,gd] at hb5
  have hml : a.main.length ≠ b.main.length := by omega
  refine AC_seq (AC_region ?_)
  refine p_ (S_buildSlice (e := 9) 1 rfl (AEvs.cons (AEv.S _) AEvs.nil) rfl (by kernel_rfl) (by kernel_rfl) (by intro y hy; simp only [List.mem_cons, List.not_mem_nil, or_false] at hy; rcases hy with rfl <;> exact ⟨rfl, rfl⟩) (by decide) (by decide) (by decide)) ?_
  refine p_ (S_pcall rfl (AEvs.cons (AEv.const _) (AEvs.cons (.tmp rfl) AEvs.nil)) (fail_New_ok 4 [mainN] (by simp))) ?_
  refine as_ rfl rfl rfl rfl ?_
  refine AL_nil (AC_ret ?_)
  refine ret_tmp st rfl rfl (Sub.l (List.Sublist.cons _ (List.Sublist.cons _ (List.Sublist.refl _)))) (Conv.refl (Sub.l (List.Sublist.cons _ (List.Sublist.cons _ (List.Sublist.refl _)))) _) ⟨by rw [frozenE, if_neg (fun h => h hnm), if_neg (by rw [hbi]; simp), if_pos hml]; rfl, rfl⟩ (.inl rfl)
 try simp only [zA,zO,zN,zM,zP,zQ,zD,zF,gd] at hb5
 have hml : a.main.length = b.main.length := by omega
 have hfe : frozenE a b = eachE a.main.length (frozenAt a.main b.main) := by rw [frozenE, if_neg (fun h => h hnm), if_neg (by rw [hbi]; simp), if_neg (fun h => h hml)]
 refine AC_skip ?_
 refine AC_seq ?_
 refine AC_seq (AC_region ?_)
 refine fl 3 ?_
 refine ld 1 ?_
 refine p_ (by first | exact S_lenM (e := 52) rfl (.tmp rfl) (by kernel_rfl) | exact S_len (e := 52) rfl (.tmp rfl) (by kernel_rfl)) ?_
 refine p_ (S_move rfl (AEv.const _)) ?_
 refine AL_nil ?_
 refine AC_block ?_
 refine AC_loopK (G := Nat) [(3, _), (35, _), (36, _)] (fun g => g ≤ a.main.length ∧ ∀ j, j < g → frozenAt a.main b.main j = none) (fun g => [(37, .int .i64 (g : Int))]) (fun g => (b3, .cells (spcL b)) :: (b2, .cells (spcL a)) :: st) (fun g => a.main.length - g) (0) (⟨Nat.zero_le _, fun j h => absurd h (Nat.not_lt_zero _)⟩) (Sub.l (List.Sublist.refl _)) (.cons rfl (Le.refl _) (.cons rfl (Le.refl _) (.cons rfl (Le.refl _) .nil))) (.cons rfl (by first | exact Le.refl _ | exact Le.nils | exact Le.row _ _ _ _ | exact Le.of_eq (by first | rfl | (simp; done) | (push_cast; rfl) | (simp; omega))) .nil) ?_
 rintro i ⟨hi, hall⟩
 try dsimp only
 simp only [List.cons_append, List.nil_append]
 refine AC_seq (AC_region ?_)
 refine p_ (S_lss rfl (.tmp rfl) (.tmp rfl)) ?_
 refine AL_nil ?_
 refine AC_seq ?_
 refine AC_cond (.tmp rfl) (fun hb6 => ?_) (fun hb6 => ?_)
 ·try simp only [zA,zO,zN,zM,zP,zQ,zD,zF,gd] at hb6
  have hil : i < a.main.length := by omega
  have him : i < b.main.length := by omega
  have hif : fits (i : Int) := by unfold fits; omega
  have hat := frozenAt_at hil him
  refine AC_skip ?_
  refine AC_seq ?_
  refine AC_block ?_
  refine AC_seq (AC_region ?_)
  refine mv rfl rfl rfl rfl ?_
  refine p_ (S_elemN (e := 52) 11 rfl (.tmp rfl) (.tmp rfl) (by kernel_rfl) (by kernel_rfl) (by omega) (fun _ => rfl)) ?_
  refine p_ (S_loadPN (m := 11) rfl (.tmp rfl) (by kernel_rfl) (by first | exact Nat.le_of_ble_eq_true rfl | (simp; omega) | simp)) ?_
  refine s_ (S_alloc [.string ⟨#[]⟩, .string ⟨#[]⟩, .int .i64 0, .int .i64 0, .int .i64 0, .int .i64 0, .int .i64 0, .int .i64 0, .slice none 0 0, .int .i64 0, .int .i64 0] rfl (by kernel_rfl)) ?_
  rintro _ _ ⟨b6, rfl, rfl⟩
  refine as_ rfl rfl rfl rfl ?_
  refine stW 0 ?_
  refine AL_nil ?_
  refine AC_seq ?_
  refine AC_seq ?_
  refine AC_draw (by kernel_rfl) (by kernel_rfl) (.cons rfl (Q_p rfl (S_loadN (m := 11) 0 rfl (.tmp rfl) rfl (by kernel_rfl) (by first | exact Nat.le_of_ble_eq_true rfl | (simp; omega) | simp))) <|
    .cons rfl (Q_p rfl (S_field 3 rfl (.tmp rfl) (by kernel_rfl))) <|
    .cons rfl (Q_p rfl (S_load 1 rfl (.tmp rfl) rfl rfl (by kernel_rfl))) <|
    .cons rfl (Q_p rfl (S_move rfl (.tmp rfl))) <|
    .cons rfl (Q_p rfl (S_elemN (e := 52) 11 rfl (.tmp rfl) (.tmp rfl) (by kernel_rfl) (by kernel_rfl) (by omega) (fun _ => rfl))) <|
    .cons rfl (Q_p rfl (S_loadPN (m := 11) rfl (.tmp rfl) (by kernel_rfl) (by first | exact Nat.le_of_ble_eq_true rfl | (simp; omega) | simp))) <|
    .cons rfl (Q_p rfl (S_pcall rfl (AEvs.cons (y := ctrAV (a.main[i]'hil)) (.tmp rfl) (AEvs.cons (y := ctrAV (b.main[i]'him)) (.tmp rfl) AEvs.nil)) (spec_alike_ok (a.main[i]'hil) (b.main[i]'him) (pa2 _ (List.getElem_mem _)).1 (pb2 _ (List.getElem_mem _)).1))) <|
    .cons rfl (Q_p rfl (S_not rfl (.tmp rfl))) <|
    .nil) ?_
  refine AC_cond (.tmp rfl) (fun hb8 => ?_) (fun hb8 => ?_)
  ·try simp only [zA,zO,zN,zM,zP,zQ,zD,zF,gd] at hb8
   have hend : frozenE a b = some (4, [atT mainN (i : Int)]) := by rw [hfe, eachE_at hil (by rw [hat, if_pos hb8]) hall]
   refine AC_seq (AC_region ?_)
   refine mv rfl rfl rfl rfl ?_
   refine p_ (S_pcall rfl (AEvs.cons (AEv.S _) (AEvs.cons (.tmp rfl) AEvs.nil)) (spec_at_ok mainN (by decide) (i : Int) hif)) ?_
   refine p_ (S_buildSlice (e := 9) 1 rfl (AEvs.cons (.tmp rfl) AEvs.nil) rfl (by kernel_rfl) (by kernel_rfl) (by intro y hy; simp only [List.mem_cons, List.not_mem_nil, or_false] at hy; rcases hy with rfl <;> exact ⟨rfl, rfl⟩) (by decide) (by decide) (by decide)) ?_
   refine p_ (S_pcall rfl (AEvs.cons (AEv.const _) (AEvs.cons (.tmp rfl) AEvs.nil)) (fail_New_ok 4 [atT mainN (i : Int)] (by simp))) ?_
   refine as_ rfl rfl rfl rfl ?_
   refine AL_nil (AC_ret ?_)
   refine ret_tmp st rfl rfl (Sub.l (List.Sublist.cons _ (List.Sublist.cons _ (List.Sublist.cons _ (List.Sublist.refl _))))) (Conv.refl (Sub.l (List.Sublist.cons _ (List.Sublist.cons _ (List.Sublist.cons _ (List.Sublist.refl _))))) _) ⟨by rw [hend]; rfl, rfl⟩ (.inl rfl)
  try simp only [zA,zO,zN,zM,zP,zQ,zD,zF,gd] at hb8
  have hal : ¬ alikeC (a.main[i]'hil) (b.main[i]'him) = false := by rw [hb8]; simp
  refine AC_skip ?_
  refine AC_seq ?_
  refine AC_draw (by kernel_rfl) (by kernel_rfl) (.cons rfl (Q_p rfl (S_field 1 rfl (.tmp rfl) (by kernel_rfl))) <|
    .cons rfl (Q_p rfl (S_load 0 rfl (.tmp rfl) rfl rfl (by kernel_rfl))) <|
    .cons rfl (Q_p rfl (S_field 3 rfl (.tmp rfl) (by kernel_rfl))) <|
    .cons rfl (Q_p rfl (S_load 1 rfl (.tmp rfl) rfl rfl (by kernel_rfl))) <|
    .cons rfl (Q_p rfl (S_move rfl (.tmp rfl))) <|
    .cons rfl (Q_p rfl (S_elemN (e := 52) (f := ctrAV) (l := b.main) 11 rfl (.tmp rfl) (.tmp rfl) (by kernel_rfl) (by kernel_rfl) (by omega) (fun _ => rfl))) <|
    .cons rfl (Q_p rfl (S_fieldP 1 rfl (.tmp rfl) (by kernel_rfl))) <|
    .cons rfl (Q_p rfl (S_loadP rfl (.tmp rfl) rfl (by kernel_rfl))) <|
    .cons rfl (Q_p rfl (S_neS rfl (.tmp rfl) (.tmp rfl))) <|
    .cons rfl (Q_p rfl (S_move rfl (.tmp rfl))) <|
    .cons rfl (Q_g rfl rfl (.tmp rfl) (fun hg9 => S_field 1 rfl (.tmp rfl) (by kernel_rfl))) <|
    .cons rfl (Q_g rfl rfl (.tmp rfl) (fun hg12 => S_load 0 rfl (AEv.cd (.tmp rfl)) rfl rfl (by kernel_rfl))) <|
    .cons rfl (Q_g rfl rfl (.tmp rfl) (fun hg15 => S_field 3 rfl (.tmp rfl) (by kernel_rfl))) <|
    .cons rfl (Q_g rfl rfl (.tmp rfl) (fun hg18 => S_load 1 rfl (AEv.cd (.tmp rfl)) rfl rfl (by kernel_rfl))) <|
    .cons rfl (Q_g rfl rfl (.tmp rfl) (fun hg21 => S_move rfl (.tmp rfl))) <|
    .cons rfl (Q_g rfl rfl (.tmp rfl) (fun hg24 => S_elemN (e := 52) (f := ctrAV) (l := b.main) 11 rfl (AEv.cd (.tmp rfl)) (AEv.cd (.tmp rfl)) (by kernel_rfl) (by kernel_rfl) (by (try simp only [gd, Bool.and_eq_true, Bool.or_eq_true, Bool.not_eq_true', Bool.not_eq_false', decide_eq_true_eq, decide_eq_false_iff_not, Bool.or_eq_false_iff, Bool.and_eq_false_iff] at *); omega) (fun _ => rfl))) <|
    .cons rfl (Q_g rfl rfl (.tmp rfl) (fun hg27 => S_fieldP 1 rfl (AEv.cd (.tmp rfl)) (by kernel_rfl))) <|
    .cons rfl (Q_g rfl rfl (.tmp rfl) (fun hg30 => S_loadP rfl (AEv.cd (.tmp rfl)) rfl (by kernel_rfl))) <|
    .cons rfl (Q_g rfl rfl (.tmp rfl) (fun hg33 => S_gcall rfl (AEvs.cons (AEv.cd (.tmp rfl)) (AEvs.cons (AEv.cd (.tmp rfl)) AEvs.nil)) ((text_Same_ok (a.main[i]'hil).image (b.main[i]'him).image (by have := (pa2 _ (List.getElem_mem hil)).2; omega) (by have := (pb2 _ (List.getElem_mem him)).2; omega)) _ (fun p hp => by first | exact hG p hp | (simp [hG p hp]; done))))) <|
    .cons rfl (Q_g rfl rfl (.tmp rfl) (fun hg36 => S_not rfl (AEv.cd (.tmp rfl)))) <|
    .cons rfl (Q_p rfl (S_and rfl (.tmp rfl) (fun hp39 => (AEv.cd (.tmp rfl))))) <|
    .nil) ?_
  refine AC_cond (.tmp rfl) (fun hb40 => ?_) (fun hb40 => ?_)
  ·try simp only [zA,zO,zN,zM,zP,zQ,zD,zF,gd] at hb40
   have hend : frozenE a b = some (33, [atT mainN (i : Int), [105, 109, 97, 103, 101]]) := by rw [hfe, eachE_at hil (by rw [hat, if_neg hal, if_pos ⟨by simpa using hb40.1, by simpa using hb40.2⟩]) hall]
   refine AC_seq (AC_region ?_)
   refine mv rfl rfl rfl rfl ?_
   refine p_ (S_pcall rfl (AEvs.cons (AEv.S _) (AEvs.cons (.tmp rfl) AEvs.nil)) (spec_at_ok mainN (by decide) (i : Int) hif)) ?_
   refine p_ (S_buildSlice (e := 9) 1 rfl (AEvs.cons (.tmp rfl) (AEvs.cons (AEv.S _) AEvs.nil)) rfl (by kernel_rfl) (by kernel_rfl) (by intro y hy; simp only [List.mem_cons, List.not_mem_nil, or_false] at hy; rcases hy with rfl | rfl <;> exact ⟨rfl, rfl⟩) (by decide) (by decide) (by decide)) ?_
   refine p_ (S_pcall rfl (AEvs.cons (AEv.const _) (AEvs.cons (.tmp rfl) AEvs.nil)) (fail_New_ok 33 [atT mainN (i : Int), [105, 109, 97, 103, 101]] (by simp))) ?_
   refine as_ rfl rfl rfl rfl ?_
   refine AL_nil (AC_ret ?_)
   refine ret_tmp st rfl rfl (Sub.l (List.Sublist.cons _ (List.Sublist.cons _ (List.Sublist.cons _ (List.Sublist.refl _))))) (Conv.refl (Sub.l (List.Sublist.cons _ (List.Sublist.cons _ (List.Sublist.cons _ (List.Sublist.refl _))))) _) ⟨by rw [hend]; rfl, rfl⟩ (.inl rfl)
  try simp only [zA,zO,zN,zM,zP,zQ,zD,zF,gd] at hb40
  have hfa : (frozenAt a.main b.main i) = none := by
   rw [hat, if_neg hal, if_neg]
   rintro ⟨k1, k2⟩
   rcases hb40 with h | h
   ·exact k1 (by simpa using h)
   ·rw [k2] at h; simp at h
  refine AC_skip ?_
  refine AC_region ?_
  refine p_ (S_addI rfl (.tmp rfl) (AEv.const _) (by omega) (by omega)) ?_
  refine mv rfl rfl rfl rfl ?_
  refine AL_nil ?_
  refine ⟨i + 1, ⟨by omega, fun j h => ?_⟩, by omega, (Sub.l (List.Sublist.cons _ (List.Sublist.refl _))), (.cons rfl (by first | exact Le.refl _ | exact Le.nils | exact Le.row _ _ _ _ | exact Le.of_eq (by first | rfl | (simp; done) | (push_cast; rfl) | (simp; omega))) .nil), (.cons rfl (Le.refl _) (.cons rfl (Le.refl _) (.cons rfl (Le.refl _) .nil)))⟩
  rcases Nat.lt_or_ge j i with h' | h'
  ·exact hall j h'
  ·have : j = i := by omega
   subst this
   exact hfa
 try simp only [zA,zO,zN,zM,zP,zQ,zD,zF,gd] at hb6
 have hend : frozenE a b = none := by rw [hfe, eachE_all fun j hj => hall j (by omega)]
 refine AC_exit ?_
 refine AC_seq (AC_region ?_)
 refine ac rfl rfl rfl ?_
 refine AL_nil (AC_ret ?_)
 refine ret_tmp st rfl rfl (Sub.l (List.Sublist.cons _ (List.Sublist.cons _ (List.Sublist.refl _)))) (Conv.refl (Sub.l (List.Sublist.cons _ (List.Sublist.cons _ (List.Sublist.refl _)))) _) ⟨by rw [hend]; rfl, rfl⟩ (.inl rfl)
theorem spec_Ports_ok (s : Spc) (hm : s.main.length ≤ 8) (hp : ∀ c ∈ s.main, c.ports.length ≤ 10) : PCalls Tryz.prog 18 [spcAV s] (.sl (intsV (portsS s))) := by
 intro st
 refine co 19 Tryz.func18 ?_
 refine AC_seq (AC_region ?_)
 refine s_ (S_box rfl (.tmp rfl)) ?_
 rintro _ _ ⟨b1, rfl, rfl⟩
 refine ac rfl rfl rfl ?_
 refine AL_nil (AC_seq (AC_region ?_))
 refine ac rfl rfl rfl ?_
 refine AL_nil ?_
 refine AC_seq ?_
 refine AC_seq (AC_region ?_)
 refine fl 3 ?_
 refine ld 0 ?_
 refine p_ (by first | exact S_lenM (e := 52) rfl (.tmp rfl) (by kernel_rfl) | exact S_len (e := 52) rfl (.tmp rfl) (by kernel_rfl)) ?_
 refine p_ (S_move rfl (AEv.const _)) ?_
 refine AL_nil ?_
 refine AC_block ?_
 refine AC_loopK (G := Nat × Own) [(2, _), (7, _), (8, _)] (fun g => g.1 ≤ s.main.length ∧ g.2.ok (((s.main.take g.1).flatMap Ctr.ports).map (fun n : Int => AV.int .i64 n))) (fun g => [(3, ownAV g.2 1 (((s.main.take g.1).flatMap Ctr.ports).map (fun n : Int => AV.int .i64 n))), (9, .int .i64 (g.1 : Int))]) (fun g => (b1, .cells (spcL s)) :: (ownSt g.2 3 1 (((s.main.take g.1).flatMap Ctr.ports).map (fun n : Int => AV.int .i64 n)) ++ st)) (fun g => s.main.length - g.1) ((0, .nil)) (⟨Nat.zero_le _, by simp [Own.ok]⟩) (Sub.l (List.Sublist.refl _)) (.cons rfl (Le.refl _) (.cons rfl (Le.refl _) (.cons rfl (Le.refl _) .nil))) (.cons rfl (by first | exact Le.refl _ | exact Le.nils | exact Le.row _ _ _ _ | exact Le.of_eq (by first | rfl | (simp; done) | (push_cast; rfl) | (simp; omega))) (.cons rfl (by first | exact Le.refl _ | exact Le.nils | exact Le.row _ _ _ _ | exact Le.of_eq (by first | rfl | (simp; done) | (push_cast; rfl) | (simp; omega))) .nil)) ?_
 rintro ⟨i, p⟩ ⟨hi, hq⟩
 try dsimp only
 simp only [List.cons_append, List.nil_append]
 dsimp only at hi hq
 refine AC_seq (AC_region ?_)
 refine p_ (S_lss rfl (.tmp rfl) (.tmp rfl)) ?_
 refine AL_nil ?_
 refine AC_seq ?_
 refine AC_cond (.tmp rfl) (fun hb2 => ?_) (fun hb2 => ?_)
 ·try simp only [zA,zO,zN,zM,zP,zQ,zD,zF,gd] at hb2
  have hil : i < s.main.length := by omega
  have hpl := hp _ (List.getElem_mem hil)
  have hfl := flat_le (l := s.main.take i) fun c h => hp c (List.mem_of_mem_take h)
  have htl : (s.main.take i).length = i := by rw [List.length_take]; omega
  refine AC_skip ?_
  refine AC_seq ?_
  refine AC_block ?_
  refine AC_seq (AC_region ?_)
  refine p_ (S_elemN (e := 52) 11 rfl (.tmp rfl) (.tmp rfl) (by kernel_rfl) (by kernel_rfl) (by omega) (fun _ => rfl)) ?_
  refine p_ (S_loadPN (m := 11) rfl (.tmp rfl) (by kernel_rfl) (by first | exact Nat.le_of_ble_eq_true rfl | (simp; omega) | simp)) ?_
  refine s_ (S_alloc [.string ⟨#[]⟩, .string ⟨#[]⟩, .int .i64 0, .int .i64 0, .int .i64 0, .int .i64 0, .int .i64 0, .int .i64 0, .slice none 0 0, .int .i64 0, .int .i64 0] rfl (by kernel_rfl)) ?_
  rintro _ _ ⟨b5, rfl, rfl⟩
  refine stW 0 ?_
  refine AL_nil ?_
  refine AC_region ?_
  refine mv rfl rfl rfl rfl ?_
  refine fl 8 ?_
  refine ld 0 ?_
  refine s_ (S_appendAny (f := (fun n : Int => AV.int .i64 n)) (l := (s.main.take i).flatMap Ctr.ports) (l2 := (s.main[i]'hil).ports) (e := 3) (size := 1) (bytes := 8) (p := p) ([_, _]) (st) rfl (.tmp rfl) (.tmp rfl) rfl hq (by kernel_rfl) (fun _ => ⟨rfl, rfl⟩) (by omega) (by omega)) ?_
  rintro _ _ ⟨q8, hx, rfl, rfl⟩
  refine as_ rfl rfl rfl rfl ?_
  refine AL_nil ?_
  refine AC_region ?_
  refine p_ (S_addI rfl (.tmp rfl) (AEv.const _) (by omega) (by omega)) ?_
  refine mv rfl rfl rfl rfl ?_
  refine AL_nil ?_
  rw [flat_snoc hil] at hx ⊢
  exact ⟨(i + 1, q8), ⟨by dsimp only; omega, hx⟩, by dsimp only; omega, (Sub.l (List.Sublist.cons _ (List.Sublist.refl _))), (.cons rfl (by first | exact Le.refl _ | exact Le.nils | exact Le.row _ _ _ _ | exact Le.of_eq (by first | rfl | (simp; done) | (push_cast; rfl) | (simp; omega))) (.cons rfl (by first | exact Le.refl _ | exact Le.nils | exact Le.row _ _ _ _ | exact Le.of_eq (by first | rfl | (simp; done) | (push_cast; rfl) | (simp; omega))) .nil)), (.cons rfl (Le.refl _) (.cons rfl (Le.refl _) (.cons rfl (Le.refl _) .nil)))⟩
 try simp only [zA,zO,zN,zM,zP,zQ,zD,zF,gd] at hb2
 obtain rfl : i = s.main.length := by omega
 refine AC_exit ?_
 refine AC_seq (AC_region ?_)
 refine mv rfl rfl rfl rfl ?_
 refine as_ rfl rfl rfl rfl ?_
 refine AL_nil (AC_ret ?_)
 refine ret_tmp st rfl rfl (Sub.l (List.Sublist.cons _ (List.sublist_append_right _ _))) (Conv.le (Sub.l (List.Sublist.cons _ (List.sublist_append_right _ _))) (Le_own hq)) ⟨by rw [List.take_length]; rfl, rfl⟩ (.inl rfl)
end Go.Proofs.YtfdcadnaginnpaaGreatDoor

set_option maxRecDepth 100000
namespace Go.Proofs.YtfdcadnaginnpaaGreatDoor
open Go.AL Go.NumSpec
theorem law_plain (st : St) : ACalls Tryz.prog 26 [] st (fun x st' => ∃ b, x = .agg [.S [119, 101, 98], .nils, .nils, .lit (.slice (some ⟨b, 0, none⟩) 2 2), .int .i64 3, .int .i64 0, .int .i64 0] ∧ st' = (b, .cells ([ctrAV ctrA6, ctrAV (ctrB6 [98])].flatMap AV.cells)) :: st) := by
 refine co 6 Tryz.func26 ?_
 refine AC_seq (AC_region ?_)
 refine s_ (S_alloc [.string ⟨#[]⟩, .slice none 0 0, .slice none 0 0, .slice none 0 0, .int .i64 0, .int .i64 0, .int .i64 0] rfl (by kernel_rfl)) ?_
 rintro _ _ ⟨b0, rfl, rfl⟩
 refine AL_nil (AC_seq (AC_region ?_))
 refine p_ (S_build (t := 52) (pl := [(0, 1), (1, 1), (2, 3), (5, 3), (8, 1), (9, 2)]) (zs := [.string ⟨#[]⟩, .string ⟨#[]⟩, .int .i64 0, .int .i64 0, .int .i64 0, .int .i64 0, .int .i64 0, .int .i64 0, .slice none 0 0, .int .i64 0, .int .i64 0]) rfl (AEvs.cons (AEv.S _) (AEvs.cons (AEv.S _) AEvs.nil)) (by kernel_rfl) rfl) ?_
 refine p_ (S_buildSlice (e := 3) 1 rfl (AEvs.cons (AEv.const _) AEvs.nil) rfl (by kernel_rfl) (by kernel_rfl) (by intro y hy; simp only [List.mem_cons, List.not_mem_nil, or_false] at hy; rcases hy with rfl <;> exact ⟨rfl, rfl⟩) (by decide) (by decide) (by decide)) ?_
 refine p_ (S_build (t := 52) (pl := [(0, 1), (1, 1), (2, 3), (5, 3), (8, 1), (9, 2)]) (zs := [.string ⟨#[]⟩, .string ⟨#[]⟩, .int .i64 0, .int .i64 0, .int .i64 0, .int .i64 0, .int .i64 0, .int .i64 0, .slice none 0 0, .int .i64 0, .int .i64 0]) rfl (AEvs.cons (AEv.S _) (AEvs.cons (AEv.S _) (AEvs.cons (.tmp rfl) AEvs.nil))) (by kernel_rfl) rfl) ?_
 refine s_ (S_buildV (e := 52) (ys := [ctrAV ctrA6, ctrAV (ctrB6 [98])]) 11 rfl (AEvs.cons ((AEv.tmp rfl).le (Les.agg (.cons (Le.refl _) (.cons (Le.refl _) (.cons (Le.refl _) (.cons (Le.refl _) (.cons (Le.refl _) (.cons (Le.refl _) (.cons (Le.refl _) (.cons (Le.refl _) (.cons Le.nils (.cons (Le.refl _) (.cons (Le.refl _) .nil))))))))))))) (AEvs.cons (.tmp rfl) AEvs.nil)) rfl (by kernel_rfl) (by kernel_rfl) (by intro y hy; simp only [List.mem_cons, List.not_mem_nil, or_false] at hy; rcases hy with rfl | rfl <;> exact ⟨rfl, rfl⟩) (by decide) (by decide) (by decide)) ?_
 rintro _ _ ⟨b9, rfl, rfl⟩
 refine p_ (S_build (t := 25) (pl := [(0, 1), (1, 1), (2, 1), (3, 1), (4, 1), (5, 1), (6, 1)]) (zs := [.string ⟨#[]⟩, .slice none 0 0, .slice none 0 0, .slice none 0 0, .int .i64 0, .int .i64 0, .int .i64 0]) rfl (AEvs.cons (AEv.S _) (AEvs.cons (.tmp rfl) (AEvs.cons (AEv.const _) AEvs.nil))) (by kernel_rfl) rfl) ?_
 refine stW 1 ?_
 refine AL_nil (AC_ret ?_)
 refine ret_cell (y := .agg [.S [119, 101, 98], .nils, .nils, .lit (.slice (some ⟨b9, 0, none⟩) 2 2), .int .i64 3, .int .i64 0, .int .i64 0]) 1 ((b9, .cells ([ctrAV ctrA6, ctrAV (ctrB6 [98])].flatMap AV.cells)) :: st) rfl rfl rfl (by kernel_rfl) (Sub.l (List.Sublist.cons_cons _ (List.Sublist.cons _ (List.Sublist.refl _)))) (Conv.refl (Sub.l (List.Sublist.cons_cons _ (List.Sublist.cons _ (List.Sublist.refl _)))) _) ⟨b9, rfl, rfl⟩ (.inl rfl)
set_option maxHeartbeats 1000000 in
theorem law_works : GCalls Tryz.prog tabs 8 [] (.bool true) := by
 intro st hG
 refine co 37 Tryz.func8 ?_
 refine AC_seq (AC_region ?_)
 refine ac rfl rfl rfl ?_
 refine AL_nil (AC_seq (AC_region ?_))
 refine s_ (S_call rfl AEvs.nil (law_plain _)) ?_
 rintro _ _ ⟨b9, rfl, rfl⟩
 refine s_ (S_alloc [.string ⟨#[]⟩, .slice none 0 0, .slice none 0 0, .slice none 0 0, .int .i64 0, .int .i64 0, .int .i64 0] rfl (by kernel_rfl)) ?_
 rintro _ _ ⟨b1, rfl, rfl⟩
 refine stW 0 ?_
 refine AL_nil (AC_seq (AC_region ?_))
 refine ldN 7 0 ?_
 refine p_ (S_gcallB (gs := tabs) (fun p hp => List.mem_cons_of_mem _ (List.mem_cons_of_mem _ (hG p hp))) (by decide) rfl (AEvs.cons (.tmp rfl) AEvs.nil) (args := [spcAV (plain6 [98])]) (.cons (LendsG.agg (.cons (Conv.mut (MutLe.memb (fun p hp => List.mem_cons_of_mem _ (List.mem_cons_of_mem _ (hG p hp)))) (Le.refl _)) (.cons (Conv.mut (MutLe.memb (fun p hp => List.mem_cons_of_mem _ (List.mem_cons_of_mem _ (hG p hp)))) Le.nils) (.cons (Conv.mut (MutLe.memb (fun p hp => List.mem_cons_of_mem _ (List.mem_cons_of_mem _ (hG p hp)))) Le.nils) (.cons (Conv.nd fun hnd => (Conv.vecM (q := .at b9 2) (size := 11) (xs := [ctrAV ctrA6, ctrAV (ctrB6 [98])]) (MutLe.memb (fun p hp => List.mem_cons_of_mem _ (List.mem_cons_of_mem _ (hG p hp)))) (Nat.le_refl 2) (fun x hx => by simp only [List.mem_cons, List.not_mem_nil, or_false] at hx; rcases hx with rfl | rfl <;> rfl) (fun p hp => by obtain rfl := List.mem_singleton.1 hp; exact List.mem_cons_of_mem _ List.mem_cons_self) (fun b cap hb => by cases hb; exact not_table hnd (fun p hp => List.mem_cons_of_mem _ (List.mem_cons_of_mem _ (hG p hp))) (cs := ([ctrAV ctrA6, ctrAV (ctrB6 [98])].flatMap AV.cells)) (List.mem_cons_of_mem _ List.mem_cons_self)))) (.cons (Conv.mut (MutLe.memb (fun p hp => List.mem_cons_of_mem _ (List.mem_cons_of_mem _ (hG p hp)))) (Le.refl _)) (.cons (Conv.mut (MutLe.memb (fun p hp => List.mem_cons_of_mem _ (List.mem_cons_of_mem _ (hG p hp)))) (Le.refl _)) (.cons (Conv.mut (MutLe.memb (fun p hp => List.mem_cons_of_mem _ (List.mem_cons_of_mem _ (hG p hp)))) (Le.refl _)) .nil)))))))) .nil) (v := .nilIface) (spec_Check_ok (plain6 [98]) (by decide +kernel))) ?_
 refine as_ rfl rfl rfl rfl ?_
 refine AL_nil (AC_seq (AC_region ?_))
 refine fl 3 ?_
 refine ld 0 ?_
 refine p_ (S_elemO (e := 52) 11 rfl (.tmp rfl) (AEv.const _) (by kernel_rfl) (by kernel_rfl) (by omega) (by omega)) ?_
 refine fl 0 ?_
 refine s_ (S_store 1 rfl (.tmp rfl) (AEv.S _) rfl (by decide) rfl (by kernel_rfl)) ?_
 rintro _ _ ⟨rfl, rfl⟩
 refine AL_nil ?_
 refine AC_seq ?_
 refine AC_conv (st' := (b1, .cells (spcL (plain6 [65]))) :: st) (env' := [(1, .ptr b1 0), (2, .nili)]) (StConv.cellsL (.cons (Conv.mut (MutLe.cells (MutLe.drop (MutLe.refl _))) (Le.refl _)) (.cons (Conv.mut (MutLe.cells (MutLe.drop (MutLe.refl _))) Le.nils) (.cons (Conv.mut (MutLe.cells (MutLe.drop (MutLe.refl _))) Le.nils) (.cons (Conv.nd fun hnd => (Conv.vecM (q := .at b9 2) (size := 11) (xs := [ctrAV ctrA6, ctrAV (ctrB6 [65])]) (MutLe.cells (MutLe.drop (MutLe.refl _))) (Nat.le_refl 2) (fun x hx => by simp only [List.mem_cons, List.not_mem_nil, or_false] at hx; rcases hx with rfl | rfl <;> rfl) (fun p hp => by obtain rfl := List.mem_singleton.1 hp; exact List.mem_cons_of_mem _ List.mem_cons_self) (fun b cap hb => by cases hb; exact (fun o ho => by
   simp only [List.set_cons_zero, List.set_cons_succ, List.map_cons, List.nodup_cons, List.mem_cons] at hnd
   rcases List.mem_cons.1 ho with h | h
   ·cases h; exact hnd.1 (.inl rfl)
   ·exact hnd.2.1 (List.mem_map_of_mem (f := Prod.fst) h))))) (.cons (Conv.mut (MutLe.cells (MutLe.drop (MutLe.refl _))) (Le.refl _)) (.cons (Conv.mut (MutLe.cells (MutLe.drop (MutLe.refl _))) (Le.refl _)) (.cons (Conv.mut (MutLe.cells (MutLe.drop (MutLe.refl _))) (Le.refl _)) .nil))))))) (.drop (.rest _ (fun c => Conv.mut (MutLe.cells (MutLe.drop (MutLe.refl _))) (Le.refl c))))) (.cons rfl (Conv.lits _) (.cons rfl (Conv.lits _) .nil)) ?_
 refine AC_region ?_
 refine ldN 7 0 ?_
 refine p_ (S_gcall rfl (AEvs.cons (y := spcAV (plain6 [65])) (.tmp rfl) AEvs.nil) ((spec_Check_ok (plain6 [65]) (by decide +kernel)) _ (fun p hp => by first | exact hG p hp | (simp [hG p hp]; done)))) ?_
 refine as_ rfl rfl rfl rfl ?_
 refine AL_nil (AC_seq (AC_region ?_))
 refine mv rfl rfl rfl rfl ?_
 refine p_ (S_eqlE (show ErrIs .nili true from rfl) rfl (.tmp rfl) (by kernel_rfl)) ?_
 refine mv rfl rfl rfl rfl ?_
 refine g_ (fun _ => mA) ?_
 refine g_ (fun _ => S_gcall rfl (AEvs.cons (AEv.cd (.tmp rfl)) AEvs.nil) ((fail_Text_ok (checkE (plain6 [65])) (by decide +kernel) (by decide +kernel)) _ (fun p hp => by first | exact hG p hp | (simp [hG p hp]; done)))) ?_
 refine g_ (fun _ => S_eqS rfl (AEv.cd (.tmp rfl)) (AEv.S _)) ?_
 refine an ?_
 refine mv rfl rfl rfl rfl ?_
 refine g_ (fun _ => mA) ?_
 refine g_ (fun _ => S_gcall rfl (AEvs.cons (AEv.cd (.tmp rfl)) AEvs.nil) ((fail_Code_ok (checkE (plain6 [65]))) _ (fun p hp => by first | exact hG p hp | (simp [hG p hp]; done)))) ?_
 refine g_ (fun _ => S_eql rfl (AEv.cd (.tmp rfl)) (AEv.const _)) ?_
 refine an ?_
 refine mv rfl rfl rfl rfl ?_
 refine g_ (fun _ => S_loadN (m := 7) 0 rfl (.tmp rfl) rfl (by kernel_rfl) (by first | exact Nat.le_of_ble_eq_true rfl | (simp; omega) | simp)) ?_
 refine g_ (fun _ => S_pcall rfl (AEvs.cons (y := spcAV (plain6 [65])) (AEv.cd (.tmp rfl)) AEvs.nil) (spec_Ports_ok (plain6 [65]) (by decide) (by decide))) ?_
 refine g_ (fun _ => by first | exact S_lenM (e := 3) rfl (AEv.cd (.tmp rfl)) (by kernel_rfl) | exact S_len (e := 3) rfl (AEv.cd (.tmp rfl)) (by kernel_rfl)) ?_
 refine g_ (fun _ => S_eql rfl (AEv.cd (.tmp rfl)) (AEv.const _)) ?_
 refine an ?_
 refine mv rfl rfl rfl rfl ?_
 refine g_ (fun _ => S_loadN (m := 7) 0 rfl (.tmp rfl) rfl (by kernel_rfl) (by first | exact Nat.le_of_ble_eq_true rfl | (simp; omega) | simp)) ?_
 refine g_ (fun _ => S_loadN (m := 7) 0 rfl (.tmp rfl) rfl (by kernel_rfl) (by first | exact Nat.le_of_ble_eq_true rfl | (simp; omega) | simp)) ?_
 refine g_ (fun _ => S_gcall rfl (AEvs.cons (y := spcAV (plain6 [65])) (AEv.cd (.tmp rfl)) (AEvs.cons (y := spcAV (plain6 [65])) (AEv.cd (.tmp rfl)) AEvs.nil)) ((spec_Frozen_ok (plain6 [65]) (plain6 [65]) (by decide) (by decide) (by decide) (by decide) (by rintro s (rfl | rfl) <;> exact ⟨by decide, by decide⟩)) _ (fun p hp => by first | exact hG p hp | (simp [hG p hp]; done)))) ?_
 refine g_ (fun _ => S_eqlE (er_is 33 116 (frozenE (plain6 [65]) (plain6 [65]))) rfl (AEv.cd (.tmp rfl)) (by kernel_rfl)) ?_
 refine an ?_
 refine as_ rfl rfl rfl rfl ?_
 refine AL_nil (AC_ret ?_)
 refine ret_tmp st rfl rfl (Sub.l (List.Sublist.cons _ (List.Sublist.refl _))) (Conv.refl (Sub.l (List.Sublist.cons _ (List.Sublist.refl _))) _) ⟨congrArg AV.bool (by decide +kernel), rfl⟩ (.inl rfl)
end Go.Proofs.YtfdcadnaginnpaaGreatDoor

namespace Go.Proofs.YtfdcadnaginnpaaGreatDoor
open Go.AL Go.NumSpec

end Go.Proofs.YtfdcadnaginnpaaGreatDoor

namespace Go.Proofs.YtfdcadnaginnpaaGreatDoor
open Go.AL Go.NumSpec

end Go.Proofs.YtfdcadnaginnpaaGreatDoor

namespace Go.Proofs.YtfdcadnaginnpaaGreatDoor
open Go.AL Go.NumSpec

end Go.Proofs.YtfdcadnaginnpaaGreatDoor

namespace Go.Proofs.YtfdcadnaginnpaaGreatDoor
open Go.AL Go.NumSpec

end Go.Proofs.YtfdcadnaginnpaaGreatDoor

namespace Go.Proofs.YtfdcadnaginnpaaGreatDoor
open Go.AL Go.NumSpec

end Go.Proofs.YtfdcadnaginnpaaGreatDoor

set_option maxRecDepth 100000
namespace Go.Proofs.YtfdcadnaginnpaaGreatDoor
open Go.AL Go.NumSpec
theorem clone_ints_ok (l : List Int) (hl : l.length ≤ 1000000) (F : St) : ACalls Tryz.prog 74 [.sl (intsV l)] ([] ++ F) (fun x st' => ∃ foot', (∃ q : Vec, q.ok (intsV l) ∧ x = .lit (vecV q (intsV l).length) ∧ foot' = vecSt q 1 (intsV l)) ∧ st' = foot' ++ F) := by
 refine co 8 Tryz.func74 ?_
 have hln : (intsV l).length = l.length := by simp [intsV]
 refine AC_seq (AC_region ?_)
 refine ac rfl rfl rfl ?_
 refine AL_nil ?_
 refine AC_seq ?_
 refine AC_seq (AC_region ?_)
 refine mv rfl rfl rfl rfl ?_
 refine s_ (S_eqlNilSl (e := 3) rfl (.tmp rfl) (AEv.const _) (by kernel_rfl)) ?_
 rintro _ st9 ⟨c, rfl, hc, h9⟩
 rw [h9]
 clear h9 st9
 refine AL_nil ?_
 refine AC_cond (.tmp rfl) (fun hb1 => ?_) (fun hb1 => ?_)
 ·try simp only [zA,zO,zN,zM,zP,zQ,zD,zF,gd] at hb1
  have hnil := hc hb1
  refine AC_seq (AC_region ?_)
  refine ac rfl rfl rfl ?_
  refine AL_nil (AC_ret ?_)
  refine ret_tmp ([] ++ F) rfl rfl (Sub.l (List.Sublist.refl _)) (Conv.refl (Sub.l (List.Sublist.refl _)) _) ⟨[], ⟨.nil, hnil, rfl, rfl⟩, rfl⟩ (.inl rfl)
 try simp only [zA,zO,zN,zM,zP,zQ,zD,zF,gd] at hb1
 refine AC_skip ?_
 refine AC_seq (AC_region ?_)
 refine s_ (S_build0 (e := 3) rfl rfl (by kernel_rfl) (by kernel_rfl)) ?_
 rintro _ st9 ⟨A, rfl, h9⟩
 rw [h9]
 clear h9 st9
 refine mv rfl rfl rfl rfl ?_
 refine s_ (S_appendEmpV (e := 3) (size := 1) (bytes := 8) rfl (.tmp rfl) (.tmp rfl) (by kernel_rfl) (fun y hy => by obtain ⟨r, _, rfl⟩ := List.mem_map.1 hy; exact ⟨rfl, rfl⟩) (by rw [hln]; omega) (by rw [hln]; omega)) ?_
 rintro _ _ ⟨q, hq, rfl, rfl⟩
 refine as_ rfl rfl rfl rfl ?_
 refine AL_nil (AC_ret ?_)
 refine ret_tmp (vecSt q 1 (intsV l) ++ F) rfl rfl (Sub.l (List.Sublist.refl _)) (Conv.refl (Sub.l (List.Sublist.refl _)) _) ⟨_, ⟨q, hq, rfl, rfl⟩, rfl⟩ (.inl rfl)
theorem clone_labs_ok (l : List Lab) (hl : l.length ≤ 1000000) (F : St) : ACalls Tryz.prog 42 [.sl (labsV l)] ([] ++ F) (fun x st' => ∃ foot', (∃ q : Vec, q.ok (labsV l) ∧ x = .lit (vecV q (labsV l).length) ∧ foot' = vecSt q 2 (labsV l)) ∧ st' = foot' ++ F) := by
 refine co 8 Tryz.func42 ?_
 have hln : (labsV l).length = l.length := by simp [labsV]
 refine AC_seq (AC_region ?_)
 refine ac rfl rfl rfl ?_
 refine AL_nil ?_
 refine AC_seq ?_
 refine AC_seq (AC_region ?_)
 refine mv rfl rfl rfl rfl ?_
 refine s_ (S_eqlNilSl (e := 56) rfl (.tmp rfl) (AEv.const _) (by kernel_rfl)) ?_
 rintro _ st9 ⟨c, rfl, hc, h9⟩
 rw [h9]
 clear h9 st9
 refine AL_nil ?_
 refine AC_cond (.tmp rfl) (fun hb1 => ?_) (fun hb1 => ?_)
 ·try simp only [zA,zO,zN,zM,zP,zQ,zD,zF,gd] at hb1
  have hnil := hc hb1
  refine AC_seq (AC_region ?_)
  refine ac rfl rfl rfl ?_
  refine AL_nil (AC_ret ?_)
  refine ret_tmp ([] ++ F) rfl rfl (Sub.l (List.Sublist.refl _)) (Conv.refl (Sub.l (List.Sublist.refl _)) _) ⟨[], ⟨.nil, hnil, rfl, rfl⟩, rfl⟩ (.inl rfl)
 try simp only [zA,zO,zN,zM,zP,zQ,zD,zF,gd] at hb1
 refine AC_skip ?_
 refine AC_seq (AC_region ?_)
 refine s_ (S_build0 (e := 56) rfl rfl (by kernel_rfl) (by kernel_rfl)) ?_
 rintro _ st9 ⟨A, rfl, h9⟩
 rw [h9]
 clear h9 st9
 refine mv rfl rfl rfl rfl ?_
 refine s_ (S_appendEmpV (e := 56) (size := 2) (bytes := 32) rfl (.tmp rfl) (.tmp rfl) (by kernel_rfl) (fun y hy => by obtain ⟨r, _, rfl⟩ := List.mem_map.1 hy; exact ⟨rfl, rfl⟩) (by rw [hln]; omega) (by rw [hln]; omega)) ?_
 rintro _ _ ⟨q, hq, rfl, rfl⟩
 refine as_ rfl rfl rfl rfl ?_
 refine AL_nil (AC_ret ?_)
 refine ret_tmp (vecSt q 2 (labsV l) ++ F) rfl rfl (Sub.l (List.Sublist.refl _)) (Conv.refl (Sub.l (List.Sublist.refl _)) _) ⟨_, ⟨q, hq, rfl, rfl⟩, rfl⟩ (.inl rfl)
theorem clone_ctrs_ok (l : List Ctr) (hl : l.length ≤ 1000000) (F : St) : ACalls Tryz.prog 73 [.sl (ctrsV l)] ([] ++ F) (fun x st' => ∃ foot', (∃ q : Vec, q.ok (ctrsV l) ∧ x = .lit (vecV q (ctrsV l).length) ∧ foot' = vecSt q 11 (ctrsV l)) ∧ st' = foot' ++ F) := by
 refine co 8 Tryz.func73 ?_
 have hln : (ctrsV l).length = l.length := by simp [ctrsV]
 refine AC_seq (AC_region ?_)
 refine ac rfl rfl rfl ?_
 refine AL_nil ?_
 refine AC_seq ?_
 refine AC_seq (AC_region ?_)
 refine mv rfl rfl rfl rfl ?_
 refine s_ (S_eqlNilSl (e := 52) rfl (.tmp rfl) (AEv.const _) (by kernel_rfl)) ?_
 rintro _ st9 ⟨c, rfl, hc, h9⟩
 rw [h9]
 clear h9 st9
 refine AL_nil ?_
 refine AC_cond (.tmp rfl) (fun hb1 => ?_) (fun hb1 => ?_)
 ·try simp only [zA,zO,zN,zM,zP,zQ,zD,zF,gd] at hb1
  have hnil := hc hb1
  refine AC_seq (AC_region ?_)
  refine ac rfl rfl rfl ?_
  refine AL_nil (AC_ret ?_)
  refine ret_tmp ([] ++ F) rfl rfl (Sub.l (List.Sublist.refl _)) (Conv.refl (Sub.l (List.Sublist.refl _)) _) ⟨[], ⟨.nil, hnil, rfl, rfl⟩, rfl⟩ (.inl rfl)
 try simp only [zA,zO,zN,zM,zP,zQ,zD,zF,gd] at hb1
 refine AC_skip ?_
 refine AC_seq (AC_region ?_)
 refine s_ (S_build0 (e := 52) rfl rfl (by kernel_rfl) (by kernel_rfl)) ?_
 rintro _ st9 ⟨A, rfl, h9⟩
 rw [h9]
 clear h9 st9
 refine mv rfl rfl rfl rfl ?_
 refine s_ (S_appendEmpV (e := 52) (size := 11) (bytes := 120) rfl (.tmp rfl) (.tmp rfl) (by kernel_rfl) (fun y hy => by obtain ⟨r, _, rfl⟩ := List.mem_map.1 hy; exact ⟨rfl, rfl⟩) (by rw [hln]; omega) (by rw [hln]; omega)) ?_
 rintro _ _ ⟨q, hq, rfl, rfl⟩
 refine as_ rfl rfl rfl rfl ?_
 refine AL_nil (AC_ret ?_)
 refine ret_tmp (vecSt q 11 (ctrsV l) ++ F) rfl rfl (Sub.l (List.Sublist.refl _)) (Conv.refl (Sub.l (List.Sublist.refl _)) _) ⟨_, ⟨q, hq, rfl, rfl⟩, rfl⟩ (.inl rfl)
theorem spec_clones_ok (l : List Ctr) (hl : l.length ≤ 1000) (hk : ∀ c ∈ l, c.ports.length ≤ 1000) (F : St) : ACalls Tryz.prog 43 [.sl (ctrsV l)] ([] ++ F) (fun x st' => ∃ foot', (∃ (q : Vec) (is : List CO), (q.ok (cosV is) ∧ coOk is ∧ is.map CO.c = l) ∧ x = .lit (vecV q (cosV is).length) ∧ foot' = ctrsSt q is) ∧ st' = foot' ++ F) := by
 refine co 24 Tryz.func43 ?_
 have hln := ctrsV_len' l
 refine AC_seq (AC_region ?_)
 refine ac rfl rfl rfl ?_
 refine AL_nil (AC_seq (AC_region ?_))
 refine mv rfl rfl rfl rfl ?_
 refine s_ (S_call rfl (AEvs.cons (.tmp rfl) AEvs.nil) (clone_ctrs_ok l (by omega) F)) ?_
 rintro _ _ ⟨_, ⟨q, hq, rfl, rfl⟩, rfl⟩
 refine as_ rfl rfl rfl rfl ?_
 refine AL_nil ?_
 refine AC_seq ?_
 refine AC_seq (AC_region ?_)
 refine mv rfl rfl rfl rfl ?_
 refine p_ (S_lenV (e := 52) hq rfl (.tmp rfl) (by kernel_rfl)) ?_
 refine p_ (S_move rfl (AEv.const _)) ?_
 refine AL_nil ?_
 refine AC_block ?_
 refine AC_loopK (G := List CO) [(0, _), (2, _), (3, _), (8, _)] (fun g => g.length ≤ l.length ∧ coOk g ∧ g.reverse.map CO.c = l.take g.length) (fun g => [(9, .int .i64 (g.length : Int))]) (fun g => vecSt q 11 (halfV g l) ++ (coSt g ++ F)) (fun g => l.length - g.length) ([]) (⟨Nat.zero_le _, (fun x h => absurd h List.not_mem_nil), rfl⟩) (Sub.l (List.Sublist.refl _)) (.cons rfl (Le.refl _) (.cons rfl (Le.refl _) (.cons rfl (Le.refl _) (.cons rfl (Le.refl _) .nil)))) (.cons rfl (by first | exact Le.refl _ | exact Le.nils | exact Le.row _ _ _ _ | exact Le.of_eq (by first | rfl | (simp; done) | (push_cast; rfl) | (simp; omega))) .nil) ?_
 rintro rs ⟨hi, hok, hmap⟩
 try dsimp only
 simp only [List.cons_append, List.nil_append]
 refine AC_seq (AC_region ?_)
 refine p_ (S_lss rfl (.tmp rfl) (.tmp rfl)) ?_
 refine AL_nil ?_
 refine AC_seq ?_
 refine AC_cond (.tmp rfl) (fun hb1 => ?_) (fun hb1 => ?_)
 ·try simp only [zA,zO,zN,zM,zP,zQ,zD,zF,gd] at hb1
  have hil : rs.length < l.length := by omega
  obtain ⟨b9, cap9, rfl, hcap⟩ := vec_cells_ne hq (by omega)
  simp only [vecSt, List.cons_append, List.nil_append]
  refine AC_skip ?_
  refine AC_seq ?_
  refine AC_block ?_
  refine AC_seq (AC_region ?_)
  refine mv rfl rfl rfl rfl ?_
  refine as_ rfl rfl rfl rfl ?_
  refine AL_nil ?_
  refine AC_region ?_
  refine mv rfl rfl rfl rfl ?_
  refine mv rfl rfl rfl rfl ?_
  refine mv rfl rfl rfl rfl ?_
  refine mv rfl rfl rfl rfl ?_
  refine p_ (S_elemN (e := 52) 11 rfl (.tmp rfl) (.tmp rfl) (by kernel_rfl) (by kernel_rfl) (by omega) (fun _ => rfl)) ?_
  refine p_ (S_fieldP 8 rfl (.tmp rfl) (by kernel_rfl)) ?_
  refine p_ (S_loadP rfl (.tmp rfl) rfl (by kernel_rfl)) ?_
  refine s_ (S_call rfl (AEvs.cons (.tmp rfl) AEvs.nil) (ACalls.preQ (foot := []) (pre := [_]) (F := coSt rs ++ F) (clone_ints_ok (l[rs.length]'hil).ports (by have := hk _ (List.getElem_mem hil); omega) _))) ?_
  rintro _ _ ⟨_, ⟨p, hp, rfl, rfl⟩, rfl⟩
  refine p_ (S_elemO (e := 52) 11 rfl (.tmp rfl) (.tmp rfl) (by kernel_rfl) (by kernel_rfl) (by omega) (by omega)) ?_
  refine fl 8 ?_
  refine s_ (S_store 0 rfl (.tmp rfl) (.tmp rfl) rfl (by have h7 := vecCells_len (cap := cap9) (halfV_size rs l); rw [halfV_len (by omega)] at h7; simp only [Int.toNat_natCast]; omega) (vecV_one _ _) (by kernel_rfl)) ?_
  rintro _ _ ⟨rfl, rfl⟩
  refine AL_nil ?_
  refine AC_region ?_
  refine p_ (S_addI rfl (.tmp rfl) (AEv.const _) (by omega) (by omega)) ?_
  refine mv rfl rfl rfl rfl ?_
  refine AL_nil ?_
  refine ⟨⟨(l[rs.length]'hil), p⟩ :: rs, ⟨by simp only [List.length_cons]; omega, fun x hx => ?_, ?_⟩, by simp only [List.length_cons]; omega, clones_next hil p _ _ _, (.cons rfl (by first | exact Le.refl _ | exact Le.nils | exact Le.row _ _ _ _ | exact Le.of_eq (by first | rfl | (simp; done) | (push_cast; rfl) | (simp; omega))) .nil), (.cons rfl (Le.refl _) (.cons rfl (Le.refl _) (.cons rfl (Le.refl _) (.cons rfl (Le.refl _) .nil))))⟩
  ·rcases List.mem_cons.1 hx with rfl | h9
   ·exact hp
   ·exact hok x h9
  ·rw [List.reverse_cons, List.map_append, hmap, List.length_cons, List.take_succ_eq_append_getElem hil]; rfl
 try simp only [zA,zO,zN,zM,zP,zQ,zD,zF,gd] at hb1
 have hfull : rs.length = l.length := by omega
 refine AC_exit ?_
 refine AC_seq (AC_region ?_)
 refine mv rfl rfl rfl rfl ?_
 refine as_ rfl rfl rfl rfl ?_
 refine AL_nil (AC_ret ?_)
 refine ret_tmp (ctrsSt q rs.reverse ++ F) rfl rfl (clones_end hfull q F) (Conv.refl (clones_end hfull q F) _) ⟨_, ⟨q, rs.reverse, ⟨clones_ok hfull hq, fun x hx => hok x (List.mem_reverse.1 hx), by rw [hmap, hfull, List.take_length]⟩, clones_len hfull q, rfl⟩, rfl⟩ (.inl rfl)
theorem spec_Clone_ok (s : Spc) (hs : lightS s = true) (F : St) : ACalls Tryz.prog 15 [spcAV s] ([] ++ F) (fun x st' => ∃ foot', (∃ o : SO, (soOk o ∧ o.s = s) ∧ x = .agg (soL o) ∧ foot' = soSt o) ∧ st' = foot' ++ F) := by
 refine co 16 Tryz.func15 ?_
 obtain ⟨g1, g2, g3, g4, g5⟩ := light_short hs
 obtain ⟨k1, k2, k3⟩ := light_counts hs
 refine AC_seq (AC_region ?_)
 refine s_ (S_box rfl (.tmp rfl)) ?_
 rintro _ _ ⟨b1, rfl, rfl⟩
 refine s_ (S_alloc [.string ⟨#[]⟩, .slice none 0 0, .slice none 0 0, .slice none 0 0, .int .i64 0, .int .i64 0, .int .i64 0] rfl (by kernel_rfl)) ?_
 rintro _ _ ⟨b2, rfl, rfl⟩
 refine AL_nil (AC_seq (AC_region ?_))
 refine fl 1 ?_
 refine ld 1 ?_
 refine s_ (S_call rfl (AEvs.cons (.tmp rfl) AEvs.nil) (ACalls.preQ (foot := []) (pre := [_, _]) (F := F) (clone_labs_ok s.labels (by omega) _))) ?_
 rintro _ _ ⟨_, ⟨lq, hlq, rfl, rfl⟩, rfl⟩
 refine fl 1 ?_
 refine s_ (S_store 1 rfl (.tmp rfl) (.tmp rfl) rfl (by first | exact Nat.le_of_ble_eq_true rfl | simp) (vecV_one _ _) (by kernel_rfl)) ?_
 rintro _ _ ⟨rfl, rfl⟩
 refine AL_nil ?_
 refine AC_seq ?_
 refine AC_plan (σ := [(0, 0), (1, 0), (3, 0), (4, 0), (2, 1), (6, 0), (5, 1), (7, 2), (8, 0), (9, 2)]) (by kernel_rfl) [_, _] (by kernel_rfl) (fun r hr => List.mem_append_left _ hr) ?_
 refine AG.f rfl rfl (fun st' hst => Q_p rfl (S_field 2 rfl (.tmp rfl) (by kernel_rfl))) ?_
 refine AG.f rfl rfl (fun st' hst => Q_p rfl (S_loadM rfl (.tmp rfl) (hst _ (List.mem_of_getElem? (i := 1) rfl)) rfl (by kernel_rfl))) ?_
 refine AG.f rfl rfl (fun st' hst => Q_p rfl (S_field 3 rfl (.tmp rfl) (by kernel_rfl))) ?_
 refine AG.f rfl rfl (fun st' hst => Q_p rfl (S_loadM rfl (.tmp rfl) (hst _ (List.mem_of_getElem? (i := 1) rfl)) rfl (by kernel_rfl))) ?_
 refine AG.s rfl rfl rfl (S_call rfl (AEvs.cons (.tmp rfl) AEvs.nil) (ACalls.preQ (foot := []) (pre := [_, _]) (F := vecSt lq 2 (labsV s.labels) ++ F) (spec_clones_ok s.init (by omega) (fun c hc => (light_ports hs).1 c hc) _))) ?_ ?_
 ·rintro _ _ ⟨_, ⟨iq, is, hi, rfl, rfl⟩, rfl⟩ r hr; first | exact List.mem_append_left _ hr | exact absurd hr List.not_mem_nil
 rintro _ _ ⟨_, ⟨iq, is, hi, rfl, rfl⟩, rfl⟩
 refine AG.f rfl rfl (fun st' hst => Q_p rfl (S_field 2 rfl (.tmp rfl) (by kernel_rfl))) ?_
 refine AG.s rfl rfl rfl (S_call rfl (AEvs.cons (.tmp rfl) AEvs.nil) (ACalls.preQ (foot := []) (pre := [_, _]) (F := ctrsSt iq is ++ (vecSt lq 2 (labsV s.labels) ++ F)) (spec_clones_ok s.main (by omega) (fun c hc => (light_ports hs).2 c hc) _))) ?_ ?_
 ·rintro _ _ ⟨_, ⟨mq, ms, hm, rfl, rfl⟩, rfl⟩ r hr; first | exact List.mem_append_left _ hr | exact absurd hr List.not_mem_nil
 rintro _ _ ⟨_, ⟨mq, ms, hm, rfl, rfl⟩, rfl⟩
 refine AG.h rfl rfl rfl (S_store 1 rfl (.tmp rfl) (.tmp rfl) rfl (by first | exact Nat.le_of_ble_eq_true rfl | simp) (vecV_one _ _) (by kernel_rfl)) ?_
 rintro _ _ ⟨rfl, rfl⟩
 refine AG.f rfl rfl (fun st' hst => Q_p rfl (S_field 3 rfl (.tmp rfl) (by kernel_rfl))) ?_
 refine AG.h rfl rfl rfl (S_store 1 rfl (.tmp rfl) (.tmp rfl) rfl (by first | exact Nat.le_of_ble_eq_true rfl | simp) (vecV_one _ _) (by kernel_rfl)) ?_
 rintro _ _ ⟨rfl, rfl⟩
 refine AG.nil ?_
 refine AC_seq (AC_region ?_)
 refine ldN 7 1 ?_
 refine s_ (S_storeW 0 rfl (.tmp rfl) (.tmp rfl) rfl rfl (by exact soL_one ⟨s.name, s.labels, lq, is, iq, ms, mq, s.restart, s.grace, s.prio⟩) (by kernel_rfl)) ?_
 rintro _ _ ⟨rfl, rfl⟩
 refine AL_nil (AC_ret ?_)
 refine ret_cell 0 ((ctrsSt mq ms ++ (ctrsSt iq is ++ vecSt lq 2 (labsV s.labels))) ++ F) rfl rfl rfl (by kernel_rfl) (Sub.l (by rw [List.append_assoc, List.append_assoc]; exact .cons _ (.cons _ (List.Sublist.refl _)))) (Conv.refl (Sub.l (by rw [List.append_assoc, List.append_assoc]; exact .cons _ (.cons _ (List.Sublist.refl _)))) _) ⟨_, ⟨⟨s.name, s.labels, lq, is, iq, ms, mq, s.restart, s.grace, s.prio⟩, ⟨⟨hlq, hi.1, hm.1, hi.2.1, hm.2.1⟩, by cases s; simp [SO.s, hi.2.2, hm.2.2]⟩, rfl, rfl⟩, rfl⟩ (.inl rfl)
end Go.Proofs.YtfdcadnaginnpaaGreatDoor

namespace Go.Proofs.YtfdcadnaginnpaaGreatDoor
open Go.AL Go.NumSpec

end Go.Proofs.YtfdcadnaginnpaaGreatDoor

namespace Go.Proofs.YtfdcadnaginnpaaGreatDoor
open Go.AL Go.NumSpec

end Go.Proofs.YtfdcadnaginnpaaGreatDoor

set_option maxRecDepth 100000
namespace Go.Proofs.YtfdcadnaginnpaaGreatDoor
open Go.AL Go.NumSpec
theorem spec_Same_ok (a b : Spc) (ha : shortS a) (hb : shortS b) : PCalls Tryz.prog 20 [spcAV a, spcAV b] (.bool (sameS a b)) := by
 intro st
 refine co 52 Tryz.func20 ?_
 obtain ⟨a1, a2, a3, a4, a5⟩ := ha
 obtain ⟨b1', b2', b3', b4', b5'⟩ := hb
 refine AC_seq (AC_region ?_)
 refine s_ (S_box rfl (.tmp rfl)) ?_
 rintro _ _ ⟨b1, rfl, rfl⟩
 refine s_ (S_box rfl (.tmp rfl)) ?_
 rintro _ _ ⟨b2, rfl, rfl⟩
 refine ac rfl rfl rfl ?_
 refine AL_nil (AC_seq (AC_region ?_))
 refine fl 0 ?_
 refine ld 1 ?_
 refine fl 0 ?_
 refine ld 0 ?_
 refine p_ (S_eqS rfl (.tmp rfl) (.tmp rfl)) ?_
 refine mv rfl rfl rfl rfl ?_
 refine g_ (fun _ => fA 1) ?_
 refine g_ (fun _ => lA 1) ?_
 refine g_ (fun _ => fA 1) ?_
 refine g_ (fun _ => lA 0) ?_
 refine g_ (fun _ => S_pcall rfl (AEvs.cons (AEv.cd (.tmp rfl)) (AEvs.cons (AEv.cd (.tmp rfl)) AEvs.nil)) (slices_EqualL_ok a.labels b.labels a1 b1')) ?_
 refine an ?_
 refine mv rfl rfl rfl rfl ?_
 refine g_ (fun _ => fA 2) ?_
 refine g_ (fun _ => lA 1) ?_
 refine g_ (fun _ => fA 2) ?_
 refine g_ (fun _ => lA 0) ?_
 refine g_ (fun _ => S_pcall rfl (AEvs.cons (AEv.cd (.tmp rfl)) (AEvs.cons (AEv.cd (.tmp rfl)) (AEvs.cons (AEv.func _) AEvs.nil))) (spec_each_ok a.init b.init a2 b2' a4 b4')) ?_
 refine an ?_
 refine mv rfl rfl rfl rfl ?_
 refine g_ (fun _ => fA 3) ?_
 refine g_ (fun _ => lA 1) ?_
 refine g_ (fun _ => fA 3) ?_
 refine g_ (fun _ => lA 0) ?_
 refine g_ (fun _ => S_pcall rfl (AEvs.cons (AEv.cd (.tmp rfl)) (AEvs.cons (AEv.cd (.tmp rfl)) (AEvs.cons (AEv.func _) AEvs.nil))) (spec_each_ok a.main b.main a3 b3' a5 b5')) ?_
 refine an ?_
 refine mv rfl rfl rfl rfl ?_
 refine g_ (fun _ => fA 4) ?_
 refine g_ (fun _ => lA 1) ?_
 refine g_ (fun _ => fA 4) ?_
 refine g_ (fun _ => lA 0) ?_
 refine g_ (fun _ => S_eql rfl (AEv.cd (.tmp rfl)) (AEv.cd (.tmp rfl))) ?_
 refine an ?_
 refine mv rfl rfl rfl rfl ?_
 refine g_ (fun _ => fA 5) ?_
 refine g_ (fun _ => lA 1) ?_
 refine g_ (fun _ => fA 5) ?_
 refine g_ (fun _ => lA 0) ?_
 refine g_ (fun _ => S_eql rfl (AEv.cd (.tmp rfl)) (AEv.cd (.tmp rfl))) ?_
 refine an ?_
 refine mv rfl rfl rfl rfl ?_
 refine g_ (fun _ => fA 6) ?_
 refine g_ (fun _ => lA 1) ?_
 refine g_ (fun _ => fA 6) ?_
 refine g_ (fun _ => lA 0) ?_
 refine g_ (fun _ => S_eql rfl (AEv.cd (.tmp rfl)) (AEv.cd (.tmp rfl))) ?_
 refine an ?_
 refine as_ rfl rfl rfl rfl ?_
 refine AL_nil (AC_ret ?_)
 refine ret_tmp st rfl rfl (Sub.l (List.Sublist.cons _ (List.Sublist.cons _ (List.Sublist.refl _)))) (Conv.refl (Sub.l (List.Sublist.cons _ (List.Sublist.cons _ (List.Sublist.refl _)))) _) ⟨congrArg AV.bool (by rw [sameL_eq]; rfl), rfl⟩ (.inl rfl)
end Go.Proofs.YtfdcadnaginnpaaGreatDoor

set_option maxRecDepth 100000
namespace Go.Proofs.YtfdcadnaginnpaaGreatDoor
open Go.AL Go.NumSpec
theorem book_Below_ok (a n : Int) (hn : 0 < n) (hn2 : n ≤ 9223372036854775807) : PCalls Tryz.prog 23 [.int .i64 a, .int .i64 n] (.int .i64 (belowV a n)) := by
 intro st
 refine co 14 Tryz.func23 ?_
 have hb := below_in (x := a) hn
 have hb1 := Int.tmod_lt_of_pos a hn
 refine AC_seq (AC_region ?_)
 refine ac rfl rfl rfl ?_
 refine AL_nil (AC_seq (AC_region ?_))
 refine mv rfl rfl rfl rfl ?_
 refine mv rfl rfl rfl rfl ?_
 refine p_ (S_rem rfl (.tmp rfl) (.tmp rfl) (by omega)) ?_
 refine as_ rfl rfl rfl rfl ?_
 refine AL_nil ?_
 refine AC_seq ?_
 refine AC_seq (AC_region ?_)
 refine mv rfl rfl rfl rfl ?_
 refine p_ (S_lss rfl (.tmp rfl) (AEv.const _)) ?_
 refine AL_nil ?_
 refine AC_cond (.tmp rfl) (fun hb1 => ?_) (fun hb1 => ?_)
 ·try simp only [zA,zO,zN,zM,zP,zQ,zD,zF,gd] at hb1
  have hx : belowV a n = a.tmod n + n := by unfold belowV; rw [if_pos hb1]
  refine AC_region ?_
  refine mv rfl rfl rfl rfl ?_
  refine mv rfl rfl rfl rfl ?_
  refine p_ (S_addI rfl (.tmp rfl) (.tmp rfl) (by omega) (by omega)) ?_
  refine as_ rfl rfl rfl rfl ?_
  refine AL_nil (AC_seq (AC_region ?_))
  refine mv rfl rfl rfl rfl ?_
  refine as_ rfl rfl rfl rfl ?_
  refine AL_nil (AC_ret ?_)
  refine ret_tmp st rfl rfl (Sub.l (List.Sublist.refl _)) (Conv.refl (Sub.l (List.Sublist.refl _)) _) ⟨by rw [hx], rfl⟩ (.inl rfl)
 try simp only [zA,zO,zN,zM,zP,zQ,zD,zF,gd] at hb1
 have hx : belowV a n = a.tmod n := by unfold belowV; rw [if_neg (by omega)]
 refine AC_skip ?_
 refine AC_seq (AC_region ?_)
 refine mv rfl rfl rfl rfl ?_
 refine as_ rfl rfl rfl rfl ?_
 refine AL_nil (AC_ret ?_)
 refine ret_tmp st rfl rfl (Sub.l (List.Sublist.refl _)) (Conv.refl (Sub.l (List.Sublist.refl _)) _) ⟨by rw [hx], rfl⟩ (.inl rfl)
set_option maxHeartbeats 4000000 in
theorem law_SpecUpdates (s to : Spc) (which : Int) (hwh : fits which) : GCalls Tryz.prog tabs 6 [spcAV s, spcAV to, .int .i64 which] (.bool true) := by
 intro st hG
 refine co 107 Tryz.func6 ?_
 refine AC_seq (AC_region ?_)
 refine s_ (S_box rfl (.tmp rfl)) ?_
 rintro _ _ ⟨b3, rfl, rfl⟩
 refine s_ (S_box rfl (.tmp rfl)) ?_
 rintro _ _ ⟨b4, rfl, rfl⟩
 refine ac rfl rfl rfl ?_
 refine AL_nil ?_
 refine AC_seq ?_
 refine AC_seq (AC_region ?_)
 refine p_ (S_gcall rfl AEvs.nil ((law_works) _ (fun p hp => by repeat (first | exact hG p hp | refine List.mem_cons_of_mem _ ?_ | refine List.mem_append_right _ ?_)))) ?_
 refine p_ (S_not rfl (.tmp rfl)) ?_
 refine AL_nil ?_
 refine AC_cond (.tmp rfl) (fun hb3 => ?_) (fun hb3 => ?_)
 ·simp at hb3; done
 try simp only [zA,zO,zN,zM,zP,zQ,zD,zF,gd] at hb3
 refine AC_skip ?_
 refine AC_seq ?_
 refine AC_seq (AC_region ?_)
 refine ldN 7 1 ?_
 refine p_ (S_pcall rfl (AEvs.cons (y := spcAV s) (.tmp rfl) AEvs.nil) (book_LightSpec_ok _)) ?_
 refine p_ (S_not rfl (.tmp rfl)) ?_
 refine mv rfl rfl rfl rfl ?_
 refine g_ (fun _ => S_loadN (m := 7) 0 rfl (.tmp rfl) rfl (by kernel_rfl) (by first | exact Nat.le_of_ble_eq_true rfl | (simp; omega) | simp)) ?_
 refine g_ (fun _ => S_pcall rfl (AEvs.cons (y := spcAV to) (AEv.cd (.tmp rfl)) AEvs.nil) (book_LightSpec_ok _)) ?_
 refine g_ (fun _ => S_not rfl (AEv.cd (.tmp rfl))) ?_
 refine p_ (S_or rfl (.tmp rfl) (fun hp13 => (AEv.cd (.tmp rfl)))) ?_
 refine mv rfl rfl rfl rfl ?_
 refine g_ (fun _ => S_loadN (m := 7) 1 rfl (.tmp rfl) rfl (by kernel_rfl) (by first | exact Nat.le_of_ble_eq_true rfl | (simp; omega) | simp)) ?_
 refine g_ (fun _ => S_gcall rfl (AEvs.cons (y := spcAV s) (AEv.cd (.tmp rfl)) AEvs.nil) ((spec_Check_ok s (by cases h9 : lightS s <;> simp_all [gd])) _ (fun p hp => by repeat (first | exact hG p hp | refine List.mem_cons_of_mem _ ?_ | refine List.mem_append_right _ ?_)))) ?_
 refine g_ (fun _ => S_neqE (er_is 33 116 (checkE s)) rfl (AEv.cd (.tmp rfl)) (by kernel_rfl)) ?_
 refine p_ (S_or rfl (.tmp rfl) (fun hp23 => (AEv.cd (.tmp rfl)))) ?_
 refine AL_nil ?_
 refine AC_cond (.tmp rfl) (fun hb24 => ?_) (fun hb24 => ?_)
 ·try simp only [zA,zO,zN,zM,zP,zQ,zD,zF,gd] at hb24
  refine AC_seq (AC_region ?_)
  refine ac rfl rfl rfl ?_
  refine AL_nil (AC_ret ?_)
  refine ret_tmp st rfl rfl (Sub.l ((List.sublist_cons_self _ _).trans (List.sublist_cons_self _ _))) (Conv.refl (Sub.l ((List.sublist_cons_self _ _).trans (List.sublist_cons_self _ _))) _) ⟨rfl, rfl⟩ (.inl rfl)
 try simp only [zA,zO,zN,zM,zP,zQ,zD,zF,gd] at hb24
 obtain ⟨hl, ht, hc⟩ : lightS s = true ∧ lightS to = true ∧ checkE s = none := by
  cases h1 : lightS s <;> cases h2 : lightS to <;> cases h3 : checkE s <;> simp [h1, h2, h3] at hb24 ⊢
 obtain ⟨hn1, hn4⟩ := main_some hc
 refine AC_skip ?_
 refine AC_seq (AC_region ?_)
 refine p_ (S_loadNM (m := 7) rfl (.tmp rfl) (by repeat (first | exact List.mem_cons_self | refine List.mem_append_right _ ?_ | refine List.mem_cons_of_mem _ ?_)) (by kernel_rfl) (by first | exact Nat.le_of_ble_eq_true rfl | (simp; omega) | simp)) ?_
 refine s_ (S_call rfl (AEvs.cons (y := spcAV s) (.tmp rfl) AEvs.nil) (spec_Clone_ok s hl _)) ?_
 rintro _ _ ⟨_, ⟨o, ⟨ho, e1⟩, rfl, rfl⟩, rfl⟩
 obtain ⟨nm, lb, lq, is, iq, ms, mq, rs, gr, pr⟩ := o
 obtain ⟨h1, h2, h3, h4, h5⟩ := ho
 dsimp only at h1 h2 h3 h4 h5
 obtain rfl : s.name = nm := by rw [← e1]; rfl
 have his : is.map CO.c = s.init := by rw [← e1]; rfl
 have hms : ms.map CO.c = s.main := by rw [← e1]; rfl
 have hml : ms.length = s.main.length := by rw [← hms]; simp
 obtain ⟨b9, cap9, rfl, hcap⟩ := vec_cells_ne h3 (by rw [cosV_len]; omega)
 simp only [soSt, ctrsSt, vecSt, List.append_assoc, List.cons_append, List.nil_append]
 refine s_ (S_alloc [.string ⟨#[]⟩, .slice none 0 0, .slice none 0 0, .slice none 0 0, .int .i64 0, .int .i64 0, .int .i64 0] rfl (by kernel_rfl)) ?_
 rintro _ _ ⟨b7, rfl, rfl⟩
 refine s_ (S_storeW 0 rfl (.tmp rfl) (.tmp rfl) rfl rfl (soL_one ⟨s.name, lb, lq, is, iq, ms, .at b9 cap9, rs, gr, pr⟩) (by kernel_rfl)) ?_
 rintro _ _ ⟨rfl, rfl⟩
 refine AL_nil (AC_seq (AC_region ?_))
 refine fl 1 ?_
 refine p_ (S_loadM rfl (.tmp rfl) (by repeat (first | exact List.mem_cons_self | refine List.mem_append_right _ ?_ | refine List.mem_cons_of_mem _ ?_)) rfl (by kernel_rfl)) ?_
 refine fl 1 ?_
 refine st1 0 ?_
 refine AL_nil (AC_seq (AC_region ?_))
 refine fl 4 ?_
 refine p_ (S_loadM rfl (.tmp rfl) (by repeat (first | exact List.mem_cons_self | refine List.mem_append_right _ ?_ | refine List.mem_cons_of_mem _ ?_)) rfl (by kernel_rfl)) ?_
 refine fl 4 ?_
 refine st1 0 ?_
 refine AL_nil (AC_seq (AC_region ?_))
 refine fl 5 ?_
 refine p_ (S_loadM rfl (.tmp rfl) (by repeat (first | exact List.mem_cons_self | refine List.mem_append_right _ ?_ | refine List.mem_cons_of_mem _ ?_)) rfl (by kernel_rfl)) ?_
 refine fl 5 ?_
 refine st1 0 ?_
 refine AL_nil (AC_seq (AC_region ?_))
 refine fl 6 ?_
 refine p_ (S_loadM rfl (.tmp rfl) (by repeat (first | exact List.mem_cons_self | refine List.mem_append_right _ ?_ | refine List.mem_cons_of_mem _ ?_)) rfl (by kernel_rfl)) ?_
 refine fl 6 ?_
 refine st1 0 ?_
 refine AL_nil ?_
 refine AC_seq ?_
 obtain ⟨k, hk, hkl⟩ : ∃ k : Nat, belowV which (s.main.length : Int) = (k : Int) ∧ k < s.main.length := by
  have hb := below_in (x := which) (n := (s.main.length : Int)) (by omega)
  exact ⟨(belowV which (s.main.length : Int)).toNat, by omega, by omega⟩
 have hkm : k < ms.length := by omega
 have hck : (ms[k]'hkm).c = (s.main[k]'hkl) := by
  have h9 : (ms.map CO.c)[k]? = s.main[k]? := by rw [hms]
  rw [List.getElem?_map, List.getElem?_eq_getElem hkm, List.getElem?_eq_getElem hkl] at h9
  simpa using h9
 have hci := main_image hc _ (List.getElem_mem hkl)
 have hasc := img_ascii hci
 have hil9 := light_images hl _ (List.getElem_mem hkl)
 have hcpu := main_cpu hc _ (List.getElem_mem hkl)
 refine AC_region ?_
 refine mv rfl rfl rfl rfl ?_
 refine fl 3 ?_
 refine p_ (S_loadM rfl (.tmp rfl) (by repeat (first | exact List.mem_cons_self | refine List.mem_append_right _ ?_ | refine List.mem_cons_of_mem _ ?_)) rfl (by kernel_rfl)) ?_
 refine p_ (by first | exact S_lenM (e := 52) rfl (.tmp rfl) (by kernel_rfl) | exact S_len (e := 52) rfl (.tmp rfl) (by kernel_rfl)) ?_
 refine p_ ((S_pcall rfl (AEvs.cons (y := .int .i64 which) (.tmp rfl) (AEvs.cons (y := .int .i64 (s.main.length : Int)) (.tmp rfl) AEvs.nil)) (book_Below_ok which (s.main.length : Int) (by omega) (by omega))).ofV (V' := .int .i64 (k : Int)) (congrArg (AV.int .i64) hk)) ?_
 refine as_ rfl rfl rfl rfl ?_
 refine AL_nil (AC_seq (AC_region ?_))
 refine fl 3 ?_
 refine p_ (S_loadM rfl (.tmp rfl) (by repeat (first | exact List.mem_cons_self | refine List.mem_append_right _ ?_ | refine List.mem_cons_of_mem _ ?_)) rfl (by kernel_rfl)) ?_
 refine mv rfl rfl rfl rfl ?_
 refine p_ (S_elemN (e := 52) 11 rfl (.tmp rfl) (.tmp rfl) (by kernel_rfl) (by kernel_rfl) (by omega) (fun _ => rfl)) ?_
 refine p_ (S_fieldP 1 rfl (.tmp rfl) (by kernel_rfl)) ?_
 refine p_ (S_loadP rfl (.tmp rfl) rfl (by kernel_rfl)) ?_
 refine as_ rfl rfl rfl rfl ?_
 refine AL_nil ?_
 refine AC_seq ?_
 refine AC_rangeS (ty := 9) (G := Nat) ((s.main[k]'hkl).image) (fun i => ∀ j (hj : j < (s.main[k]'hkl).image.length), j < i → ((s.main[k]'hkl).image[j]'hj) ≠ 58) (fun _ => [(3, .ptr b3 0), (7, .ptr b7 0), (8, .int .i64 (k : Int)), (9, .S (s.main[k]'hkl).image)]) (fun i => i) 0 ⟨rfl, rfl, rfl⟩ ⟨rfl, rfl, rfl⟩ ⟨rfl, rfl, rfl⟩ ⟨rfl, rfl, rfl⟩ (by decide) (by kernel_rfl) (.tmp rfl) (hasc) (fun j hj h => absurd h (Nat.not_lt_zero _)) rfl (fun _ => (.cons rfl (Le.refl _) (.cons rfl (Le.refl _) (.cons rfl (Le.refl _) (.cons rfl (Le.refl _) (.cons rfl (Le.refl _) .nil)))))) ?_ (fun i b hi hend => (img_end hci fun j hj => hi j hj (by omega)).elim)
 rintro i bi hi9 hno
 try dsimp only at hi9 hno
 try dsimp only
 refine AC_seq ?_
 refine AC_cond (.tmp rfl) (fun hb26 => ?_) (fun hb26 => ?_)
 ·try simp only [zA,zO,zN,zM,zP,zQ,zD,zF,gd] at hb26
  refine AC_skip ?_
  refine AC_block ?_
  refine AC_seq (AC_region ?_)
  refine ex 1 ?_
  refine as_ rfl rfl rfl rfl ?_
  refine AL_nil (AC_seq (AC_region ?_))
  refine mv rfl rfl rfl rfl ?_
  refine mv rfl rfl rfl rfl ?_
  refine p_ ((S_index (i := (i : Int)) rfl (.tmp rfl) (.tmp rfl) (by kernel_rfl) (by omega) (by omega)).ofV (V' := .int .u8 (((s.main[k]'hkl).image[i]'hi9).toNat : Int)) (congrArg (AV.int .u8) (atL_get hi9))) ?_
  refine p_ (S_eql rfl (.tmp rfl) (AEv.const _)) ?_
  refine AL_nil ?_
  refine AC_cond (.tmp rfl) (fun hb27 => ?_) (fun hb27 => ?_)
  ·try simp only [zA,zO,zN,zM,zP,zQ,zD,zF,gd] at hb27
   have he : ((s.main[k]'hkl).image[i]'hi9) = 58 := by
    apply UInt8.toNat_inj.1
    have h9 := hb27
    show _ = 58
    omega
   have hsv := img_new hci hi9 he (fun j hj h => hno j hj h)
   have hti := List.length_take_le i (s.main[k]'hkl).image
   obtain ⟨c1, hc1⟩ : ∃ c1, c1 = ({ (ms[k]'hkm).c with image := ((s.main[k]'hkl).image.take i ++ [58, 57]) } : Ctr) := ⟨_, rfl⟩
   have hp1 : c1.ports = (ms[k]'hkm).c.ports := by rw [hc1]
   have hkm1 : k < (updO ms k hkm c1).length := by rw [updO_len]; exact hkm
   obtain ⟨c2, hc2⟩ : ∃ c2, c2 = ({ c1 with req := ((s.main[k]'hkl).req.1 + 1, c1.req.2) } : Ctr) := ⟨_, rfl⟩
   have hp2 : c2.ports = ((updO ms k hkm c1)[k]'hkm1).c.ports := by rw [hc2, updO_at]
   have hp0 : c1.ports = (s.main[k]'hkl).ports := by rw [hp1, hck]
   have hp3 : c2.ports = (s.main[k]'hkl).ports := by rw [hc2]; exact hp0
   have hi1 : c1.image.length ≤ 1000000 := by rw [hc1]; simp only [List.length_append, List.length_cons, List.length_nil]; omega
   obtain ⟨a1, a2, a3, a4, a5⟩ := light_short hl
   have b31 : (updC s to k c1).main.length ≤ 1000000 := by rw [upd_len]; exact a3
   have b32 : (updC s to k c2).main.length ≤ 1000000 := by rw [upd_len]; exact a3
   have hi2 : c2.image.length ≤ 1000000 := by rw [hc2]; exact hi1
   have hf1 := froz_one (s := s) (to := to) (k := k) (c := c1) hkl (by rw [hc1, hck]; exact (alike_img _ _).1) (by rw [hc1, hck]; exact (alike_img _ _).2) (by rw [hc1]; exact hsv)
   have hf2 := froz_two (s := s) (to := to) (k := k) (c := c2) hkl (by rw [hc2, hc1, hck]; exact cpu_alike _ _)
   have hd2 := upd_differs (s := s) (to := to) (k := k) (c := c2) hkl (fun h => by have := congrArg (fun c : Ctr => c.req.1) h; rw [hc2] at this; dsimp only at this; omega)
   refine AC_seq (AC_region ?_)
   refine mv rfl rfl rfl rfl ?_
   refine mv rfl rfl rfl rfl ?_
   refine p_ ((S_sliceH (j := (i : Int)) rfl (.tmp rfl) (.tmp rfl) (by kernel_rfl) (by omega) (by omega)).ofV (V' := .S ((s.main[k]'hkl).image.take i)) (congrArg AV.S (congrArg (fun n => List.take n (s.main[k]'hkl).image) (Int.toNat_natCast i)))) ?_
   refine p_ (S_cat rfl (.tmp rfl) (AEv.S _) (by first | omega | (simp; omega))) ?_
   refine as_ rfl rfl rfl rfl ?_
   refine AL_nil (AC_exit ?_)
   refine AC_seq (AC_region ?_)
   refine fl 3 ?_
   refine ld 0 ?_
   refine mv rfl rfl rfl rfl ?_
   refine mv rfl rfl rfl rfl ?_
   refine p_ (S_elemO (e := 52) 11 rfl (.tmp rfl) (.tmp rfl) (by kernel_rfl) (by kernel_rfl) (by omega) (by show (k : Int) < ((cosV ms).length : Nat); rw [cosV_len]; omega)) ?_
   refine fl 1 ?_
   refine s_ (S_store 1 rfl (.tmp rfl) (.tmp rfl) rfl (by have h7 := vecCells_len (cap := cap9) (cosV_size ms); rw [cosV_len] at h7; (try rw [updO_len] at h7); simp only [Int.toNat_natCast]; omega) rfl (by kernel_rfl)) ?_
   rintro _ _ ⟨rfl, rfl⟩
   simp only [List.set_cons_succ, List.set_cons_zero]
   rw [upd_cells (c := c1) hkm (by decide) (by rw [hc1]; rfl)]
   refine AL_nil ?_
   refine AC_seq ?_
   refine AC_seq ?_
   change AC _ _ _ _ _ ((b7, .cells (nowL s.name to iq (.at b9 cap9) (cosV is).length (cosV ms).length)) :: (b9, .cells (vecCells 11 cap9 (cosV (updO ms k hkm c1)))) :: _)
   refine AC_region ?_
   refine p_ (S_loadNM (m := 7) rfl (.tmp rfl) (by repeat (first | exact List.mem_cons_self | refine List.mem_append_right _ ?_ | refine List.mem_cons_of_mem _ ?_)) (by kernel_rfl) (by first | exact Nat.le_of_ble_eq_true rfl | (simp; omega) | simp)) ?_
   refine ldN 7 0 ?_
   refine p_ (S_gcallB (gs := tabs) (fun p hp => by repeat (first | exact hG p hp | refine List.mem_cons_of_mem _ ?_ | refine List.mem_append_right _ ?_)) (by decide) rfl (AEvs.cons (y := spcAV s) (.tmp rfl) (AEvs.cons (y := .agg (nowL s.name to iq (.at b9 cap9) (cosV is).length (cosV ms).length)) (.tmp rfl) AEvs.nil)) (args := [spcAV s, spcAV (updC s to k c1)]) (.cons (Conv.memb (fun p hp => by repeat (first | exact hG p hp | refine List.mem_cons_of_mem _ ?_ | refine List.mem_append_right _ ?_)) (Le.refl _)) (.cons (Conv.nd fun hnd => (now_lends (s := s) (k := k) (c := c1) (ms := (updO ms k hkm c1)) (by rw [cosV_len, cosV_len, updO_len]) his h2 h4 (Vec.ok_len h3 (by rw [cosV_len, cosV_len, updO_len])) (updO_ok h5 hp1) (MutLe.memb (fun p hp => by repeat (first | exact hG p hp | refine List.mem_cons_of_mem _ ?_ | refine List.mem_append_right _ ?_))) (fun p hp => by rcases List.mem_append.1 hp with h | h <;> repeat (first | exact List.mem_append_left _ h | refine List.mem_append_right _ ?_ | refine List.mem_cons_of_mem _ ?_)) (fun p hp => (List.mem_append.1 hp).elim (fun h => by rw [List.mem_singleton.1 h]; exact List.mem_cons_of_mem _ List.mem_cons_self) (fun h => by rw [coSt_set hkm c1 hp1] at h; exact List.mem_cons_of_mem _ (List.mem_cons_of_mem _ (List.mem_append_left _ h)))) (cells_table hnd (fun p hp => by repeat (first | exact hG p hp | refine List.mem_cons_of_mem _ ?_ | refine List.mem_append_right _ ?_)) (fun p hp => by rcases List.mem_append.1 hp with h | h <;> repeat (first | exact List.mem_append_left _ h | refine List.mem_append_right _ ?_ | refine List.mem_cons_of_mem _ ?_))) (cells_table hnd (fun p hp => by repeat (first | exact hG p hp | refine List.mem_cons_of_mem _ ?_ | refine List.mem_append_right _ ?_)) (fun p hp => (List.mem_append.1 hp).elim (fun h => by rw [List.mem_singleton.1 h]; exact List.mem_cons_of_mem _ List.mem_cons_self) (fun h => by rw [coSt_set hkm c1 hp1] at h; exact List.mem_cons_of_mem _ (List.mem_cons_of_mem _ (List.mem_append_left _ h))))) (by rw [updO_map, hms])).agg) .nil)) (v := .nilIface) (GCalls.of_eq (spec_Frozen_ok s (updC s to k c1) a2 a2 a3 b31 (upd_pre hl hkl hp0 hi1)) (by rw [hf1.1]; rfl))) ?_
   refine p_ (S_neqE (show ErrIs .nili true from rfl) rfl (.tmp rfl) (by kernel_rfl)) ?_
   refine mv rfl rfl rfl rfl ?_
   refine g_ (fun _ => S_loadN (m := 7) 0 rfl (.tmp rfl) rfl (by kernel_rfl) (by first | exact Nat.le_of_ble_eq_true rfl | (simp; omega) | simp)) ?_
   refine g_ (fun _ => S_loadNM (m := 7) rfl (.tmp rfl) (by repeat (first | exact List.mem_cons_self | refine List.mem_append_right _ ?_ | refine List.mem_cons_of_mem _ ?_)) (by kernel_rfl) (by first | exact Nat.le_of_ble_eq_true rfl | (simp; omega) | simp)) ?_
   refine g_ (fun _ => S_gcallB (gs := tabs) (fun p hp => by repeat (first | exact hG p hp | refine List.mem_cons_of_mem _ ?_ | refine List.mem_append_right _ ?_)) (by decide) rfl (AEvs.cons (y := .agg (nowL s.name to iq (.at b9 cap9) (cosV is).length (cosV ms).length)) (AEv.cd (.tmp rfl)) (AEvs.cons (y := spcAV s) (AEv.cd (.tmp rfl)) AEvs.nil)) (args := [spcAV (updC s to k c1), spcAV s]) (.cons (Conv.nd fun hnd => (now_lends (s := s) (k := k) (c := c1) (ms := (updO ms k hkm c1)) (by rw [cosV_len, cosV_len, updO_len]) his h2 h4 (Vec.ok_len h3 (by rw [cosV_len, cosV_len, updO_len])) (updO_ok h5 hp1) (MutLe.memb (fun p hp => by repeat (first | exact hG p hp | refine List.mem_cons_of_mem _ ?_ | refine List.mem_append_right _ ?_))) (fun p hp => by rcases List.mem_append.1 hp with h | h <;> repeat (first | exact List.mem_append_left _ h | refine List.mem_append_right _ ?_ | refine List.mem_cons_of_mem _ ?_)) (fun p hp => (List.mem_append.1 hp).elim (fun h => by rw [List.mem_singleton.1 h]; exact List.mem_cons_of_mem _ List.mem_cons_self) (fun h => by rw [coSt_set hkm c1 hp1] at h; exact List.mem_cons_of_mem _ (List.mem_cons_of_mem _ (List.mem_append_left _ h)))) (cells_table hnd (fun p hp => by repeat (first | exact hG p hp | refine List.mem_cons_of_mem _ ?_ | refine List.mem_append_right _ ?_)) (fun p hp => by rcases List.mem_append.1 hp with h | h <;> repeat (first | exact List.mem_append_left _ h | refine List.mem_append_right _ ?_ | refine List.mem_cons_of_mem _ ?_))) (cells_table hnd (fun p hp => by repeat (first | exact hG p hp | refine List.mem_cons_of_mem _ ?_ | refine List.mem_append_right _ ?_)) (fun p hp => (List.mem_append.1 hp).elim (fun h => by rw [List.mem_singleton.1 h]; exact List.mem_cons_of_mem _ List.mem_cons_self) (fun h => by rw [coSt_set hkm c1 hp1] at h; exact List.mem_cons_of_mem _ (List.mem_cons_of_mem _ (List.mem_append_left _ h))))) (by rw [updO_map, hms])).agg) (.cons (Conv.memb (fun p hp => by repeat (first | exact hG p hp | refine List.mem_cons_of_mem _ ?_ | refine List.mem_append_right _ ?_)) (Le.refl _)) .nil)) (v := .nilIface) (GCalls.of_eq (spec_Frozen_ok (updC s to k c1) s a2 a2 b31 a3 (fun x hx => upd_pre hl hkl hp0 hi1 x (Or.symm hx))) (by rw [hf1.2]; rfl))) ?_
   refine g_ (fun _ => S_neqE (show ErrIs .nili true from rfl) rfl (AEv.cd (.tmp rfl)) (by kernel_rfl)) ?_
   refine p_ (S_or rfl (.tmp rfl) (fun hp40 => (AEv.cd (.tmp rfl)))) ?_
   refine AL_nil ?_
   refine AC_cond (.tmp rfl) (fun hb41 => ?_) (fun hb41 => ?_)
   ·simp at hb41; done
   try simp only [zA,zO,zN,zM,zP,zQ,zD,zF,gd] at hb41
   refine AC_skip ?_
   refine AC_seq ?_
   refine AC_plan (σ := [(0, 0), (1, 0), (2, 0), (3, 0), (4, 0), (5, 0), (6, 0), (7, 0), (8, 0), (9, 0), (10, 0), (11, 0), (12, 0), (13, 0), (14, 2)]) (by kernel_rfl) [(b7, .cells (nowL s.name to iq (.at b9 cap9) (cosV is).length (cosV ms).length)), (b9, .cells (vecCells 11 cap9 (cosV (updO ms k hkm c1)))), (b3, .cells (spcL s))] (by kernel_rfl) (by intro r hr; simp only [List.mem_cons, List.not_mem_nil, or_false] at hr; rcases hr with rfl | rfl | rfl <;> repeat (first | exact List.mem_cons_self | refine List.mem_append_right _ ?_ | refine List.mem_cons_of_mem _ ?_)) ?_
   refine AG.f rfl rfl (fun st' hst => Q_p rfl (S_field 3 rfl (.tmp rfl) (by kernel_rfl))) ?_
   refine AG.f rfl rfl (fun st' hst => Q_p rfl (S_loadM rfl (.tmp rfl) (hst _ (List.mem_of_getElem? (i := 0) rfl)) rfl (by kernel_rfl))) ?_
   refine AG.f rfl rfl (fun st' hst => Q_p rfl (S_move rfl (.tmp rfl))) ?_
   refine AG.f rfl rfl (fun st' hst => Q_p rfl (S_field 3 rfl (.tmp rfl) (by kernel_rfl))) ?_
   refine AG.f rfl rfl (fun st' hst => Q_p rfl (S_loadM rfl (.tmp rfl) (hst _ (List.mem_of_getElem? (i := 2) rfl)) rfl (by kernel_rfl))) ?_
   refine AG.f rfl rfl (fun st' hst => Q_p rfl (S_move rfl (.tmp rfl))) ?_
   refine AG.f rfl rfl (fun st' hst => Q_p rfl (S_elemN (e := 52) (f := ctrAV) (l := s.main) (i := k) 11 rfl (.tmp rfl) (.tmp rfl) (by kernel_rfl) (by kernel_rfl) (by omega) (fun _ => rfl))) ?_
   refine AG.f rfl rfl (fun st' hst => Q_p rfl (S_fieldP 2 rfl (.tmp rfl) (by kernel_rfl))) ?_
   refine AG.f rfl rfl (fun st' hst => Q_p rfl (S_fieldP 0 rfl (.tmp rfl) (by kernel_rfl))) ?_
   refine AG.f rfl rfl (fun st' hst => Q_p rfl (S_loadP rfl (.tmp rfl) rfl (by kernel_rfl))) ?_
   refine AG.f rfl rfl (fun st' hst => Q_p rfl (S_addI rfl (.tmp rfl) (AEv.const _) (by omega) (by omega))) ?_
   refine AG.f rfl rfl (fun st' hst => Q_p rfl (S_elemO (e := 52) 11 rfl (.tmp rfl) (.tmp rfl) (by kernel_rfl) (by kernel_rfl) (by omega) (by show (k : Int) < ((cosV ms).length : Nat); rw [cosV_len]; omega))) ?_
   refine AG.f rfl rfl (fun st' hst => Q_p rfl (S_field 2 rfl (.tmp rfl) (by kernel_rfl))) ?_
   refine AG.f rfl rfl (fun st' hst => Q_p rfl (S_field 0 rfl (.tmp rfl) (by kernel_rfl))) ?_
   refine AG.h rfl rfl rfl (S_store 1 rfl (.tmp rfl) (.tmp rfl) rfl (by have h7 := vecCells_len (cap := cap9) (cosV_size (updO ms k hkm c1)); rw [cosV_len] at h7; (try rw [updO_len] at h7); simp only [Int.toNat_natCast]; omega) rfl (by kernel_rfl)) ?_
   rintro _ _ ⟨rfl, rfl⟩
   simp only [List.set_cons_succ, List.set_cons_zero, Nat.add_zero]
   rw [upd_cells (c := c2) hkm1 (by decide) (by rw [updO_at, hc2]; rfl)]
   refine AG.nil ?_
   refine AC_seq ?_
   refine AC_conv (st' := (b7, .cells (spcL (updC s to k c2))) :: (b4, .cells (spcL to)) :: (b3, .cells (spcL s)) :: st) (env' := [(3, .ptr b3 0), (7, .ptr b7 0)]) (now_freeze (ms := (updO (updO ms k hkm c1) k hkm1 c2)) (c := c2) (by rw [coSt_set hkm1 c2 hp2, coSt_set hkm c1 hp1]) (by rw [cosV_len, cosV_len, updO_len, updO_len]) his h2 h4 (Vec.ok_len h3 (by rw [cosV_len, cosV_len, updO_len, updO_len])) (updO_ok (updO_ok h5 hp1) hp2) (by rw [updO_map, updO_map, hms, List.set_set])) (.cons rfl (Conv.lits _) (.cons rfl (Conv.lits _) .nil)) ?_
   refine AC_region ?_
   refine p_ (S_loadNM (m := 7) rfl (.tmp rfl) (by repeat (first | exact List.mem_cons_self | refine List.mem_append_right _ ?_ | refine List.mem_cons_of_mem _ ?_)) (by kernel_rfl) (by first | exact Nat.le_of_ble_eq_true rfl | (simp; omega) | simp)) ?_
   refine ldN 7 0 ?_
   refine p_ (S_gcall rfl (AEvs.cons (y := spcAV s) (.tmp rfl) (AEvs.cons (y := spcAV (updC s to k c2)) (.tmp rfl) AEvs.nil)) ((spec_Frozen_ok s (updC s to k c2) a2 a2 a3 b32 (upd_pre hl hkl hp3 hi2)) _ (fun p hp => by repeat (first | exact hG p hp | refine List.mem_cons_of_mem _ ?_ | refine List.mem_append_right _ ?_)))) ?_
   refine as_ rfl rfl rfl rfl ?_
   refine AL_nil (AC_seq (AC_region ?_))
   refine mv rfl rfl rfl rfl ?_
   refine p_ (S_gcall rfl (AEvs.cons (.tmp rfl) AEvs.nil) ((fail_Code_ok (frozenE s (updC s to k c2))) _ (fun p hp => by repeat (first | exact hG p hp | refine List.mem_cons_of_mem _ ?_ | refine List.mem_append_right _ ?_)))) ?_
   refine p_ (S_eql rfl (.tmp rfl) (AEv.const _)) ?_
   refine mv rfl rfl rfl rfl ?_
   refine g_ (fun _ => S_loadNM (m := 7) rfl (.tmp rfl) (by repeat (first | exact List.mem_cons_self | refine List.mem_append_right _ ?_ | refine List.mem_cons_of_mem _ ?_)) (by kernel_rfl) (by first | exact Nat.le_of_ble_eq_true rfl | (simp; omega) | simp)) ?_
   refine g_ (fun _ => S_loadN (m := 7) 0 rfl (.tmp rfl) rfl (by kernel_rfl) (by first | exact Nat.le_of_ble_eq_true rfl | (simp; omega) | simp)) ?_
   refine g_ (fun _ => S_pcall rfl (AEvs.cons (y := spcAV s) (AEv.cd (.tmp rfl)) (AEvs.cons (y := spcAV (updC s to k c2)) (AEv.cd (.tmp rfl)) AEvs.nil)) (spec_Same_ok s (updC s to k c2) (light_short hl) (upd_short hl ht hkl hp3))) ?_
   refine g_ (fun _ => S_not rfl (AEv.cd (.tmp rfl))) ?_
   refine an ?_
   refine as_ rfl rfl rfl rfl ?_
   refine AL_nil (AC_ret ?_)
   refine ret_tmp st rfl rfl (Sub.l (.cons _ (.cons _ (.cons _ (List.Sublist.refl _))))) (Conv.refl (Sub.l (.cons _ (.cons _ (.cons _ (List.Sublist.refl _))))) _) ⟨congrArg AV.bool (by rw [hf2, hd2]; simp [erCode]), rfl⟩ (.inl rfl)
  try simp only [zA,zO,zN,zM,zP,zQ,zD,zF,gd] at hb27
  have hne : ¬ (((s.main[k]'hkl).image[i]'hi9).toNat : Int) = 58 := hb27
  refine AC_skip ?_
  refine ⟨i + 1, fun j hj h => ?_, rfl, rfl, (.cons rfl (Le.refl _) (.cons rfl (Le.refl _) (.cons rfl (Le.refl _) (.cons rfl (Le.refl _) (.cons rfl (Le.refl _) .nil)))))⟩
  rcases Nat.lt_or_ge j i with h' | h'
  ·exact hno j hj h'
  ·have : j = i := by omega
   subst this
   exact fun h9 => hne (by rw [h9]; rfl)
 simp at hb26; done
end Go.Proofs.YtfdcadnaginnpaaGreatDoor
