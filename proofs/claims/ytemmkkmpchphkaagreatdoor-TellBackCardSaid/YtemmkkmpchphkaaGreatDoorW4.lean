/- A part of the proof: what the program's functions answer.
Conditions: none beyond each theorem's own. -/
import Derived.Test.YtemmkkmpchphkaaGreatDoorW3
/-
The walks of Go functions in the logic AL: what each of them answers.
Conditions: those of each theorem.
-/
set_option linter.unusedVariables false
set_option linter.unusedSimpArgs false
namespace Go.Proofs.YtemmkkmpchphkaaGreatDoor
open Go.AL Go.NumSpec
set_option maxRecDepth 100000 in
theorem book_SamePod_ok (a b : Pod) (ha : ShortP a) (hb : ShortP b) : PCalls Tryz.prog 20 [podAV a, podAV b] (.bool (samePd a b)) := by
 intro st
 refine ACalls_of (N := 52) Tryz.func20 (by kernel_rfl) rfl rfl rfl ?_
 have ha2 := ha.2
 have hb2' := hb.2
 refine AC_seq (AC_region ?_)
 refine AL_step rfl rfl (S_box rfl (.tmp rfl)) ?_
 rintro _ _ ⟨b2, rfl, rfl⟩
 refine AL_step rfl rfl (S_box rfl (.tmp rfl)) ?_
 rintro _ _ ⟨b3, rfl, rfl⟩
 refine ac rfl rfl rfl ?_
 refine AL_nil (AC_seq (AC_region ?_))
 refine AL_p rfl rfl (S_field 0 rfl (.tmp rfl) (by kernel_rfl)) ?_
 refine AL_p rfl rfl (S_load 1 rfl (.tmp rfl) rfl rfl (by kernel_rfl)) ?_
 refine AL_p rfl rfl (S_field 0 rfl (.tmp rfl) (by kernel_rfl)) ?_
 refine AL_p rfl rfl (S_load 0 rfl (.tmp rfl) rfl rfl (by kernel_rfl)) ?_
 refine AL_p rfl rfl (S_eql rfl (.tmp rfl) (.tmp rfl)) ?_
 refine mv rfl rfl rfl rfl ?_
 refine AL_g rfl rfl (.tmp rfl) rfl (fun hg3 => S_field 1 rfl (.tmp rfl) (by kernel_rfl)) ?_
 refine AL_g rfl rfl (.tmp rfl) rfl (fun hg6 => S_load 1 rfl (AEv.cd (.tmp rfl)) rfl rfl (by kernel_rfl)) ?_
 refine AL_g rfl rfl (.tmp rfl) rfl (fun hg9 => S_field 1 rfl (.tmp rfl) (by kernel_rfl)) ?_
 refine AL_g rfl rfl (.tmp rfl) rfl (fun hg12 => S_load 0 rfl (AEv.cd (.tmp rfl)) rfl rfl (by kernel_rfl)) ?_
 refine AL_g rfl rfl (.tmp rfl) rfl (fun hg15 => S_eql rfl (AEv.cd (.tmp rfl)) (AEv.cd (.tmp rfl))) ?_
 refine AL_p rfl rfl (S_and rfl (.tmp rfl) (fun hp18 => (AEv.cd (.tmp rfl)))) ?_
 refine mv rfl rfl rfl rfl ?_
 refine AL_g rfl rfl (.tmp rfl) rfl (fun hg19 => S_field 2 rfl (.tmp rfl) (by kernel_rfl)) ?_
 refine AL_g rfl rfl (.tmp rfl) rfl (fun hg22 => S_loadN (m := 7) 1 rfl (AEv.cd (.tmp rfl)) rfl (by kernel_rfl) (by first | exact Nat.le_of_ble_eq_true rfl | (simp; omega) | simp)) ?_
 refine AL_g rfl rfl (.tmp rfl) rfl (fun hg25 => S_field 2 rfl (.tmp rfl) (by kernel_rfl)) ?_
 refine AL_g rfl rfl (.tmp rfl) rfl (fun hg28 => S_loadN (m := 7) 0 rfl (AEv.cd (.tmp rfl)) rfl (by kernel_rfl) (by first | exact Nat.le_of_ble_eq_true rfl | (simp; omega) | simp)) ?_
 refine AL_g rfl rfl (.tmp rfl) rfl (fun hg31 => S_pcall rfl (AEvs.cons (AEv.cd (.tmp rfl)) (AEvs.cons (AEv.cd (.tmp rfl)) AEvs.nil)) (book_SameSpec_ok a.spec b.spec (light_short ha.1) (light_short hb.1))) ?_
 refine AL_p rfl rfl (S_and rfl (.tmp rfl) (fun hp34 => (AEv.cd (.tmp rfl)))) ?_
 refine mv rfl rfl rfl rfl ?_
 refine AL_g rfl rfl (.tmp rfl) rfl (fun hg35 => S_field 9 rfl (.tmp rfl) (by kernel_rfl)) ?_
 refine AL_g rfl rfl (.tmp rfl) rfl (fun hg38 => S_load 1 rfl (AEv.cd (.tmp rfl)) rfl rfl (by kernel_rfl)) ?_
 refine AL_g rfl rfl (.tmp rfl) rfl (fun hg41 => S_field 9 rfl (.tmp rfl) (by kernel_rfl)) ?_
 refine AL_g rfl rfl (.tmp rfl) rfl (fun hg44 => S_load 0 rfl (AEv.cd (.tmp rfl)) rfl rfl (by kernel_rfl)) ?_
 refine AL_g rfl rfl (.tmp rfl) rfl (fun hg47 => S_eql rfl (AEv.cd (.tmp rfl)) (AEv.cd (.tmp rfl))) ?_
 refine AL_p rfl rfl (S_and rfl (.tmp rfl) (fun hp50 => (AEv.cd (.tmp rfl)))) ?_
 refine mv rfl rfl rfl rfl ?_
 refine AL_g rfl rfl (.tmp rfl) rfl (fun hg51 => S_field 10 rfl (.tmp rfl) (by kernel_rfl)) ?_
 refine AL_g rfl rfl (.tmp rfl) rfl (fun hg54 => S_load 1 rfl (AEv.cd (.tmp rfl)) rfl rfl (by kernel_rfl)) ?_
 refine AL_g rfl rfl (.tmp rfl) rfl (fun hg57 => S_field 10 rfl (.tmp rfl) (by kernel_rfl)) ?_
 refine AL_g rfl rfl (.tmp rfl) rfl (fun hg60 => S_load 0 rfl (AEv.cd (.tmp rfl)) rfl rfl (by kernel_rfl)) ?_
 refine AL_g rfl rfl (.tmp rfl) rfl (fun hg63 => S_pcall rfl (AEvs.cons (AEv.cd (.tmp rfl)) (AEvs.cons (AEv.cd (.tmp rfl)) AEvs.nil)) (book_SameInts_ok a.ports b.ports (by omega) (by omega))) ?_
 refine AL_p rfl rfl (S_and rfl (.tmp rfl) (fun hp66 => (AEv.cd (.tmp rfl)))) ?_
 refine mv rfl rfl rfl rfl ?_
 refine AL_g rfl rfl (.tmp rfl) rfl (fun hg67 => S_field 11 rfl (.tmp rfl) (by kernel_rfl)) ?_
 refine AL_g rfl rfl (.tmp rfl) rfl (fun hg70 => S_load 1 rfl (AEv.cd (.tmp rfl)) rfl rfl (by kernel_rfl)) ?_
 refine AL_g rfl rfl (.tmp rfl) rfl (fun hg73 => S_field 11 rfl (.tmp rfl) (by kernel_rfl)) ?_
 refine AL_g rfl rfl (.tmp rfl) rfl (fun hg76 => S_load 0 rfl (AEv.cd (.tmp rfl)) rfl rfl (by kernel_rfl)) ?_
 refine AL_g rfl rfl (.tmp rfl) rfl (fun hg79 => S_eql rfl (AEv.cd (.tmp rfl)) (AEv.cd (.tmp rfl))) ?_
 refine AL_p rfl rfl (S_and rfl (.tmp rfl) (fun hp82 => (AEv.cd (.tmp rfl)))) ?_
 refine mv rfl rfl rfl rfl ?_
 refine AL_g rfl rfl (.tmp rfl) rfl (fun hg83 => S_field 12 rfl (.tmp rfl) (by kernel_rfl)) ?_
 refine AL_g rfl rfl (.tmp rfl) rfl (fun hg86 => S_load 1 rfl (AEv.cd (.tmp rfl)) rfl rfl (by kernel_rfl)) ?_
 refine AL_g rfl rfl (.tmp rfl) rfl (fun hg89 => S_field 12 rfl (.tmp rfl) (by kernel_rfl)) ?_
 refine AL_g rfl rfl (.tmp rfl) rfl (fun hg92 => S_load 0 rfl (AEv.cd (.tmp rfl)) rfl rfl (by kernel_rfl)) ?_
 refine AL_g rfl rfl (.tmp rfl) rfl (fun hg95 => S_eql rfl (AEv.cd (.tmp rfl)) (AEv.cd (.tmp rfl))) ?_
 refine AL_p rfl rfl (S_and rfl (.tmp rfl) (fun hp98 => (AEv.cd (.tmp rfl)))) ?_
 refine as_ rfl rfl rfl rfl ?_
 refine AL_nil (AC_ret ?_)
 refine ret_tmp st rfl rfl (Sub.l ((List.sublist_cons_self _ _).trans (List.sublist_cons_self _ _))) (Conv.refl (Sub.l ((List.sublist_cons_self _ _).trans (List.sublist_cons_self _ _))) _) ⟨congrArg AV.bool (by simp only [samePd, Int.ofNat_inj]), rfl⟩ (.inl rfl)
set_option maxRecDepth 100000 in
theorem book_SamePods_ok (a b : List Pod) (ha : a.length ≤ 1000000) (hb : b.length ≤ 1000000) (hap : ∀ p ∈ a, ShortP p) (hbp : ∀ p ∈ b, ShortP p) : PCalls Tryz.prog 92 [.sl (podsV a), .sl (podsV b)] (.bool (sameL samePd a b)) := by
 intro st
 refine ACalls_of (N := 37) Tryz.func92 (by kernel_rfl) rfl rfl rfl ?_
 refine AC_seq (AC_region ?_)
 refine ac rfl rfl rfl ?_
 refine AL_nil (AC_seq (AC_region ?_))
 refine mv rfl rfl rfl rfl ?_
 refine AL_p rfl rfl (by first | exact S_lenM (e := 34) rfl (.tmp rfl) (by kernel_rfl) | exact S_len (e := 34) rfl (.tmp rfl) (by kernel_rfl)) ?_
 refine mv rfl rfl rfl rfl ?_
 refine AL_p rfl rfl (by first | exact S_lenM (e := 34) rfl (.tmp rfl) (by kernel_rfl) | exact S_len (e := 34) rfl (.tmp rfl) (by kernel_rfl)) ?_
 refine AL_p rfl rfl (S_eql rfl (.tmp rfl) (.tmp rfl)) ?_
 refine as_ rfl rfl rfl rfl ?_
 refine AL_nil ?_
 refine AC_seq ?_
 refine AC_seq (AC_region ?_)
 refine ac rfl rfl rfl ?_
 refine AL_nil ?_
 refine AC_block ?_
 refine AC_loopK (G := Nat) [(0, _), (1, _), (4, _)] (fun i => i ≤ a.length) (fun g => [(5, .bool (sameP samePd a b g)), (6, .int .i64 (g : Int))]) (fun g => st) (fun g => a.length - g) (0) (Nat.zero_le _) (Sub.l (List.Sublist.refl _)) (.cons rfl (Le.refl _) (.cons rfl (Le.refl _) (.cons rfl (Le.refl _) .nil))) (.cons rfl (Le.of_eq (congrArg AV.bool (by rw [sameP_zero]; exact decide_eq_decide.2 (by omega)))) (.cons rfl (by first | exact Le.refl _ | exact Le.nils | exact Le.row _ _ _ _ | exact Le.of_eq (by first | rfl | (simp; done) | (push_cast; rfl) | (simp; omega))) .nil)) ?_
 rintro i hi
 try dsimp only
 simp only [List.cons_append, List.nil_append]
 refine AC_seq ?_
 refine AC_seq (AC_region ?_)
 refine mv rfl rfl rfl rfl ?_
 refine mv rfl rfl rfl rfl ?_
 refine AL_g rfl rfl (.tmp rfl) rfl (fun hg1 => S_move rfl (.tmp rfl)) ?_
 refine AL_g rfl rfl (.tmp rfl) rfl (fun hg4 => S_move rfl (.tmp rfl)) ?_
 refine AL_g rfl rfl (.tmp rfl) rfl (fun hg7 => by first | exact S_lenM (e := 34) rfl (AEv.cd (.tmp rfl)) (by kernel_rfl) | exact S_len (e := 34) rfl (AEv.cd (.tmp rfl)) (by kernel_rfl)) ?_
 refine AL_g rfl rfl (.tmp rfl) rfl (fun hg10 => S_lss rfl (AEv.cd (.tmp rfl)) (AEv.cd (.tmp rfl))) ?_
 refine AL_p rfl rfl (S_and rfl (.tmp rfl) (fun hp13 => (AEv.cd (.tmp rfl)))) ?_
 refine mv rfl rfl rfl rfl ?_
 refine AL_g rfl rfl (.tmp rfl) rfl (fun hg14 => S_move rfl (.tmp rfl)) ?_
 refine AL_g rfl rfl (.tmp rfl) rfl (fun hg17 => S_move rfl (.tmp rfl)) ?_
 refine AL_g rfl rfl (.tmp rfl) rfl (fun hg20 => by first | exact S_lenM (e := 34) rfl (AEv.cd (.tmp rfl)) (by kernel_rfl) | exact S_len (e := 34) rfl (AEv.cd (.tmp rfl)) (by kernel_rfl)) ?_
 refine AL_g rfl rfl (.tmp rfl) rfl (fun hg23 => S_lss rfl (AEv.cd (.tmp rfl)) (AEv.cd (.tmp rfl))) ?_
 refine AL_p rfl rfl (S_and rfl (.tmp rfl) (fun hp26 => (AEv.cd (.tmp rfl)))) ?_
 refine AL_nil ?_
 refine AC_cond (.tmp rfl) (fun hb27 => ?_) (fun hb27 => ?_)
 ·try simp only [zA, zO, zN, zM, zP, zQ, zD, zF, gd] at hb27
  have hs : sameP samePd a b i = true := hb27.1.1
  have hia : i < a.length := by have := hb27.1.2; omega
  have hib : i < b.length := by have := hb27.2; omega
  refine AC_skip ?_
  refine AC_seq ?_
  refine AC_block ?_
  refine AC_draw (by kernel_rfl) (by kernel_rfl) (.cons rfl (Q_p rfl (S_move rfl (.tmp rfl))) <|
    .cons rfl (Q_p rfl (S_move rfl (.tmp rfl))) <|
    .cons rfl (Q_p rfl (S_elemN (e := 34) 13 rfl (.tmp rfl) (.tmp rfl) (by kernel_rfl) (by kernel_rfl) (by omega) (fun _ => rfl))) <|
    .cons rfl (Q_p rfl (S_loadPN (m := 13) rfl (.tmp rfl) (by kernel_rfl) (by first | exact Nat.le_of_ble_eq_true rfl | (simp; omega) | simp))) <|
    .cons rfl (Q_p rfl (S_move rfl (.tmp rfl))) <|
    .cons rfl (Q_p rfl (S_move rfl (.tmp rfl))) <|
    .cons rfl (Q_p rfl (S_elemN (e := 34) 13 rfl (.tmp rfl) (.tmp rfl) (by kernel_rfl) (by kernel_rfl) (by omega) (fun _ => rfl))) <|
    .cons rfl (Q_p rfl (S_loadPN (m := 13) rfl (.tmp rfl) (by kernel_rfl) (by first | exact Nat.le_of_ble_eq_true rfl | (simp; omega) | simp))) <|
    .cons rfl (Q_p rfl (S_pcall rfl (AEvs.cons (y := podAV (a[i]'hia)) (.tmp rfl) (AEvs.cons (y := podAV (b[i]'hib)) (.tmp rfl) AEvs.nil)) (book_SamePod_ok (a[i]'hia) (b[i]'hib) (hap _ (List.getElem_mem _)) (hbp _ (List.getElem_mem _))))) <|
    .cons rfl (Q_p rfl (S_assign rfl (.tmp rfl))) <|
    .nil) ?_
  refine AC_region ?_
  refine mv rfl rfl rfl rfl ?_
  refine AL_p rfl rfl (S_addI rfl (.tmp rfl) (AEv.const _) (by omega) (by omega)) ?_
  refine as_ rfl rfl rfl rfl ?_
  refine AL_nil ?_
  exact ⟨i + 1, by omega, by omega, (Sub.l (List.Sublist.refl _)), (.cons rfl (Le.of_eq (congrArg AV.bool (sameP_next hs hia hib).symm)) (.cons rfl (by first | exact Le.refl _ | exact Le.nils | exact Le.row _ _ _ _ | exact Le.of_eq (by first | rfl | (simp; done) | (push_cast; rfl) | (simp; omega))) .nil)), (.cons rfl (Le.refl _) (.cons rfl (Le.refl _) (.cons rfl (Le.refl _) .nil)))⟩
 try simp only [zA, zO, zN, zM, zP, zQ, zD, zF, gd] at hb27
 have hend := sameP_end (f := samePd) (a := a) (b := b) (i := i) (by
  rcases hb27 with (h | h) | h
  ·exact .inl h
  ·exact .inr (.inl (by omega))
  ·exact .inr (.inr (by omega)))
 refine AC_exit ?_
 refine AC_seq (AC_region ?_)
 refine mv rfl rfl rfl rfl ?_
 refine as_ rfl rfl rfl rfl ?_
 refine AL_nil (AC_ret ?_)
 refine ret_tmp st rfl rfl (Sub.l (List.Sublist.refl _)) (Conv.refl (Sub.l (List.Sublist.refl _)) _) ⟨congrArg AV.bool hend, rfl⟩ (.inl rfl)
set_option maxRecDepth 100000 in
theorem book_SameReply_ok (a b : Rep) (ha : ShortRp a) (hb : ShortRp b) : PCalls Tryz.prog 55 [.agg (repL a), .agg (repL b)] (.bool (sameRp a b)) := by
 intro st
 refine ACalls_of (N := 52) Tryz.func55 (by kernel_rfl) rfl rfl rfl ?_
 obtain ⟨ha1, ha2, ha3, ha4⟩ := ha
 obtain ⟨hb1', hb2', hb3', hb4'⟩ := hb
 refine AC_seq (AC_region ?_)
 refine AL_step rfl rfl (S_box rfl (.tmp rfl)) ?_
 rintro _ _ ⟨b2, rfl, rfl⟩
 refine AL_step rfl rfl (S_box rfl (.tmp rfl)) ?_
 rintro _ _ ⟨b3, rfl, rfl⟩
 refine ac rfl rfl rfl ?_
 refine AL_nil (AC_seq (AC_region ?_))
 refine AL_p rfl rfl (S_field 0 rfl (.tmp rfl) (by kernel_rfl)) ?_
 refine AL_p rfl rfl (S_load 1 rfl (.tmp rfl) rfl rfl (by kernel_rfl)) ?_
 refine AL_p rfl rfl (S_field 0 rfl (.tmp rfl) (by kernel_rfl)) ?_
 refine AL_p rfl rfl (S_load 0 rfl (.tmp rfl) rfl rfl (by kernel_rfl)) ?_
 refine AL_p rfl rfl (S_eql rfl (.tmp rfl) (.tmp rfl)) ?_
 refine mv rfl rfl rfl rfl ?_
 refine AL_g rfl rfl (.tmp rfl) rfl (fun hg3 => S_field 1 rfl (.tmp rfl) (by kernel_rfl)) ?_
 refine AL_g rfl rfl (.tmp rfl) rfl (fun hg6 => S_load 1 rfl (AEv.cd (.tmp rfl)) rfl rfl (by kernel_rfl)) ?_
 refine AL_g rfl rfl (.tmp rfl) rfl (fun hg9 => S_field 1 rfl (.tmp rfl) (by kernel_rfl)) ?_
 refine AL_g rfl rfl (.tmp rfl) rfl (fun hg12 => S_load 0 rfl (AEv.cd (.tmp rfl)) rfl rfl (by kernel_rfl)) ?_
 refine AL_g rfl rfl (.tmp rfl) rfl (fun hg15 => S_eql rfl (AEv.cd (.tmp rfl)) (AEv.cd (.tmp rfl))) ?_
 refine AL_p rfl rfl (S_and rfl (.tmp rfl) (fun hp18 => (AEv.cd (.tmp rfl)))) ?_
 refine mv rfl rfl rfl rfl ?_
 refine AL_g rfl rfl (.tmp rfl) rfl (fun hg19 => S_field 2 rfl (.tmp rfl) (by kernel_rfl)) ?_
 refine AL_g rfl rfl (.tmp rfl) rfl (fun hg22 => S_load 1 rfl (AEv.cd (.tmp rfl)) rfl rfl (by kernel_rfl)) ?_
 refine AL_g rfl rfl (.tmp rfl) rfl (fun hg25 => S_field 2 rfl (.tmp rfl) (by kernel_rfl)) ?_
 refine AL_g rfl rfl (.tmp rfl) rfl (fun hg28 => S_load 0 rfl (AEv.cd (.tmp rfl)) rfl rfl (by kernel_rfl)) ?_
 refine AL_g rfl rfl (.tmp rfl) rfl (fun hg31 => S_eql rfl (AEv.cd (.tmp rfl)) (AEv.cd (.tmp rfl))) ?_
 refine AL_p rfl rfl (S_and rfl (.tmp rfl) (fun hp34 => (AEv.cd (.tmp rfl)))) ?_
 refine mv rfl rfl rfl rfl ?_
 refine AL_g rfl rfl (.tmp rfl) rfl (fun hg35 => S_field 3 rfl (.tmp rfl) (by kernel_rfl)) ?_
 refine AL_g rfl rfl (.tmp rfl) rfl (fun hg38 => S_load 1 rfl (AEv.cd (.tmp rfl)) rfl rfl (by kernel_rfl)) ?_
 refine AL_g rfl rfl (.tmp rfl) rfl (fun hg41 => S_field 3 rfl (.tmp rfl) (by kernel_rfl)) ?_
 refine AL_g rfl rfl (.tmp rfl) rfl (fun hg44 => S_load 0 rfl (AEv.cd (.tmp rfl)) rfl rfl (by kernel_rfl)) ?_
 refine AL_g rfl rfl (.tmp rfl) rfl (fun hg47 => S_eql rfl (AEv.cd (.tmp rfl)) (AEv.cd (.tmp rfl))) ?_
 refine AL_p rfl rfl (S_and rfl (.tmp rfl) (fun hp50 => (AEv.cd (.tmp rfl)))) ?_
 refine mv rfl rfl rfl rfl ?_
 refine AL_g rfl rfl (.tmp rfl) rfl (fun hg51 => S_field 4 rfl (.tmp rfl) (by kernel_rfl)) ?_
 refine AL_g rfl rfl (.tmp rfl) rfl (fun hg54 => S_load 1 rfl (AEv.cd (.tmp rfl)) rfl rfl (by kernel_rfl)) ?_
 refine AL_g rfl rfl (.tmp rfl) rfl (fun hg57 => S_field 4 rfl (.tmp rfl) (by kernel_rfl)) ?_
 refine AL_g rfl rfl (.tmp rfl) rfl (fun hg60 => S_load 0 rfl (AEv.cd (.tmp rfl)) rfl rfl (by kernel_rfl)) ?_
 refine AL_g rfl rfl (.tmp rfl) rfl (fun hg63 => S_eqS rfl (AEv.cd (.tmp rfl)) (AEv.cd (.tmp rfl))) ?_
 refine AL_p rfl rfl (S_and rfl (.tmp rfl) (fun hp66 => (AEv.cd (.tmp rfl)))) ?_
 refine mv rfl rfl rfl rfl ?_
 refine AL_g rfl rfl (.tmp rfl) rfl (fun hg67 => S_field 5 rfl (.tmp rfl) (by kernel_rfl)) ?_
 refine AL_g rfl rfl (.tmp rfl) rfl (fun hg70 => S_load 1 rfl (AEv.cd (.tmp rfl)) rfl rfl (by kernel_rfl)) ?_
 refine AL_g rfl rfl (.tmp rfl) rfl (fun hg73 => S_field 5 rfl (.tmp rfl) (by kernel_rfl)) ?_
 refine AL_g rfl rfl (.tmp rfl) rfl (fun hg76 => S_load 0 rfl (AEv.cd (.tmp rfl)) rfl rfl (by kernel_rfl)) ?_
 refine AL_g rfl rfl (.tmp rfl) rfl (fun hg79 => S_pcall rfl (AEvs.cons (AEv.cd (.tmp rfl)) (AEvs.cons (AEv.cd (.tmp rfl)) AEvs.nil)) (book_SamePods_ok a.pods b.pods (by omega) (by omega) ha4 hb4')) ?_
 refine AL_p rfl rfl (S_and rfl (.tmp rfl) (fun hp82 => (AEv.cd (.tmp rfl)))) ?_
 refine mv rfl rfl rfl rfl ?_
 refine AL_g rfl rfl (.tmp rfl) rfl (fun hg83 => S_field 6 rfl (.tmp rfl) (by kernel_rfl)) ?_
 refine AL_g rfl rfl (.tmp rfl) rfl (fun hg86 => S_load 1 rfl (AEv.cd (.tmp rfl)) rfl rfl (by kernel_rfl)) ?_
 refine AL_g rfl rfl (.tmp rfl) rfl (fun hg89 => S_field 6 rfl (.tmp rfl) (by kernel_rfl)) ?_
 refine AL_g rfl rfl (.tmp rfl) rfl (fun hg92 => S_load 0 rfl (AEv.cd (.tmp rfl)) rfl rfl (by kernel_rfl)) ?_
 refine AL_g rfl rfl (.tmp rfl) rfl (fun hg95 => S_pcall rfl (AEvs.cons (y := .sl (ress a.use)) (AEv.cd (.tmp rfl)) (AEvs.cons (y := .sl (ress b.use)) (AEv.cd (.tmp rfl)) AEvs.nil)) (book_SameRes_ok a.use b.use (by omega) (by omega))) ?_
 refine AL_p rfl rfl (S_and rfl (.tmp rfl) (fun hp98 => (AEv.cd (.tmp rfl)))) ?_
 refine as_ rfl rfl rfl rfl ?_
 refine AL_nil (AC_ret ?_)
 refine ret_tmp st rfl rfl (Sub.l ((List.sublist_cons_self _ _).trans (List.sublist_cons_self _ _))) (Conv.refl (Sub.l ((List.sublist_cons_self _ _).trans (List.sublist_cons_self _ _))) _) ⟨congrArg AV.bool (by simp only [sameRp, Int.ofNat_inj]), rfl⟩ (.inl rfl)
set_option maxRecDepth 100000 in
theorem book_SameEvent_ok (a b : Evt) (ha : ShortP a.pod) (hb : ShortP b.pod) : PCalls Tryz.prog 56 [.agg (evtL a), .agg (evtL b)] (.bool (sameEv a b)) := by
 intro st
 refine ACalls_of (N := 24) Tryz.func56 (by kernel_rfl) rfl rfl rfl ?_
 refine AC_seq (AC_region ?_)
 refine AL_step rfl rfl (S_box rfl (.tmp rfl)) ?_
 rintro _ _ ⟨b2, rfl, rfl⟩
 refine AL_step rfl rfl (S_box rfl (.tmp rfl)) ?_
 rintro _ _ ⟨b3, rfl, rfl⟩
 refine ac rfl rfl rfl ?_
 refine AL_nil (AC_seq (AC_region ?_))
 refine AL_p rfl rfl (S_field 0 rfl (.tmp rfl) (by kernel_rfl)) ?_
 refine AL_p rfl rfl (S_load 1 rfl (.tmp rfl) rfl rfl (by kernel_rfl)) ?_
 refine AL_p rfl rfl (S_field 0 rfl (.tmp rfl) (by kernel_rfl)) ?_
 refine AL_p rfl rfl (S_load 0 rfl (.tmp rfl) rfl rfl (by kernel_rfl)) ?_
 refine AL_p rfl rfl (S_eql rfl (.tmp rfl) (.tmp rfl)) ?_
 refine mv rfl rfl rfl rfl ?_
 refine AL_g rfl rfl (.tmp rfl) rfl (fun hg3 => S_field 1 rfl (.tmp rfl) (by kernel_rfl)) ?_
 refine AL_g rfl rfl (.tmp rfl) rfl (fun hg6 => S_load 1 rfl (AEv.cd (.tmp rfl)) rfl rfl (by kernel_rfl)) ?_
 refine AL_g rfl rfl (.tmp rfl) rfl (fun hg9 => S_field 1 rfl (.tmp rfl) (by kernel_rfl)) ?_
 refine AL_g rfl rfl (.tmp rfl) rfl (fun hg12 => S_load 0 rfl (AEv.cd (.tmp rfl)) rfl rfl (by kernel_rfl)) ?_
 refine AL_g rfl rfl (.tmp rfl) rfl (fun hg15 => S_eql rfl (AEv.cd (.tmp rfl)) (AEv.cd (.tmp rfl))) ?_
 refine AL_p rfl rfl (S_and rfl (.tmp rfl) (fun hp18 => (AEv.cd (.tmp rfl)))) ?_
 refine mv rfl rfl rfl rfl ?_
 refine AL_g rfl rfl (.tmp rfl) rfl (fun hg19 => S_field 2 rfl (.tmp rfl) (by kernel_rfl)) ?_
 refine AL_g rfl rfl (.tmp rfl) rfl (fun hg22 => S_loadN (m := 13) 1 rfl (AEv.cd (.tmp rfl)) rfl (by kernel_rfl) (by first | exact Nat.le_of_ble_eq_true rfl | (simp; omega) | simp)) ?_
 refine AL_g rfl rfl (.tmp rfl) rfl (fun hg25 => S_field 2 rfl (.tmp rfl) (by kernel_rfl)) ?_
 refine AL_g rfl rfl (.tmp rfl) rfl (fun hg28 => S_loadN (m := 13) 0 rfl (AEv.cd (.tmp rfl)) rfl (by kernel_rfl) (by first | exact Nat.le_of_ble_eq_true rfl | (simp; omega) | simp)) ?_
 refine AL_g rfl rfl (.tmp rfl) rfl (fun hg31 => S_pcall rfl (AEvs.cons (y := podAV a.pod) (AEv.cd (.tmp rfl)) (AEvs.cons (y := podAV b.pod) (AEv.cd (.tmp rfl)) AEvs.nil)) (book_SamePod_ok a.pod b.pod ha hb)) ?_
 refine AL_p rfl rfl (S_and rfl (.tmp rfl) (fun hp34 => (AEv.cd (.tmp rfl)))) ?_
 refine as_ rfl rfl rfl rfl ?_
 refine AL_nil (AC_ret ?_)
 refine ret_tmp st rfl rfl (Sub.l ((List.sublist_cons_self _ _).trans (List.sublist_cons_self _ _))) (Conv.refl (Sub.l ((List.sublist_cons_self _ _).trans (List.sublist_cons_self _ _))) _) ⟨congrArg AV.bool (by simp only [sameEv, Int.ofNat_inj]), rfl⟩ (.inl rfl)
set_option maxRecDepth 100000 in
theorem book_SameMsg_ok (a b : Msg) (ha : ShortM a) (hb : ShortM b) : PCalls Tryz.prog 16 [msgAV a, msgAV b] (.bool (sameM a b)) := by
 intro st
 refine ACalls_of (N := 31) Tryz.func16 (by kernel_rfl) rfl rfl rfl ?_
 refine AC_seq (AC_region ?_)
 refine AL_step rfl rfl (S_box rfl (.tmp rfl)) ?_
 rintro _ _ ⟨b2, rfl, rfl⟩
 refine AL_step rfl rfl (S_box rfl (.tmp rfl)) ?_
 rintro _ _ ⟨b3, rfl, rfl⟩
 refine ac rfl rfl rfl ?_
 refine AL_nil (AC_seq (AC_region ?_))
 refine AL_p rfl rfl (S_field 0 rfl (.tmp rfl) (by kernel_rfl)) ?_
 refine AL_p rfl rfl (S_load 1 rfl (.tmp rfl) rfl rfl (by kernel_rfl)) ?_
 refine AL_p rfl rfl (S_field 0 rfl (.tmp rfl) (by kernel_rfl)) ?_
 refine AL_p rfl rfl (S_load 0 rfl (.tmp rfl) rfl rfl (by kernel_rfl)) ?_
 refine AL_p rfl rfl (S_eql rfl (.tmp rfl) (.tmp rfl)) ?_
 refine mv rfl rfl rfl rfl ?_
 refine AL_g rfl rfl (.tmp rfl) rfl (fun hg3 => S_field 1 rfl (.tmp rfl) (by kernel_rfl)) ?_
 refine AL_g rfl rfl (.tmp rfl) rfl (fun hg6 => S_load 1 rfl (AEv.cd (.tmp rfl)) rfl rfl (by kernel_rfl)) ?_
 refine AL_g rfl rfl (.tmp rfl) rfl (fun hg9 => S_field 1 rfl (.tmp rfl) (by kernel_rfl)) ?_
 refine AL_g rfl rfl (.tmp rfl) rfl (fun hg12 => S_load 0 rfl (AEv.cd (.tmp rfl)) rfl rfl (by kernel_rfl)) ?_
 refine AL_g rfl rfl (.tmp rfl) rfl (fun hg15 => S_eql rfl (AEv.cd (.tmp rfl)) (AEv.cd (.tmp rfl))) ?_
 refine AL_p rfl rfl (S_and rfl (.tmp rfl) (fun hp18 => (AEv.cd (.tmp rfl)))) ?_
 refine mv rfl rfl rfl rfl ?_
 refine AL_g rfl rfl (.tmp rfl) rfl (fun hg19 => S_field 2 rfl (.tmp rfl) (by kernel_rfl)) ?_
 refine AL_g rfl rfl (.tmp rfl) rfl (fun hg22 => S_loadN (m := 7) 1 rfl (AEv.cd (.tmp rfl)) rfl (by kernel_rfl) (by first | exact Nat.le_of_ble_eq_true rfl | (simp; omega) | simp)) ?_
 refine AL_g rfl rfl (.tmp rfl) rfl (fun hg25 => S_field 2 rfl (.tmp rfl) (by kernel_rfl)) ?_
 refine AL_g rfl rfl (.tmp rfl) rfl (fun hg28 => S_loadN (m := 7) 0 rfl (AEv.cd (.tmp rfl)) rfl (by kernel_rfl) (by first | exact Nat.le_of_ble_eq_true rfl | (simp; omega) | simp)) ?_
 refine AL_g rfl rfl (.tmp rfl) rfl (fun hg31 => S_pcall rfl (AEvs.cons (y := .agg (repL a.reply)) (AEv.cd (.tmp rfl)) (AEvs.cons (y := .agg (repL b.reply)) (AEv.cd (.tmp rfl)) AEvs.nil)) (book_SameReply_ok a.reply b.reply ha.1 hb.1)) ?_
 refine AL_p rfl rfl (S_and rfl (.tmp rfl) (fun hp34 => (AEv.cd (.tmp rfl)))) ?_
 refine mv rfl rfl rfl rfl ?_
 refine AL_g rfl rfl (.tmp rfl) rfl (fun hg35 => S_field 9 rfl (.tmp rfl) (by kernel_rfl)) ?_
 refine AL_g rfl rfl (.tmp rfl) rfl (fun hg38 => S_loadN (m := 15) 1 rfl (AEv.cd (.tmp rfl)) rfl (by kernel_rfl) (by first | exact Nat.le_of_ble_eq_true rfl | (simp; omega) | simp)) ?_
 refine AL_g rfl rfl (.tmp rfl) rfl (fun hg41 => S_field 9 rfl (.tmp rfl) (by kernel_rfl)) ?_
 refine AL_g rfl rfl (.tmp rfl) rfl (fun hg44 => S_loadN (m := 15) 0 rfl (AEv.cd (.tmp rfl)) rfl (by kernel_rfl) (by first | exact Nat.le_of_ble_eq_true rfl | (simp; omega) | simp)) ?_
 refine AL_g rfl rfl (.tmp rfl) rfl (fun hg47 => S_pcall rfl (AEvs.cons (y := .agg (evtL a.event)) (AEv.cd (.tmp rfl)) (AEvs.cons (y := .agg (evtL b.event)) (AEv.cd (.tmp rfl)) AEvs.nil)) (book_SameEvent_ok a.event b.event ha.2 hb.2)) ?_
 refine AL_p rfl rfl (S_and rfl (.tmp rfl) (fun hp50 => (AEv.cd (.tmp rfl)))) ?_
 refine as_ rfl rfl rfl rfl ?_
 refine AL_nil (AC_ret ?_)
 refine ret_tmp st rfl rfl (Sub.l ((List.sublist_cons_self _ _).trans (List.sublist_cons_self _ _))) (Conv.refl (Sub.l ((List.sublist_cons_self _ _).trans (List.sublist_cons_self _ _))) _) ⟨rfl, rfl⟩ (.inl rfl)
set_option maxRecDepth 100000 in
theorem law09_lightPod_ok (p : Pod) : PCalls Tryz.prog 18 [podAV p] (.bool (lightPd p)) := by
 intro st
 refine ACalls_of (N := 12) Tryz.func18 (by kernel_rfl) rfl rfl rfl ?_
 refine AC_seq (AC_region ?_)
 refine AL_step rfl rfl (S_box rfl (.tmp rfl)) ?_
 rintro _ _ ⟨b1, rfl, rfl⟩
 refine ac rfl rfl rfl ?_
 refine AL_nil (AC_seq (AC_region ?_))
 refine AL_p rfl rfl (S_field 2 rfl (.tmp rfl) (by kernel_rfl)) ?_
 refine AL_p rfl rfl (S_loadN (m := 7) 0 rfl (.tmp rfl) rfl (by kernel_rfl) (by first | exact Nat.le_of_ble_eq_true rfl | (simp; omega) | simp)) ?_
 refine AL_p rfl rfl (S_pcall rfl (AEvs.cons (.tmp rfl) AEvs.nil) (book_LightSpec_ok p.spec)) ?_
 refine mv rfl rfl rfl rfl ?_
 refine AL_g rfl rfl (.tmp rfl) rfl (fun hg2 => S_field 10 rfl (.tmp rfl) (by kernel_rfl)) ?_
 refine AL_g rfl rfl (.tmp rfl) rfl (fun hg5 => S_load 0 rfl (AEv.cd (.tmp rfl)) rfl rfl (by kernel_rfl)) ?_
 refine AL_g rfl rfl (.tmp rfl) rfl (fun hg8 => by first | exact S_lenM (e := 3) rfl (AEv.cd (.tmp rfl)) (by kernel_rfl) | exact S_len (e := 3) rfl (AEv.cd (.tmp rfl)) (by kernel_rfl)) ?_
 refine AL_g rfl rfl (.tmp rfl) rfl (fun hg11 => S_leq rfl (AEv.cd (.tmp rfl)) (AEv.const _)) ?_
 refine AL_p rfl rfl (S_and rfl (.tmp rfl) (fun hp14 => (AEv.cd (.tmp rfl)))) ?_
 refine as_ rfl rfl rfl rfl ?_
 refine AL_nil (AC_ret ?_)
 refine ret_tmp st rfl rfl (Sub.l (List.sublist_cons_self _ _)) (Conv.refl (Sub.l (List.sublist_cons_self _ _)) _) ⟨rfl, rfl⟩ (.inl rfl)
set_option maxRecDepth 100000 in
theorem law09_light_ok (m : Msg) : PCalls Tryz.prog 7 [msgAV m] (.bool (lightM m)) := by
 intro st
 refine ACalls_of (N := 46) Tryz.func7 (by kernel_rfl) rfl rfl rfl ?_
 refine AC_seq (AC_region ?_)
 refine AL_step rfl rfl (S_box rfl (.tmp rfl)) ?_
 rintro _ _ ⟨b1, rfl, rfl⟩
 refine ac rfl rfl rfl ?_
 refine AL_nil ?_
 refine AC_seq ?_
 refine AC_seq (AC_region ?_)
 refine AL_p rfl rfl (S_field 2 rfl (.tmp rfl) (by kernel_rfl)) ?_
 refine AL_p rfl rfl (S_field 4 rfl (.tmp rfl) (by kernel_rfl)) ?_
 refine AL_p rfl rfl (S_load 0 rfl (.tmp rfl) rfl rfl (by kernel_rfl)) ?_
 refine AL_p rfl rfl (S_lenS (ts := #[]) rfl (.tmp rfl) (by kernel_rfl)) ?_
 refine AL_p rfl rfl (S_gtr rfl (.tmp rfl) (AEv.const _)) ?_
 refine mv rfl rfl rfl rfl ?_
 refine AL_g rfl rfl (.tmp rfl) rfl (fun hg2 => S_field 2 rfl (.tmp rfl) (by kernel_rfl)) ?_
 refine AL_g rfl rfl (.tmp rfl) rfl (fun hg5 => S_field 5 rfl (AEv.cd (.tmp rfl)) (by kernel_rfl)) ?_
 refine AL_g rfl rfl (.tmp rfl) rfl (fun hg8 => S_load 0 rfl (AEv.cd (.tmp rfl)) rfl rfl (by kernel_rfl)) ?_
 refine AL_g rfl rfl (.tmp rfl) rfl (fun hg11 => by first | exact S_lenM (e := 34) rfl (AEv.cd (.tmp rfl)) (by kernel_rfl) | exact S_len (e := 34) rfl (AEv.cd (.tmp rfl)) (by kernel_rfl)) ?_
 refine AL_g rfl rfl (.tmp rfl) rfl (fun hg14 => S_gtr rfl (AEv.cd (.tmp rfl)) (AEv.const _)) ?_
 refine AL_p rfl rfl (S_or rfl (.tmp rfl) (fun hp17 => (AEv.cd (.tmp rfl)))) ?_
 refine mv rfl rfl rfl rfl ?_
 refine AL_g rfl rfl (.tmp rfl) rfl (fun hg18 => S_field 2 rfl (.tmp rfl) (by kernel_rfl)) ?_
 refine AL_g rfl rfl (.tmp rfl) rfl (fun hg21 => S_field 6 rfl (AEv.cd (.tmp rfl)) (by kernel_rfl)) ?_
 refine AL_g rfl rfl (.tmp rfl) rfl (fun hg24 => S_load 0 rfl (AEv.cd (.tmp rfl)) rfl rfl (by kernel_rfl)) ?_
 refine AL_g rfl rfl (.tmp rfl) rfl (fun hg27 => by first | exact S_lenM (e := 74) rfl (AEv.cd (.tmp rfl)) (by kernel_rfl) | exact S_len (e := 74) rfl (AEv.cd (.tmp rfl)) (by kernel_rfl)) ?_
 refine AL_g rfl rfl (.tmp rfl) rfl (fun hg30 => S_gtr rfl (AEv.cd (.tmp rfl)) (AEv.const _)) ?_
 refine AL_p rfl rfl (S_or rfl (.tmp rfl) (fun hp33 => (AEv.cd (.tmp rfl)))) ?_
 refine mv rfl rfl rfl rfl ?_
 refine AL_g rfl rfl (.tmp rfl) rfl (fun hg34 => S_field 9 rfl (.tmp rfl) (by kernel_rfl)) ?_
 refine AL_g rfl rfl (.tmp rfl) rfl (fun hg37 => S_field 2 rfl (AEv.cd (.tmp rfl)) (by kernel_rfl)) ?_
 refine AL_g rfl rfl (.tmp rfl) rfl (fun hg40 => S_loadN (m := 13) 0 rfl (AEv.cd (.tmp rfl)) rfl (by kernel_rfl) (by first | exact Nat.le_of_ble_eq_true rfl | (simp; omega) | simp)) ?_
 refine AL_g rfl rfl (.tmp rfl) rfl (fun hg43 => S_pcall rfl (AEvs.cons (y := podAV m.event.pod) (AEv.cd (.tmp rfl)) AEvs.nil) (law09_lightPod_ok m.event.pod)) ?_
 refine AL_g rfl rfl (.tmp rfl) rfl (fun hg46 => S_not rfl (AEv.cd (.tmp rfl))) ?_
 refine AL_p rfl rfl (S_or rfl (.tmp rfl) (fun hp49 => (AEv.cd (.tmp rfl)))) ?_
 refine AL_nil ?_
 refine AC_cond (.tmp rfl) (fun hb50 => ?_) (fun hb50 => ?_)
 ·try simp only [zA, zO, zN, zM, zP, zQ, zD, zF, gd] at hb50
  have hx : lightM m = false := by
   cases h9 : lightM m with
   | false => rfl
   | true =>
    exfalso
    simp only [lightM, Bool.and_eq_true, decide_eq_true_eq] at h9
    obtain ⟨⟨⟨⟨h1, h2⟩, h3⟩, h4⟩, h5⟩ := h9
    (try simp only [podsV, List.length_map] at hb50)
    rcases hb50 with ((h | h) | h) | h
    ·omega
    ·omega
    ·omega
    ·rw [h4] at h; cases h
  refine AC_seq (AC_region ?_)
  refine ac rfl rfl rfl ?_
  refine AL_nil (AC_ret ?_)
  refine ret_tmp st rfl rfl (Sub.l (List.sublist_cons_self _ _)) (Conv.refl (Sub.l (List.sublist_cons_self _ _)) _) ⟨by rw [hx] <;> rfl, rfl⟩ (.inl rfl)
 try simp only [zA, zO, zN, zM, zP, zQ, zD, zF, gd] at hb50
 have hh := hb50
 refine AC_skip ?_
 refine AC_seq ?_
 refine AC_seq (AC_region ?_)
 refine ac rfl rfl rfl ?_
 refine AL_nil ?_
 refine AC_block ?_
 refine AC_loopK (G := Nat) [(1, _)] (fun g => g ≤ m.reply.pods.length ∧ ∀ j (h : j < m.reply.pods.length), j < g → lightPd (m.reply.pods[j]'h) = true) (fun g => [(3, .int .i64 (g : Int))]) (fun g => (b1, .cells (msgL m)) :: st) (fun g => m.reply.pods.length - g) (0) (⟨Nat.zero_le _, fun j _ h => absurd h (Nat.not_lt_zero _)⟩) (Sub.l (List.Sublist.refl _)) (.cons rfl (Le.refl _) .nil) (.cons rfl (by first | exact Le.refl _ | exact Le.nils | exact Le.row _ _ _ _ | exact Le.of_eq (by first | rfl | (simp; done) | (push_cast; rfl) | (simp; omega))) .nil) ?_
 rintro i ⟨hi, hall⟩
 try dsimp only
 simp only [List.cons_append, List.nil_append]
 refine AC_seq ?_
 refine AC_seq (AC_region ?_)
 refine mv rfl rfl rfl rfl ?_
 refine AL_p rfl rfl (S_field 2 rfl (.tmp rfl) (by kernel_rfl)) ?_
 refine AL_p rfl rfl (S_field 5 rfl (.tmp rfl) (by kernel_rfl)) ?_
 refine AL_p rfl rfl (S_load 0 rfl (.tmp rfl) rfl rfl (by kernel_rfl)) ?_
 refine AL_p rfl rfl (by first | exact S_lenM (e := 34) rfl (.tmp rfl) (by kernel_rfl) | exact S_len (e := 34) rfl (.tmp rfl) (by kernel_rfl)) ?_
 refine AL_p rfl rfl (S_lss rfl (.tmp rfl) (.tmp rfl)) ?_
 refine AL_nil ?_
 refine AC_cond (.tmp rfl) (fun hb51 => ?_) (fun hb51 => ?_)
 ·try simp only [zA, zO, zN, zM, zP, zQ, zD, zF, gd] at hb51
  have hil : i < m.reply.pods.length := by first | omega | (have h9 := hb51; simp [podsV] at h9; omega)
  refine AC_skip ?_
  refine AC_seq ?_
  refine AC_block ?_
  refine AC_seq (AC_region ?_)
  refine AL_p rfl rfl (S_field 2 rfl (.tmp rfl) (by kernel_rfl)) ?_
  refine AL_p rfl rfl (S_field 5 rfl (.tmp rfl) (by kernel_rfl)) ?_
  refine AL_p rfl rfl (S_load 0 rfl (.tmp rfl) rfl rfl (by kernel_rfl)) ?_
  refine mv rfl rfl rfl rfl ?_
  refine AL_p rfl rfl (S_elemN (e := 34) 13 rfl (.tmp rfl) (.tmp rfl) (by kernel_rfl) (by kernel_rfl) (by omega) (fun _ => rfl)) ?_
  refine AL_p rfl rfl (S_loadPN (m := 13) rfl (.tmp rfl) (by kernel_rfl) (by first | exact Nat.le_of_ble_eq_true rfl | (simp; omega) | simp)) ?_
  refine AL_p rfl rfl (S_pcall rfl (AEvs.cons (y := podAV (m.reply.pods[i]'hil)) (.tmp rfl) AEvs.nil) (law09_lightPod_ok (m.reply.pods[i]'hil))) ?_
  refine AL_p rfl rfl (S_not rfl (.tmp rfl)) ?_
  refine AL_nil ?_
  refine AC_cond (.tmp rfl) (fun hb52 => ?_) (fun hb52 => ?_)
  ·try simp only [zA, zO, zN, zM, zP, zQ, zD, zF, gd] at hb52
   have hx : lightM m = false := by
    cases h9 : lightM m with
    | false => rfl
    | true =>
     exfalso
     simp only [lightM, Bool.and_eq_true, List.all_eq_true] at h9
     have h1 := h9.2 _ (List.getElem_mem hil)
     rw [h1] at hb52; simp at hb52
   refine AC_seq (AC_region ?_)
   refine ac rfl rfl rfl ?_
   refine AL_nil (AC_ret ?_)
   refine ret_tmp st rfl rfl (Sub.l (List.sublist_cons_self _ _)) (Conv.refl (Sub.l (List.sublist_cons_self _ _)) _) ⟨by rw [hx] <;> rfl, rfl⟩ (.inl rfl)
  try simp only [zA, zO, zN, zM, zP, zQ, zD, zF, gd] at hb52
  have hne : lightPd (m.reply.pods[i]'hil) = true := by simpa using hb52
  refine AC_skip ?_
  refine AC_region ?_
  refine mv rfl rfl rfl rfl ?_
  refine AL_p rfl rfl (S_addI rfl (.tmp rfl) (AEv.const _) (by omega) (by omega)) ?_
  refine as_ rfl rfl rfl rfl ?_
  refine AL_nil ?_
  refine ⟨i + 1, ⟨by omega, fun j h1 h => ?_⟩, by omega, (Sub.l (List.Sublist.refl _)), (.cons rfl (by first | exact Le.refl _ | exact Le.nils | exact Le.row _ _ _ _ | exact Le.of_eq (by first | rfl | (simp; done) | (push_cast; rfl) | (simp; omega))) .nil), (.cons rfl (Le.refl _) .nil)⟩
  rcases Nat.lt_or_ge j i with h' | h'
  ·exact hall j h1 h'
  ·have : j = i := by omega
   subst this
   exact hne
 try simp only [zA, zO, zN, zM, zP, zQ, zD, zF, gd] at hb51
 have hx : lightM m = true := by
  have hp : m.reply.pods.all lightPd = true := lightPd_all fun j hj => hall j hj (by first | omega | (have h9 := hb51; simp [podsV] at h9; omega))
  obtain ⟨⟨⟨h1, h2⟩, h3⟩, h4⟩ := hh
  unfold lightM
  rw [hp, decide_eq_true (by omega), decide_eq_true (by omega), decide_eq_true (by omega)]
  simpa using h4
 refine AC_exit ?_
 refine AC_seq (AC_region ?_)
 refine ac rfl rfl rfl ?_
 refine AL_nil (AC_ret ?_)
 refine ret_tmp st rfl rfl (Sub.l (List.sublist_cons_self _ _)) (Conv.refl (Sub.l (List.sublist_cons_self _ _)) _) ⟨by rw [hx] <;> rfl, rfl⟩ (.inl rfl)
set_option maxRecDepth 100000 in
theorem law09_works_ok : GCalls Tryz.prog tabs 8 [] (.bool true) := by
 intro st hG
 refine ACalls_of (N := 43) Tryz.func8 (by kernel_rfl) rfl rfl rfl ?_
 have e1 := wM_line
 have e2 := msg0_check
 refine AC_seq (AC_region ?_)
 refine ac rfl rfl rfl ?_
 refine AL_nil (AC_seq (AC_region ?_))
 refine AL_p rfl rfl (S_build (t := 27) (pl := [(0, 1), (1, 1), (2, 1), (3, 1), (4, 1), (5, 1), (6, 1)]) (zs := [.int .i64 0, .int .i64 0, .int .i64 0, .int .u64 0, .string ⟨#[]⟩, .slice none 0 0, .slice none 0 0]) rfl (AEvs.cons (AEv.const _) AEvs.nil) (by kernel_rfl) rfl) ?_
 refine AL_p rfl rfl (S_build (t := 38) (pl := [(0, 1), (1, 1), (2, 7), (9, 15)]) (zs := [.int .i64 0, .int .i64 0, .int .i64 0, .int .i64 0, .int .i64 0, .int .u64 0, .string ⟨#[]⟩, .slice none 0 0, .slice none 0 0, .int .i64 0, .int .u64 0, .int .i64 0, .int .u64 0, .string ⟨#[]⟩, .slice none 0 0, .slice none 0 0, .slice none 0 0, .int .i64 0, .int .i64 0, .int .i64 0, .int .i64 0, .slice none 0 0, .int .i64 0, .int .i64 0]) rfl (AEvs.cons (AEv.const _) (AEvs.cons (AEv.const _) (AEvs.cons (.tmp rfl) AEvs.nil))) (by kernel_rfl) rfl) ?_
 refine AL_step rfl rfl (S_alloc [.int .i64 0, .int .i64 0, .int .i64 0, .int .i64 0, .int .i64 0, .int .u64 0, .string ⟨#[]⟩, .slice none 0 0, .slice none 0 0, .int .i64 0, .int .u64 0, .int .i64 0, .int .u64 0, .string ⟨#[]⟩, .slice none 0 0, .slice none 0 0, .slice none 0 0, .int .i64 0, .int .i64 0, .int .i64 0, .int .i64 0, .slice none 0 0, .int .i64 0, .int .i64 0] rfl (by kernel_rfl)) ?_
 rintro _ _ ⟨b1, rfl, rfl⟩
 refine AL_step rfl rfl (S_storeW 0 rfl (.tmp rfl) ((AEv.tmp rfl).le (z := msgAV wM) (by exact (Les.agg (.cons (Le.refl _) (.cons (Le.refl _) (.cons (Le.refl _) (.cons (Le.refl _) (.cons (Le.refl _) (.cons (Le.refl _) (.cons (Le.refl _) (.cons (Le.nils) (.cons (Le.nils) (.cons (Le.refl _) (.cons (Le.refl _) (.cons (Le.refl _) (.cons (Le.refl _) (.cons (Le.refl _) (.cons (Le.nils) (.cons (Le.nils) (.cons (Le.nils) (.cons (Le.refl _) (.cons (Le.refl _) (.cons (Le.refl _) (.cons (Le.refl _) (.cons (Le.nils) (.cons (Le.refl _) (.cons (Le.refl _) .nil))))))))))))))))))))))))))) rfl rfl rfl (by kernel_rfl)) ?_
 rintro _ _ ⟨rfl, rfl⟩
 refine AL_nil (AC_seq (AC_region ?_))
 refine AL_p rfl rfl (S_loadN (m := 24) 0 rfl (.tmp rfl) rfl (by kernel_rfl) (by first | exact Nat.le_of_ble_eq_true rfl | (simp; omega) | simp)) ?_
 refine AL_p rfl rfl (S_gcall rfl (AEvs.cons (y := msgAV wM) (.tmp rfl) AEvs.nil) ((GCalls.of_eq (tell_Bytes_ok wM wM_short wM_u) wM_bytes) _ (fun p hp => by repeat (first | exact hG p hp | refine List.mem_cons_of_mem _ ?_ | refine List.mem_append_right _ ?_)))) ?_
 refine mv rfl rfl rfl rfl ?_
 refine AL_p rfl rfl (S_extract 0 rfl (.tmp rfl) rfl) ?_
 refine AL_p rfl rfl (S_extract 1 rfl (.tmp rfl) rfl) ?_
 refine as_ rfl rfl rfl rfl ?_
 refine as_ rfl rfl rfl rfl ?_
 refine AL_nil (AC_seq (AC_region ?_))
 refine mv rfl rfl rfl rfl ?_
 refine AL_p rfl rfl (S_gcall rfl (AEvs.cons (.tmp rfl) AEvs.nil) ((GCalls.of_eq (tell_Of_ok [1, 3, 6, 0, 0, 0, 0, 0, 0]) (congrArg (fun x : Msg × Int => AV.tup [msgAV x.1, .int .i64 x.2]) (show (ofM [1, 3, 6, 0, 0, 0, 0, 0, 0], ofMC [1, 3, 6, 0, 0, 0, 0, 0, 0]) = (wM, 0) from wM_of))) _ (fun p hp => by repeat (first | exact hG p hp | refine List.mem_cons_of_mem _ ?_ | refine List.mem_append_right _ ?_)))) ?_
 refine mv rfl rfl rfl rfl ?_
 refine AL_p rfl rfl (S_extract 0 rfl (.tmp rfl) rfl) ?_
 refine AL_p rfl rfl (S_extract 1 rfl (.tmp rfl) rfl) ?_
 refine AL_step rfl rfl (S_alloc [.int .i64 0, .int .i64 0, .int .i64 0, .int .i64 0, .int .i64 0, .int .u64 0, .string ⟨#[]⟩, .slice none 0 0, .slice none 0 0, .int .i64 0, .int .u64 0, .int .i64 0, .int .u64 0, .string ⟨#[]⟩, .slice none 0 0, .slice none 0 0, .slice none 0 0, .int .i64 0, .int .i64 0, .int .i64 0, .int .i64 0, .slice none 0 0, .int .i64 0, .int .i64 0] rfl (by kernel_rfl)) ?_
 rintro _ _ ⟨b4, rfl, rfl⟩
 refine AL_step rfl rfl (S_storeW 0 rfl (.tmp rfl) (.tmp rfl) rfl rfl rfl (by kernel_rfl)) ?_
 rintro _ _ ⟨rfl, rfl⟩
 refine as_ rfl rfl rfl rfl ?_
 refine AL_nil (AC_seq (AC_region ?_))
 refine AL_p rfl rfl (S_loadN (m := 24) 1 rfl (.tmp rfl) rfl (by kernel_rfl) (by first | exact Nat.le_of_ble_eq_true rfl | (simp; omega) | simp)) ?_
 refine AL_p rfl rfl (S_pcall rfl (AEvs.cons (y := msgAV wM) (.tmp rfl) AEvs.nil) (tell_Line_ok wM wM_short wM_u wM_f)) ?_
 refine AL_p rfl rfl (S_eqS rfl (.tmp rfl) (AEv.S _)) ?_
 refine mv rfl rfl rfl rfl ?_
 refine AL_g rfl rfl (.tmp rfl) rfl (fun hg3 => S_move rfl (.tmp rfl)) ?_
 refine AL_g rfl rfl (.tmp rfl) rfl (fun hg6 => S_eqS rfl (AEv.cd (.tmp rfl)) (AEv.S _)) ?_
 refine AL_p rfl rfl (S_and rfl (.tmp rfl) (fun hp9 => (AEv.cd (.tmp rfl)))) ?_
 refine mv rfl rfl rfl rfl ?_
 refine AL_g rfl rfl (.tmp rfl) rfl (fun hg10 => S_move rfl (.tmp rfl)) ?_
 refine AL_g rfl rfl (.tmp rfl) rfl (fun hg13 => S_eql rfl (AEv.cd (.tmp rfl)) (AEv.const _)) ?_
 refine AL_p rfl rfl (S_and rfl (.tmp rfl) (fun hp16 => (AEv.cd (.tmp rfl)))) ?_
 refine mv rfl rfl rfl rfl ?_
 refine AL_g rfl rfl (.tmp rfl) rfl (fun hg17 => S_move rfl (.tmp rfl)) ?_
 refine AL_g rfl rfl (.tmp rfl) rfl (fun hg20 => S_eql rfl (AEv.cd (.tmp rfl)) (AEv.const _)) ?_
 refine AL_p rfl rfl (S_and rfl (.tmp rfl) (fun hp23 => (AEv.cd (.tmp rfl)))) ?_
 refine mv rfl rfl rfl rfl ?_
 refine AL_g rfl rfl (.tmp rfl) rfl (fun hg24 => S_field 1 rfl (.tmp rfl) (by kernel_rfl)) ?_
 refine AL_g rfl rfl (.tmp rfl) rfl (fun hg27 => S_load 0 rfl (AEv.cd (.tmp rfl)) rfl rfl (by kernel_rfl)) ?_
 refine AL_g rfl rfl (.tmp rfl) rfl (fun hg30 => S_eql rfl (AEv.cd (.tmp rfl)) (AEv.const _)) ?_
 refine AL_p rfl rfl (S_and rfl (.tmp rfl) (fun hp33 => (AEv.cd (.tmp rfl)))) ?_
 refine mv rfl rfl rfl rfl ?_
 refine AL_g rfl rfl (.tmp rfl) rfl (fun hg34 => S_build (t := 38) (pl := [(0, 1), (1, 1), (2, 7), (9, 15)]) (zs := [.int .i64 0, .int .i64 0, .int .i64 0, .int .i64 0, .int .i64 0, .int .u64 0, .string ⟨#[]⟩, .slice none 0 0, .slice none 0 0, .int .i64 0, .int .u64 0, .int .i64 0, .int .u64 0, .string ⟨#[]⟩, .slice none 0 0, .slice none 0 0, .slice none 0 0, .int .i64 0, .int .i64 0, .int .i64 0, .int .i64 0, .slice none 0 0, .int .i64 0, .int .i64 0]) rfl AEvs.nil (by kernel_rfl) rfl) ?_
 refine AL_g rfl rfl (.tmp rfl) rfl (fun hg37 => S_gcall rfl (AEvs.cons (y := msgAV msg0) ((AEv.cd (.tmp rfl)).le (by exact (Les.agg (.cons (Le.refl _) (.cons (Le.refl _) (.cons (Le.refl _) (.cons (Le.refl _) (.cons (Le.refl _) (.cons (Le.refl _) (.cons (Le.refl _) (.cons (Le.nils) (.cons (Le.nils) (.cons (Le.refl _) (.cons (Le.refl _) (.cons (Le.refl _) (.cons (Le.refl _) (.cons (Le.refl _) (.cons (Le.nils) (.cons (Le.nils) (.cons (Le.nils) (.cons (Le.refl _) (.cons (Le.refl _) (.cons (Le.refl _) (.cons (Le.refl _) (.cons (Le.nils) (.cons (Le.refl _) (.cons (Le.refl _) .nil))))))))))))))))))))))))))) AEvs.nil) ((tell_Check_ok msg0 msg0_short) _ (fun p hp => by repeat (first | exact hG p hp | refine List.mem_cons_of_mem _ ?_ | refine List.mem_append_right _ ?_)))) ?_
 refine AL_g rfl rfl (.tmp rfl) rfl (fun hg40 => S_eql rfl (AEv.cd (.tmp rfl)) (AEv.const _)) ?_
 refine AL_p rfl rfl (S_and rfl (.tmp rfl) (fun hp43 => (AEv.cd (.tmp rfl)))) ?_
 refine as_ rfl rfl rfl rfl ?_
 refine AL_nil (AC_ret ?_)
 refine ret_tmp st rfl rfl (Sub.l ((List.sublist_cons_self _ _).trans (List.sublist_cons_self _ _))) (Conv.refl (Sub.l ((List.sublist_cons_self _ _).trans (List.sublist_cons_self _ _))) _) ⟨congrArg AV.bool (by rw [e1, e2]; rfl), rfl⟩ (.inl rfl)
set_option maxRecDepth 100000 in
set_option maxHeartbeats 1000000 in
theorem law_TellBack (m : Msg) (hu : MsgU m) (t : List UInt8) : GCalls Tryz.prog tabs 5 [msgAV m, .S t] (.bool true) := by
 intro st hG
 refine ACalls_of (N := 83) Tryz.func5 (by kernel_rfl) rfl rfl rfl ?_
 refine AC_seq (AC_region ?_)
 refine AL_step rfl rfl (S_box rfl (.tmp rfl)) ?_
 rintro _ _ ⟨b2, rfl, rfl⟩
 refine ac rfl rfl rfl ?_
 refine AL_nil ?_
 refine AC_seq ?_
 refine AC_seq (AC_region ?_)
 refine AL_p rfl rfl (S_gcall rfl AEvs.nil ((law09_works_ok) _ (fun p hp => by repeat (first | exact hG p hp | refine List.mem_cons_of_mem _ ?_ | refine List.mem_append_right _ ?_)))) ?_
 refine AL_p rfl rfl (S_not rfl (.tmp rfl)) ?_
 refine AL_nil ?_
 refine AC_cond (.tmp rfl) (fun hb2 => ?_) (fun hb2 => ?_)
 ·simp at hb2; done
 try simp only [zA, zO, zN, zM, zP, zQ, zD, zF, gd] at hb2
 refine AC_skip ?_
 refine AC_seq ?_
 refine AC_seq (AC_region ?_)
 refine AL_p rfl rfl (S_loadN (m := 24) 0 rfl (.tmp rfl) rfl (by kernel_rfl) (by first | exact Nat.le_of_ble_eq_true rfl | (simp; omega) | simp)) ?_
 refine AL_p rfl rfl (S_pcall rfl (AEvs.cons (y := msgAV m) (.tmp rfl) AEvs.nil) (law09_light_ok m)) ?_
 refine AL_p rfl rfl (S_not rfl (.tmp rfl)) ?_
 refine mv rfl rfl rfl rfl ?_
 refine AL_g rfl rfl (.tmp rfl) rfl (fun hg3 => S_move rfl (.tmp rfl)) ?_
 refine AL_g rfl rfl (.tmp rfl) rfl (fun hg6 => S_lenS (ts := #[]) rfl (AEv.cd (.tmp rfl)) (by kernel_rfl)) ?_
 refine AL_g rfl rfl (.tmp rfl) rfl (fun hg9 => S_gtr rfl (AEv.cd (.tmp rfl)) (AEv.const _)) ?_
 refine AL_p rfl rfl (S_or rfl (.tmp rfl) (fun hp12 => (AEv.cd (.tmp rfl)))) ?_
 refine AL_nil ?_
 refine AC_cond (.tmp rfl) (fun hb13 => ?_) (fun hb13 => ?_)
 ·try simp only [zA, zO, zN, zM, zP, zQ, zD, zF, gd] at hb13
  refine AC_seq (AC_region ?_)
  refine ac rfl rfl rfl ?_
  refine AL_nil (AC_ret ?_)
  refine ret_tmp st rfl rfl (Sub.l (List.sublist_cons_self _ _)) (Conv.refl (Sub.l (List.sublist_cons_self _ _)) _) ⟨rfl, rfl⟩ (.inl rfl)
 try simp only [zA, zO, zN, zM, zP, zQ, zD, zF, gd] at hb13
 have hl : lightM m = true := by simpa using hb13.1
 have hsm := lightM_short hl
 refine AC_skip ?_
 refine AC_seq (AC_region ?_)
 refine AL_p rfl rfl (S_loadN (m := 24) 0 rfl (.tmp rfl) rfl (by kernel_rfl) (by first | exact Nat.le_of_ble_eq_true rfl | (simp; omega) | simp)) ?_
 refine AL_p rfl rfl (S_gcall rfl (AEvs.cons (y := msgAV m) (.tmp rfl) AEvs.nil) ((tell_Bytes_ok m hsm hu) _ (fun p hp => by repeat (first | exact hG p hp | refine List.mem_cons_of_mem _ ?_ | refine List.mem_append_right _ ?_)))) ?_
 refine mv rfl rfl rfl rfl ?_
 refine AL_p rfl rfl (S_extract 0 rfl (.tmp rfl) rfl) ?_
 refine AL_p rfl rfl (S_extract 1 rfl (.tmp rfl) rfl) ?_
 refine as_ rfl rfl rfl rfl ?_
 refine as_ rfl rfl rfl rfl ?_
 refine AL_nil ?_
 refine AC_seq ?_
 refine AC_seq (AC_region ?_)
 refine mv rfl rfl rfl rfl ?_
 refine AL_p rfl rfl (S_eql rfl (.tmp rfl) (AEv.const _)) ?_
 refine AL_p rfl rfl (S_loadN (m := 24) 0 rfl (.tmp rfl) rfl (by kernel_rfl) (by first | exact Nat.le_of_ble_eq_true rfl | (simp; omega) | simp)) ?_
 refine AL_p rfl rfl (S_gcall rfl (AEvs.cons (y := msgAV m) (.tmp rfl) AEvs.nil) ((tell_Check_ok m hsm) _ (fun p hp => by repeat (first | exact hG p hp | refine List.mem_cons_of_mem _ ?_ | refine List.mem_append_right _ ?_)))) ?_
 refine AL_p rfl rfl (S_eql rfl (.tmp rfl) (AEv.const _)) ?_
 refine AL_p rfl rfl (S_neB rfl (.tmp rfl) (.tmp rfl) (by kernel_rfl)) ?_
 refine mv rfl rfl rfl rfl ?_
 refine AL_g rfl rfl (.tmp rfl) rfl (fun hg14 => S_move rfl (.tmp rfl)) ?_
 refine AL_g rfl rfl (.tmp rfl) rfl (fun hg17 => S_eql rfl (AEv.cd (.tmp rfl)) (AEv.const _)) ?_
 refine AL_g rfl rfl (.tmp rfl) rfl (fun hg20 => S_move rfl (.tmp rfl)) ?_
 refine AL_g rfl rfl (.tmp rfl) rfl (fun hg23 => S_neS rfl (AEv.cd (.tmp rfl)) (AEv.S _)) ?_
 refine AL_g rfl rfl (.tmp rfl) rfl (fun hg26 => S_neB rfl (AEv.cd (.tmp rfl)) (AEv.cd (.tmp rfl)) (by kernel_rfl)) ?_
 refine AL_p rfl rfl (S_or rfl (.tmp rfl) (fun hp29 => (AEv.cd (.tmp rfl)))) ?_
 refine AL_nil ?_
 refine AC_cond (.tmp rfl) (fun hb30 => ?_) (fun hb30 => ?_)
 ·exfalso; (try simp only [zA, zO, zN, zM, zP, zQ, zD, zF, gd] at hb30); exact tell_six hb30
 try simp only [zA, zO, zN, zM, zP, zQ, zD, zF, gd] at hb30
 refine AC_skip ?_
 refine AC_joinK (G := Unit) [(1, _), (2, _), (5, _), (6, _)] (fun _ => True) (fun _ => []) (fun _ => (b2, .cells (msgL m)) :: st) (.cons rfl (Le.refl _) (.cons rfl (Le.refl _) (.cons rfl (Le.refl _) (.cons rfl (Le.refl _) .nil)))) ?_ ?_
 ·refine AC_seq (AC_region ?_)
  refine mv rfl rfl rfl rfl ?_
  refine AL_p rfl rfl (S_eql rfl (.tmp rfl) (AEv.const _)) ?_
  refine AL_nil ?_
  refine AC_cond (.tmp rfl) (fun hb31 => ?_) (fun hb31 => ?_)
  ·try simp only [zA, zO, zN, zM, zP, zQ, zD, zF, gd] at hb31
   have hk : checkM m = 0 := hb31
   refine AC_seq (AC_region ?_)
   refine mv rfl rfl rfl rfl ?_
   refine AL_p rfl rfl (S_gcall rfl (AEvs.cons (.tmp rfl) AEvs.nil) ((GCalls.of_eq (tell_Of_ok (if (checkM m) = 0 then msgB m else [])) (congrArg (fun x : Msg × Int => AV.tup [msgAV x.1, .int .i64 x.2]) (show (ofM (if (checkM m) = 0 then msgB m else []), ofMC (if (checkM m) = 0 then msgB m else [])) = (m, 0) from (by rw [if_pos hk]; exact ofM_of hu hk)))) _ (fun p hp => by repeat (first | exact hG p hp | refine List.mem_cons_of_mem _ ?_ | refine List.mem_append_right _ ?_)))) ?_
   refine mv rfl rfl rfl rfl ?_
   refine AL_p rfl rfl (S_extract 0 rfl (.tmp rfl) rfl) ?_
   refine AL_p rfl rfl (S_extract 1 rfl (.tmp rfl) rfl) ?_
   refine AL_step rfl rfl (S_alloc [.int .i64 0, .int .i64 0, .int .i64 0, .int .i64 0, .int .i64 0, .int .u64 0, .string ⟨#[]⟩, .slice none 0 0, .slice none 0 0, .int .i64 0, .int .u64 0, .int .i64 0, .int .u64 0, .string ⟨#[]⟩, .slice none 0 0, .slice none 0 0, .slice none 0 0, .int .i64 0, .int .i64 0, .int .i64 0, .int .i64 0, .slice none 0 0, .int .i64 0, .int .i64 0] rfl (by kernel_rfl)) ?_
   rintro _ _ ⟨b7, rfl, rfl⟩
   refine AL_step rfl rfl (S_storeW 0 rfl (.tmp rfl) (.tmp rfl) rfl rfl rfl (by kernel_rfl)) ?_
   rintro _ _ ⟨rfl, rfl⟩
   refine as_ rfl rfl rfl rfl ?_
   refine AL_nil (AC_seq (AC_region ?_))
   refine mv rfl rfl rfl rfl ?_
   refine AL_p rfl rfl (S_neq rfl (.tmp rfl) (AEv.const _)) ?_
   refine mv rfl rfl rfl rfl ?_
   refine AL_g rfl rfl (.tmp rfl) rfl (fun hg33 => S_loadN (m := 24) 0 rfl (.tmp rfl) rfl (by kernel_rfl) (by first | exact Nat.le_of_ble_eq_true rfl | (simp; omega) | simp)) ?_
   refine AL_g rfl rfl (.tmp rfl) rfl (fun hg36 => S_loadN (m := 24) 1 rfl (.tmp rfl) rfl (by kernel_rfl) (by first | exact Nat.le_of_ble_eq_true rfl | (simp; omega) | simp)) ?_
   refine AL_g rfl rfl (.tmp rfl) rfl (fun hg39 => S_pcall rfl (AEvs.cons (y := msgAV m) (AEv.cd (.tmp rfl)) (AEvs.cons (y := msgAV m) (AEv.cd (.tmp rfl)) AEvs.nil)) (book_SameMsg_ok m m hsm hsm)) ?_
   refine AL_g rfl rfl (.tmp rfl) rfl (fun hg42 => S_not rfl (AEv.cd (.tmp rfl))) ?_
   refine AL_p rfl rfl (S_or rfl (.tmp rfl) (fun hp45 => (AEv.cd (.tmp rfl)))) ?_
   refine AL_nil ?_
   refine AC_cond (.tmp rfl) (fun hb46 => ?_) (fun hb46 => ?_)
   ·exfalso; (try simp only [zA, zO, zN, zM, zP, zQ, zD, zF, gd] at hb46); rw [sameM_refl] at hb46; simp at hb46
   try simp only [zA, zO, zN, zM, zP, zQ, zD, zF, gd] at hb46
   refine AC_skip ?_
   exact ⟨(), trivial, (Sub.l (List.sublist_cons_self _ _)), .nil, (.cons rfl (Le.refl _) (.cons rfl (Le.refl _) (.cons rfl (Le.refl _) (.cons rfl (Le.refl _) .nil))))⟩
  try simp only [zA, zO, zN, zM, zP, zQ, zD, zF, gd] at hb31
  refine AC_skip ?_
  exact ⟨(), trivial, (Sub.l (List.Sublist.refl _)), .nil, (.cons rfl (Le.refl _) (.cons rfl (Le.refl _) (.cons rfl (Le.refl _) (.cons rfl (Le.refl _) .nil))))⟩
 rintro _ _
 try dsimp only
 simp only [List.cons_append, List.nil_append]
 refine AC_seq (AC_region ?_)
 refine mv rfl rfl rfl rfl ?_
 refine AL_p rfl rfl (S_gcall rfl (AEvs.cons (.tmp rfl) AEvs.nil) ((tell_Of_ok t) _ (fun p hp => by repeat (first | exact hG p hp | refine List.mem_cons_of_mem _ ?_ | refine List.mem_append_right _ ?_)))) ?_
 refine mv rfl rfl rfl rfl ?_
 refine AL_p rfl rfl (S_extract 0 rfl (.tmp rfl) rfl) ?_
 refine AL_p rfl rfl (S_extract 1 rfl (.tmp rfl) rfl) ?_
 refine AL_step rfl rfl (S_alloc [.int .i64 0, .int .i64 0, .int .i64 0, .int .i64 0, .int .i64 0, .int .u64 0, .string ⟨#[]⟩, .slice none 0 0, .slice none 0 0, .int .i64 0, .int .u64 0, .int .i64 0, .int .u64 0, .string ⟨#[]⟩, .slice none 0 0, .slice none 0 0, .slice none 0 0, .int .i64 0, .int .i64 0, .int .i64 0, .int .i64 0, .slice none 0 0, .int .i64 0, .int .i64 0] rfl (by kernel_rfl)) ?_
 rintro _ _ ⟨b9, rfl, rfl⟩
 refine AL_step rfl rfl (S_storeW 0 rfl (.tmp rfl) (.tmp rfl) rfl rfl rfl (by kernel_rfl)) ?_
 rintro _ _ ⟨rfl, rfl⟩
 refine as_ rfl rfl rfl rfl ?_
 refine AL_nil ?_
 refine AC_seq ?_
 refine AC_seq (AC_region ?_)
 refine mv rfl rfl rfl rfl ?_
 refine AL_p rfl rfl (S_neq rfl (.tmp rfl) (AEv.const _)) ?_
 refine AL_nil ?_
 refine AC_cond (.tmp rfl) (fun hb48 => ?_) (fun hb48 => ?_)
 ·try simp only [zA, zO, zN, zM, zP, zQ, zD, zF, gd] at hb48
  have hx : ofM t = msg0 := ofM_bad (by simpa using hb48)
  refine AC_seq (AC_region ?_)
  refine AL_p rfl rfl (S_loadN (m := 24) 0 rfl (.tmp rfl) rfl (by kernel_rfl) (by first | exact Nat.le_of_ble_eq_true rfl | (simp; omega) | simp)) ?_
  refine AL_p rfl rfl (S_build (t := 38) (pl := [(0, 1), (1, 1), (2, 7), (9, 15)]) (zs := [.int .i64 0, .int .i64 0, .int .i64 0, .int .i64 0, .int .i64 0, .int .u64 0, .string ⟨#[]⟩, .slice none 0 0, .slice none 0 0, .int .i64 0, .int .u64 0, .int .i64 0, .int .u64 0, .string ⟨#[]⟩, .slice none 0 0, .slice none 0 0, .slice none 0 0, .int .i64 0, .int .i64 0, .int .i64 0, .int .i64 0, .slice none 0 0, .int .i64 0, .int .i64 0]) rfl AEvs.nil (by kernel_rfl) rfl) ?_
  refine AL_p rfl rfl (S_pcall rfl (AEvs.cons (y := msgAV (ofM t)) (.tmp rfl) (AEvs.cons (y := msgAV msg0) ((AEv.tmp rfl).le (by exact (Les.agg (.cons (Le.refl _) (.cons (Le.refl _) (.cons (Le.refl _) (.cons (Le.refl _) (.cons (Le.refl _) (.cons (Le.refl _) (.cons (Le.refl _) (.cons (Le.nils) (.cons (Le.nils) (.cons (Le.refl _) (.cons (Le.refl _) (.cons (Le.refl _) (.cons (Le.refl _) (.cons (Le.refl _) (.cons (Le.nils) (.cons (Le.nils) (.cons (Le.nils) (.cons (Le.refl _) (.cons (Le.refl _) (.cons (Le.refl _) (.cons (Le.refl _) (.cons (Le.nils) (.cons (Le.refl _) (.cons (Le.refl _) .nil))))))))))))))))))))))))))) AEvs.nil)) (book_SameMsg_ok (ofM t) msg0 (ofM_short t) msg0_short)) ?_
  refine as_ rfl rfl rfl rfl ?_
  refine AL_nil (AC_ret ?_)
  refine ret_tmp st rfl rfl (Sub.l ((List.sublist_cons_self _ _).trans (List.sublist_cons_self _ _))) (Conv.refl (Sub.l ((List.sublist_cons_self _ _).trans (List.sublist_cons_self _ _))) _) ⟨congrArg AV.bool (by rw [hx]; exact sameM_refl _), rfl⟩ (.inl rfl)
 try simp only [zA, zO, zN, zM, zP, zQ, zD, zF, gd] at hb48
 have hk2 : ofMC t = 0 := by simpa using hb48
 obtain ⟨hc1, hc2⟩ := tell_canon hk2
 refine AC_skip ?_
 refine AC_seq (AC_region ?_)
 refine AL_p rfl rfl (S_loadN (m := 24) 0 rfl (.tmp rfl) rfl (by kernel_rfl) (by first | exact Nat.le_of_ble_eq_true rfl | (simp; omega) | simp)) ?_
 refine AL_p rfl rfl (S_gcall rfl (AEvs.cons (y := msgAV (ofM t)) (.tmp rfl) AEvs.nil) ((GCalls.of_eq (tell_Bytes_ok (ofM t) (ofM_short t) (ofM_u t)) (tellBytes_eq (tell_canon hk2).1)) _ (fun p hp => by repeat (first | exact hG p hp | refine List.mem_cons_of_mem _ ?_ | refine List.mem_append_right _ ?_)))) ?_
 refine mv rfl rfl rfl rfl ?_
 refine AL_p rfl rfl (S_extract 0 rfl (.tmp rfl) rfl) ?_
 refine AL_p rfl rfl (S_extract 1 rfl (.tmp rfl) rfl) ?_
 refine as_ rfl rfl rfl rfl ?_
 refine as_ rfl rfl rfl rfl ?_
 refine AL_nil (AC_seq (AC_region ?_))
 refine AL_p rfl rfl (S_loadN (m := 24) 0 rfl (.tmp rfl) rfl (by kernel_rfl) (by first | exact Nat.le_of_ble_eq_true rfl | (simp; omega) | simp)) ?_
 refine AL_p rfl rfl (S_gcall rfl (AEvs.cons (y := msgAV (ofM t)) (.tmp rfl) AEvs.nil) ((tell_Check_ok (ofM t) (ofM_short t)) _ (fun p hp => by repeat (first | exact hG p hp | refine List.mem_cons_of_mem _ ?_ | refine List.mem_append_right _ ?_)))) ?_
 refine AL_p rfl rfl (S_eql rfl (.tmp rfl) (AEv.const _)) ?_
 refine mv rfl rfl rfl rfl ?_
 refine AL_g rfl rfl (.tmp rfl) rfl (fun hg49 => S_move rfl (.tmp rfl)) ?_
 refine AL_g rfl rfl (.tmp rfl) rfl (fun hg52 => S_eql rfl (AEv.cd (.tmp rfl)) (AEv.const _)) ?_
 refine AL_p rfl rfl (S_and rfl (.tmp rfl) (fun hp55 => (AEv.cd (.tmp rfl)))) ?_
 refine mv rfl rfl rfl rfl ?_
 refine AL_g rfl rfl (.tmp rfl) rfl (fun hg56 => S_move rfl (.tmp rfl)) ?_
 refine AL_g rfl rfl (.tmp rfl) rfl (fun hg59 => S_move rfl (.tmp rfl)) ?_
 refine AL_g rfl rfl (.tmp rfl) rfl (fun hg62 => S_eqS rfl (AEv.cd (.tmp rfl)) (AEv.cd (.tmp rfl))) ?_
 refine AL_p rfl rfl (S_and rfl (.tmp rfl) (fun hp65 => (AEv.cd (.tmp rfl)))) ?_
 refine as_ rfl rfl rfl rfl ?_
 refine AL_nil (AC_ret ?_)
 refine ret_tmp st rfl rfl (Sub.l ((List.sublist_cons_self _ _).trans (List.sublist_cons_self _ _))) (Conv.refl (Sub.l ((List.sublist_cons_self _ _).trans (List.sublist_cons_self _ _))) _) ⟨congrArg AV.bool (by rw [hc1, hc2]; simp), rfl⟩ (.inl rfl)
end Go.Proofs.YtemmkkmpchphkaaGreatDoor
