/- A part of the proof: what the program's functions answer.
Conditions: none beyond each theorem's own. -/
import Derived.Test.YtemmkkmpchphkaaGreatDoorW3
set_option linter.unusedVariables false
set_option linter.unusedSimpArgs false
set_option maxRecDepth 100000
namespace Go.Proofs.YtemmkkmpchphkaaGreatDoor
open Go.AL Go.NumSpec
set_option maxHeartbeats 1000000 in
theorem ref06_one_ok (c : Ctr) (ahead : List Ctr) (init : Bool) (hn : c.name.length ≤ 1000000) (him : c.image.length ≤ 1000000) (hpc : c.ports.length ≤ 1000000) (ha : ahead.length ≤ 1000000) (hap : ∀ x ∈ ahead, x.ports.length ≤ 1000000) : PCalls Tryz.prog 139 [ctrAV c, .sl (ctrsV ahead), .bool init] (cpAV (ctrE (ahead.map Ctr.name) (ahead.flatMap Ctr.ports) c (if init = true then 0 else 3) (if init = true then 0 else 1000))) := by
 intro st
 refine co 175 Tryz.func139 ?_
 refine AC_seq (AC_region ?_)
 refine s_ (S_box rfl (.tmp rfl)) ?_
 rintro _ _ ⟨b3, rfl, rfl⟩
 refine ac rfl rfl rfl ?_
 refine p_ (S_assign rfl (AEv.S _)) ?_
 refine AL_nil ?_
 refine AC_seq ?_
 refine AC_seq (AC_region ?_)
 refine fl 0 ?_
 refine ld 0 ?_
 refine p_ (S_pcall rfl (AEvs.cons (.tmp rfl) AEvs.nil) (ref03_Name_ok c.name (by omega))) ?_
 refine p_ (S_not rfl (.tmp rfl)) ?_
 refine AL_nil ?_
 refine AC_cond (.tmp rfl) (fun hb2 => ?_) (fun hb2 => ?_)
 ·try simp only [zA,zO,zN,zM,zP,zQ,zD,zF,gd] at hb2
  have hx := one_1 (ps := (ahead.flatMap Ctr.ports)) (a := (if init = true then 0 else 3)) (b := (if init = true then 0 else 1000)) (nameE_bad (ns := (ahead.map Ctr.name)) (c := c) hb2)
  refine AC_seq (AC_region ?_)
  refine ac rfl rfl rfl ?_
  refine p_ (S_assign rfl (AEv.S _)) ?_
  refine AL_nil (AC_ret ?_)
  refine ret_tmps (ts := [6, 7]) st rfl (by decide) rfl (Sub.l (List.Sublist.cons _ (List.Sublist.refl _))) (Conv.refl (Sub.l (List.Sublist.cons _ (List.Sublist.refl _))) _) ⟨cp_some hx rfl, rfl⟩ (.inl rfl)
 try simp only [zA,zO,zN,zM,zP,zQ,zD,zF,gd] at hb2
 have hnv : nameV c.name = true := hb2
 refine AC_skip ?_
 refine AC_seq ?_
 refine AC_seq (AC_region ?_)
 refine ac rfl rfl rfl ?_
 refine AL_nil ?_
 refine AC_block ?_
 refine AC_loopK (G := Nat) [(1, _), (2, _), (3, _)] (fun g => g ≤ ahead.length ∧ c.name ∉ (ahead.take g).map Ctr.name) (fun g => [(8, .int .i64 (g : Int))]) (fun g => (b3, .cells (ctrL c)) :: st) (fun g => ahead.length - g) (0) (⟨Nat.zero_le _, by simp⟩) (Sub.l (List.Sublist.refl _)) (.cons rfl (Le.refl _) (.cons rfl (Le.refl _) (.cons rfl (Le.refl _) .nil))) (.cons rfl (by first | exact Le.refl _ | exact Le.nils | exact Le.row _ _ _ _ | exact Le.of_eq (by first | rfl | (simp; done) | (push_cast; rfl) | (simp; omega))) .nil) ?_
 rintro i ⟨hi, hno⟩
 try dsimp only
 simp only [List.cons_append, List.nil_append]
 refine AC_seq ?_
 refine AC_seq (AC_region ?_)
 refine mv rfl rfl rfl rfl ?_
 refine mv rfl rfl rfl rfl ?_
 refine p_ (by first | exact S_lenM (e := 150) rfl (.tmp rfl) (by kernel_rfl) | exact S_len (e := 150) rfl (.tmp rfl) (by kernel_rfl)) ?_
 refine p_ (S_lss rfl (.tmp rfl) (.tmp rfl)) ?_
 refine AL_nil ?_
 refine AC_cond (.tmp rfl) (fun hb3 => ?_) (fun hb3 => ?_)
 ·try simp only [zA,zO,zN,zM,zP,zQ,zD,zF,gd] at hb3
  have hil : i < ahead.length := by omega
  refine AC_skip ?_
  refine AC_seq ?_
  refine AC_block ?_
  refine AC_seq ?_
  refine AC_draw (by kernel_rfl) (by kernel_rfl) (.cons rfl (Q_p rfl (S_move rfl (.tmp rfl))) <|
    .cons rfl (Q_p rfl (S_move rfl (.tmp rfl))) <|
    .cons rfl (Q_p rfl (S_elemN (e := 150) 11 rfl (.tmp rfl) (.tmp rfl) (by kernel_rfl) (by kernel_rfl) (by omega) (fun _ => rfl))) <|
    .cons rfl (Q_p rfl (S_fieldP 0 rfl (.tmp rfl) (by kernel_rfl))) <|
    .cons rfl (Q_p rfl (S_loadP rfl (.tmp rfl) rfl (by kernel_rfl))) <|
    .cons rfl (Q_p rfl (S_field 0 rfl (.tmp rfl) (by kernel_rfl))) <|
    .cons rfl (Q_p rfl (S_load 0 rfl (.tmp rfl) rfl rfl (by kernel_rfl))) <|
    .cons rfl (Q_p rfl (S_eqS rfl (.tmp rfl) (.tmp rfl))) <|
    .nil) ?_
  refine AC_cond (.tmp rfl) (fun hb4 => ?_) (fun hb4 => ?_)
  ·try simp only [zA,zO,zN,zM,zP,zQ,zD,zF,gd] at hb4
   have hx := one_1 (ps := (ahead.flatMap Ctr.ports)) (a := (if init = true then 0 else 3)) (b := (if init = true then 0 else 1000)) (nameE_there (ns := (ahead.map Ctr.name)) (c := c) hnv (by have := hb4; rw [← this]; exact List.mem_map_of_mem (List.getElem_mem hil)))
   refine AC_seq (AC_region ?_)
   refine ac rfl rfl rfl ?_
   refine p_ (S_assign rfl (AEv.S _)) ?_
   refine AL_nil (AC_ret ?_)
   refine ret_tmps (ts := [6, 7]) st rfl (by decide) rfl (Sub.l (List.Sublist.cons _ (List.Sublist.refl _))) (Conv.refl (Sub.l (List.Sublist.cons _ (List.Sublist.refl _))) _) ⟨cp_some hx rfl, rfl⟩ (.inl rfl)
  try simp only [zA,zO,zN,zM,zP,zQ,zD,zF,gd] at hb4
  have hne : (ahead[i]'hil).name ≠ c.name := hb4
  refine AC_skip ?_
  refine AC_region ?_
  refine mv rfl rfl rfl rfl ?_
  refine p_ (S_addI rfl (.tmp rfl) (AEv.const _) (by omega) (by omega)) ?_
  refine as_ rfl rfl rfl rfl ?_
  refine AL_nil ?_
  exact ⟨i + 1, ⟨by omega, by
   rw [List.take_succ_eq_append_getElem hil, List.map_append]
   intro h
   rcases List.mem_append.1 h with h | h
   ·exact hno h
   ·simp only [List.map_cons, List.map_nil, List.mem_singleton] at h; exact hne h.symm⟩, by omega, (Sub.l (List.Sublist.refl _)), (.cons rfl (by first | exact Le.refl _ | exact Le.nils | exact Le.row _ _ _ _ | exact Le.of_eq (by first | rfl | (simp; done) | (push_cast; rfl) | (simp; omega))) .nil), (.cons rfl (Le.refl _) (.cons rfl (Le.refl _) (.cons rfl (Le.refl _) .nil)))⟩
 try simp only [zA,zO,zN,zM,zP,zQ,zD,zF,gd] at hb3
 have hn0 : nameE (ahead.map Ctr.name) c.name = none := nameE_ok hnv (by rw [List.take_of_length_le (by omega)] at hno; exact hno)
 refine AC_exit ?_
 refine AC_seq (AC_region ?_)
 refine fl 1 ?_
 refine ld 0 ?_
 refine p_ (S_pcall rfl (AEvs.cons (.tmp rfl) AEvs.nil) (ref03_Split_ok c.image (by omega))) ?_
 refine mv rfl rfl rfl rfl ?_
 refine ex 0 ?_
 refine ex 1 ?_
 refine ex 2 ?_
 refine as_ rfl rfl rfl rfl ?_
 refine as_ rfl rfl rfl rfl ?_
 refine as_ rfl rfl rfl rfl ?_
 refine AL_nil ?_
 refine AC_seq ?_
 refine AC_seq (AC_region ?_)
 refine mv rfl rfl rfl rfl ?_
 refine p_ (S_not rfl (.tmp rfl)) ?_
 refine AL_nil ?_
 refine AC_cond (.tmp rfl) (fun hb5 => ?_) (fun hb5 => ?_)
 ·try simp only [zA,zO,zN,zM,zP,zQ,zD,zF,gd] at hb5
  have hx := one_2 (ps := (ahead.flatMap Ctr.ports)) (a := (if init = true then 0 else 3)) (b := (if init = true then 0 else 1000)) hn0 (show imgE c = some (33, [[105, 109, 97, 103, 101]]) by unfold imgE; rw [hb5]; rfl)
  refine AC_seq (AC_region ?_)
  refine ac rfl rfl rfl ?_
  refine p_ (S_assign rfl (AEv.S _)) ?_
  refine AL_nil (AC_ret ?_)
  refine ret_tmps (ts := [6, 7]) st rfl (by decide) rfl (Sub.l (List.Sublist.cons _ (List.Sublist.refl _))) (Conv.refl (Sub.l (List.Sublist.cons _ (List.Sublist.refl _))) _) ⟨cp_some hx rfl, rfl⟩ (.inl rfl)
 try simp only [zA,zO,zN,zM,zP,zQ,zD,zF,gd] at hb5
 have hi0 : imgE c = none := by unfold imgE; rw [hb5]; rfl
 refine AC_skip ?_
 refine AC_seq (AC_region ?_)
 refine p_ (S_buildSlice (e := 9) 1 rfl (AEvs.cons (AEv.S _) (AEvs.cons (AEv.S _) (AEvs.cons (AEv.S _) AEvs.nil))) rfl (by kernel_rfl) (by kernel_rfl) (by intro y hy; simp only [List.mem_cons, List.not_mem_nil, or_false] at hy; rcases hy with rfl | rfl | rfl <;> exact ⟨rfl, rfl⟩) (by decide) (by decide) (by decide)) ?_
 refine as_ rfl rfl rfl rfl ?_
 refine AL_nil (AC_seq (AC_region ?_))
 refine fl 2 ?_
 refine ldN 3 0 ?_
 refine p_ (S_pcall rfl (AEvs.cons (y := resAV c.req) (.tmp rfl) AEvs.nil) (ref06_three_ok c.req)) ?_
 refine p_ (S_build (t := 217) (pl := [(0, 1), (1, 1), (2, 1)]) (zs := [.int .i64 0, .int .i64 0, .int .i64 0]) rfl AEvs.nil (by kernel_rfl) rfl) ?_
 refine p_ (S_pcall rfl (AEvs.cons (y := resAV c.req) (.tmp rfl) (AEvs.cons (y := resAV (0, 0, 0)) (.tmp rfl) (AEvs.cons (AEv.const _) AEvs.nil))) (ref06_numbers_ok c.req (0, 0, 0) false)) ?_
 refine as_ rfl rfl rfl rfl ?_
 refine AL_nil ?_
 refine AC_seq ?_
 refine AC_seq (AC_region ?_)
 refine mv rfl rfl rfl rfl ?_
 refine p_ (S_geq rfl (.tmp rfl) (AEv.const _)) ?_
 refine AL_nil ?_
 refine AC_cond (.tmp rfl) (fun hb6 => ?_) (fun hb6 => ?_)
 ·try simp only [zA,zO,zN,zM,zP,zQ,zD,zF,gd] at hb6
  have hx := one_3 (ps := (ahead.flatMap Ctr.ports)) (a := (if init = true then 0 else 3)) (b := (if init = true then 0 else 1000)) hn0 hi0 (show reqE c.req = _ by rw [req_nums, if_pos (by omega)])
  have hk9 : (numsI c.req (0, 0, 0) false).toNat < numN.length := by have := (numsI_range c.req (0, 0, 0) false).2; show _ < 3; omega
  have hk8 := num_len hk9
  refine AC_seq ?_
  refine AC_draw (by kernel_rfl) (by kernel_rfl) (.cons rfl (Q_p rfl (S_move rfl (.tmp rfl))) <|
    .cons rfl (Q_p rfl (S_move rfl (.tmp rfl))) <|
    .cons rfl (Q_p rfl (S_elemN (e := 9) (f := fun s => .S s) (l := numN) (i := (numsI c.req (0, 0, 0) false).toNat) 1 rfl (.tmp rfl) ((AEv.tmp rfl).le (Le.of_eq (congrArg (AV.int _) (show (numsI c.req (0, 0, 0) false) = (((numsI c.req (0, 0, 0) false).toNat : Nat) : Int) by omega)))) (by kernel_rfl) (by kernel_rfl) (by have := (numsI_range c.req (0, 0, 0) false).2; show _ < 3; omega) (fun _ => rfl))) <|
    .cons rfl (Q_p rfl (S_loadP rfl (.tmp rfl) rfl (by kernel_rfl))) <|
    .cons rfl (Q_p rfl (S_cat rfl (AEv.S _) (.tmp rfl) (by first | omega | (simp only [List.length_append, List.length_cons, List.length_nil]; omega)))) <|
    .cons rfl (Q_p rfl (S_assign rfl (AEv.const _))) <|
    .cons rfl (Q_p rfl (S_assign rfl (.tmp rfl))) <|
    .nil) ?_
  refine AC_ret ?_
  refine ret_tmps (ts := [6, 7]) st rfl (by decide) rfl (Sub.l (List.Sublist.cons _ (List.Sublist.refl _))) (Conv.refl (Sub.l (List.Sublist.cons _ (List.Sublist.refl _))) _) ⟨cp_some hx (by rw [join_two]; exact num_text [114, 101, 113] hk9), rfl⟩ (.inl rfl)
 try simp only [zA,zO,zN,zM,zP,zQ,zD,zF,gd] at hb6
 have hr0 : reqE c.req = none := by rw [req_nums, if_neg (by omega)]
 refine AC_skip ?_
 refine AC_seq ?_
 refine AC_draw (by kernel_rfl) (by kernel_rfl) (.cons rfl (Q_p rfl (S_field 5 rfl (.tmp rfl) (by kernel_rfl))) <|
   .cons rfl (Q_p rfl (S_loadN (m := 3) 0 rfl (.tmp rfl) rfl (by kernel_rfl) (by first | exact Nat.le_of_ble_eq_true rfl | (simp; omega) | simp))) <|
   .cons rfl (Q_p rfl (S_pcall rfl (AEvs.cons (y := resAV c.lim) (.tmp rfl) AEvs.nil) (ref06_three_ok c.lim))) <|
   .cons rfl (Q_p rfl (S_field 2 rfl (.tmp rfl) (by kernel_rfl))) <|
   .cons rfl (Q_p rfl (S_loadN (m := 3) 0 rfl (.tmp rfl) rfl (by kernel_rfl) (by first | exact Nat.le_of_ble_eq_true rfl | (simp; omega) | simp))) <|
   .cons rfl (Q_p rfl (S_pcall rfl (AEvs.cons (y := resAV c.req) (.tmp rfl) AEvs.nil) (ref06_three_ok c.req))) <|
   .cons rfl (Q_p rfl (S_pcall rfl (AEvs.cons (.tmp rfl) (AEvs.cons (.tmp rfl) (AEvs.cons (AEv.const _) AEvs.nil))) (ref06_numbers_ok c.lim c.req true))) <|
   .cons rfl (Q_p rfl (S_assign rfl (.tmp rfl))) <|
   .nil) ?_
 refine AC_seq ?_
 refine AC_seq (AC_region ?_)
 refine mv rfl rfl rfl rfl ?_
 refine p_ (S_geq rfl (.tmp rfl) (AEv.const _)) ?_
 refine AL_nil ?_
 refine AC_cond (.tmp rfl) (fun hb7 => ?_) (fun hb7 => ?_)
 ·try simp only [zA,zO,zN,zM,zP,zQ,zD,zF,gd] at hb7
  have hx := one_4 (ps := (ahead.flatMap Ctr.ports)) (a := (if init = true then 0 else 3)) (b := (if init = true then 0 else 1000)) hn0 hi0 hr0 (show limE c.lim c.req = _ by rw [lim_nums, if_pos (by omega)])
  have hk9 : (numsI c.lim c.req true).toNat < numN.length := by have := (numsI_range c.lim c.req true).2; show _ < 3; omega
  have hk8 := num_len hk9
  refine AC_seq ?_
  refine AC_draw (by kernel_rfl) (by kernel_rfl) (.cons rfl (Q_p rfl (S_move rfl (.tmp rfl))) <|
    .cons rfl (Q_p rfl (S_move rfl (.tmp rfl))) <|
    .cons rfl (Q_p rfl (S_elemN (e := 9) (f := fun s => .S s) (l := numN) (i := (numsI c.lim c.req true).toNat) 1 rfl (.tmp rfl) ((AEv.tmp rfl).le (Le.of_eq (congrArg (AV.int _) (show (numsI c.lim c.req true) = (((numsI c.lim c.req true).toNat : Nat) : Int) by omega)))) (by kernel_rfl) (by kernel_rfl) (by have := (numsI_range c.lim c.req true).2; show _ < 3; omega) (fun _ => rfl))) <|
    .cons rfl (Q_p rfl (S_loadP rfl (.tmp rfl) rfl (by kernel_rfl))) <|
    .cons rfl (Q_p rfl (S_cat rfl (AEv.S _) (.tmp rfl) (by first | omega | (simp only [List.length_append, List.length_cons, List.length_nil]; omega)))) <|
    .cons rfl (Q_p rfl (S_assign rfl (AEv.const _))) <|
    .cons rfl (Q_p rfl (S_assign rfl (.tmp rfl))) <|
    .nil) ?_
  refine AC_ret ?_
  refine ret_tmps (ts := [6, 7]) st rfl (by decide) rfl (Sub.l (List.Sublist.cons _ (List.Sublist.refl _))) (Conv.refl (Sub.l (List.Sublist.cons _ (List.Sublist.refl _))) _) ⟨cp_some hx (by rw [join_two]; exact num_text [108, 105, 109] hk9), rfl⟩ (.inl rfl)
 try simp only [zA,zO,zN,zM,zP,zQ,zD,zF,gd] at hb7
 have hl0 : limE c.lim c.req = none := by rw [lim_nums, if_neg (by omega)]
 refine AC_skip ?_
 refine AC_seq ?_
 refine AC_seq (AC_region ?_)
 refine fl 8 ?_
 refine ld 0 ?_
 refine p_ (by first | exact S_lenM (e := 3) rfl (.tmp rfl) (by kernel_rfl) | exact S_len (e := 3) rfl (.tmp rfl) (by kernel_rfl)) ?_
 refine p_ (S_gtr rfl (.tmp rfl) (AEv.const _)) ?_
 refine mv rfl rfl rfl rfl ?_
 refine g_ (fun _ => mA) ?_
 refine g_ (fun _ => S_move rfl (AEv.cd (.tmp rfl))) ?_
 refine AL_gg rfl rfl (.tmp rfl) rfl (fun hg14 hg15 hg16 => S_field 8 rfl (.tmp rfl) (by kernel_rfl)) ?_
 refine AL_gg rfl rfl (.tmp rfl) rfl (fun hg17 hg18 hg19 => S_load 0 rfl (AEv.cd (.tmp rfl)) rfl rfl (by kernel_rfl)) ?_
 refine AL_gg rfl rfl (.tmp rfl) rfl (fun hg20 hg21 hg22 => by first | exact S_lenM (e := 3) rfl (AEv.cd (.tmp rfl)) (by kernel_rfl) | exact S_len (e := 3) rfl (AEv.cd (.tmp rfl)) (by kernel_rfl)) ?_
 refine AL_gg rfl rfl (.tmp rfl) rfl (fun hg23 hg24 hg25 => S_gtr rfl (AEv.cd (.tmp rfl)) (AEv.const _)) ?_
 refine g_ (fun _ => S_and rfl (AEv.cd (.tmp rfl)) (fun hp29 => (AEv.cd (.tmp rfl)))) ?_
 refine p_ (S_or rfl (.tmp rfl) (fun hp30 => (AEv.cd (.tmp rfl)))) ?_
 refine AL_nil ?_
 refine AC_cond (.tmp rfl) (fun hb31 => ?_) (fun hb31 => ?_)
 ·try simp only [zA,zO,zN,zM,zP,zQ,zD,zF,gd] at hb31
  have hx := one_5 (a := (if init = true then 0 else 3)) (b := (if init = true then 0 else 1000)) hn0 hi0 hr0 hl0 (port_many (ps := (ahead.flatMap Ctr.ports)) (l := c.ports) (n := (if init = true then 0 else 3)) (by cases init <;> simp only [Bool.true_eq_false, Bool.false_eq_true, false_or, or_false, true_or, or_true, false_and, and_false, true_and, and_true, if_true, if_false, reduceIte] at hb31 ⊢ <;> omega))
  refine AC_seq (AC_region ?_)
  refine ac rfl rfl rfl ?_
  refine p_ (S_assign rfl (AEv.S _)) ?_
  refine AL_nil (AC_ret ?_)
  refine ret_tmps (ts := [6, 7]) st rfl (by decide) rfl (Sub.l (List.Sublist.cons _ (List.Sublist.refl _))) (Conv.refl (Sub.l (List.Sublist.cons _ (List.Sublist.refl _))) _) ⟨cp_some hx rfl, rfl⟩ (.inl rfl)
 try simp only [zA,zO,zN,zM,zP,zQ,zD,zF,gd] at hb31
 have hpm : atMostE portsN (c.ports.length : Int) 0 (if init = true then 0 else 3) = none := by
  unfold atMostE; rw [if_neg]; cases init <;> simp only [Bool.true_eq_false, Bool.false_eq_true, false_or, or_false, true_or, or_true, false_and, and_false, true_and, and_true, if_true, if_false, reduceIte] at hb31 ⊢ <;> omega
 refine AC_skip ?_
 refine AC_seq ?_
 refine AC_seq (AC_region ?_)
 refine ac rfl rfl rfl ?_
 refine AL_nil ?_
 refine AC_block ?_
 refine AC_loopK (G := Nat) [(1, _), (2, _), (3, _)] (fun g => g ≤ c.ports.length ∧ ∀ j, j < g → portAt (ahead.flatMap Ctr.ports) c.ports j = none) (fun g => [(14, .int .i64 (g : Int))]) (fun g => (b3, .cells (ctrL c)) :: st) (fun g => c.ports.length - g) (0) (⟨Nat.zero_le _, fun j h => absurd h (Nat.not_lt_zero _)⟩) (Sub.l (List.Sublist.refl _)) (.cons rfl (Le.refl _) (.cons rfl (Le.refl _) (.cons rfl (Le.refl _) .nil))) (.cons rfl (by first | exact Le.refl _ | exact Le.nils | exact Le.row _ _ _ _ | exact Le.of_eq (by first | rfl | (simp; done) | (push_cast; rfl) | (simp; omega))) .nil) ?_
 rintro i ⟨hi, hall⟩
 try dsimp only
 simp only [List.cons_append, List.nil_append]
 refine AC_seq ?_
 refine AC_seq (AC_region ?_)
 refine mv rfl rfl rfl rfl ?_
 refine fl 8 ?_
 refine ld 0 ?_
 refine p_ (by first | exact S_lenM (e := 3) rfl (.tmp rfl) (by kernel_rfl) | exact S_len (e := 3) rfl (.tmp rfl) (by kernel_rfl)) ?_
 refine p_ (S_lss rfl (.tmp rfl) (.tmp rfl)) ?_
 refine AL_nil ?_
 refine AC_cond (.tmp rfl) (fun hb32 => ?_) (fun hb32 => ?_)
 ·try simp only [zA,zO,zN,zM,zP,zQ,zD,zF,gd] at hb32
  have hil : i < c.ports.length := by omega
  have hif : fits (i : Int) := by unfold fits; omega
  have hgd : c.ports.getD i 0 = c.ports[i] := by rw [List.getD_eq_getElem?_getD, List.getElem?_eq_getElem hil]; rfl
  refine AC_skip ?_
  refine AC_seq ?_
  refine AC_block ?_
  refine AC_seq ?_
  refine AC_seq (AC_region ?_)
  refine fl 8 ?_
  refine ld 0 ?_
  refine mv rfl rfl rfl rfl ?_
  refine p_ (S_elemN (e := 3) 1 rfl (.tmp rfl) (.tmp rfl) (by kernel_rfl) (by kernel_rfl) (by omega) (fun _ => rfl)) ?_
  refine p_ (S_loadP rfl (.tmp rfl) rfl (by kernel_rfl)) ?_
  refine p_ (S_lss rfl (.tmp rfl) (AEv.const _)) ?_
  refine mv rfl rfl rfl rfl ?_
  refine g_ (fun _ => fA 8) ?_
  refine g_ (fun _ => lA 0) ?_
  refine g_ (fun _ => mA) ?_
  refine g_ (fun _ => S_elemN (e := 3) 1 rfl (AEv.cd (.tmp rfl)) (AEv.cd (.tmp rfl)) (by kernel_rfl) (by kernel_rfl) (by (try simp only [gd, Bool.and_eq_true, Bool.or_eq_true, Bool.not_eq_true', Bool.not_eq_false', decide_eq_true_eq, decide_eq_false_iff_not, Bool.or_eq_false_iff, Bool.and_eq_false_iff] at *); omega) (fun _ => rfl)) ?_
  refine g_ (fun _ => S_loadP rfl (AEv.cd (.tmp rfl)) rfl (by kernel_rfl)) ?_
  refine g_ (fun _ => S_gtr rfl (AEv.cd (.tmp rfl)) (AEv.const _)) ?_
  refine p_ (S_or rfl (.tmp rfl) (fun hp51 => (AEv.cd (.tmp rfl)))) ?_
  refine AL_nil ?_
  refine AC_cond (.tmp rfl) (fun hb52 => ?_) (fun hb52 => ?_)
  ·try simp only [zA,zO,zN,zM,zP,zQ,zD,zF,gd] at hb52
   have hx := one_5 (a := (if init = true then 0 else 3)) (b := (if init = true then 0 else 1000)) hn0 hi0 hr0 hl0 (port_at hpm hil (portAt_range (ps := (ahead.flatMap Ctr.ports)) hil (by simpa using hb52)) hall)
   refine AC_seq (AC_region ?_)
   refine mv rfl rfl rfl rfl ?_
   refine p_ (S_pcall rfl (AEvs.cons (AEv.S _) (AEvs.cons (.tmp rfl) AEvs.nil)) (ref06_at_ok portsN (by decide) (i : Int) hif)) ?_
   refine ac rfl rfl rfl ?_
   refine as_ rfl rfl rfl rfl ?_
   refine AL_nil (AC_ret ?_)
   refine ret_tmps (ts := [6, 7]) st rfl (by decide) rfl (Sub.l (List.Sublist.cons _ (List.Sublist.refl _))) (Conv.refl (Sub.l (List.Sublist.cons _ (List.Sublist.refl _))) _) ⟨cp_some hx (Lib.join_one _ _).symm, rfl⟩ (.inl rfl)
  try simp only [zA,zO,zN,zM,zP,zQ,zD,zF,gd] at hb52
  have hr1 : 1 ≤ (c.ports[i]'hil) ∧ (c.ports[i]'hil) ≤ 65535 := by omega
  refine AC_skip ?_
  refine AC_seq ?_
  refine AC_draw (by kernel_rfl) (by kernel_rfl) (.cons rfl (Q_p rfl (S_move rfl (.tmp rfl))) <|
    .cons rfl (Q_p rfl (S_field 8 rfl (.tmp rfl) (by kernel_rfl))) <|
    .cons rfl (Q_p rfl (S_load 0 rfl (.tmp rfl) rfl rfl (by kernel_rfl))) <|
    .cons rfl (Q_p rfl (S_move rfl (.tmp rfl))) <|
    .cons rfl (Q_p rfl (S_elemN (e := 3) 1 rfl (.tmp rfl) (.tmp rfl) (by kernel_rfl) (by kernel_rfl) (by omega) (fun _ => rfl))) <|
    .cons rfl (Q_p rfl (S_loadP rfl (.tmp rfl) rfl (by kernel_rfl))) <|
    .cons rfl (Q_p rfl (S_pcall rfl (AEvs.cons (.tmp rfl) (AEvs.cons (.tmp rfl) AEvs.nil)) (ref06_Has_ok ahead (c.ports[i]'hil) (by omega) hap))) <|
    .cons rfl (Q_p rfl (S_move rfl (.tmp rfl))) <|
    .cons rfl (Q_g rfl rfl (.tmp rfl) (fun hg53 => S_field 8 rfl (.tmp rfl) (by kernel_rfl))) <|
    .cons rfl (Q_g rfl rfl (.tmp rfl) (fun hg56 => S_load 0 rfl (AEv.cd (.tmp rfl)) rfl rfl (by kernel_rfl))) <|
    .cons rfl (Q_g rfl rfl (.tmp rfl) (fun hg59 => S_move rfl (.tmp rfl))) <|
    .cons rfl (Q_g rfl rfl (.tmp rfl) (fun hg62 => S_cutHM (e := 3) 1 rfl (AEv.cd (.tmp rfl)) (AEv.cd (.tmp rfl)) (by kernel_rfl) (by kernel_rfl) (fun _ => rfl) (by (try simp only [gd, Bool.and_eq_true, Bool.or_eq_true, Bool.not_eq_true', Bool.not_eq_false', decide_eq_true_eq, decide_eq_false_iff_not, Bool.or_eq_false_iff, Bool.and_eq_false_iff] at *); omega))) <|
    .cons rfl (Q_g rfl rfl (.tmp rfl) (fun hg65 => S_build (t := 150) (pl := [(0, 1), (1, 1), (2, 3), (5, 3), (8, 1), (9, 2)]) (zs := [.string ⟨#[]⟩, .string ⟨#[]⟩, .int .i64 0, .int .i64 0, .int .i64 0, .int .i64 0, .int .i64 0, .int .i64 0, .slice none 0 0, .int .i64 0, .int .i64 0]) rfl (AEvs.cons (AEv.cd (.tmp rfl)) AEvs.nil) (by kernel_rfl) rfl)) <|
    .cons rfl (Q_g rfl rfl (.tmp rfl) (fun hg68 => S_buildSlice (e := 150) 11 rfl (AEvs.cons (AEv.cd (.tmp rfl)) AEvs.nil) rfl (by kernel_rfl) (by kernel_rfl) (by intro y hy; simp only [List.mem_cons, List.not_mem_nil, or_false] at hy; rcases hy with rfl <;> exact ⟨rfl, rfl⟩) (by decide) (by decide) (by decide))) <|
    .cons rfl (Q_g rfl rfl (.tmp rfl) (fun hg71 => S_field 8 rfl (.tmp rfl) (by kernel_rfl))) <|
    .cons rfl (Q_g rfl rfl (.tmp rfl) (fun hg74 => S_load 0 rfl (AEv.cd (.tmp rfl)) rfl rfl (by kernel_rfl))) <|
    .cons rfl (Q_g rfl rfl (.tmp rfl) (fun hg77 => S_move rfl (.tmp rfl))) <|
    .cons rfl (Q_g rfl rfl (.tmp rfl) (fun hg80 => S_elemN (e := 3) 1 rfl (AEv.cd (.tmp rfl)) (AEv.cd (.tmp rfl)) (by kernel_rfl) (by kernel_rfl) (by (try simp only [gd, Bool.and_eq_true, Bool.or_eq_true, Bool.not_eq_true', Bool.not_eq_false', decide_eq_true_eq, decide_eq_false_iff_not, Bool.or_eq_false_iff, Bool.and_eq_false_iff] at *); omega) (fun _ => rfl))) <|
    .cons rfl (Q_g rfl rfl (.tmp rfl) (fun hg83 => S_loadP rfl (AEv.cd (.tmp rfl)) rfl (by kernel_rfl))) <|
    .cons rfl (Q_g rfl rfl (.tmp rfl) (fun hg86 => S_pcall rfl (AEvs.cons (y := .sl (ctrsV [⟨[], [], (0, 0, 0), (0, 0, 0), c.ports.take i, (0, 0)⟩])) (AEv.cd (.tmp rfl)) (AEvs.cons (AEv.cd (.tmp rfl)) AEvs.nil)) (ref06_Has_ok [⟨[], [], (0, 0, 0), (0, 0, 0), c.ports.take i, (0, 0)⟩] (c.ports[i]'hil) (Nat.le_of_ble_eq_true rfl) (by intro x hx; rw [List.mem_singleton.1 hx]; simp only [List.length_take]; omega)))) <|
    .cons rfl (Q_p rfl (S_or rfl (.tmp rfl) (fun hp89 => (AEv.cd (.tmp rfl))))) <|
    .nil) ?_
  refine AC_cond (.tmp rfl) (fun hb90 => ?_) (fun hb90 => ?_)
  ·try simp only [zA,zO,zN,zM,zP,zQ,zD,zF,gd] at hb90
   have hx := one_5 (a := (if init = true then 0 else 3)) (b := (if init = true then 0 else 1000)) hn0 hi0 hr0 hl0 (port_at hpm hil (portAt_there (ps := (ahead.flatMap Ctr.ports)) hil hr1 (by simpa using hb90)) hall)
   refine AC_seq (AC_region ?_)
   refine mv rfl rfl rfl rfl ?_
   refine p_ (S_pcall rfl (AEvs.cons (AEv.S _) (AEvs.cons (.tmp rfl) AEvs.nil)) (ref06_at_ok portsN (by decide) (i : Int) hif)) ?_
   refine ac rfl rfl rfl ?_
   refine as_ rfl rfl rfl rfl ?_
   refine AL_nil (AC_ret ?_)
   refine ret_tmps (ts := [6, 7]) st rfl (by decide) rfl (Sub.l (List.Sublist.cons _ (List.Sublist.refl _))) (Conv.refl (Sub.l (List.Sublist.cons _ (List.Sublist.refl _))) _) ⟨cp_some hx (Lib.join_one _ _).symm, rfl⟩ (.inl rfl)
  try simp only [zA,zO,zN,zM,zP,zQ,zD,zF,gd] at hb90
  have hr2 : (c.ports[i]'hil) ∉ (ahead.flatMap Ctr.ports) ++ c.ports.take i := by simpa using hb90
  refine AC_skip ?_
  refine AC_region ?_
  refine mv rfl rfl rfl rfl ?_
  refine p_ (S_addI rfl (.tmp rfl) (AEv.const _) (by omega) (by omega)) ?_
  refine as_ rfl rfl rfl rfl ?_
  refine AL_nil ?_
  refine ⟨i + 1, ⟨by omega, fun j h => ?_⟩, by omega, (Sub.l (List.Sublist.refl _)), (.cons rfl (by first | exact Le.refl _ | exact Le.nils | exact Le.row _ _ _ _ | exact Le.of_eq (by first | rfl | (simp; done) | (push_cast; rfl) | (simp; omega))) .nil), (.cons rfl (Le.refl _) (.cons rfl (Le.refl _) (.cons rfl (Le.refl _) .nil)))⟩
  rcases Nat.lt_or_ge j i with h' | h'
  ·exact hall j h'
  ·have : j = i := by omega
   subst this
   exact portAt_ok hil hr1 hr2
 try simp only [zA,zO,zN,zM,zP,zQ,zD,zF,gd] at hb32
 have hp0 : portE (ahead.flatMap Ctr.ports) c.ports (if init = true then 0 else 3) = none := portE_in hpm fun j hj => hall j (by omega)
 refine AC_exit ?_
 refine AC_seq ?_
 refine AC_seq (AC_region ?_)
 refine fl 9 ?_
 refine fl 0 ?_
 refine ld 0 ?_
 refine p_ (S_lss rfl (.tmp rfl) (AEv.const _)) ?_
 refine mv rfl rfl rfl rfl ?_
 refine g_ (fun _ => fA 9) ?_
 refine g_ (fun _ => S_field 0 rfl (AEv.cd (.tmp rfl)) (by kernel_rfl)) ?_
 refine g_ (fun _ => lA 0) ?_
 refine g_ (fun _ => S_gtr rfl (AEv.cd (.tmp rfl)) (AEv.const _)) ?_
 refine p_ (S_or rfl (.tmp rfl) (fun hp103 => (AEv.cd (.tmp rfl)))) ?_
 refine mv rfl rfl rfl rfl ?_
 refine g_ (fun _ => mA) ?_
 refine g_ (fun _ => S_move rfl (AEv.cd (.tmp rfl))) ?_
 refine AL_gg rfl rfl (.tmp rfl) rfl (fun hg110 hg111 hg112 => S_field 9 rfl (.tmp rfl) (by kernel_rfl)) ?_
 refine AL_gg rfl rfl (.tmp rfl) rfl (fun hg113 hg114 hg115 => S_field 0 rfl (AEv.cd (.tmp rfl)) (by kernel_rfl)) ?_
 refine AL_gg rfl rfl (.tmp rfl) rfl (fun hg116 hg117 hg118 => S_load 0 rfl (AEv.cd (.tmp rfl)) rfl rfl (by kernel_rfl)) ?_
 refine AL_gg rfl rfl (.tmp rfl) rfl (fun hg119 hg120 hg121 => S_gtr rfl (AEv.cd (.tmp rfl)) (AEv.const _)) ?_
 refine g_ (fun _ => S_and rfl (AEv.cd (.tmp rfl)) (fun hp125 => (AEv.cd (.tmp rfl)))) ?_
 refine p_ (S_or rfl (.tmp rfl) (fun hp126 => (AEv.cd (.tmp rfl)))) ?_
 refine AL_nil ?_
 refine AC_cond (.tmp rfl) (fun hb127 => ?_) (fun hb127 => ?_)
 ·try simp only [zA,zO,zN,zM,zP,zQ,zD,zF,gd] at hb127
  have hpr : c.probe.1 < 0 ∨ (if init = true then 0 else 1000) < c.probe.1 := by cases init <;> simp only [Bool.true_eq_false, Bool.false_eq_true, false_or, or_false, true_or, or_true, false_and, and_false, true_and, and_true, if_true, if_false, reduceIte] at hb127 ⊢ <;> omega
  have hx := (one_6 (a := (if init = true then 0 else 3)) (b := (if init = true then 0 else 1000)) hn0 hi0 hr0 hl0 hp0).trans (probe_every hpr)
  refine AC_seq (AC_region ?_)
  refine ac rfl rfl rfl ?_
  refine p_ (S_assign rfl (AEv.S _)) ?_
  refine AL_nil (AC_ret ?_)
  refine ret_tmps (ts := [6, 7]) st rfl (by decide) rfl (Sub.l (List.Sublist.cons _ (List.Sublist.refl _))) (Conv.refl (Sub.l (List.Sublist.cons _ (List.Sublist.refl _))) _) ⟨cp_some hx rfl, rfl⟩ (.inl rfl)
 try simp only [zA,zO,zN,zM,zP,zQ,zD,zF,gd] at hb127
 have hpr : ¬ (c.probe.1 < 0 ∨ (if init = true then 0 else 1000) < c.probe.1) := by cases init <;> simp only [Bool.true_eq_false, Bool.false_eq_true, false_or, or_false, true_or, or_true, false_and, and_false, true_and, and_true, if_true, if_false, reduceIte] at hb127 ⊢ <;> omega
 refine AC_skip ?_
 refine AC_seq ?_
 refine AC_seq (AC_region ?_)
 refine fl 9 ?_
 refine fl 0 ?_
 refine ld 0 ?_
 refine p_ (S_eql rfl (.tmp rfl) (AEv.const _)) ?_
 refine mv rfl rfl rfl rfl ?_
 refine g_ (fun _ => fA 9) ?_
 refine g_ (fun _ => S_field 1 rfl (AEv.cd (.tmp rfl)) (by kernel_rfl)) ?_
 refine g_ (fun _ => lA 0) ?_
 refine g_ (fun _ => S_neq rfl (AEv.cd (.tmp rfl)) (AEv.const _)) ?_
 refine an ?_
 refine mv rfl rfl rfl rfl ?_
 refine g_ (fun _ => fA 9) ?_
 refine g_ (fun _ => S_field 0 rfl (AEv.cd (.tmp rfl)) (by kernel_rfl)) ?_
 refine g_ (fun _ => lA 0) ?_
 refine g_ (fun _ => S_gtr rfl (AEv.cd (.tmp rfl)) (AEv.const _)) ?_
 refine g_ (fun _ => S_move rfl (AEv.cd (.tmp rfl))) ?_
 refine AL_gg rfl rfl (.tmp rfl) rfl (fun hg156 hg157 hg158 => S_field 9 rfl (.tmp rfl) (by kernel_rfl)) ?_
 refine AL_gg rfl rfl (.tmp rfl) rfl (fun hg159 hg160 hg161 => S_field 1 rfl (AEv.cd (.tmp rfl)) (by kernel_rfl)) ?_
 refine AL_gg rfl rfl (.tmp rfl) rfl (fun hg162 hg163 hg164 => S_load 0 rfl (AEv.cd (.tmp rfl)) rfl rfl (by kernel_rfl)) ?_
 refine AL_gg rfl rfl (.tmp rfl) rfl (fun hg165 hg166 hg167 => S_lss rfl (AEv.cd (.tmp rfl)) (AEv.const _)) ?_
 refine AL_gg rfl rfl (.tmp rfl) rfl (fun hg168 hg169 hg170 => S_move rfl (AEv.cd (.tmp rfl))) ?_
 refine AL_gg rfl rfl (.tmp rfl) rfl (fun hg171 hg172 hg173 => S_field 9 rfl (.tmp rfl) (by kernel_rfl)) ?_
 refine AL_gg rfl rfl (.tmp rfl) rfl (fun hg174 hg175 hg176 => S_field 1 rfl (AEv.cd (.tmp rfl)) (by kernel_rfl)) ?_
 refine AL_gg rfl rfl (.tmp rfl) rfl (fun hg177 hg178 hg179 => S_load 0 rfl (AEv.cd (.tmp rfl)) rfl rfl (by kernel_rfl)) ?_
 refine AL_gg rfl rfl (.tmp rfl) rfl (fun hg180 hg181 hg182 => S_gtr rfl (AEv.cd (.tmp rfl)) (AEv.const _)) ?_
 refine AL_gg rfl rfl (.tmp rfl) rfl (fun hg183 hg184 hg185 => S_or rfl (AEv.cd (.tmp rfl)) (fun hp186 => (AEv.cd (.tmp rfl)))) ?_
 refine g_ (fun _ => S_and rfl (AEv.cd (.tmp rfl)) (fun hp190 => (AEv.cd (.tmp rfl)))) ?_
 refine p_ (S_or rfl (.tmp rfl) (fun hp191 => (AEv.cd (.tmp rfl)))) ?_
 refine AL_nil ?_
 refine AC_cond (.tmp rfl) (fun hb192 => ?_) (fun hb192 => ?_)
 ·try simp only [zA,zO,zN,zM,zP,zQ,zD,zF,gd] at hb192
  have hx := (one_6 (a := (if init = true then 0 else 3)) (b := (if init = true then 0 else 1000)) hn0 hi0 hr0 hl0 hp0).trans ((probe_rest hpr).trans (if_pos (by cases init <;> simp only [Bool.true_eq_false, Bool.false_eq_true, false_or, or_false, true_or, or_true, false_and, and_false, true_and, and_true, if_true, if_false, reduceIte] at hb192 hpr ⊢ <;> omega)))
  refine AC_seq (AC_region ?_)
  refine ac rfl rfl rfl ?_
  refine p_ (S_assign rfl (AEv.S _)) ?_
  refine AL_nil (AC_ret ?_)
  refine ret_tmps (ts := [6, 7]) st rfl (by decide) rfl (Sub.l (List.Sublist.cons _ (List.Sublist.refl _))) (Conv.refl (Sub.l (List.Sublist.cons _ (List.Sublist.refl _))) _) ⟨cp_some hx rfl, rfl⟩ (.inl rfl)
 try simp only [zA,zO,zN,zM,zP,zQ,zD,zF,gd] at hb192
 have hx := (one_6 (a := (if init = true then 0 else 3)) (b := (if init = true then 0 else 1000)) hn0 hi0 hr0 hl0 hp0).trans ((probe_rest hpr).trans (if_neg (by cases init <;> simp only [Bool.true_eq_false, Bool.false_eq_true, false_or, or_false, true_or, or_true, false_and, and_false, true_and, and_true, if_true, if_false, reduceIte] at hb192 hpr ⊢ <;> omega)))
 refine AC_skip ?_
 refine AC_seq (AC_region ?_)
 refine ac rfl rfl rfl ?_
 refine p_ (S_assign rfl (AEv.S _)) ?_
 refine AL_nil (AC_ret ?_)
 refine ret_tmps (ts := [6, 7]) st rfl (by decide) rfl (Sub.l (List.Sublist.cons _ (List.Sublist.refl _))) (Conv.refl (Sub.l (List.Sublist.cons _ (List.Sublist.refl _))) _) ⟨cp_none hx, rfl⟩ (.inl rfl)
set_option maxHeartbeats 1000000 in
theorem ref06_Check_ok (s : Spc) (hs : lightS s = true) : PCalls Tryz.prog 107 [spcAV s] (cpAV (checkE s)) := by
 intro st
 refine co 127 Tryz.func107 ?_
 obtain ⟨h1, h2, h3, h4, h5, h6, h7⟩ := lightS_out hs
 have hpi : ∀ c ∈ s.init, c.name.length ≤ 100 ∧ c.image.length ≤ 100 ∧ c.ports.length ≤ 10 := fun c hc => of_decide_eq_true (h6 c hc)
 have hpm : ∀ c ∈ s.main, c.name.length ≤ 100 ∧ c.image.length ≤ 100 ∧ c.ports.length ≤ 10 := fun c hc => of_decide_eq_true (h7 c hc)
 refine AC_seq (AC_region ?_)
 refine s_ (S_box rfl (.tmp rfl)) ?_
 rintro _ _ ⟨b1, rfl, rfl⟩
 refine ac rfl rfl rfl ?_
 refine p_ (S_assign rfl (AEv.S _)) ?_
 refine AL_nil ?_
 refine AC_seq ?_
 refine AC_seq (AC_region ?_)
 refine fl 0 ?_
 refine ld 0 ?_
 refine p_ (S_pcall rfl (AEvs.cons (.tmp rfl) AEvs.nil) (ref03_Name_ok s.name (by omega))) ?_
 refine p_ (S_not rfl (.tmp rfl)) ?_
 refine AL_nil ?_
 refine AC_cond (.tmp rfl) (fun hb2 => ?_) (fun hb2 => ?_)
 ·try simp only [zA,zO,zN,zM,zP,zQ,zD,zF,gd] at hb2
  have hx : (checkE s) = some (30, [nameN]) := check_bad1 (firstE_hd (by rw [hb2]; rfl))
  refine AC_seq (AC_region ?_)
  refine ac rfl rfl rfl ?_
  refine p_ (S_assign rfl (AEv.S _)) ?_
  refine AL_nil (AC_ret ?_)
  refine ret_tmps (ts := [2, 3]) st rfl (by decide) rfl (Sub.l (List.Sublist.cons _ (List.Sublist.refl _))) (Conv.refl (Sub.l (List.Sublist.cons _ (List.Sublist.refl _))) _) ⟨cp_some hx rfl, rfl⟩ (.inl rfl)
 try simp only [zA,zO,zN,zM,zP,zQ,zD,zF,gd] at hb2
 have hnm : erNew (saysV (nameV s.name) 30) [nameN] = none := by rw [hb2]; rfl
 refine AC_skip ?_
 refine AC_seq (AC_region ?_)
 refine fl 1 ?_
 refine ld 0 ?_
 refine p_ (S_pcall rfl (AEvs.cons (AEv.S _) (AEvs.cons (.tmp rfl) AEvs.nil)) (ref06_Labels_ok labelsN (by decide) s.labels (fun x hx => by have := h5 x hx; omega))) ?_
 refine mv rfl rfl rfl rfl ?_
 refine ex 0 ?_
 refine ex 1 ?_
 refine as_ rfl rfl rfl rfl ?_
 refine as_ rfl rfl rfl rfl ?_
 refine AL_nil ?_
 refine AC_seq ?_
 refine AC_seq (AC_region ?_)
 refine mv rfl rfl rfl rfl ?_
 refine p_ (S_neq rfl (.tmp rfl) (AEv.const _)) ?_
 refine AL_nil ?_
 refine AC_cond (.tmp rfl) (fun hb3 => ?_) (fun hb3 => ?_)
 ·try simp only [zA,zO,zN,zM,zP,zQ,zD,zF,gd] at hb3
  have hne : labelsE labelsN s.labels ≠ none := fun h => hb3 (by rw [h]; rfl)
  obtain ⟨x, hx⟩ : ∃ x, labelsE labelsN s.labels = some x := Option.ne_none_iff_exists'.1 hne
  have hx2 : (checkE s) = some x := check_bad1 ((firstE_tl hnm).trans (firstE_hd hx))
  refine AC_seq (AC_region ?_)
  refine mv rfl rfl rfl rfl ?_
  refine mv rfl rfl rfl rfl ?_
  refine as_ rfl rfl rfl rfl ?_
  refine as_ rfl rfl rfl rfl ?_
  refine AL_nil (AC_ret ?_)
  refine ret_tmps (ts := [2, 3]) st rfl (by decide) rfl (Sub.l (List.Sublist.cons _ (List.Sublist.refl _))) (Conv.refl (Sub.l (List.Sublist.cons _ (List.Sublist.refl _))) _) ⟨congrArg cpAV (hx.trans hx2.symm), rfl⟩ (.inl rfl)
 try simp only [zA,zO,zN,zM,zP,zQ,zD,zF,gd] at hb3
 have hlb : labelsE labelsN s.labels = none := (well_labels _ _).code.1 (by simpa using hb3)
 refine AC_skip ?_
 refine AC_seq ?_
 refine AC_seq (AC_region ?_)
 refine fl 2 ?_
 refine ld 0 ?_
 refine p_ (by first | exact S_lenM (e := 150) rfl (.tmp rfl) (by kernel_rfl) | exact S_len (e := 150) rfl (.tmp rfl) (by kernel_rfl)) ?_
 refine p_ (S_gtr rfl (.tmp rfl) (AEv.const _)) ?_
 refine AL_nil ?_
 refine AC_cond (.tmp rfl) (fun hb4 => ?_) (fun hb4 => ?_)
 ·try simp only [zA,zO,zN,zM,zP,zQ,zD,zF,gd] at hb4
  have hx : (checkE s) = some (2, [initN]) := check_bad1 ((firstE_tl hnm).trans ((firstE_tl hlb).trans (firstE_hd (by unfold atMostE; rw [if_pos (by omega)]))))
  refine AC_seq (AC_region ?_)
  refine ac rfl rfl rfl ?_
  refine p_ (S_assign rfl (AEv.S _)) ?_
  refine AL_nil (AC_ret ?_)
  refine ret_tmps (ts := [2, 3]) st rfl (by decide) rfl (Sub.l (List.Sublist.cons _ (List.Sublist.refl _))) (Conv.refl (Sub.l (List.Sublist.cons _ (List.Sublist.refl _))) _) ⟨cp_some hx rfl, rfl⟩ (.inl rfl)
 try simp only [zA,zO,zN,zM,zP,zQ,zD,zF,gd] at hb4
 have hc1 : firstE (check1 s) = none := (firstE_tl hnm).trans ((firstE_tl hlb).trans ((firstE_tl (by unfold atMostE; rw [if_neg (by omega)])).trans rfl))
 refine AC_skip ?_
 refine AC_seq (AC_region ?_)
 refine ac rfl rfl rfl ?_
 refine AL_nil ?_
 refine AC_seq ?_
 refine AC_seq (AC_region ?_)
 refine ac rfl rfl rfl ?_
 refine AL_nil ?_
 refine AC_block ?_
 refine AC_loopK (G := Nat × Own) [(1, _)] (fun g => g.1 ≤ s.init.length ∧ g.2.ok ((s.init.take g.1).map ctrAV) ∧ ∀ j, j < g.1 → ctrAt [] [] s.init 0 0 j = none) (fun g => [(6, ownAV g.2 11 ((s.init.take g.1).map ctrAV)), (7, .int .i64 (g.1 : Int))]) (fun g => (b1, .cells (spcL s)) :: (ownSt g.2 150 11 ((s.init.take g.1).map ctrAV) ++ st)) (fun g => s.init.length - g.1) ((0, .nil)) (⟨Nat.zero_le _, by simp [Own.ok], fun j h => absurd h (Nat.not_lt_zero _)⟩) (Sub.l (List.Sublist.refl _)) (.cons rfl (Le.refl _) .nil) (.cons rfl (by first | exact Le.refl _ | exact Le.nils | exact Le.row _ _ _ _ | exact Le.of_eq (by first | rfl | (simp; done) | (push_cast; rfl) | (simp; omega))) (.cons rfl (by first | exact Le.refl _ | exact Le.nils | exact Le.row _ _ _ _ | exact Le.of_eq (by first | rfl | (simp; done) | (push_cast; rfl) | (simp; omega))) .nil)) ?_
 rintro ⟨i, p⟩ ⟨hi, hq, hall⟩
 try dsimp only
 simp only [List.cons_append, List.nil_append]
 dsimp only at hi hq hall
 refine AC_seq ?_
 refine AC_seq (AC_region ?_)
 refine mv rfl rfl rfl rfl ?_
 refine fl 2 ?_
 refine ld 0 ?_
 refine p_ (by first | exact S_lenM (e := 150) rfl (.tmp rfl) (by kernel_rfl) | exact S_len (e := 150) rfl (.tmp rfl) (by kernel_rfl)) ?_
 refine p_ (S_lss rfl (.tmp rfl) (.tmp rfl)) ?_
 refine AL_nil ?_
 refine AC_cond (.tmp rfl) (fun hb5 => ?_) (fun hb5 => ?_)
 ·try simp only [zA,zO,zN,zM,zP,zQ,zD,zF,gd] at hb5
  have hil : i < s.init.length := by omega
  have hif : fits (i : Int) := by unfold fits; omega
  have hat := at_short (name := initN) (by decide) hil (by omega)
  have hsh := (short_ctr (ns := namesTo [] s.init i) (ps := portsTo [] s.init i) (a := 0) (b := 0) (c := s.init[i]'hil) (by have := hpi _ (List.getElem_mem hil); omega)).text
  refine AC_skip ?_
  refine AC_seq ?_
  refine AC_block ?_
  refine AC_seq (AC_region ?_)
  refine fl 2 ?_
  refine ld 0 ?_
  refine mv rfl rfl rfl rfl ?_
  refine p_ (S_elemN (e := 150) 11 rfl (.tmp rfl) (.tmp rfl) (by kernel_rfl) (by kernel_rfl) (by omega) (fun _ => rfl)) ?_
  refine p_ (S_loadPN (m := 11) rfl (.tmp rfl) (by kernel_rfl) (by first | exact Nat.le_of_ble_eq_true rfl | (simp; omega) | simp)) ?_
  refine mv rfl rfl rfl rfl ?_
  refine p_ (S_pcall rfl (AEvs.cons (y := ctrAV (s.init[i]'hil)) (.tmp rfl) (AEvs.cons ((AEv.tmp rfl).le (Le_own hq)) (AEvs.cons (AEv.const _) AEvs.nil))) ((ref06_one_ok (s.init[i]'hil) (s.init.take i) true (by have := hpi _ (List.getElem_mem hil); omega) (by have := hpi _ (List.getElem_mem hil); omega) (by have := hpi _ (List.getElem_mem hil); omega) (by rw [List.length_take]; omega) (fun x hx => by have := hpi x (List.mem_of_mem_take hx); omega)).of_eq (show _ = cpAV (ctrE (namesTo [] s.init i) (portsTo [] s.init i) (s.init[i]'hil) 0 0) from rfl))) ?_
  refine mv rfl rfl rfl rfl ?_
  refine ex 0 ?_
  refine ex 1 ?_
  refine as_ rfl rfl rfl rfl ?_
  refine as_ rfl rfl rfl rfl ?_
  refine AL_nil ?_
  refine AC_seq ?_
  refine AC_seq (AC_region ?_)
  refine mv rfl rfl rfl rfl ?_
  refine p_ (S_neq rfl (.tmp rfl) (AEv.const _)) ?_
  refine AL_nil ?_
  refine AC_cond (.tmp rfl) (fun hb6 => ?_) (fun hb6 => ?_)
  ·try simp only [zA,zO,zN,zM,zP,zQ,zD,zF,gd] at hb6
   have hne : (ctrE (namesTo [] s.init i) (portsTo [] s.init i) (s.init[i]'hil) 0 0) ≠ none := fun h => hb6 (congrArg erCode h)
   have hx : (checkE s) = erIn (ctrE (namesTo [] s.init i) (portsTo [] s.init i) (s.init[i]'hil) 0 0) (atT initN (i : Int)) := by
    obtain ⟨y, hy⟩ := Option.ne_none_iff_exists'.1 hne
    obtain ⟨z, hz⟩ : ∃ z, erIn (ctrE (namesTo [] s.init i) (portsTo [] s.init i) (s.init[i]'hil) 0 0) (atT initN (i : Int)) = some z := by rw [hy]; exact ⟨_, rfl⟩
    rw [hz]
    exact check_bad2 hc1 (firstE_hd (eachE_at hil (by rw [ctrAt_at hil, hz]) (fun j hj => by rw [hall j hj]; rfl)))
   refine AC_seq (AC_region ?_)
   refine mv rfl rfl rfl rfl ?_
   refine mv rfl rfl rfl rfl ?_
   refine p_ (S_pcall rfl (AEvs.cons (AEv.S _) (AEvs.cons (.tmp rfl) AEvs.nil)) (ref06_at_ok initN (by decide) (i : Int) hif)) ?_
   refine p_ (S_cat rfl (.tmp rfl) (AEv.S _) (by first | omega | (simp only [List.length_append, List.length_cons, List.length_nil]; omega))) ?_
   refine mv rfl rfl rfl rfl ?_
   refine p_ (S_cat rfl (.tmp rfl) (.tmp rfl) (by first | omega | (simp only [List.length_append, List.length_cons, List.length_nil]; omega))) ?_
   refine as_ rfl rfl rfl rfl ?_
   refine as_ rfl rfl rfl rfl ?_
   refine AL_nil (AC_ret ?_)
   refine ret_tmps (ts := [2, 3]) st rfl (by decide) rfl (Sub.l (List.Sublist.cons _ (List.sublist_append_right _ _))) (Conv.refl (Sub.l (List.Sublist.cons _ (List.sublist_append_right _ _))) _) ⟨cp_in (well_ctr _ _ _ _ _) hne hx rfl, rfl⟩ (.inl rfl)
  try simp only [zA,zO,zN,zM,zP,zQ,zD,zF,gd] at hb6
  have hnn : (ctrE (namesTo [] s.init i) (portsTo [] s.init i) (s.init[i]'hil) 0 0) = none := (well_ctr _ _ _ _ _).code.1 hb6
  refine AC_skip ?_
  refine AC_region ?_
  refine mv rfl rfl rfl rfl ?_
  refine fl 2 ?_
  refine ld 0 ?_
  refine mv rfl rfl rfl rfl ?_
  refine p_ (S_elemN (e := 150) 11 rfl (.tmp rfl) (.tmp rfl) (by kernel_rfl) (by kernel_rfl) (by omega) (fun _ => rfl)) ?_
  refine p_ (S_loadPN (m := 11) rfl (.tmp rfl) (by kernel_rfl) (by first | exact Nat.le_of_ble_eq_true rfl | (simp; omega) | simp)) ?_
  refine p_ (S_buildSlice (e := 150) 11 rfl (AEvs.cons (.tmp rfl) AEvs.nil) rfl (by kernel_rfl) (by kernel_rfl) (by intro y hy; simp only [List.mem_cons, List.not_mem_nil, or_false] at hy; rcases hy with rfl <;> exact ⟨rfl, rfl⟩) (by decide) (by decide) (by decide)) ?_
  refine s_ (S_appendT (f := ctrAV) (l := s.init) (i := i) (e := 150) (size := 11) (bytes := 120) (p := p) (by omega) ([_]) (st) rfl (.tmp rfl) (.tmp rfl) rfl hq (by kernel_rfl) (fun _ => ⟨rfl, rfl⟩) (by omega) (by omega)) ?_
  rintro _ _ ⟨b8, k8, cap8, hx8, rfl, rfl⟩
  refine as_ rfl rfl rfl rfl ?_
  refine AL_nil ?_
  refine AC_region ?_
  refine mv rfl rfl rfl rfl ?_
  refine p_ (S_addI rfl (.tmp rfl) (AEv.const _) (by omega) (by omega)) ?_
  refine as_ rfl rfl rfl rfl ?_
  refine AL_nil ?_
  refine ⟨(i + 1, .row b8 k8 cap8), ⟨by dsimp only; omega, hx8, fun j h => ?_⟩, by dsimp only; omega, (Sub.l (List.Sublist.refl _)), (.cons rfl (by first | exact Le.refl _ | exact Le.nils | exact Le.row _ _ _ _ | exact Le.of_eq (by first | rfl | (simp; done) | (push_cast; rfl) | (simp; omega))) (.cons rfl (by first | exact Le.refl _ | exact Le.nils | exact Le.row _ _ _ _ | exact Le.of_eq (by first | rfl | (simp; done) | (push_cast; rfl) | (simp; omega))) .nil)), (.cons rfl (Le.refl _) .nil)⟩
  rcases Nat.lt_or_ge j i with h' | h'
  ·exact hall j h'
  ·have : j = i := by dsimp only at h; omega
   subst this
   rw [ctrAt_at hil]; exact hnn
 try simp only [zA,zO,zN,zM,zP,zQ,zD,zF,gd] at hb5
 obtain rfl : i = s.init.length := by omega
 rw [List.take_length] at hq ⊢
 have hci : ctrsE initN [] [] s.init 0 0 = none := eachE_all fun j hj => by rw [hall j hj]; rfl
 refine AC_exit ?_
 refine AC_seq ?_
 refine AC_seq (AC_region ?_)
 refine fl 3 ?_
 refine ld 0 ?_
 refine p_ (by first | exact S_lenM (e := 150) rfl (.tmp rfl) (by kernel_rfl) | exact S_len (e := 150) rfl (.tmp rfl) (by kernel_rfl)) ?_
 refine p_ (S_lss rfl (.tmp rfl) (AEv.const _)) ?_
 refine mv rfl rfl rfl rfl ?_
 refine g_ (fun _ => fA 3) ?_
 refine g_ (fun _ => lA 0) ?_
 refine g_ (fun _ => by first | exact S_lenM (e := 150) rfl (AEv.cd (.tmp rfl)) (by kernel_rfl) | exact S_len (e := 150) rfl (AEv.cd (.tmp rfl)) (by kernel_rfl)) ?_
 refine g_ (fun _ => S_gtr rfl (AEv.cd (.tmp rfl)) (AEv.const _)) ?_
 refine p_ (S_or rfl (.tmp rfl) (fun hp21 => (AEv.cd (.tmp rfl)))) ?_
 refine AL_nil ?_
 refine AC_cond (.tmp rfl) (fun hb22 => ?_) (fun hb22 => ?_)
 ·try simp only [zA,zO,zN,zM,zP,zQ,zD,zF,gd] at hb22
  have hx : (checkE s) = some (2, [mainN]) := check_bad2 hc1 ((firstE_tl hci).trans (firstE_hd (by unfold atMostE; rw [if_pos (by omega)])))
  refine AC_seq (AC_region ?_)
  refine ac rfl rfl rfl ?_
  refine p_ (S_assign rfl (AEv.S _)) ?_
  refine AL_nil (AC_ret ?_)
  refine ret_tmps (ts := [2, 3]) st rfl (by decide) rfl (Sub.l (List.Sublist.cons _ (List.sublist_append_right _ _))) (Conv.refl (Sub.l (List.Sublist.cons _ (List.sublist_append_right _ _))) _) ⟨cp_some hx rfl, rfl⟩ (.inl rfl)
 try simp only [zA,zO,zN,zM,zP,zQ,zD,zF,gd] at hb22
 have hc2 : firstE (check2 s) = none := (firstE_tl hci).trans ((firstE_tl (by unfold atMostE; rw [if_neg (by omega)])).trans rfl)
 refine AC_skip ?_
 refine AC_seq ?_
 refine AC_seq (AC_region ?_)
 refine ac rfl rfl rfl ?_
 refine AL_nil ?_
 refine AC_block ?_
 refine AC_loopK (G := Nat × Own) [(1, _)] (fun g => g.1 ≤ s.main.length ∧ g.2.ok ((s.init ++ s.main.take g.1).map ctrAV) ∧ ∀ j, j < g.1 → ctrAt (namesTo [] s.init s.init.length) (portsTo [] s.init s.init.length) s.main 3 1000 j = none) (fun g => [(6, ownAV g.2 11 ((s.init ++ s.main.take g.1).map ctrAV)), (8, .int .i64 (g.1 : Int))]) (fun g => (b1, .cells (spcL s)) :: (ownSt g.2 150 11 ((s.init ++ s.main.take g.1).map ctrAV) ++ st)) (fun g => s.main.length - g.1) ((0, p)) (⟨Nat.zero_le _, by simpa using hq, fun j h => absurd h (Nat.not_lt_zero _)⟩) (by simp only [List.take_zero, List.append_nil]; exact Sub.l (List.Sublist.refl _)) (.cons rfl (Le.refl _) .nil) (.cons rfl (by first | exact Le.refl _ | exact Le.nils | exact Le.row _ _ _ _ | exact Le.of_eq (by first | rfl | (simp; done) | (push_cast; rfl) | (simp; omega))) (.cons rfl (by first | exact Le.refl _ | exact Le.nils | exact Le.row _ _ _ _ | exact Le.of_eq (by first | rfl | (simp; done) | (push_cast; rfl) | (simp; omega))) .nil)) ?_
 rintro ⟨i, p⟩ ⟨hi, hq, hall⟩
 try dsimp only
 simp only [List.cons_append, List.nil_append]
 dsimp only at hi hq hall
 refine AC_seq ?_
 refine AC_seq (AC_region ?_)
 refine mv rfl rfl rfl rfl ?_
 refine fl 3 ?_
 refine ld 0 ?_
 refine p_ (by first | exact S_lenM (e := 150) rfl (.tmp rfl) (by kernel_rfl) | exact S_len (e := 150) rfl (.tmp rfl) (by kernel_rfl)) ?_
 refine p_ (S_lss rfl (.tmp rfl) (.tmp rfl)) ?_
 refine AL_nil ?_
 refine AC_cond (.tmp rfl) (fun hb23 => ?_) (fun hb23 => ?_)
 ·try simp only [zA,zO,zN,zM,zP,zQ,zD,zF,gd] at hb23
  have hil : i < s.main.length := by omega
  have hif : fits (i : Int) := by unfold fits; omega
  have hat := at_short (name := mainN) (by decide) hil (by omega)
  have hsh := (short_ctr (ns := (s.init ++ s.main.take i).map Ctr.name) (ps := (s.init ++ s.main.take i).flatMap Ctr.ports) (a := 3) (b := 1000) (c := s.main[i]'hil) (by have := hpm _ (List.getElem_mem hil); omega)).text
  refine AC_skip ?_
  refine AC_seq ?_
  refine AC_block ?_
  refine AC_seq (AC_region ?_)
  refine fl 3 ?_
  refine ld 0 ?_
  refine mv rfl rfl rfl rfl ?_
  refine p_ (S_elemN (e := 150) 11 rfl (.tmp rfl) (.tmp rfl) (by kernel_rfl) (by kernel_rfl) (by omega) (fun _ => rfl)) ?_
  refine p_ (S_loadPN (m := 11) rfl (.tmp rfl) (by kernel_rfl) (by first | exact Nat.le_of_ble_eq_true rfl | (simp; omega) | simp)) ?_
  refine mv rfl rfl rfl rfl ?_
  refine p_ (S_pcall rfl (AEvs.cons (y := ctrAV (s.main[i]'hil)) (.tmp rfl) (AEvs.cons ((AEv.tmp rfl).le (Le_own hq)) (AEvs.cons (AEv.const _) AEvs.nil))) ((ref06_one_ok (s.main[i]'hil) (s.init ++ s.main.take i) false (by have := hpm _ (List.getElem_mem hil); omega) (by have := hpm _ (List.getElem_mem hil); omega) (by have := hpm _ (List.getElem_mem hil); omega) (by rw [List.length_append, List.length_take]; omega) (fun x hx => (List.mem_append.1 hx).elim (fun hx => by have := hpi x hx; omega) (fun hx => by have := hpm x (List.mem_of_mem_take hx); omega))).of_eq (show _ = cpAV (ctrE ((s.init ++ s.main.take i).map Ctr.name) ((s.init ++ s.main.take i).flatMap Ctr.ports) (s.main[i]'hil) 3 1000) from rfl))) ?_
  refine mv rfl rfl rfl rfl ?_
  refine ex 0 ?_
  refine ex 1 ?_
  refine as_ rfl rfl rfl rfl ?_
  refine as_ rfl rfl rfl rfl ?_
  refine AL_nil ?_
  refine AC_seq ?_
  refine AC_seq (AC_region ?_)
  refine mv rfl rfl rfl rfl ?_
  refine p_ (S_neq rfl (.tmp rfl) (AEv.const _)) ?_
  refine AL_nil ?_
  refine AC_cond (.tmp rfl) (fun hb24 => ?_) (fun hb24 => ?_)
  ·try simp only [zA,zO,zN,zM,zP,zQ,zD,zF,gd] at hb24
   have hne : (ctrE ((s.init ++ s.main.take i).map Ctr.name) ((s.init ++ s.main.take i).flatMap Ctr.ports) (s.main[i]'hil) 3 1000) ≠ none := fun h => hb24 (congrArg erCode h)
   have hx : (checkE s) = erIn (ctrE ((s.init ++ s.main.take i).map Ctr.name) ((s.init ++ s.main.take i).flatMap Ctr.ports) (s.main[i]'hil) 3 1000) (atT mainN (i : Int)) := by
    obtain ⟨y, hy⟩ := Option.ne_none_iff_exists'.1 hne
    obtain ⟨z, hz⟩ : ∃ z, erIn (ctrE ((s.init ++ s.main.take i).map Ctr.name) ((s.init ++ s.main.take i).flatMap Ctr.ports) (s.main[i]'hil) 3 1000) (atT mainN (i : Int)) = some z := by rw [hy]; exact ⟨_, rfl⟩
    rw [hz]
    exact (check_good hc1 hc2).trans (firstE_hd (eachE_at hil (by rw [ctrAt_at hil, seen_names, seen_ports, hz]) (fun j hj => by rw [hall j hj]; rfl)))
   refine AC_seq (AC_region ?_)
   refine mv rfl rfl rfl rfl ?_
   refine mv rfl rfl rfl rfl ?_
   refine p_ (S_pcall rfl (AEvs.cons (AEv.S _) (AEvs.cons (.tmp rfl) AEvs.nil)) (ref06_at_ok mainN (by decide) (i : Int) hif)) ?_
   refine p_ (S_cat rfl (.tmp rfl) (AEv.S _) (by first | omega | (simp only [List.length_append, List.length_cons, List.length_nil]; omega))) ?_
   refine mv rfl rfl rfl rfl ?_
   refine p_ (S_cat rfl (.tmp rfl) (.tmp rfl) (by first | omega | (simp only [List.length_append, List.length_cons, List.length_nil]; omega))) ?_
   refine as_ rfl rfl rfl rfl ?_
   refine as_ rfl rfl rfl rfl ?_
   refine AL_nil (AC_ret ?_)
   refine ret_tmps (ts := [2, 3]) st rfl (by decide) rfl (Sub.l (List.Sublist.cons _ (List.sublist_append_right _ _))) (Conv.refl (Sub.l (List.Sublist.cons _ (List.sublist_append_right _ _))) _) ⟨cp_in (well_ctr _ _ _ _ _) hne hx rfl, rfl⟩ (.inl rfl)
  try simp only [zA,zO,zN,zM,zP,zQ,zD,zF,gd] at hb24
  have hnn : (ctrE ((s.init ++ s.main.take i).map Ctr.name) ((s.init ++ s.main.take i).flatMap Ctr.ports) (s.main[i]'hil) 3 1000) = none := (well_ctr _ _ _ _ _).code.1 hb24
  refine AC_skip ?_
  refine AC_region ?_
  refine mv rfl rfl rfl rfl ?_
  refine fl 3 ?_
  refine ld 0 ?_
  refine mv rfl rfl rfl rfl ?_
  refine p_ (S_elemN (e := 150) 11 rfl (.tmp rfl) (.tmp rfl) (by kernel_rfl) (by kernel_rfl) (by omega) (fun _ => rfl)) ?_
  refine p_ (S_loadPN (m := 11) rfl (.tmp rfl) (by kernel_rfl) (by first | exact Nat.le_of_ble_eq_true rfl | (simp; omega) | simp)) ?_
  refine p_ (S_buildSlice (e := 150) 11 rfl (AEvs.cons (.tmp rfl) AEvs.nil) rfl (by kernel_rfl) (by kernel_rfl) (by intro y hy; simp only [List.mem_cons, List.not_mem_nil, or_false] at hy; rcases hy with rfl <;> exact ⟨rfl, rfl⟩) (by decide) (by decide) (by decide)) ?_
  refine s_ (S_appendM (f := ctrAV) (l := s.init ++ s.main.take i) (l2 := [(s.main[i]'hil)]) (e := 150) (size := 11) (bytes := 120) (p := p) ([_]) (st) rfl (.tmp rfl) (.tmp rfl) rfl hq (by kernel_rfl) (by simp) (fun _ => ⟨rfl, rfl⟩) (by simp only [List.length_append, List.length_take, List.length_singleton]; omega) (by simp only [List.length_append, List.length_take, List.length_singleton]; omega)) ?_
  rintro _ _ ⟨b8, k8, cap8, hx8, rfl, rfl⟩
  refine as_ rfl rfl rfl rfl ?_
  refine AL_nil ?_
  refine AC_region ?_
  refine mv rfl rfl rfl rfl ?_
  refine p_ (S_addI rfl (.tmp rfl) (AEv.const _) (by omega) (by omega)) ?_
  refine as_ rfl rfl rfl rfl ?_
  refine AL_nil ?_
  have e9 : s.init ++ s.main.take i ++ [(s.main[i]'hil)] = s.init ++ s.main.take (i + 1) := by rw [List.append_assoc, take_snoc]
  rw [e9] at hx8 ⊢
  refine ⟨(i + 1, .row b8 k8 cap8), ⟨by dsimp only; omega, hx8, fun j h => ?_⟩, by dsimp only; omega, (Sub.l (List.Sublist.refl _)), (.cons rfl (by first | exact Le.refl _ | exact Le.nils | exact Le.row _ _ _ _ | exact Le.of_eq (by first | rfl | (simp; done) | (push_cast; rfl) | (simp; omega))) (.cons rfl (by first | exact Le.refl _ | exact Le.nils | exact Le.row _ _ _ _ | exact Le.of_eq (by first | rfl | (simp; done) | (push_cast; rfl) | (simp; omega))) .nil)), (.cons rfl (Le.refl _) .nil)⟩
  rcases Nat.lt_or_ge j i with h' | h'
  ·exact hall j h'
  ·have : j = i := by dsimp only at h; omega
   subst this
   rw [ctrAt_at hil, seen_names, seen_ports]; exact hnn
 try simp only [zA,zO,zN,zM,zP,zQ,zD,zF,gd] at hb23
 have hcm : ctrsE mainN (namesTo [] s.init s.init.length) (portsTo [] s.init s.init.length) s.main 3 1000 = none := eachE_all fun j hj => by rw [hall j (by omega)]; rfl
 have hc3 := (check_good hc1 hc2).trans (firstE_tl hcm)
 refine AC_exit ?_
 refine AC_seq ?_
 refine AC_seq (AC_region ?_)
 refine fl 4 ?_
 refine ld 0 ?_
 refine p_ (S_lss rfl (.tmp rfl) (AEv.const _)) ?_
 refine mv rfl rfl rfl rfl ?_
 refine g_ (fun _ => fA 4) ?_
 refine g_ (fun _ => lA 0) ?_
 refine g_ (fun _ => S_gtr rfl (AEv.cd (.tmp rfl)) (AEv.const _)) ?_
 refine p_ (S_or rfl (.tmp rfl) (fun hp36 => (AEv.cd (.tmp rfl)))) ?_
 refine AL_nil ?_
 refine AC_cond (.tmp rfl) (fun hb37 => ?_) (fun hb37 => ?_)
 ·try simp only [zA,zO,zN,zM,zP,zQ,zD,zF,gd] at hb37
  have hx : (checkE s) = some (1, [[114, 101, 115, 116, 97, 114, 116]]) := hc3.trans (firstE_hd (by unfold withinE; rw [if_pos (by omega)]))
  refine AC_seq (AC_region ?_)
  refine ac rfl rfl rfl ?_
  refine p_ (S_assign rfl (AEv.S _)) ?_
  refine AL_nil (AC_ret ?_)
  refine ret_tmps (ts := [2, 3]) st rfl (by decide) rfl (Sub.l (List.Sublist.cons _ (List.sublist_append_right _ _))) (Conv.refl (Sub.l (List.Sublist.cons _ (List.sublist_append_right _ _))) _) ⟨cp_some hx rfl, rfl⟩ (.inl rfl)
 try simp only [zA,zO,zN,zM,zP,zQ,zD,zF,gd] at hb37
 have hc4 := hc3.trans (firstE_tl (by unfold withinE; rw [if_neg (by omega)]))
 refine AC_skip ?_
 refine AC_seq ?_
 refine AC_seq (AC_region ?_)
 refine fl 5 ?_
 refine ld 0 ?_
 refine p_ (S_lss rfl (.tmp rfl) (AEv.const _)) ?_
 refine mv rfl rfl rfl rfl ?_
 refine g_ (fun _ => fA 5) ?_
 refine g_ (fun _ => lA 0) ?_
 refine g_ (fun _ => S_gtr rfl (AEv.cd (.tmp rfl)) (AEv.const _)) ?_
 refine p_ (S_or rfl (.tmp rfl) (fun hp47 => (AEv.cd (.tmp rfl)))) ?_
 refine AL_nil ?_
 refine AC_cond (.tmp rfl) (fun hb48 => ?_) (fun hb48 => ?_)
 ·try simp only [zA,zO,zN,zM,zP,zQ,zD,zF,gd] at hb48
  have hx : (checkE s) = some (1, [[103, 114, 97, 99, 101]]) := hc4.trans (firstE_hd (by unfold withinE; rw [if_pos (by omega)]))
  refine AC_seq (AC_region ?_)
  refine ac rfl rfl rfl ?_
  refine p_ (S_assign rfl (AEv.S _)) ?_
  refine AL_nil (AC_ret ?_)
  refine ret_tmps (ts := [2, 3]) st rfl (by decide) rfl (Sub.l (List.Sublist.cons _ (List.sublist_append_right _ _))) (Conv.refl (Sub.l (List.Sublist.cons _ (List.sublist_append_right _ _))) _) ⟨cp_some hx rfl, rfl⟩ (.inl rfl)
 try simp only [zA,zO,zN,zM,zP,zQ,zD,zF,gd] at hb48
 have hc5 := hc4.trans (firstE_tl (by unfold withinE; rw [if_neg (by omega)]))
 refine AC_skip ?_
 refine AC_seq ?_
 refine AC_seq (AC_region ?_)
 refine fl 6 ?_
 refine ld 0 ?_
 refine p_ (S_lss rfl (.tmp rfl) (AEv.const _)) ?_
 refine mv rfl rfl rfl rfl ?_
 refine g_ (fun _ => fA 6) ?_
 refine g_ (fun _ => lA 0) ?_
 refine g_ (fun _ => S_gtr rfl (AEv.cd (.tmp rfl)) (AEv.const _)) ?_
 refine p_ (S_or rfl (.tmp rfl) (fun hp58 => (AEv.cd (.tmp rfl)))) ?_
 refine AL_nil ?_
 refine AC_cond (.tmp rfl) (fun hb59 => ?_) (fun hb59 => ?_)
 ·try simp only [zA,zO,zN,zM,zP,zQ,zD,zF,gd] at hb59
  have hx : (checkE s) = some (1, [[112, 114, 105, 111]]) := hc5.trans (firstE_hd (by unfold withinE; rw [if_pos (by omega)]))
  refine AC_seq (AC_region ?_)
  refine ac rfl rfl rfl ?_
  refine p_ (S_assign rfl (AEv.S _)) ?_
  refine AL_nil (AC_ret ?_)
  refine ret_tmps (ts := [2, 3]) st rfl (by decide) rfl (Sub.l (List.Sublist.cons _ (List.sublist_append_right _ _))) (Conv.refl (Sub.l (List.Sublist.cons _ (List.sublist_append_right _ _))) _) ⟨cp_some hx rfl, rfl⟩ (.inl rfl)
 try simp only [zA,zO,zN,zM,zP,zQ,zD,zF,gd] at hb59
 have hx : (checkE s) = none := hc5.trans ((firstE_tl (by unfold withinE; rw [if_neg (by omega)])).trans rfl)
 refine AC_skip ?_
 refine AC_seq (AC_region ?_)
 refine ac rfl rfl rfl ?_
 refine p_ (S_assign rfl (AEv.S _)) ?_
 refine AL_nil (AC_ret ?_)
 refine ret_tmps (ts := [2, 3]) st rfl (by decide) rfl (Sub.l (List.Sublist.cons _ (List.sublist_append_right _ _))) (Conv.refl (Sub.l (List.Sublist.cons _ (List.sublist_append_right _ _))) _) ⟨cp_none hx, rfl⟩ (.inl rfl)
theorem ref06_Right_ok (s : Spc) (hl : lightS s = true) : PCalls Tryz.prog 71 [spcAV s] (.bool (checkE s).isNone) := by
 intro st
 refine co 12 Tryz.func71 ?_
 refine AC_seq (AC_region ?_)
 refine s_ (S_box rfl (.tmp rfl)) ?_
 rintro _ _ ⟨b1, rfl, rfl⟩
 refine ac rfl rfl rfl ?_
 refine AL_nil (AC_seq (AC_region ?_))
 refine ldN 7 0 ?_
 refine p_ (S_pcall rfl (AEvs.cons (.tmp rfl) AEvs.nil) (ref06_Check_ok s hl)) ?_
 refine mv rfl rfl rfl rfl ?_
 refine ex 0 ?_
 refine ex 1 ?_
 refine as_ rfl rfl rfl rfl ?_
 refine as_ rfl rfl rfl rfl ?_
 refine AL_nil (AC_seq (AC_region ?_))
 refine mv rfl rfl rfl rfl ?_
 refine p_ (S_eql rfl (.tmp rfl) (AEv.const _)) ?_
 refine as_ rfl rfl rfl rfl ?_
 refine AL_nil (AC_ret ?_)
 refine ret_tmp st rfl rfl (Sub.l (List.sublist_cons_self _ _)) (Conv.refl (Sub.l (List.sublist_cons_self _ _)) _) ⟨congrArg AV.bool (well_check s).isNone.symm, rfl⟩ (.inl rfl)
theorem ref09_within_ok (n lo hi : Int) : PCalls Tryz.prog 40 [.int .i64 n, .int .i64 lo, .int .i64 hi] (.bool (decide (lo ≤ n ∧ n ≤ hi))) := by
 intro st
 refine co 15 Tryz.func40 ?_
 refine AC_seq (AC_region ?_)
 refine ac rfl rfl rfl ?_
 refine AL_nil (AC_seq (AC_region ?_))
 refine mv rfl rfl rfl rfl ?_
 refine mv rfl rfl rfl rfl ?_
 refine p_ (S_geq rfl (.tmp rfl) (.tmp rfl)) ?_
 refine mv rfl rfl rfl rfl ?_
 refine g_ (fun _ => mA) ?_
 refine g_ (fun _ => mA) ?_
 refine g_ (fun _ => S_leq rfl (AEv.cd (.tmp rfl)) (AEv.cd (.tmp rfl))) ?_
 refine an ?_
 refine as_ rfl rfl rfl rfl ?_
 refine AL_nil (AC_ret ?_)
 refine ret_tmp st rfl rfl (Sub.l (List.Sublist.refl _)) (Conv.refl (Sub.l (List.Sublist.refl _)) _) ⟨congrArg AV.bool (by by_cases h1 : lo ≤ n <;> by_cases h2 : n ≤ hi <;> simp [h1, h2]), rfl⟩ (.inl rfl)
theorem ref09_bareSpec_ok (s : Spc) : PCalls Tryz.prog 82 [spcAV s] (.bool (emptyB s)) := by
 intro st
 refine co 39 Tryz.func82 ?_
 refine AC_seq (AC_region ?_)
 refine s_ (S_box rfl (.tmp rfl)) ?_
 rintro _ _ ⟨b1, rfl, rfl⟩
 refine ac rfl rfl rfl ?_
 refine AL_nil (AC_seq (AC_region ?_))
 refine fl 0 ?_
 refine ld 0 ?_
 refine p_ (S_eqS rfl (.tmp rfl) (AEv.S _)) ?_
 refine mv rfl rfl rfl rfl ?_
 refine g_ (fun _ => fA 1) ?_
 refine g_ (fun _ => lA 0) ?_
 refine g_ (fun _ => by first | exact S_lenM (e := 140) rfl (AEv.cd (.tmp rfl)) (by kernel_rfl) | exact S_len (e := 140) rfl (AEv.cd (.tmp rfl)) (by kernel_rfl)) ?_
 refine g_ (fun _ => S_eql rfl (AEv.cd (.tmp rfl)) (AEv.const _)) ?_
 refine an ?_
 refine mv rfl rfl rfl rfl ?_
 refine g_ (fun _ => fA 2) ?_
 refine g_ (fun _ => lA 0) ?_
 refine g_ (fun _ => by first | exact S_lenM (e := 150) rfl (AEv.cd (.tmp rfl)) (by kernel_rfl) | exact S_len (e := 150) rfl (AEv.cd (.tmp rfl)) (by kernel_rfl)) ?_
 refine g_ (fun _ => S_eql rfl (AEv.cd (.tmp rfl)) (AEv.const _)) ?_
 refine an ?_
 refine mv rfl rfl rfl rfl ?_
 refine g_ (fun _ => fA 3) ?_
 refine g_ (fun _ => lA 0) ?_
 refine g_ (fun _ => by first | exact S_lenM (e := 150) rfl (AEv.cd (.tmp rfl)) (by kernel_rfl) | exact S_len (e := 150) rfl (AEv.cd (.tmp rfl)) (by kernel_rfl)) ?_
 refine g_ (fun _ => S_eql rfl (AEv.cd (.tmp rfl)) (AEv.const _)) ?_
 refine an ?_
 refine mv rfl rfl rfl rfl ?_
 refine g_ (fun _ => fA 4) ?_
 refine g_ (fun _ => lA 0) ?_
 refine g_ (fun _ => S_eql rfl (AEv.cd (.tmp rfl)) (AEv.const _)) ?_
 refine an ?_
 refine mv rfl rfl rfl rfl ?_
 refine g_ (fun _ => fA 5) ?_
 refine g_ (fun _ => lA 0) ?_
 refine g_ (fun _ => S_eql rfl (AEv.cd (.tmp rfl)) (AEv.const _)) ?_
 refine an ?_
 refine mv rfl rfl rfl rfl ?_
 refine g_ (fun _ => fA 6) ?_
 refine g_ (fun _ => lA 0) ?_
 refine g_ (fun _ => S_eql rfl (AEv.cd (.tmp rfl)) (AEv.const _)) ?_
 refine an ?_
 refine as_ rfl rfl rfl rfl ?_
 refine AL_nil (AC_ret ?_)
 refine ret_tmp st rfl rfl (Sub.l (List.sublist_cons_self _ _)) (Conv.refl (Sub.l (List.sublist_cons_self _ _)) _) ⟨rfl, rfl⟩ (.inl rfl)
theorem ref09_bare_ok (p : Pod) : PCalls Tryz.prog 39 [podAV p] (.bool (bareP p)) := by
 intro st
 refine co 37 Tryz.func39 ?_
 have hrv : decide ((p.ver : Int) = 0) = decide (p.ver = 0) := decide_eq_decide.2 (by omega)
 have hem : emptyB p.spec = sameS p.spec spc0 := by rw [Bool.eq_iff_iff, empty_iff, sameS_iff]
 refine AC_seq (AC_region ?_)
 refine s_ (S_box rfl (.tmp rfl)) ?_
 rintro _ _ ⟨b1, rfl, rfl⟩
 refine ac rfl rfl rfl ?_
 refine AL_nil (AC_seq (AC_region ?_))
 refine fl 0 ?_
 refine ld 0 ?_
 refine p_ (S_eql rfl (.tmp rfl) (AEv.const _)) ?_
 refine mv rfl rfl rfl rfl ?_
 refine g_ (fun _ => fA 1) ?_
 refine g_ (fun _ => lA 0) ?_
 refine g_ (fun _ => S_eql rfl (AEv.cd (.tmp rfl)) (AEv.const _)) ?_
 refine an ?_
 refine mv rfl rfl rfl rfl ?_
 refine g_ (fun _ => fA 2) ?_
 refine g_ (fun _ => lN 7 0) ?_
 refine g_ (fun _ => S_pcall rfl (AEvs.cons (AEv.cd (.tmp rfl)) AEvs.nil) (ref09_bareSpec_ok p.spec)) ?_
 refine an ?_
 refine mv rfl rfl rfl rfl ?_
 refine g_ (fun _ => fA 9) ?_
 refine g_ (fun _ => lA 0) ?_
 refine g_ (fun _ => S_eql rfl (AEv.cd (.tmp rfl)) (AEv.const _)) ?_
 refine an ?_
 refine mv rfl rfl rfl rfl ?_
 refine g_ (fun _ => fA 10) ?_
 refine g_ (fun _ => lA 0) ?_
 refine g_ (fun _ => by first | exact S_lenM (e := 3) rfl (AEv.cd (.tmp rfl)) (by kernel_rfl) | exact S_len (e := 3) rfl (AEv.cd (.tmp rfl)) (by kernel_rfl)) ?_
 refine g_ (fun _ => S_eql rfl (AEv.cd (.tmp rfl)) (AEv.const _)) ?_
 refine an ?_
 refine mv rfl rfl rfl rfl ?_
 refine g_ (fun _ => fA 11) ?_
 refine g_ (fun _ => lA 0) ?_
 refine g_ (fun _ => S_eql rfl (AEv.cd (.tmp rfl)) (AEv.const _)) ?_
 refine an ?_
 refine mv rfl rfl rfl rfl ?_
 refine g_ (fun _ => fA 12) ?_
 refine g_ (fun _ => lA 0) ?_
 refine g_ (fun _ => S_eql rfl (AEv.cd (.tmp rfl)) (AEv.const _)) ?_
 refine an ?_
 refine as_ rfl rfl rfl rfl ?_
 refine AL_nil (AC_ret ?_)
 refine ret_tmp st rfl rfl (Sub.l (List.sublist_cons_self _ _)) (Conv.refl (Sub.l (List.sublist_cons_self _ _)) _) ⟨congrArg AV.bool (by simp only [bareP, hrv, hem]), rfl⟩ (.inl rfl)
theorem ref09_Pod_ok (p : Pod) (hl : lightS p.spec = true) (hpl : p.ports.length ≤ 1000000) : PCalls Tryz.prog 24 [podAV p] (.bool (podMay p)) := by
 intro st
 refine co 55 Tryz.func24 ?_
 have hle : decide ((p.ports.length : Int) = (p.spec.main.length : Int)) = decide (p.ports.length = p.spec.main.length) := decide_eq_decide.2 (by omega)
 refine AC_seq (AC_region ?_)
 refine s_ (S_box rfl (.tmp rfl)) ?_
 rintro _ _ ⟨b1, rfl, rfl⟩
 refine ac rfl rfl rfl ?_
 refine AL_nil (AC_seq (AC_region ?_))
 refine fl 0 ?_
 refine ld 0 ?_
 refine p_ (S_pcall rfl (AEvs.cons (.tmp rfl) (AEvs.cons (AEv.const _) (AEvs.cons (AEv.const _) AEvs.nil))) (ref09_within_ok p.id 1 1073741824)) ?_
 refine mv rfl rfl rfl rfl ?_
 refine g_ (fun _ => fA 2) ?_
 refine g_ (fun _ => lN 7 0) ?_
 refine g_ (fun _ => S_pcall rfl (AEvs.cons (y := spcAV p.spec) (AEv.cd (.tmp rfl)) AEvs.nil) (ref06_Right_ok p.spec hl)) ?_
 refine an ?_
 refine mv rfl rfl rfl rfl ?_
 refine g_ (fun _ => fA 9) ?_
 refine g_ (fun _ => lA 0) ?_
 refine g_ (fun _ => S_pcall rfl (AEvs.cons (AEv.cd (.tmp rfl)) (AEvs.cons (AEv.const _) (AEvs.cons (AEv.const _) AEvs.nil))) (ref09_within_ok p.node 1 4)) ?_
 refine an ?_
 refine mv rfl rfl rfl rfl ?_
 refine g_ (fun _ => fA 10) ?_
 refine g_ (fun _ => lA 0) ?_
 refine g_ (fun _ => by first | exact S_lenM (e := 3) rfl (AEv.cd (.tmp rfl)) (by kernel_rfl) | exact S_len (e := 3) rfl (AEv.cd (.tmp rfl)) (by kernel_rfl)) ?_
 refine g_ (fun _ => fA 2) ?_
 refine g_ (fun _ => S_field 3 rfl (AEv.cd (.tmp rfl)) (by kernel_rfl)) ?_
 refine g_ (fun _ => lA 0) ?_
 refine g_ (fun _ => by first | exact S_lenM (e := 150) rfl (AEv.cd (.tmp rfl)) (by kernel_rfl) | exact S_len (e := 150) rfl (AEv.cd (.tmp rfl)) (by kernel_rfl)) ?_
 refine g_ (fun _ => S_eql rfl (AEv.cd (.tmp rfl)) (AEv.cd (.tmp rfl))) ?_
 refine an ?_
 refine mv rfl rfl rfl rfl ?_
 refine g_ (fun _ => fA 11) ?_
 refine g_ (fun _ => lA 0) ?_
 refine g_ (fun _ => S_pcall rfl (AEvs.cons (AEv.cd (.tmp rfl)) (AEvs.cons (AEv.const _) (AEvs.cons (AEv.const _) AEvs.nil))) (ref09_within_ok p.x 0 2)) ?_
 refine an ?_
 refine mv rfl rfl rfl rfl ?_
 refine g_ (fun _ => fA 12) ?_
 refine g_ (fun _ => lA 0) ?_
 refine g_ (fun _ => S_pcall rfl (AEvs.cons (AEv.cd (.tmp rfl)) (AEvs.cons (AEv.const _) (AEvs.cons (AEv.const _) AEvs.nil))) (ref09_within_ok p.y 0 1000)) ?_
 refine an ?_
 refine as_ rfl rfl rfl rfl ?_
 refine AL_nil ?_
 refine AC_seq ?_
 refine AC_seq (AC_region ?_)
 refine ac rfl rfl rfl ?_
 refine AL_nil ?_
 refine AC_block ?_
 refine AC_loopK (G := Nat) [(1, _), (2, _)] (fun g => g ≤ p.ports.length) (fun g => [(3, .bool ((decide (1 ≤ p.id ∧ p.id ≤ 1073741824) && (checkE p.spec).isNone && decide (1 ≤ p.node ∧ p.node ≤ 4) && decide (p.ports.length = p.spec.main.length) && decide (0 ≤ p.x ∧ p.x ≤ 2) && decide (0 ≤ p.y ∧ p.y ≤ 1000)) && (p.ports.take g).all (fun n => decide (0 ≤ n ∧ n ≤ 1073741824)))), (4, .int .i64 (g : Int))]) (fun g => (b1, .cells (podL p)) :: st) (fun g => p.ports.length - g) (0) (Nat.zero_le _) (Sub.l (List.Sublist.refl _)) (.cons rfl (Le.refl _) (.cons rfl (Le.refl _) .nil)) (.cons rfl (Le.of_eq (congrArg AV.bool (by simp only [List.take_zero, List.all_nil, Bool.and_true, hle]))) (.cons rfl (by first | exact Le.refl _ | exact Le.nils | exact Le.row _ _ _ _ | exact Le.of_eq (by first | rfl | (simp; done) | (push_cast; rfl) | (simp; omega))) .nil)) ?_
 rintro i hi
 try dsimp only
 simp only [List.cons_append, List.nil_append]
 refine AC_seq ?_
 refine AC_seq (AC_region ?_)
 refine mv rfl rfl rfl rfl ?_
 refine fl 10 ?_
 refine ld 0 ?_
 refine p_ (by first | exact S_lenM (e := 3) rfl (.tmp rfl) (by kernel_rfl) | exact S_len (e := 3) rfl (.tmp rfl) (by kernel_rfl)) ?_
 refine p_ (S_lss rfl (.tmp rfl) (.tmp rfl)) ?_
 refine AL_nil ?_
 refine AC_cond (.tmp rfl) (fun hb67 => ?_) (fun hb67 => ?_)
 ·try simp only [zA,zO,zN,zM,zP,zQ,zD,zF,gd] at hb67
  have hil : i < p.ports.length := by first | omega | (have h9 := hb67; simp [intsV] at h9; omega)
  refine AC_skip ?_
  refine AC_seq ?_
  refine AC_block ?_
  refine AC_region ?_
  refine mv rfl rfl rfl rfl ?_
  refine mv rfl rfl rfl rfl ?_
  refine g_ (fun _ => fA 10) ?_
  refine g_ (fun _ => lA 0) ?_
  refine g_ (fun _ => mA) ?_
  refine g_ (fun _ => S_elem (e := 3) (c := .int .i64 (p.ports.getD i 0)) (i := (i : Int)) 1 rfl (AEv.cd (.tmp rfl)) (AEv.cd (.tmp rfl)) (by kernel_rfl) (by kernel_rfl) (by first | (simp [intsV]; done) | (simp [intsV]; omega)) (by simp [intsV, hil]) rfl) ?_
  refine g_ (fun _ => S_loadP rfl (AEv.cd (.tmp rfl)) rfl (by kernel_rfl)) ?_
  refine g_ (fun _ => S_pcall rfl (AEvs.cons (AEv.cd (.tmp rfl)) (AEvs.cons (AEv.const _) (AEvs.cons (AEv.const _) AEvs.nil))) (ref09_within_ok (p.ports.getD i 0) 0 1073741824)) ?_
  refine an ?_
  refine as_ rfl rfl rfl rfl ?_
  refine AL_nil ?_
  refine AC_region ?_
  refine mv rfl rfl rfl rfl ?_
  refine p_ (S_addI rfl (.tmp rfl) (AEv.const _) (by omega) (by omega)) ?_
  refine as_ rfl rfl rfl rfl ?_
  refine AL_nil ?_
  exact ⟨i + 1, by omega, by omega, (Sub.l (List.Sublist.refl _)), (.cons rfl (Le.of_eq (congrArg AV.bool (all_snoc hil))) (.cons rfl (by first | exact Le.refl _ | exact Le.nils | exact Le.row _ _ _ _ | exact Le.of_eq (by first | rfl | (simp; done) | (push_cast; rfl) | (simp; omega))) .nil)), (.cons rfl (Le.refl _) (.cons rfl (Le.refl _) .nil))⟩
 try simp only [zA,zO,zN,zM,zP,zQ,zD,zF,gd] at hb67
 have hx : p.ports.take i = p.ports := List.take_of_length_le (by first | omega | (have h9 := hb67; simp [intsV] at h9; omega))
 refine AC_exit ?_
 refine AC_seq (AC_region ?_)
 refine mv rfl rfl rfl rfl ?_
 refine as_ rfl rfl rfl rfl ?_
 refine AL_nil (AC_ret ?_)
 refine ret_tmp st rfl rfl (Sub.l (List.sublist_cons_self _ _)) (Conv.refl (Sub.l (List.sublist_cons_self _ _)) _) ⟨congrArg AV.bool (by rw [hx]; exact refPod_eq p), rfl⟩ (.inl rfl)
set_option maxHeartbeats 2000000 in
theorem ref09_Check_ok (m : Msg) (hm : ShortM m) : PCalls Tryz.prog 12 [msgAV m] (.bool (msgMay m)) := by
 intro st
 refine co 186 Tryz.func12 ?_
 obtain ⟨⟨hm1, hm2, hm3, hm4⟩, hm5⟩ := hm
 have hr1 : decide ((m.reply.rev : Int) = 0) = decide (m.reply.rev = 0) := decide_eq_decide.2 (by omega)
 have hr2 : decide ((m.event.rev : Int) = 0) = decide (m.event.rev = 0) := decide_eq_decide.2 (by omega)
 refine AC_seq (AC_region ?_)
 refine s_ (S_box rfl (.tmp rfl)) ?_
 rintro _ _ ⟨b1, rfl, rfl⟩
 refine ac rfl rfl rfl ?_
 refine AL_nil (AC_seq (AC_region ?_))
 refine fl 2 ?_
 refine ldN 7 0 ?_
 refine s_ (S_alloc [.int .i64 0, .int .i64 0, .int .i64 0, .int .u64 0, .string ⟨#[]⟩, .slice none 0 0, .slice none 0 0] rfl (by kernel_rfl)) ?_
 rintro _ _ ⟨b3, rfl, rfl⟩
 refine stW 0 ?_
 refine AL_nil (AC_seq (AC_region ?_))
 refine fl 9 ?_
 refine ldN 15 1 ?_
 refine s_ (S_alloc [.int .i64 0, .int .u64 0, .int .i64 0, .int .u64 0, .string ⟨#[]⟩, .slice none 0 0, .slice none 0 0, .slice none 0 0, .int .i64 0, .int .i64 0, .int .i64 0, .int .i64 0, .slice none 0 0, .int .i64 0, .int .i64 0] rfl (by kernel_rfl)) ?_
 rintro _ _ ⟨b4, rfl, rfl⟩
 refine stW 0 ?_
 refine AL_nil ?_
 refine AC_seq ?_
 refine AC_seq (AC_region ?_)
 refine fl 1 ?_
 refine ld 2 ?_
 refine p_ (S_lss rfl (.tmp rfl) (AEv.const _)) ?_
 refine mv rfl rfl rfl rfl ?_
 refine g_ (fun _ => fA 1) ?_
 refine g_ (fun _ => lA 2) ?_
 refine g_ (fun _ => S_gtr rfl (AEv.cd (.tmp rfl)) (AEv.const _)) ?_
 refine p_ (S_or rfl (.tmp rfl) (fun hp13 => (AEv.cd (.tmp rfl)))) ?_
 refine AL_nil ?_
 refine AC_cond (.tmp rfl) (fun hb14 => ?_) (fun hb14 => ?_)
 ·try simp only [zA,zO,zN,zM,zP,zQ,zD,zF,gd] at hb14
  have hx := msg_out (m := m) (by omega)
  refine AC_seq (AC_region ?_)
  refine ac rfl rfl rfl ?_
  refine AL_nil (AC_ret ?_)
  refine ret_tmp st rfl rfl (Sub.l (.cons _ (.cons _ (.cons _ (List.Sublist.refl _))))) (Conv.refl (Sub.l (.cons _ (.cons _ (.cons _ (List.Sublist.refl _))))) _) ⟨by rw [hx], rfl⟩ (.inl rfl)
 try simp only [zA,zO,zN,zM,zP,zQ,zD,zF,gd] at hb14
 have hn : 1 ≤ m.num ∧ m.num ≤ 1073741824 := by omega
 refine AC_skip ?_
 refine AC_seq ?_
 refine AC_seq (AC_region ?_)
 refine fl 0 ?_
 refine ld 2 ?_
 refine p_ (S_eql rfl (.tmp rfl) (AEv.const _)) ?_
 refine AL_nil ?_
 refine AC_cond (.tmp rfl) (fun hb15 => ?_) (fun hb15 => ?_)
 ·try simp only [zA,zO,zN,zM,zP,zQ,zD,zF,gd] at hb15
  have hk : m.kind = 2 := by omega
  refine AC_seq (AC_region ?_)
  refine fl 0 ?_
  refine ld 1 ?_
  refine p_ (S_eql rfl (.tmp rfl) (AEv.const _)) ?_
  refine mv rfl rfl rfl rfl ?_
  refine g_ (fun _ => fA 1) ?_
  refine g_ (fun _ => lA 1) ?_
  refine g_ (fun _ => S_eql rfl (AEv.cd (.tmp rfl)) (AEv.const _)) ?_
  refine an ?_
  refine mv rfl rfl rfl rfl ?_
  refine g_ (fun _ => fA 2) ?_
  refine g_ (fun _ => lA 1) ?_
  refine g_ (fun _ => S_eql rfl (AEv.cd (.tmp rfl)) (AEv.const _)) ?_
  refine an ?_
  refine mv rfl rfl rfl rfl ?_
  refine g_ (fun _ => fA 3) ?_
  refine g_ (fun _ => lA 1) ?_
  refine g_ (fun _ => S_eql rfl (AEv.cd (.tmp rfl)) (AEv.const _)) ?_
  refine an ?_
  refine mv rfl rfl rfl rfl ?_
  refine g_ (fun _ => fA 4) ?_
  refine g_ (fun _ => lA 1) ?_
  refine g_ (fun _ => S_eqS rfl (AEv.cd (.tmp rfl)) (AEv.S _)) ?_
  refine an ?_
  refine mv rfl rfl rfl rfl ?_
  refine g_ (fun _ => fA 5) ?_
  refine g_ (fun _ => lA 1) ?_
  refine g_ (fun _ => by first | exact S_lenM (e := 34) rfl (AEv.cd (.tmp rfl)) (by kernel_rfl) | exact S_len (e := 34) rfl (AEv.cd (.tmp rfl)) (by kernel_rfl)) ?_
  refine g_ (fun _ => S_eql rfl (AEv.cd (.tmp rfl)) (AEv.const _)) ?_
  refine an ?_
  refine mv rfl rfl rfl rfl ?_
  refine g_ (fun _ => fA 6) ?_
  refine g_ (fun _ => lA 1) ?_
  refine g_ (fun _ => by first | exact S_lenM (e := 74) rfl (AEv.cd (.tmp rfl)) (by kernel_rfl) | exact S_len (e := 74) rfl (AEv.cd (.tmp rfl)) (by kernel_rfl)) ?_
  refine g_ (fun _ => S_eql rfl (AEv.cd (.tmp rfl)) (AEv.const _)) ?_
  refine an ?_
  refine as_ rfl rfl rfl rfl ?_
  refine AL_nil ?_
  refine AC_seq ?_
  refine AC_seq (AC_region ?_)
  refine fl 0 ?_
  refine ld 0 ?_
  refine p_ (S_geq rfl (.tmp rfl) (AEv.const _)) ?_
  refine mv rfl rfl rfl rfl ?_
  refine g_ (fun _ => fA 0) ?_
  refine g_ (fun _ => lA 0) ?_
  refine g_ (fun _ => S_leq rfl (AEv.cd (.tmp rfl)) (AEv.const _)) ?_
  refine an ?_
  refine AL_nil ?_
  refine AC_cond (.tmp rfl) (fun hb92 => ?_) (fun hb92 => ?_)
  ·try simp only [zA,zO,zN,zM,zP,zQ,zD,zF,gd] at hb92
   have hw : wholeB m.event.kind = true := decide_eq_true (by omega)
   have hx : msgMay m = (silentB m.reply && podMay m.event.pod) := by rw [msg_two hn hk]; unfold eventMay; rw [if_pos hw]
   refine AC_seq (AC_region ?_)
   refine mv rfl rfl rfl rfl ?_
   refine mv rfl rfl rfl rfl ?_
   refine g_ (fun _ => fA 2) ?_
   refine g_ (fun _ => lN 13 0) ?_
   refine g_ (fun _ => S_pcall rfl (AEvs.cons (y := podAV m.event.pod) (AEv.cd (.tmp rfl)) AEvs.nil) (ref09_Pod_ok m.event.pod hm5.1 (by have := hm5.2; omega))) ?_
   refine an ?_
   refine as_ rfl rfl rfl rfl ?_
   refine AL_nil (AC_ret ?_)
   refine ret_tmp st rfl rfl (Sub.l (.cons _ (.cons _ (.cons _ (List.Sublist.refl _))))) (Conv.refl (Sub.l (.cons _ (.cons _ (.cons _ (List.Sublist.refl _))))) _) ⟨congrArg AV.bool (by rw [hx]; simp only [silentB, hr1, List.length_map, podsV]), rfl⟩ (.inl rfl)
  try simp only [zA,zO,zN,zM,zP,zQ,zD,zF,gd] at hb92
  have hw : ¬ wholeB m.event.kind = true := by unfold wholeB; simp only [decide_eq_true_eq]; omega
  have hx : msgMay m = (silentB m.reply && ((decide (m.event.kind = 4) || decide (m.event.kind = 5)) && bareP m.event.pod)) := by rw [msg_two hn hk]; unfold eventMay; rw [if_neg hw]
  refine AC_skip ?_
  refine AC_seq (AC_region ?_)
  refine mv rfl rfl rfl rfl ?_
  refine mv rfl rfl rfl rfl ?_
  refine g_ (fun _ => fA 0) ?_
  refine g_ (fun _ => lA 0) ?_
  refine g_ (fun _ => S_eql rfl (AEv.cd (.tmp rfl)) (AEv.const _)) ?_
  refine g_ (fun _ => S_move rfl (AEv.cd (.tmp rfl))) ?_
  refine AL_gg rfl rfl (.tmp rfl) rfl (fun hg115 hg116 hg117 => S_field 0 rfl (.tmp rfl) (by kernel_rfl)) ?_
  refine AL_gg rfl rfl (.tmp rfl) rfl (fun hg118 hg119 hg120 => S_load 0 rfl (AEv.cd (.tmp rfl)) rfl rfl (by kernel_rfl)) ?_
  refine AL_gg rfl rfl (.tmp rfl) rfl (fun hg121 hg122 hg123 => S_eql rfl (AEv.cd (.tmp rfl)) (AEv.const _)) ?_
  refine g_ (fun _ => S_or rfl (AEv.cd (.tmp rfl)) (fun hp127 => (AEv.cd (.tmp rfl)))) ?_
  refine an ?_
  refine mv rfl rfl rfl rfl ?_
  refine g_ (fun _ => fA 2) ?_
  refine g_ (fun _ => lN 13 0) ?_
  refine g_ (fun _ => S_pcall rfl (AEvs.cons (y := podAV m.event.pod) (AEv.cd (.tmp rfl)) AEvs.nil) (ref09_bare_ok m.event.pod)) ?_
  refine an ?_
  refine as_ rfl rfl rfl rfl ?_
  refine AL_nil (AC_ret ?_)
  refine ret_tmp st rfl rfl (Sub.l (.cons _ (.cons _ (.cons _ (List.Sublist.refl _))))) (Conv.refl (Sub.l (.cons _ (.cons _ (.cons _ (List.Sublist.refl _))))) _) ⟨congrArg AV.bool (by rw [hx]; simp only [silentB, hr1, List.length_map, podsV, Bool.and_assoc]), rfl⟩ (.inl rfl)
 try simp only [zA,zO,zN,zM,zP,zQ,zD,zF,gd] at hb15
 have hk : ¬ m.kind = 2 := by omega
 refine AC_skip ?_
 refine AC_seq (AC_region ?_)
 refine fl 0 ?_
 refine ld 2 ?_
 refine p_ (S_eql rfl (.tmp rfl) (AEv.const _)) ?_
 refine mv rfl rfl rfl rfl ?_
 refine g_ (fun _ => fA 0) ?_
 refine g_ (fun _ => lA 0) ?_
 refine g_ (fun _ => S_eql rfl (AEv.cd (.tmp rfl)) (AEv.const _)) ?_
 refine an ?_
 refine mv rfl rfl rfl rfl ?_
 refine g_ (fun _ => fA 1) ?_
 refine g_ (fun _ => lA 0) ?_
 refine g_ (fun _ => S_eql rfl (AEv.cd (.tmp rfl)) (AEv.const _)) ?_
 refine an ?_
 refine mv rfl rfl rfl rfl ?_
 refine g_ (fun _ => fA 2) ?_
 refine g_ (fun _ => lN 13 0) ?_
 refine g_ (fun _ => S_pcall rfl (AEvs.cons (y := podAV m.event.pod) (AEv.cd (.tmp rfl)) AEvs.nil) (ref09_bare_ok m.event.pod)) ?_
 refine an ?_
 refine mv rfl rfl rfl rfl ?_
 refine g_ (fun _ => fA 0) ?_
 refine g_ (fun _ => lA 1) ?_
 refine g_ (fun _ => S_pcall rfl (AEvs.cons (AEv.cd (.tmp rfl)) (AEvs.cons (AEv.const _) (AEvs.cons (AEv.const _) AEvs.nil))) (ref09_within_ok m.reply.code 0 999)) ?_
 refine an ?_
 refine mv rfl rfl rfl rfl ?_
 refine g_ (fun _ => fA 1) ?_
 refine g_ (fun _ => lA 1) ?_
 refine g_ (fun _ => S_pcall rfl (AEvs.cons (AEv.cd (.tmp rfl)) (AEvs.cons (AEv.const _) (AEvs.cons (AEv.const _) AEvs.nil))) (ref09_within_ok m.reply.uid 0 1073741824)) ?_
 refine an ?_
 refine mv rfl rfl rfl rfl ?_
 refine g_ (fun _ => fA 2) ?_
 refine g_ (fun _ => lA 1) ?_
 refine g_ (fun _ => S_pcall rfl (AEvs.cons (AEv.cd (.tmp rfl)) (AEvs.cons (AEv.const _) (AEvs.cons (AEv.const _) AEvs.nil))) (ref09_within_ok m.reply.id 0 1073741824)) ?_
 refine an ?_
 refine mv rfl rfl rfl rfl ?_
 refine g_ (fun _ => fA 4) ?_
 refine g_ (fun _ => lA 1) ?_
 refine g_ (fun _ => S_lenS (ts := #[]) rfl (AEv.cd (.tmp rfl)) (by kernel_rfl)) ?_
 refine g_ (fun _ => S_leq rfl (AEv.cd (.tmp rfl)) (AEv.const _)) ?_
 refine an ?_
 refine mv rfl rfl rfl rfl ?_
 refine g_ (fun _ => fA 5) ?_
 refine g_ (fun _ => lA 1) ?_
 refine g_ (fun _ => by first | exact S_lenM (e := 34) rfl (AEv.cd (.tmp rfl)) (by kernel_rfl) | exact S_len (e := 34) rfl (AEv.cd (.tmp rfl)) (by kernel_rfl)) ?_
 refine g_ (fun _ => S_leq rfl (AEv.cd (.tmp rfl)) (AEv.const _)) ?_
 refine an ?_
 refine mv rfl rfl rfl rfl ?_
 refine g_ (fun _ => fA 6) ?_
 refine g_ (fun _ => lA 1) ?_
 refine g_ (fun _ => by first | exact S_lenM (e := 74) rfl (AEv.cd (.tmp rfl)) (by kernel_rfl) | exact S_len (e := 74) rfl (AEv.cd (.tmp rfl)) (by kernel_rfl)) ?_
 refine g_ (fun _ => S_leq rfl (AEv.cd (.tmp rfl)) (AEv.const _)) ?_
 refine an ?_
 refine as_ rfl rfl rfl rfl ?_
 refine AL_nil ?_
 refine AC_seq ?_
 refine AC_seq (AC_region ?_)
 refine ac rfl rfl rfl ?_
 refine AL_nil ?_
 refine AC_block ?_
 refine AC_loopK (G := Nat) [(2, _), (3, _)] (fun g => g ≤ m.reply.pods.length) (fun g => [(6, .bool (okM m && (m.reply.pods.take g).all podMay)), (7, .int .i64 (g : Int))]) (fun g => (b4, .cells (evtL m.event)) :: (b3, .cells (repL m.reply)) :: (b1, .cells (msgL m)) :: st) (fun g => m.reply.pods.length - g) (0) (Nat.zero_le _) (Sub.l (List.Sublist.refl _)) (.cons rfl (Le.refl _) (.cons rfl (Le.refl _) .nil)) (.cons rfl (Le.of_eq (congrArg AV.bool (by simp only [List.take_zero, List.all_nil, Bool.and_true, okM, hr2]))) (.cons rfl (by first | exact Le.refl _ | exact Le.nils | exact Le.row _ _ _ _ | exact Le.of_eq (by first | rfl | (simp; done) | (push_cast; rfl) | (simp; omega))) .nil)) ?_
 rintro i hi
 try dsimp only
 simp only [List.cons_append, List.nil_append]
 refine AC_seq ?_
 refine AC_seq (AC_region ?_)
 refine mv rfl rfl rfl rfl ?_
 refine mv rfl rfl rfl rfl ?_
 refine g_ (fun _ => mA) ?_
 refine g_ (fun _ => fA 5) ?_
 refine g_ (fun _ => lA 1) ?_
 refine g_ (fun _ => by first | exact S_lenM (e := 34) rfl (AEv.cd (.tmp rfl)) (by kernel_rfl) | exact S_len (e := 34) rfl (AEv.cd (.tmp rfl)) (by kernel_rfl)) ?_
 refine g_ (fun _ => S_lss rfl (AEv.cd (.tmp rfl)) (AEv.cd (.tmp rfl))) ?_
 refine an ?_
 refine AL_nil ?_
 refine AC_cond (.tmp rfl) (fun hb254 => ?_) (fun hb254 => ?_)
 ·try simp only [zA,zO,zN,zM,zP,zQ,zD,zF,gd] at hb254
  have hok : (okM m && (m.reply.pods.take i).all podMay) = true := by simpa using hb254.1
  have hil : i < m.reply.pods.length := by have h8 := hb254.2; first | omega | (simp [podsV] at h8; omega)
  refine AC_skip ?_
  refine AC_seq ?_
  refine AC_block ?_
  refine AC_region ?_
  refine fl 5 ?_
  refine ld 1 ?_
  refine mv rfl rfl rfl rfl ?_
  refine p_ (S_elemN (e := 34) 13 rfl (.tmp rfl) (.tmp rfl) (by kernel_rfl) (by kernel_rfl) (by omega) (fun _ => rfl)) ?_
  refine p_ (S_loadPN (m := 13) rfl (.tmp rfl) (by kernel_rfl) (by first | exact Nat.le_of_ble_eq_true rfl | (simp; omega) | simp)) ?_
  refine p_ (S_pcall rfl (AEvs.cons (y := podAV (m.reply.pods[i]'hil)) (.tmp rfl) AEvs.nil) (ref09_Pod_ok (m.reply.pods[i]'hil) (hm4 _ (List.getElem_mem hil)).1 (by have := (hm4 _ (List.getElem_mem hil)).2; omega))) ?_
  refine as_ rfl rfl rfl rfl ?_
  refine AL_nil ?_
  refine AC_region ?_
  refine mv rfl rfl rfl rfl ?_
  refine p_ (S_addI rfl (.tmp rfl) (AEv.const _) (by omega) (by omega)) ?_
  refine as_ rfl rfl rfl rfl ?_
  refine AL_nil ?_
  exact ⟨i + 1, by omega, by omega, (Sub.l (List.Sublist.refl _)), (.cons rfl (Le.of_eq (congrArg AV.bool (all_next hok hil).symm)) (.cons rfl (by first | exact Le.refl _ | exact Le.nils | exact Le.row _ _ _ _ | exact Le.of_eq (by first | rfl | (simp; done) | (push_cast; rfl) | (simp; omega))) .nil)), (.cons rfl (Le.refl _) (.cons rfl (Le.refl _) .nil))⟩
 try simp only [zA,zO,zN,zM,zP,zQ,zD,zF,gd] at hb254
 have hend := all_stop (f := podMay) (l := m.reply.pods) (i := i) (b := okM m) (by
  rcases hb254 with h | h
  ·exact .inl (by rcases h with h | h <;> rw [h] <;> simp)
  ·exact .inr (by first | omega | (simp [podsV] at h; omega)))
 refine AC_exit ?_
 refine AC_seq ?_
 refine AC_seq (AC_region ?_)
 refine ac rfl rfl rfl ?_
 refine AL_nil ?_
 refine AC_block ?_
 refine AC_loopK (G := Nat) [(2, _), (3, _)] (fun g => g ≤ m.reply.use.length) (fun g => [(6, .bool ((okM m && m.reply.pods.all podMay) && (m.reply.use.take g).all resMay)), (8, .int .i64 (g : Int))]) (fun g => (b4, .cells (evtL m.event)) :: (b3, .cells (repL m.reply)) :: (b1, .cells (msgL m)) :: st) (fun g => m.reply.use.length - g) (0) (Nat.zero_le _) (Sub.l (List.Sublist.refl _)) (.cons rfl (Le.refl _) (.cons rfl (Le.refl _) .nil)) (.cons rfl (Le.of_eq (congrArg AV.bool (by rw [hend]; simp only [List.take_zero, List.all_nil, Bool.and_true]))) (.cons rfl (by first | exact Le.refl _ | exact Le.nils | exact Le.row _ _ _ _ | exact Le.of_eq (by first | rfl | (simp; done) | (push_cast; rfl) | (simp; omega))) .nil)) ?_
 rintro j hj
 try dsimp only
 simp only [List.cons_append, List.nil_append]
 refine AC_seq ?_
 refine AC_seq (AC_region ?_)
 refine mv rfl rfl rfl rfl ?_
 refine mv rfl rfl rfl rfl ?_
 refine g_ (fun _ => mA) ?_
 refine g_ (fun _ => fA 6) ?_
 refine g_ (fun _ => lA 1) ?_
 refine g_ (fun _ => by first | exact S_lenM (e := 74) rfl (AEv.cd (.tmp rfl)) (by kernel_rfl) | exact S_len (e := 74) rfl (AEv.cd (.tmp rfl)) (by kernel_rfl)) ?_
 refine g_ (fun _ => S_lss rfl (AEv.cd (.tmp rfl)) (AEv.cd (.tmp rfl))) ?_
 refine an ?_
 refine AL_nil ?_
 refine AC_cond (.tmp rfl) (fun hb271 => ?_) (fun hb271 => ?_)
 ·try simp only [zA,zO,zN,zM,zP,zQ,zD,zF,gd] at hb271
  have hok : ((okM m && m.reply.pods.all podMay) && (m.reply.use.take j).all resMay) = true := by simpa using hb271.1
  have hjl : j < m.reply.use.length := by have h8 := hb271.2; first | omega | (simp at h8; omega)
  refine AC_skip ?_
  refine AC_seq ?_
  refine AC_block ?_
  refine AC_seq (AC_region ?_)
  refine fl 6 ?_
  refine ld 1 ?_
  refine mv rfl rfl rfl rfl ?_
  refine p_ (S_elemN (e := 74) 3 rfl (.tmp rfl) (.tmp rfl) (by kernel_rfl) (by kernel_rfl) (by omega) (fun _ => rfl)) ?_
  refine p_ (S_loadPN (m := 3) rfl (.tmp rfl) (by kernel_rfl) (by first | exact Nat.le_of_ble_eq_true rfl | (simp; omega) | simp)) ?_
  refine s_ (S_alloc [.int .i64 0, .int .i64 0, .int .i64 0] rfl (by kernel_rfl)) ?_
  rintro _ _ ⟨b9, rfl, rfl⟩
  refine stW 0 ?_
  refine AL_nil ?_
  refine AC_region ?_
  refine fl 0 ?_
  refine ld 0 ?_
  refine p_ (S_pcall rfl (AEvs.cons (.tmp rfl) (AEvs.cons (AEv.const _) (AEvs.cons (AEv.const _) AEvs.nil))) (ref09_within_ok (m.reply.use[j]'hjl).1 0 1099511627776)) ?_
  refine mv rfl rfl rfl rfl ?_
  refine g_ (fun _ => fA 1) ?_
  refine g_ (fun _ => lA 0) ?_
  refine g_ (fun _ => S_pcall rfl (AEvs.cons (AEv.cd (.tmp rfl)) (AEvs.cons (AEv.const _) (AEvs.cons (AEv.const _) AEvs.nil))) (ref09_within_ok (m.reply.use[j]'hjl).2.1 0 1099511627776)) ?_
  refine an ?_
  refine mv rfl rfl rfl rfl ?_
  refine g_ (fun _ => fA 2) ?_
  refine g_ (fun _ => lA 0) ?_
  refine g_ (fun _ => S_pcall rfl (AEvs.cons (AEv.cd (.tmp rfl)) (AEvs.cons (AEv.const _) (AEvs.cons (AEv.const _) AEvs.nil))) (ref09_within_ok (m.reply.use[j]'hjl).2.2 0 1099511627776)) ?_
  refine an ?_
  refine as_ rfl rfl rfl rfl ?_
  refine AL_nil ?_
  refine AC_region ?_
  refine mv rfl rfl rfl rfl ?_
  refine p_ (S_addI rfl (.tmp rfl) (AEv.const _) (by omega) (by omega)) ?_
  refine as_ rfl rfl rfl rfl ?_
  refine AL_nil ?_
  exact ⟨j + 1, by omega, by omega, (Sub.l (List.sublist_cons_self _ _)), (.cons rfl (Le.of_eq (congrArg AV.bool (all_next hok hjl).symm)) (.cons rfl (by first | exact Le.refl _ | exact Le.nils | exact Le.row _ _ _ _ | exact Le.of_eq (by first | rfl | (simp; done) | (push_cast; rfl) | (simp; omega))) .nil)), (.cons rfl (Le.refl _) (.cons rfl (Le.refl _) .nil))⟩
 try simp only [zA,zO,zN,zM,zP,zQ,zD,zF,gd] at hb271
 have hend := all_stop (f := resMay) (l := m.reply.use) (i := j) (b := (okM m && m.reply.pods.all podMay)) (by
  rcases hb271 with h | h
  ·exact .inl (by rcases h with (h | h) | h <;> rw [h] <;> simp)
  ·exact .inr (by first | omega | (simp at h; omega)))
 refine AC_exit ?_
 refine AC_seq (AC_region ?_)
 refine mv rfl rfl rfl rfl ?_
 refine as_ rfl rfl rfl rfl ?_
 refine AL_nil (AC_ret ?_)
 refine ret_tmp st rfl rfl (Sub.l (.cons _ (.cons _ (.cons _ (List.Sublist.refl _))))) (Conv.refl (Sub.l (.cons _ (.cons _ (.cons _ (List.Sublist.refl _))))) _) ⟨congrArg AV.bool (by rw [hend, msg_one hn hk]), rfl⟩ (.inl rfl)
end Go.Proofs.YtemmkkmpchphkaaGreatDoor

set_option maxRecDepth 100000
namespace Go.Proofs.YtemmkkmpchphkaaGreatDoor
open Go.AL Go.NumSpec
theorem clone_ints_ok (l : List Int) (hl : l.length ≤ 1000000) (F : St) : ACalls Tryz.prog 65 [.sl (intsV l)] ([] ++ F) (fun x st' => ∃ foot', (∃ q : Vec, q.ok (intsV l) ∧ x = .lit (vecV q (intsV l).length) ∧ foot' = vecSt q 1 (intsV l)) ∧ st' = foot' ++ F) := by
 refine co 8 Tryz.func65 ?_
 have hln : (intsV l).length = l.length := by simp [intsV]
 refine AC_seq (AC_region ?_)
 refine ac rfl rfl rfl ?_
 refine AL_nil ?_
 refine AC_seq ?_
 refine AC_seq (AC_region ?_)
 refine mv rfl rfl rfl rfl ?_
 refine s_ (S_eqlNilSl (e := 3) rfl (.tmp rfl) (AEv.const _) (by kernel_rfl)) ?_
 rintro _ st9 ⟨c, rfl, hc, h9⟩
 rw [h9]
 clear h9 st9
 refine AL_nil ?_
 refine AC_cond (.tmp rfl) (fun hb1 => ?_) (fun hb1 => ?_)
 ·try simp only [zA,zO,zN,zM,zP,zQ,zD,zF,gd] at hb1
  have hnil := hc hb1
  refine AC_seq (AC_region ?_)
  refine ac rfl rfl rfl ?_
  refine AL_nil (AC_ret ?_)
  refine ret_tmp ([] ++ F) rfl rfl (Sub.l (List.Sublist.refl _)) (Conv.refl (Sub.l (List.Sublist.refl _)) _) ⟨[], ⟨.nil, hnil, rfl, rfl⟩, rfl⟩ (.inl rfl)
 try simp only [zA,zO,zN,zM,zP,zQ,zD,zF,gd] at hb1
 refine AC_skip ?_
 refine AC_seq (AC_region ?_)
 refine s_ (S_build0 (e := 3) rfl rfl (by kernel_rfl) (by kernel_rfl)) ?_
 rintro _ st9 ⟨A, rfl, h9⟩
 rw [h9]
 clear h9 st9
 refine mv rfl rfl rfl rfl ?_
 refine s_ (S_appendEmpV (e := 3) (size := 1) (bytes := 8) rfl (.tmp rfl) (.tmp rfl) (by kernel_rfl) (fun y hy => by obtain ⟨r, _, rfl⟩ := List.mem_map.1 hy; exact ⟨rfl, rfl⟩) (by rw [hln]; omega) (by rw [hln]; omega)) ?_
 rintro _ _ ⟨q, hq, rfl, rfl⟩
 refine as_ rfl rfl rfl rfl ?_
 refine AL_nil (AC_ret ?_)
 refine ret_tmp (vecSt q 1 (intsV l) ++ F) rfl rfl (Sub.l (List.Sublist.refl _)) (Conv.refl (Sub.l (List.Sublist.refl _)) _) ⟨_, ⟨q, hq, rfl, rfl⟩, rfl⟩ (.inl rfl)
theorem clone_labs_ok (l : List Lab) (hl : l.length ≤ 1000000) (F : St) : ACalls Tryz.prog 101 [.sl (labsV l)] ([] ++ F) (fun x st' => ∃ foot', (∃ q : Vec, q.ok (labsV l) ∧ x = .lit (vecV q (labsV l).length) ∧ foot' = vecSt q 2 (labsV l)) ∧ st' = foot' ++ F) := by
 refine co 8 Tryz.func101 ?_
 have hln : (labsV l).length = l.length := by simp [labsV]
 refine AC_seq (AC_region ?_)
 refine ac rfl rfl rfl ?_
 refine AL_nil ?_
 refine AC_seq ?_
 refine AC_seq (AC_region ?_)
 refine mv rfl rfl rfl rfl ?_
 refine s_ (S_eqlNilSl (e := 140) rfl (.tmp rfl) (AEv.const _) (by kernel_rfl)) ?_
 rintro _ st9 ⟨c, rfl, hc, h9⟩
 rw [h9]
 clear h9 st9
 refine AL_nil ?_
 refine AC_cond (.tmp rfl) (fun hb1 => ?_) (fun hb1 => ?_)
 ·try simp only [zA,zO,zN,zM,zP,zQ,zD,zF,gd] at hb1
  have hnil := hc hb1
  refine AC_seq (AC_region ?_)
  refine ac rfl rfl rfl ?_
  refine AL_nil (AC_ret ?_)
  refine ret_tmp ([] ++ F) rfl rfl (Sub.l (List.Sublist.refl _)) (Conv.refl (Sub.l (List.Sublist.refl _)) _) ⟨[], ⟨.nil, hnil, rfl, rfl⟩, rfl⟩ (.inl rfl)
 try simp only [zA,zO,zN,zM,zP,zQ,zD,zF,gd] at hb1
 refine AC_skip ?_
 refine AC_seq (AC_region ?_)
 refine s_ (S_build0 (e := 140) rfl rfl (by kernel_rfl) (by kernel_rfl)) ?_
 rintro _ st9 ⟨A, rfl, h9⟩
 rw [h9]
 clear h9 st9
 refine mv rfl rfl rfl rfl ?_
 refine s_ (S_appendEmpV (e := 140) (size := 2) (bytes := 32) rfl (.tmp rfl) (.tmp rfl) (by kernel_rfl) (fun y hy => by obtain ⟨r, _, rfl⟩ := List.mem_map.1 hy; exact ⟨rfl, rfl⟩) (by rw [hln]; omega) (by rw [hln]; omega)) ?_
 rintro _ _ ⟨q, hq, rfl, rfl⟩
 refine as_ rfl rfl rfl rfl ?_
 refine AL_nil (AC_ret ?_)
 refine ret_tmp (vecSt q 2 (labsV l) ++ F) rfl rfl (Sub.l (List.Sublist.refl _)) (Conv.refl (Sub.l (List.Sublist.refl _)) _) ⟨_, ⟨q, hq, rfl, rfl⟩, rfl⟩ (.inl rfl)
theorem clone_ctrs_ok (l : List Ctr) (hl : l.length ≤ 1000000) (F : St) : ACalls Tryz.prog 129 [.sl (ctrsV l)] ([] ++ F) (fun x st' => ∃ foot', (∃ q : Vec, q.ok (ctrsV l) ∧ x = .lit (vecV q (ctrsV l).length) ∧ foot' = vecSt q 11 (ctrsV l)) ∧ st' = foot' ++ F) := by
 refine co 8 Tryz.func129 ?_
 have hln : (ctrsV l).length = l.length := by simp [ctrsV]
 refine AC_seq (AC_region ?_)
 refine ac rfl rfl rfl ?_
 refine AL_nil ?_
 refine AC_seq ?_
 refine AC_seq (AC_region ?_)
 refine mv rfl rfl rfl rfl ?_
 refine s_ (S_eqlNilSl (e := 150) rfl (.tmp rfl) (AEv.const _) (by kernel_rfl)) ?_
 rintro _ st9 ⟨c, rfl, hc, h9⟩
 rw [h9]
 clear h9 st9
 refine AL_nil ?_
 refine AC_cond (.tmp rfl) (fun hb1 => ?_) (fun hb1 => ?_)
 ·try simp only [zA,zO,zN,zM,zP,zQ,zD,zF,gd] at hb1
  have hnil := hc hb1
  refine AC_seq (AC_region ?_)
  refine ac rfl rfl rfl ?_
  refine AL_nil (AC_ret ?_)
  refine ret_tmp ([] ++ F) rfl rfl (Sub.l (List.Sublist.refl _)) (Conv.refl (Sub.l (List.Sublist.refl _)) _) ⟨[], ⟨.nil, hnil, rfl, rfl⟩, rfl⟩ (.inl rfl)
 try simp only [zA,zO,zN,zM,zP,zQ,zD,zF,gd] at hb1
 refine AC_skip ?_
 refine AC_seq (AC_region ?_)
 refine s_ (S_build0 (e := 150) rfl rfl (by kernel_rfl) (by kernel_rfl)) ?_
 rintro _ st9 ⟨A, rfl, h9⟩
 rw [h9]
 clear h9 st9
 refine mv rfl rfl rfl rfl ?_
 refine s_ (S_appendEmpV (e := 150) (size := 11) (bytes := 120) rfl (.tmp rfl) (.tmp rfl) (by kernel_rfl) (fun y hy => by obtain ⟨r, _, rfl⟩ := List.mem_map.1 hy; exact ⟨rfl, rfl⟩) (by rw [hln]; omega) (by rw [hln]; omega)) ?_
 rintro _ _ ⟨q, hq, rfl, rfl⟩
 refine as_ rfl rfl rfl rfl ?_
 refine AL_nil (AC_ret ?_)
 refine ret_tmp (vecSt q 11 (ctrsV l) ++ F) rfl rfl (Sub.l (List.Sublist.refl _)) (Conv.refl (Sub.l (List.Sublist.refl _)) _) ⟨_, ⟨q, hq, rfl, rfl⟩, rfl⟩ (.inl rfl)
theorem spec_clones_ok (l : List Ctr) (hl : l.length ≤ 1000) (hk : ∀ c ∈ l, c.ports.length ≤ 1000) (F : St) : ACalls Tryz.prog 102 [.sl (ctrsV l)] ([] ++ F) (fun x st' => ∃ foot', (∃ (q : Vec) (is : List CO), (q.ok (cosV is) ∧ coOk is ∧ is.map CO.c = l) ∧ x = .lit (vecV q (cosV is).length) ∧ foot' = ctrsSt q is) ∧ st' = foot' ++ F) := by
 refine co 24 Tryz.func102 ?_
 have hln := ctrsV_len' l
 refine AC_seq (AC_region ?_)
 refine ac rfl rfl rfl ?_
 refine AL_nil (AC_seq (AC_region ?_))
 refine mv rfl rfl rfl rfl ?_
 refine s_ (S_call rfl (AEvs.cons (.tmp rfl) AEvs.nil) (clone_ctrs_ok l (by omega) F)) ?_
 rintro _ _ ⟨_, ⟨q, hq, rfl, rfl⟩, rfl⟩
 refine as_ rfl rfl rfl rfl ?_
 refine AL_nil ?_
 refine AC_seq ?_
 refine AC_seq (AC_region ?_)
 refine mv rfl rfl rfl rfl ?_
 refine p_ (S_lenV (e := 150) hq rfl (.tmp rfl) (by kernel_rfl)) ?_
 refine p_ (S_move rfl (AEv.const _)) ?_
 refine AL_nil ?_
 refine AC_block ?_
 refine AC_loopK (G := List CO) [(0, _), (2, _), (3, _), (8, _)] (fun g => g.length ≤ l.length ∧ coOk g ∧ g.reverse.map CO.c = l.take g.length) (fun g => [(9, .int .i64 (g.length : Int))]) (fun g => vecSt q 11 (halfV g l) ++ (coSt g ++ F)) (fun g => l.length - g.length) ([]) (⟨Nat.zero_le _, (fun x h => absurd h List.not_mem_nil), rfl⟩) (Sub.l (List.Sublist.refl _)) (.cons rfl (Le.refl _) (.cons rfl (Le.refl _) (.cons rfl (Le.refl _) (.cons rfl (Le.refl _) .nil)))) (.cons rfl (by first | exact Le.refl _ | exact Le.nils | exact Le.row _ _ _ _ | exact Le.of_eq (by first | rfl | (simp; done) | (push_cast; rfl) | (simp; omega))) .nil) ?_
 rintro rs ⟨hi, hok, hmap⟩
 try dsimp only
 simp only [List.cons_append, List.nil_append]
 refine AC_seq (AC_region ?_)
 refine p_ (S_lss rfl (.tmp rfl) (.tmp rfl)) ?_
 refine AL_nil ?_
 refine AC_seq ?_
 refine AC_cond (.tmp rfl) (fun hb1 => ?_) (fun hb1 => ?_)
 ·try simp only [zA,zO,zN,zM,zP,zQ,zD,zF,gd] at hb1
  have hil : rs.length < l.length := by omega
  obtain ⟨b9, cap9, rfl, hcap⟩ := vec_cells_ne hq (by omega)
  simp only [vecSt, List.cons_append, List.nil_append]
  refine AC_skip ?_
  refine AC_seq ?_
  refine AC_block ?_
  refine AC_seq (AC_region ?_)
  refine mv rfl rfl rfl rfl ?_
  refine as_ rfl rfl rfl rfl ?_
  refine AL_nil ?_
  refine AC_region ?_
  refine mv rfl rfl rfl rfl ?_
  refine mv rfl rfl rfl rfl ?_
  refine mv rfl rfl rfl rfl ?_
  refine mv rfl rfl rfl rfl ?_
  refine p_ (S_elemN (e := 150) 11 rfl (.tmp rfl) (.tmp rfl) (by kernel_rfl) (by kernel_rfl) (by omega) (fun _ => rfl)) ?_
  refine p_ (S_fieldP 8 rfl (.tmp rfl) (by kernel_rfl)) ?_
  refine p_ (S_loadP rfl (.tmp rfl) rfl (by kernel_rfl)) ?_
  refine s_ (S_call rfl (AEvs.cons (.tmp rfl) AEvs.nil) (ACalls.preQ (foot := []) (pre := [_]) (F := coSt rs ++ F) (clone_ints_ok (l[rs.length]'hil).ports (by have := hk _ (List.getElem_mem hil); omega) _))) ?_
  rintro _ _ ⟨_, ⟨p, hp, rfl, rfl⟩, rfl⟩
  refine p_ (S_elemO (e := 150) 11 rfl (.tmp rfl) (.tmp rfl) (by kernel_rfl) (by kernel_rfl) (by omega) (by omega)) ?_
  refine fl 8 ?_
  refine s_ (S_store 0 rfl (.tmp rfl) (.tmp rfl) rfl (by have h7 := vecCells_len (cap := cap9) (halfV_size rs l); rw [halfV_len (by omega)] at h7; simp only [Int.toNat_natCast]; omega) (vecV_one _ _) (by kernel_rfl)) ?_
  rintro _ _ ⟨rfl, rfl⟩
  refine AL_nil ?_
  refine AC_region ?_
  refine p_ (S_addI rfl (.tmp rfl) (AEv.const _) (by omega) (by omega)) ?_
  refine mv rfl rfl rfl rfl ?_
  refine AL_nil ?_
  refine ⟨⟨(l[rs.length]'hil), p⟩ :: rs, ⟨by simp only [List.length_cons]; omega, fun x hx => ?_, ?_⟩, by simp only [List.length_cons]; omega, clones_next hil p _ _ _, (.cons rfl (by first | exact Le.refl _ | exact Le.nils | exact Le.row _ _ _ _ | exact Le.of_eq (by first | rfl | (simp; done) | (push_cast; rfl) | (simp; omega))) .nil), (.cons rfl (Le.refl _) (.cons rfl (Le.refl _) (.cons rfl (Le.refl _) (.cons rfl (Le.refl _) .nil))))⟩
  ·rcases List.mem_cons.1 hx with rfl | h9
   ·exact hp
   ·exact hok x h9
  ·rw [List.reverse_cons, List.map_append, hmap, List.length_cons, List.take_succ_eq_append_getElem hil]; rfl
 try simp only [zA,zO,zN,zM,zP,zQ,zD,zF,gd] at hb1
 have hfull : rs.length = l.length := by omega
 refine AC_exit ?_
 refine AC_seq (AC_region ?_)
 refine mv rfl rfl rfl rfl ?_
 refine as_ rfl rfl rfl rfl ?_
 refine AL_nil (AC_ret ?_)
 refine ret_tmp (ctrsSt q rs.reverse ++ F) rfl rfl (clones_end hfull q F) (Conv.refl (clones_end hfull q F) _) ⟨_, ⟨q, rs.reverse, ⟨clones_ok hfull hq, fun x hx => hok x (List.mem_reverse.1 hx), by rw [hmap, hfull, List.take_length]⟩, clones_len hfull q, rfl⟩, rfl⟩ (.inl rfl)
theorem spec_Clone_ok (s : Spc) (hs : lightS s = true) (F : St) : ACalls Tryz.prog 64 [spcAV s] ([] ++ F) (fun x st' => ∃ foot', (∃ o : SO, (soOk o ∧ o.s = s) ∧ x = .agg (soL o) ∧ foot' = soSt o) ∧ st' = foot' ++ F) := by
 refine co 16 Tryz.func64 ?_
 obtain ⟨g1, g2, g3, g4, g5⟩ := light_short hs
 obtain ⟨k1, k2, k3⟩ := light_counts hs
 refine AC_seq (AC_region ?_)
 refine s_ (S_box rfl (.tmp rfl)) ?_
 rintro _ _ ⟨b1, rfl, rfl⟩
 refine s_ (S_alloc [.string ⟨#[]⟩, .slice none 0 0, .slice none 0 0, .slice none 0 0, .int .i64 0, .int .i64 0, .int .i64 0] rfl (by kernel_rfl)) ?_
 rintro _ _ ⟨b2, rfl, rfl⟩
 refine AL_nil (AC_seq (AC_region ?_))
 refine fl 1 ?_
 refine ld 1 ?_
 refine s_ (S_call rfl (AEvs.cons (.tmp rfl) AEvs.nil) (ACalls.preQ (foot := []) (pre := [_, _]) (F := F) (clone_labs_ok s.labels (by omega) _))) ?_
 rintro _ _ ⟨_, ⟨lq, hlq, rfl, rfl⟩, rfl⟩
 refine fl 1 ?_
 refine s_ (S_store 1 rfl (.tmp rfl) (.tmp rfl) rfl (by first | exact Nat.le_of_ble_eq_true rfl | simp) (vecV_one _ _) (by kernel_rfl)) ?_
 rintro _ _ ⟨rfl, rfl⟩
 refine AL_nil ?_
 refine AC_seq ?_
 refine AC_plan (σ := [(0, 0), (1, 0), (3, 0), (4, 0), (2, 1), (6, 0), (5, 1), (7, 2), (8, 0), (9, 2)]) (by kernel_rfl) [_, _] (by kernel_rfl) (fun r hr => List.mem_append_left _ hr) ?_
 refine AG.f rfl rfl (fun st' hst => Q_p rfl (S_field 2 rfl (.tmp rfl) (by kernel_rfl))) ?_
 refine AG.f rfl rfl (fun st' hst => Q_p rfl (S_loadM rfl (.tmp rfl) (hst _ (List.mem_of_getElem? (i := 1) rfl)) rfl (by kernel_rfl))) ?_
 refine AG.f rfl rfl (fun st' hst => Q_p rfl (S_field 3 rfl (.tmp rfl) (by kernel_rfl))) ?_
 refine AG.f rfl rfl (fun st' hst => Q_p rfl (S_loadM rfl (.tmp rfl) (hst _ (List.mem_of_getElem? (i := 1) rfl)) rfl (by kernel_rfl))) ?_
 refine AG.s rfl rfl rfl (S_call rfl (AEvs.cons (.tmp rfl) AEvs.nil) (ACalls.preQ (foot := []) (pre := [_, _]) (F := vecSt lq 2 (labsV s.labels) ++ F) (spec_clones_ok s.init (by omega) (fun c hc => (light_ports hs).1 c hc) _))) ?_ ?_
 ·rintro _ _ ⟨_, ⟨iq, is, hi, rfl, rfl⟩, rfl⟩ r hr; first | exact List.mem_append_left _ hr | exact absurd hr List.not_mem_nil
 rintro _ _ ⟨_, ⟨iq, is, hi, rfl, rfl⟩, rfl⟩
 refine AG.f rfl rfl (fun st' hst => Q_p rfl (S_field 2 rfl (.tmp rfl) (by kernel_rfl))) ?_
 refine AG.s rfl rfl rfl (S_call rfl (AEvs.cons (.tmp rfl) AEvs.nil) (ACalls.preQ (foot := []) (pre := [_, _]) (F := ctrsSt iq is ++ (vecSt lq 2 (labsV s.labels) ++ F)) (spec_clones_ok s.main (by omega) (fun c hc => (light_ports hs).2 c hc) _))) ?_ ?_
 ·rintro _ _ ⟨_, ⟨mq, ms, hm, rfl, rfl⟩, rfl⟩ r hr; first | exact List.mem_append_left _ hr | exact absurd hr List.not_mem_nil
 rintro _ _ ⟨_, ⟨mq, ms, hm, rfl, rfl⟩, rfl⟩
 refine AG.h rfl rfl rfl (S_store 1 rfl (.tmp rfl) (.tmp rfl) rfl (by first | exact Nat.le_of_ble_eq_true rfl | simp) (vecV_one _ _) (by kernel_rfl)) ?_
 rintro _ _ ⟨rfl, rfl⟩
 refine AG.f rfl rfl (fun st' hst => Q_p rfl (S_field 3 rfl (.tmp rfl) (by kernel_rfl))) ?_
 refine AG.h rfl rfl rfl (S_store 1 rfl (.tmp rfl) (.tmp rfl) rfl (by first | exact Nat.le_of_ble_eq_true rfl | simp) (vecV_one _ _) (by kernel_rfl)) ?_
 rintro _ _ ⟨rfl, rfl⟩
 refine AG.nil ?_
 refine AC_seq (AC_region ?_)
 refine ldN 7 1 ?_
 refine s_ (S_storeW 0 rfl (.tmp rfl) (.tmp rfl) rfl rfl (by exact soL_one ⟨s.name, s.labels, lq, is, iq, ms, mq, s.restart, s.grace, s.prio⟩) (by kernel_rfl)) ?_
 rintro _ _ ⟨rfl, rfl⟩
 refine AL_nil (AC_ret ?_)
 refine ret_cell 0 ((ctrsSt mq ms ++ (ctrsSt iq is ++ vecSt lq 2 (labsV s.labels))) ++ F) rfl rfl rfl (by kernel_rfl) (Sub.l (by rw [List.append_assoc, List.append_assoc]; exact .cons _ (.cons _ (List.Sublist.refl _)))) (Conv.refl (Sub.l (by rw [List.append_assoc, List.append_assoc]; exact .cons _ (.cons _ (List.Sublist.refl _)))) _) ⟨_, ⟨⟨s.name, s.labels, lq, is, iq, ms, mq, s.restart, s.grace, s.prio⟩, ⟨⟨hlq, hi.1, hm.1, hi.2.1, hm.2.1⟩, by cases s; simp [SO.s, hi.2.2, hm.2.2]⟩, rfl, rfl⟩, rfl⟩ (.inl rfl)
end Go.Proofs.YtemmkkmpchphkaaGreatDoor

set_option maxRecDepth 100000
namespace Go.Proofs.YtemmkkmpchphkaaGreatDoor
open Go.AL Go.NumSpec
theorem book_SpoilI_at (b off n cap : Nat) (cs : List AV) (h : off + n * 1 ≤ cs.length) (hn : n ≤ 1000000) (F : St) : ACalls Tryz.prog 69 [.lit (.slice (some ⟨b, off, none⟩) n cap)] ((b, .cells cs) :: F) (fun x st' => ∃ Z, st' = Z ++ F) := by
 refine co 12 Tryz.func69 ?_
 refine AC_seq (AC_region ?_)
 refine mv rfl rfl rfl rfl ?_
 refine p_ (S_lenO (e := 3) rfl (.tmp rfl) (by kernel_rfl)) ?_
 refine p_ (S_move rfl (AEv.const _)) ?_
 refine AL_nil ?_
 refine AC_block ?_
 refine AC_loopK (G := Nat × List AV) [(0, _), (4, _)] (fun g => g.1 ≤ n ∧ g.2.length = cs.length) (fun g => [(5, .int .i64 (g.1 : Int))]) (fun g => ((b, .cells g.2) :: F)) (fun g => n - g.1) ((0, cs)) (⟨Nat.zero_le _, rfl⟩) (Sub.l (List.Sublist.refl _)) (.cons rfl (Le.refl _) (.cons rfl (Le.refl _) .nil)) (.cons rfl (by first | exact Le.refl _ | exact Le.nils | exact Le.row _ _ _ _ | exact Le.of_eq (by first | rfl | (simp; done) | (push_cast; rfl) | (simp; omega))) .nil) ?_
 rintro ⟨i, ds⟩ ⟨hi, hds⟩
 try dsimp only
 simp only [List.cons_append, List.nil_append]
 dsimp only at hi hds
 refine AC_seq (AC_region ?_)
 refine p_ (S_lss rfl (.tmp rfl) (.tmp rfl)) ?_
 refine AL_nil ?_
 refine AC_seq ?_
 refine AC_cond (.tmp rfl) (fun hb1 => ?_) (fun hb1 => ?_)
 ·try simp only [zA,zO,zN,zM,zP,zQ,zD,zF,gd] at hb1
  have hil : i < n := by omega
  refine AC_skip ?_
  refine AC_seq ?_
  refine AC_block ?_
  refine AC_seq (AC_region ?_)
  refine mv rfl rfl rfl rfl ?_
  refine as_ rfl rfl rfl rfl ?_
  refine AL_nil ?_
  refine AC_region ?_
  refine mv rfl rfl rfl rfl ?_
  refine mv rfl rfl rfl rfl ?_
  refine p_ (S_elemO (e := 3) 1 rfl (.tmp rfl) (.tmp rfl) (by kernel_rfl) (by kernel_rfl) (by omega) (by omega)) ?_
  refine s_ (S_store 0 rfl (.tmp rfl) (.const _) rfl (by rw [hds]; simp only [Int.toNat_natCast]; omega) rfl (by kernel_rfl)) ?_
  rintro _ _ ⟨rfl, rfl⟩
  refine AL_nil ?_
  refine AC_region ?_
  refine p_ (S_addI rfl (.tmp rfl) (AEv.const _) (by omega) (by omega)) ?_
  refine mv rfl rfl rfl rfl ?_
  refine AL_nil ?_
  refine ⟨(i + 1, _), ⟨by dsimp only; omega, by dsimp only; rw [List.length_set]; exact hds⟩, by dsimp only; omega, (Sub.l (List.Sublist.refl _)), (.cons rfl (by first | exact Le.refl _ | exact Le.nils | exact Le.row _ _ _ _ | exact Le.of_eq (by first | rfl | (simp; done) | (push_cast; rfl) | (simp; omega))) .nil), (.cons rfl (Le.refl _) (.cons rfl (Le.refl _) .nil))⟩
 try simp only [zA,zO,zN,zM,zP,zQ,zD,zF,gd] at hb1
 refine AC_exit ?_
 refine ret_none ([(b, Ob.cells ds)] ++ F) rfl (Sub.l (List.Sublist.refl _)) ⟨_, rfl⟩ (.inr rfl)
theorem book_SpoilI_nil (A : Option Addr) (cap : Nat) : PCalls Tryz.prog 69 [.lit (.slice A 0 cap)] (.tup []) := by
 intro st
 refine co 12 Tryz.func69 ?_
 refine AC_seq (AC_region ?_)
 refine mv rfl rfl rfl rfl ?_
 refine p_ (S_lenO (e := 3) rfl (.tmp rfl) (by kernel_rfl)) ?_
 refine p_ (S_move rfl (AEv.const _)) ?_
 refine AL_nil ?_
 refine AC_block ?_
 refine AC_loopK (G := Unit) [(0, _), (4, _)] (fun _ => True) (fun g => [(5, .int .i64 0)]) (fun g => st) (fun g => 0) (()) (trivial) (Sub.l (List.Sublist.refl _)) (.cons rfl (Le.refl _) (.cons rfl (Le.refl _) .nil)) (.cons rfl (by first | exact Le.refl _ | exact Le.nils | exact Le.row _ _ _ _ | exact Le.of_eq (by first | rfl | (simp; done) | (push_cast; rfl) | (simp; omega))) .nil) ?_
 rintro _ _
 try dsimp only
 simp only [List.cons_append, List.nil_append]
 refine AC_seq (AC_region ?_)
 refine p_ (S_lss rfl (.tmp rfl) (.tmp rfl)) ?_
 refine AL_nil ?_
 refine AC_seq ?_
 refine AC_cond (.tmp rfl) (fun hb1 => ?_) (fun hb1 => ?_)
 ·simp at hb1; done
 try simp only [zA,zO,zN,zM,zP,zQ,zD,zF,gd] at hb1
 refine AC_exit ?_
 refine ret_none st rfl (Sub.l (List.Sublist.refl _)) ⟨rfl, rfl⟩ (.inr rfl)
theorem book_SpoilI_ok {x : AV} {foot : St} (h : Spoil 1 x foot) (F : St) : ACalls Tryz.prog 69 [x] (foot ++ F) (fun _ st' => ∃ foot', True ∧ st' = foot' ++ F) := by
 rcases h with ⟨b, off, n, cap, cs, rfl, h1, h2, rfl⟩ | ⟨A, cap, rfl, rfl⟩
 ·exact (book_SpoilI_at b off n cap cs h1 h2 F).mono fun x st' ⟨Z, h⟩ => ⟨Z, trivial, h⟩
 ·exact (book_SpoilI_nil A cap F).mono fun x st' ⟨_, h⟩ => ⟨[], trivial, h⟩
theorem book_SpoilL_at (b off n cap : Nat) (cs : List AV) (h : off + n * 2 ≤ cs.length) (hn : n ≤ 1000000) (F : St) : ACalls Tryz.prog 105 [.lit (.slice (some ⟨b, off, none⟩) n cap)] ((b, .cells cs) :: F) (fun x st' => ∃ Z, st' = Z ++ F) := by
 refine co 13 Tryz.func105 ?_
 refine AC_seq (AC_region ?_)
 refine mv rfl rfl rfl rfl ?_
 refine p_ (S_lenO (e := 140) rfl (.tmp rfl) (by kernel_rfl)) ?_
 refine p_ (S_move rfl (AEv.const _)) ?_
 refine AL_nil ?_
 refine AC_block ?_
 refine AC_loopK (G := Nat × List AV) [(0, _), (4, _)] (fun g => g.1 ≤ n ∧ g.2.length = cs.length) (fun g => [(5, .int .i64 (g.1 : Int))]) (fun g => ((b, .cells g.2) :: F)) (fun g => n - g.1) ((0, cs)) (⟨Nat.zero_le _, rfl⟩) (Sub.l (List.Sublist.refl _)) (.cons rfl (Le.refl _) (.cons rfl (Le.refl _) .nil)) (.cons rfl (by first | exact Le.refl _ | exact Le.nils | exact Le.row _ _ _ _ | exact Le.of_eq (by first | rfl | (simp; done) | (push_cast; rfl) | (simp; omega))) .nil) ?_
 rintro ⟨i, ds⟩ ⟨hi, hds⟩
 try dsimp only
 simp only [List.cons_append, List.nil_append]
 dsimp only at hi hds
 refine AC_seq (AC_region ?_)
 refine p_ (S_lss rfl (.tmp rfl) (.tmp rfl)) ?_
 refine AL_nil ?_
 refine AC_seq ?_
 refine AC_cond (.tmp rfl) (fun hb1 => ?_) (fun hb1 => ?_)
 ·try simp only [zA,zO,zN,zM,zP,zQ,zD,zF,gd] at hb1
  have hil : i < n := by omega
  have hat : off + (i : Int).toNat * 2 + ([.S [115, 112, 111, 105, 108, 116], .S []] : List AV).length ≤ ds.length := by rw [hds]; simp only [Int.toNat_natCast, List.length_cons, List.length_nil]; omega
  refine AC_skip ?_
  refine AC_seq ?_
  refine AC_block ?_
  refine AC_seq (AC_region ?_)
  refine mv rfl rfl rfl rfl ?_
  refine as_ rfl rfl rfl rfl ?_
  refine AL_nil ?_
  refine AC_region ?_
  refine mv rfl rfl rfl rfl ?_
  refine mv rfl rfl rfl rfl ?_
  refine p_ (S_build (t := 140) (pl := [(0, 1), (1, 1)]) (zs := [.string ⟨#[]⟩, .string ⟨#[]⟩]) rfl (AEvs.cons (AEv.S _) AEvs.nil) (by kernel_rfl) rfl) ?_
  refine p_ (S_elemO (e := 140) 2 rfl (.tmp rfl) (.tmp rfl) (by kernel_rfl) (by kernel_rfl) (by omega) (by omega)) ?_
  refine s_ (S_storeN (ds := [.S [115, 112, 111, 105, 108, 116], .S []]) 0 rfl (.tmp rfl) (.tmp rfl) rfl hat rfl (by kernel_rfl)) ?_
  rintro _ _ ⟨rfl, rfl⟩
  refine AL_nil ?_
  refine AC_region ?_
  refine p_ (S_addI rfl (.tmp rfl) (AEv.const _) (by omega) (by omega)) ?_
  refine mv rfl rfl rfl rfl ?_
  refine AL_nil ?_
  refine ⟨(i + 1, _), ⟨by dsimp only; omega, (putAt_len hat).trans hds⟩, by dsimp only; omega, (Sub.l (List.Sublist.refl _)), (.cons rfl (by first | exact Le.refl _ | exact Le.nils | exact Le.row _ _ _ _ | exact Le.of_eq (by first | rfl | (simp; done) | (push_cast; rfl) | (simp; omega))) .nil), (.cons rfl (Le.refl _) (.cons rfl (Le.refl _) .nil))⟩
 try simp only [zA,zO,zN,zM,zP,zQ,zD,zF,gd] at hb1
 refine AC_exit ?_
 refine ret_none ([(b, Ob.cells ds)] ++ F) rfl (Sub.l (List.Sublist.refl _)) ⟨_, rfl⟩ (.inr rfl)
theorem book_SpoilL_nil (A : Option Addr) (cap : Nat) : PCalls Tryz.prog 105 [.lit (.slice A 0 cap)] (.tup []) := by
 intro st
 refine co 13 Tryz.func105 ?_
 refine AC_seq (AC_region ?_)
 refine mv rfl rfl rfl rfl ?_
 refine p_ (S_lenO (e := 140) rfl (.tmp rfl) (by kernel_rfl)) ?_
 refine p_ (S_move rfl (AEv.const _)) ?_
 refine AL_nil ?_
 refine AC_block ?_
 refine AC_loopK (G := Unit) [(0, _), (4, _)] (fun _ => True) (fun g => [(5, .int .i64 0)]) (fun g => st) (fun g => 0) (()) (trivial) (Sub.l (List.Sublist.refl _)) (.cons rfl (Le.refl _) (.cons rfl (Le.refl _) .nil)) (.cons rfl (by first | exact Le.refl _ | exact Le.nils | exact Le.row _ _ _ _ | exact Le.of_eq (by first | rfl | (simp; done) | (push_cast; rfl) | (simp; omega))) .nil) ?_
 rintro _ _
 try dsimp only
 simp only [List.cons_append, List.nil_append]
 refine AC_seq (AC_region ?_)
 refine p_ (S_lss rfl (.tmp rfl) (.tmp rfl)) ?_
 refine AL_nil ?_
 refine AC_seq ?_
 refine AC_cond (.tmp rfl) (fun hb1 => ?_) (fun hb1 => ?_)
 ·simp at hb1; done
 try simp only [zA,zO,zN,zM,zP,zQ,zD,zF,gd] at hb1
 refine AC_exit ?_
 refine ret_none st rfl (Sub.l (List.Sublist.refl _)) ⟨rfl, rfl⟩ (.inr rfl)
theorem book_SpoilL_ok {x : AV} {foot : St} (h : Spoil 2 x foot) (F : St) : ACalls Tryz.prog 105 [x] (foot ++ F) (fun _ st' => ∃ foot', True ∧ st' = foot' ++ F) := by
 rcases h with ⟨b, off, n, cap, cs, rfl, h1, h2, rfl⟩ | ⟨A, cap, rfl, rfl⟩
 ·exact (book_SpoilL_at b off n cap cs h1 h2 F).mono fun x st' ⟨Z, h⟩ => ⟨Z, trivial, h⟩
 ·exact (book_SpoilL_nil A cap F).mono fun x st' ⟨_, h⟩ => ⟨[], trivial, h⟩
set_option maxHeartbeats 1000000 in
theorem book_SpoilS_ok (o : SO) (ho : soOk o) (hs : lightS o.s = true) (F : St) : ACalls Tryz.prog 68 [.agg (soL o)] (soSt o ++ F) (fun _ st' => ∃ foot', True ∧ st' = foot' ++ F) := by
 refine co 45 Tryz.func68 ?_
 obtain ⟨g1, g2, g3⟩ := light_counts hs
 obtain ⟨p1, p2⟩ := light_ports hs
 obtain ⟨nm, lb, lq, is, iq, ms, mq, rs, gr, pr⟩ := o
 obtain ⟨h1, h2, h3, h4, h5⟩ := ho
 dsimp only [SO.s] at h1 h2 h3 h4 h5 g1 g2 g3 p1 p2
 rw [List.length_map] at g2 g3
 have p3 : ∀ x ∈ is, x.c.ports.length ≤ 1000 := fun x hx => p1 _ (List.mem_map_of_mem hx)
 have p4 : ∀ x ∈ ms, x.c.ports.length ≤ 1000 := fun x hx => p2 _ (List.mem_map_of_mem hx)
 refine AC_seq (AC_region ?_)
 refine s_ (S_box rfl (.tmp rfl)) ?_
 rintro _ _ ⟨b1, rfl, rfl⟩
 refine AL_nil ?_
 refine AC_seq ?_
 refine AC_sub (so_start _ lq iq mq lb is ms F) ?_
 refine AC_region ?_
 refine fl 1 ?_
 refine ld 0 ?_
 refine s_ (S_call rfl (AEvs.cons (.tmp rfl) AEvs.nil) (ACalls.preQ (pre := [_]) (foot := vecSt lq 2 (labsV lb)) (F := ctrsSt iq is ++ (ctrsSt mq ms ++ F)) (book_SpoilL_ok (Spoil.vec h1 (labsV_size _) (by simp only [labsV, List.length_map]; omega)) _))) ?_
 rintro _ _ ⟨Z1, _, rfl⟩
 refine AL_nil ?_
 refine AC_seq ?_
 refine AC_seq (AC_region ?_)
 refine fl 2 ?_
 refine ld 0 ?_
 refine p_ (S_lenV (e := 150) h2 rfl (.tmp rfl) (by kernel_rfl)) ?_
 refine p_ (S_move rfl (AEv.const _)) ?_
 refine AL_nil ?_
 refine AC_block ?_
 refine AC_loopK (G := Nat × St) [(1, _), (9, _)] (fun g => g.1 ≤ is.length) (fun g => [(10, .int .i64 (g.1 : Int))]) (fun g => (b1, .cells (soL ⟨nm, lb, lq, is, iq, ms, mq, rs, gr, pr⟩)) :: (vecSt iq 11 (cosV (spoilL [115, 112, 111, 105, 108, 116] g.1 is)) ++ (g.2 ++ (coSt (is.drop g.1) ++ (ctrsSt mq ms ++ F))))) (fun g => is.length - g.1) ((0, Z1)) (Nat.zero_le _) (spoil_start _ _ _ _ _ _) (.cons rfl (Le.refl _) (.cons rfl (Le.refl _) .nil)) (.cons rfl (by first | exact Le.refl _ | exact Le.nils | exact Le.row _ _ _ _ | exact Le.of_eq (by first | rfl | (simp; done) | (push_cast; rfl) | (simp; omega))) .nil) ?_
 rintro ⟨k, Z⟩ hi
 try dsimp only
 simp only [List.cons_append, List.nil_append]
 dsimp only at hi
 refine AC_seq (AC_region ?_)
 refine p_ (S_lss rfl (.tmp rfl) (.tmp rfl)) ?_
 refine AL_nil ?_
 refine AC_seq ?_
 refine AC_cond (.tmp rfl) (fun hb2 => ?_) (fun hb2 => ?_)
 ·try simp only [zA,zO,zN,zM,zP,zQ,zD,zF,gd] at hb2
  have hil : k < is.length := by have h9 := hb2; rw [cosV_len] at h9; omega
  obtain ⟨b9, cap9, rfl, hcap⟩ := vec_cells_ne h2 (by rw [cosV_len]; omega)
  simp only [vecSt, List.cons_append, List.nil_append]
  rw [coSt_drop hil]
  simp only [List.append_assoc]
  refine AC_skip ?_
  refine AC_seq ?_
  refine AC_block ?_
  refine AC_seq (AC_region ?_)
  refine mv rfl rfl rfl rfl ?_
  refine as_ rfl rfl rfl rfl ?_
  refine AL_nil (AC_seq (AC_region ?_))
  refine fl 2 ?_
  refine ld 0 ?_
  refine mv rfl rfl rfl rfl ?_
  refine p_ (S_elemO (e := 150) 11 rfl (.tmp rfl) (.tmp rfl) (by kernel_rfl) (by kernel_rfl) (by omega) (by show (k : Int) < ((cosV is).length : Nat); rw [cosV_len]; omega)) ?_
  refine fl 8 ?_
  refine p_ (S_load 1 (c := .lit (vecV (is[k]'hil).p (intsV (is[k]'hil).c.ports).length)) rfl (.tmp rfl) rfl (by simp only [Int.toNat_natCast, Nat.zero_add]; exact vecCells_get (cosV_size _) (spoilL_at hil) rfl) (by kernel_rfl)) ?_
  refine s_ (S_call rfl (AEvs.cons (.tmp rfl) AEvs.nil) (ACalls.preQ (pre := _ :: _ :: Z) (foot := vecSt (is[k]'hil).p 1 (intsV (is[k]'hil).c.ports)) (F := coSt (is.drop (k + 1)) ++ (ctrsSt mq ms ++ F)) (book_SpoilI_ok (Spoil.vec (h4 _ (List.getElem_mem hil)) (intsV_size _) (by have := p3 _ (List.getElem_mem hil); simp only [intsV, List.length_map]; omega)) _))) ?_
  rintro _ _ ⟨Z2, _, rfl⟩
  refine AL_nil ?_
  refine AC_region ?_
  refine fl 2 ?_
  refine ld 0 ?_
  refine mv rfl rfl rfl rfl ?_
  refine p_ (S_elemO (e := 150) 11 rfl (.tmp rfl) (.tmp rfl) (by kernel_rfl) (by kernel_rfl) (by omega) (by show (k : Int) < ((cosV is).length : Nat); rw [cosV_len]; omega)) ?_
  refine fl 0 ?_
  refine s_ (S_store 1 rfl (.tmp rfl) (.S _) rfl (by have h7 := vecCells_len (cap := cap9) (cosV_size (spoilL [115, 112, 111, 105, 108, 116] k is)); rw [cosV_len, spoilL_len] at h7; simp only [Int.toNat_natCast]; omega) rfl (by kernel_rfl)) ?_
  rintro _ _ ⟨rfl, rfl⟩
  refine AL_nil ?_
  refine AC_region ?_
  refine p_ (S_addI rfl (.tmp rfl) (AEv.const _) (by omega) (by omega)) ?_
  refine mv rfl rfl rfl rfl ?_
  refine AL_nil ?_
  exact ⟨(k + 1, Z ++ Z2), (by dsimp only; omega), (by dsimp only; omega), spoil_next hil _ _ _ _ _ _ _, (.cons rfl (by first | exact Le.refl _ | exact Le.nils | exact Le.row _ _ _ _ | exact Le.of_eq (by first | rfl | (simp; done) | (push_cast; rfl) | (simp; omega))) .nil), (.cons rfl (Le.refl _) (.cons rfl (Le.refl _) .nil))⟩
 try simp only [zA,zO,zN,zM,zP,zQ,zD,zF,gd] at hb2
 refine AC_exit ?_
 refine AC_seq (AC_region ?_)
 refine fl 3 ?_
 refine ld 0 ?_
 refine p_ (S_lenV (e := 150) h3 rfl (.tmp rfl) (by kernel_rfl)) ?_
 refine p_ (S_move rfl (AEv.const _)) ?_
 refine AL_nil ?_
 refine AC_block ?_
 refine AC_loopK (G := Nat × St) [(1, _), (28, _)] (fun g => g.1 ≤ ms.length) (fun g => [(29, .int .i64 (g.1 : Int))]) (fun g => (b1, .cells (soL ⟨nm, lb, lq, is, iq, ms, mq, rs, gr, pr⟩)) :: (vecSt mq 11 (cosV (spoilL [115, 112, 111, 105, 108, 116] g.1 ms)) ++ (g.2 ++ (coSt (ms.drop g.1) ++ F)))) (fun g => ms.length - g.1) ((0, vecSt iq 11 (cosV (spoilL [115, 112, 111, 105, 108, 116] k is)) ++ (Z ++ coSt (is.drop k)))) (Nat.zero_le _) (spoil_mid _ _ _ _ _ _ _ _) (.cons rfl (Le.refl _) (.cons rfl (Le.refl _) .nil)) (.cons rfl (by first | exact Le.refl _ | exact Le.nils | exact Le.row _ _ _ _ | exact Le.of_eq (by first | rfl | (simp; done) | (push_cast; rfl) | (simp; omega))) .nil) ?_
 rintro ⟨k, Z⟩ hi
 try dsimp only
 simp only [List.cons_append, List.nil_append]
 dsimp only at hi
 refine AC_seq (AC_region ?_)
 refine p_ (S_lss rfl (.tmp rfl) (.tmp rfl)) ?_
 refine AL_nil ?_
 refine AC_seq ?_
 refine AC_cond (.tmp rfl) (fun hb3 => ?_) (fun hb3 => ?_)
 ·try simp only [zA,zO,zN,zM,zP,zQ,zD,zF,gd] at hb3
  have hil : k < ms.length := by have h9 := hb3; rw [cosV_len] at h9; omega
  obtain ⟨b9, cap9, rfl, hcap⟩ := vec_cells_ne h3 (by rw [cosV_len]; omega)
  simp only [vecSt, List.cons_append, List.nil_append]
  rw [coSt_drop hil]
  simp only [List.append_assoc]
  refine AC_skip ?_
  refine AC_seq ?_
  refine AC_block ?_
  refine AC_seq (AC_region ?_)
  refine mv rfl rfl rfl rfl ?_
  refine as_ rfl rfl rfl rfl ?_
  refine AL_nil (AC_seq (AC_region ?_))
  refine fl 3 ?_
  refine ld 0 ?_
  refine mv rfl rfl rfl rfl ?_
  refine p_ (S_elemO (e := 150) 11 rfl (.tmp rfl) (.tmp rfl) (by kernel_rfl) (by kernel_rfl) (by omega) (by show (k : Int) < ((cosV ms).length : Nat); rw [cosV_len]; omega)) ?_
  refine fl 8 ?_
  refine p_ (S_load 1 (c := .lit (vecV (ms[k]'hil).p (intsV (ms[k]'hil).c.ports).length)) rfl (.tmp rfl) rfl (by simp only [Int.toNat_natCast, Nat.zero_add]; exact vecCells_get (cosV_size _) (spoilL_at hil) rfl) (by kernel_rfl)) ?_
  refine s_ (S_call rfl (AEvs.cons (.tmp rfl) AEvs.nil) (ACalls.preQ (pre := _ :: _ :: Z) (foot := vecSt (ms[k]'hil).p 1 (intsV (ms[k]'hil).c.ports)) (F := coSt (ms.drop (k + 1)) ++ F) (book_SpoilI_ok (Spoil.vec (h5 _ (List.getElem_mem hil)) (intsV_size _) (by have := p4 _ (List.getElem_mem hil); simp only [intsV, List.length_map]; omega)) _))) ?_
  rintro _ _ ⟨Z2, _, rfl⟩
  refine AL_nil ?_
  refine AC_region ?_
  refine fl 3 ?_
  refine ld 0 ?_
  refine mv rfl rfl rfl rfl ?_
  refine p_ (S_elemO (e := 150) 11 rfl (.tmp rfl) (.tmp rfl) (by kernel_rfl) (by kernel_rfl) (by omega) (by show (k : Int) < ((cosV ms).length : Nat); rw [cosV_len]; omega)) ?_
  refine fl 0 ?_
  refine s_ (S_store 1 rfl (.tmp rfl) (.S _) rfl (by have h7 := vecCells_len (cap := cap9) (cosV_size (spoilL [115, 112, 111, 105, 108, 116] k ms)); rw [cosV_len, spoilL_len] at h7; simp only [Int.toNat_natCast]; omega) rfl (by kernel_rfl)) ?_
  rintro _ _ ⟨rfl, rfl⟩
  refine AL_nil ?_
  refine AC_region ?_
  refine p_ (S_addI rfl (.tmp rfl) (AEv.const _) (by omega) (by omega)) ?_
  refine mv rfl rfl rfl rfl ?_
  refine AL_nil ?_
  exact ⟨(k + 1, Z ++ Z2), (by dsimp only; omega), (by dsimp only; omega), spoil_next hil _ _ _ _ _ _ _, (.cons rfl (by first | exact Le.refl _ | exact Le.nils | exact Le.row _ _ _ _ | exact Le.of_eq (by first | rfl | (simp; done) | (push_cast; rfl) | (simp; omega))) .nil), (.cons rfl (Le.refl _) (.cons rfl (Le.refl _) .nil))⟩
 try simp only [zA,zO,zN,zM,zP,zQ,zD,zF,gd] at hb3
 refine AC_exit ?_
 refine ret_none (((b1, .cells (soL ⟨nm, lb, lq, is, iq, ms, mq, rs, gr, pr⟩)) :: (vecSt mq 11 (cosV (spoilL [115, 112, 111, 105, 108, 116] k ms)) ++ (Z ++ coSt (ms.drop k)))) ++ F) rfl (Sub.l (by rw [← spoil_end]; exact List.Sublist.refl _)) ⟨_, trivial, rfl⟩ (.inr rfl)
end Go.Proofs.YtemmkkmpchphkaaGreatDoor

set_option maxRecDepth 100000
namespace Go.Proofs.YtemmkkmpchphkaaGreatDoor
open Go.AL Go.NumSpec
theorem tell_Clone_ok (p : Pod) (hs : lightS p.spec = true) (hp : p.ports.length ≤ 1000) (F : St) : ACalls Tryz.prog 19 [podAV p] ([] ++ F) (fun x st' => ∃ foot', (∃ r : PO, (poOk r ∧ r.p = p) ∧ x = .agg (poL r) ∧ foot' = poSt r) ∧ st' = foot' ++ F) := by
 refine co 12 Tryz.func19 ?_
 refine AC_seq (AC_region ?_)
 refine s_ (S_box rfl (.tmp rfl)) ?_
 rintro _ _ ⟨b1, rfl, rfl⟩
 refine s_ (S_alloc [.int .i64 0, .int .u64 0, .string ⟨#[]⟩, .slice none 0 0, .slice none 0 0, .slice none 0 0, .int .i64 0, .int .i64 0, .int .i64 0, .int .i64 0, .slice none 0 0, .int .i64 0, .int .i64 0] rfl (by kernel_rfl)) ?_
 rintro _ _ ⟨b2, rfl, rfl⟩
 refine AL_nil (AC_seq (AC_region ?_))
 refine fl 2 ?_
 refine ldN 7 1 ?_
 refine s_ (S_call rfl (AEvs.cons (y := spcAV p.spec) (.tmp rfl) AEvs.nil) (ACalls.preQ (foot := []) (pre := [_, _]) (F := F) (spec_Clone_ok p.spec hs _))) ?_
 rintro _ _ ⟨_, ⟨o, ho, rfl, rfl⟩, rfl⟩
 refine fl 2 ?_
 refine s_ (S_storeN 1 rfl (.tmp rfl) (.tmp rfl) rfl (by first | exact Nat.le_of_ble_eq_true rfl | (simp; omega) | simp) (soL_one o) (by kernel_rfl)) ?_
 rintro _ _ ⟨rfl, rfl⟩
 refine AL_nil (AC_seq (AC_region ?_))
 refine fl 10 ?_
 refine p_ (S_load (c := .sl (intsV p.ports)) 1 rfl (.tmp rfl) rfl rfl (by kernel_rfl)) ?_
 refine s_ (S_call rfl (AEvs.cons (.tmp rfl) AEvs.nil) (ACalls.preQ (foot := []) (pre := [_, _]) (F := soSt o ++ F) (clone_ints_ok p.ports (by omega) _))) ?_
 rintro _ _ ⟨_, ⟨q, hq, rfl, rfl⟩, rfl⟩
 refine fl 10 ?_
 refine s_ (S_store 1 rfl (.tmp rfl) (.tmp rfl) rfl (by first | exact Nat.le_of_ble_eq_true rfl | simp) (vecV_one _ _) (by kernel_rfl)) ?_
 rintro _ _ ⟨rfl, rfl⟩
 refine AL_nil (AC_seq (AC_region ?_))
 refine ldN 13 1 ?_
 refine s_ (S_storeW 0 rfl (.tmp rfl) (.tmp rfl) rfl rfl (by exact poL_one ⟨p, o, q⟩) (by kernel_rfl)) ?_
 rintro _ _ ⟨rfl, rfl⟩
 refine AL_nil (AC_ret ?_)
 refine ret_cell 0 ((vecSt q 1 (intsV p.ports) ++ soSt o) ++ F) rfl rfl rfl (by kernel_rfl) (Sub.l (by rw [List.append_assoc]; exact .cons _ (.cons _ (List.Sublist.refl _)))) (Conv.refl (Sub.l (by rw [List.append_assoc]; exact .cons _ (.cons _ (List.Sublist.refl _)))) _) ⟨_, ⟨⟨p, o, q⟩, ⟨⟨ho.1, ho.2, hq⟩, rfl⟩, rfl, rfl⟩, rfl⟩ (.inl rfl)
theorem tell_fresh (p : Pod) (hs : lightS p.spec = true) (hp : p.ports.length ≤ 1000) : ACalls Tryz.prog 19 [podAV p] (Gs []) (fun x st' => ∃ new, st' = new ++ Gs [] ∧ StaySt new ∧ Stay x ∧ ∃ r : PO, (poOk r ∧ r.p = p) ∧ x = .agg (poL r) ∧ new = poSt r) := (tell_Clone_ok p hs hp []).mono fun x st' ⟨_, ⟨r, hr, hx, hf⟩, h⟩ => ⟨poSt r, by rw [h, hf]; rfl, poSt_stay r, by rw [hx]; exact Stay.agg (poL_stay r), r, hr, hx, rfl⟩
theorem book_SpoilP_ok (b : Nat) (r : PO) (hr : poOk r) (hs : lightS r.p.spec = true) (hp : r.p.ports.length ≤ 1000) (F : St) : ACalls Tryz.prog 21 [.lit (.slice (some ⟨b, 0, none⟩) 1 1)] ((b, .cells (poL r ++ [])) :: (poSt r ++ F)) (fun _ st' => ∃ foot', True ∧ st' = foot' ++ F) := by
 refine co 25 Tryz.func21 ?_
 refine AC_seq (AC_region ?_)
 refine mv rfl rfl rfl rfl ?_
 refine p_ (S_lenO (e := 34) rfl (.tmp rfl) (by kernel_rfl)) ?_
 refine p_ (S_move rfl (AEv.const _)) ?_
 refine AL_nil ?_
 refine AC_block ?_
 refine AC_loopK (G := Nat × St) [(0, _), (4, _)] (fun g => (g.1 = 0 ∧ g.2 = (b, .cells (poL r ++ [])) :: poSt r) ∨ g.1 = 1) (fun g => [(5, .int .i64 (g.1 : Int))]) (fun g => g.2 ++ F) (fun g => 1 - g.1) ((0, (b, .cells (poL r ++ [])) :: poSt r)) (.inl ⟨rfl, rfl⟩) (Sub.l (List.Sublist.refl _)) (.cons rfl (Le.refl _) (.cons rfl (Le.refl _) .nil)) (.cons rfl (by first | exact Le.refl _ | exact Le.nils | exact Le.row _ _ _ _ | exact Le.of_eq (by first | rfl | (simp; done) | (push_cast; rfl) | (simp; omega))) .nil) ?_
 rintro ⟨i, Z⟩ hi
 try dsimp only
 simp only [List.cons_append, List.nil_append]
 dsimp only at hi
 refine AC_seq (AC_region ?_)
 refine p_ (S_lss rfl (.tmp rfl) (.tmp rfl)) ?_
 refine AL_nil ?_
 refine AC_seq ?_
 refine AC_cond (.tmp rfl) (fun hb1 => ?_) (fun hb1 => ?_)
 ·try simp only [zA,zO,zN,zM,zP,zQ,zD,zF,gd] at hb1
  obtain ⟨rfl, rfl⟩ : i = 0 ∧ Z = (b, .cells (poL r ++ [])) :: poSt r := by
   rcases hi with h | h
   ·exact h
   ·omega
  simp only [poSt, List.cons_append, List.append_assoc]
  refine AC_skip ?_
  refine AC_seq ?_
  refine AC_block ?_
  refine AC_seq (AC_region ?_)
  refine mv rfl rfl rfl rfl ?_
  refine as_ rfl rfl rfl rfl ?_
  refine AL_nil (AC_seq (AC_region ?_))
  refine mv rfl rfl rfl rfl ?_
  refine mv rfl rfl rfl rfl ?_
  refine p_ (S_elemO (e := 34) 13 rfl (.tmp rfl) (.tmp rfl) (by kernel_rfl) (by kernel_rfl) (by decide) (by decide)) ?_
  refine fl 2 ?_
  refine ldN 7 0 ?_
  refine s_ (S_call rfl (AEvs.cons (y := .agg (soL r.o)) (.tmp rfl) AEvs.nil) (ACalls.preQ (pre := _ :: vecSt r.q 1 (intsV r.p.ports)) (foot := soSt r.o) (F := F) (book_SpoilS_ok r.o hr.o (by rw [hr.s]; exact hs) _))) ?_
  rintro _ _ ⟨Z1, _, rfl⟩
  refine AL_nil (AC_seq (AC_region ?_))
  refine mv rfl rfl rfl rfl ?_
  refine mv rfl rfl rfl rfl ?_
  refine p_ (S_elemO (e := 34) 13 rfl (.tmp rfl) (.tmp rfl) (by kernel_rfl) (by kernel_rfl) (by decide) (by decide)) ?_
  refine fl 10 ?_
  refine p_ (S_load (c := .lit (vecV r.q (intsV r.p.ports).length)) 0 rfl (.tmp rfl) rfl rfl (by kernel_rfl)) ?_
  refine s_ (S_call rfl (AEvs.cons (.tmp rfl) AEvs.nil) (ACalls.preQ (pre := [_]) (foot := vecSt r.q 1 (intsV r.p.ports)) (F := Z1 ++ F) (book_SpoilI_ok (Spoil.vec hr.q (intsV_size _) (by simp only [intsV, List.length_map]; omega)) _))) ?_
  rintro _ _ ⟨Z2, _, rfl⟩
  refine AL_nil ?_
  refine AC_region ?_
  refine mv rfl rfl rfl rfl ?_
  refine mv rfl rfl rfl rfl ?_
  refine p_ (S_elemO (e := 34) 13 rfl (.tmp rfl) (.tmp rfl) (by kernel_rfl) (by kernel_rfl) (by decide) (by decide)) ?_
  refine fl 0 ?_
  refine s_ (S_store 0 rfl (.tmp rfl) (.const _) rfl (by first | exact Nat.le_of_ble_eq_true rfl | simp) rfl (by kernel_rfl)) ?_
  rintro _ _ ⟨rfl, rfl⟩
  refine AL_nil ?_
  refine AC_region ?_
  refine p_ (S_addI rfl (.tmp rfl) (AEv.const _) (by omega) (by omega)) ?_
  refine mv rfl rfl rfl rfl ?_
  refine AL_nil ?_
  exact ⟨(1, _ :: (Z2 ++ Z1)), .inr rfl, by dsimp only; omega, spoil_pod_next _ _ _ _, (.cons rfl (by first | exact Le.refl _ | exact Le.nils | exact Le.row _ _ _ _ | exact Le.of_eq (by first | rfl | (simp; done) | (push_cast; rfl) | (simp; omega))) .nil), (.cons rfl (Le.refl _) (.cons rfl (Le.refl _) .nil))⟩
 try simp only [zA,zO,zN,zM,zP,zQ,zD,zF,gd] at hb1
 refine AC_exit ?_
 refine ret_none (Z ++ F) rfl (Sub.l (List.Sublist.refl _)) ⟨_, trivial, rfl⟩ (.inr rfl)
end Go.Proofs.YtemmkkmpchphkaaGreatDoor

set_option maxRecDepth 100000
namespace Go.Proofs.YtemmkkmpchphkaaGreatDoor
open Go.AL Go.NumSpec
theorem law09_says_ok (b : Bool) : PCalls Tryz.prog 23 [.bool b] (.int .i64 (if b = true then 0 else 4)) := by
 intro st
 refine co 4 Tryz.func23 ?_
 refine AC_seq (AC_region ?_)
 refine ac rfl rfl rfl ?_
 refine AL_nil ?_
 refine AC_seq ?_
 refine AC_seq (AC_region ?_)
 refine mv rfl rfl rfl rfl ?_
 refine AL_nil ?_
 refine AC_cond (.tmp rfl) (fun hb1 => ?_) (fun hb1 => ?_)
 ·try simp only [zA,zO,zN,zM,zP,zQ,zD,zF,gd] at hb1
  have hx : b = true := hb1
  refine AC_seq (AC_region ?_)
  refine ac rfl rfl rfl ?_
  refine AL_nil (AC_ret ?_)
  refine ret_tmp st rfl rfl (Sub.l (List.Sublist.refl _)) (Conv.refl (Sub.l (List.Sublist.refl _)) _) ⟨by rw [hx] <;> rfl, rfl⟩ (.inl rfl)
 try simp only [zA,zO,zN,zM,zP,zQ,zD,zF,gd] at hb1
 have hx : b = false := by simpa using hb1
 refine AC_skip ?_
 refine AC_seq (AC_region ?_)
 refine ac rfl rfl rfl ?_
 refine AL_nil (AC_ret ?_)
 refine ret_tmp st rfl rfl (Sub.l (List.Sublist.refl _)) (Conv.refl (Sub.l (List.Sublist.refl _)) _) ⟨by rw [hx] <;> rfl, rfl⟩ (.inl rfl)
set_option maxHeartbeats 2000000 in
theorem law_TellChecks (p : Pod) (m : Msg) : GCalls Tryz.prog tabs 6 [podAV p, msgAV m] (.bool true) := by
 intro st hG
 refine co 52 Tryz.func6 ?_
 refine AC_seq (AC_region ?_)
 refine s_ (S_box rfl (.tmp rfl)) ?_
 rintro _ _ ⟨b2, rfl, rfl⟩
 refine s_ (S_box rfl (.tmp rfl)) ?_
 rintro _ _ ⟨b3, rfl, rfl⟩
 refine ac rfl rfl rfl ?_
 refine AL_nil ?_
 refine AC_seq ?_
 refine AC_seq (AC_region ?_)
 refine ldN 13 1 ?_
 refine p_ (S_pcall rfl (AEvs.cons (y := podAV p) (.tmp rfl) AEvs.nil) (law09_lightPod_ok p)) ?_
 refine p_ (S_not rfl (.tmp rfl)) ?_
 refine mv rfl rfl rfl rfl ?_
 refine g_ (fun _ => S_loadN (m := 24) 0 rfl (.tmp rfl) rfl (by kernel_rfl) (by first | exact Nat.le_of_ble_eq_true rfl | (simp; omega) | simp)) ?_
 refine g_ (fun _ => S_pcall rfl (AEvs.cons (y := msgAV m) (AEv.cd (.tmp rfl)) AEvs.nil) (law09_light_ok m)) ?_
 refine g_ (fun _ => S_not rfl (AEv.cd (.tmp rfl))) ?_
 refine p_ (S_or rfl (.tmp rfl) (fun hp12 => (AEv.cd (.tmp rfl)))) ?_
 refine AL_nil ?_
 refine AC_cond (.tmp rfl) (fun hb13 => ?_) (fun hb13 => ?_)
 ·try simp only [zA,zO,zN,zM,zP,zQ,zD,zF,gd] at hb13
  refine AC_seq (AC_region ?_)
  refine p_ (S_gcall rfl AEvs.nil ((law09_works_ok) _ (fun p hp => by repeat (first | exact hG p hp | refine List.mem_cons_of_mem _ ?_ | refine List.mem_append_right _ ?_)))) ?_
  refine as_ rfl rfl rfl rfl ?_
  refine AL_nil (AC_ret ?_)
  refine ret_tmp st rfl rfl (Sub.l ((List.sublist_cons_self _ _).trans (List.sublist_cons_self _ _))) (Conv.refl (Sub.l ((List.sublist_cons_self _ _).trans (List.sublist_cons_self _ _))) _) ⟨rfl, rfl⟩ (.inl rfl)
 try simp only [zA,zO,zN,zM,zP,zQ,zD,zF,gd] at hb13
 obtain ⟨hlp, hlm⟩ : lightPd p = true ∧ lightM m = true := by simpa using hb13
 have hps := lightPd_short hlp
 have hms := lightM_short hlm
 have hls := hps.1
 have hpp : p.ports.length ≤ 1000 := by have h9 := hlp; unfold lightPd at h9; simp only [Bool.and_eq_true, decide_eq_true_eq] at h9; omega
 refine AC_skip ?_
 refine AC_seq (AC_region ?_)
 refine p_ (S_loadNM (m := 13) rfl (.tmp rfl) (by repeat (first | exact List.mem_cons_self | refine List.mem_append_right _ ?_ | refine List.mem_cons_of_mem _ ?_)) (by kernel_rfl) (by first | exact Nat.le_of_ble_eq_true rfl | (simp; omega) | simp)) ?_
 refine s_ (S_call rfl (AEvs.cons (y := podAV p) (.tmp rfl) AEvs.nil) (tell_Clone_ok p hls hpp _)) ?_
 rintro _ _ ⟨_, ⟨r1, ⟨hr1, e1⟩, rfl, rfl⟩, rfl⟩
 have hps1 : ShortP r1.p := by rw [e1]; exact hps
 have hls1 : lightS r1.p.spec = true := by rw [e1]; exact hls
 have hpp1 : r1.p.ports.length ≤ 1000 := by rw [e1]; exact hpp
 refine s_ (S_alloc [.int .i64 0, .int .u64 0, .string ⟨#[]⟩, .slice none 0 0, .slice none 0 0, .slice none 0 0, .int .i64 0, .int .i64 0, .int .i64 0, .int .i64 0, .slice none 0 0, .int .i64 0, .int .i64 0] rfl (by kernel_rfl)) ?_
 rintro _ _ ⟨b5, rfl, rfl⟩
 refine s_ (S_storeW 0 rfl (.tmp rfl) (.tmp rfl) rfl rfl (poL_one r1) (by kernel_rfl)) ?_
 rintro _ _ ⟨rfl, rfl⟩
 refine AL_nil (AC_seq (AC_region ?_))
 refine ldN 13 0 ?_
 refine s_ (S_gcallF (gs := []) (fun _ h => absurd h List.not_mem_nil) List.nodup_nil rfl (AEvs.cons (y := .agg (poL r1)) (.tmp rfl) AEvs.nil) (LendsG.cons (po_conv0 hr1 (fun p hp => by repeat (first | exact List.mem_append_left _ hp | refine List.mem_append_right _ ?_ | refine List.mem_cons_of_mem _ ?_))) .nil) (tell_fresh r1.p hls1 hpp1)) ?_
 rintro _ _ ⟨_, rfl, r2, ⟨hr2, e2⟩, rfl, rfl⟩
 have hps2 : ShortP r2.p := by rw [e2]; exact hps1
 refine s_ (S_alloc [.int .i64 0, .int .u64 0, .string ⟨#[]⟩, .slice none 0 0, .slice none 0 0, .slice none 0 0, .int .i64 0, .int .i64 0, .int .i64 0, .int .i64 0, .slice none 0 0, .int .i64 0, .int .i64 0] rfl (by kernel_rfl)) ?_
 rintro _ _ ⟨b6, rfl, rfl⟩
 refine s_ (S_storeW 0 rfl (.tmp rfl) (.tmp rfl) rfl rfl (poL_one r2) (by kernel_rfl)) ?_
 rintro _ _ ⟨rfl, rfl⟩
 refine AL_nil (AC_seq (AC_region ?_))
 refine p_ (S_loadNM (m := 13) rfl (.tmp rfl) (by repeat (first | exact List.mem_cons_self | refine List.mem_append_right _ ?_ | refine List.mem_cons_of_mem _ ?_)) (by kernel_rfl) (by first | exact Nat.le_of_ble_eq_true rfl | (simp; omega) | simp)) ?_
 refine p_ (S_loadNM (m := 13) rfl (.tmp rfl) (by repeat (first | exact List.mem_cons_self | refine List.mem_append_right _ ?_ | refine List.mem_cons_of_mem _ ?_)) (by kernel_rfl) (by first | exact Nat.le_of_ble_eq_true rfl | (simp; omega) | simp)) ?_
 refine p_ (S_pcallB rfl (AEvs.cons (y := .agg (poL r1)) (.tmp rfl) (AEvs.cons (y := podAV p) (.tmp rfl) AEvs.nil)) (Lends.cons (po_conv0 hr1 (fun p hp => by repeat (first | exact List.mem_append_left _ hp | refine List.mem_append_right _ ?_ | refine List.mem_cons_of_mem _ ?_))) (Lends.cons (Conv.refl Sub.nil _) Lends.nil)) (book_SamePod_ok r1.p p hps1 hps)) ?_
 refine as_ rfl rfl rfl rfl ?_
 refine AL_nil (AC_seq (AC_region ?_))
 refine p_ (S_loadNM (m := 13) rfl (.tmp rfl) (by repeat (first | exact List.mem_cons_self | refine List.mem_append_right _ ?_ | refine List.mem_cons_of_mem _ ?_)) (by kernel_rfl) (by first | exact Nat.le_of_ble_eq_true rfl | (simp; omega) | simp)) ?_
 refine s_ (S_buildV (e := 34) (ys := [.agg (poL r1)]) 13 rfl (AEvs.cons (.tmp rfl) AEvs.nil) rfl (by kernel_rfl) (by kernel_rfl) (by intro y hy; simp only [List.mem_cons, List.not_mem_nil, or_false] at hy; subst hy; exact ⟨rfl, rfl⟩) (by decide) (by decide) (by decide)) ?_
 rintro _ _ ⟨b9, rfl, rfl⟩
 refine AL_sub (pod_sub _ _ _ _ _ _) ?_
 refine s_ (S_call rfl (AEvs.cons (.tmp rfl) AEvs.nil) (book_SpoilP_ok b9 r1 hr1 hls1 hpp1 _)) ?_
 rintro _ _ ⟨Z, _, rfl⟩
 refine AL_nil ?_
 refine AC_seq ?_
 refine AC_draw (by kernel_rfl) (by kernel_rfl) (.cons rfl (Q_p rfl (S_move rfl (.tmp rfl))) <|
   .cons rfl (Q_p rfl (S_move rfl (.tmp rfl))) <|
   .cons rfl (Q_g rfl rfl (.tmp rfl) (fun hg16 => S_loadNM (m := 13) rfl (.tmp rfl) (by repeat (first | exact List.mem_cons_self | refine List.mem_append_right _ ?_ | refine List.mem_cons_of_mem _ ?_)) (by kernel_rfl) (by first | exact Nat.le_of_ble_eq_true rfl | (simp; omega) | simp))) <|
   .cons rfl (Q_g rfl rfl (.tmp rfl) (fun hg19 => S_loadNM (m := 13) rfl (.tmp rfl) (by repeat (first | exact List.mem_cons_self | refine List.mem_append_right _ ?_ | refine List.mem_cons_of_mem _ ?_)) (by kernel_rfl) (by first | exact Nat.le_of_ble_eq_true rfl | (simp; omega) | simp))) <|
   .cons rfl (Q_g rfl rfl (.tmp rfl) (fun hg22 => S_pcallB rfl (AEvs.cons (y := .agg (poL r2)) (AEv.cd (.tmp rfl)) (AEvs.cons (y := podAV p) (AEv.cd (.tmp rfl)) AEvs.nil)) (Lends.cons (po_conv0 hr2 (fun p hp => by repeat (first | exact List.mem_append_left _ hp | refine List.mem_append_right _ ?_ | refine List.mem_cons_of_mem _ ?_))) (Lends.cons (Conv.refl Sub.nil _) Lends.nil)) (book_SamePod_ok r2.p p hps2 hps))) <|
   .cons rfl (Q_p rfl (S_and rfl (.tmp rfl) (fun hp25 => (AEv.cd (.tmp rfl))))) <|
   .cons rfl (Q_p rfl (S_move rfl (.tmp rfl))) <|
   .cons rfl (Q_g rfl rfl (.tmp rfl) (fun hg26 => S_loadNM (m := 13) rfl (.tmp rfl) (by repeat (first | exact List.mem_cons_self | refine List.mem_append_right _ ?_ | refine List.mem_cons_of_mem _ ?_)) (by kernel_rfl) (by first | exact Nat.le_of_ble_eq_true rfl | (simp; omega) | simp))) <|
   .cons rfl (Q_g rfl rfl (.tmp rfl) (fun hg29 => S_gcall rfl (AEvs.cons (y := podAV p) (AEv.cd (.tmp rfl)) AEvs.nil) ((tell_Pod_ok p hps) _ (fun p hp => by repeat (first | exact hG p hp | refine List.mem_cons_of_mem _ ?_ | refine List.mem_append_right _ ?_))))) <|
   .cons rfl (Q_g rfl rfl (.tmp rfl) (fun hg32 => S_loadNM (m := 13) rfl (.tmp rfl) (by repeat (first | exact List.mem_cons_self | refine List.mem_append_right _ ?_ | refine List.mem_cons_of_mem _ ?_)) (by kernel_rfl) (by first | exact Nat.le_of_ble_eq_true rfl | (simp; omega) | simp))) <|
   .cons rfl (Q_g rfl rfl (.tmp rfl) (fun hg35 => S_pcall rfl (AEvs.cons (y := podAV p) (AEv.cd (.tmp rfl)) AEvs.nil) (ref09_Pod_ok p hls (by omega)))) <|
   .cons rfl (Q_g rfl rfl (.tmp rfl) (fun hg38 => S_pcall rfl (AEvs.cons (AEv.cd (.tmp rfl)) AEvs.nil) (law09_says_ok (podMay p)))) <|
   .cons rfl (Q_g rfl rfl (.tmp rfl) (fun hg41 => S_eql rfl (AEv.cd (.tmp rfl)) (AEv.cd (.tmp rfl)))) <|
   .cons rfl (Q_p rfl (S_and rfl (.tmp rfl) (fun hp44 => (AEv.cd (.tmp rfl))))) <|
   .cons rfl (Q_p rfl (S_move rfl (.tmp rfl))) <|
   .cons rfl (Q_g rfl rfl (.tmp rfl) (fun hg45 => S_loadNM (m := 24) rfl (.tmp rfl) (by repeat (first | exact List.mem_cons_self | refine List.mem_append_right _ ?_ | refine List.mem_cons_of_mem _ ?_)) (by kernel_rfl) (by first | exact Nat.le_of_ble_eq_true rfl | (simp; omega) | simp))) <|
   .cons rfl (Q_g rfl rfl (.tmp rfl) (fun hg48 => S_gcall rfl (AEvs.cons (y := msgAV m) (AEv.cd (.tmp rfl)) AEvs.nil) ((tell_Check_ok m hms) _ (fun p hp => by repeat (first | exact hG p hp | refine List.mem_cons_of_mem _ ?_ | refine List.mem_append_right _ ?_))))) <|
   .cons rfl (Q_g rfl rfl (.tmp rfl) (fun hg51 => S_loadNM (m := 24) rfl (.tmp rfl) (by repeat (first | exact List.mem_cons_self | refine List.mem_append_right _ ?_ | refine List.mem_cons_of_mem _ ?_)) (by kernel_rfl) (by first | exact Nat.le_of_ble_eq_true rfl | (simp; omega) | simp))) <|
   .cons rfl (Q_g rfl rfl (.tmp rfl) (fun hg54 => S_pcall rfl (AEvs.cons (y := msgAV m) (AEv.cd (.tmp rfl)) AEvs.nil) (ref09_Check_ok m hms))) <|
   .cons rfl (Q_g rfl rfl (.tmp rfl) (fun hg57 => S_pcall rfl (AEvs.cons (AEv.cd (.tmp rfl)) AEvs.nil) (law09_says_ok (msgMay m)))) <|
   .cons rfl (Q_g rfl rfl (.tmp rfl) (fun hg60 => S_eql rfl (AEv.cd (.tmp rfl)) (AEv.cd (.tmp rfl)))) <|
   .cons rfl (Q_p rfl (S_and rfl (.tmp rfl) (fun hp63 => (AEv.cd (.tmp rfl))))) <|
   .cons rfl (Q_p rfl (S_move rfl (.tmp rfl))) <|
   .cons rfl (Q_g rfl rfl (.tmp rfl) (fun hg64 => S_gcall rfl AEvs.nil ((law09_works_ok) _ (fun p hp => by repeat (first | exact hG p hp | refine List.mem_cons_of_mem _ ?_ | refine List.mem_append_right _ ?_))))) <|
   .cons rfl (Q_p rfl (S_and rfl (.tmp rfl) (fun hp67 => (AEv.cd (.tmp rfl))))) <|
   .cons rfl (Q_p rfl (S_assign rfl (.tmp rfl))) <|
   .nil) ?_
 refine AC_ret ?_
 refine ret_tmp st rfl rfl (Sub.l (((List.Sublist.cons _ ((List.Sublist.cons _ (List.Sublist.cons _ (List.Sublist.refl _))).trans (List.sublist_append_right _ _)))).trans (List.sublist_append_right _ _))) (Conv.refl (Sub.l (((List.Sublist.cons _ ((List.Sublist.cons _ (List.Sublist.cons _ (List.Sublist.refl _))).trans (List.sublist_append_right _ _)))).trans (List.sublist_append_right _ _))) _) ⟨congrArg AV.bool (by rw [e2, e1]; simp [samePd_refl, checkM]), rfl⟩ (.inl rfl)
end Go.Proofs.YtemmkkmpchphkaaGreatDoor
