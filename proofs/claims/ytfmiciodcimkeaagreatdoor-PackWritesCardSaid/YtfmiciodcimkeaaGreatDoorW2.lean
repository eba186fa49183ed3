/- A part of the proof: what the program's functions answer.
Conditions: none beyond each theorem's own. -/
import Derived.Test.YtfmiciodcimkeaaGreatDoorW1
set_option linter.unusedVariables false
set_option linter.unusedSimpArgs false
set_option maxRecDepth 100000
namespace Go.Proofs.YtfmiciodcimkeaaGreatDoor
open Go.AL Go.NumSpec
theorem book_lightContainers_ok (l : List Ctr) (hl : l.length ≤ 1000) : PCalls Tryz.prog 36 [.sl (ctrsV l)] (.bool (l.all lightC)) := by
 intro st
 refine co 35 Tryz.func36 ?_
 have hll : (ctrsV l).length = l.length := by simp [ctrsV]
 refine AC_seq (AC_region ?_)
 refine ac rfl rfl rfl ?_
 refine AL_nil ?_
 refine AC_seq ?_
 refine AC_seq (AC_region ?_)
 refine ac rfl rfl rfl ?_
 refine AL_nil ?_
 refine AC_block ?_
 refine AC_loop (G := Nat) (fun i => i ≤ l.length ∧ (l.take i).all lightC = true) (fun i => [(0, .sl (ctrsV l)), (3, .int .i64 (i : Int))]) (fun i => st) (fun i => l.length - i) (0) (⟨Nat.zero_le _, by simp⟩) rfl ?_ ?_
 ·exact .cons rfl (Le.refl _) (.cons rfl (Le.refl _) .nil)
 rintro i ⟨hi, hall⟩
 try dsimp only
 refine AC_seq ?_
 refine AC_seq (AC_region ?_)
 refine mv rfl rfl rfl rfl ?_
 refine mv rfl rfl rfl rfl ?_
 refine p_ (S_len (e := 79) rfl (.tmp rfl) (by kernel_rfl)) ?_
 refine p_ (S_lss rfl (.tmp rfl) (.tmp rfl)) ?_
 refine AL_nil ?_
 refine AC_cond (.tmp rfl) (fun hb1 => ?_) (fun hb1 => ?_)
 ·try simp only [zA,zO,zN,zM,zP,zQ,zD,zF,gd] at hb1
  have hil : i < l.length := by omega
  have hpl := intsV_len (l[i]'hil).ports
  refine AC_skip ?_
  refine AC_seq ?_
  refine AC_block ?_
  refine AC_seq (AC_region ?_)
  refine mv rfl rfl rfl rfl ?_
  refine mv rfl rfl rfl rfl ?_
  refine p_ (S_elem (e := 79) (c := ctrAV (l[i]'hil)) (i := (i : Int)) 11 rfl (.tmp rfl) (.tmp rfl) (by kernel_rfl) (by kernel_rfl) (by omega) (by simp [ctrsV, hil]) rfl) ?_
  refine p_ (S_fieldP 0 rfl (.tmp rfl) (by kernel_rfl)) ?_
  refine p_ (S_loadP rfl (.tmp rfl) rfl (by kernel_rfl)) ?_
  refine p_ (S_lenS (ts := #[]) rfl (.tmp rfl) (by kernel_rfl)) ?_
  refine p_ (S_gtr rfl (.tmp rfl) (AEv.const _)) ?_
  refine mv rfl rfl rfl rfl ?_
  refine g_ (fun _ => mA) ?_
  refine g_ (fun _ => mA) ?_
  refine g_ (fun _ => S_elem (e := 79) (c := ctrAV (l[i]'hil)) (i := (i : Int)) 11 rfl (AEv.cd (.tmp rfl)) (AEv.cd (.tmp rfl)) (by kernel_rfl) (by kernel_rfl) (by omega) (by simp [ctrsV, hil]) rfl) ?_
  refine g_ (fun _ => S_fieldP 1 rfl (AEv.cd (.tmp rfl)) (by kernel_rfl)) ?_
  refine g_ (fun _ => S_loadP rfl (AEv.cd (.tmp rfl)) rfl (by kernel_rfl)) ?_
  refine g_ (fun _ => S_lenS (ts := #[]) rfl (AEv.cd (.tmp rfl)) (by kernel_rfl)) ?_
  refine g_ (fun _ => S_gtr rfl (AEv.cd (.tmp rfl)) (AEv.const _)) ?_
  refine p_ (S_or rfl (.tmp rfl) (fun hp23 => (AEv.cd (.tmp rfl)))) ?_
  refine mv rfl rfl rfl rfl ?_
  refine g_ (fun _ => mA) ?_
  refine g_ (fun _ => mA) ?_
  refine g_ (fun _ => S_elem (e := 79) (c := ctrAV (l[i]'hil)) (i := (i : Int)) 11 rfl (AEv.cd (.tmp rfl)) (AEv.cd (.tmp rfl)) (by kernel_rfl) (by kernel_rfl) (by omega) (by simp [ctrsV, hil]) rfl) ?_
  refine g_ (fun _ => S_fieldP 8 rfl (AEv.cd (.tmp rfl)) (by kernel_rfl)) ?_
  refine g_ (fun _ => S_loadP rfl (AEv.cd (.tmp rfl)) rfl (by kernel_rfl)) ?_
  refine g_ (fun _ => S_len (e := 3) rfl (AEv.cd (.tmp rfl)) (by kernel_rfl)) ?_
  refine g_ (fun _ => S_gtr rfl (AEv.cd (.tmp rfl)) (AEv.const _)) ?_
  refine p_ (S_or rfl (.tmp rfl) (fun hp45 => (AEv.cd (.tmp rfl)))) ?_
  refine AL_nil ?_
  refine AC_cond (.tmp rfl) (fun hb46 => ?_) (fun hb46 => ?_)
  ·try simp only [zA,zO,zN,zM,zP,zQ,zD,zF,gd] at hb46
   have hc : lightC (l[i]'hil) = false := by unfold lightC; rw [decide_eq_false_iff_not]; omega
   have hf : l.all lightC = false := List.all_eq_false.2 ⟨_, List.getElem_mem hil, by rw [hc]; simp⟩
   refine AC_seq (AC_region ?_)
   refine ac rfl rfl rfl ?_
   refine AL_nil (AC_ret ?_)
   refine ret_tmp st rfl rfl (Sub.l (List.Sublist.refl _)) (Conv.refl (Sub.l (List.Sublist.refl _)) _) ⟨by rw [hf], rfl⟩ (.inl rfl)
  try simp only [zA,zO,zN,zM,zP,zQ,zD,zF,gd] at hb46
  have hc : lightC (l[i]'hil) = true := by unfold lightC; rw [decide_eq_true_eq]; omega
  refine AC_skip ?_
  refine AC_region ?_
  refine mv rfl rfl rfl rfl ?_
  refine p_ (S_addI rfl (.tmp rfl) (AEv.const _) (by omega) (by omega)) ?_
  refine as_ rfl rfl rfl rfl ?_
  refine AL_nil ?_
  refine ⟨i + 1, ⟨by omega, by rw [List.take_succ_eq_append_getElem hil, List.all_append, hall]; simp [hc]⟩, by omega, rfl, .cons rfl (Le.refl _) (.cons rfl (Le.of_eq (by rw [Int.natCast_add]; rfl)) .nil)⟩
 try simp only [zA,zO,zN,zM,zP,zQ,zD,zF,gd] at hb1
 have ht : l.all lightC = true := by rw [List.take_of_length_le (by omega)] at hall; exact hall
 refine AC_exit ?_
 refine AC_seq (AC_region ?_)
 refine ac rfl rfl rfl ?_
 refine AL_nil (AC_ret ?_)
 refine ret_tmp st rfl rfl (Sub.l (List.Sublist.refl _)) (Conv.refl (Sub.l (List.Sublist.refl _)) _) ⟨by rw [ht], rfl⟩ (.inl rfl)
theorem book_LightSpec_ok (s : Spc) : PCalls Tryz.prog 9 [spcAV s] (.bool (lightS s)) := by
 intro st
 refine co 61 Tryz.func9 ?_
 have h1 : (labsV s.labels).length = s.labels.length := by simp [labsV]
 have h2 : (ctrsV s.init).length = s.init.length := by simp [ctrsV]
 have h3 : (ctrsV s.main).length = s.main.length := by simp [ctrsV]
 refine AC_seq (AC_region ?_)
 refine s_ (S_box rfl (.tmp rfl)) ?_
 rintro _ _ ⟨b1, rfl, rfl⟩
 refine ac rfl rfl rfl ?_
 refine AL_nil (AC_seq (AC_region ?_))
 refine fl 0 ?_
 refine ld 0 ?_
 refine p_ (S_lenS (ts := #[]) rfl (.tmp rfl) (by kernel_rfl)) ?_
 refine as_ rfl rfl rfl rfl ?_
 refine AL_nil ?_
 refine AC_seq ?_
 refine AC_seq (AC_region ?_)
 refine mv rfl rfl rfl rfl ?_
 refine p_ (S_gtr rfl (.tmp rfl) (AEv.const _)) ?_
 refine mv rfl rfl rfl rfl ?_
 refine g_ (fun _ => fA 1) ?_
 refine g_ (fun _ => lA 0) ?_
 refine g_ (fun _ => S_len (e := 71) rfl (AEv.cd (.tmp rfl)) (by kernel_rfl)) ?_
 refine g_ (fun _ => S_gtr rfl (AEv.cd (.tmp rfl)) (AEv.const _)) ?_
 refine p_ (S_or rfl (.tmp rfl) (fun hp14 => (AEv.cd (.tmp rfl)))) ?_
 refine mv rfl rfl rfl rfl ?_
 refine g_ (fun _ => fA 2) ?_
 refine g_ (fun _ => lA 0) ?_
 refine g_ (fun _ => S_len (e := 79) rfl (AEv.cd (.tmp rfl)) (by kernel_rfl)) ?_
 refine g_ (fun _ => S_gtr rfl (AEv.cd (.tmp rfl)) (AEv.const _)) ?_
 refine p_ (S_or rfl (.tmp rfl) (fun hp27 => (AEv.cd (.tmp rfl)))) ?_
 refine mv rfl rfl rfl rfl ?_
 refine g_ (fun _ => fA 3) ?_
 refine g_ (fun _ => lA 0) ?_
 refine g_ (fun _ => S_len (e := 79) rfl (AEv.cd (.tmp rfl)) (by kernel_rfl)) ?_
 refine g_ (fun _ => S_gtr rfl (AEv.cd (.tmp rfl)) (AEv.const _)) ?_
 refine p_ (S_or rfl (.tmp rfl) (fun hp40 => (AEv.cd (.tmp rfl)))) ?_
 refine AL_nil ?_
 refine AC_cond (.tmp rfl) (fun hb41 => ?_) (fun hb41 => ?_)
 ·try simp only [zA,zO,zN,zM,zP,zQ,zD,zF,gd] at hb41
  have hf : lightS s = false := by
   unfold lightS
   rw [show decide (s.name.length ≤ 100 ∧ s.labels.length ≤ 10 ∧ s.init.length ≤ 8 ∧ s.main.length ≤ 8) = false from decide_eq_false (by omega)]
   rfl
  refine AC_seq (AC_region ?_)
  refine ac rfl rfl rfl ?_
  refine AL_nil (AC_ret ?_)
  refine ret_tmp st rfl rfl (Sub.l (List.Sublist.cons _ (List.Sublist.refl _))) (Conv.refl (Sub.l (List.Sublist.cons _ (List.Sublist.refl _))) _) ⟨by rw [hf], rfl⟩ (.inl rfl)
 try simp only [zA,zO,zN,zM,zP,zQ,zD,zF,gd] at hb41
 have hb : s.name.length ≤ 100 ∧ s.labels.length ≤ 10 ∧ s.init.length ≤ 8 ∧ s.main.length ≤ 8 := by omega
 refine AC_skip ?_
 refine AC_seq ?_
 refine AC_seq (AC_region ?_)
 refine ac rfl rfl rfl ?_
 refine AL_nil ?_
 refine AC_block ?_
 refine AC_loop (G := Nat) (fun i => i ≤ s.labels.length ∧ (s.labels.take i).all lightL = true) (fun i => [(1, .ptr b1 0), (4, .int .i64 (i : Int))]) (fun i => (b1, .cells (spcL s)) :: st) (fun i => s.labels.length - i) (0) (⟨Nat.zero_le _, by simp⟩) rfl ?_ ?_
 ·exact .cons rfl (Le.refl _) (.cons rfl (Le.refl _) .nil)
 rintro i ⟨hi, hall⟩
 try dsimp only
 refine AC_seq ?_
 refine AC_seq (AC_region ?_)
 refine mv rfl rfl rfl rfl ?_
 refine fl 1 ?_
 refine ld 0 ?_
 refine p_ (S_len (e := 71) rfl (.tmp rfl) (by kernel_rfl)) ?_
 refine p_ (S_lss rfl (.tmp rfl) (.tmp rfl)) ?_
 refine AL_nil ?_
 refine AC_cond (.tmp rfl) (fun hb42 => ?_) (fun hb42 => ?_)
 ·try simp only [zA,zO,zN,zM,zP,zQ,zD,zF,gd] at hb42
  have hil : i < s.labels.length := by omega
  refine AC_skip ?_
  refine AC_seq ?_
  refine AC_block ?_
  refine AC_seq (AC_region ?_)
  refine fl 1 ?_
  refine ld 0 ?_
  refine mv rfl rfl rfl rfl ?_
  refine p_ (S_elem (e := 71) (c := labAV (s.labels[i]'hil)) (i := (i : Int)) 2 rfl (.tmp rfl) (.tmp rfl) (by kernel_rfl) (by kernel_rfl) (by omega) (by simp [labsV, hil]) rfl) ?_
  refine p_ (S_fieldP 0 rfl (.tmp rfl) (by kernel_rfl)) ?_
  refine p_ (S_loadP rfl (.tmp rfl) rfl (by kernel_rfl)) ?_
  refine p_ (S_lenS (ts := #[]) rfl (.tmp rfl) (by kernel_rfl)) ?_
  refine p_ (S_gtr rfl (.tmp rfl) (AEv.const _)) ?_
  refine mv rfl rfl rfl rfl ?_
  refine g_ (fun _ => fA 1) ?_
  refine g_ (fun _ => lA 0) ?_
  refine g_ (fun _ => mA) ?_
  refine g_ (fun _ => S_elem (e := 71) (c := labAV (s.labels[i]'hil)) (i := (i : Int)) 2 rfl (AEv.cd (.tmp rfl)) (AEv.cd (.tmp rfl)) (by kernel_rfl) (by kernel_rfl) (by omega) (by simp [labsV, hil]) rfl) ?_
  refine g_ (fun _ => S_fieldP 1 rfl (AEv.cd (.tmp rfl)) (by kernel_rfl)) ?_
  refine g_ (fun _ => S_loadP rfl (AEv.cd (.tmp rfl)) rfl (by kernel_rfl)) ?_
  refine g_ (fun _ => S_lenS (ts := #[]) rfl (AEv.cd (.tmp rfl)) (by kernel_rfl)) ?_
  refine g_ (fun _ => S_gtr rfl (AEv.cd (.tmp rfl)) (AEv.const _)) ?_
  refine p_ (S_or rfl (.tmp rfl) (fun hp67 => (AEv.cd (.tmp rfl)))) ?_
  refine AL_nil ?_
  refine AC_cond (.tmp rfl) (fun hb68 => ?_) (fun hb68 => ?_)
  ·try simp only [zA,zO,zN,zM,zP,zQ,zD,zF,gd] at hb68
   have hc : lightL (s.labels[i]'hil) = false := by unfold lightL; rw [decide_eq_false_iff_not]; omega
   have hf : lightS s = false := by
    unfold lightS
    rw [show s.labels.all lightL = false from List.all_eq_false.2 ⟨_, List.getElem_mem hil, by rw [hc]; simp⟩]
    simp
   refine AC_seq (AC_region ?_)
   refine ac rfl rfl rfl ?_
   refine AL_nil (AC_ret ?_)
   refine ret_tmp st rfl rfl (Sub.l (List.Sublist.cons _ (List.Sublist.refl _))) (Conv.refl (Sub.l (List.Sublist.cons _ (List.Sublist.refl _))) _) ⟨by rw [hf], rfl⟩ (.inl rfl)
  try simp only [zA,zO,zN,zM,zP,zQ,zD,zF,gd] at hb68
  have hc : lightL (s.labels[i]'hil) = true := by unfold lightL; rw [decide_eq_true_eq]; omega
  refine AC_skip ?_
  refine AC_region ?_
  refine mv rfl rfl rfl rfl ?_
  refine p_ (S_addI rfl (.tmp rfl) (AEv.const _) (by omega) (by omega)) ?_
  refine as_ rfl rfl rfl rfl ?_
  refine AL_nil ?_
  refine ⟨i + 1, ⟨by omega, by rw [List.take_succ_eq_append_getElem hil, List.all_append, hall]; simp [hc]⟩, by omega, rfl, .cons rfl (Le.refl _) (.cons rfl (Le.of_eq (by rw [Int.natCast_add]; rfl)) .nil)⟩
 try simp only [zA,zO,zN,zM,zP,zQ,zD,zF,gd] at hb42
 have ht : lightS s = (s.init.all lightC && s.main.all lightC) := by
  rw [List.take_of_length_le (by omega)] at hall
  unfold lightS
  rw [decide_eq_true hb, hall]
  simp
 refine AC_exit ?_
 refine AC_seq (AC_region ?_)
 refine fl 2 ?_
 refine ld 0 ?_
 refine p_ (S_pcall rfl (AEvs.cons (.tmp rfl) AEvs.nil) (book_lightContainers_ok s.init (by omega))) ?_
 refine mv rfl rfl rfl rfl ?_
 refine g_ (fun _ => fA 3) ?_
 refine g_ (fun _ => lA 0) ?_
 refine g_ (fun _ => S_pcall rfl (AEvs.cons (AEv.cd (.tmp rfl)) AEvs.nil) (book_lightContainers_ok s.main (by omega))) ?_
 refine an ?_
 refine as_ rfl rfl rfl rfl ?_
 refine AL_nil (AC_ret ?_)
 refine ret_tmp st rfl rfl (Sub.l (List.Sublist.cons _ (List.Sublist.refl _))) (Conv.refl (Sub.l (List.Sublist.cons _ (List.Sublist.refl _))) _) ⟨by rw [ht], rfl⟩ (.inl rfl)
theorem seen_name_f (b : Nat) (p q : Own) (ns : List (List UInt8)) (ps : List Int) (hp : p.ok (strsV ns)) (hq : q.ok (intsV ps)) (hns : ns.length ≤ 1000) (c : Ctr) (F : St) (hG : ∀ r, r ∈ Gs tabs → r ∈ F) : ACalls Tryz.prog 117 [.ptr b 0, ctrAV c] (seenSt 9 3 b p q ns ps ++ F) fun x st' => ∃ foot', (∃ p' : Own, p'.ok (strsV (ns ++ [c.name])) ∧ x = erV 28 167 (nameE ns c.name) ∧ foot' = seenSt 9 3 b p' q (ns ++ [c.name]) ps) ∧ st' = foot' ++ F := by
 unfold seenSt
 simp only [List.cons_append, List.append_assoc]
 exact (seen_name_ok b p q ns ps hp hq hns c F hG).mono fun x st' ⟨p', h1, h2, h3⟩ => ⟨_, ⟨p', h1, h2, rfl⟩, by rw [h3]; simp only [List.cons_append, List.append_assoc]⟩
theorem seen_port_f (b : Nat) (p q : Own) (ns : List (List UInt8)) (ps : List Int) (hp : p.ok (strsV ns)) (hq : q.ok (intsV ps)) (hps : ps.length ≤ 1000) (l : List Int) (hl : l.length ≤ 1000) (n : Int) (F : St) : ACalls Tryz.prog 121 [.ptr b 0, .sl (intsV l), .int .i64 n] (seenSt 9 3 b p q ns ps ++ F) fun x st' => ∃ foot', (∃ (q' : Own) (m : Nat), m ≤ (l).length ∧ (portE ps (l) (n) = none → m = (l).length) ∧ q'.ok (intsV (ps ++ (l).take m)) ∧ x = erV 28 167 (portE ps (l) (n)) ∧ foot' = seenSt 9 3 b p q' ns (ps ++ (l).take m)) ∧ st' = foot' ++ F := by
 unfold seenSt
 simp only [List.cons_append, List.append_assoc]
 exact (seen_port_ok b p q ns ps hp hq hps l hl n F).mono fun x st' ⟨q', m, h1, h2, h3, h4, h5⟩ => ⟨_, ⟨q', m, h1, h2, h3, h4, rfl⟩, by rw [h5]; simp only [List.cons_append, List.append_assoc]⟩
theorem seen_container_ok (b : Nat) (p q : Own) (ns : List (List UInt8)) (ps : List Int) (hp : p.ok (strsV ns)) (hq : q.ok (intsV ps)) (hns : ns.length ≤ 1000) (hps : ps.length ≤ 1000) (c : Ctr) (himg : c.image.length ≤ 1000000) (hpo : c.ports.length ≤ 1000) (ports every : Int) (F : St) (hG : ∀ r, r ∈ Gs tabs → r ∈ F) : ACalls Tryz.prog 94 [.ptr b 0, ctrAV c, .int .i64 ports, .int .i64 every] (seenSt 9 3 b p q ns ps ++ F) (fun x st' => ∃ foot', (∃ (p' q' : Own) (m : Nat), m ≤ c.ports.length ∧ (portE ps c.ports ports = none → m = c.ports.length) ∧ p'.ok (strsV (ns ++ [c.name])) ∧ q'.ok (intsV (ps ++ c.ports.take m)) ∧ x = erV 28 167 (ctrE ns ps c ports every) ∧ foot' = seenSt 9 3 b p' q' (ns ++ [c.name]) (ps ++ c.ports.take m)) ∧ st' = foot' ++ F) := by
 refine co 36 Tryz.func94 ?_
 refine AC_seq (AC_region ?_)
 refine s_ (S_box rfl (.tmp rfl)) ?_
 rintro _ _ ⟨b1, rfl, rfl⟩
 refine ac rfl rfl rfl ?_
 refine AL_nil ?_
 refine AC_seq ?_
 refine AC_plan (σ := [(0, 0), (1, 0), (3, 0), (4, 0), (6, 0), (8, 0), (9, 0), (11, 0), (12, 0), (13, 0), (14, 0), (16, 0), (17, 0), (18, 0), (19, 0), (21, 0), (22, 0), (23, 0), (2, 1), (5, 0), (7, 0), (10, 0), (15, 0), (20, 1), (24, 0), (25, 0), (26, 0), (27, 0)]) (by kernel_rfl) ((b1, .cells (ctrL c)) :: Gs tabs) (by kernel_rfl) (fun r hr => by rcases List.mem_cons.1 hr with rfl | hr2; exact List.mem_cons_self; exact List.mem_cons_of_mem _ (List.mem_append_right _ (hG r hr2))) ?_
 refine AG.f rfl rfl (fun st' hst => Q_p rfl (S_move rfl (.tmp rfl))) ?_
 refine AG.f rfl rfl (fun st' hst => Q_p rfl (S_loadNM (m := 11) rfl (.tmp rfl) (hst _ (List.mem_of_getElem? (i := 0) rfl)) (by kernel_rfl) (by first | exact Nat.le_of_ble_eq_true rfl | (simp; omega) | simp))) ?_
 refine AG.f rfl rfl (fun st' hst => Q_p rfl (S_field 1 rfl (.tmp rfl) (by kernel_rfl))) ?_
 refine AG.f rfl rfl (fun st' hst => Q_p rfl (S_loadM rfl (.tmp rfl) (hst _ (List.mem_of_getElem? (i := 0) rfl)) rfl (by kernel_rfl))) ?_
 refine AG.f rfl rfl (fun st' hst => Q_p rfl (S_buildSlice (e := 9) 1 rfl (AEvs.cons (AEv.S _) AEvs.nil) rfl (by kernel_rfl) (by kernel_rfl) (by simp [AV.flat, AV.one, AV.cells, Value.oneCell']) (by decide) (by decide) (by decide))) ?_
 refine AG.f rfl rfl (fun st' hst => Q_p rfl (S_field 2 rfl (.tmp rfl) (by kernel_rfl))) ?_
 refine AG.f rfl rfl (fun st' hst => Q_p rfl (S_loadNM (m := 3) rfl (.tmp rfl) (hst _ (List.mem_of_getElem? (i := 0) rfl)) (by kernel_rfl) (by first | exact Nat.le_of_ble_eq_true rfl | (simp; omega) | simp))) ?_
 refine AG.f rfl rfl (fun st' hst => Q_p rfl (S_field 5 rfl (.tmp rfl) (by kernel_rfl))) ?_
 refine AG.f rfl rfl (fun st' hst => Q_p rfl (S_loadNM (m := 3) rfl (.tmp rfl) (hst _ (List.mem_of_getElem? (i := 0) rfl)) (by kernel_rfl) (by first | exact Nat.le_of_ble_eq_true rfl | (simp; omega) | simp))) ?_
 refine AG.f rfl rfl (fun st' hst => Q_p rfl (S_field 2 rfl (.tmp rfl) (by kernel_rfl))) ?_
 refine AG.f rfl rfl (fun st' hst => Q_p rfl (S_loadNM (m := 3) rfl (.tmp rfl) (hst _ (List.mem_of_getElem? (i := 0) rfl)) (by kernel_rfl) (by first | exact Nat.le_of_ble_eq_true rfl | (simp; omega) | simp))) ?_
 refine AG.f rfl rfl (fun st' hst => Q_p rfl (S_move rfl (.tmp rfl))) ?_
 refine AG.f rfl rfl (fun st' hst => Q_p rfl (S_field 8 rfl (.tmp rfl) (by kernel_rfl))) ?_
 refine AG.f rfl rfl (fun st' hst => Q_p rfl (S_loadM rfl (.tmp rfl) (hst _ (List.mem_of_getElem? (i := 0) rfl)) rfl (by kernel_rfl))) ?_
 refine AG.f rfl rfl (fun st' hst => Q_p rfl (S_move rfl (.tmp rfl))) ?_
 refine AG.f rfl rfl (fun st' hst => Q_p rfl (S_field 9 rfl (.tmp rfl) (by kernel_rfl))) ?_
 refine AG.f rfl rfl (fun st' hst => Q_p rfl (S_loadNM (m := 2) rfl (.tmp rfl) (hst _ (List.mem_of_getElem? (i := 0) rfl)) (by kernel_rfl) (by first | exact Nat.le_of_ble_eq_true rfl | (simp; omega) | simp))) ?_
 refine AG.f rfl rfl (fun st' hst => Q_p rfl (S_move rfl (.tmp rfl))) ?_
 refine AG.s rfl rfl rfl (S_call rfl (AEvs.cons (.tmp rfl) (AEvs.cons (y := ctrAV c) (.tmp rfl) AEvs.nil)) (ACalls.preP (G := fun F => ∀ r, r ∈ Gs tabs → r ∈ F) (fun pre F h r hr => List.mem_append_right _ (h r hr)) (foot := seenSt 9 3 b p q ns ps) (K := fun x foot' => ∃ p' : Own, p'.ok (strsV (ns ++ [c.name])) ∧ x = erV 28 167 (nameE ns c.name) ∧ foot' = seenSt 9 3 b p' q (ns ++ [c.name]) ps) (fun F hF => seen_name_f b p q ns ps hp hq hns c F hF) [(b1, Ob.cells (ctrL c))] F hG)) ?_ ?_
 ·rintro _ _ ⟨_, ⟨p2, hp2, rfl, rfl⟩, rfl⟩ r hr; exact (List.mem_cons.1 hr).elim (fun h => h ▸ List.mem_append_left _ List.mem_cons_self) (fun h => List.mem_append_right _ (List.mem_append_right _ (hG r h)))
 rintro _ _ ⟨_, ⟨p2, hp2, rfl, rfl⟩, rfl⟩
 refine AG.f rfl rfl (fun st' hst => Q_p rfl (S_gcall rfl (AEvs.cons (.tmp rfl) AEvs.nil) ((text_Image_ok c.image (by omega)) _ (fun r hr => hst r (List.mem_cons_of_mem _ hr))))) ?_
 refine AG.f rfl rfl (fun st' hst => Q_p rfl (S_pcall rfl (AEvs.cons (.tmp rfl) (AEvs.cons (.tmp rfl) AEvs.nil)) (fail_New_ok (saysV (tparts c.image).2.2 33) [[105, 109, 97, 103, 101]] (by simp)))) ?_
 refine AG.f rfl rfl (fun st' hst => Q_p rfl (S_pcall rfl (AEvs.cons (y := resAV c.req) (.tmp rfl) AEvs.nil) (spec_req_ok c.req))) ?_
 refine AG.f rfl rfl (fun st' hst => Q_p rfl (S_pcall rfl (AEvs.cons (y := resAV c.lim) (.tmp rfl) (AEvs.cons (y := resAV c.req) (.tmp rfl) AEvs.nil)) (spec_lim_ok c.lim c.req))) ?_
 refine AG.s rfl rfl rfl (S_call rfl (AEvs.cons (.tmp rfl) (AEvs.cons (.tmp rfl) (AEvs.cons (.tmp rfl) AEvs.nil))) (ACalls.pre (foot := seenSt 9 3 b p2 q (ns ++ [c.name]) ps) (K := fun x foot' => ∃ (q' : Own) (m : Nat), m ≤ (c.ports).length ∧ (portE ps (c.ports) (ports) = none → m = (c.ports).length) ∧ q'.ok (intsV (ps ++ (c.ports).take m)) ∧ x = erV 28 167 (portE ps (c.ports) (ports)) ∧ foot' = seenSt 9 3 b p2 q' (ns ++ [c.name]) (ps ++ (c.ports).take m)) (fun F => seen_port_f b p2 q (ns ++ [c.name]) ps hp2 hq hps c.ports hpo ports F) [(b1, Ob.cells (ctrL c))] F)) ?_ ?_
 ·rintro _ _ ⟨_, ⟨q2, m, hm, hm2, hq2, rfl, rfl⟩, rfl⟩ r hr; exact (List.mem_cons.1 hr).elim (fun h => h ▸ List.mem_append_left _ List.mem_cons_self) (fun h => List.mem_append_right _ (List.mem_append_right _ (hG r h)))
 rintro _ _ ⟨_, ⟨q2, m, hm, hm2, hq2, rfl, rfl⟩, rfl⟩
 refine AG.f rfl rfl (fun st' hst => Q_p rfl (S_pcall rfl (AEvs.cons (y := probeAV c.probe) (.tmp rfl) (AEvs.cons (.tmp rfl) AEvs.nil)) (spec_probe_ok c.probe every))) ?_
 refine AG.f rfl rfl (fun st' hst => Q_p rfl (S_buildSlice (e := 41) 1 rfl (AEvs.cons (.tmp rfl) (AEvs.cons (.tmp rfl) (AEvs.cons (.tmp rfl) (AEvs.cons (.tmp rfl) (AEvs.cons (.tmp rfl) (AEvs.cons (.tmp rfl) AEvs.nil)))))) rfl (by kernel_rfl) (by kernel_rfl) (by intro y hy; simp only [List.mem_cons, List.not_mem_nil, or_false] at hy; rcases hy with rfl | rfl | rfl | rfl | rfl | rfl <;> exact ⟨er_flat _ _ _, by rw [er_cells]; rfl⟩) (by decide) (by decide) (by decide))) ?_
 refine AG.f rfl rfl (fun st' hst => Q_p rfl (S_pcall rfl (AEvs.cons (.tmp rfl) AEvs.nil) (fail_First_ok [nameE ns c.name, erNew (saysV (tparts c.image).2.2 33) [[105, 109, 97, 103, 101]], reqE c.req, limE c.lim c.req, portE ps c.ports ports, probeE c.probe every] (by simp)))) ?_
 refine AG.f rfl rfl (fun st' hst => Q_p rfl (S_assign rfl (.tmp rfl))) ?_
 refine AG.nil ?_
 refine AC_ret ?_
 refine ret_tmp (seenSt 9 3 b p2 q2 (ns ++ [c.name]) (ps ++ c.ports.take m) ++ F) rfl rfl (Sub.l (List.Sublist.cons _ (List.Sublist.refl _))) (Conv.refl (Sub.l (List.Sublist.cons _ (List.Sublist.refl _))) _) ⟨_, ⟨p2, q2, m, hm, hm2, hp2, hq2, rfl, rfl⟩, rfl⟩ (.inl rfl)
theorem seen_containers_ok (b : Nat) (p q : Own) (name : List UInt8) (hn : name.length ≤ 1000000) (ns : List (List UInt8)) (ps : List Int) (hp : p.ok (strsV ns)) (hq : q.ok (intsV ps)) (hns : ns.length ≤ 100) (hps : ps.length ≤ 100) (l : List Ctr) (hl : l.length ≤ 8) (hc : ∀ c ∈ l, lightC c = true) (ports every : Int) (F : St) (hG : ∀ r, r ∈ Gs tabs → r ∈ F) : ACalls Tryz.prog 56 [.ptr b 0, .S name, .sl (ctrsV l), .int .i64 ports, .int .i64 every] (seenSt 9 3 b p q ns ps ++ F) (fun x st' => ∃ foot', (∃ (p' q' : Own) (ns' : List (List UInt8)) (ps' : List Int), p'.ok (strsV ns') ∧ q'.ok (intsV ps') ∧ (ctrsE name ns ps l ports every = none → ns' = namesTo ns l l.length ∧ ps' = portsTo ps l l.length) ∧ x = erV 28 167 (ctrsE name ns ps l ports every) ∧ foot' = seenSt 9 3 b p' q' ns' ps') ∧ st' = foot' ++ F) := by
 refine co 34 Tryz.func56 ?_
 have hll : (ctrsV l).length = l.length := by simp [ctrsV]
 have hpo : ∀ c ∈ l, c.ports.length ≤ 10 := fun c h => (of_decide_eq_true (hc c h)).2.2
 refine AC_seq (AC_region ?_)
 refine ac rfl rfl rfl ?_
 refine AL_nil ?_
 refine AC_seq ?_
 refine AC_seq (AC_region ?_)
 refine mv rfl rfl rfl rfl ?_
 refine p_ (S_len (e := 79) rfl (.tmp rfl) (by kernel_rfl)) ?_
 refine p_ (S_move rfl (AEv.const _)) ?_
 refine AL_nil ?_
 refine AC_block ?_
 refine AC_loopS (G := Nat × Own × Own) (fun g => g.1 ≤ l.length ∧ (∀ j, j < g.1 → ctrAt ns ps l ports every j = none) ∧ g.2.1.ok (strsV (namesTo ns l g.1)) ∧ g.2.2.ok (intsV (portsTo ps l g.1))) (fun g => [(0, .ptr b 0), (1, .S name), (3, .int .i64 ports), (4, .int .i64 every), (14, .sl (ctrsV l)), (15, .int .i64 ((ctrsV l).length : Int)), (16, .int .i64 (g.1 : Int))]) (fun g => (seenSt 9 3 b g.2.1 g.2.2 (namesTo ns l g.1) (portsTo ps l g.1) ++ F)) (fun g => l.length - g.1) ((0, p, q)) (⟨Nat.zero_le _, fun j hj => absurd hj (Nat.not_lt_zero _), by simpa [namesTo] using hp, by simpa [portsTo] using hq⟩) (by simp only [namesTo, portsTo, List.take_zero, List.map_nil, List.flatMap_nil, List.append_nil]; exact Sub.l (List.Sublist.refl _)) ?_ ?_
 ·exact (.cons rfl (Le.refl _) (.cons rfl (Le.refl _) (.cons rfl (Le.refl _) (.cons rfl (Le.refl _) (.cons rfl (Le.refl _) (.cons rfl (Le.refl _) (.cons rfl (Le.refl _) .nil)))))))
 rintro ⟨i, p1, q1⟩ ⟨hi, hno, hp1, hq1⟩
 try dsimp only
 dsimp only at hi hno hp1 hq1
 refine AC_seq (AC_region ?_)
 refine p_ (S_lss rfl (.tmp rfl) (.tmp rfl)) ?_
 refine AL_nil ?_
 refine AC_seq ?_
 refine AC_cond (.tmp rfl) (fun hb1 => ?_) (fun hb1 => ?_)
 ·try simp only [zA,zO,zN,zM,zP,zQ,zD,zF,gd] at hb1
  have hil : i < l.length := by omega
  have hif : fits (i : Int) := by unfold fits; omega
  have hb1 := namesTo_le (i := i) hl hns
  have hb2 := portsTo_le (i := i) hpo hl hps
  obtain ⟨k1, k2, k3⟩ := of_decide_eq_true (hc _ (List.getElem_mem hil))
  refine AC_skip ?_
  refine AC_seq ?_
  refine AC_block ?_
  refine AC_seq (AC_region ?_)
  refine mv rfl rfl rfl rfl ?_
  refine p_ (S_elem (e := 79) (c := ctrAV (l[i]'hil)) (i := (i : Int)) 11 rfl (.tmp rfl) (.tmp rfl) (by kernel_rfl) (by kernel_rfl) (by omega) (by simp [ctrsV, hil]) rfl) ?_
  refine p_ (S_loadPN (m := 11) rfl (.tmp rfl) (by kernel_rfl) (by first | exact Nat.le_of_ble_eq_true rfl | (simp; omega) | simp)) ?_
  refine s_ (S_alloc [.string ⟨#[]⟩, .string ⟨#[]⟩, .int .i64 0, .int .i64 0, .int .i64 0, .int .i64 0, .int .i64 0, .int .i64 0, .slice none 0 0, .int .i64 0, .int .i64 0] rfl (by kernel_rfl)) ?_
  rintro _ _ ⟨b2, rfl, rfl⟩
  refine as_ rfl rfl rfl rfl ?_
  refine stN 0 ?_
  refine AL_nil (AC_seq (AC_region ?_))
  refine mv rfl rfl rfl rfl ?_
  refine ldN 11 0 ?_
  refine mv rfl rfl rfl rfl ?_
  refine mv rfl rfl rfl rfl ?_
  refine s_ (S_call rfl (AEvs.cons (.tmp rfl) (AEvs.cons (y := ctrAV (l[i]'hil)) (.tmp rfl) (AEvs.cons (.tmp rfl) (AEvs.cons (.tmp rfl) AEvs.nil)))) (ACalls.preP (G := fun F => ∀ r, r ∈ Gs tabs → r ∈ F) (fun pre F h r hr => List.mem_append_right _ (h r hr)) (foot := seenSt 9 3 b p1 q1 (namesTo ns l i) (portsTo ps l i)) (K := fun x foot' => ∃ (p' q' : Own) (m : Nat), m ≤ ((l[i]'hil)).ports.length ∧ (portE (portsTo ps l i) ((l[i]'hil)).ports ports = none → m = ((l[i]'hil)).ports.length) ∧ p'.ok (strsV ((namesTo ns l i) ++ [((l[i]'hil)).name])) ∧ q'.ok (intsV ((portsTo ps l i) ++ ((l[i]'hil)).ports.take m)) ∧ x = erV 28 167 (ctrE (namesTo ns l i) (portsTo ps l i) (l[i]'hil) ports every) ∧ foot' = seenSt 9 3 b p' q' ((namesTo ns l i) ++ [((l[i]'hil)).name]) ((portsTo ps l i) ++ ((l[i]'hil)).ports.take m)) (fun F hF => seen_container_ok b p1 q1 (namesTo ns l i) (portsTo ps l i) hp1 hq1 (by omega) (by omega) (l[i]'hil) (by omega) (by omega) ports every F hF) [(_, _)] F hG)) ?_
  rintro _ _ ⟨_, ⟨p2, q2, m, hm, hm2, hp2, hq2, rfl, rfl⟩, rfl⟩
  refine as_ rfl rfl rfl rfl ?_
  refine AL_nil (AC_seq (AC_region ?_))
  refine mv rfl rfl rfl rfl ?_
  refine p_ (S_neqE (er_is 28 167 (ctrE (namesTo ns l i) (portsTo ps l i) (l[i]'hil) ports every)) rfl (.tmp rfl) (by kernel_rfl)) ?_
  refine AL_nil ?_
  refine AC_cond (.tmp rfl) (fun hb3 => ?_) (fun hb3 => ?_)
  ·try simp only [zA,zO,zN,zM,zP,zQ,zD,zF,gd] at hb3
   obtain ⟨y, hy⟩ : ∃ y, (ctrE (namesTo ns l i) (portsTo ps l i) (l[i]'hil) ports every) = some y := by cases h : (ctrE (namesTo ns l i) (portsTo ps l i) (l[i]'hil) ports every) with | none => rw [h] at hb3; simp at hb3 | some y => exact ⟨y, rfl⟩
   have hend : ctrsE name ns ps l ports every = erIn (some y) (atT name (i : Int)) := eachE_at hil (by rw [ctrAt_at hil, hy]; rfl) (fun j hj => by rw [hno j hj]; rfl)
   refine AC_seq (AC_region ?_)
   refine mv rfl rfl rfl rfl ?_
   refine mv rfl rfl rfl rfl ?_
   refine mv rfl rfl rfl rfl ?_
   refine p_ (S_pcall rfl (AEvs.cons (.tmp rfl) (AEvs.cons (.tmp rfl) AEvs.nil)) (spec_at_ok name hn (i : Int) hif)) ?_
   refine p_ (S_pcall rfl (AEvs.cons (.tmp rfl) (AEvs.cons (.tmp rfl) AEvs.nil)) (fail_In_ok (ctrE (namesTo ns l i) (portsTo ps l i) (l[i]'hil) ports every) (atT name (i : Int)))) ?_
   refine as_ rfl rfl rfl rfl ?_
   refine AL_nil (AC_ret ?_)
   refine ret_tmp (seenSt 9 3 b p2 q2 ((namesTo ns l i) ++ [((l[i]'hil)).name]) ((portsTo ps l i) ++ ((l[i]'hil)).ports.take m) ++ F) rfl rfl (Sub.l (List.Sublist.cons _ (List.Sublist.refl _))) (Conv.refl (Sub.l (List.Sublist.cons _ (List.Sublist.refl _))) _) ⟨_, ⟨p2, q2, _, _, hp2, hq2, (fun h => by rw [hend] at h; cases h), by rw [hend, hy], rfl⟩, rfl⟩ (.inl rfl)
  try simp only [zA,zO,zN,zM,zP,zQ,zD,zF,gd] at hb3
  have hnone : (ctrE (namesTo ns l i) (portsTo ps l i) (l[i]'hil) ports every) = none := by cases h : (ctrE (namesTo ns l i) (portsTo ps l i) (l[i]'hil) ports every) with | none => rfl | some y => rw [h] at hb3; simp at hb3
  obtain rfl := hm2 (ctrE_port hnone)
  rw [List.take_length] at hq2 ⊢
  refine AC_skip ?_
  refine AC_region ?_
  refine p_ (S_addI rfl (.tmp rfl) (AEv.const _) (by omega) (by omega)) ?_
  refine mv rfl rfl rfl rfl ?_
  refine AL_nil ?_
  refine ⟨(i + 1, p2, q2), ⟨by dsimp only; omega, fun j hj => ?_, by dsimp only; rw [namesTo_next hil]; exact hp2, by dsimp only; rw [portsTo_next hil]; exact hq2⟩, by dsimp only; omega, by dsimp only; rw [namesTo_next hil, portsTo_next hil]; exact Sub.l (List.Sublist.cons _ (List.Sublist.refl _)), (.cons rfl (Le.refl _) (.cons rfl (Le.refl _) (.cons rfl (Le.refl _) (.cons rfl (Le.refl _) (.cons rfl (Le.refl _) (.cons rfl (Le.refl _) (.cons rfl (Le.of_eq (by dsimp only; rw [Int.natCast_add]; rfl)) .nil)))))))⟩
  rcases Nat.lt_or_ge j i with h' | h'
  ·exact hno j h'
  ·rw [show j = i by omega, ctrAt_at hil]; exact hnone
 try simp only [zA,zO,zN,zM,zP,zQ,zD,zF,gd] at hb1
 obtain rfl : i = l.length := by omega
 have hend : ctrsE name ns ps l ports every = none := eachE_all fun j hj => by rw [hno j hj]; rfl
 refine AC_exit ?_
 refine AC_seq (AC_region ?_)
 refine ac rfl rfl rfl ?_
 refine AL_nil (AC_ret ?_)
 refine ret_tmp (seenSt 9 3 b p1 q1 (namesTo ns l l.length) (portsTo ps l l.length) ++ F) rfl rfl (Sub.l (List.Sublist.refl _)) (Conv.refl (Sub.l (List.Sublist.refl _)) _) ⟨_, ⟨p1, q1, _, _, hp1, hq1, fun _ => ⟨rfl, rfl⟩, by rw [hend]; rfl, rfl⟩, rfl⟩ (.inl rfl)
theorem spec_Check_ok (s : Spc) (hs : lightS s = true) : GCalls Tryz.prog tabs 18 [spcAV s] (erV 28 167 (checkE s)) := by
 intro st hG
 refine co 52 Tryz.func18 ?_
 obtain ⟨h1, h2, h3, h4, h5, h6, h7⟩ := lightS_out hs
 refine AC_seq (AC_region ?_)
 refine s_ (S_box rfl (.tmp rfl)) ?_
 rintro _ _ ⟨b1, rfl, rfl⟩
 refine ac rfl rfl rfl ?_
 refine AL_nil ?_
 refine AC_seq ?_
 refine AC_draw (by kernel_rfl) (by kernel_rfl) (.cons rfl (Q_p rfl (S_field 0 rfl (.tmp rfl) (by kernel_rfl))) <|
   .cons rfl (Q_p rfl (S_load 0 rfl (.tmp rfl) rfl rfl (by kernel_rfl))) <|
   .cons rfl (Q_p rfl (S_gcall rfl (AEvs.cons (.tmp rfl) AEvs.nil) ((text_Name_ok s.name) _ (fun p hp => by first | exact hG p hp | (simp [hG p hp]; done))))) <|
   .cons rfl (Q_p rfl (S_buildSlice (e := 9) 1 rfl (AEvs.cons (AEv.S _) AEvs.nil) rfl (by kernel_rfl) (by kernel_rfl) (by intro y hy; simp only [List.mem_cons, List.not_mem_nil, or_false] at hy; rcases hy with rfl <;> exact ⟨rfl, rfl⟩) (by decide) (by decide) (by decide))) <|
   .cons rfl (Q_p rfl (S_pcall rfl (AEvs.cons (.tmp rfl) (AEvs.cons (.tmp rfl) AEvs.nil)) (fail_New_ok (saysV (nameV s.name) 30) [nameN] (by simp)))) <|
   .cons rfl (Q_p rfl (S_field 1 rfl (.tmp rfl) (by kernel_rfl))) <|
   .cons rfl (Q_p rfl (S_load 0 rfl (.tmp rfl) rfl rfl (by kernel_rfl))) <|
   .cons rfl (Q_p rfl (S_gcall rfl (AEvs.cons (AEv.S _) (AEvs.cons (.tmp rfl) AEvs.nil)) ((spec_Labels_ok labelsN (by decide) s.labels (by omega) h5) _ (fun p hp => by first | exact hG p hp | (simp [hG p hp]; done))))) <|
   .cons rfl (Q_p rfl (S_field 2 rfl (.tmp rfl) (by kernel_rfl))) <|
   .cons rfl (Q_p rfl (S_load 0 rfl (.tmp rfl) rfl rfl (by kernel_rfl))) <|
   .cons rfl (Q_p rfl (by first | exact S_lenM (e := 79) rfl (.tmp rfl) (by kernel_rfl) | exact S_len (e := 79) rfl (.tmp rfl) (by kernel_rfl))) <|
   .cons rfl (Q_p rfl (S_pcall rfl (AEvs.cons (AEv.S _) (AEvs.cons (.tmp rfl) (AEvs.cons (AEv.const _) (AEvs.cons (AEv.const _) AEvs.nil)))) (spec_atMost_ok initN (s.init.length : Int) 0 3))) <|
   .cons rfl (Q_p rfl (S_buildSlice (e := 41) 1 rfl (AEvs.cons (.tmp rfl) (AEvs.cons (.tmp rfl) (AEvs.cons (.tmp rfl) AEvs.nil))) rfl (by kernel_rfl) (by kernel_rfl) (by intro y hy; simp only [List.mem_cons, List.not_mem_nil, or_false] at hy; rcases hy with rfl | rfl | rfl <;> exact ⟨er_flat _ _ _, by rw [er_cells]; rfl⟩) (by decide) (by decide) (by decide))) <|
   .cons rfl (Q_p rfl (S_pcall rfl (AEvs.cons (.tmp rfl) AEvs.nil) (fail_First_ok (check1 s) (by simp)))) <|
   .cons rfl (Q_p rfl (S_assign rfl (.tmp rfl))) <|
   .nil) ?_
 refine AC_seq ?_
 refine AC_seq (AC_region ?_)
 refine mv rfl rfl rfl rfl ?_
 refine p_ (S_neqE (er_is 28 167 (firstE (check1 s))) rfl (.tmp rfl) (by kernel_rfl)) ?_
 refine AL_nil ?_
 refine AC_cond (.tmp rfl) (fun hb2 => ?_) (fun hb2 => ?_)
 ·try simp only [zA,zO,zN,zM,zP,zQ,zD,zF,gd] at hb2
  obtain ⟨x, hx⟩ : ∃ x, firstE (check1 s) = some x := by cases h : firstE (check1 s) with | none => rw [h] at hb2; simp at hb2 | some y => exact ⟨y, rfl⟩
  refine AC_seq (AC_region ?_)
  refine mv rfl rfl rfl rfl ?_
  refine as_ rfl rfl rfl rfl ?_
  refine AL_nil (AC_ret ?_)
  refine ret_tmp st rfl rfl (Sub.l (List.Sublist.cons _ (List.Sublist.refl _))) (Conv.refl (Sub.l (List.Sublist.cons _ (List.Sublist.refl _))) _) ⟨by rw [check_bad1 hx, hx], rfl⟩ (.inl rfl)
 try simp only [zA,zO,zN,zM,zP,zQ,zD,zF,gd] at hb2
 have hn1 : firstE (check1 s) = none := by cases h : firstE (check1 s) with | none => rfl | some y => rw [h] at hb2; simp at hb2
 refine AC_skip ?_
 refine AC_seq (AC_region ?_)
 refine p_ (S_build (t := 109) (pl := [(0, 1), (1, 1)]) (zs := [.slice none 0 0, .slice none 0 0]) rfl AEvs.nil (by kernel_rfl) rfl) ?_
 refine s_ (S_box rfl (.tmp rfl)) ?_
 rintro _ _ ⟨b3, rfl, rfl⟩
 refine as_ rfl rfl rfl rfl ?_
 refine AL_nil ?_
 refine AC_seq ?_
 have hB : ∀ r, r ∈ ((b1, Ob.cells (spcL s)) :: Gs tabs) → r ∈ ((b1, Ob.cells (spcL s)) :: st) := fun r hr => by
  rcases List.mem_cons.1 hr with rfl | h
  ·exact List.mem_cons_self
  ·exact List.mem_cons_of_mem _ (hG r h)
 have hG1 : ∀ r, r ∈ Gs tabs → r ∈ ((b1, Ob.cells (spcL s)) :: st) := fun r hr => List.mem_cons_of_mem _ (hG r hr)
 refine AC_plan (σ := [(0, 0), (1, 0), (2, 0), (4, 0), (5, 0), (6, 0), (3, 1), (7, 0), (8, 0), (9, 0), (10, 0)]) (by kernel_rfl) ((b1, Ob.cells (spcL s)) :: Gs tabs) (by kernel_rfl) (fun r hr => List.mem_cons_of_mem _ (hB r hr)) ?_
 refine AG.f rfl rfl (fun st' hst => Q_p rfl (S_move rfl (.tmp rfl))) ?_
 refine AG.f rfl rfl (fun st' hst => Q_p rfl (S_field 2 rfl (.tmp rfl) (by kernel_rfl))) ?_
 refine AG.f rfl rfl (fun st' hst => Q_p rfl (S_loadM rfl (.tmp rfl) (hst _ (List.mem_of_getElem? (i := 0) rfl)) rfl (by kernel_rfl))) ?_
 refine AG.f rfl rfl (fun st' hst => Q_p rfl (S_field 3 rfl (.tmp rfl) (by kernel_rfl))) ?_
 refine AG.f rfl rfl (fun st' hst => Q_p rfl (S_loadM rfl (.tmp rfl) (hst _ (List.mem_of_getElem? (i := 0) rfl)) rfl (by kernel_rfl))) ?_
 refine AG.f rfl rfl (fun st' hst => Q_p rfl (by first | exact S_lenM (e := 79) rfl (.tmp rfl) (by kernel_rfl) | exact S_len (e := 79) rfl (.tmp rfl) (by kernel_rfl))) ?_
 refine AG.s rfl rfl rfl (S_call (K := fun x st' => ∃ foot', (∃ (p' q' : Own) (ns' : List (List UInt8)) (ps' : List Int), p'.ok (strsV ns') ∧ q'.ok (intsV ps') ∧ (ctrsE initN [] [] s.init 0 0 = none → ns' = namesTo [] s.init (s.init).length ∧ ps' = portsTo [] s.init (s.init).length) ∧ x = erV 28 167 (ctrsE initN [] [] s.init 0 0) ∧ foot' = seenSt 9 3 b3 p' q' ns' ps') ∧ st' = foot' ++ ((b1, Ob.cells (spcL s)) :: st)) rfl (AEvs.cons (.tmp rfl) (AEvs.cons (AEv.S _) (AEvs.cons (.tmp rfl) (AEvs.cons (AEv.const _) (AEvs.cons (AEv.const _) AEvs.nil))))) (seen_containers_ok b3 .nil .nil initN (by decide) [] [] rfl rfl (by first | decide | omega) (by first | decide | omega) s.init (by omega) h6 0 0 ((b1, Ob.cells (spcL s)) :: st) hG1)) ?_ ?_
 ·rintro _ _ ⟨_, ⟨p2, q2, n2, m2, hp2, hq2, hn2, rfl, rfl⟩, rfl⟩ r hr; exact List.mem_append_right _ (hB r hr)
 rintro _ _ ⟨_, ⟨p2, q2, n2, m2, hp2, hq2, hn2, rfl, rfl⟩, rfl⟩
 refine AG.f rfl rfl (fun st' hst => Q_p rfl (S_pcall rfl (AEvs.cons (AEv.S _) (AEvs.cons (.tmp rfl) (AEvs.cons (AEv.const _) (AEvs.cons (AEv.const _) AEvs.nil)))) (spec_atMost_ok mainN (s.main.length : Int) 1 4))) ?_
 refine AG.f rfl rfl (fun st' hst => Q_p rfl (S_buildSlice (e := 41) 1 rfl (AEvs.cons (.tmp rfl) (AEvs.cons (.tmp rfl) AEvs.nil)) rfl (by kernel_rfl) (by kernel_rfl) (by intro y hy; simp only [List.mem_cons, List.not_mem_nil, or_false] at hy; rcases hy with rfl | rfl <;> exact ⟨er_flat _ _ _, by rw [er_cells]; rfl⟩) (by decide) (by decide) (by decide))) ?_
 refine AG.f rfl rfl (fun st' hst => Q_p rfl (S_pcall rfl (AEvs.cons (.tmp rfl) AEvs.nil) (fail_First_ok (check2 s) (by simp)))) ?_
 refine AG.f rfl rfl (fun st' hst => Q_p rfl (S_assign rfl (.tmp rfl))) ?_
 refine AG.nil ?_
 refine AC_seq ?_
 refine AC_seq (AC_region ?_)
 refine mv rfl rfl rfl rfl ?_
 refine p_ (S_neqE (er_is 28 167 (firstE (check2 s))) rfl (.tmp rfl) (by kernel_rfl)) ?_
 refine AL_nil ?_
 refine AC_cond (.tmp rfl) (fun hb4 => ?_) (fun hb4 => ?_)
 ·try simp only [zA,zO,zN,zM,zP,zQ,zD,zF,gd] at hb4
  obtain ⟨x, hx⟩ : ∃ x, firstE (check2 s) = some x := by cases h : firstE (check2 s) with | none => rw [h] at hb4; simp at hb4 | some y => exact ⟨y, rfl⟩
  refine AC_seq (AC_region ?_)
  refine mv rfl rfl rfl rfl ?_
  refine as_ rfl rfl rfl rfl ?_
  refine AL_nil (AC_ret ?_)
  refine ret_tmp st rfl rfl (Sub.l (List.sublist_append_of_sublist_right (List.Sublist.cons _ (List.Sublist.refl _)))) (Conv.refl (Sub.l (List.sublist_append_of_sublist_right (List.Sublist.cons _ (List.Sublist.refl _)))) _) ⟨by rw [check_bad2 hn1 hx, hx], rfl⟩ (.inl rfl)
 try simp only [zA,zO,zN,zM,zP,zQ,zD,zF,gd] at hb4
 have hn2_ : firstE (check2 s) = none := by cases h : firstE (check2 s) with | none => rfl | some y => rw [h] at hb4; simp at hb4
 obtain ⟨rfl, rfl⟩ := hn2 (firstE_none hn2_ _ List.mem_cons_self)
 obtain ⟨hb1, hb2⟩ := check_seen hn1 h6
 refine AC_skip ?_
 refine AC_seq ?_
 refine AC_plan (σ := [(0, 0), (1, 0), (2, 0), (4, 0), (5, 0), (7, 0), (8, 0), (10, 0), (11, 0), (3, 1), (6, 0), (9, 0), (12, 0), (13, 0), (14, 0), (15, 0)]) (by kernel_rfl) ((b1, Ob.cells (spcL s)) :: Gs tabs) (by kernel_rfl) (fun r hr => List.mem_append_right _ (hB r hr)) ?_
 refine AG.f rfl rfl (fun st' hst => Q_p rfl (S_move rfl (.tmp rfl))) ?_
 refine AG.f rfl rfl (fun st' hst => Q_p rfl (S_field 3 rfl (.tmp rfl) (by kernel_rfl))) ?_
 refine AG.f rfl rfl (fun st' hst => Q_p rfl (S_loadM rfl (.tmp rfl) (hst _ (List.mem_of_getElem? (i := 0) rfl)) rfl (by kernel_rfl))) ?_
 refine AG.f rfl rfl (fun st' hst => Q_p rfl (S_field 4 rfl (.tmp rfl) (by kernel_rfl))) ?_
 refine AG.f rfl rfl (fun st' hst => Q_p rfl (S_loadM rfl (.tmp rfl) (hst _ (List.mem_of_getElem? (i := 0) rfl)) rfl (by kernel_rfl))) ?_
 refine AG.f rfl rfl (fun st' hst => Q_p rfl (S_field 5 rfl (.tmp rfl) (by kernel_rfl))) ?_
 refine AG.f rfl rfl (fun st' hst => Q_p rfl (S_loadM rfl (.tmp rfl) (hst _ (List.mem_of_getElem? (i := 0) rfl)) rfl (by kernel_rfl))) ?_
 refine AG.f rfl rfl (fun st' hst => Q_p rfl (S_field 6 rfl (.tmp rfl) (by kernel_rfl))) ?_
 refine AG.f rfl rfl (fun st' hst => Q_p rfl (S_loadM rfl (.tmp rfl) (hst _ (List.mem_of_getElem? (i := 0) rfl)) rfl (by kernel_rfl))) ?_
 refine AG.s rfl rfl rfl (S_call (K := fun x st' => ∃ foot', (∃ (p' q' : Own) (ns' : List (List UInt8)) (ps' : List Int), p'.ok (strsV ns') ∧ q'.ok (intsV ps') ∧ (ctrsE mainN (namesTo [] s.init s.init.length) (portsTo [] s.init s.init.length) s.main 3 1000 = none → ns' = namesTo (namesTo [] s.init s.init.length) s.main (s.main).length ∧ ps' = portsTo (portsTo [] s.init s.init.length) s.main (s.main).length) ∧ x = erV 28 167 (ctrsE mainN (namesTo [] s.init s.init.length) (portsTo [] s.init s.init.length) s.main 3 1000) ∧ foot' = seenSt 9 3 b3 p' q' ns' ps') ∧ st' = foot' ++ ((b1, Ob.cells (spcL s)) :: st)) rfl (AEvs.cons (.tmp rfl) (AEvs.cons (AEv.S _) (AEvs.cons (.tmp rfl) (AEvs.cons (AEv.const _) (AEvs.cons (AEv.const _) AEvs.nil))))) (seen_containers_ok b3 p2 q2 mainN (by decide) (namesTo [] s.init s.init.length) (portsTo [] s.init s.init.length) hp2 hq2 (by first | decide | omega) (by first | decide | omega) s.main (by omega) h7 3 1000 ((b1, Ob.cells (spcL s)) :: st) hG1)) ?_ ?_
 ·rintro _ _ ⟨_, ⟨p2, q2, n2, m2, hp2, hq2, hn2, rfl, rfl⟩, rfl⟩ r hr; exact List.mem_append_right _ (hB r hr)
 rintro _ _ ⟨_, ⟨p2, q2, n2, m2, hp2, hq2, hn2, rfl, rfl⟩, rfl⟩
 refine AG.f rfl rfl (fun st' hst => Q_p rfl (S_pcall rfl (AEvs.cons (AEv.S _) (AEvs.cons (.tmp rfl) (AEvs.cons (AEv.const _) (AEvs.cons (AEv.const _) AEvs.nil)))) (spec_within_ok [114, 101, 115, 116, 97, 114, 116] s.restart 1 3))) ?_
 refine AG.f rfl rfl (fun st' hst => Q_p rfl (S_pcall rfl (AEvs.cons (AEv.S _) (AEvs.cons (.tmp rfl) (AEvs.cons (AEv.const _) (AEvs.cons (AEv.const _) AEvs.nil)))) (spec_within_ok [103, 114, 97, 99, 101] s.grace 0 1000))) ?_
 refine AG.f rfl rfl (fun st' hst => Q_p rfl (S_pcall rfl (AEvs.cons (AEv.S _) (AEvs.cons (.tmp rfl) (AEvs.cons (AEv.const _) (AEvs.cons (AEv.const _) AEvs.nil)))) (spec_within_ok [112, 114, 105, 111] s.prio 0 10))) ?_
 refine AG.f rfl rfl (fun st' hst => Q_p rfl (S_buildSlice (e := 41) 1 rfl (AEvs.cons (.tmp rfl) (AEvs.cons (.tmp rfl) (AEvs.cons (.tmp rfl) (AEvs.cons (.tmp rfl) AEvs.nil)))) rfl (by kernel_rfl) (by kernel_rfl) (by intro y hy; simp only [List.mem_cons, List.not_mem_nil, or_false] at hy; rcases hy with rfl | rfl | rfl | rfl <;> exact ⟨er_flat _ _ _, by rw [er_cells]; rfl⟩) (by decide) (by decide) (by decide))) ?_
 refine AG.f rfl rfl (fun st' hst => Q_p rfl (S_pcall rfl (AEvs.cons (.tmp rfl) AEvs.nil) (fail_First_ok (check3 s) (by simp)))) ?_
 refine AG.f rfl rfl (fun st' hst => Q_p rfl (S_assign rfl (.tmp rfl))) ?_
 refine AG.nil ?_
 refine AC_ret ?_
 refine ret_tmp st rfl rfl (Sub.l (List.sublist_append_of_sublist_right (List.Sublist.cons _ (List.Sublist.refl _)))) (Conv.refl (Sub.l (List.sublist_append_of_sublist_right (List.Sublist.cons _ (List.Sublist.refl _)))) _) ⟨by rw [check_good hn1 hn2_], rfl⟩ (.inl rfl)
end Go.Proofs.YtfmiciodcimkeaaGreatDoor

set_option maxRecDepth 100000
namespace Go.Proofs.YtfmiciodcimkeaaGreatDoor
open Go.AL Go.NumSpec
theorem ref06_at_ok (name : List UInt8) (hn : name.length ≤ 1000000) (i : Int) (hi : fits i) : PCalls Tryz.prog 47 [.S name, .int .i64 i] (.S (atT name i)) := by
 intro st
 refine co 11 Tryz.func47 ?_
 have ht := textL_len hi
 refine AC_seq (AC_region ?_)
 refine p_ (S_assign rfl (AEv.S _)) ?_
 refine AL_nil (AC_seq (AC_region ?_))
 refine mv rfl rfl rfl rfl ?_
 refine p_ (S_cat rfl (.tmp rfl) (AEv.S _) (by first | omega | (simp only [List.length_append, List.length_cons, List.length_nil]; omega))) ?_
 refine mv rfl rfl rfl rfl ?_
 refine p_ (S_pcall rfl (AEvs.cons (.tmp rfl) AEvs.nil) (ref_Text_ok i hi)) ?_
 refine p_ (S_cat rfl (.tmp rfl) (.tmp rfl) (by first | omega | (simp only [List.length_append, List.length_cons, List.length_nil]; omega))) ?_
 refine p_ (S_cat rfl (.tmp rfl) (AEv.S _) (by first | omega | (simp only [List.length_append, List.length_cons, List.length_nil]; omega))) ?_
 refine as_ rfl rfl rfl rfl ?_
 refine AL_nil (AC_ret ?_)
 refine ret_tmp st rfl rfl (Sub.l (List.Sublist.refl _)) (Conv.refl (Sub.l (List.Sublist.refl _)) _) ⟨rfl, rfl⟩ (.inl rfl)
theorem ref06_Labels_ok (name : List UInt8) (hn : name.length ≤ 1000000) (l : List Lab) (hls : ∀ x ∈ l, x.1.length ≤ 9223372036854775807 ∧ x.2.length ≤ 9223372036854775807) : PCalls Tryz.prog 45 [.S name, .sl (labsV l)] (cpAV (labelsE name l)) := by
 intro st
 refine co 59 Tryz.func45 ?_
 refine AC_seq (AC_region ?_)
 refine ac rfl rfl rfl ?_
 refine p_ (S_assign rfl (AEv.S _)) ?_
 refine AL_nil ?_
 refine AC_seq ?_
 refine AC_seq (AC_region ?_)
 refine mv rfl rfl rfl rfl ?_
 refine p_ (by first | exact S_lenM (e := 71) rfl (.tmp rfl) (by kernel_rfl) | exact S_len (e := 71) rfl (.tmp rfl) (by kernel_rfl)) ?_
 refine p_ (S_gtr rfl (.tmp rfl) (AEv.const _)) ?_
 refine AL_nil ?_
 refine AC_cond (.tmp rfl) (fun hb1 => ?_) (fun hb1 => ?_)
 ·try simp only [zA,zO,zN,zM,zP,zQ,zD,zF,gd] at hb1
  have hbad : (labelsE name l) = some (2, [name]) := by rw [labelsE_bad (by unfold atMostE; rw [if_pos (by omega)]; simp)]; unfold atMostE; rw [if_pos (by omega)]
  refine AC_seq (AC_region ?_)
  refine mv rfl rfl rfl rfl ?_
  refine ac rfl rfl rfl ?_
  refine as_ rfl rfl rfl rfl ?_
  refine AL_nil (AC_ret ?_)
  refine ret_tmps (ts := [4, 5]) st rfl (by decide) rfl (Sub.l (List.Sublist.refl _)) (Conv.refl (Sub.l (List.Sublist.refl _)) _) ⟨cp_some hbad (Lib.join_one _ _).symm, rfl⟩ (.inl rfl)
 try simp only [zA,zO,zN,zM,zP,zQ,zD,zF,gd] at hb1
 have hgood : (labelsE name l) = eachE l.length (labelE name l) := labelsE_good (by unfold atMostE; rw [if_neg (by omega)])
 refine AC_skip ?_
 refine AC_seq ?_
 refine AC_seq (AC_region ?_)
 refine ac rfl rfl rfl ?_
 refine AL_nil ?_
 refine AC_block ?_
 refine AC_loopK (G := Nat) [(0, _), (1, _)] (fun g => g ≤ l.length ∧ ∀ j, j < g → labelE name l j = none) (fun g => [(6, .int .i64 (g : Int))]) (fun g => st) (fun g => l.length - g) (0) (⟨Nat.zero_le _, fun j h => absurd h (Nat.not_lt_zero _)⟩) (Sub.l (List.Sublist.refl _)) (.cons rfl (Le.refl _) (.cons rfl (Le.refl _) .nil)) (.cons rfl (by first | exact Le.refl _ | exact Le.nils | exact Le.row _ _ _ _ | exact Le.of_eq (by first | rfl | (simp; done) | (push_cast; rfl) | (simp; omega))) .nil) ?_
 rintro i ⟨hi, hall⟩
 try dsimp only
 simp only [List.cons_append, List.nil_append]
 refine AC_seq ?_
 refine AC_seq (AC_region ?_)
 refine mv rfl rfl rfl rfl ?_
 refine mv rfl rfl rfl rfl ?_
 refine p_ (by first | exact S_lenM (e := 71) rfl (.tmp rfl) (by kernel_rfl) | exact S_len (e := 71) rfl (.tmp rfl) (by kernel_rfl)) ?_
 refine p_ (S_lss rfl (.tmp rfl) (.tmp rfl)) ?_
 refine AL_nil ?_
 refine AC_cond (.tmp rfl) (fun hb2 => ?_) (fun hb2 => ?_)
 ·try simp only [zA,zO,zN,zM,zP,zQ,zD,zF,gd] at hb2
  have hil : i < l.length := by omega
  have him : i - 1 < l.length := by omega
  have hif : fits (i : Int) := by unfold fits; omega
  have hm := hls _ (List.getElem_mem hil)
  have hatl : (atT name (i : Int)).length ≤ 1000100 := atT_len hn hif
  refine AC_skip ?_
  refine AC_seq ?_
  refine AC_block ?_
  refine AC_seq ?_
  refine AC_seq (AC_region ?_)
  refine mv rfl rfl rfl rfl ?_
  refine mv rfl rfl rfl rfl ?_
  refine p_ (S_elemN (e := 71) 2 rfl (.tmp rfl) (.tmp rfl) (by kernel_rfl) (by kernel_rfl) (by omega) (fun _ => rfl)) ?_
  refine p_ (S_fieldP 0 rfl (.tmp rfl) (by kernel_rfl)) ?_
  refine p_ (S_loadP rfl (.tmp rfl) rfl (by kernel_rfl)) ?_
  refine p_ (S_pcall rfl (AEvs.cons (.tmp rfl) AEvs.nil) (ref03_Key_ok (l[i]'hil).1 (by omega))) ?_
  refine p_ (S_not rfl (.tmp rfl)) ?_
  refine AL_nil ?_
  refine AC_cond (.tmp rfl) (fun hb3 => ?_) (fun hb3 => ?_)
  ·try simp only [zA,zO,zN,zM,zP,zQ,zD,zF,gd] at hb3
   have hx : (labelsE name l) = some (31, [atT name (i : Int), [107, 101, 121]]) := by rw [hgood, eachE_at hil (label_key hil hb3) hall]
   refine AC_seq (AC_region ?_)
   refine mv rfl rfl rfl rfl ?_
   refine mv rfl rfl rfl rfl ?_
   refine p_ (S_pcall rfl (AEvs.cons (.tmp rfl) (AEvs.cons (.tmp rfl) AEvs.nil)) (ref06_at_ok name hn (i : Int) hif)) ?_
   refine p_ (S_cat rfl (.tmp rfl) (AEv.S _) (by first | omega | (simp only [List.length_append, List.length_cons, List.length_nil]; omega))) ?_
   refine ac rfl rfl rfl ?_
   refine as_ rfl rfl rfl rfl ?_
   refine AL_nil (AC_ret ?_)
   refine ret_tmps (ts := [4, 5]) st rfl (by decide) rfl (Sub.l (List.Sublist.refl _)) (Conv.refl (Sub.l (List.Sublist.refl _)) _) ⟨cp_some hx (by rw [join_two, List.append_assoc]; rfl), rfl⟩ (.inl rfl)
  try simp only [zA,zO,zN,zM,zP,zQ,zD,zF,gd] at hb3
  have hk1 : namesR 2 (l[i]'hil).1 = true := hb3
  refine AC_skip ?_
  refine AC_seq ?_
  refine AC_seq ?_
  refine AC_draw (by kernel_rfl) (by kernel_rfl) (.cons rfl (Q_p rfl (S_move rfl (.tmp rfl))) <|
    .cons rfl (Q_p rfl (S_gtr rfl (.tmp rfl) (AEv.const _))) <|
    .cons rfl (Q_p rfl (S_move rfl (.tmp rfl))) <|
    .cons rfl (Q_g rfl rfl (.tmp rfl) (fun hg4 => S_move rfl (.tmp rfl))) <|
    .cons rfl (Q_g rfl rfl (.tmp rfl) (fun hg7 => S_move rfl (.tmp rfl))) <|
    .cons rfl (Q_g rfl rfl (.tmp rfl) (fun hg10 => S_subI rfl (AEv.cd (.tmp rfl)) (AEv.const _) (by (try simp only [gd, Bool.and_eq_true, Bool.or_eq_true, Bool.not_eq_true', Bool.not_eq_false', decide_eq_true_eq, decide_eq_false_iff_not, Bool.or_eq_false_iff, Bool.and_eq_false_iff] at *); omega) (by (try simp only [gd, Bool.and_eq_true, Bool.or_eq_true, Bool.not_eq_true', Bool.not_eq_false', decide_eq_true_eq, decide_eq_false_iff_not, Bool.or_eq_false_iff, Bool.and_eq_false_iff] at *); omega))) <|
    .cons rfl (Q_g rfl rfl (.tmp rfl) (fun hg13 => S_elemN (e := 71) (i := i - 1) (f := labAV) (l := l) 2 rfl (AEv.cd (.tmp rfl)) ((AEv.cd (.tmp rfl)).le (Le.of_eq (congrArg (AV.int _) (by (try simp only [gd, Bool.and_eq_true, Bool.or_eq_true, Bool.not_eq_true', Bool.not_eq_false', decide_eq_true_eq, decide_eq_false_iff_not, Bool.or_eq_false_iff, Bool.and_eq_false_iff] at *); omega)))) (by kernel_rfl) (by kernel_rfl) him (fun _ => rfl))) <|
    .cons rfl (Q_g rfl rfl (.tmp rfl) (fun hg16 => S_fieldP 0 rfl (AEv.cd (.tmp rfl)) (by kernel_rfl))) <|
    .cons rfl (Q_g rfl rfl (.tmp rfl) (fun hg19 => S_loadP rfl (AEv.cd (.tmp rfl)) rfl (by kernel_rfl))) <|
    .cons rfl (Q_g rfl rfl (.tmp rfl) (fun hg22 => S_move rfl (.tmp rfl))) <|
    .cons rfl (Q_g rfl rfl (.tmp rfl) (fun hg25 => S_move rfl (.tmp rfl))) <|
    .cons rfl (Q_g rfl rfl (.tmp rfl) (fun hg28 => S_elemN (e := 71) (f := labAV) (l := l) 2 rfl (AEv.cd (.tmp rfl)) (AEv.cd (.tmp rfl)) (by kernel_rfl) (by kernel_rfl) hil (fun _ => rfl))) <|
    .cons rfl (Q_g rfl rfl (.tmp rfl) (fun hg31 => S_fieldP 0 rfl (AEv.cd (.tmp rfl)) (by kernel_rfl))) <|
    .cons rfl (Q_g rfl rfl (.tmp rfl) (fun hg34 => S_loadP rfl (AEv.cd (.tmp rfl)) rfl (by kernel_rfl))) <|
    .cons rfl (Q_g rfl rfl (.tmp rfl) (fun hg37 => S_geS rfl (AEv.cd (.tmp rfl)) (AEv.cd (.tmp rfl)))) <|
    .cons rfl (Q_p rfl (S_and rfl (.tmp rfl) (fun hp40 => (AEv.cd (.tmp rfl))))) <|
    .nil) ?_
  refine AC_cond (.tmp rfl) (fun hb41 => ?_) (fun hb41 => ?_)
  ·try simp only [zA,zO,zN,zM,zP,zQ,zD,zF,gd] at hb41
   have hx : (labelsE name l) = some (4, [atT name (i : Int), [107, 101, 121]]) := by rw [hgood, eachE_at hil (label_order hil hk1 (by omega) (by simpa using hb41.2)) hall]
   refine AC_seq (AC_region ?_)
   refine mv rfl rfl rfl rfl ?_
   refine mv rfl rfl rfl rfl ?_
   refine p_ (S_pcall rfl (AEvs.cons (.tmp rfl) (AEvs.cons (.tmp rfl) AEvs.nil)) (ref06_at_ok name hn (i : Int) hif)) ?_
   refine p_ (S_cat rfl (.tmp rfl) (AEv.S _) (by first | omega | (simp only [List.length_append, List.length_cons, List.length_nil]; omega))) ?_
   refine ac rfl rfl rfl ?_
   refine as_ rfl rfl rfl rfl ?_
   refine AL_nil (AC_ret ?_)
   refine ret_tmps (ts := [4, 5]) st rfl (by decide) rfl (Sub.l (List.Sublist.refl _)) (Conv.refl (Sub.l (List.Sublist.refl _)) _) ⟨cp_some hx (by rw [join_two, List.append_assoc]; rfl), rfl⟩ (.inl rfl)
  try simp only [zA,zO,zN,zM,zP,zQ,zD,zF,gd] at hb41
  have hk2 : ∀ h : 0 < i, Op.bytesLess (l[i - 1]'(by omega)).1 (l[i]'hil).1 = true := fun h => by
   rcases hb41 with h' | h'
   ·omega
   ·simpa using h'
  refine AC_skip ?_
  refine AC_seq (AC_region ?_)
  refine mv rfl rfl rfl rfl ?_
  refine mv rfl rfl rfl rfl ?_
  refine p_ (S_elemN (e := 71) 2 rfl (.tmp rfl) (.tmp rfl) (by kernel_rfl) (by kernel_rfl) (by omega) (fun _ => rfl)) ?_
  refine p_ (S_fieldP 1 rfl (.tmp rfl) (by kernel_rfl)) ?_
  refine p_ (S_loadP rfl (.tmp rfl) rfl (by kernel_rfl)) ?_
  refine p_ (S_pcall rfl (AEvs.cons (.tmp rfl) AEvs.nil) (ref03_Val_ok (l[i]'hil).2 (by omega))) ?_
  refine p_ (S_not rfl (.tmp rfl)) ?_
  refine AL_nil ?_
  refine AC_cond (.tmp rfl) (fun hb42 => ?_) (fun hb42 => ?_)
  ·try simp only [zA,zO,zN,zM,zP,zQ,zD,zF,gd] at hb42
   have hx : (labelsE name l) = some (32, [atT name (i : Int), [118, 97, 108]]) := by rw [hgood, eachE_at hil (label_val hil hk1 hk2 hb42) hall]
   refine AC_seq (AC_region ?_)
   refine mv rfl rfl rfl rfl ?_
   refine mv rfl rfl rfl rfl ?_
   refine p_ (S_pcall rfl (AEvs.cons (.tmp rfl) (AEvs.cons (.tmp rfl) AEvs.nil)) (ref06_at_ok name hn (i : Int) hif)) ?_
   refine p_ (S_cat rfl (.tmp rfl) (AEv.S _) (by first | omega | (simp only [List.length_append, List.length_cons, List.length_nil]; omega))) ?_
   refine ac rfl rfl rfl ?_
   refine as_ rfl rfl rfl rfl ?_
   refine AL_nil (AC_ret ?_)
   refine ret_tmps (ts := [4, 5]) st rfl (by decide) rfl (Sub.l (List.Sublist.refl _)) (Conv.refl (Sub.l (List.Sublist.refl _)) _) ⟨cp_some hx (by rw [join_two, List.append_assoc]; rfl), rfl⟩ (.inl rfl)
  try simp only [zA,zO,zN,zM,zP,zQ,zD,zF,gd] at hb42
  have hk3 : valV (l[i]'hil).2 = true := hb42
  refine AC_skip ?_
  refine AC_region ?_
  refine mv rfl rfl rfl rfl ?_
  refine p_ (S_addI rfl (.tmp rfl) (AEv.const _) (by omega) (by omega)) ?_
  refine as_ rfl rfl rfl rfl ?_
  refine AL_nil ?_
  refine ⟨i + 1, ⟨by omega, fun j h => ?_⟩, by omega, (Sub.l (List.Sublist.refl _)), (.cons rfl (by first | exact Le.refl _ | exact Le.nils | exact Le.row _ _ _ _ | exact Le.of_eq (by first | rfl | (simp; done) | (push_cast; rfl) | (simp; omega))) .nil), (.cons rfl (Le.refl _) (.cons rfl (Le.refl _) .nil))⟩
  rcases Nat.lt_or_ge j i with h' | h'
  ·exact hall j h'
  ·have : j = i := by omega
   subst this
   exact label_ok hil hk1 hk2 hk3
 try simp only [zA,zO,zN,zM,zP,zQ,zD,zF,gd] at hb2
 have hend : (labelsE name l) = none := by rw [hgood, eachE_all fun j hj => hall j (by omega)]
 refine AC_exit ?_
 refine AC_seq (AC_region ?_)
 refine ac rfl rfl rfl ?_
 refine p_ (S_assign rfl (AEv.S _)) ?_
 refine AL_nil (AC_ret ?_)
 refine ret_tmps (ts := [4, 5]) st rfl (by decide) rfl (Sub.l (List.Sublist.refl _)) (Conv.refl (Sub.l (List.Sublist.refl _)) _) ⟨cp_none hend, rfl⟩ (.inl rfl)
theorem ref06_three_ok (r : Tri) : PCalls Tryz.prog 85 [resAV r] (resAV r) := by
 intro st
 refine co 10 Tryz.func85 ?_
 refine AC_seq (AC_region ?_)
 refine s_ (S_box rfl (.tmp rfl)) ?_
 rintro _ _ ⟨b1, rfl, rfl⟩
 refine s_ (S_alloc [.int .i64 0, .int .i64 0, .int .i64 0] rfl (by kernel_rfl)) ?_
 rintro _ _ ⟨b2, rfl, rfl⟩
 refine AL_nil (AC_seq (AC_region ?_))
 refine fl 0 ?_
 refine ld 1 ?_
 refine fl 1 ?_
 refine ld 1 ?_
 refine fl 2 ?_
 refine ld 1 ?_
 refine p_ (S_build (t := 144) (pl := [(0, 1), (1, 1), (2, 1)]) (zs := [.int .i64 0, .int .i64 0, .int .i64 0]) rfl (AEvs.cons (.tmp rfl) (AEvs.cons (.tmp rfl) (AEvs.cons (.tmp rfl) AEvs.nil))) (by kernel_rfl) rfl) ?_
 refine stW 0 ?_
 refine AL_nil (AC_ret ?_)
 refine ret_cell 0 st rfl rfl rfl (by kernel_rfl) (Sub.l (List.Sublist.cons _ (List.Sublist.cons _ (List.Sublist.refl _)))) (Conv.refl (Sub.l (List.Sublist.cons _ (List.Sublist.cons _ (List.Sublist.refl _)))) _) ⟨rfl, rfl⟩ (.inl rfl)
theorem ref06_numbers_ok (n lo : Tri) (free : Bool) : PCalls Tryz.prog 84 [resAV n, resAV lo, .bool free] (.int .i64 (numsI n lo free)) := by
 intro st
 refine co 36 Tryz.func84 ?_
 refine AC_seq (AC_region ?_)
 refine s_ (S_box rfl (.tmp rfl)) ?_
 rintro _ _ ⟨b3, rfl, rfl⟩
 refine s_ (S_box rfl (.tmp rfl)) ?_
 rintro _ _ ⟨b4, rfl, rfl⟩
 refine ac rfl rfl rfl ?_
 refine AL_nil ?_
 refine AC_seq ?_
 refine AC_seq (AC_region ?_)
 refine ac rfl rfl rfl ?_
 refine AL_nil ?_
 refine AC_block ?_
 refine AC_loopK (G := Nat) [(2, _), (3, _), (4, _)] (fun k => k ≤ 3 ∧ ∀ j, j < k → badN (at3 n j) (at3 lo j) free = false) (fun g => [(7, .int .i64 (g : Int))]) (fun g => (b4, .cells (resL lo)) :: (b3, .cells (resL n)) :: st) (fun g => 3 - g) (0) (⟨by omega, fun j h => absurd h (Nat.not_lt_zero _)⟩) (Sub.l (List.Sublist.refl _)) (.cons rfl (Le.refl _) (.cons rfl (Le.refl _) (.cons rfl (Le.refl _) .nil))) (.cons rfl (by first | exact Le.refl _ | exact Le.nils | exact Le.row _ _ _ _ | exact Le.of_eq (by first | rfl | (simp; done) | (push_cast; rfl) | (simp; omega))) .nil) ?_
 rintro k ⟨hk, hall⟩
 try dsimp only
 simp only [List.cons_append, List.nil_append]
 refine AC_seq ?_
 refine AC_seq (AC_region ?_)
 refine mv rfl rfl rfl rfl ?_
 refine p_ (S_lss rfl (.tmp rfl) (AEv.const _)) ?_
 refine AL_nil ?_
 refine AC_cond (.tmp rfl) (fun hb3 => ?_) (fun hb3 => ?_)
 ·try simp only [zA,zO,zN,zM,zP,zQ,zD,zF,gd] at hb3
  have hk3 : k < 3 := by omega
  refine AC_skip ?_
  refine AC_seq ?_
  refine AC_block ?_
  refine AC_seq ?_
  refine AC_draw (by kernel_rfl) (by kernel_rfl) (.cons rfl (Q_p rfl (S_move rfl (.tmp rfl))) <|
    .cons rfl (Q_p rfl (S_not rfl (.tmp rfl))) <|
    .cons rfl (Q_p rfl (S_move rfl (.tmp rfl))) <|
    .cons rfl (Q_g rfl rfl (.tmp rfl) (fun hg4 => S_move rfl (.tmp rfl))) <|
    .cons rfl (Q_g rfl rfl (.tmp rfl) (fun hg7 => S_elemA (e := 3) (len := 3) 1 rfl (.tmp rfl) (AEv.cd (.tmp rfl)) (by kernel_rfl) (by kernel_rfl) (by (try simp only [gd, Bool.and_eq_true, Bool.or_eq_true, Bool.not_eq_true', Bool.not_eq_false', decide_eq_true_eq, decide_eq_false_iff_not, Bool.or_eq_false_iff, Bool.and_eq_false_iff] at *); omega) (by (try simp only [gd, Bool.and_eq_true, Bool.or_eq_true, Bool.not_eq_true', Bool.not_eq_false', decide_eq_true_eq, decide_eq_false_iff_not, Bool.or_eq_false_iff, Bool.and_eq_false_iff] at *); omega))) <|
    .cons rfl (Q_g rfl rfl (.tmp rfl) (fun hg10 => S_load 1 rfl (AEv.cd (.tmp rfl)) rfl (c := .int .i64 (at3 n k)) (by rw [res_at (by assumption)]) (by kernel_rfl))) <|
    .cons rfl (Q_g rfl rfl (.tmp rfl) (fun hg13 => S_neq rfl (AEv.cd (.tmp rfl)) (AEv.const _))) <|
    .cons rfl (Q_p rfl (S_or rfl (.tmp rfl) (fun hp16 => (AEv.cd (.tmp rfl))))) <|
    .cons rfl (Q_p rfl (S_move rfl (.tmp rfl))) <|
    .cons rfl (Q_g rfl rfl (.tmp rfl) (fun hg17 => S_move rfl (.tmp rfl))) <|
    .cons rfl (Q_g rfl rfl (.tmp rfl) (fun hg20 => S_elemA (e := 3) (len := 3) 1 rfl (.tmp rfl) (AEv.cd (.tmp rfl)) (by kernel_rfl) (by kernel_rfl) (by (try simp only [gd, Bool.and_eq_true, Bool.or_eq_true, Bool.not_eq_true', Bool.not_eq_false', decide_eq_true_eq, decide_eq_false_iff_not, Bool.or_eq_false_iff, Bool.and_eq_false_iff] at *); omega) (by (try simp only [gd, Bool.and_eq_true, Bool.or_eq_true, Bool.not_eq_true', Bool.not_eq_false', decide_eq_true_eq, decide_eq_false_iff_not, Bool.or_eq_false_iff, Bool.and_eq_false_iff] at *); omega))) <|
    .cons rfl (Q_g rfl rfl (.tmp rfl) (fun hg23 => S_load 1 rfl (AEv.cd (.tmp rfl)) rfl (c := .int .i64 (at3 n k)) (by rw [res_at (by assumption)]) (by kernel_rfl))) <|
    .cons rfl (Q_g rfl rfl (.tmp rfl) (fun hg26 => S_move rfl (.tmp rfl))) <|
    .cons rfl (Q_g rfl rfl (.tmp rfl) (fun hg29 => S_elemA (e := 3) (len := 3) 1 rfl (.tmp rfl) (AEv.cd (.tmp rfl)) (by kernel_rfl) (by kernel_rfl) (by (try simp only [gd, Bool.and_eq_true, Bool.or_eq_true, Bool.not_eq_true', Bool.not_eq_false', decide_eq_true_eq, decide_eq_false_iff_not, Bool.or_eq_false_iff, Bool.and_eq_false_iff] at *); omega) (by (try simp only [gd, Bool.and_eq_true, Bool.or_eq_true, Bool.not_eq_true', Bool.not_eq_false', decide_eq_true_eq, decide_eq_false_iff_not, Bool.or_eq_false_iff, Bool.and_eq_false_iff] at *); omega))) <|
    .cons rfl (Q_g rfl rfl (.tmp rfl) (fun hg32 => S_load 0 rfl (AEv.cd (.tmp rfl)) rfl (c := .int .i64 (at3 lo k)) (by rw [res_at (by assumption)]) (by kernel_rfl))) <|
    .cons rfl (Q_g rfl rfl (.tmp rfl) (fun hg35 => S_lss rfl (AEv.cd (.tmp rfl)) (AEv.cd (.tmp rfl)))) <|
    .cons rfl (Q_g rfl rfl (.tmp rfl) (fun hg38 => S_move rfl (AEv.cd (.tmp rfl)))) <|
    .cons rfl (Q_gg rfl rfl (.tmp rfl) (fun hg41 hg42 hg43 => S_move rfl (.tmp rfl))) <|
    .cons rfl (Q_gg rfl rfl (.tmp rfl) (fun hg44 hg45 hg46 => S_elemA (e := 3) (len := 3) 1 rfl (.tmp rfl) (AEv.cd (.tmp rfl)) (by kernel_rfl) (by kernel_rfl) (by (try simp only [gd, Bool.and_eq_true, Bool.or_eq_true, Bool.not_eq_true', Bool.not_eq_false', decide_eq_true_eq, decide_eq_false_iff_not, Bool.or_eq_false_iff, Bool.and_eq_false_iff] at *); omega) (by (try simp only [gd, Bool.and_eq_true, Bool.or_eq_true, Bool.not_eq_true', Bool.not_eq_false', decide_eq_true_eq, decide_eq_false_iff_not, Bool.or_eq_false_iff, Bool.and_eq_false_iff] at *); omega))) <|
    .cons rfl (Q_gg rfl rfl (.tmp rfl) (fun hg47 hg48 hg49 => S_load 1 rfl (AEv.cd (.tmp rfl)) rfl (c := .int .i64 (at3 n k)) (by rw [res_at (by assumption)]) (by kernel_rfl))) <|
    .cons rfl (Q_gg rfl rfl (.tmp rfl) (fun hg50 hg51 hg52 => S_gtr rfl (AEv.cd (.tmp rfl)) (AEv.const _))) <|
    .cons rfl (Q_g rfl rfl (.tmp rfl) (fun hg53 => S_or rfl (AEv.cd (.tmp rfl)) (fun hp56 => (AEv.cd (.tmp rfl))))) <|
    .cons rfl (Q_p rfl (S_and rfl (.tmp rfl) (fun hp57 => (AEv.cd (.tmp rfl))))) <|
    .nil) ?_
  refine AC_cond (.tmp rfl) (fun hb58 => ?_) (fun hb58 => ?_)
  ·try simp only [zA,zO,zN,zM,zP,zQ,zD,zF,gd] at hb58
   have hbn : badN (at3 n k) (at3 lo k) free = true := by
    unfold badN
    simp only [Bool.and_eq_true, Bool.or_eq_true, Bool.not_eq_true', decide_eq_true_eq, decide_eq_false_iff_not] at hb58 ⊢
    exact hb58
   refine AC_seq (AC_region ?_)
   refine mv rfl rfl rfl rfl ?_
   refine as_ rfl rfl rfl rfl ?_
   refine AL_nil (AC_ret ?_)
   refine ret_tmp st rfl rfl (Sub.l (List.Sublist.cons _ (List.Sublist.cons _ (List.Sublist.refl _)))) (Conv.refl (Sub.l (List.Sublist.cons _ (List.Sublist.cons _ (List.Sublist.refl _)))) _) ⟨by rw [nums_at hk3 hbn hall], rfl⟩ (.inl rfl)
  try simp only [zA,zO,zN,zM,zP,zQ,zD,zF,gd] at hb58
  have hbn : badN (at3 n k) (at3 lo k) free = false := by
   unfold badN
   simp only [Bool.and_eq_false_iff, Bool.or_eq_false_iff, Bool.not_eq_false', decide_eq_true_eq, decide_eq_false_iff_not] at hb58 ⊢
   exact hb58
  refine AC_skip ?_
  refine AC_region ?_
  refine mv rfl rfl rfl rfl ?_
  refine p_ (S_addI rfl (.tmp rfl) (AEv.const _) (by omega) (by omega)) ?_
  refine as_ rfl rfl rfl rfl ?_
  refine AL_nil ?_
  refine ⟨k + 1, ⟨by omega, fun j h => ?_⟩, by omega, (Sub.l (List.Sublist.refl _)), (.cons rfl (by first | exact Le.refl _ | exact Le.nils | exact Le.row _ _ _ _ | exact Le.of_eq (by first | rfl | (simp; done) | (push_cast; rfl) | (simp; omega))) .nil), (.cons rfl (Le.refl _) (.cons rfl (Le.refl _) (.cons rfl (Le.refl _) .nil)))⟩
  rcases Nat.lt_or_ge j k with h' | h'
  ·exact hall j h'
  ·have : j = k := by omega
   subst this
   exact hbn
 try simp only [zA,zO,zN,zM,zP,zQ,zD,zF,gd] at hb3
 have hk3 : ¬ k < 3 := by omega
 refine AC_exit ?_
 refine AC_seq (AC_region ?_)
 refine ac rfl rfl rfl ?_
 refine AL_nil (AC_ret ?_)
 refine ret_tmp st rfl rfl (Sub.l (List.Sublist.cons _ (List.Sublist.cons _ (List.Sublist.refl _)))) (Conv.refl (Sub.l (List.Sublist.cons _ (List.Sublist.cons _ (List.Sublist.refl _)))) _) ⟨by rw [nums_none fun j hj => hall j (by omega)], rfl⟩ (.inl rfl)
theorem ref06_Has_ok (l : List Ctr) (n : Int) (hl : l.length ≤ 1000000) (hp : ∀ c ∈ l, c.ports.length ≤ 1000000) : PCalls Tryz.prog 86 [.sl (ctrsV l), .int .i64 n] (.bool (decide (n ∈ l.flatMap Ctr.ports))) := by
 intro st
 refine co 33 Tryz.func86 ?_
 refine AC_seq (AC_region ?_)
 refine ac rfl rfl rfl ?_
 refine AL_nil ?_
 refine AC_seq ?_
 refine AC_seq (AC_region ?_)
 refine ac rfl rfl rfl ?_
 refine AL_nil ?_
 refine AC_block ?_
 refine AC_loopK (G := Nat) [(0, _), (1, _)] (fun g => g ≤ l.length ∧ n ∉ (l.take g).flatMap Ctr.ports) (fun g => [(5, .int .i64 (g : Int))]) (fun g => st) (fun g => l.length - g) (0) (⟨Nat.zero_le _, by simp⟩) (Sub.l (List.Sublist.refl _)) (.cons rfl (Le.refl _) (.cons rfl (Le.refl _) .nil)) (.cons rfl (by first | exact Le.refl _ | exact Le.nils | exact Le.row _ _ _ _ | exact Le.of_eq (by first | rfl | (simp; done) | (push_cast; rfl) | (simp; omega))) .nil) ?_
 rintro i ⟨hi, hno⟩
 try dsimp only
 simp only [List.cons_append, List.nil_append]
 refine AC_seq ?_
 refine AC_seq (AC_region ?_)
 refine mv rfl rfl rfl rfl ?_
 refine mv rfl rfl rfl rfl ?_
 refine p_ (by first | exact S_lenM (e := 79) rfl (.tmp rfl) (by kernel_rfl) | exact S_len (e := 79) rfl (.tmp rfl) (by kernel_rfl)) ?_
 refine p_ (S_lss rfl (.tmp rfl) (.tmp rfl)) ?_
 refine AL_nil ?_
 refine AC_cond (.tmp rfl) (fun hb1 => ?_) (fun hb1 => ?_)
 ·try simp only [zA,zO,zN,zM,zP,zQ,zD,zF,gd] at hb1
  have hil : i < l.length := by omega
  have hpl := hp _ (List.getElem_mem hil)
  refine AC_skip ?_
  refine AC_seq ?_
  refine AC_block ?_
  refine AC_seq (AC_region ?_)
  refine ac rfl rfl rfl ?_
  refine AL_nil ?_
  refine AC_block ?_
  refine AC_loopK (G := Nat) [(0, _), (1, _), (5, _)] (fun g => g ≤ (l[i]'hil).ports.length ∧ n ∉ (l[i]'hil).ports.take g) (fun g => [(6, .int .i64 (g : Int))]) (fun g => st) (fun g => (l[i]'hil).ports.length - g) (0) (⟨Nat.zero_le _, by simp⟩) (Sub.l (List.Sublist.refl _)) (.cons rfl (Le.refl _) (.cons rfl (Le.refl _) (.cons rfl (Le.refl _) .nil))) (.cons rfl (by first | exact Le.refl _ | exact Le.nils | exact Le.row _ _ _ _ | exact Le.of_eq (by first | rfl | (simp; done) | (push_cast; rfl) | (simp; omega))) .nil) ?_
  rintro k ⟨hk, hnk⟩
  try dsimp only
  simp only [List.cons_append, List.nil_append]
  refine AC_seq ?_
  refine AC_seq (AC_region ?_)
  refine mv rfl rfl rfl rfl ?_
  refine mv rfl rfl rfl rfl ?_
  refine mv rfl rfl rfl rfl ?_
  refine p_ (S_elemN (e := 79) 11 rfl (.tmp rfl) (.tmp rfl) (by kernel_rfl) (by kernel_rfl) (by omega) (fun _ => rfl)) ?_
  refine p_ (S_fieldP 8 rfl (.tmp rfl) (by kernel_rfl)) ?_
  refine p_ (S_loadP rfl (.tmp rfl) rfl (by kernel_rfl)) ?_
  refine p_ (by first | exact S_lenM (e := 3) rfl (.tmp rfl) (by kernel_rfl) | exact S_len (e := 3) rfl (.tmp rfl) (by kernel_rfl)) ?_
  refine p_ (S_lss rfl (.tmp rfl) (.tmp rfl)) ?_
  refine AL_nil ?_
  refine AC_cond (.tmp rfl) (fun hb2 => ?_) (fun hb2 => ?_)
  ·try simp only [zA,zO,zN,zM,zP,zQ,zD,zF,gd] at hb2
   have hkl : k < (l[i]'hil).ports.length := by omega
   refine AC_skip ?_
   refine AC_seq ?_
   refine AC_block ?_
   refine AC_seq (AC_region ?_)
   refine mv rfl rfl rfl rfl ?_
   refine mv rfl rfl rfl rfl ?_
   refine p_ (S_elemN (e := 79) 11 rfl (.tmp rfl) (.tmp rfl) (by kernel_rfl) (by kernel_rfl) (by omega) (fun _ => rfl)) ?_
   refine p_ (S_fieldP 8 rfl (.tmp rfl) (by kernel_rfl)) ?_
   refine p_ (S_loadP rfl (.tmp rfl) rfl (by kernel_rfl)) ?_
   refine mv rfl rfl rfl rfl ?_
   refine p_ (S_elemN (e := 3) 1 rfl (.tmp rfl) (.tmp rfl) (by kernel_rfl) (by kernel_rfl) (by omega) (fun _ => rfl)) ?_
   refine p_ (S_loadP rfl (.tmp rfl) rfl (by kernel_rfl)) ?_
   refine mv rfl rfl rfl rfl ?_
   refine p_ (S_eql rfl (.tmp rfl) (.tmp rfl)) ?_
   refine AL_nil ?_
   refine AC_cond (.tmp rfl) (fun hb3 => ?_) (fun hb3 => ?_)
   ·try simp only [zA,zO,zN,zM,zP,zQ,zD,zF,gd] at hb3
    have hin : n ∈ l.flatMap Ctr.ports := List.mem_flatMap.2 ⟨_, List.getElem_mem hil, by have := hb3; rw [← this]; exact List.getElem_mem hkl⟩
    refine AC_seq (AC_region ?_)
    refine ac rfl rfl rfl ?_
    refine AL_nil (AC_ret ?_)
    refine ret_tmp st rfl rfl (Sub.l (List.Sublist.refl _)) (Conv.refl (Sub.l (List.Sublist.refl _)) _) ⟨by rw [decide_eq_true hin], rfl⟩ (.inl rfl)
   try simp only [zA,zO,zN,zM,zP,zQ,zD,zF,gd] at hb3
   have hne : ((l[i]'hil).ports[k]'hkl) ≠ n := hb3
   refine AC_skip ?_
   refine AC_region ?_
   refine mv rfl rfl rfl rfl ?_
   refine p_ (S_addI rfl (.tmp rfl) (AEv.const _) (by omega) (by omega)) ?_
   refine as_ rfl rfl rfl rfl ?_
   refine AL_nil ?_
   exact ⟨k + 1, ⟨by omega, by rw [← take_snoc hkl]; exact fun h => (List.mem_append.1 h).elim hnk fun h => hne (by simpa using (List.mem_singleton.1 h).symm)⟩, by omega, (Sub.l (List.Sublist.refl _)), (.cons rfl (by first | exact Le.refl _ | exact Le.nils | exact Le.row _ _ _ _ | exact Le.of_eq (by first | rfl | (simp; done) | (push_cast; rfl) | (simp; omega))) .nil), (.cons rfl (Le.refl _) (.cons rfl (Le.refl _) (.cons rfl (Le.refl _) .nil)))⟩
  try simp only [zA,zO,zN,zM,zP,zQ,zD,zF,gd] at hb2
  have hend : n ∉ (l[i]'hil).ports := by rw [List.take_of_length_le (by omega)] at hnk; exact hnk
  refine AC_exit ?_
  refine AC_region ?_
  refine mv rfl rfl rfl rfl ?_
  refine p_ (S_addI rfl (.tmp rfl) (AEv.const _) (by omega) (by omega)) ?_
  refine as_ rfl rfl rfl rfl ?_
  refine AL_nil ?_
  exact ⟨i + 1, ⟨by omega, by rw [← flat_snoc hil]; exact fun h => (List.mem_append.1 h).elim hno hend⟩, by omega, (Sub.l (List.Sublist.refl _)), (.cons rfl (by first | exact Le.refl _ | exact Le.nils | exact Le.row _ _ _ _ | exact Le.of_eq (by first | rfl | (simp; done) | (push_cast; rfl) | (simp; omega))) .nil), (.cons rfl (Le.refl _) (.cons rfl (Le.refl _) .nil))⟩
 try simp only [zA,zO,zN,zM,zP,zQ,zD,zF,gd] at hb1
 have hdone : n ∉ l.flatMap Ctr.ports := by rw [List.take_of_length_le (by omega)] at hno; exact hno
 refine AC_exit ?_
 refine AC_seq (AC_region ?_)
 refine ac rfl rfl rfl ?_
 refine AL_nil (AC_ret ?_)
 refine ret_tmp st rfl rfl (Sub.l (List.Sublist.refl _)) (Conv.refl (Sub.l (List.Sublist.refl _)) _) ⟨by rw [decide_eq_false hdone], rfl⟩ (.inl rfl)
theorem book_SameInts_ok (a b : List (Int)) (ha : a.length ≤ 1000000) (hb : b.length ≤ 1000000) : PCalls Tryz.prog 96 [.sl (intsV a), .sl (intsV b)] (.bool (decide (a = b))) := by
 intro st
 refine co 37 Tryz.func96 ?_
 refine AC_seq (AC_region ?_)
 refine ac rfl rfl rfl ?_
 refine AL_nil (AC_seq (AC_region ?_))
 refine mv rfl rfl rfl rfl ?_
 refine p_ (by first | exact S_lenM (e := 3) rfl (.tmp rfl) (by kernel_rfl) | exact S_len (e := 3) rfl (.tmp rfl) (by kernel_rfl)) ?_
 refine mv rfl rfl rfl rfl ?_
 refine p_ (by first | exact S_lenM (e := 3) rfl (.tmp rfl) (by kernel_rfl) | exact S_len (e := 3) rfl (.tmp rfl) (by kernel_rfl)) ?_
 refine p_ (S_eql rfl (.tmp rfl) (.tmp rfl)) ?_
 refine as_ rfl rfl rfl rfl ?_
 refine AL_nil ?_
 refine AC_seq ?_
 refine AC_seq (AC_region ?_)
 refine ac rfl rfl rfl ?_
 refine AL_nil ?_
 refine AC_block ?_
 refine AC_loopK (G := Nat) [(0, _), (1, _), (4, _)] (fun i => i ≤ a.length) (fun g => [(5, .bool (sameP (fun a b => decide (a = b)) a b g)), (6, .int .i64 (g : Int))]) (fun g => st) (fun g => a.length - g) (0) (Nat.zero_le _) (Sub.l (List.Sublist.refl _)) (.cons rfl (Le.refl _) (.cons rfl (Le.refl _) (.cons rfl (Le.refl _) .nil))) (.cons rfl (Le.of_eq (congrArg AV.bool (by rw [sameP_zero]; exact decide_eq_decide.2 (by omega)))) (.cons rfl (by first | exact Le.refl _ | exact Le.nils | exact Le.row _ _ _ _ | exact Le.of_eq (by first | rfl | (simp; done) | (push_cast; rfl) | (simp; omega))) .nil)) ?_
 rintro i hi
 try dsimp only
 simp only [List.cons_append, List.nil_append]
 refine AC_seq ?_
 refine AC_seq (AC_region ?_)
 refine mv rfl rfl rfl rfl ?_
 refine mv rfl rfl rfl rfl ?_
 refine g_ (fun _ => mA) ?_
 refine g_ (fun _ => mA) ?_
 refine g_ (fun _ => by first | exact S_lenM (e := 3) rfl (AEv.cd (.tmp rfl)) (by kernel_rfl) | exact S_len (e := 3) rfl (AEv.cd (.tmp rfl)) (by kernel_rfl)) ?_
 refine g_ (fun _ => S_lss rfl (AEv.cd (.tmp rfl)) (AEv.cd (.tmp rfl))) ?_
 refine an ?_
 refine mv rfl rfl rfl rfl ?_
 refine g_ (fun _ => mA) ?_
 refine g_ (fun _ => mA) ?_
 refine g_ (fun _ => by first | exact S_lenM (e := 3) rfl (AEv.cd (.tmp rfl)) (by kernel_rfl) | exact S_len (e := 3) rfl (AEv.cd (.tmp rfl)) (by kernel_rfl)) ?_
 refine g_ (fun _ => S_lss rfl (AEv.cd (.tmp rfl)) (AEv.cd (.tmp rfl))) ?_
 refine an ?_
 refine AL_nil ?_
 refine AC_cond (.tmp rfl) (fun hb27 => ?_) (fun hb27 => ?_)
 ·try simp only [zA,zO,zN,zM,zP,zQ,zD,zF,gd] at hb27
  have hs : sameP (fun a b => decide (a = b)) a b i = true := hb27.1.1
  have hia : i < a.length := by have := hb27.1.2; omega
  have hib : i < b.length := by have := hb27.2; omega
  refine AC_skip ?_
  refine AC_seq ?_
  refine AC_block ?_
  refine AC_draw (by kernel_rfl) (by kernel_rfl) (.cons rfl (Q_p rfl (S_move rfl (.tmp rfl))) <|
    .cons rfl (Q_p rfl (S_move rfl (.tmp rfl))) <|
    .cons rfl (Q_p rfl (S_elemN (e := 3) 1 rfl (.tmp rfl) (.tmp rfl) (by kernel_rfl) (by kernel_rfl) (by omega) (fun _ => rfl))) <|
    .cons rfl (Q_p rfl (S_loadP rfl (.tmp rfl) rfl (by kernel_rfl))) <|
    .cons rfl (Q_p rfl (S_move rfl (.tmp rfl))) <|
    .cons rfl (Q_p rfl (S_move rfl (.tmp rfl))) <|
    .cons rfl (Q_p rfl (S_elemN (e := 3) 1 rfl (.tmp rfl) (.tmp rfl) (by kernel_rfl) (by kernel_rfl) (by omega) (fun _ => rfl))) <|
    .cons rfl (Q_p rfl (S_loadP rfl (.tmp rfl) rfl (by kernel_rfl))) <|
    .cons rfl (Q_p rfl (S_eql rfl (.tmp rfl) (.tmp rfl))) <|
    .cons rfl (Q_p rfl (S_assign rfl (.tmp rfl))) <|
    .nil) ?_
  refine AC_region ?_
  refine mv rfl rfl rfl rfl ?_
  refine p_ (S_addI rfl (.tmp rfl) (AEv.const _) (by omega) (by omega)) ?_
  refine as_ rfl rfl rfl rfl ?_
  refine AL_nil ?_
  exact ⟨i + 1, by omega, by omega, (Sub.l (List.Sublist.refl _)), (.cons rfl (Le.of_eq (congrArg AV.bool (sameP_next hs hia hib).symm)) (.cons rfl (by first | exact Le.refl _ | exact Le.nils | exact Le.row _ _ _ _ | exact Le.of_eq (by first | rfl | (simp; done) | (push_cast; rfl) | (simp; omega))) .nil)), (.cons rfl (Le.refl _) (.cons rfl (Le.refl _) (.cons rfl (Le.refl _) .nil)))⟩
 try simp only [zA,zO,zN,zM,zP,zQ,zD,zF,gd] at hb27
 have hend := sameP_end (f := (fun a b => decide (a = b))) (a := a) (b := b) (i := i) (by
  rcases hb27 with (h | h) | h
  ·exact .inl h
  ·exact .inr (.inl (by omega))
  ·exact .inr (.inr (by omega)))
 refine AC_exit ?_
 refine AC_seq (AC_region ?_)
 refine mv rfl rfl rfl rfl ?_
 refine as_ rfl rfl rfl rfl ?_
 refine AL_nil (AC_ret ?_)
 refine ret_tmp st rfl rfl (Sub.l (List.Sublist.refl _)) (Conv.refl (Sub.l (List.Sublist.refl _)) _) ⟨congrArg AV.bool (hend.trans sameL_eq), rfl⟩ (.inl rfl)
theorem book_SameLabels_ok (a b : List (Lab)) (ha : a.length ≤ 1000000) (hb : b.length ≤ 1000000) : PCalls Tryz.prog 29 [.sl (labsV a), .sl (labsV b)] (.bool (decide (a = b))) := by
 intro st
 refine co 37 Tryz.func29 ?_
 refine AC_seq (AC_region ?_)
 refine ac rfl rfl rfl ?_
 refine AL_nil (AC_seq (AC_region ?_))
 refine mv rfl rfl rfl rfl ?_
 refine p_ (by first | exact S_lenM (e := 71) rfl (.tmp rfl) (by kernel_rfl) | exact S_len (e := 71) rfl (.tmp rfl) (by kernel_rfl)) ?_
 refine mv rfl rfl rfl rfl ?_
 refine p_ (by first | exact S_lenM (e := 71) rfl (.tmp rfl) (by kernel_rfl) | exact S_len (e := 71) rfl (.tmp rfl) (by kernel_rfl)) ?_
 refine p_ (S_eql rfl (.tmp rfl) (.tmp rfl)) ?_
 refine as_ rfl rfl rfl rfl ?_
 refine AL_nil ?_
 refine AC_seq ?_
 refine AC_seq (AC_region ?_)
 refine ac rfl rfl rfl ?_
 refine AL_nil ?_
 refine AC_block ?_
 refine AC_loopK (G := Nat) [(0, _), (1, _), (4, _)] (fun i => i ≤ a.length) (fun g => [(5, .bool (sameP (fun a b => decide (a = b)) a b g)), (6, .int .i64 (g : Int))]) (fun g => st) (fun g => a.length - g) (0) (Nat.zero_le _) (Sub.l (List.Sublist.refl _)) (.cons rfl (Le.refl _) (.cons rfl (Le.refl _) (.cons rfl (Le.refl _) .nil))) (.cons rfl (Le.of_eq (congrArg AV.bool (by rw [sameP_zero]; exact decide_eq_decide.2 (by omega)))) (.cons rfl (by first | exact Le.refl _ | exact Le.nils | exact Le.row _ _ _ _ | exact Le.of_eq (by first | rfl | (simp; done) | (push_cast; rfl) | (simp; omega))) .nil)) ?_
 rintro i hi
 try dsimp only
 simp only [List.cons_append, List.nil_append]
 refine AC_seq ?_
 refine AC_seq (AC_region ?_)
 refine mv rfl rfl rfl rfl ?_
 refine mv rfl rfl rfl rfl ?_
 refine g_ (fun _ => mA) ?_
 refine g_ (fun _ => mA) ?_
 refine g_ (fun _ => by first | exact S_lenM (e := 71) rfl (AEv.cd (.tmp rfl)) (by kernel_rfl) | exact S_len (e := 71) rfl (AEv.cd (.tmp rfl)) (by kernel_rfl)) ?_
 refine g_ (fun _ => S_lss rfl (AEv.cd (.tmp rfl)) (AEv.cd (.tmp rfl))) ?_
 refine an ?_
 refine mv rfl rfl rfl rfl ?_
 refine g_ (fun _ => mA) ?_
 refine g_ (fun _ => mA) ?_
 refine g_ (fun _ => by first | exact S_lenM (e := 71) rfl (AEv.cd (.tmp rfl)) (by kernel_rfl) | exact S_len (e := 71) rfl (AEv.cd (.tmp rfl)) (by kernel_rfl)) ?_
 refine g_ (fun _ => S_lss rfl (AEv.cd (.tmp rfl)) (AEv.cd (.tmp rfl))) ?_
 refine an ?_
 refine AL_nil ?_
 refine AC_cond (.tmp rfl) (fun hb27 => ?_) (fun hb27 => ?_)
 ·try simp only [zA,zO,zN,zM,zP,zQ,zD,zF,gd] at hb27
  have hs : sameP (fun a b => decide (a = b)) a b i = true := hb27.1.1
  have hia : i < a.length := by have := hb27.1.2; omega
  have hib : i < b.length := by have := hb27.2; omega
  refine AC_skip ?_
  refine AC_seq ?_
  refine AC_block ?_
  refine AC_draw (by kernel_rfl) (by kernel_rfl) (.cons rfl (Q_p rfl (S_move rfl (.tmp rfl))) <|
    .cons rfl (Q_p rfl (S_move rfl (.tmp rfl))) <|
    .cons rfl (Q_p rfl (S_elemN (e := 71) 2 rfl (.tmp rfl) (.tmp rfl) (by kernel_rfl) (by kernel_rfl) (by omega) (fun _ => rfl))) <|
    .cons rfl (Q_p rfl (S_loadPN (m := 2) rfl (.tmp rfl) (by kernel_rfl) (by first | exact Nat.le_of_ble_eq_true rfl | (simp; omega) | simp))) <|
    .cons rfl (Q_p rfl (S_move rfl (.tmp rfl))) <|
    .cons rfl (Q_p rfl (S_move rfl (.tmp rfl))) <|
    .cons rfl (Q_p rfl (S_elemN (e := 71) 2 rfl (.tmp rfl) (.tmp rfl) (by kernel_rfl) (by kernel_rfl) (by omega) (fun _ => rfl))) <|
    .cons rfl (Q_p rfl (S_loadPN (m := 2) rfl (.tmp rfl) (by kernel_rfl) (by first | exact Nat.le_of_ble_eq_true rfl | (simp; omega) | simp))) <|
    .cons rfl (Q_p rfl ((S_eqlAgg rfl (.tmp rfl) (.tmp rfl) (by kernel_rfl) (EqAV.struct Tryz.underlying71 (by kernel_rfl) (EqFs.flat (by kernel_rfl) (by kernel_rfl) rfl rfl (EqAV.S (by kernel_rfl)) (EqFs.flat (by kernel_rfl) (by kernel_rfl) rfl rfl (EqAV.S (by kernel_rfl)) EqFs.nil)))).ofV (V' := .bool (decide ((a[i]'hia) = (b[i]'hib)))) (congrArg AV.bool lab_eqB))) <|
    .cons rfl (Q_p rfl (S_assign rfl (.tmp rfl))) <|
    .nil) ?_
  refine AC_region ?_
  refine mv rfl rfl rfl rfl ?_
  refine p_ (S_addI rfl (.tmp rfl) (AEv.const _) (by omega) (by omega)) ?_
  refine as_ rfl rfl rfl rfl ?_
  refine AL_nil ?_
  exact ⟨i + 1, by omega, by omega, (Sub.l (List.Sublist.refl _)), (.cons rfl (Le.of_eq (congrArg AV.bool (sameP_next hs hia hib).symm)) (.cons rfl (by first | exact Le.refl _ | exact Le.nils | exact Le.row _ _ _ _ | exact Le.of_eq (by first | rfl | (simp; done) | (push_cast; rfl) | (simp; omega))) .nil)), (.cons rfl (Le.refl _) (.cons rfl (Le.refl _) (.cons rfl (Le.refl _) .nil)))⟩
 try simp only [zA,zO,zN,zM,zP,zQ,zD,zF,gd] at hb27
 have hend := sameP_end (f := (fun a b => decide (a = b))) (a := a) (b := b) (i := i) (by
  rcases hb27 with (h | h) | h
  ·exact .inl h
  ·exact .inr (.inl (by omega))
  ·exact .inr (.inr (by omega)))
 refine AC_exit ?_
 refine AC_seq (AC_region ?_)
 refine mv rfl rfl rfl rfl ?_
 refine as_ rfl rfl rfl rfl ?_
 refine AL_nil (AC_ret ?_)
 refine ret_tmp st rfl rfl (Sub.l (List.Sublist.refl _)) (Conv.refl (Sub.l (List.Sublist.refl _)) _) ⟨congrArg AV.bool (hend.trans sameL_eq), rfl⟩ (.inl rfl)
theorem book_SameContainers_ok (a b : List (Ctr)) (ha : a.length ≤ 1000000) (hb : b.length ≤ 1000000) (hap : ∀ c ∈ a, c.ports.length ≤ 1000000) (hbp : ∀ c ∈ b, c.ports.length ≤ 1000000) : PCalls Tryz.prog 59 [.sl (ctrsV a), .sl (ctrsV b)] (.bool (sameL exactC a b)) := by
 intro st
 refine co 78 Tryz.func59 ?_
 refine AC_seq (AC_region ?_)
 refine ac rfl rfl rfl ?_
 refine AL_nil (AC_seq (AC_region ?_))
 refine mv rfl rfl rfl rfl ?_
 refine p_ (by first | exact S_lenM (e := 79) rfl (.tmp rfl) (by kernel_rfl) | exact S_len (e := 79) rfl (.tmp rfl) (by kernel_rfl)) ?_
 refine mv rfl rfl rfl rfl ?_
 refine p_ (by first | exact S_lenM (e := 79) rfl (.tmp rfl) (by kernel_rfl) | exact S_len (e := 79) rfl (.tmp rfl) (by kernel_rfl)) ?_
 refine p_ (S_eql rfl (.tmp rfl) (.tmp rfl)) ?_
 refine as_ rfl rfl rfl rfl ?_
 refine AL_nil ?_
 refine AC_seq ?_
 refine AC_seq (AC_region ?_)
 refine ac rfl rfl rfl ?_
 refine AL_nil ?_
 refine AC_block ?_
 refine AC_loopK (G := Nat) [(0, _), (1, _), (4, _)] (fun i => i ≤ a.length) (fun g => [(5, .bool (sameP exactC a b g)), (6, .int .i64 (g : Int))]) (fun g => st) (fun g => a.length - g) (0) (Nat.zero_le _) (Sub.l (List.Sublist.refl _)) (.cons rfl (Le.refl _) (.cons rfl (Le.refl _) (.cons rfl (Le.refl _) .nil))) (.cons rfl (Le.of_eq (congrArg AV.bool (by rw [sameP_zero]; exact decide_eq_decide.2 (by omega)))) (.cons rfl (by first | exact Le.refl _ | exact Le.nils | exact Le.row _ _ _ _ | exact Le.of_eq (by first | rfl | (simp; done) | (push_cast; rfl) | (simp; omega))) .nil)) ?_
 rintro i hi
 try dsimp only
 simp only [List.cons_append, List.nil_append]
 refine AC_seq ?_
 refine AC_seq (AC_region ?_)
 refine mv rfl rfl rfl rfl ?_
 refine mv rfl rfl rfl rfl ?_
 refine g_ (fun _ => mA) ?_
 refine g_ (fun _ => mA) ?_
 refine g_ (fun _ => by first | exact S_lenM (e := 79) rfl (AEv.cd (.tmp rfl)) (by kernel_rfl) | exact S_len (e := 79) rfl (AEv.cd (.tmp rfl)) (by kernel_rfl)) ?_
 refine g_ (fun _ => S_lss rfl (AEv.cd (.tmp rfl)) (AEv.cd (.tmp rfl))) ?_
 refine an ?_
 refine mv rfl rfl rfl rfl ?_
 refine g_ (fun _ => mA) ?_
 refine g_ (fun _ => mA) ?_
 refine g_ (fun _ => by first | exact S_lenM (e := 79) rfl (AEv.cd (.tmp rfl)) (by kernel_rfl) | exact S_len (e := 79) rfl (AEv.cd (.tmp rfl)) (by kernel_rfl)) ?_
 refine g_ (fun _ => S_lss rfl (AEv.cd (.tmp rfl)) (AEv.cd (.tmp rfl))) ?_
 refine an ?_
 refine AL_nil ?_
 refine AC_cond (.tmp rfl) (fun hb27 => ?_) (fun hb27 => ?_)
 ·try simp only [zA,zO,zN,zM,zP,zQ,zD,zF,gd] at hb27
  have hs : sameP exactC a b i = true := hb27.1.1
  have hia : i < a.length := by have := hb27.1.2; omega
  have hib : i < b.length := by have := hb27.2; omega
  refine AC_skip ?_
  refine AC_seq ?_
  refine AC_block ?_
  refine AC_seq (AC_region ?_)
  refine mv rfl rfl rfl rfl ?_
  refine mv rfl rfl rfl rfl ?_
  refine p_ (S_elemN (e := 79) 11 rfl (.tmp rfl) (.tmp rfl) (by kernel_rfl) (by kernel_rfl) (by omega) (fun _ => rfl)) ?_
  refine p_ (S_loadPN (m := 11) rfl (.tmp rfl) (by kernel_rfl) (by first | exact Nat.le_of_ble_eq_true rfl | (simp; omega) | simp)) ?_
  refine s_ (S_alloc [.string ⟨#[]⟩, .string ⟨#[]⟩, .int .i64 0, .int .i64 0, .int .i64 0, .int .i64 0, .int .i64 0, .int .i64 0, .slice none 0 0, .int .i64 0, .int .i64 0] rfl (by kernel_rfl)) ?_
  rintro _ _ ⟨b7, rfl, rfl⟩
  refine stW 0 ?_
  refine AL_nil (AC_seq (AC_region ?_))
  refine mv rfl rfl rfl rfl ?_
  refine mv rfl rfl rfl rfl ?_
  refine p_ (S_elemN (e := 79) 11 rfl (.tmp rfl) (.tmp rfl) (by kernel_rfl) (by kernel_rfl) (by omega) (fun _ => rfl)) ?_
  refine p_ (S_loadPN (m := 11) rfl (.tmp rfl) (by kernel_rfl) (by first | exact Nat.le_of_ble_eq_true rfl | (simp; omega) | simp)) ?_
  refine s_ (S_alloc [.string ⟨#[]⟩, .string ⟨#[]⟩, .int .i64 0, .int .i64 0, .int .i64 0, .int .i64 0, .int .i64 0, .int .i64 0, .slice none 0 0, .int .i64 0, .int .i64 0] rfl (by kernel_rfl)) ?_
  rintro _ _ ⟨b8, rfl, rfl⟩
  refine stW 0 ?_
  refine AL_nil ?_
  refine AC_region ?_
  refine fl 0 ?_
  refine ld 1 ?_
  refine fl 0 ?_
  refine ld 0 ?_
  refine p_ (S_eqS rfl (.tmp rfl) (.tmp rfl)) ?_
  refine mv rfl rfl rfl rfl ?_
  refine g_ (fun _ => fA 1) ?_
  refine g_ (fun _ => lA 1) ?_
  refine g_ (fun _ => fA 1) ?_
  refine g_ (fun _ => lA 0) ?_
  refine g_ (fun _ => S_eqS rfl (AEv.cd (.tmp rfl)) (AEv.cd (.tmp rfl))) ?_
  refine an ?_
  refine mv rfl rfl rfl rfl ?_
  refine g_ (fun _ => fA 2) ?_
  refine g_ (fun _ => lN 3 1) ?_
  refine g_ (fun _ => fA 2) ?_
  refine g_ (fun _ => lN 3 0) ?_
  refine g_ (fun _ => S_eqlAgg rfl (AEv.cd (.tmp rfl)) (AEv.cd (.tmp rfl)) (by kernel_rfl) (EqAV.struct Tryz.underlying74 (by kernel_rfl) (EqFs.flat (by kernel_rfl) (by kernel_rfl) rfl rfl (EqAV.int (k' := .i64) (by kernel_rfl)) (EqFs.flat (by kernel_rfl) (by kernel_rfl) rfl rfl (EqAV.int (k' := .i64) (by kernel_rfl)) (EqFs.flat (by kernel_rfl) (by kernel_rfl) rfl rfl (EqAV.int (k' := .i64) (by kernel_rfl)) EqFs.nil))))) ?_
  refine an ?_
  refine mv rfl rfl rfl rfl ?_
  refine g_ (fun _ => fA 5) ?_
  refine g_ (fun _ => lN 3 1) ?_
  refine g_ (fun _ => fA 5) ?_
  refine g_ (fun _ => lN 3 0) ?_
  refine g_ (fun _ => S_eqlAgg rfl (AEv.cd (.tmp rfl)) (AEv.cd (.tmp rfl)) (by kernel_rfl) (EqAV.struct Tryz.underlying74 (by kernel_rfl) (EqFs.flat (by kernel_rfl) (by kernel_rfl) rfl rfl (EqAV.int (k' := .i64) (by kernel_rfl)) (EqFs.flat (by kernel_rfl) (by kernel_rfl) rfl rfl (EqAV.int (k' := .i64) (by kernel_rfl)) (EqFs.flat (by kernel_rfl) (by kernel_rfl) rfl rfl (EqAV.int (k' := .i64) (by kernel_rfl)) EqFs.nil))))) ?_
  refine an ?_
  refine mv rfl rfl rfl rfl ?_
  refine g_ (fun _ => fA 8) ?_
  refine g_ (fun _ => lA 1) ?_
  refine g_ (fun _ => fA 8) ?_
  refine g_ (fun _ => lA 0) ?_
  refine g_ (fun _ => S_pcall rfl (AEvs.cons (AEv.cd (.tmp rfl)) (AEvs.cons (AEv.cd (.tmp rfl)) AEvs.nil)) (book_SameInts_ok (a[i]'hia).ports (b[i]'hib).ports (hap _ (List.getElem_mem _)) (hbp _ (List.getElem_mem _)))) ?_
  refine an ?_
  refine mv rfl rfl rfl rfl ?_
  refine g_ (fun _ => fA 9) ?_
  refine g_ (fun _ => lN 2 1) ?_
  refine g_ (fun _ => fA 9) ?_
  refine g_ (fun _ => lN 2 0) ?_
  refine g_ (fun _ => S_eqlAgg rfl (AEv.cd (.tmp rfl)) (AEv.cd (.tmp rfl)) (by kernel_rfl) (EqAV.struct Tryz.underlying77 (by kernel_rfl) (EqFs.flat (by kernel_rfl) (by kernel_rfl) rfl rfl (EqAV.int (k' := .i64) (by kernel_rfl)) (EqFs.flat (by kernel_rfl) (by kernel_rfl) rfl rfl (EqAV.int (k' := .i64) (by kernel_rfl)) EqFs.nil)))) ?_
  refine an ?_
  refine as_ rfl rfl rfl rfl ?_
  refine AL_nil ?_
  refine AC_region ?_
  refine mv rfl rfl rfl rfl ?_
  refine p_ (S_addI rfl (.tmp rfl) (AEv.const _) (by omega) (by omega)) ?_
  refine as_ rfl rfl rfl rfl ?_
  refine AL_nil ?_
  exact ⟨i + 1, by omega, by omega, (Sub.l (List.Sublist.cons _ (List.Sublist.cons _ (List.Sublist.refl _)))), (.cons rfl (Le.of_eq (congrArg AV.bool (by rw [sameP_next hs hia hib, ← exactC_order, res_eqB, res_eqB, probe_eqB]))) (.cons rfl (by first | exact Le.refl _ | exact Le.nils | exact Le.row _ _ _ _ | exact Le.of_eq (by first | rfl | (simp; done) | (push_cast; rfl) | (simp; omega))) .nil)), (.cons rfl (Le.refl _) (.cons rfl (Le.refl _) (.cons rfl (Le.refl _) .nil)))⟩
 try simp only [zA,zO,zN,zM,zP,zQ,zD,zF,gd] at hb27
 have hend := sameP_end (f := exactC) (a := a) (b := b) (i := i) (by
  rcases hb27 with (h | h) | h
  ·exact .inl h
  ·exact .inr (.inl (by omega))
  ·exact .inr (.inr (by omega)))
 refine AC_exit ?_
 refine AC_seq (AC_region ?_)
 refine mv rfl rfl rfl rfl ?_
 refine as_ rfl rfl rfl rfl ?_
 refine AL_nil (AC_ret ?_)
 refine ret_tmp st rfl rfl (Sub.l (List.Sublist.refl _)) (Conv.refl (Sub.l (List.Sublist.refl _)) _) ⟨congrArg AV.bool (hend.trans rfl), rfl⟩ (.inl rfl)
theorem book_SameSpec_ok (a b : Spc) (ha : shortS a) (hb : shortS b) : PCalls Tryz.prog 20 [spcAV a, spcAV b] (.bool (sameS a b)) := by
 intro st
 refine co 52 Tryz.func20 ?_
 obtain ⟨a1, a2, a3, a4, a5⟩ := ha
 obtain ⟨b1', b2', b3', b4', b5'⟩ := hb
 refine AC_seq (AC_region ?_)
 refine s_ (S_box rfl (.tmp rfl)) ?_
 rintro _ _ ⟨b1, rfl, rfl⟩
 refine s_ (S_box rfl (.tmp rfl)) ?_
 rintro _ _ ⟨b2, rfl, rfl⟩
 refine ac rfl rfl rfl ?_
 refine AL_nil (AC_seq (AC_region ?_))
 refine fl 0 ?_
 refine ld 1 ?_
 refine fl 0 ?_
 refine ld 0 ?_
 refine p_ (S_eqS rfl (.tmp rfl) (.tmp rfl)) ?_
 refine mv rfl rfl rfl rfl ?_
 refine g_ (fun _ => fA 1) ?_
 refine g_ (fun _ => lA 1) ?_
 refine g_ (fun _ => fA 1) ?_
 refine g_ (fun _ => lA 0) ?_
 refine g_ (fun _ => S_pcall rfl (AEvs.cons (AEv.cd (.tmp rfl)) (AEvs.cons (AEv.cd (.tmp rfl)) AEvs.nil)) (book_SameLabels_ok a.labels b.labels a1 b1')) ?_
 refine an ?_
 refine mv rfl rfl rfl rfl ?_
 refine g_ (fun _ => fA 2) ?_
 refine g_ (fun _ => lA 1) ?_
 refine g_ (fun _ => fA 2) ?_
 refine g_ (fun _ => lA 0) ?_
 refine g_ (fun _ => S_pcall rfl (AEvs.cons (AEv.cd (.tmp rfl)) (AEvs.cons (AEv.cd (.tmp rfl)) AEvs.nil)) (book_SameContainers_ok a.init b.init a2 b2' a4 b4')) ?_
 refine an ?_
 refine mv rfl rfl rfl rfl ?_
 refine g_ (fun _ => fA 3) ?_
 refine g_ (fun _ => lA 1) ?_
 refine g_ (fun _ => fA 3) ?_
 refine g_ (fun _ => lA 0) ?_
 refine g_ (fun _ => S_pcall rfl (AEvs.cons (AEv.cd (.tmp rfl)) (AEvs.cons (AEv.cd (.tmp rfl)) AEvs.nil)) (book_SameContainers_ok a.main b.main a3 b3' a5 b5')) ?_
 refine an ?_
 refine mv rfl rfl rfl rfl ?_
 refine g_ (fun _ => fA 4) ?_
 refine g_ (fun _ => lA 1) ?_
 refine g_ (fun _ => fA 4) ?_
 refine g_ (fun _ => lA 0) ?_
 refine g_ (fun _ => S_eql rfl (AEv.cd (.tmp rfl)) (AEv.cd (.tmp rfl))) ?_
 refine an ?_
 refine mv rfl rfl rfl rfl ?_
 refine g_ (fun _ => fA 5) ?_
 refine g_ (fun _ => lA 1) ?_
 refine g_ (fun _ => fA 5) ?_
 refine g_ (fun _ => lA 0) ?_
 refine g_ (fun _ => S_eql rfl (AEv.cd (.tmp rfl)) (AEv.cd (.tmp rfl))) ?_
 refine an ?_
 refine mv rfl rfl rfl rfl ?_
 refine g_ (fun _ => fA 6) ?_
 refine g_ (fun _ => lA 1) ?_
 refine g_ (fun _ => fA 6) ?_
 refine g_ (fun _ => lA 0) ?_
 refine g_ (fun _ => S_eql rfl (AEv.cd (.tmp rfl)) (AEv.cd (.tmp rfl))) ?_
 refine an ?_
 refine as_ rfl rfl rfl rfl ?_
 refine AL_nil (AC_ret ?_)
 refine ret_tmp st rfl rfl (Sub.l (List.Sublist.cons _ (List.Sublist.cons _ (List.Sublist.refl _)))) (Conv.refl (Sub.l (List.Sublist.cons _ (List.Sublist.cons _ (List.Sublist.refl _)))) _) ⟨rfl, rfl⟩ (.inl rfl)
end Go.Proofs.YtfmiciodcimkeaaGreatDoor

set_option maxRecDepth 100000
namespace Go.Proofs.YtfmiciodcimkeaaGreatDoor
open Go.AL Go.NumSpec
theorem copyCheck_fresh (b T m : Nat) (cs : List AV) (hm : 0 < m) (hl : liesAt Tryz.prog Tryz.prog.depth T (m / Tryz.prog.cellsOf T) 0 83 1 = true) (F : St) : ACalls Tryz.prog 110 [.ptr b 0] ((b, .cells (.nilB b T m :: cs)) :: F) (fun x st' => x = .tup [] ∧ st' = (b, .cells (.ptr b 0 :: cs)) :: F) := by
 refine co 20 Tryz.func110 ?_
 refine AC_seq (AC_region ?_)
 refine mv rfl rfl rfl rfl ?_
 refine p_ (S_nilCheck rfl (.tmp rfl)) ?_
 refine fl 0 ?_
 refine ld 0 ?_
 refine p_ (S_eqlPtr rfl ((AEv.tmp rfl).le (Le.nilB _ _ _)) (AEv.const _) (by kernel_rfl)) ?_
 refine AL_nil ?_
 refine AC_cond (.tmp rfl) (fun hb1 => ?_) (fun hb1 => ?_)
 ·try simp only [zA,zO,zN,zM,zP,zQ,zD,zF,gd] at hb1
  refine AC_region ?_
  refine mv rfl rfl rfl rfl ?_
  refine mv rfl rfl rfl rfl ?_
  refine p_ (S_toUnsafe (t := 83) (k := 0) 0 rfl (.tmp rfl) rfl rfl (by kernel_rfl) (by kernel_rfl) (by kernel_rfl) hm) ?_
  refine p_ (S_noEscape rfl (.tmp rfl) Tryz.func131 (by kernel_rfl) (by kernel_rfl) (by kernel_rfl) (by kernel_rfl)) ?_
  refine p_ (S_fromUnsafe (t := 83) (k := 0) 0 rfl (.tmp rfl) rfl rfl (by kernel_rfl) (by kernel_rfl) (by kernel_rfl) hl) ?_
  refine p_ (S_nilCheck rfl (.tmp rfl)) ?_
  refine fl 0 ?_
  refine st1 0 ?_
  refine AL_nil ?_
  refine ret_none ((b, .cells (.ptr b 0 :: cs)) :: F) rfl (Sub.l (List.Sublist.refl _)) ⟨rfl, rfl⟩ (.inr rfl)
 simp at hb1; done
theorem copyCheck_used (b : Nat) (cs : List AV) (F : St) : ACalls Tryz.prog 110 [.ptr b 0] ((b, .cells (.ptr b 0 :: cs)) :: F) (fun x st' => x = .tup [] ∧ st' = (b, .cells (.ptr b 0 :: cs)) :: F) := by
 refine co 20 Tryz.func110 ?_
 refine AC_seq (AC_region ?_)
 refine mv rfl rfl rfl rfl ?_
 refine p_ (S_nilCheck rfl (.tmp rfl)) ?_
 refine fl 0 ?_
 refine ld 0 ?_
 refine p_ (S_eqlNil rfl (.tmp rfl) (AEv.const _) (by kernel_rfl)) ?_
 refine AL_nil ?_
 refine AC_cond (.tmp rfl) (fun hb1 => ?_) (fun hb1 => ?_)
 ·simp at hb1; done
 try simp only [zA,zO,zN,zM,zP,zQ,zD,zF,gd] at hb1
 refine AC_seq (AC_region ?_)
 refine mv rfl rfl rfl rfl ?_
 refine p_ (S_nilCheck rfl (.tmp rfl)) ?_
 refine fl 0 ?_
 refine ld 0 ?_
 refine mv rfl rfl rfl rfl ?_
 refine p_ (S_neqPtr rfl (.tmp rfl) (.tmp rfl) (by kernel_rfl)) ?_
 refine AL_nil ?_
 refine AC_cond (.tmp rfl) (fun hb2 => ?_) (fun hb2 => ?_)
 ·simp at hb2; done
 try simp only [zA,zO,zN,zM,zP,zQ,zD,zF,gd] at hb2
 refine AC_skip ?_
 refine ret_none ((b, .cells (.ptr b 0 :: cs)) :: F) rfl (Sub.l (List.Sublist.refl _)) ⟨rfl, rfl⟩ (.inr rfl)
theorem copyCheck_ok (u : Bool) (b T m : Nat) (cs : List AV) (hm : 0 < m) (hl : liesAt Tryz.prog Tryz.prog.depth T (m / Tryz.prog.cellsOf T) 0 83 1 = true) (F : St) : ACalls Tryz.prog 110 [.ptr b 0] ((b, .cells (addrB u b T m :: cs)) :: F) (fun x st' => x = .tup [] ∧ st' = (b, .cells (.ptr b 0 :: cs)) :: F) := by
 cases u
 ·exact copyCheck_fresh b T m cs hm hl F
 ·exact copyCheck_used b cs F
theorem WriteString_ok (b : Nat) (u : Bool) (q : Buf) (l s : List UInt8) (T m : Nat) (post : List AV) (hq : q.ok l) (hlen : l.length + s.length ≤ 140737488355328) (hm : 0 < m) (hl : liesAt Tryz.prog Tryz.prog.depth T (m / Tryz.prog.cellsOf T) 0 83 1 = true) (F : St) : ACalls Tryz.prog 76 [.ptr b 0, .S s] (((b, .cells (addrB u b T m :: bufAV q (l) :: post)) :: bufSt q 5 (l)) ++ F) (fun x st' => ∃ foot', (∃ q' : Buf, q'.ok (l ++ s) ∧ x = .tup [.int .i64 (s.length : Int), .nili] ∧ foot' = (b, .cells (.ptr b 0 :: bufAV q' (l ++ s) :: post)) :: bufSt q' 5 (l ++ s)) ∧ st' = foot' ++ F) := by
 refine co 19 Tryz.func76 ?_
 refine AC_seq (AC_region ?_)
 refine ac rfl rfl rfl ?_
 refine ac rfl rfl rfl ?_
 refine AL_nil (AC_seq (AC_region ?_))
 refine mv rfl rfl rfl rfl ?_
 refine s_ (S_call rfl (AEvs.cons (.tmp rfl) AEvs.nil) (copyCheck_ok u b T m _ hm hl _)) ?_
 rintro _ _ ⟨rfl, rfl⟩
 refine AL_nil (AC_seq (AC_region ?_))
 refine mv rfl rfl rfl rfl ?_
 refine mv rfl rfl rfl rfl ?_
 refine p_ (S_nilCheck rfl (.tmp rfl)) ?_
 refine fl 1 ?_
 refine ld 0 ?_
 refine mv rfl rfl rfl rfl ?_
 refine s_ (S_appendStr (q := q) (l := l) (s := s) (e := 5) [(b, _)] F rfl (.tmp rfl) (.tmp rfl) rfl hq (by kernel_rfl) (by kernel_rfl) hlen) ?_
 rintro _ _ ⟨q2, hq2, rfl, rfl⟩
 refine p_ (S_nilCheck rfl (.tmp rfl)) ?_
 refine fl 1 ?_
 refine s_ (S_store 0 rfl (.tmp rfl) (.tmp rfl) rfl (by first | exact Nat.le_of_ble_eq_true rfl | simp) (bufAV_one _ _) (by kernel_rfl)) ?_
 rintro _ _ ⟨rfl, rfl⟩
 refine AL_nil (AC_seq (AC_region ?_))
 refine mv rfl rfl rfl rfl ?_
 refine p_ (S_lenS (ts := #[]) rfl (.tmp rfl) (by kernel_rfl)) ?_
 refine as_ rfl rfl rfl rfl ?_
 refine ac rfl rfl rfl ?_
 refine AL_nil (AC_ret ?_)
 refine ret_tmps (ts := [4, 5]) (((b, .cells (.ptr b 0 :: bufAV q2 (l ++ s) :: post)) :: bufSt q2 5 (l ++ s)) ++ F) rfl (by decide) rfl (Sub.l (List.Sublist.refl _)) (Conv.refl (Sub.l (List.Sublist.refl _)) _) ⟨_, ⟨q2, hq2, rfl, rfl⟩, rfl⟩ (.inl rfl)
theorem String_ok (b : Nat) (q : Buf) (l : List UInt8) (a : AV) (post : List AV) (hq : q.ok l) (F : St) : ACalls Tryz.prog 39 [.ptr b 0] (((b, .cells (a :: bufAV q (l) :: post)) :: bufSt q 5 (l)) ++ F) (fun x st' => ∃ foot', (x = .S l ∧ foot' = [(b, .cells (a :: bufAV q l :: post))]) ∧ st' = foot' ++ F) := by
 refine co 14 Tryz.func39 ?_
 refine AC_seq (AC_region ?_)
 refine p_ (S_assign rfl (AEv.S _)) ?_
 refine AL_nil ?_
 refine AC_seq ?_
 refine AC_plan (σ := [(0, 0), (1, 0), (2, 0), (3, 0), (4, 0), (5, 0), (6, 0), (7, 0), (8, 0), (9, 0), (10, 2), (11, 0)]) (by kernel_rfl) _ (by kernel_rfl) (fun _ h => h) ?_
 refine AG.f rfl rfl (fun st' hst => Q_p rfl (S_move rfl (.tmp rfl))) ?_
 refine AG.f rfl rfl (fun st' hst => Q_p rfl (S_nilCheck rfl (.tmp rfl))) ?_
 refine AG.f rfl rfl (fun st' hst => Q_p rfl (S_field 1 rfl (.tmp rfl) (by kernel_rfl))) ?_
 refine AG.f rfl rfl (fun st' hst => Q_p rfl (S_loadM rfl (.tmp rfl) (hst _ (List.mem_of_getElem? (i := 0) rfl)) rfl (by kernel_rfl))) ?_
 refine AG.f rfl rfl (fun st' hst => Q_p rfl (S_unsafeData rfl (.tmp rfl) hq)) ?_
 refine AG.f rfl rfl (fun st' hst => Q_p rfl (S_move rfl (.tmp rfl))) ?_
 refine AG.f rfl rfl (fun st' hst => Q_p rfl (S_nilCheck rfl (.tmp rfl))) ?_
 refine AG.f rfl rfl (fun st' hst => Q_p rfl (S_field 1 rfl (.tmp rfl) (by kernel_rfl))) ?_
 refine AG.f rfl rfl (fun st' hst => Q_p rfl (S_loadM rfl (.tmp rfl) (hst _ (List.mem_of_getElem? (i := 0) rfl)) rfl (by kernel_rfl))) ?_
 refine AG.f rfl rfl (fun st' hst => Q_p rfl (S_len (e := 5) rfl ((AEv.tmp rfl).le (Le_buf hq)) (by kernel_rfl))) ?_
 refine AG.h rfl rfl rfl (S_unsafeString (q := q) (l := l) (e := 5) (n := 0) (k := 1) [(b, _)] F rfl (.tmp rfl) ((AEv.tmp rfl).le (Le.of_eq (by rw [bytesV_len]))) rfl rfl rfl hq (by kernel_rfl) (by kernel_rfl)) ?_
 rintro _ _ ⟨rfl, rfl⟩
 refine AG.f rfl rfl (fun st' hst => Q_p rfl (S_assign rfl (.tmp rfl))) ?_
 refine AG.nil ?_
 refine AC_ret ?_
 refine ret_tmp ([(b, Ob.cells (a :: bufAV q l :: post))] ++ F) rfl rfl (Sub.l (List.Sublist.refl _)) (Conv.refl (Sub.l (List.Sublist.refl _)) _) ⟨_, ⟨rfl, rfl⟩, rfl⟩ (.inl rfl)
theorem sticks_Fail_ok (b k : Nat) (cs : List AV) (c d : Int) (hk : cs[k]? = some (.int .i64 c)) (F : St) : ACalls Tryz.prog 40 [.ptr b k, .int .i64 d] ((b, .cells cs) :: F) (fun x st' => x = .tup [] ∧ st' = (b, .cells (cs.set k (.int .i64 (failC c d)))) :: F) := by
 refine co 13 Tryz.func40 ?_
 have hlt : k < cs.length := (List.getElem?_eq_some_iff.1 hk).1
 refine AC_seq (AC_region ?_)
 refine mv rfl rfl rfl rfl ?_
 refine p_ (S_nilCheck rfl (.tmp rfl)) ?_
 refine fl 0 ?_
 refine p_ (S_load 0 rfl (.tmp rfl) rfl hk (by kernel_rfl)) ?_
 refine p_ (S_eql rfl (.tmp rfl) (AEv.const _)) ?_
 refine AL_nil ?_
 refine AC_cond (.tmp rfl) (fun hb1 => ?_) (fun hb1 => ?_)
 ·try simp only [zA,zO,zN,zM,zP,zQ,zD,zF,gd] at hb1
  have hc : c = 0 := by omega
  subst hc
  refine AC_region ?_
  refine mv rfl rfl rfl rfl ?_
  refine mv rfl rfl rfl rfl ?_
  refine p_ (S_nilCheck rfl (.tmp rfl)) ?_
  refine fl 0 ?_
  refine s_ (S_store 0 rfl (.tmp rfl) (.tmp rfl) rfl hlt rfl (by kernel_rfl)) ?_
  rintro _ _ ⟨rfl, rfl⟩
  refine AL_nil ?_
  refine ret_none ((b, .cells (cs.set k (.int .i64 d))) :: F) rfl (Sub.l (List.Sublist.refl _)) ⟨rfl, rfl⟩ (.inr rfl)
 try simp only [zA,zO,zN,zM,zP,zQ,zD,zF,gd] at hb1
 have hs : cs.set k (.int .i64 (failC c d)) = cs := by
  rw [failC, if_neg (by omega)]
  obtain ⟨h1, h2⟩ := List.getElem?_eq_some_iff.1 hk
  rw [← h2]
  exact List.set_getElem_self h1
 refine AC_skip ?_
 refine ret_none ((b, .cells cs) :: F) rfl (Sub.l (List.Sublist.refl _)) ⟨rfl, by rw [hs]⟩ (.inr rfl)
theorem wire_Write_ok (F : St) : ACalls Tryz.prog 12 [] ([] ++ F) (fun x st' => ∃ foot', (∃ b, x = .ptr b 0 ∧ foot' = (b, .cells [addrB false b 87 3, bufAV .nil ([]), .int .i64 (0)]) :: bufSt .nil 5 ([])) ∧ st' = foot' ++ F) := by
 refine co 3 Tryz.func12 ?_
 refine AC_seq (AC_region ?_)
 refine ac rfl rfl rfl ?_
 refine AL_nil (AC_seq (AC_region ?_))
 refine p_ (S_build (t := 87) (pl := [(0, 2), (2, 1)]) (zs := [.pointer none, .slice none 0 0, .int .i64 0]) rfl AEvs.nil (by kernel_rfl) rfl) ?_
 refine s_ (S_boxB (cs := [.nils, .int .i64 0]) rfl ((AEv.tmp rfl).le (Le.of_eq rfl))) ?_
 rintro _ _ ⟨b1, rfl, rfl⟩
 refine as_ rfl rfl rfl rfl ?_
 refine AL_nil (AC_ret ?_)
 refine ret_tmp (((b1, .cells [addrB false b1 87 3, bufAV .nil ([]), .int .i64 (0)]) :: bufSt .nil 5 ([])) ++ F) rfl rfl (Sub.l (List.Sublist.refl _)) (Conv.refl (Sub.l (List.Sublist.refl _)) _) ⟨_, ⟨b1, rfl, rfl⟩, rfl⟩ (.inl rfl)
theorem w_put_ok (b : Nat) (u : Bool) (q : Buf) (l : List UInt8) (c : Int) (hq : q.ok l) (s : List UInt8) (hlen : l.length + s.length ≤ 140737488355328) (F : St) : ACalls Tryz.prog 38 [.ptr b 0, .S s] (((b, .cells [addrB u b 87 3, bufAV q (l), .int .i64 (c)]) :: bufSt q 5 (l)) ++ F) (fun x st' => ∃ foot', (∃ (u' : Bool) (q' : Buf), q'.ok (wput c l s) ∧ x = .tup [] ∧ foot' = (b, .cells [addrB u' b 87 3, bufAV q' (wput c l s), .int .i64 (c)]) :: bufSt q' 5 (wput c l s)) ∧ st' = foot' ++ F) := by
 refine co 15 Tryz.func38 ?_
 refine AC_seq (AC_region ?_)
 refine mv rfl rfl rfl rfl ?_
 refine p_ (S_nilCheck rfl (.tmp rfl)) ?_
 refine fl 2 ?_
 refine fl 0 ?_
 refine ld 0 ?_
 refine p_ (S_eql rfl (.tmp rfl) (AEv.const _)) ?_
 refine AL_nil ?_
 refine AC_cond (.tmp rfl) (fun hb1 => ?_) (fun hb1 => ?_)
 ·try simp only [zA,zO,zN,zM,zP,zQ,zD,zF,gd] at hb1
  have hc : c = 0 := by omega
  subst hc
  refine AC_region ?_
  refine mv rfl rfl rfl rfl ?_
  refine p_ (S_nilCheck rfl (.tmp rfl)) ?_
  refine fl 0 ?_
  refine mv rfl rfl rfl rfl ?_
  refine s_ (S_call rfl (AEvs.cons (.tmp rfl) (AEvs.cons (.tmp rfl) AEvs.nil)) (WriteString_ok b u q l s 87 3 [_] hq hlen (by decide) (by kernel_rfl) F)) ?_
  rintro _ _ ⟨_, ⟨q2, hq2, rfl, rfl⟩, rfl⟩
  refine AL_nil ?_
  refine ret_none (((b, .cells [addrB true b 87 3, bufAV q2 (l ++ s), .int .i64 (0)]) :: bufSt q2 5 (l ++ s)) ++ F) rfl (Sub.l (List.Sublist.refl _)) ⟨_, ⟨true, q2, hq2, rfl, rfl⟩, rfl⟩ (.inr rfl)
 try simp only [zA,zO,zN,zM,zP,zQ,zD,zF,gd] at hb1
 have hw : wput c l s = l := wput_err (by omega) l s
 refine AC_skip ?_
 refine ret_none (((b, .cells [addrB u b 87 3, bufAV q (l), .int .i64 (c)]) :: bufSt q 5 (l)) ++ F) rfl (Sub.l (List.Sublist.refl _)) ⟨_, ⟨u, q, by rw [hw]; exact hq, rfl, by rw [hw]⟩, rfl⟩ (.inr rfl)
theorem w_Big_ok (b : Nat) (u : Bool) (q : Buf) (l : List UInt8) (c : Int) (hq : q.ok l) (n : Nat) (hn : n < 18446744073709551616) (hlen : l.length + 10 ≤ 140737488355328) (F : St) : ACalls Tryz.prog 75 [.ptr b 0, .int .u64 (n : Int)] (((b, .cells [addrB u b 87 3, bufAV q (l), .int .i64 (c)]) :: bufSt q 5 (l)) ++ F) (fun x st' => ∃ foot', (∃ (u' : Bool) (q' : Buf), q'.ok (wput c l (putL n)) ∧ x = .tup [] ∧ foot' = (b, .cells [addrB u' b 87 3, bufAV q' (wput c l (putL n)), .int .i64 (c)]) :: bufSt q' 5 (wput c l (putL n))) ∧ st' = foot' ++ F) := by
 refine co 8 Tryz.func75 ?_
 have hp := putL_few n hn
 refine AC_region ?_
 refine mv rfl rfl rfl rfl ?_
 refine mv rfl rfl rfl rfl ?_
 refine p_ (S_pcall rfl (AEvs.cons (.tmp rfl) AEvs.nil) (num_Put_ok _ (by first | assumption | omega))) ?_
 refine s_ (S_call rfl (AEvs.cons (.tmp rfl) (AEvs.cons (.tmp rfl) AEvs.nil)) (w_put_ok b u q l c hq (putL n) (by omega) F)) ?_
 rintro _ _ ⟨_, ⟨u2, q2, hq2, rfl, rfl⟩, rfl⟩
 refine AL_nil ?_
 refine ret_none (((b, .cells [addrB u2 b 87 3, bufAV q2 (wput c l (putL n)), .int .i64 (c)]) :: bufSt q2 5 (wput c l (putL n))) ++ F) rfl (Sub.l (List.Sublist.refl _)) ⟨_, ⟨u2, q2, hq2, rfl, rfl⟩, rfl⟩ (.inr rfl)
theorem w_Num_ok (b : Nat) (u : Bool) (q : Buf) (l : List UInt8) (c : Int) (hq : q.ok l) (n : Int) (hn : fits n) (hlen : l.length + 10 ≤ 140737488355328) (F : St) : ACalls Tryz.prog 37 [.ptr b 0, .int .i64 n] (((b, .cells [addrB u b 87 3, bufAV q (l), .int .i64 (c)]) :: bufSt q 5 (l)) ++ F) (fun x st' => ∃ foot', (∃ (u' : Bool) (q' : Buf), q'.ok (if n < 0 then l else wput c l (putL n.toNat)) ∧ x = .tup [] ∧ foot' = (b, .cells [addrB u' b 87 3, bufAV q' (if n < 0 then l else wput c l (putL n.toNat)), .int .i64 (if n < 0 then failC c 1 else c)]) :: bufSt q' 5 (if n < 0 then l else wput c l (putL n.toNat))) ∧ st' = foot' ++ F) := by
 refine co 14 Tryz.func37 ?_
 have hw := u64w n
 unfold fits at hn
 refine AC_seq ?_
 refine AC_seq (AC_region ?_)
 refine mv rfl rfl rfl rfl ?_
 refine p_ (S_lss rfl (.tmp rfl) (AEv.const _)) ?_
 refine AL_nil ?_
 refine AC_cond (.tmp rfl) (fun hb1 => ?_) (fun hb1 => ?_)
 ·try simp only [zA,zO,zN,zM,zP,zQ,zD,zF,gd] at hb1
  refine AC_seq (AC_region ?_)
  refine mv rfl rfl rfl rfl ?_
  refine p_ (S_nilCheck rfl (.tmp rfl)) ?_
  refine fl 2 ?_
  refine s_ (S_call rfl (AEvs.cons (.tmp rfl) (AEvs.cons (AEv.const _) AEvs.nil)) (sticks_Fail_ok b 2 [_, _, .int .i64 c] c 1 rfl _)) ?_
  rintro _ _ ⟨rfl, rfl⟩
  refine AL_nil (AC_ret ?_)
  refine ret_none (((b, .cells [addrB u b 87 3, bufAV q (l), .int .i64 (failC c 1)]) :: bufSt q 5 (l)) ++ F) rfl (Sub.l (List.Sublist.refl _)) ⟨_, ⟨u, q, by rw [if_pos (by assumption)]; exact hq, rfl, by rw [if_pos (by assumption), if_pos (by assumption)]⟩, rfl⟩ (.inl rfl)
 try simp only [zA,zO,zN,zM,zP,zQ,zD,zF,gd] at hb1
 refine AC_skip ?_
 refine AC_region ?_
 refine mv rfl rfl rfl rfl ?_
 refine mv rfl rfl rfl rfl ?_
 refine p_ (S_conv (k' := .u64) rfl (.tmp rfl) (by kernel_rfl) (by kernel_rfl)) ?_
 refine s_ (S_call rfl (AEvs.cons (.tmp rfl) (AEvs.cons (y := .int .u64 (n.toNat : Int)) ((AEv.tmp rfl).le (Le.of_eq (by rw [show IntKind.u64.wrap n = (n.toNat : Int) by omega]))) AEvs.nil)) (w_Big_ok b u q l c hq n.toNat (by omega) hlen F)) ?_
 rintro _ _ ⟨_, ⟨u2, q2, hq2, rfl, rfl⟩, rfl⟩
 refine AL_nil ?_
 refine ret_none (((b, .cells [addrB u2 b 87 3, bufAV q2 (wput c l (putL n.toNat)), .int .i64 (c)]) :: bufSt q2 5 (wput c l (putL n.toNat))) ++ F) rfl (Sub.l (List.Sublist.refl _)) ⟨_, ⟨u2, q2, by rw [if_neg (by omega)]; exact hq2, rfl, by rw [if_neg (by omega), if_neg (by omega)]⟩, rfl⟩ (.inr rfl)
theorem w_Text_ok (b : Nat) (u : Bool) (q : Buf) (l : List UInt8) (c : Int) (hq : q.ok l) (s : List UInt8) (hlen : l.length + s.length + 10 ≤ 140737488355328) (F : St) : ACalls Tryz.prog 13 [.ptr b 0, .S s] (((b, .cells [addrB u b 87 3, bufAV q (l), .int .i64 (c)]) :: bufSt q 5 (l)) ++ F) (fun x st' => ∃ foot', (∃ (u' : Bool) (q' : Buf), q'.ok (wput c l (putL s.length ++ s)) ∧ x = .tup [] ∧ foot' = (b, .cells [addrB u' b 87 3, bufAV q' (wput c l (putL s.length ++ s)), .int .i64 (c)]) :: bufSt q' 5 (wput c l (putL s.length ++ s))) ∧ st' = foot' ++ F) := by
 refine co 11 Tryz.func13 ?_
 have hp := putL_few s.length (by omega)
 have hwl := wput_len c l (putL s.length)
 have hneg : ¬ ((s.length : Int) < 0) := by omega
 refine AC_seq (AC_region ?_)
 refine mv rfl rfl rfl rfl ?_
 refine mv rfl rfl rfl rfl ?_
 refine p_ (S_lenS (ts := #[]) rfl (.tmp rfl) (by kernel_rfl)) ?_
 refine s_ (S_call rfl (AEvs.cons (.tmp rfl) (AEvs.cons (.tmp rfl) AEvs.nil)) (w_Num_ok b u q l c hq (s.length : Int) (by unfold fits; omega) (by omega) F)) ?_
 rintro _ _ ⟨_, ⟨u2, q2, hq2, rfl, rfl⟩, rfl⟩
 rw [if_neg hneg, Int.toNat_natCast] at hq2
 simp only [if_neg hneg, Int.toNat_natCast]
 refine AL_nil ?_
 refine AC_region ?_
 refine mv rfl rfl rfl rfl ?_
 refine mv rfl rfl rfl rfl ?_
 refine s_ (S_call rfl (AEvs.cons (.tmp rfl) (AEvs.cons (.tmp rfl) AEvs.nil)) (w_put_ok b u2 q2 (wput c l (putL s.length)) c hq2 s (by omega) F)) ?_
 rintro _ _ ⟨_, ⟨u3, q3, hq3, rfl, rfl⟩, rfl⟩
 rw [wput_wput] at hq3 ⊢
 refine AL_nil ?_
 refine ret_none (((b, .cells [addrB u3 b 87 3, bufAV q3 (wput c l (putL s.length ++ s)), .int .i64 (c)]) :: bufSt q3 5 (wput c l (putL s.length ++ s))) ++ F) rfl (Sub.l (List.Sublist.refl _)) ⟨_, ⟨u3, q3, hq3, rfl, rfl⟩, rfl⟩ (.inr rfl)
theorem w_End_ok (b : Nat) (u : Bool) (q : Buf) (l : List UInt8) (c : Int) (hq : q.ok l) (F : St) : ACalls Tryz.prog 14 [.ptr b 0] (((b, .cells [addrB u b 87 3, bufAV q (l), .int .i64 (c)]) :: bufSt q 5 (l)) ++ F) (fun x st' => ∃ foot', (∃ cs : List AV, x = .tup [.S (if c = 0 then l else []), .int .i64 c] ∧ foot' = [(b, .cells cs)]) ∧ st' = foot' ++ F) := by
 refine co 19 Tryz.func14 ?_
 refine AC_seq (AC_region ?_)
 refine p_ (S_assign rfl (AEv.S _)) ?_
 refine ac rfl rfl rfl ?_
 refine AL_nil ?_
 refine AC_seq ?_
 refine AC_seq (AC_region ?_)
 refine mv rfl rfl rfl rfl ?_
 refine p_ (S_nilCheck rfl (.tmp rfl)) ?_
 refine fl 2 ?_
 refine fl 0 ?_
 refine ld 0 ?_
 refine p_ (S_neq rfl (.tmp rfl) (AEv.const _)) ?_
 refine AL_nil ?_
 refine AC_cond (.tmp rfl) (fun hb1 => ?_) (fun hb1 => ?_)
 ·try simp only [zA,zO,zN,zM,zP,zQ,zD,zF,gd] at hb1
  refine AC_seq ?_
  refine AC_draw (by kernel_rfl) (by kernel_rfl) (.cons rfl (Q_p rfl (S_move rfl (.tmp rfl))) <|
    .cons rfl (Q_p rfl (S_nilCheck rfl (.tmp rfl))) <|
    .cons rfl (Q_p rfl (S_field 2 rfl (.tmp rfl) (by kernel_rfl))) <|
    .cons rfl (Q_p rfl (S_field 0 rfl (.tmp rfl) (by kernel_rfl))) <|
    .cons rfl (Q_p rfl (S_load 0 rfl (.tmp rfl) rfl rfl (by kernel_rfl))) <|
    .cons rfl (Q_p rfl (S_assign rfl (AEv.S _))) <|
    .cons rfl (Q_p rfl (S_assign rfl (.tmp rfl))) <|
    .nil) ?_
  refine AC_ret ?_
  refine ret_tmps (ts := [2, 3]) ([(b, Ob.cells [addrB u b 87 3, bufAV q l, .int .i64 c])] ++ F) rfl (by decide) rfl (Sub.l (.cons_cons _ (List.sublist_append_right _ _))) (Conv.refl (Sub.l (.cons_cons _ (List.sublist_append_right _ _))) _) ⟨_, ⟨_, by rw [if_neg (by assumption)], rfl⟩, rfl⟩ (.inl rfl)
 try simp only [zA,zO,zN,zM,zP,zQ,zD,zF,gd] at hb1
 have hc : c = 0 := by omega
 subst hc
 refine AC_skip ?_
 refine AC_seq (AC_region ?_)
 refine mv rfl rfl rfl rfl ?_
 refine p_ (S_nilCheck rfl (.tmp rfl)) ?_
 refine fl 0 ?_
 refine s_ (S_call rfl (AEvs.cons (.tmp rfl) AEvs.nil) (String_ok b q l (addrB u b 87 3) [_] hq F)) ?_
 rintro _ _ ⟨_, ⟨rfl, rfl⟩, rfl⟩
 refine as_ rfl rfl rfl rfl ?_
 refine ac rfl rfl rfl ?_
 refine AL_nil (AC_ret ?_)
 refine ret_tmps (ts := [2, 3]) ([(b, Ob.cells [addrB u b 87 3, bufAV q l, .int .i64 0])] ++ F) rfl (by decide) rfl (Sub.l (List.Sublist.refl _)) (Conv.refl (Sub.l (List.Sublist.refl _)) _) ⟨_, ⟨_, rfl, rfl⟩, rfl⟩ (.inl rfl)
end Go.Proofs.YtfmiciodcimkeaaGreatDoor

set_option maxRecDepth 100000
namespace Go.Proofs.YtfmiciodcimkeaaGreatDoor
open Go.AL Go.NumSpec
theorem wire_Read_ok (s : List UInt8) (F : St) : ACalls Tryz.prog 24 [.S s] ([] ++ F) (fun x st' => ∃ foot', (∃ b, x = .ptr b 0 ∧ foot' = [(b, Ob.cells [.S (s), .int .i64 (0)])]) ∧ st' = foot' ++ F) := by
 refine co 6 Tryz.func24 ?_
 refine AC_seq (AC_region ?_)
 refine ac rfl rfl rfl ?_
 refine AL_nil (AC_seq (AC_region ?_))
 refine mv rfl rfl rfl rfl ?_
 refine p_ (S_build (t := 117) (pl := [(0, 1), (1, 1)]) (zs := [.string ⟨#[]⟩, .int .i64 0]) rfl (AEvs.cons (.tmp rfl) AEvs.nil) (by kernel_rfl) rfl) ?_
 refine s_ (S_box rfl (.tmp rfl)) ?_
 rintro _ _ ⟨b1, rfl, rfl⟩
 refine as_ rfl rfl rfl rfl ?_
 refine AL_nil (AC_ret ?_)
 refine ret_tmp ([(b1, Ob.cells [.S (s), .int .i64 (0)])] ++ F) rfl rfl (Sub.l (List.Sublist.refl _)) (Conv.refl (Sub.l (List.Sublist.refl _)) _) ⟨_, ⟨b1, rfl, rfl⟩, rfl⟩ (.inl rfl)
theorem r_Code_ok (b : Nat) (s : List UInt8) (c : Int) (F : St) : ACalls Tryz.prog 30 [.ptr b 0] ([(b, Ob.cells [.S (s), .int .i64 (c)])] ++ F) (fun x st' => ∃ foot', (x = .int .i64 c ∧ foot' = [(b, Ob.cells [.S (s), .int .i64 (c)])]) ∧ st' = foot' ++ F) := by
 refine co 8 Tryz.func30 ?_
 refine AC_seq (AC_region ?_)
 refine ac rfl rfl rfl ?_
 refine AL_nil (AC_seq (AC_region ?_))
 refine mv rfl rfl rfl rfl ?_
 refine p_ (S_nilCheck rfl (.tmp rfl)) ?_
 refine fl 1 ?_
 refine fl 0 ?_
 refine ld 0 ?_
 refine as_ rfl rfl rfl rfl ?_
 refine AL_nil (AC_ret ?_)
 refine ret_tmp ([(b, Ob.cells [.S (s), .int .i64 (c)])] ++ F) rfl rfl (Sub.l (List.Sublist.refl _)) (Conv.refl (Sub.l (List.Sublist.refl _)) _) ⟨_, ⟨rfl, rfl⟩, rfl⟩ (.inl rfl)
theorem r_End_ok (b : Nat) (s : List UInt8) (c : Int) (F : St) : ACalls Tryz.prog 58 [.ptr b 0] ([(b, Ob.cells [.S (s), .int .i64 (c)])] ++ F) (fun x st' => ∃ foot', (x = .int .i64 (endR s c) ∧ foot' = [(b, Ob.cells [.S (s), .int .i64 (endR s c)])]) ∧ st' = foot' ++ F) := by
 refine co 18 Tryz.func58 ?_
 refine AC_seq (AC_region ?_)
 refine ac rfl rfl rfl ?_
 refine AL_nil ?_
 refine AC_seq ?_
 refine AC_seq (AC_region ?_)
 refine mv rfl rfl rfl rfl ?_
 refine p_ (S_nilCheck rfl (.tmp rfl)) ?_
 refine fl 0 ?_
 refine ld 0 ?_
 refine p_ (S_lenS (ts := #[]) rfl (.tmp rfl) (by kernel_rfl)) ?_
 refine p_ (S_gtr rfl (.tmp rfl) (AEv.const _)) ?_
 refine AL_nil ?_
 refine AC_cond (.tmp rfl) (fun hb1 => ?_) (fun hb1 => ?_)
 ·try simp only [zA,zO,zN,zM,zP,zQ,zD,zF,gd] at hb1
  have he : endR s c = failC c 3 := by rw [endR, if_pos (by intro h; subst h; simp at hb1)]
  refine AC_region ?_
  refine mv rfl rfl rfl rfl ?_
  refine p_ (S_nilCheck rfl (.tmp rfl)) ?_
  refine fl 1 ?_
  refine s_ (S_call rfl (AEvs.cons (.tmp rfl) (AEvs.cons (AEv.const _) AEvs.nil)) (sticks_Fail_ok b 1 _ c 3 rfl _)) ?_
  rintro _ _ ⟨rfl, rfl⟩
  refine AL_nil (AC_seq (AC_region ?_))
  refine mv rfl rfl rfl rfl ?_
  refine p_ (S_nilCheck rfl (.tmp rfl)) ?_
  refine fl 1 ?_
  refine fl 0 ?_
  refine ld 0 ?_
  refine as_ rfl rfl rfl rfl ?_
  refine AL_nil (AC_ret ?_)
  refine ret_tmp ([(b, Ob.cells [.S (s), .int .i64 (failC c 3)])] ++ F) rfl rfl (Sub.l (List.Sublist.refl _)) (Conv.refl (Sub.l (List.Sublist.refl _)) _) ⟨_, ⟨by rw [he] <;> rfl, by rw [he] <;> rfl⟩, rfl⟩ (.inl rfl)
 try simp only [zA,zO,zN,zM,zP,zQ,zD,zF,gd] at hb1
 have hs : s = [] := List.eq_nil_of_length_eq_zero (by omega)
 have he : endR s c = c := by rw [endR, if_neg (by simp [hs])]
 refine AC_skip ?_
 refine AC_seq (AC_region ?_)
 refine mv rfl rfl rfl rfl ?_
 refine p_ (S_nilCheck rfl (.tmp rfl)) ?_
 refine fl 1 ?_
 refine fl 0 ?_
 refine ld 0 ?_
 refine as_ rfl rfl rfl rfl ?_
 refine AL_nil (AC_ret ?_)
 refine ret_tmp ([(b, Ob.cells [.S (s), .int .i64 (c)])] ++ F) rfl rfl (Sub.l (List.Sublist.refl _)) (Conv.refl (Sub.l (List.Sublist.refl _)) _) ⟨_, ⟨by rw [he] <;> rfl, by rw [he] <;> rfl⟩, rfl⟩ (.inl rfl)
theorem r_lacks_ok (b : Nat) (s : List UInt8) (c : Int) (F : St) : ACalls Tryz.prog 129 [.ptr b 0] ([(b, Ob.cells [.S (s), .int .i64 (c)])] ++ F) (fun x st' => ∃ foot', (x = .bool (lacksV s) ∧ foot' = [(b, Ob.cells [.S (s), .int .i64 (c)])]) ∧ st' = foot' ++ F) := by
 refine co 27 Tryz.func129 ?_
 refine AC_seq (AC_region ?_)
 refine ac rfl rfl rfl ?_
 refine AL_nil ?_
 refine AC_seq ?_
 refine AC_seq (AC_region ?_)
 refine mv rfl rfl rfl rfl ?_
 refine p_ (S_nilCheck rfl (.tmp rfl)) ?_
 refine fl 0 ?_
 refine ld 0 ?_
 refine p_ (S_lenS (ts := #[]) rfl (.tmp rfl) (by kernel_rfl)) ?_
 refine p_ (S_min rfl (.tmp rfl) (AEv.const _)) ?_
 refine p_ (S_move rfl (AEv.const _)) ?_
 refine AL_nil ?_
 refine AC_block ?_
 refine AC_loop (G := Nat) (fun k => (k : Int) ≤ min (s.length : Int) 10 ∧ ∀ i : Nat, i < k → 128 ≤ (s.getD i 0).toNat) (fun k => [(0, .ptr b 0), (9, .int .i64 (min (s.length : Int) 10)), (10, .int .i64 (k : Int))]) (fun k => ([(b, Ob.cells [.S (s), .int .i64 (c)])] ++ F)) (fun k => 10 - k) (0) (⟨by omega, fun i hi => by omega⟩) rfl ?_ ?_
 ·exact (.cons rfl (by first | exact Le.refl _ | exact Le.nils | exact Le.row _ _ _ _ | (exact Le.of_eq (by simp))) (.cons rfl (by first | exact Le.refl _ | exact Le.nils | exact Le.row _ _ _ _ | (exact Le.of_eq (by simp))) (.cons rfl (by first | exact Le.refl _ | exact Le.nils | exact Le.row _ _ _ _ | (exact Le.of_eq (by simp))) .nil)))
 rintro k ⟨hk, hall⟩
 try dsimp only
 have hat := atL_nat s k
 refine AC_seq (AC_region ?_)
 refine p_ (S_lss rfl (.tmp rfl) (.tmp rfl)) ?_
 refine AL_nil ?_
 refine AC_seq ?_
 refine AC_cond (.tmp rfl) (fun hb1 => ?_) (fun hb1 => ?_)
 ·try simp only [zA,zO,zN,zM,zP,zQ,zD,zF,gd] at hb1
  have hk1 : k < s.length := by omega
  have hk2 : k < 10 := by omega
  refine AC_skip ?_
  refine AC_seq ?_
  refine AC_block ?_
  refine AC_seq (AC_region ?_)
  refine mv rfl rfl rfl rfl ?_
  refine as_ rfl rfl rfl rfl ?_
  refine AL_nil (AC_seq (AC_region ?_))
  refine mv rfl rfl rfl rfl ?_
  refine p_ (S_nilCheck rfl (.tmp rfl)) ?_
  refine fl 0 ?_
  refine ld 0 ?_
  refine mv rfl rfl rfl rfl ?_
  refine p_ (S_index rfl (.tmp rfl) (.tmp rfl) (by kernel_rfl) (by omega) (by omega)) ?_
  refine p_ (S_lss rfl (.tmp rfl) (AEv.const _)) ?_
  refine AL_nil ?_
  refine AC_cond (.tmp rfl) (fun hb2 => ?_) (fun hb2 => ?_)
  ·try simp only [zA,zO,zN,zM,zP,zQ,zD,zF,gd] at hb2
   have hl := lacks_false hk1 hk2 (by omega)
   refine AC_seq (AC_region ?_)
   refine ac rfl rfl rfl ?_
   refine AL_nil (AC_ret ?_)
   refine ret_tmp ([(b, Ob.cells [.S (s), .int .i64 (c)])] ++ F) rfl rfl (Sub.l (List.Sublist.refl _)) (Conv.refl (Sub.l (List.Sublist.refl _)) _) ⟨_, ⟨by rw [hl], rfl⟩, rfl⟩ (.inl rfl)
  try simp only [zA,zO,zN,zM,zP,zQ,zD,zF,gd] at hb2
  refine AC_skip ?_
  refine AC_region ?_
  refine p_ (S_addI rfl (.tmp rfl) (AEv.const _) (by omega) (by omega)) ?_
  refine mv rfl rfl rfl rfl ?_
  refine AL_nil ?_
  refine ⟨k + 1, ⟨by omega, fun i hi => ?_⟩, by omega, rfl, .cons rfl (Le.refl _) (.cons rfl (Le.refl _) (.cons rfl (Le.of_eq (by rw [Int.natCast_add]; rfl)) .nil))⟩
  rcases Nat.lt_or_ge i k with h | h
  ·exact hall i h
  ·obtain rfl : i = k := by omega
   omega
 try simp only [zA,zO,zN,zM,zP,zQ,zD,zF,gd] at hb1
 have hl := lacks_end hall (by omega)
 refine AC_exit ?_
 refine AC_seq (AC_region ?_)
 refine mv rfl rfl rfl rfl ?_
 refine p_ (S_nilCheck rfl (.tmp rfl)) ?_
 refine fl 0 ?_
 refine ld 0 ?_
 refine p_ (S_lenS (ts := #[]) rfl (.tmp rfl) (by kernel_rfl)) ?_
 refine p_ (S_lss rfl (.tmp rfl) (AEv.const _)) ?_
 refine as_ rfl rfl rfl rfl ?_
 refine AL_nil (AC_ret ?_)
 refine ret_tmp ([(b, Ob.cells [.S (s), .int .i64 (c)])] ++ F) rfl rfl (Sub.l (List.Sublist.refl _)) (Conv.refl (Sub.l (List.Sublist.refl _)) _) ⟨_, ⟨by rw [hl], rfl⟩, rfl⟩ (.inl rfl)
theorem r_Big_ok (b : Nat) (s : List UInt8) (c : Int) (F : St) : ACalls Tryz.prog 107 [.ptr b 0] ([(b, Ob.cells [.S (s), .int .i64 (c)])] ++ F) (fun x st' => ∃ foot', (x = .int .u64 ((bigR s c).1 : Int) ∧ foot' = [(b, Ob.cells [.S ((bigR s c).2.1), .int .i64 ((bigR s c).2.2)])]) ∧ st' = foot' ++ F) := by
 refine co 41 Tryz.func107 ?_
 have hle := takeV_le s
 refine AC_seq (AC_region ?_)
 refine ac rfl rfl rfl ?_
 refine AL_nil ?_
 refine AC_seq ?_
 refine AC_seq (AC_region ?_)
 refine mv rfl rfl rfl rfl ?_
 refine p_ (S_nilCheck rfl (.tmp rfl)) ?_
 refine fl 1 ?_
 refine fl 0 ?_
 refine ld 0 ?_
 refine p_ (S_neq rfl (.tmp rfl) (AEv.const _)) ?_
 refine AL_nil ?_
 refine AC_cond (.tmp rfl) (fun hb1 => ?_) (fun hb1 => ?_)
 ·try simp only [zA,zO,zN,zM,zP,zQ,zD,zF,gd] at hb1
  have he := bigR_err (s := s) (c := c) (by omega)
  refine AC_seq (AC_region ?_)
  refine ac rfl rfl rfl ?_
  refine AL_nil (AC_ret ?_)
  refine ret_tmp ([(b, Ob.cells [.S (s), .int .i64 (c)])] ++ F) rfl rfl (Sub.l (List.Sublist.refl _)) (Conv.refl (Sub.l (List.Sublist.refl _)) _) ⟨_, ⟨by rw [he] <;> rfl, by rw [he] <;> rfl⟩, rfl⟩ (.inl rfl)
 try simp only [zA,zO,zN,zM,zP,zQ,zD,zF,gd] at hb1
 have hc : c = 0 := by omega
 subst hc
 refine AC_skip ?_
 refine AC_seq ?_
 refine AC_seq (AC_region ?_)
 refine mv rfl rfl rfl rfl ?_
 refine s_ (S_call rfl (AEvs.cons (.tmp rfl) AEvs.nil) (r_lacks_ok b s _ F)) ?_
 rintro _ _ ⟨_, ⟨rfl, rfl⟩, rfl⟩
 refine AL_nil ?_
 refine AC_cond (.tmp rfl) (fun hb2 => ?_) (fun hb2 => ?_)
 ·try simp only [zA,zO,zN,zM,zP,zQ,zD,zF,gd] at hb2
  have he := bigR_lack (s := s) hb2
  refine AC_seq (AC_region ?_)
  refine mv rfl rfl rfl rfl ?_
  refine p_ (S_nilCheck rfl (.tmp rfl)) ?_
  refine fl 1 ?_
  refine s_ (S_call rfl (AEvs.cons (.tmp rfl) (AEvs.cons (AEv.const _) AEvs.nil)) (sticks_Fail_ok b 1 _ _ 40 rfl _)) ?_
  rintro _ _ ⟨rfl, rfl⟩
  refine AL_nil (AC_seq (AC_region ?_))
  refine ac rfl rfl rfl ?_
  refine AL_nil (AC_ret ?_)
  refine ret_tmp ([(b, Ob.cells [.S (s), .int .i64 (40)])] ++ F) rfl rfl (Sub.l (List.Sublist.refl _)) (Conv.refl (Sub.l (List.Sublist.refl _)) _) ⟨_, ⟨by rw [he] <;> rfl, by rw [he] <;> rfl⟩, rfl⟩ (.inl rfl)
 try simp only [zA,zO,zN,zM,zP,zQ,zD,zF,gd] at hb2
 have hl : lacksV s = false := hb2
 refine AC_skip ?_
 refine AC_seq (AC_region ?_)
 refine mv rfl rfl rfl rfl ?_
 refine p_ (S_nilCheck rfl (.tmp rfl)) ?_
 refine fl 0 ?_
 refine ld 0 ?_
 refine p_ (S_pcall rfl (AEvs.cons (.tmp rfl) AEvs.nil) (num_Take_ok _)) ?_
 refine mv rfl rfl rfl rfl ?_
 refine ex 0 ?_
 refine ex 1 ?_
 refine as_ rfl rfl rfl rfl ?_
 refine as_ rfl rfl rfl rfl ?_
 refine AL_nil ?_
 refine AC_seq ?_
 refine AC_seq (AC_region ?_)
 refine mv rfl rfl rfl rfl ?_
 refine p_ (S_eql rfl (.tmp rfl) (AEv.const _)) ?_
 refine AL_nil ?_
 refine AC_cond (.tmp rfl) (fun hb3 => ?_) (fun hb3 => ?_)
 ·try simp only [zA,zO,zN,zM,zP,zQ,zD,zF,gd] at hb3
  have he := bigR_form hl (by omega)
  refine AC_seq (AC_region ?_)
  refine mv rfl rfl rfl rfl ?_
  refine p_ (S_nilCheck rfl (.tmp rfl)) ?_
  refine fl 1 ?_
  refine s_ (S_call rfl (AEvs.cons (.tmp rfl) (AEvs.cons (AEv.const _) AEvs.nil)) (sticks_Fail_ok b 1 _ _ 3 rfl _)) ?_
  rintro _ _ ⟨rfl, rfl⟩
  refine AL_nil (AC_seq (AC_region ?_))
  refine ac rfl rfl rfl ?_
  refine AL_nil (AC_ret ?_)
  refine ret_tmp ([(b, Ob.cells [.S (s), .int .i64 (3)])] ++ F) rfl rfl (Sub.l (List.Sublist.refl _)) (Conv.refl (Sub.l (List.Sublist.refl _)) _) ⟨_, ⟨by rw [he] <;> rfl, by rw [he] <;> rfl⟩, rfl⟩ (.inl rfl)
 try simp only [zA,zO,zN,zM,zP,zQ,zD,zF,gd] at hb3
 have he := bigR_ok hl (by omega)
 refine AC_skip ?_
 refine AC_seq (AC_region ?_)
 refine mv rfl rfl rfl rfl ?_
 refine mv rfl rfl rfl rfl ?_
 refine p_ (S_nilCheck rfl (.tmp rfl)) ?_
 refine fl 0 ?_
 refine ld 0 ?_
 refine mv rfl rfl rfl rfl ?_
 refine p_ (S_sliceL rfl (.tmp rfl) (.tmp rfl) (by kernel_rfl) (by omega) (by omega)) ?_
 refine p_ (S_nilCheck rfl (.tmp rfl)) ?_
 refine fl 0 ?_
 refine st1 0 ?_
 refine AL_nil (AC_seq (AC_region ?_))
 refine mv rfl rfl rfl rfl ?_
 refine as_ rfl rfl rfl rfl ?_
 refine AL_nil (AC_ret ?_)
 refine ret_tmp ([(b, Ob.cells [.S (s.drop (takeV s).2), .int .i64 (0)])] ++ F) rfl rfl (Sub.l (List.Sublist.refl _)) (Conv.refl (Sub.l (List.Sublist.refl _)) _) ⟨_, ⟨by rw [he] <;> rfl, by rw [he] <;> rfl⟩, rfl⟩ (.inl rfl)
theorem r_Num_ok (b : Nat) (s : List UInt8) (c : Int) (most : Int) (hm : fits most) (F : St) : ACalls Tryz.prog 73 [.ptr b 0, .int .i64 most] ([(b, Ob.cells [.S (s), .int .i64 (c)])] ++ F) (fun x st' => ∃ foot', (x = .int .i64 (numR s c most).1 ∧ foot' = [(b, Ob.cells [.S ((numR s c most).2.1), .int .i64 ((numR s c most).2.2)])]) ∧ st' = foot' ++ F) := by
 refine co 42 Tryz.func73 ?_
 have hlt := bigR_lt s c
 unfold fits at hm
 have hw := u64w (max most 0)
 refine AC_seq (AC_region ?_)
 refine ac rfl rfl rfl ?_
 refine AL_nil (AC_seq (AC_region ?_))
 refine mv rfl rfl rfl rfl ?_
 refine p_ (S_nilCheck rfl (.tmp rfl)) ?_
 refine fl 0 ?_
 refine ld 0 ?_
 refine as_ rfl rfl rfl rfl ?_
 refine AL_nil (AC_seq (AC_region ?_))
 refine mv rfl rfl rfl rfl ?_
 refine s_ (S_call rfl (AEvs.cons (.tmp rfl) AEvs.nil) (r_Big_ok b s c F)) ?_
 rintro _ _ ⟨_, ⟨rfl, rfl⟩, rfl⟩
 refine as_ rfl rfl rfl rfl ?_
 refine AL_nil ?_
 refine AC_seq ?_
 refine AC_seq (AC_region ?_)
 refine mv rfl rfl rfl rfl ?_
 refine p_ (S_nilCheck rfl (.tmp rfl)) ?_
 refine fl 1 ?_
 refine fl 0 ?_
 refine ld 0 ?_
 refine p_ (S_eql rfl (.tmp rfl) (AEv.const _)) ?_
 refine mv rfl rfl rfl rfl ?_
 refine g_ (fun _ => mA) ?_
 refine g_ (fun _ => mA) ?_
 refine g_ (fun _ => S_max rfl (AEv.cd (.tmp rfl)) (AEv.const _)) ?_
 refine g_ (fun _ => S_conv (k' := .u64) rfl (AEv.cd (.tmp rfl)) (by kernel_rfl) (by kernel_rfl)) ?_
 refine g_ (fun _ => S_gtr rfl (AEv.cd (.tmp rfl)) (AEv.cd (.tmp rfl))) ?_
 refine an ?_
 refine AL_nil ?_
 refine AC_cond (.tmp rfl) (fun hb17 => ?_) (fun hb17 => ?_)
 ·try simp only [zA,zO,zN,zM,zP,zQ,zD,zF,gd] at hb17
  have hc : (bigR s c).2.2 = 0 := by omega
  have he : numR s c most = (0, s, 2) := by rw [numR, if_pos ⟨hc, by omega⟩]
  rw [hc]
  refine AC_seq (AC_region ?_)
  refine mv rfl rfl rfl rfl ?_
  refine mv rfl rfl rfl rfl ?_
  refine p_ (S_nilCheck rfl (.tmp rfl)) ?_
  refine fl 0 ?_
  refine st1 0 ?_
  refine AL_nil ?_
  refine AC_region ?_
  refine mv rfl rfl rfl rfl ?_
  refine p_ (S_nilCheck rfl (.tmp rfl)) ?_
  refine fl 1 ?_
  refine s_ (S_call rfl (AEvs.cons (.tmp rfl) (AEvs.cons (AEv.const _) AEvs.nil)) (sticks_Fail_ok b 1 _ _ 2 rfl _)) ?_
  rintro _ _ ⟨rfl, rfl⟩
  refine AL_nil ?_
  refine AC_seq ?_
  refine AC_seq (AC_region ?_)
  refine mv rfl rfl rfl rfl ?_
  refine p_ (S_nilCheck rfl (.tmp rfl)) ?_
  refine fl 1 ?_
  refine fl 0 ?_
  refine ld 0 ?_
  refine p_ (S_neq rfl (.tmp rfl) (AEv.const _)) ?_
  refine AL_nil ?_
  refine AC_cond (.tmp rfl) (fun hb18 => ?_) (fun hb18 => ?_)
  ·try simp only [zA,zO,zN,zM,zP,zQ,zD,zF,gd] at hb18
   refine AC_seq (AC_region ?_)
   refine ac rfl rfl rfl ?_
   refine AL_nil (AC_ret ?_)
   refine ret_tmp ([(b, Ob.cells [.S (s), .int .i64 (2)])] ++ F) rfl rfl (Sub.l (List.Sublist.refl _)) (Conv.refl (Sub.l (List.Sublist.refl _)) _) ⟨_, ⟨by rw [he] <;> rfl, by rw [he] <;> rfl⟩, rfl⟩ (.inl rfl)
  exact absurd hb18 (by decide)
 try simp only [zA,zO,zN,zM,zP,zQ,zD,zF,gd] at hb17
 have hne : ¬ ((bigR s c).2.2 = 0 ∧ max most 0 < (bigR s c).1) := by omega
 refine AC_skip ?_
 refine AC_seq ?_
 refine AC_seq (AC_region ?_)
 refine mv rfl rfl rfl rfl ?_
 refine p_ (S_nilCheck rfl (.tmp rfl)) ?_
 refine fl 1 ?_
 refine fl 0 ?_
 refine ld 0 ?_
 refine p_ (S_neq rfl (.tmp rfl) (AEv.const _)) ?_
 refine AL_nil ?_
 refine AC_cond (.tmp rfl) (fun hb19 => ?_) (fun hb19 => ?_)
 ·try simp only [zA,zO,zN,zM,zP,zQ,zD,zF,gd] at hb19
  refine AC_seq (AC_region ?_)
  refine ac rfl rfl rfl ?_
  refine AL_nil (AC_ret ?_)
  refine ret_tmp ([(b, Ob.cells [.S ((bigR s c).2.1), .int .i64 ((bigR s c).2.2)])] ++ F) rfl rfl (Sub.l (List.Sublist.refl _)) (Conv.refl (Sub.l (List.Sublist.refl _)) _) ⟨_, ⟨by rw [numR, if_neg hne, if_pos (by assumption)], by rw [numR, if_neg hne, if_pos (by assumption)]⟩, rfl⟩ (.inl rfl)
 try simp only [zA,zO,zN,zM,zP,zQ,zD,zF,gd] at hb19
 refine AC_skip ?_
 refine AC_seq (AC_region ?_)
 refine mv rfl rfl rfl rfl ?_
 refine p_ (S_conv (k' := .i64) rfl (.tmp rfl) (by kernel_rfl) (by kernel_rfl)) ?_
 refine as_ rfl rfl rfl rfl ?_
 refine AL_nil (AC_ret ?_)
 refine ret_tmp ([(b, Ob.cells [.S ((bigR s c).2.1), .int .i64 ((bigR s c).2.2)])] ++ F) rfl rfl (Sub.l (List.Sublist.refl _)) (Conv.refl (Sub.l (List.Sublist.refl _)) _) ⟨_, ⟨by rw [numR, if_neg hne, if_neg (by omega)]; rw [wrap_i64 (by omega) (by omega)], by rw [numR, if_neg hne, if_neg (by omega)]; rw [show (bigR s c).2.2 = 0 by omega]⟩, rfl⟩ (.inl rfl)
theorem r_Text_ok (b : Nat) (s : List UInt8) (c : Int) (most : Int) (hm : fits most) (F : St) : ACalls Tryz.prog 67 [.ptr b 0, .int .i64 most] ([(b, Ob.cells [.S (s), .int .i64 (c)])] ++ F) (fun x st' => ∃ foot', (x = .S (wtextR s c most).1 ∧ foot' = [(b, Ob.cells [.S ((wtextR s c most).2.1), .int .i64 ((wtextR s c most).2.2)])]) ∧ st' = foot' ++ F) := by
 refine co 43 Tryz.func67 ?_
 have h0 := numR_nonneg s c most
 have herr := numR_err (s := s) (c := c) (most := most)
 refine AC_seq (AC_region ?_)
 refine p_ (S_assign rfl (AEv.S _)) ?_
 refine AL_nil (AC_seq (AC_region ?_))
 refine mv rfl rfl rfl rfl ?_
 refine mv rfl rfl rfl rfl ?_
 refine s_ (S_call rfl (AEvs.cons (.tmp rfl) (AEvs.cons (.tmp rfl) AEvs.nil)) (r_Num_ok b s c most hm F)) ?_
 rintro _ _ ⟨_, ⟨rfl, rfl⟩, rfl⟩
 refine as_ rfl rfl rfl rfl ?_
 refine AL_nil ?_
 refine AC_seq ?_
 refine AC_seq (AC_region ?_)
 refine mv rfl rfl rfl rfl ?_
 refine mv rfl rfl rfl rfl ?_
 refine p_ (S_nilCheck rfl (.tmp rfl)) ?_
 refine fl 0 ?_
 refine ld 0 ?_
 refine p_ (S_lenS (ts := #[]) rfl (.tmp rfl) (by kernel_rfl)) ?_
 refine p_ (S_gtr rfl (.tmp rfl) (.tmp rfl)) ?_
 refine AL_nil ?_
 refine AC_cond (.tmp rfl) (fun hb1 => ?_) (fun hb1 => ?_)
 ·try simp only [zA,zO,zN,zM,zP,zQ,zD,zF,gd] at hb1
  have hc : (numR s c most).2.2 = 0 := Decidable.byContradiction fun h => by have := herr h; omega
  have he : wtextR s c most = ([], (numR s c most).2.1, 40) := by rw [wtextR, if_pos ⟨hc, by omega⟩]
  rw [hc]
  refine AC_region ?_
  refine mv rfl rfl rfl rfl ?_
  refine p_ (S_nilCheck rfl (.tmp rfl)) ?_
  refine fl 1 ?_
  refine s_ (S_call rfl (AEvs.cons (.tmp rfl) (AEvs.cons (AEv.const _) AEvs.nil)) (sticks_Fail_ok b 1 _ _ 40 rfl _)) ?_
  rintro _ _ ⟨rfl, rfl⟩
  refine AL_nil ?_
  refine AC_seq ?_
  refine AC_seq (AC_region ?_)
  refine mv rfl rfl rfl rfl ?_
  refine p_ (S_nilCheck rfl (.tmp rfl)) ?_
  refine fl 1 ?_
  refine fl 0 ?_
  refine ld 0 ?_
  refine p_ (S_neq rfl (.tmp rfl) (AEv.const _)) ?_
  refine AL_nil ?_
  refine AC_cond (.tmp rfl) (fun hb2 => ?_) (fun hb2 => ?_)
  ·try simp only [zA,zO,zN,zM,zP,zQ,zD,zF,gd] at hb2
   refine AC_seq (AC_region ?_)
   refine p_ (S_assign rfl (AEv.S _)) ?_
   refine AL_nil (AC_ret ?_)
   refine ret_tmp ([(b, Ob.cells [.S ((numR s c most).2.1), .int .i64 (40)])] ++ F) rfl rfl (Sub.l (List.Sublist.refl _)) (Conv.refl (Sub.l (List.Sublist.refl _)) _) ⟨_, ⟨by rw [he] <;> rfl, by rw [he] <;> rfl⟩, rfl⟩ (.inl rfl)
  exact absurd hb2 (by decide)
 try simp only [zA,zO,zN,zM,zP,zQ,zD,zF,gd] at hb1
 have hne : ¬ ((numR s c most).2.2 = 0 ∧ ((numR s c most).2.1.length : Int) < (numR s c most).1) := by omega
 refine AC_skip ?_
 refine AC_seq ?_
 refine AC_seq (AC_region ?_)
 refine mv rfl rfl rfl rfl ?_
 refine p_ (S_nilCheck rfl (.tmp rfl)) ?_
 refine fl 1 ?_
 refine fl 0 ?_
 refine ld 0 ?_
 refine p_ (S_neq rfl (.tmp rfl) (AEv.const _)) ?_
 refine AL_nil ?_
 refine AC_cond (.tmp rfl) (fun hb3 => ?_) (fun hb3 => ?_)
 ·try simp only [zA,zO,zN,zM,zP,zQ,zD,zF,gd] at hb3
  refine AC_seq (AC_region ?_)
  refine p_ (S_assign rfl (AEv.S _)) ?_
  refine AL_nil (AC_ret ?_)
  refine ret_tmp ([(b, Ob.cells [.S ((numR s c most).2.1), .int .i64 ((numR s c most).2.2)])] ++ F) rfl rfl (Sub.l (List.Sublist.refl _)) (Conv.refl (Sub.l (List.Sublist.refl _)) _) ⟨_, ⟨by rw [wtextR, if_neg hne, if_pos (by assumption)], by rw [wtextR, if_neg hne, if_pos (by assumption)]⟩, rfl⟩ (.inl rfl)
 try simp only [zA,zO,zN,zM,zP,zQ,zD,zF,gd] at hb3
 refine AC_skip ?_
 refine AC_seq (AC_region ?_)
 refine mv rfl rfl rfl rfl ?_
 refine p_ (S_nilCheck rfl (.tmp rfl)) ?_
 refine fl 0 ?_
 refine ld 0 ?_
 refine mv rfl rfl rfl rfl ?_
 refine p_ (S_sliceH rfl (.tmp rfl) (.tmp rfl) (by kernel_rfl) (by omega) (by omega)) ?_
 refine as_ rfl rfl rfl rfl ?_
 refine AL_nil (AC_seq (AC_region ?_))
 refine mv rfl rfl rfl rfl ?_
 refine mv rfl rfl rfl rfl ?_
 refine p_ (S_nilCheck rfl (.tmp rfl)) ?_
 refine fl 0 ?_
 refine ld 0 ?_
 refine mv rfl rfl rfl rfl ?_
 refine p_ (S_sliceL rfl (.tmp rfl) (.tmp rfl) (by kernel_rfl) (by omega) (by omega)) ?_
 refine p_ (S_nilCheck rfl (.tmp rfl)) ?_
 refine fl 0 ?_
 refine st1 0 ?_
 refine AL_nil (AC_seq (AC_region ?_))
 refine mv rfl rfl rfl rfl ?_
 refine as_ rfl rfl rfl rfl ?_
 refine AL_nil (AC_ret ?_)
 refine ret_tmp ([(b, Ob.cells [.S ((numR s c most).2.1.drop (numR s c most).1.toNat), .int .i64 ((numR s c most).2.2)])] ++ F) rfl rfl (Sub.l (List.Sublist.refl _)) (Conv.refl (Sub.l (List.Sublist.refl _)) _) ⟨_, ⟨by rw [wtextR, if_neg hne, if_neg (by omega)], by rw [wtextR, if_neg hne, if_neg (by omega)]; rw [show (numR s c most).2.2 = 0 by omega]⟩, rfl⟩ (.inl rfl)
end Go.Proofs.YtfmiciodcimkeaaGreatDoor

set_option maxRecDepth 100000
namespace Go.Proofs.YtfmiciodcimkeaaGreatDoor
open Go.AL Go.NumSpec
theorem w_NumN (b : Nat) (u2 : Bool) (q2 : Buf) (l : List UInt8) (c : Int) (hq2 : q2.ok l)  (hl : l.length + 10 ≤ 100000000000) (n : Int) (h0 : 0 ≤ n) (hn : n ≤ 9223372036854775807) (F : St) : ACalls Tryz.prog 37 [.ptr b 0, .int .i64 n] (((b, .cells [addrB u2 b 87 3, bufAV q2 (l), .int .i64 (c)]) :: bufSt q2 5 (l)) ++ F) (fun x st' => ∃ foot', (∃ (u' : Bool) (q' : Buf), q'.ok (wput c l (numB n)) ∧ x = .tup [] ∧ foot' = (b, .cells [addrB u' b 87 3, bufAV q' (wput c l (numB n)), .int .i64 (c)]) :: bufSt q' 5 (wput c l (numB n))) ∧ st' = foot' ++ F) := by
 have h := w_Num_ok b u2 q2 l c hq2 n ⟨by omega, hn⟩ (by omega) F
 rw [if_neg (show ¬ n < 0 by omega), if_neg (show ¬ n < 0 by omega)] at h
 exact h
theorem w_TextN (b : Nat) (u2 : Bool) (q2 : Buf) (l : List UInt8) (c : Int) (hq2 : q2.ok l)  (hl : l.length + 10 ≤ 100000000000) (s : List UInt8) (hs : s.length ≤ 1000000000) (hls : l.length + (s.length + 10) ≤ 100000000000) (F : St) : ACalls Tryz.prog 13 [.ptr b 0, .S s] (((b, .cells [addrB u2 b 87 3, bufAV q2 (l), .int .i64 (c)]) :: bufSt q2 5 (l)) ++ F) (fun x st' => ∃ foot', (∃ (u' : Bool) (q' : Buf), q'.ok (wput c l (textB s)) ∧ x = .tup [] ∧ foot' = (b, .cells [addrB u' b 87 3, bufAV q' (wput c l (textB s)), .int .i64 (c)]) :: bufSt q' 5 (wput c l (textB s))) ∧ st' = foot' ++ F) := w_Text_ok b u2 q2 l c hq2 s (by omega) F
theorem putRes_ok (b : Nat) (u2 : Bool) (q2 : Buf) (l : List UInt8) (c : Int) (hq2 : q2.ok l)  (hl : l.length + 30 ≤ 100000000000) (r : Tri) (hr : TriOk r) (F : St) : ACalls Tryz.prog 77 [.ptr b 0, .agg [.int .i64 r.1, .int .i64 r.2.1, .int .i64 r.2.2]] (((b, .cells [addrB u2 b 87 3, bufAV q2 (l), .int .i64 (c)]) :: bufSt q2 5 (l)) ++ F) (fun x st' => ∃ foot', (∃ (u' : Bool) (q' : Buf), q'.ok (wput c l (triB r)) ∧ x = .tup [] ∧ foot' = (b, .cells [addrB u' b 87 3, bufAV q' (wput c l (triB r)), .int .i64 (c)]) :: bufSt q' 5 (wput c l (triB r))) ∧ st' = foot' ++ F) := by
 refine co 16 Tryz.func77 ?_
 have hr1 := hr.1
 have hr2 := hr.2.1
 have hr3 := hr.2.2
 unfold MR at hr1 hr2 hr3
 have n1 := numB_len (n := r.1) (by omega)
 have n2 := numB_len (n := r.2.1) (by omega)
 have n3 := numB_len (n := r.2.2) (by omega)
 refine AC_seq (AC_region ?_)
 refine s_ (S_box rfl (.tmp rfl)) ?_
 rintro _ _ ⟨b3, rfl, rfl⟩
 refine AL_nil (AC_seq (AC_region ?_))
 refine mv rfl rfl rfl rfl ?_
 refine fl 0 ?_
 refine ld 0 ?_
 refine s_ (S_call rfl (AEvs.cons (.tmp rfl) (AEvs.cons (.tmp rfl) AEvs.nil)) (ACalls.preQ (pre := [_]) (F := F) (w_NumN b u2 q2 _ c hq2 (by first | omega | (refine Nat.le_trans (Nat.add_le_add_right (wput_len _ _ _) _) ?_; (try simp only [List.length_append]); omega)) r.1 (by omega) (by omega) _))) ?_
 rintro _ _ ⟨_, ⟨u2, q2, hq2, rfl, rfl⟩, rfl⟩
 refine AL_nil (AC_seq (AC_region ?_))
 refine mv rfl rfl rfl rfl ?_
 refine fl 1 ?_
 refine ld 0 ?_
 refine s_ (S_call rfl (AEvs.cons (.tmp rfl) (AEvs.cons (.tmp rfl) AEvs.nil)) (ACalls.preQ (pre := [_]) (F := F) (w_NumN b u2 q2 _ c hq2 (by first | omega | (refine Nat.le_trans (Nat.add_le_add_right (wput_len _ _ _) _) ?_; (try simp only [List.length_append]); omega)) r.2.1 (by omega) (by omega) _))) ?_
 rintro _ _ ⟨_, ⟨u2, q2, hq2, rfl, rfl⟩, rfl⟩
 rw [wput_wput] at hq2 ⊢
 refine AL_nil ?_
 refine AC_region ?_
 refine mv rfl rfl rfl rfl ?_
 refine fl 2 ?_
 refine ld 0 ?_
 refine s_ (S_call rfl (AEvs.cons (.tmp rfl) (AEvs.cons (.tmp rfl) AEvs.nil)) (ACalls.preQ (pre := [_]) (F := F) (w_NumN b u2 q2 _ c hq2 (by first | omega | (refine Nat.le_trans (Nat.add_le_add_right (wput_len _ _ _) _) ?_; (try simp only [List.length_append]); omega)) r.2.2 (by omega) (by omega) _))) ?_
 rintro _ _ ⟨_, ⟨u2, q2, hq2, rfl, rfl⟩, rfl⟩
 rw [wput_wput] at hq2 ⊢
 rw [triB_assoc] at hq2 ⊢
 refine AL_nil ?_
 refine ret_none (((b, .cells [addrB u2 b 87 3, bufAV q2 (wput c l (triB r)), .int .i64 (c)]) :: bufSt q2 5 (wput c l (triB r))) ++ F) rfl (Sub.l (List.sublist_cons_self _ _)) ⟨_, ⟨u2, q2, hq2, rfl, rfl⟩, rfl⟩ (.inr rfl)
theorem putC1_ok (b : Nat) (u2 : Bool) (q2 : Buf) (l : List UInt8) (c : Int) (hq2 : q2.ok l)  (hl : l.length + 10 ≤ 100000000000) (bw : Nat) (n : Int) (h0 : 0 ≤ n) (hn : n ≤ 9223372036854775807) (F : St) (hw : (bw, Ob.cells [.ptr b 0]) ∈ F) : ACalls Tryz.prog 79 [.int .i64 n, .ptr bw 0] (((b, .cells [addrB u2 b 87 3, bufAV q2 (l), .int .i64 (c)]) :: bufSt q2 5 (l)) ++ F) (fun x st' => ∃ foot', (∃ (u' : Bool) (q' : Buf), q'.ok (wput c l (numB n)) ∧ x = .tup [] ∧ foot' = (b, .cells [addrB u' b 87 3, bufAV q' (wput c l (numB n)), .int .i64 (c)]) :: bufSt q' 5 (wput c l (numB n))) ∧ st' = foot' ++ F) := by
 refine co 6 Tryz.func79 ?_
 refine AC_region ?_
 refine p_ (S_loadM (cs := [.ptr b 0]) rfl (.tmp rfl) (by repeat (first | exact hw | refine List.mem_append_right _ ?_ | refine List.mem_cons_of_mem _ ?_)) rfl (by kernel_rfl)) ?_
 refine mv rfl rfl rfl rfl ?_
 refine s_ (S_call rfl (AEvs.cons (.tmp rfl) (AEvs.cons (.tmp rfl) AEvs.nil)) (w_NumN b u2 q2 _ c hq2 (by first | omega | (refine Nat.le_trans (Nat.add_le_add_right (wput_len _ _ _) _) ?_; (try simp only [List.length_append]); omega)) n h0 hn F)) ?_
 rintro _ _ ⟨_, ⟨u2, q2, hq2, rfl, rfl⟩, rfl⟩
 refine AL_nil ?_
 refine ret_none (((b, .cells [addrB u2 b 87 3, bufAV q2 (wput c l (numB n)), .int .i64 (c)]) :: bufSt q2 5 (wput c l (numB n))) ++ F) rfl (Sub.l (List.Sublist.refl _)) ⟨_, ⟨u2, q2, hq2, rfl, rfl⟩, rfl⟩ (.inr rfl)
theorem putL1_ok (b : Nat) (u2 : Bool) (q2 : Buf) (l : List UInt8) (c : Int) (hq2 : q2.ok l)  (hl : l.length + 1000 ≤ 100000000000) (bw : Nat) (y : Lab) (hx1 : y.1.length ≤ 400) (hx2 : y.2.length ≤ 400) (F : St) (hw : (bw, Ob.cells [.ptr b 0]) ∈ F) : ACalls Tryz.prog 64 [labAV y, .ptr bw 0] (((b, .cells [addrB u2 b 87 3, bufAV q2 (l), .int .i64 (c)]) :: bufSt q2 5 (l)) ++ F) (fun x st' => ∃ foot', (∃ (u' : Bool) (q' : Buf), q'.ok (wput c l (labB y)) ∧ x = .tup [] ∧ foot' = (b, .cells [addrB u' b 87 3, bufAV q' (wput c l (labB y)), .int .i64 (c)]) :: bufSt q' 5 (wput c l (labB y))) ∧ st' = foot' ++ F) := by
 refine co 11 Tryz.func64 ?_
 have n1 := textB_len (s := y.1) (by omega)
 have n2 := textB_len (s := y.2) (by omega)
 refine AC_seq (AC_region ?_)
 refine s_ (S_box rfl (.tmp rfl)) ?_
 rintro _ _ ⟨b2, rfl, rfl⟩
 refine AL_nil (AC_seq (AC_region ?_))
 refine p_ (S_loadM (cs := [.ptr b 0]) rfl (.tmp rfl) (by repeat (first | exact hw | refine List.mem_append_right _ ?_ | refine List.mem_cons_of_mem _ ?_)) rfl (by kernel_rfl)) ?_
 refine fl 0 ?_
 refine ld 0 ?_
 refine s_ (S_call rfl (AEvs.cons (.tmp rfl) (AEvs.cons (.tmp rfl) AEvs.nil)) (ACalls.preQ (pre := [_]) (F := F) (w_TextN b u2 q2 _ c hq2 (by first | omega | (refine Nat.le_trans (Nat.add_le_add_right (wput_len _ _ _) _) ?_; (try simp only [List.length_append]); omega)) y.1 (by omega) (by first | omega | (refine Nat.le_trans (Nat.add_le_add_right (wput_len _ _ _) _) ?_; (try simp only [List.length_append]); omega)) _))) ?_
 rintro _ _ ⟨_, ⟨u2, q2, hq2, rfl, rfl⟩, rfl⟩
 refine AL_nil ?_
 refine AC_region ?_
 refine p_ (S_loadM (cs := [.ptr b 0]) rfl (.tmp rfl) (by repeat (first | exact hw | refine List.mem_append_right _ ?_ | refine List.mem_cons_of_mem _ ?_)) rfl (by kernel_rfl)) ?_
 refine fl 1 ?_
 refine ld 0 ?_
 refine s_ (S_call rfl (AEvs.cons (.tmp rfl) (AEvs.cons (.tmp rfl) AEvs.nil)) (ACalls.preQ (pre := [_]) (F := F) (w_TextN b u2 q2 _ c hq2 (by first | omega | (refine Nat.le_trans (Nat.add_le_add_right (wput_len _ _ _) _) ?_; (try simp only [List.length_append]); omega)) y.2 (by omega) (by first | omega | (refine Nat.le_trans (Nat.add_le_add_right (wput_len _ _ _) _) ?_; (try simp only [List.length_append]); omega)) _))) ?_
 rintro _ _ ⟨_, ⟨u2, q2, hq2, rfl, rfl⟩, rfl⟩
 rw [wput_wput] at hq2 ⊢
 refine AL_nil ?_
 refine ret_none (((b, .cells [addrB u2 b 87 3, bufAV q2 (wput c l (labB y)), .int .i64 (c)]) :: bufSt q2 5 (wput c l (labB y))) ++ F) rfl (Sub.l (List.sublist_cons_self _ _)) ⟨_, ⟨u2, q2, hq2, rfl, rfl⟩, rfl⟩ (.inr rfl)
theorem putAllI_ok (b : Nat) (u2 : Bool) (q2 : Buf) (l : List UInt8) (c : Int) (hq2 : q2.ok l) (xs : List Int) (hl : l.length + (10 + xs.length * 10) ≤ 100000000000) (bw : Nat) (hxs : xs.length ≤ 1000) (hok : ∀ x ∈ xs, 0 ≤ x ∧ x ≤ 9223372036854775807) (F : St) (hw : (bw, Ob.cells [.ptr b 0]) ∈ F) : ACalls Tryz.prog 78 [.ptr b 0, .sl (xs.map (fun n : Int => AV.int .i64 n)), .fn 79 [.pointer (some ⟨bw, 0, none⟩)]] (((b, .cells [addrB u2 b 87 3, bufAV q2 (l), .int .i64 (c)]) :: bufSt q2 5 (l)) ++ F) (fun x st' => ∃ foot', (∃ (u' : Bool) (q' : Buf), q'.ok (wput c l (listB numB xs)) ∧ x = .tup [] ∧ foot' = (b, .cells [addrB u' b 87 3, bufAV q' (wput c l (listB numB xs)), .int .i64 (c)]) :: bufSt q' 5 (wput c l (listB numB xs))) ∧ st' = foot' ++ F) := by
 refine co 22 Tryz.func78 ?_
 have hen : ∀ x ∈ xs, (numB x).length ≤ 10 := fun x hx => by have h9 := hok x hx; exact numB_len h9.2
 have hp := putL_few xs.length (by omega)
 refine AC_seq (AC_region ?_)
 refine mv rfl rfl rfl rfl ?_
 refine mv rfl rfl rfl rfl ?_
 refine p_ (by first | exact S_lenM (e := 3) rfl (.tmp rfl) (by kernel_rfl) | exact S_len (e := 3) rfl (.tmp rfl) (by kernel_rfl)) ?_
 refine s_ (S_call rfl (AEvs.cons (.tmp rfl) (AEvs.cons (.tmp rfl) AEvs.nil)) (w_NumN b u2 q2 _ c hq2 (by first | omega | (refine Nat.le_trans (Nat.add_le_add_right (wput_len _ _ _) _) ?_; (try simp only [List.length_append]); omega)) (xs.length : Int) (by omega) (by omega) F)) ?_
 rintro _ _ ⟨_, ⟨u2, q2, hq2, rfl, rfl⟩, rfl⟩
 have e0 : wput c l (numB (xs.length : Int)) = wput c l (putL xs.length ++ (xs.take 0).flatMap numB) := by simp [numB]
 rw [e0] at hq2 ⊢
 refine AL_nil (AC_seq (AC_region ?_))
 refine mv rfl rfl rfl rfl ?_
 refine p_ (by first | exact S_lenM (e := 3) rfl (.tmp rfl) (by kernel_rfl) | exact S_len (e := 3) rfl (.tmp rfl) (by kernel_rfl)) ?_
 refine p_ (S_move rfl (AEv.const _)) ?_
 refine AL_nil ?_
 refine AC_block ?_
 refine AC_loopK (G := Nat × Bool × Buf) [(2, _), (12, _), (13, _)] (fun g => g.1 ≤ xs.length ∧ g.2.2.ok (wput c l (putL xs.length ++ (xs.take g.1).flatMap numB))) (fun g => [(14, .int .i64 (g.1 : Int))]) (fun g => ((b, .cells [addrB g.2.1 b 87 3, bufAV g.2.2 (wput c l (putL xs.length ++ (xs.take g.1).flatMap numB)), .int .i64 (c)]) :: bufSt g.2.2 5 (wput c l (putL xs.length ++ (xs.take g.1).flatMap numB))) ++ F) (fun g => xs.length - g.1) ((0, u2, q2)) (⟨Nat.zero_le _, hq2⟩) (Sub.l (List.Sublist.refl _)) (.cons rfl (Le.refl _) (.cons rfl (Le.refl _) (.cons rfl (Le.refl _) .nil))) (.cons rfl (by first | exact Le.refl _ | exact Le.nils | exact Le.row _ _ _ _ | exact Le.of_eq (by first | rfl | (simp; done) | (push_cast; rfl) | (simp; omega))) .nil) ?_
 rintro ⟨i, u2, q2⟩ ⟨hi, hq2⟩
 try dsimp only
 simp only [List.cons_append, List.nil_append]
 dsimp only at hi hq2
 have hfm := flatB_len (e := numB) (B := 10) (l := xs.take i) fun x hx => hen x (List.mem_of_mem_take hx)
 rw [List.length_take, show min i xs.length = i by omega] at hfm
 refine AC_seq (AC_region ?_)
 refine p_ (S_lss rfl (.tmp rfl) (.tmp rfl)) ?_
 refine AL_nil ?_
 refine AC_seq ?_
 refine AC_cond (.tmp rfl) (fun hb1 => ?_) (fun hb1 => ?_)
 ·try simp only [zA,zO,zN,zM,zP,zQ,zD,zF,gd] at hb1
  have hil : i < xs.length := by omega
  have hxi := hok _ (List.getElem_mem hil)
  have hxl := hen _ (List.getElem_mem hil)
  refine AC_skip ?_
  refine AC_seq ?_
  refine AC_block ?_
  refine AC_seq (AC_region ?_)
  refine p_ (S_elemN (e := 3) 1 rfl (.tmp rfl) (.tmp rfl) (by kernel_rfl) (by kernel_rfl) (by omega) (fun _ => rfl)) ?_
  refine p_ (S_loadP rfl (.tmp rfl) rfl (by kernel_rfl)) ?_
  refine as_ rfl rfl rfl rfl ?_
  refine AL_nil ?_
  refine AC_region ?_
  refine mv rfl rfl rfl rfl ?_
  refine mv rfl rfl rfl rfl ?_
  refine s_ (S_callF (caps := [.pointer (some ⟨bw, 0, none⟩)]) rfl (.tmp rfl) (AEvs.cons (y := .int .i64 (xs[i]'hil)) (.tmp rfl) AEvs.nil) (putC1_ok b u2 q2 _ c hq2 (by first | omega | (refine Nat.le_trans (Nat.add_le_add_right (wput_len _ _ _) _) ?_; (try simp only [List.length_append]); omega)) bw (xs[i]'hil) hxi.1 hxi.2 F hw)) ?_
  rintro _ _ ⟨_, ⟨u2, q2, hq2, rfl, rfl⟩, rfl⟩
  rw [wput_wput] at hq2 ⊢
  refine AL_nil ?_
  refine AC_region ?_
  refine p_ (S_addI rfl (.tmp rfl) (AEv.const _) (by omega) (by omega)) ?_
  refine mv rfl rfl rfl rfl ?_
  refine AL_nil ?_
  refine ⟨(i + 1, u2, q2), ⟨by dsimp only; omega, by dsimp only; rw [listB_next hil]; exact hq2⟩, by dsimp only; omega, by dsimp only; rw [listB_next hil]; exact (Sub.l (List.Sublist.refl _)), (.cons rfl (by first | exact Le.refl _ | exact Le.nils | exact Le.row _ _ _ _ | exact Le.of_eq (by first | rfl | (simp; done) | (push_cast; rfl) | (simp; omega))) .nil), (.cons rfl (Le.refl _) (.cons rfl (Le.refl _) (.cons rfl (Le.refl _) .nil)))⟩
 try simp only [zA,zO,zN,zM,zP,zQ,zD,zF,gd] at hb1
 rw [List.take_of_length_le (show xs.length ≤ i by omega)] at hq2 ⊢
 refine AC_exit ?_
 refine ret_none (((b, .cells [addrB u2 b 87 3, bufAV q2 (wput c l (listB numB xs)), .int .i64 (c)]) :: bufSt q2 5 (wput c l (listB numB xs))) ++ F) rfl (Sub.l (List.Sublist.refl _)) ⟨_, ⟨u2, q2, hq2, rfl, rfl⟩, rfl⟩ (.inr rfl)
theorem putAllL_ok (b : Nat) (u2 : Bool) (q2 : Buf) (l : List UInt8) (c : Int) (hq2 : q2.ok l) (xs : List Lab) (hl : l.length + (10 + xs.length * 1000) ≤ 100000000000) (bw : Nat) (hxs : xs.length ≤ 1000) (hok : ∀ x ∈ xs, x.1.length ≤ 400 ∧ x.2.length ≤ 400) (F : St) (hw : (bw, Ob.cells [.ptr b 0]) ∈ F) : ACalls Tryz.prog 63 [.ptr b 0, .sl (xs.map labAV), .fn 64 [.pointer (some ⟨bw, 0, none⟩)]] (((b, .cells [addrB u2 b 87 3, bufAV q2 (l), .int .i64 (c)]) :: bufSt q2 5 (l)) ++ F) (fun x st' => ∃ foot', (∃ (u' : Bool) (q' : Buf), q'.ok (wput c l (listB labB xs)) ∧ x = .tup [] ∧ foot' = (b, .cells [addrB u' b 87 3, bufAV q' (wput c l (listB labB xs)), .int .i64 (c)]) :: bufSt q' 5 (wput c l (listB labB xs))) ∧ st' = foot' ++ F) := by
 refine co 22 Tryz.func63 ?_
 have hen : ∀ x ∈ xs, (labB x).length ≤ 1000 := fun x hx => by have h9 := hok x hx; exact labB_len h9.1 h9.2
 have hp := putL_few xs.length (by omega)
 refine AC_seq (AC_region ?_)
 refine mv rfl rfl rfl rfl ?_
 refine mv rfl rfl rfl rfl ?_
 refine p_ (by first | exact S_lenM (e := 71) rfl (.tmp rfl) (by kernel_rfl) | exact S_len (e := 71) rfl (.tmp rfl) (by kernel_rfl)) ?_
 refine s_ (S_call rfl (AEvs.cons (.tmp rfl) (AEvs.cons (.tmp rfl) AEvs.nil)) (w_NumN b u2 q2 _ c hq2 (by first | omega | (refine Nat.le_trans (Nat.add_le_add_right (wput_len _ _ _) _) ?_; (try simp only [List.length_append]); omega)) (xs.length : Int) (by omega) (by omega) F)) ?_
 rintro _ _ ⟨_, ⟨u2, q2, hq2, rfl, rfl⟩, rfl⟩
 have e0 : wput c l (numB (xs.length : Int)) = wput c l (putL xs.length ++ (xs.take 0).flatMap labB) := by simp [numB]
 rw [e0] at hq2 ⊢
 refine AL_nil (AC_seq (AC_region ?_))
 refine mv rfl rfl rfl rfl ?_
 refine p_ (by first | exact S_lenM (e := 71) rfl (.tmp rfl) (by kernel_rfl) | exact S_len (e := 71) rfl (.tmp rfl) (by kernel_rfl)) ?_
 refine p_ (S_move rfl (AEv.const _)) ?_
 refine AL_nil ?_
 refine AC_block ?_
 refine AC_loopK (G := Nat × Bool × Buf) [(2, _), (12, _), (13, _)] (fun g => g.1 ≤ xs.length ∧ g.2.2.ok (wput c l (putL xs.length ++ (xs.take g.1).flatMap labB))) (fun g => [(14, .int .i64 (g.1 : Int))]) (fun g => ((b, .cells [addrB g.2.1 b 87 3, bufAV g.2.2 (wput c l (putL xs.length ++ (xs.take g.1).flatMap labB)), .int .i64 (c)]) :: bufSt g.2.2 5 (wput c l (putL xs.length ++ (xs.take g.1).flatMap labB))) ++ F) (fun g => xs.length - g.1) ((0, u2, q2)) (⟨Nat.zero_le _, hq2⟩) (Sub.l (List.Sublist.refl _)) (.cons rfl (Le.refl _) (.cons rfl (Le.refl _) (.cons rfl (Le.refl _) .nil))) (.cons rfl (by first | exact Le.refl _ | exact Le.nils | exact Le.row _ _ _ _ | exact Le.of_eq (by first | rfl | (simp; done) | (push_cast; rfl) | (simp; omega))) .nil) ?_
 rintro ⟨i, u2, q2⟩ ⟨hi, hq2⟩
 try dsimp only
 simp only [List.cons_append, List.nil_append]
 dsimp only at hi hq2
 have hfm := flatB_len (e := labB) (B := 1000) (l := xs.take i) fun x hx => hen x (List.mem_of_mem_take hx)
 rw [List.length_take, show min i xs.length = i by omega] at hfm
 refine AC_seq (AC_region ?_)
 refine p_ (S_lss rfl (.tmp rfl) (.tmp rfl)) ?_
 refine AL_nil ?_
 refine AC_seq ?_
 refine AC_cond (.tmp rfl) (fun hb1 => ?_) (fun hb1 => ?_)
 ·try simp only [zA,zO,zN,zM,zP,zQ,zD,zF,gd] at hb1
  have hil : i < xs.length := by omega
  have hxi := hok _ (List.getElem_mem hil)
  have hxl := hen _ (List.getElem_mem hil)
  refine AC_skip ?_
  refine AC_seq ?_
  refine AC_block ?_
  refine AC_seq (AC_region ?_)
  refine p_ (S_elemN (e := 71) 2 rfl (.tmp rfl) (.tmp rfl) (by kernel_rfl) (by kernel_rfl) (by omega) (fun _ => rfl)) ?_
  refine p_ (S_loadPN (m := 2) rfl (.tmp rfl) (by kernel_rfl) (by first | exact Nat.le_of_ble_eq_true rfl | (simp; omega) | simp)) ?_
  refine s_ (S_alloc [.string ⟨#[]⟩, .string ⟨#[]⟩] rfl (by kernel_rfl)) ?_
  rintro _ _ ⟨b7, rfl, rfl⟩
  refine stW 0 ?_
  refine AL_nil ?_
  refine AC_region ?_
  refine mv rfl rfl rfl rfl ?_
  refine ldN 2 0 ?_
  refine s_ (S_callF (caps := [.pointer (some ⟨bw, 0, none⟩)]) rfl (.tmp rfl) (AEvs.cons (y := labAV (xs[i]'hil)) (.tmp rfl) AEvs.nil) (ACalls.preQ (pre := [_]) (F := F) (putL1_ok b u2 q2 _ c hq2 (by first | omega | (refine Nat.le_trans (Nat.add_le_add_right (wput_len _ _ _) _) ?_; (try simp only [List.length_append]); omega)) bw (xs[i]'hil) hxi.1 hxi.2 _ (List.mem_cons_of_mem _ hw)))) ?_
  rintro _ _ ⟨_, ⟨u2, q2, hq2, rfl, rfl⟩, rfl⟩
  rw [wput_wput] at hq2 ⊢
  refine AL_nil ?_
  refine AC_region ?_
  refine p_ (S_addI rfl (.tmp rfl) (AEv.const _) (by omega) (by omega)) ?_
  refine mv rfl rfl rfl rfl ?_
  refine AL_nil ?_
  refine ⟨(i + 1, u2, q2), ⟨by dsimp only; omega, by dsimp only; rw [listB_next hil]; exact hq2⟩, by dsimp only; omega, by dsimp only; rw [listB_next hil]; exact (Sub.l (List.sublist_cons_self _ _)), (.cons rfl (by first | exact Le.refl _ | exact Le.nils | exact Le.row _ _ _ _ | exact Le.of_eq (by first | rfl | (simp; done) | (push_cast; rfl) | (simp; omega))) .nil), (.cons rfl (Le.refl _) (.cons rfl (Le.refl _) (.cons rfl (Le.refl _) .nil)))⟩
 try simp only [zA,zO,zN,zM,zP,zQ,zD,zF,gd] at hb1
 rw [List.take_of_length_le (show xs.length ≤ i by omega)] at hq2 ⊢
 refine AC_exit ?_
 refine ret_none (((b, .cells [addrB u2 b 87 3, bufAV q2 (wput c l (listB labB xs)), .int .i64 (c)]) :: bufSt q2 5 (wput c l (listB labB xs))) ++ F) rfl (Sub.l (List.Sublist.refl _)) ⟨_, ⟨u2, q2, hq2, rfl, rfl⟩, rfl⟩ (.inr rfl)
end Go.Proofs.YtfmiciodcimkeaaGreatDoor

set_option maxRecDepth 100000
namespace Go.Proofs.YtfmiciodcimkeaaGreatDoor
open Go.AL Go.NumSpec
theorem putContainer_ok (b : Nat) (u2 : Bool) (q2 : Buf) (l : List UInt8) (c : Int) (hq2 : q2.ok l)  (hl : l.length + 1000 ≤ 100000000000) (d : Ctr) (hd : CtrOk d) (F : St) : ACalls Tryz.prog 43 [.ptr b 0, ctrAV d] (((b, .cells [addrB u2 b 87 3, bufAV q2 (l), .int .i64 (c)]) :: bufSt q2 5 (l)) ++ F) (fun x st' => ∃ foot', (∃ (u' : Bool) (q' : Buf), q'.ok (wput c l (ctrB d)) ∧ x = .tup [] ∧ foot' = (b, .cells [addrB u' b 87 3, bufAV q' (wput c l (ctrB d)), .int .i64 (c)]) :: bufSt q' 5 (wput c l (ctrB d))) ∧ st' = foot' ++ F) := by
 refine co 35 Tryz.func43 ?_
 have hdl := ctrB_len hd
 obtain ⟨hd1, hd2, hd3, hd4, hd5, hd6, hd7⟩ := hd
 have n1 := textB_len (s := d.name) (by omega)
 have n2 := textB_len (s := d.image) (by omega)
 have n3 := triB_len hd3
 have n4 := triB_len hd4
 have n5 : (listB numB d.ports).length ≤ 40 := portsB_len hd5
 have n6 := numB_len (n := d.probe.1) (by omega)
 have n7 := numB_len (n := d.probe.2) (by omega)
 have hp1 := hd5.1
 refine AC_seq (AC_region ?_)
 refine s_ (S_box1 rfl (.tmp rfl) rfl) ?_
 rintro _ _ ⟨b2, rfl, rfl⟩
 refine s_ (S_box rfl (.tmp rfl)) ?_
 rintro _ _ ⟨b3, rfl, rfl⟩
 refine AL_nil (AC_seq (AC_region ?_))
 refine ld 1 ?_
 refine fl 0 ?_
 refine ld 0 ?_
 refine s_ (S_call rfl (AEvs.cons (.tmp rfl) (AEvs.cons (.tmp rfl) AEvs.nil)) (ACalls.preQ (pre := [_, _]) (F := F) (w_TextN b u2 q2 _ c hq2 (by first | omega | (refine Nat.le_trans (Nat.add_le_add_right (wput_len _ _ _) _) ?_; (try simp only [List.length_append]); omega)) d.name (by omega) (by first | omega | (refine Nat.le_trans (Nat.add_le_add_right (wput_len _ _ _) _) ?_; (try simp only [List.length_append]); omega)) _))) ?_
 rintro _ _ ⟨_, ⟨u2, q2, hq2, rfl, rfl⟩, rfl⟩
 refine AL_nil (AC_seq (AC_region ?_))
 refine ld 1 ?_
 refine fl 1 ?_
 refine ld 0 ?_
 refine s_ (S_call rfl (AEvs.cons (.tmp rfl) (AEvs.cons (.tmp rfl) AEvs.nil)) (ACalls.preQ (pre := [_, _]) (F := F) (w_TextN b u2 q2 _ c hq2 (by first | omega | (refine Nat.le_trans (Nat.add_le_add_right (wput_len _ _ _) _) ?_; (try simp only [List.length_append]); omega)) d.image (by omega) (by first | omega | (refine Nat.le_trans (Nat.add_le_add_right (wput_len _ _ _) _) ?_; (try simp only [List.length_append]); omega)) _))) ?_
 rintro _ _ ⟨_, ⟨u2, q2, hq2, rfl, rfl⟩, rfl⟩
 rw [wput_wput] at hq2 ⊢
 refine AL_nil (AC_seq (AC_region ?_))
 refine ld 1 ?_
 refine fl 2 ?_
 refine ldN 3 0 ?_
 refine s_ (S_call rfl (AEvs.cons (.tmp rfl) (AEvs.cons (.tmp rfl) AEvs.nil)) (ACalls.preQ (pre := [_, _]) (F := F) (putRes_ok b u2 q2 _ c hq2 (by first | omega | (refine Nat.le_trans (Nat.add_le_add_right (wput_len _ _ _) _) ?_; (try simp only [List.length_append]); omega)) d.req hd3 _))) ?_
 rintro _ _ ⟨_, ⟨u2, q2, hq2, rfl, rfl⟩, rfl⟩
 rw [wput_wput] at hq2 ⊢
 refine AL_nil (AC_seq (AC_region ?_))
 refine ld 1 ?_
 refine fl 5 ?_
 refine ldN 3 0 ?_
 refine s_ (S_call rfl (AEvs.cons (.tmp rfl) (AEvs.cons (.tmp rfl) AEvs.nil)) (ACalls.preQ (pre := [_, _]) (F := F) (putRes_ok b u2 q2 _ c hq2 (by first | omega | (refine Nat.le_trans (Nat.add_le_add_right (wput_len _ _ _) _) ?_; (try simp only [List.length_append]); omega)) d.lim hd4 _))) ?_
 rintro _ _ ⟨_, ⟨u2, q2, hq2, rfl, rfl⟩, rfl⟩
 rw [wput_wput] at hq2 ⊢
 refine AL_nil (AC_seq (AC_region ?_))
 refine ld 1 ?_
 refine fl 8 ?_
 refine ld 0 ?_
 refine p_ (S_makeFunc (caps := [_]) rfl (AEvs.cons (.tmp rfl) AEvs.nil)) ?_
 refine s_ (S_call rfl (AEvs.cons (.tmp rfl) (AEvs.cons (.tmp rfl) (AEvs.cons (.tmp rfl) AEvs.nil))) (ACalls.preQ (pre := [_, _]) (F := F) (putAllI_ok b u2 q2 _ c hq2 d.ports (by first | omega | (refine Nat.le_trans (Nat.add_le_add_right (wput_len _ _ _) _) ?_; (try simp only [List.length_append]); omega)) b2 (by omega) (fun x hx => ⟨(hd5.2 x hx).1, by have := (hd5.2 x hx).2; omega⟩) _ (List.mem_cons_of_mem _ List.mem_cons_self)))) ?_
 rintro _ _ ⟨_, ⟨u2, q2, hq2, rfl, rfl⟩, rfl⟩
 rw [wput_wput] at hq2 ⊢
 refine AL_nil (AC_seq (AC_region ?_))
 refine ld 1 ?_
 refine fl 9 ?_
 refine fl 0 ?_
 refine ld 0 ?_
 refine s_ (S_call rfl (AEvs.cons (.tmp rfl) (AEvs.cons (.tmp rfl) AEvs.nil)) (ACalls.preQ (pre := [_, _]) (F := F) (w_NumN b u2 q2 _ c hq2 (by first | omega | (refine Nat.le_trans (Nat.add_le_add_right (wput_len _ _ _) _) ?_; (try simp only [List.length_append]); omega)) d.probe.1 (by omega) (by omega) _))) ?_
 rintro _ _ ⟨_, ⟨u2, q2, hq2, rfl, rfl⟩, rfl⟩
 rw [wput_wput] at hq2 ⊢
 refine AL_nil ?_
 refine AC_region ?_
 refine ld 1 ?_
 refine fl 9 ?_
 refine fl 1 ?_
 refine ld 0 ?_
 refine s_ (S_call rfl (AEvs.cons (.tmp rfl) (AEvs.cons (.tmp rfl) AEvs.nil)) (ACalls.preQ (pre := [_, _]) (F := F) (w_NumN b u2 q2 _ c hq2 (by first | omega | (refine Nat.le_trans (Nat.add_le_add_right (wput_len _ _ _) _) ?_; (try simp only [List.length_append]); omega)) d.probe.2 (by omega) (by omega) _))) ?_
 rintro _ _ ⟨_, ⟨u2, q2, hq2, rfl, rfl⟩, rfl⟩
 rw [wput_wput] at hq2 ⊢
 rw [ctrB_assoc] at hq2 ⊢
 refine AL_nil ?_
 refine ret_none (((b, .cells [addrB u2 b 87 3, bufAV q2 (wput c l (ctrB d)), .int .i64 (c)]) :: bufSt q2 5 (wput c l (ctrB d))) ++ F) rfl (Sub.l ((List.sublist_cons_self _ _).trans (List.sublist_cons_self _ _))) ⟨_, ⟨u2, q2, hq2, rfl, rfl⟩, rfl⟩ (.inr rfl)
theorem putP1_ok (b : Nat) (u2 : Bool) (q2 : Buf) (l : List UInt8) (c : Int) (hq2 : q2.ok l)  (hl : l.length + 1000 ≤ 100000000000) (bw : Nat) (y : Ctr) (hy : CtrOk y) (F : St) (hw : (bw, Ob.cells [.ptr b 0]) ∈ F) : ACalls Tryz.prog 42 [ctrAV y, .ptr bw 0] (((b, .cells [addrB u2 b 87 3, bufAV q2 (l), .int .i64 (c)]) :: bufSt q2 5 (l)) ++ F) (fun x st' => ∃ foot', (∃ (u' : Bool) (q' : Buf), q'.ok (wput c l (ctrB y)) ∧ x = .tup [] ∧ foot' = (b, .cells [addrB u' b 87 3, bufAV q' (wput c l (ctrB y)), .int .i64 (c)]) :: bufSt q' 5 (wput c l (ctrB y))) ∧ st' = foot' ++ F) := by
 refine co 6 Tryz.func42 ?_
 refine AC_seq (AC_region ?_)
 refine s_ (S_box rfl (.tmp rfl)) ?_
 rintro _ _ ⟨b2, rfl, rfl⟩
 refine AL_nil ?_
 refine AC_region ?_
 refine p_ (S_loadM (cs := [.ptr b 0]) rfl (.tmp rfl) (by repeat (first | exact hw | exact List.mem_cons_self | refine List.mem_append_right _ ?_ | refine List.mem_cons_of_mem _ ?_)) rfl (by kernel_rfl)) ?_
 refine ldN 11 0 ?_
 refine s_ (S_call rfl (AEvs.cons (.tmp rfl) (AEvs.cons (.tmp rfl) AEvs.nil)) (ACalls.preQ (pre := [_]) (F := F) (putContainer_ok b u2 q2 _ c hq2 hl y hy _))) ?_
 rintro _ _ ⟨_, ⟨u2, q2, hq2, rfl, rfl⟩, rfl⟩
 refine AL_nil ?_
 refine ret_none (((b, .cells [addrB u2 b 87 3, bufAV q2 (wput c l (ctrB y)), .int .i64 (c)]) :: bufSt q2 5 (wput c l (ctrB y))) ++ F) rfl (Sub.l (List.sublist_cons_self _ _)) ⟨_, ⟨u2, q2, hq2, rfl, rfl⟩, rfl⟩ (.inr rfl)
theorem putAllC_ok (b : Nat) (u2 : Bool) (q2 : Buf) (l : List UInt8) (c : Int) (hq2 : q2.ok l) (xs : List Ctr) (hl : l.length + (10 + xs.length * 1000) ≤ 100000000000) (bw : Nat) (hxs : xs.length ≤ 1000) (hok : ∀ x ∈ xs, CtrOk x) (F : St) (hw : (bw, Ob.cells [.ptr b 0]) ∈ F) : ACalls Tryz.prog 41 [.ptr b 0, .sl (ctrsV xs), .fn 42 [.pointer (some ⟨bw, 0, none⟩)]] (((b, .cells [addrB u2 b 87 3, bufAV q2 (l), .int .i64 (c)]) :: bufSt q2 5 (l)) ++ F) (fun x st' => ∃ foot', (∃ (u' : Bool) (q' : Buf), q'.ok (wput c l (listB ctrB xs)) ∧ x = .tup [] ∧ foot' = (b, .cells [addrB u' b 87 3, bufAV q' (wput c l (listB ctrB xs)), .int .i64 (c)]) :: bufSt q' 5 (wput c l (listB ctrB xs))) ∧ st' = foot' ++ F) := by
 refine co 22 Tryz.func41 ?_
 have hen : ∀ x ∈ xs, (ctrB x).length ≤ 1000 := fun x hx => ctrB_len (hok x hx)
 have hp := putL_few xs.length (by omega)
 refine AC_seq (AC_region ?_)
 refine mv rfl rfl rfl rfl ?_
 refine mv rfl rfl rfl rfl ?_
 refine p_ (by first | exact S_lenM (e := 79) rfl (.tmp rfl) (by kernel_rfl) | exact S_len (e := 79) rfl (.tmp rfl) (by kernel_rfl)) ?_
 refine s_ (S_call rfl (AEvs.cons (.tmp rfl) (AEvs.cons (.tmp rfl) AEvs.nil)) (w_NumN b u2 q2 _ c hq2 (by first | omega | (refine Nat.le_trans (Nat.add_le_add_right (wput_len _ _ _) _) ?_; (try simp only [List.length_append]); omega)) (xs.length : Int) (by omega) (by omega) F)) ?_
 rintro _ _ ⟨_, ⟨u2, q2, hq2, rfl, rfl⟩, rfl⟩
 have e0 : wput c l (numB (xs.length : Int)) = wput c l (putL xs.length ++ (xs.take 0).flatMap ctrB) := by simp [numB]
 rw [e0] at hq2 ⊢
 refine AL_nil (AC_seq (AC_region ?_))
 refine mv rfl rfl rfl rfl ?_
 refine p_ (by first | exact S_lenM (e := 79) rfl (.tmp rfl) (by kernel_rfl) | exact S_len (e := 79) rfl (.tmp rfl) (by kernel_rfl)) ?_
 refine p_ (S_move rfl (AEv.const _)) ?_
 refine AL_nil ?_
 refine AC_block ?_
 refine AC_loopK (G := Nat × Bool × Buf) [(2, _), (12, _), (13, _)] (fun g => g.1 ≤ xs.length ∧ g.2.2.ok (wput c l (putL xs.length ++ (xs.take g.1).flatMap ctrB))) (fun g => [(14, .int .i64 (g.1 : Int))]) (fun g => ((b, .cells [addrB g.2.1 b 87 3, bufAV g.2.2 (wput c l (putL xs.length ++ (xs.take g.1).flatMap ctrB)), .int .i64 (c)]) :: bufSt g.2.2 5 (wput c l (putL xs.length ++ (xs.take g.1).flatMap ctrB))) ++ F) (fun g => xs.length - g.1) ((0, u2, q2)) (⟨Nat.zero_le _, hq2⟩) (Sub.l (List.Sublist.refl _)) (.cons rfl (Le.refl _) (.cons rfl (Le.refl _) (.cons rfl (Le.refl _) .nil))) (.cons rfl (by first | exact Le.refl _ | exact Le.nils | exact Le.row _ _ _ _ | exact Le.of_eq (by first | rfl | (simp; done) | (push_cast; rfl) | (simp; omega))) .nil) ?_
 rintro ⟨i, u2, q2⟩ ⟨hi, hq2⟩
 try dsimp only
 simp only [List.cons_append, List.nil_append]
 dsimp only at hi hq2
 have hfm := flatB_len (e := ctrB) (B := 1000) (l := xs.take i) fun x hx => hen x (List.mem_of_mem_take hx)
 rw [List.length_take, show min i xs.length = i by omega] at hfm
 refine AC_seq (AC_region ?_)
 refine p_ (S_lss rfl (.tmp rfl) (.tmp rfl)) ?_
 refine AL_nil ?_
 refine AC_seq ?_
 refine AC_cond (.tmp rfl) (fun hb1 => ?_) (fun hb1 => ?_)
 ·try simp only [zA,zO,zN,zM,zP,zQ,zD,zF,gd] at hb1
  have hil : i < xs.length := by omega
  have hxl := hen _ (List.getElem_mem hil)
  refine AC_skip ?_
  refine AC_seq ?_
  refine AC_block ?_
  refine AC_seq (AC_region ?_)
  refine p_ (S_elemN (e := 79) 11 rfl (.tmp rfl) (.tmp rfl) (by kernel_rfl) (by kernel_rfl) (by omega) (fun _ => rfl)) ?_
  refine p_ (S_loadPN (m := 11) rfl (.tmp rfl) (by kernel_rfl) (by first | exact Nat.le_of_ble_eq_true rfl | (simp; omega) | simp)) ?_
  refine s_ (S_alloc [.string ⟨#[]⟩, .string ⟨#[]⟩, .int .i64 0, .int .i64 0, .int .i64 0, .int .i64 0, .int .i64 0, .int .i64 0, .slice none 0 0, .int .i64 0, .int .i64 0] rfl (by kernel_rfl)) ?_
  rintro _ _ ⟨b7, rfl, rfl⟩
  refine stW 0 ?_
  refine AL_nil ?_
  refine AC_region ?_
  refine mv rfl rfl rfl rfl ?_
  refine ldN 11 0 ?_
  refine s_ (S_callF (caps := [.pointer (some ⟨bw, 0, none⟩)]) rfl (.tmp rfl) (AEvs.cons (y := ctrAV (xs[i]'hil)) (.tmp rfl) AEvs.nil) (ACalls.preQ (pre := [_]) (F := F) (putP1_ok b u2 q2 _ c hq2 (by first | omega | (refine Nat.le_trans (Nat.add_le_add_right (wput_len _ _ _) _) ?_; (try simp only [List.length_append]); omega)) bw (xs[i]'hil) (hok _ (List.getElem_mem hil)) _ (List.mem_cons_of_mem _ hw)))) ?_
  rintro _ _ ⟨_, ⟨u2, q2, hq2, rfl, rfl⟩, rfl⟩
  rw [wput_wput] at hq2 ⊢
  refine AL_nil ?_
  refine AC_region ?_
  refine p_ (S_addI rfl (.tmp rfl) (AEv.const _) (by omega) (by omega)) ?_
  refine mv rfl rfl rfl rfl ?_
  refine AL_nil ?_
  refine ⟨(i + 1, u2, q2), ⟨by dsimp only; omega, by dsimp only; rw [listB_next hil]; exact hq2⟩, by dsimp only; omega, by dsimp only; rw [listB_next hil]; exact (Sub.l (List.sublist_cons_self _ _)), (.cons rfl (by first | exact Le.refl _ | exact Le.nils | exact Le.row _ _ _ _ | exact Le.of_eq (by first | rfl | (simp; done) | (push_cast; rfl) | (simp; omega))) .nil), (.cons rfl (Le.refl _) (.cons rfl (Le.refl _) (.cons rfl (Le.refl _) .nil)))⟩
 try simp only [zA,zO,zN,zM,zP,zQ,zD,zF,gd] at hb1
 rw [List.take_of_length_le (show xs.length ≤ i by omega)] at hq2 ⊢
 refine AC_exit ?_
 refine ret_none (((b, .cells [addrB u2 b 87 3, bufAV q2 (wput c l (listB ctrB xs)), .int .i64 (c)]) :: bufSt q2 5 (wput c l (listB ctrB xs))) ++ F) rfl (Sub.l (List.Sublist.refl _)) ⟨_, ⟨u2, q2, hq2, rfl, rfl⟩, rfl⟩ (.inr rfl)
theorem PutLabels_ok (b : Nat) (u2 : Bool) (q2 : Buf) (l : List UInt8) (c : Int) (hq2 : q2.ok l) (xs : List Lab) (hl : l.length + (10 + xs.length * 1000) ≤ 100000000000) (hxs : xs.length ≤ 1000) (hok : ∀ x ∈ xs, x.1.length ≤ 400 ∧ x.2.length ≤ 400) (F : St) : ACalls Tryz.prog 25 [.ptr b 0, .sl (labsV xs)] (((b, .cells [addrB u2 b 87 3, bufAV q2 (l), .int .i64 (c)]) :: bufSt q2 5 (l)) ++ F) (fun x st' => ∃ foot', (∃ (u' : Bool) (q' : Buf), q'.ok (wput c l (listB labB xs)) ∧ x = .tup [] ∧ foot' = (b, .cells [addrB u' b 87 3, bufAV q' (wput c l (listB labB xs)), .int .i64 (c)]) :: bufSt q' 5 (wput c l (listB labB xs))) ∧ st' = foot' ++ F) := by
 refine co 8 Tryz.func25 ?_
 refine AC_seq (AC_region ?_)
 refine s_ (S_box1 rfl (.tmp rfl) rfl) ?_
 rintro _ _ ⟨b2, rfl, rfl⟩
 refine AL_nil ?_
 refine AC_region ?_
 refine ld 0 ?_
 refine mv rfl rfl rfl rfl ?_
 refine p_ (S_makeFunc (caps := [_]) rfl (AEvs.cons (.tmp rfl) AEvs.nil)) ?_
 refine s_ (S_call rfl (AEvs.cons (.tmp rfl) (AEvs.cons (.tmp rfl) (AEvs.cons (.tmp rfl) AEvs.nil))) (ACalls.preQ (pre := [_]) (F := F) (putAllL_ok b u2 q2 _ c hq2 xs hl b2 hxs hok _ List.mem_cons_self))) ?_
 rintro _ _ ⟨_, ⟨u2, q2, hq2, rfl, rfl⟩, rfl⟩
 refine AL_nil ?_
 refine ret_none (((b, .cells [addrB u2 b 87 3, bufAV q2 (wput c l (listB labB xs)), .int .i64 (c)]) :: bufSt q2 5 (wput c l (listB labB xs))) ++ F) rfl (Sub.l (List.sublist_cons_self _ _)) ⟨_, ⟨u2, q2, hq2, rfl, rfl⟩, rfl⟩ (.inr rfl)
theorem w_FailN (b : Nat) (u2 : Bool) (q2 : Buf) (l : List UInt8) (c : Int) (hq2 : q2.ok l) (d : Int) (F : St) : ACalls Tryz.prog 40 [.ptr b 2, .int .i64 d] (((b, .cells [addrB u2 b 87 3, bufAV q2 (l), .int .i64 (c)]) :: bufSt q2 5 (l)) ++ F) (fun x st' => ∃ foot', (∃ (u' : Bool) (q' : Buf), q'.ok (l) ∧ x = .tup [] ∧ foot' = (b, .cells [addrB u' b 87 3, bufAV q' (l), .int .i64 (failC c d)]) :: bufSt q' 5 (l)) ∧ st' = foot' ++ F) := (sticks_Fail_ok b 2 [_, _, .int .i64 c] c d rfl _).mono fun x st' ⟨h1, h2⟩ => ⟨_, ⟨u2, q2, hq2, h1, rfl⟩, h2⟩
theorem pack_Put_ok (b : Nat) (u2 : Bool) (q2 : Buf) (l : List UInt8) (c : Int) (hq2 : q2.ok l)  (hl : l.length + 20000 ≤ 100000000000) (s : Spc) (hs : lightS s = true) (F : St) (hG : ∀ r, r ∈ Gs tabs → r ∈ F) : ACalls Tryz.prog 15 [.ptr b 0, spcAV s] (((b, .cells [addrB u2 b 87 3, bufAV q2 (l), .int .i64 (c)]) :: bufSt q2 5 (l)) ++ F) (fun x st' => ∃ foot', (∃ (u' : Bool) (q' : Buf), q'.ok (if checkE s = none then wput c l (spcB s) else l) ∧ x = .tup [] ∧ foot' = (b, .cells [addrB u' b 87 3, bufAV q' ((if checkE s = none then wput c l (spcB s) else l)), .int .i64 ((if checkE s = none then c else failC c (erCode (checkE s))))]) :: bufSt q' 5 ((if checkE s = none then wput c l (spcB s) else l))) ∧ st' = foot' ++ F) := by
 refine co 50 Tryz.func15 ?_
 refine AC_seq (AC_region ?_)
 refine s_ (S_box1 rfl (.tmp rfl) rfl) ?_
 rintro _ _ ⟨b2, rfl, rfl⟩
 refine s_ (S_box rfl (.tmp rfl)) ?_
 rintro _ _ ⟨b3, rfl, rfl⟩
 refine AL_nil ?_
 refine AC_seq ?_
 refine AC_seq (AC_region ?_)
 refine ldN 7 0 ?_
 refine p_ (S_gcall rfl (AEvs.cons (.tmp rfl) AEvs.nil) ((spec_Check_ok s hs) _ (fun p hp => by first | exact hst p (List.mem_cons_of_mem _ hp) | exact (by repeat (first | exact hG p hp | refine List.mem_append_right _ ?_ | refine List.mem_cons_of_mem _ ?_))))) ?_
 refine as_ rfl rfl rfl rfl ?_
 refine AL_nil (AC_seq (AC_region ?_))
 refine mv rfl rfl rfl rfl ?_
 refine p_ (S_neqE (er_is 28 167 (checkE s)) rfl (.tmp rfl) (by kernel_rfl)) ?_
 refine AL_nil ?_
 refine AC_cond (.tmp rfl) (fun hb3 => ?_) (fun hb3 => ?_)
 ·try simp only [zA,zO,zN,zM,zP,zQ,zD,zF,gd] at hb3
  have hk : ¬ checkE s = none := fun h => by rw [h] at hb3; simp at hb3
  refine AC_seq ?_
  refine AC_plan (σ := [(0, 0), (1, 0), (2, 0), (3, 0), (4, 0), (5, 2)]) (by kernel_rfl) ((b2, Ob.cells [.ptr b 0]) :: Gs tabs) (by kernel_rfl) (fun r hr => by
   rcases List.mem_cons.1 hr with rfl | hr
   ·exact List.mem_cons_of_mem _ List.mem_cons_self
   ·exact (by repeat (first | exact hG r hr | refine List.mem_append_right _ ?_ | refine List.mem_cons_of_mem _ ?_))) ?_
  refine AG.f rfl rfl (fun st' hst => Q_p rfl (S_loadM rfl (.tmp rfl) (hst _ (List.mem_of_getElem? (i := 0) rfl)) rfl (by kernel_rfl))) ?_
  refine AG.f rfl rfl (fun st' hst => Q_p rfl (S_nilCheck rfl (.tmp rfl))) ?_
  refine AG.f rfl rfl (fun st' hst => Q_p rfl (S_field 2 rfl (.tmp rfl) (by kernel_rfl))) ?_
  refine AG.f rfl rfl (fun st' hst => Q_p rfl (S_move rfl (.tmp rfl))) ?_
  refine AG.f rfl rfl (fun st' hst => Q_p rfl (S_gcall rfl (AEvs.cons (.tmp rfl) AEvs.nil) ((fail_Code_ok (checkE s)) _ (fun p hp => by first | exact hst p (List.mem_cons_of_mem _ hp) | exact (by repeat (first | exact hG p hp | refine List.mem_append_right _ ?_ | refine List.mem_cons_of_mem _ ?_)))))) ?_
  refine AG.h rfl rfl rfl (S_call rfl (AEvs.cons (.tmp rfl) (AEvs.cons (.tmp rfl) AEvs.nil)) (ACalls.preQ (pre := [_, _]) (F := F) (w_FailN b u2 q2 _ c hq2 (erCode (checkE s)) _))) ?_
  rintro _ _ ⟨_, ⟨u2, q2, hq2, rfl, rfl⟩, rfl⟩
  refine AG.nil ?_
  refine AC_ret ?_
  refine ret_none (((b, .cells [addrB u2 b 87 3, bufAV q2 (l), .int .i64 (failC c (erCode (checkE s)))]) :: bufSt q2 5 (l)) ++ F) rfl (Sub.l ((List.sublist_cons_self _ _).trans (List.sublist_cons_self _ _))) ⟨_, ⟨u2, q2, by rw [if_neg hk]; exact hq2, rfl, by rw [if_neg hk, if_neg hk]⟩, rfl⟩ (.inl rfl)
 try simp only [zA,zO,zN,zM,zP,zQ,zD,zF,gd] at hb3
 have hk : checkE s = none := by simpa using hb3
 obtain ⟨hk1, hk2, hk3, hk4, hk5, hk6, hk7⟩ := check_ok hk
 have hk21 := hk2.1
 have hk31 := hk3.1
 have hk41 := hk4.1
 have n1 := textB_len (s := s.name) (by omega)
 have n2 := listB_len (e := labB) (l := s.labels) (B := 1000) (by omega) fun x hx => labB_len (by have := (hk2.2 x hx).1; omega) (by have := (hk2.2 x hx).2; omega)
 have hcs : ∀ x ∈ [s.init, s.main], x.length ≤ 4 ∧ ∀ y ∈ x, CtrOk y := two_all ⟨by omega, hk3.2⟩ ⟨by omega, hk4.2⟩
 have hcl : ∀ x ∈ [s.init, s.main], (listB ctrB x).length ≤ 4010 := fun x hx => by
  have h8 := hcs x hx
  have h9 := listB_len (e := ctrB) (l := x) (B := 1000) (by omega) fun y hy => ctrB_len (h8.2 y hy)
  omega
 have n5 := numB_len (n := s.restart) (by omega)
 have n6 := numB_len (n := s.grace) (by omega)
 have n7 := numB_len (n := s.prio) (by omega)
 refine AC_skip ?_
 refine AC_seq (AC_region ?_)
 refine ld 1 ?_
 refine fl 0 ?_
 refine ld 0 ?_
 refine s_ (S_call rfl (AEvs.cons (.tmp rfl) (AEvs.cons (.tmp rfl) AEvs.nil)) (ACalls.preQ (pre := [_, _]) (F := F) (w_TextN b u2 q2 _ c hq2 (by first | omega | (refine Nat.le_trans (Nat.add_le_add_right (wput_len _ _ _) _) ?_; (try simp only [List.length_append]); omega)) s.name (by omega) (by first | omega | (refine Nat.le_trans (Nat.add_le_add_right (wput_len _ _ _) _) ?_; (try simp only [List.length_append]); omega)) _))) ?_
 rintro _ _ ⟨_, ⟨u2, q2, hq2, rfl, rfl⟩, rfl⟩
 refine AL_nil (AC_seq (AC_region ?_))
 refine ld 1 ?_
 refine fl 1 ?_
 refine ld 0 ?_
 refine s_ (S_call rfl (AEvs.cons (.tmp rfl) (AEvs.cons (.tmp rfl) AEvs.nil)) (ACalls.preQ (pre := [_, _]) (F := F) (PutLabels_ok b u2 q2 _ c hq2 s.labels (by first | omega | (refine Nat.le_trans (Nat.add_le_add_right (wput_len _ _ _) _) ?_; (try simp only [List.length_append]); omega)) (by omega) (fun x hx => ⟨by have := (hk2.2 x hx).1; omega, by have := (hk2.2 x hx).2; omega⟩) _))) ?_
 rintro _ _ ⟨_, ⟨u2, q2, hq2, rfl, rfl⟩, rfl⟩
 rw [wput_wput] at hq2 ⊢
 refine AL_nil ?_
 refine AC_seq ?_
 refine AC_seq (AC_region ?_)
 refine fl 2 ?_
 refine ld 0 ?_
 refine fl 3 ?_
 refine ld 0 ?_
 refine p_ (S_build (t := 91) (pl := [(0, 1), (1, 1)]) (zs := [.slice none 0 0, .slice none 0 0]) rfl (AEvs.cons (.tmp rfl) (AEvs.cons (.tmp rfl) AEvs.nil)) (by kernel_rfl) rfl) ?_
 refine p_ (S_move rfl (AEv.const _)) ?_
 refine AL_nil ?_
 refine AC_block ?_
 refine AC_loopK (G := Nat × Bool × Buf) [(2, _), (3, _), (29, _)] (fun g => g.1 ≤ 2 ∧ g.2.2.ok (wput c l ((textB s.name ++ listB labB s.labels) ++ ([s.init, s.main].take g.1).flatMap (listB ctrB)))) (fun g => [(30, .int .i64 (g.1 : Int))]) (fun g => (b3, .cells (spcL s)) :: (b2, .cells [.ptr b 0]) :: (((b, .cells [addrB g.2.1 b 87 3, bufAV g.2.2 (wput c l ((textB s.name ++ listB labB s.labels) ++ ([s.init, s.main].take g.1).flatMap (listB ctrB))), .int .i64 (c)]) :: bufSt g.2.2 5 (wput c l ((textB s.name ++ listB labB s.labels) ++ ([s.init, s.main].take g.1).flatMap (listB ctrB)))) ++ F)) (fun g => 2 - g.1) ((0, u2, q2)) (⟨Nat.zero_le _, by simpa using hq2⟩) (by simp only [List.take_zero, List.flatMap_nil, List.append_nil]; exact (Sub.l (List.Sublist.refl _))) (.cons rfl (Le.refl _) (.cons rfl (Le.refl _) (.cons rfl (Le.refl _) .nil))) (.cons rfl (by first | exact Le.refl _ | exact Le.nils | exact Le.row _ _ _ _ | exact Le.of_eq (by first | rfl | (simp; done) | (push_cast; rfl) | (simp; omega))) .nil) ?_
 rintro ⟨i, u2, q2⟩ ⟨hi, hq2⟩
 try dsimp only
 simp only [List.cons_append, List.nil_append]
 dsimp only at hi hq2
 have hfm := flatB_len (e := listB ctrB) (B := 4010) (l := [s.init, s.main].take i) fun x hx => hcl x (List.mem_of_mem_take hx)
 rw [List.length_take, show min i [s.init, s.main].length = i from Nat.min_eq_left hi] at hfm
 refine AC_seq (AC_region ?_)
 refine p_ (S_lss rfl (.tmp rfl) (AEv.const _)) ?_
 refine AL_nil ?_
 refine AC_seq ?_
 refine AC_cond (.tmp rfl) (fun hb4 => ?_) (fun hb4 => ?_)
 ·try simp only [zA,zO,zN,zM,zP,zQ,zD,zF,gd] at hb4
  have hil : i < [s.init, s.main].length := by show i < 2; omega
  have hci := hcs _ (List.getElem_mem hil)
  have hcj := hcl _ (List.getElem_mem hil)
  refine AC_skip ?_
  refine AC_seq ?_
  refine AC_block ?_
  refine AC_seq (AC_region ?_)
  refine p_ ((S_idxOne (e := 23) (len := 2) (c := .sl (ctrsV ([s.init, s.main][i]'hil))) rfl (.tmp rfl) (.tmp rfl) (by kernel_rfl) (by kernel_rfl) (by kernel_rfl) (by omega) (by omega) (by rcases (show i = 0 ∨ i = 1 by omega) with rfl | rfl <;> rfl))) ?_
  refine as_ rfl rfl rfl rfl ?_
  refine AL_nil ?_
  refine AC_region ?_
  refine ld 1 ?_
  refine mv rfl rfl rfl rfl ?_
  refine p_ (S_makeFunc (caps := [_]) rfl (AEvs.cons (.tmp rfl) AEvs.nil)) ?_
  refine s_ (S_call rfl (AEvs.cons (.tmp rfl) (AEvs.cons (.tmp rfl) (AEvs.cons (.tmp rfl) AEvs.nil))) (ACalls.preQ (pre := [_, _]) (F := F) (putAllC_ok b u2 q2 _ c hq2 ([s.init, s.main][i]'hil) (by first | omega | (refine Nat.le_trans (Nat.add_le_add_right (wput_len _ _ _) _) ?_; (try simp only [List.length_append]); omega)) b2 (by omega) hci.2 _ (List.mem_cons_of_mem _ List.mem_cons_self)))) ?_
  rintro _ _ ⟨_, ⟨u2, q2, hq2, rfl, rfl⟩, rfl⟩
  rw [wput_wput] at hq2 ⊢
  refine AL_nil ?_
  refine AC_region ?_
  refine p_ (S_addI rfl (.tmp rfl) (AEv.const _) (by omega) (by omega)) ?_
  refine mv rfl rfl rfl rfl ?_
  refine AL_nil ?_
  refine ⟨(i + 1, u2, q2), ⟨by dsimp only; omega, by dsimp only; rw [flatB_next hil]; exact hq2⟩, by dsimp only; omega, by dsimp only; rw [flatB_next hil]; exact (Sub.l (List.Sublist.refl _)), (.cons rfl (by first | exact Le.refl _ | exact Le.nils | exact Le.row _ _ _ _ | exact Le.of_eq (by first | rfl | (simp; done) | (push_cast; rfl) | (simp; omega))) .nil), (.cons rfl (Le.refl _) (.cons rfl (Le.refl _) (.cons rfl (Le.refl _) .nil)))⟩
 try simp only [zA,zO,zN,zM,zP,zQ,zD,zF,gd] at hb4
 have hi2 : i = 2 := by omega
 subst hi2
 rw [show [s.init, s.main].take 2 = [s.init, s.main] from rfl] at hq2 hfm ⊢
 refine AC_exit ?_
 refine AC_seq (AC_region ?_)
 refine ld 1 ?_
 refine fl 4 ?_
 refine ld 0 ?_
 refine s_ (S_call rfl (AEvs.cons (.tmp rfl) (AEvs.cons (.tmp rfl) AEvs.nil)) (ACalls.preQ (pre := [_, _]) (F := F) (w_NumN b u2 q2 _ c hq2 (by first | omega | (refine Nat.le_trans (Nat.add_le_add_right (wput_len _ _ _) _) ?_; (try simp only [List.length_append]); omega)) s.restart (by omega) (by omega) _))) ?_
 rintro _ _ ⟨_, ⟨u2, q2, hq2, rfl, rfl⟩, rfl⟩
 rw [wput_wput] at hq2 ⊢
 refine AL_nil (AC_seq (AC_region ?_))
 refine ld 1 ?_
 refine fl 5 ?_
 refine ld 0 ?_
 refine s_ (S_call rfl (AEvs.cons (.tmp rfl) (AEvs.cons (.tmp rfl) AEvs.nil)) (ACalls.preQ (pre := [_, _]) (F := F) (w_NumN b u2 q2 _ c hq2 (by first | omega | (refine Nat.le_trans (Nat.add_le_add_right (wput_len _ _ _) _) ?_; (try simp only [List.length_append]); omega)) s.grace (by omega) (by omega) _))) ?_
 rintro _ _ ⟨_, ⟨u2, q2, hq2, rfl, rfl⟩, rfl⟩
 rw [wput_wput] at hq2 ⊢
 refine AL_nil ?_
 refine AC_region ?_
 refine ld 1 ?_
 refine fl 6 ?_
 refine ld 0 ?_
 refine s_ (S_call rfl (AEvs.cons (.tmp rfl) (AEvs.cons (.tmp rfl) AEvs.nil)) (ACalls.preQ (pre := [_, _]) (F := F) (w_NumN b u2 q2 _ c hq2 (by first | omega | (refine Nat.le_trans (Nat.add_le_add_right (wput_len _ _ _) _) ?_; (try simp only [List.length_append]); omega)) s.prio (by omega) (by omega) _))) ?_
 rintro _ _ ⟨_, ⟨u2, q2, hq2, rfl, rfl⟩, rfl⟩
 rw [wput_wput] at hq2 ⊢
 rw [spcB_assoc] at hq2 ⊢
 refine AL_nil ?_
 refine ret_none (((b, .cells [addrB u2 b 87 3, bufAV q2 (wput c l (spcB s)), .int .i64 (c)]) :: bufSt q2 5 (wput c l (spcB s))) ++ F) rfl (Sub.l ((List.sublist_cons_self _ _).trans (List.sublist_cons_self _ _))) ⟨_, ⟨u2, q2, by rw [if_pos hk]; exact hq2, rfl, by rw [if_pos hk, if_pos hk]⟩, rfl⟩ (.inr rfl)
theorem pack_Bytes_ok (s : Spc) (hs : lightS s = true) : GCalls Tryz.prog tabs 11 [spcAV s] (.tup [.S (if checkE s = none then spcB s else []), .int .i64 (erCode (checkE s))]) := by
 intro st hG
 refine co 13 Tryz.func11 ?_
 refine AC_seq (AC_region ?_)
 refine s_ (S_box rfl (.tmp rfl)) ?_
 rintro _ _ ⟨b1, rfl, rfl⟩
 refine p_ (S_assign rfl (AEv.S _)) ?_
 refine ac rfl rfl rfl ?_
 refine AL_nil (AC_seq (AC_region ?_))
 refine s_ (S_call rfl AEvs.nil (wire_Write_ok _)) ?_
 rintro _ _ ⟨_, ⟨b4, rfl, rfl⟩, rfl⟩
 refine as_ rfl rfl rfl rfl ?_
 refine AL_nil (AC_seq (AC_region ?_))
 refine mv rfl rfl rfl rfl ?_
 refine ldN 7 1 ?_
 refine s_ (S_call rfl (AEvs.cons (.tmp rfl) (AEvs.cons (.tmp rfl) AEvs.nil)) (pack_Put_ok b4 false .nil [] 0 rfl (by decide) s hs _ (fun p hp => List.mem_cons_of_mem _ (hG p hp)))) ?_
 rintro _ _ ⟨_, ⟨u2, q2, hq2, rfl, rfl⟩, rfl⟩
 refine AL_nil (AC_seq (AC_region ?_))
 refine mv rfl rfl rfl rfl ?_
 refine s_ (S_call rfl (AEvs.cons (.tmp rfl) AEvs.nil) (w_End_ok b4 u2 q2 _ _ hq2 _)) ?_
 rintro _ _ ⟨_, ⟨cs2, rfl, rfl⟩, rfl⟩
 refine ex 0 ?_
 refine ex 1 ?_
 refine as_ rfl rfl rfl rfl ?_
 refine as_ rfl rfl rfl rfl ?_
 refine AL_nil (AC_ret ?_)
 refine ret_tmps (ts := [2, 3]) st rfl (by decide) rfl (Sub.l ((List.sublist_cons_self _ _).trans (List.sublist_cons_self _ _))) (Conv.refl (Sub.l ((List.sublist_cons_self _ _).trans (List.sublist_cons_self _ _))) _) ⟨bytes_fin s, rfl⟩ (.inl rfl)
end Go.Proofs.YtfmiciodcimkeaaGreatDoor
