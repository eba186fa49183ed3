/- A part of the proof: what the program's functions answer.
Conditions: none beyond each theorem's own. -/
import Derived.Test.YtfpkefhjomeeeaaGreatDoorW1
set_option linter.unusedVariables false
set_option linter.unusedSimpArgs false
set_option maxRecDepth 100000
namespace Go.Proofs.YtfpkefhjomeeeaaGreatDoor
open Go.AL Go.NumSpec
theorem seen_name_f (b : Nat) (p q : Own) (ns : List (List UInt8)) (ps : List Int) (hp : p.ok (strsV ns)) (hq : q.ok (intsV ps)) (hns : ns.length ≤ 1000) (c : Ctr) (F : St) (hG : ∀ r, r ∈ Gs tabs → r ∈ F) : ACalls Tryz.prog 179 [.ptr b 0, ctrAV c] (seenSt 9 3 b p q ns ps ++ F) fun x st' => ∃ foot', (∃ p' : Own, p'.ok (strsV (ns ++ [c.name])) ∧ x = erV 45 185 (nameE ns c.name) ∧ foot' = seenSt 9 3 b p' q (ns ++ [c.name]) ps) ∧ st' = foot' ++ F := by
 unfold seenSt
 simp only [List.cons_append, List.append_assoc]
 exact (seen_name_ok b p q ns ps hp hq hns c F hG).mono fun x st' ⟨p', h1, h2, h3⟩ => ⟨_, ⟨p', h1, h2, rfl⟩, by rw [h3]; simp only [List.cons_append, List.append_assoc]⟩
theorem seen_port_f (b : Nat) (p q : Own) (ns : List (List UInt8)) (ps : List Int) (hp : p.ok (strsV ns)) (hq : q.ok (intsV ps)) (hps : ps.length ≤ 1000) (l : List Int) (hl : l.length ≤ 1000) (n : Int) (F : St) : ACalls Tryz.prog 183 [.ptr b 0, .sl (intsV l), .int .i64 n] (seenSt 9 3 b p q ns ps ++ F) fun x st' => ∃ foot', (∃ (q' : Own) (m : Nat), m ≤ (l).length ∧ (portE ps (l) (n) = none → m = (l).length) ∧ q'.ok (intsV (ps ++ (l).take m)) ∧ x = erV 45 185 (portE ps (l) (n)) ∧ foot' = seenSt 9 3 b p q' ns (ps ++ (l).take m)) ∧ st' = foot' ++ F := by
 unfold seenSt
 simp only [List.cons_append, List.append_assoc]
 exact (seen_port_ok b p q ns ps hp hq hps l hl n F).mono fun x st' ⟨q', m, h1, h2, h3, h4, h5⟩ => ⟨_, ⟨q', m, h1, h2, h3, h4, rfl⟩, by rw [h5]; simp only [List.cons_append, List.append_assoc]⟩
theorem seen_container_ok (b : Nat) (p q : Own) (ns : List (List UInt8)) (ps : List Int) (hp : p.ok (strsV ns)) (hq : q.ok (intsV ps)) (hns : ns.length ≤ 1000) (hps : ps.length ≤ 1000) (c : Ctr) (himg : c.image.length ≤ 1000000) (hpo : c.ports.length ≤ 1000) (ports every : Int) (F : St) (hG : ∀ r, r ∈ Gs tabs → r ∈ F) : ACalls Tryz.prog 172 [.ptr b 0, ctrAV c, .int .i64 ports, .int .i64 every] (seenSt 9 3 b p q ns ps ++ F) (fun x st' => ∃ foot', (∃ (p' q' : Own) (m : Nat), m ≤ c.ports.length ∧ (portE ps c.ports ports = none → m = c.ports.length) ∧ p'.ok (strsV (ns ++ [c.name])) ∧ q'.ok (intsV (ps ++ c.ports.take m)) ∧ x = erV 45 185 (ctrE ns ps c ports every) ∧ foot' = seenSt 9 3 b p' q' (ns ++ [c.name]) (ps ++ c.ports.take m)) ∧ st' = foot' ++ F) := by
 refine co 36 Tryz.func172 ?_
 refine AC_seq (AC_region ?_)
 refine s_ (S_box rfl (.tmp rfl)) ?_
 rintro _ _ ⟨b1, rfl, rfl⟩
 refine ac rfl rfl rfl ?_
 refine AL_nil ?_
 refine AC_seq ?_
 refine AC_plan (σ := [(0, 0), (1, 0), (3, 0), (4, 0), (6, 0), (8, 0), (9, 0), (11, 0), (12, 0), (13, 0), (14, 0), (16, 0), (17, 0), (18, 0), (19, 0), (21, 0), (22, 0), (23, 0), (2, 1), (5, 0), (7, 0), (10, 0), (15, 0), (20, 1), (24, 0), (25, 0), (26, 0), (27, 0)]) (by kernel_rfl) ((b1, .cells (ctrL c)) :: Gs tabs) (by kernel_rfl) (fun r hr => by rcases List.mem_cons.1 hr with rfl | hr2; exact List.mem_cons_self; exact List.mem_cons_of_mem _ (List.mem_append_right _ (hG r hr2))) ?_
 refine AG.f rfl rfl (fun st' hst => Q_p rfl (S_move rfl (.tmp rfl))) ?_
 refine AG.f rfl rfl (fun st' hst => Q_p rfl (S_loadNM (m := 11) rfl (.tmp rfl) (hst _ (List.mem_of_getElem? (i := 0) rfl)) (by kernel_rfl) (by first | exact Nat.le_of_ble_eq_true rfl | (simp; omega) | simp))) ?_
 refine AG.f rfl rfl (fun st' hst => Q_p rfl (S_field 1 rfl (.tmp rfl) (by kernel_rfl))) ?_
 refine AG.f rfl rfl (fun st' hst => Q_p rfl (S_loadM rfl (.tmp rfl) (hst _ (List.mem_of_getElem? (i := 0) rfl)) rfl (by kernel_rfl))) ?_
 refine AG.f rfl rfl (fun st' hst => Q_p rfl (S_buildSlice (e := 9) 1 rfl (AEvs.cons (AEv.S _) AEvs.nil) rfl (by kernel_rfl) (by kernel_rfl) (by simp [AV.flat, AV.one, AV.cells, Value.oneCell']) (by decide) (by decide) (by decide))) ?_
 refine AG.f rfl rfl (fun st' hst => Q_p rfl (S_field 2 rfl (.tmp rfl) (by kernel_rfl))) ?_
 refine AG.f rfl rfl (fun st' hst => Q_p rfl (S_loadNM (m := 3) rfl (.tmp rfl) (hst _ (List.mem_of_getElem? (i := 0) rfl)) (by kernel_rfl) (by first | exact Nat.le_of_ble_eq_true rfl | (simp; omega) | simp))) ?_
 refine AG.f rfl rfl (fun st' hst => Q_p rfl (S_field 5 rfl (.tmp rfl) (by kernel_rfl))) ?_
 refine AG.f rfl rfl (fun st' hst => Q_p rfl (S_loadNM (m := 3) rfl (.tmp rfl) (hst _ (List.mem_of_getElem? (i := 0) rfl)) (by kernel_rfl) (by first | exact Nat.le_of_ble_eq_true rfl | (simp; omega) | simp))) ?_
 refine AG.f rfl rfl (fun st' hst => Q_p rfl (S_field 2 rfl (.tmp rfl) (by kernel_rfl))) ?_
 refine AG.f rfl rfl (fun st' hst => Q_p rfl (S_loadNM (m := 3) rfl (.tmp rfl) (hst _ (List.mem_of_getElem? (i := 0) rfl)) (by kernel_rfl) (by first | exact Nat.le_of_ble_eq_true rfl | (simp; omega) | simp))) ?_
 refine AG.f rfl rfl (fun st' hst => Q_p rfl (S_move rfl (.tmp rfl))) ?_
 refine AG.f rfl rfl (fun st' hst => Q_p rfl (S_field 8 rfl (.tmp rfl) (by kernel_rfl))) ?_
 refine AG.f rfl rfl (fun st' hst => Q_p rfl (S_loadM rfl (.tmp rfl) (hst _ (List.mem_of_getElem? (i := 0) rfl)) rfl (by kernel_rfl))) ?_
 refine AG.f rfl rfl (fun st' hst => Q_p rfl (S_move rfl (.tmp rfl))) ?_
 refine AG.f rfl rfl (fun st' hst => Q_p rfl (S_field 9 rfl (.tmp rfl) (by kernel_rfl))) ?_
 refine AG.f rfl rfl (fun st' hst => Q_p rfl (S_loadNM (m := 2) rfl (.tmp rfl) (hst _ (List.mem_of_getElem? (i := 0) rfl)) (by kernel_rfl) (by first | exact Nat.le_of_ble_eq_true rfl | (simp; omega) | simp))) ?_
 refine AG.f rfl rfl (fun st' hst => Q_p rfl (S_move rfl (.tmp rfl))) ?_
 refine AG.s rfl rfl rfl (S_call rfl (AEvs.cons (.tmp rfl) (AEvs.cons (y := ctrAV c) (.tmp rfl) AEvs.nil)) (ACalls.preP (G := fun F => ∀ r, r ∈ Gs tabs → r ∈ F) (fun pre F h r hr => List.mem_append_right _ (h r hr)) (foot := seenSt 9 3 b p q ns ps) (K := fun x foot' => ∃ p' : Own, p'.ok (strsV (ns ++ [c.name])) ∧ x = erV 45 185 (nameE ns c.name) ∧ foot' = seenSt 9 3 b p' q (ns ++ [c.name]) ps) (fun F hF => seen_name_f b p q ns ps hp hq hns c F hF) [(b1, Ob.cells (ctrL c))] F hG)) ?_ ?_
 ·rintro _ _ ⟨_, ⟨p2, hp2, rfl, rfl⟩, rfl⟩ r hr; exact (List.mem_cons.1 hr).elim (fun h => h ▸ List.mem_append_left _ List.mem_cons_self) (fun h => List.mem_append_right _ (List.mem_append_right _ (hG r h)))
 rintro _ _ ⟨_, ⟨p2, hp2, rfl, rfl⟩, rfl⟩
 refine AG.f rfl rfl (fun st' hst => Q_p rfl (S_gcall rfl (AEvs.cons (.tmp rfl) AEvs.nil) ((text_Image_ok c.image (by omega)) _ (fun r hr => hst r (List.mem_cons_of_mem _ hr))))) ?_
 refine AG.f rfl rfl (fun st' hst => Q_p rfl (S_pcall rfl (AEvs.cons (.tmp rfl) (AEvs.cons (.tmp rfl) AEvs.nil)) (fail_New_ok (saysV (tparts c.image).2.2 33) [[105, 109, 97, 103, 101]] (by simp)))) ?_
 refine AG.f rfl rfl (fun st' hst => Q_p rfl (S_pcall rfl (AEvs.cons (y := resAV c.req) (.tmp rfl) AEvs.nil) (spec_req_ok c.req))) ?_
 refine AG.f rfl rfl (fun st' hst => Q_p rfl (S_pcall rfl (AEvs.cons (y := resAV c.lim) (.tmp rfl) (AEvs.cons (y := resAV c.req) (.tmp rfl) AEvs.nil)) (spec_lim_ok c.lim c.req))) ?_
 refine AG.s rfl rfl rfl (S_call rfl (AEvs.cons (.tmp rfl) (AEvs.cons (.tmp rfl) (AEvs.cons (.tmp rfl) AEvs.nil))) (ACalls.pre (foot := seenSt 9 3 b p2 q (ns ++ [c.name]) ps) (K := fun x foot' => ∃ (q' : Own) (m : Nat), m ≤ (c.ports).length ∧ (portE ps (c.ports) (ports) = none → m = (c.ports).length) ∧ q'.ok (intsV (ps ++ (c.ports).take m)) ∧ x = erV 45 185 (portE ps (c.ports) (ports)) ∧ foot' = seenSt 9 3 b p2 q' (ns ++ [c.name]) (ps ++ (c.ports).take m)) (fun F => seen_port_f b p2 q (ns ++ [c.name]) ps hp2 hq hps c.ports hpo ports F) [(b1, Ob.cells (ctrL c))] F)) ?_ ?_
 ·rintro _ _ ⟨_, ⟨q2, m, hm, hm2, hq2, rfl, rfl⟩, rfl⟩ r hr; exact (List.mem_cons.1 hr).elim (fun h => h ▸ List.mem_append_left _ List.mem_cons_self) (fun h => List.mem_append_right _ (List.mem_append_right _ (hG r h)))
 rintro _ _ ⟨_, ⟨q2, m, hm, hm2, hq2, rfl, rfl⟩, rfl⟩
 refine AG.f rfl rfl (fun st' hst => Q_p rfl (S_pcall rfl (AEvs.cons (y := probeAV c.probe) (.tmp rfl) (AEvs.cons (.tmp rfl) AEvs.nil)) (spec_probe_ok c.probe every))) ?_
 refine AG.f rfl rfl (fun st' hst => Q_p rfl (S_buildSlice (e := 56) 1 rfl (AEvs.cons (.tmp rfl) (AEvs.cons (.tmp rfl) (AEvs.cons (.tmp rfl) (AEvs.cons (.tmp rfl) (AEvs.cons (.tmp rfl) (AEvs.cons (.tmp rfl) AEvs.nil)))))) rfl (by kernel_rfl) (by kernel_rfl) (by intro y hy; simp only [List.mem_cons, List.not_mem_nil, or_false] at hy; rcases hy with rfl | rfl | rfl | rfl | rfl | rfl <;> exact ⟨er_flat _ _ _, by rw [er_cells]; rfl⟩) (by decide) (by decide) (by decide))) ?_
 refine AG.f rfl rfl (fun st' hst => Q_p rfl (S_pcall rfl (AEvs.cons (.tmp rfl) AEvs.nil) (fail_First_ok [nameE ns c.name, erNew (saysV (tparts c.image).2.2 33) [[105, 109, 97, 103, 101]], reqE c.req, limE c.lim c.req, portE ps c.ports ports, probeE c.probe every] (by simp)))) ?_
 refine AG.f rfl rfl (fun st' hst => Q_p rfl (S_assign rfl (.tmp rfl))) ?_
 refine AG.nil ?_
 refine AC_ret ?_
 refine ret_tmp (seenSt 9 3 b p2 q2 (ns ++ [c.name]) (ps ++ c.ports.take m) ++ F) rfl rfl (Sub.l (List.Sublist.cons _ (List.Sublist.refl _))) (Conv.refl (Sub.l (List.Sublist.cons _ (List.Sublist.refl _))) _) ⟨_, ⟨p2, q2, m, hm, hm2, hp2, hq2, rfl, rfl⟩, rfl⟩ (.inl rfl)
theorem seen_containers_ok (b : Nat) (p q : Own) (name : List UInt8) (hn : name.length ≤ 1000000) (ns : List (List UInt8)) (ps : List Int) (hp : p.ok (strsV ns)) (hq : q.ok (intsV ps)) (hns : ns.length ≤ 100) (hps : ps.length ≤ 100) (l : List Ctr) (hl : l.length ≤ 8) (hc : ∀ c ∈ l, lightC c = true) (ports every : Int) (F : St) (hG : ∀ r, r ∈ Gs tabs → r ∈ F) : ACalls Tryz.prog 153 [.ptr b 0, .S name, .sl (ctrsV l), .int .i64 ports, .int .i64 every] (seenSt 9 3 b p q ns ps ++ F) (fun x st' => ∃ foot', (∃ (p' q' : Own) (ns' : List (List UInt8)) (ps' : List Int), p'.ok (strsV ns') ∧ q'.ok (intsV ps') ∧ (ctrsE name ns ps l ports every = none → ns' = namesTo ns l l.length ∧ ps' = portsTo ps l l.length) ∧ x = erV 45 185 (ctrsE name ns ps l ports every) ∧ foot' = seenSt 9 3 b p' q' ns' ps') ∧ st' = foot' ++ F) := by
 refine co 34 Tryz.func153 ?_
 have hll : (ctrsV l).length = l.length := by simp [ctrsV]
 have hpo : ∀ c ∈ l, c.ports.length ≤ 10 := fun c h => (of_decide_eq_true (hc c h)).2.2
 refine AC_seq (AC_region ?_)
 refine ac rfl rfl rfl ?_
 refine AL_nil ?_
 refine AC_seq ?_
 refine AC_seq (AC_region ?_)
 refine mv rfl rfl rfl rfl ?_
 refine p_ (S_len (e := 67) rfl (.tmp rfl) (by kernel_rfl)) ?_
 refine p_ (S_move rfl (AEv.const _)) ?_
 refine AL_nil ?_
 refine AC_block ?_
 refine AC_loopS (G := Nat × Own × Own) (fun g => g.1 ≤ l.length ∧ (∀ j, j < g.1 → ctrAt ns ps l ports every j = none) ∧ g.2.1.ok (strsV (namesTo ns l g.1)) ∧ g.2.2.ok (intsV (portsTo ps l g.1))) (fun g => [(0, .ptr b 0), (1, .S name), (3, .int .i64 ports), (4, .int .i64 every), (14, .sl (ctrsV l)), (15, .int .i64 ((ctrsV l).length : Int)), (16, .int .i64 (g.1 : Int))]) (fun g => (seenSt 9 3 b g.2.1 g.2.2 (namesTo ns l g.1) (portsTo ps l g.1) ++ F)) (fun g => l.length - g.1) ((0, p, q)) (⟨Nat.zero_le _, fun j hj => absurd hj (Nat.not_lt_zero _), by simpa [namesTo] using hp, by simpa [portsTo] using hq⟩) (by simp only [namesTo, portsTo, List.take_zero, List.map_nil, List.flatMap_nil, List.append_nil]; exact Sub.l (List.Sublist.refl _)) ?_ ?_
 ·exact (.cons rfl (Le.refl _) (.cons rfl (Le.refl _) (.cons rfl (Le.refl _) (.cons rfl (Le.refl _) (.cons rfl (Le.refl _) (.cons rfl (Le.refl _) (.cons rfl (Le.refl _) .nil)))))))
 rintro ⟨i, p1, q1⟩ ⟨hi, hno, hp1, hq1⟩
 try dsimp only
 dsimp only at hi hno hp1 hq1
 refine AC_seq (AC_region ?_)
 refine p_ (S_lss rfl (.tmp rfl) (.tmp rfl)) ?_
 refine AL_nil ?_
 refine AC_seq ?_
 refine AC_cond (.tmp rfl) (fun hb1 => ?_) (fun hb1 => ?_)
 ·try simp only [zA,zO,zN,zM,zP,zQ,zD,zF,gd] at hb1
  have hil : i < l.length := by omega
  have hif : fits (i : Int) := by unfold fits; omega
  have hb1 := namesTo_le (i := i) hl hns
  have hb2 := portsTo_le (i := i) hpo hl hps
  obtain ⟨k1, k2, k3⟩ := of_decide_eq_true (hc _ (List.getElem_mem hil))
  refine AC_skip ?_
  refine AC_seq ?_
  refine AC_block ?_
  refine AC_seq (AC_region ?_)
  refine mv rfl rfl rfl rfl ?_
  refine p_ (S_elem (e := 67) (c := ctrAV (l[i]'hil)) (i := (i : Int)) 11 rfl (.tmp rfl) (.tmp rfl) (by kernel_rfl) (by kernel_rfl) (by omega) (by simp [ctrsV, hil]) rfl) ?_
  refine p_ (S_loadPN (m := 11) rfl (.tmp rfl) (by kernel_rfl) (by first | exact Nat.le_of_ble_eq_true rfl | (simp; omega) | simp)) ?_
  refine s_ (S_alloc [.string ⟨#[]⟩, .string ⟨#[]⟩, .int .i64 0, .int .i64 0, .int .i64 0, .int .i64 0, .int .i64 0, .int .i64 0, .slice none 0 0, .int .i64 0, .int .i64 0] rfl (by kernel_rfl)) ?_
  rintro _ _ ⟨b2, rfl, rfl⟩
  refine as_ rfl rfl rfl rfl ?_
  refine stN 0 ?_
  refine AL_nil (AC_seq (AC_region ?_))
  refine mv rfl rfl rfl rfl ?_
  refine ldN 11 0 ?_
  refine mv rfl rfl rfl rfl ?_
  refine mv rfl rfl rfl rfl ?_
  refine s_ (S_call rfl (AEvs.cons (.tmp rfl) (AEvs.cons (y := ctrAV (l[i]'hil)) (.tmp rfl) (AEvs.cons (.tmp rfl) (AEvs.cons (.tmp rfl) AEvs.nil)))) (ACalls.preP (G := fun F => ∀ r, r ∈ Gs tabs → r ∈ F) (fun pre F h r hr => List.mem_append_right _ (h r hr)) (foot := seenSt 9 3 b p1 q1 (namesTo ns l i) (portsTo ps l i)) (K := fun x foot' => ∃ (p' q' : Own) (m : Nat), m ≤ ((l[i]'hil)).ports.length ∧ (portE (portsTo ps l i) ((l[i]'hil)).ports ports = none → m = ((l[i]'hil)).ports.length) ∧ p'.ok (strsV ((namesTo ns l i) ++ [((l[i]'hil)).name])) ∧ q'.ok (intsV ((portsTo ps l i) ++ ((l[i]'hil)).ports.take m)) ∧ x = erV 45 185 (ctrE (namesTo ns l i) (portsTo ps l i) (l[i]'hil) ports every) ∧ foot' = seenSt 9 3 b p' q' ((namesTo ns l i) ++ [((l[i]'hil)).name]) ((portsTo ps l i) ++ ((l[i]'hil)).ports.take m)) (fun F hF => seen_container_ok b p1 q1 (namesTo ns l i) (portsTo ps l i) hp1 hq1 (by omega) (by omega) (l[i]'hil) (by omega) (by omega) ports every F hF) [(_, _)] F hG)) ?_
  rintro _ _ ⟨_, ⟨p2, q2, m, hm, hm2, hp2, hq2, rfl, rfl⟩, rfl⟩
  refine as_ rfl rfl rfl rfl ?_
  refine AL_nil (AC_seq (AC_region ?_))
  refine mv rfl rfl rfl rfl ?_
  refine p_ (S_neqE (er_is 45 185 (ctrE (namesTo ns l i) (portsTo ps l i) (l[i]'hil) ports every)) rfl (.tmp rfl) (by kernel_rfl)) ?_
  refine AL_nil ?_
  refine AC_cond (.tmp rfl) (fun hb3 => ?_) (fun hb3 => ?_)
  ·try simp only [zA,zO,zN,zM,zP,zQ,zD,zF,gd] at hb3
   obtain ⟨y, hy⟩ : ∃ y, (ctrE (namesTo ns l i) (portsTo ps l i) (l[i]'hil) ports every) = some y := by cases h : (ctrE (namesTo ns l i) (portsTo ps l i) (l[i]'hil) ports every) with | none => rw [h] at hb3; simp at hb3 | some y => exact ⟨y, rfl⟩
   have hend : ctrsE name ns ps l ports every = erIn (some y) (atT name (i : Int)) := eachE_at hil (by rw [ctrAt_at hil, hy]; rfl) (fun j hj => by rw [hno j hj]; rfl)
   refine AC_seq (AC_region ?_)
   refine mv rfl rfl rfl rfl ?_
   refine mv rfl rfl rfl rfl ?_
   refine mv rfl rfl rfl rfl ?_
   refine p_ (S_pcall rfl (AEvs.cons (.tmp rfl) (AEvs.cons (.tmp rfl) AEvs.nil)) (spec_at_ok name hn (i : Int) hif)) ?_
   refine p_ (S_pcall rfl (AEvs.cons (.tmp rfl) (AEvs.cons (.tmp rfl) AEvs.nil)) (fail_In_ok (ctrE (namesTo ns l i) (portsTo ps l i) (l[i]'hil) ports every) (atT name (i : Int)))) ?_
   refine as_ rfl rfl rfl rfl ?_
   refine AL_nil (AC_ret ?_)
   refine ret_tmp (seenSt 9 3 b p2 q2 ((namesTo ns l i) ++ [((l[i]'hil)).name]) ((portsTo ps l i) ++ ((l[i]'hil)).ports.take m) ++ F) rfl rfl (Sub.l (List.Sublist.cons _ (List.Sublist.refl _))) (Conv.refl (Sub.l (List.Sublist.cons _ (List.Sublist.refl _))) _) ⟨_, ⟨p2, q2, _, _, hp2, hq2, (fun h => by rw [hend] at h; cases h), by rw [hend, hy], rfl⟩, rfl⟩ (.inl rfl)
  try simp only [zA,zO,zN,zM,zP,zQ,zD,zF,gd] at hb3
  have hnone : (ctrE (namesTo ns l i) (portsTo ps l i) (l[i]'hil) ports every) = none := by cases h : (ctrE (namesTo ns l i) (portsTo ps l i) (l[i]'hil) ports every) with | none => rfl | some y => rw [h] at hb3; simp at hb3
  obtain rfl := hm2 (ctrE_port hnone)
  rw [List.take_length] at hq2 ⊢
  refine AC_skip ?_
  refine AC_region ?_
  refine p_ (S_addI rfl (.tmp rfl) (AEv.const _) (by omega) (by omega)) ?_
  refine mv rfl rfl rfl rfl ?_
  refine AL_nil ?_
  refine ⟨(i + 1, p2, q2), ⟨by dsimp only; omega, fun j hj => ?_, by dsimp only; rw [namesTo_next hil]; exact hp2, by dsimp only; rw [portsTo_next hil]; exact hq2⟩, by dsimp only; omega, by dsimp only; rw [namesTo_next hil, portsTo_next hil]; exact Sub.l (List.Sublist.cons _ (List.Sublist.refl _)), (.cons rfl (Le.refl _) (.cons rfl (Le.refl _) (.cons rfl (Le.refl _) (.cons rfl (Le.refl _) (.cons rfl (Le.refl _) (.cons rfl (Le.refl _) (.cons rfl (Le.of_eq (by dsimp only; rw [Int.natCast_add]; rfl)) .nil)))))))⟩
  rcases Nat.lt_or_ge j i with h' | h'
  ·exact hno j h'
  ·rw [show j = i by omega, ctrAt_at hil]; exact hnone
 try simp only [zA,zO,zN,zM,zP,zQ,zD,zF,gd] at hb1
 obtain rfl : i = l.length := by omega
 have hend : ctrsE name ns ps l ports every = none := eachE_all fun j hj => by rw [hno j hj]; rfl
 refine AC_exit ?_
 refine AC_seq (AC_region ?_)
 refine ac rfl rfl rfl ?_
 refine AL_nil (AC_ret ?_)
 refine ret_tmp (seenSt 9 3 b p1 q1 (namesTo ns l l.length) (portsTo ps l l.length) ++ F) rfl rfl (Sub.l (List.Sublist.refl _)) (Conv.refl (Sub.l (List.Sublist.refl _)) _) ⟨_, ⟨p1, q1, _, _, hp1, hq1, fun _ => ⟨rfl, rfl⟩, by rw [hend]; rfl, rfl⟩, rfl⟩ (.inl rfl)
theorem spec_Check_ok (s : Spc) (hs : lightS s = true) : GCalls Tryz.prog tabs 116 [spcAV s] (erV 45 185 (checkE s)) := by
 intro st hG
 refine co 52 Tryz.func116 ?_
 obtain ⟨h1, h2, h3, h4, h5, h6, h7⟩ := lightS_out hs
 refine AC_seq (AC_region ?_)
 refine s_ (S_box rfl (.tmp rfl)) ?_
 rintro _ _ ⟨b1, rfl, rfl⟩
 refine ac rfl rfl rfl ?_
 refine AL_nil ?_
 refine AC_seq ?_
 refine AC_draw (by kernel_rfl) (by kernel_rfl) (.cons rfl (Q_p rfl (S_field 0 rfl (.tmp rfl) (by kernel_rfl))) <|
   .cons rfl (Q_p rfl (S_load 0 rfl (.tmp rfl) rfl rfl (by kernel_rfl))) <|
   .cons rfl (Q_p rfl (S_gcall rfl (AEvs.cons (.tmp rfl) AEvs.nil) ((text_Name_ok s.name) _ (fun p hp => by first | exact hG p hp | (simp [hG p hp]; done))))) <|
   .cons rfl (Q_p rfl (S_buildSlice (e := 9) 1 rfl (AEvs.cons (AEv.S _) AEvs.nil) rfl (by kernel_rfl) (by kernel_rfl) (by intro y hy; simp only [List.mem_cons, List.not_mem_nil, or_false] at hy; rcases hy with rfl <;> exact ⟨rfl, rfl⟩) (by decide) (by decide) (by decide))) <|
   .cons rfl (Q_p rfl (S_pcall rfl (AEvs.cons (.tmp rfl) (AEvs.cons (.tmp rfl) AEvs.nil)) (fail_New_ok (saysV (nameV s.name) 30) [nameN] (by simp)))) <|
   .cons rfl (Q_p rfl (S_field 1 rfl (.tmp rfl) (by kernel_rfl))) <|
   .cons rfl (Q_p rfl (S_load 0 rfl (.tmp rfl) rfl rfl (by kernel_rfl))) <|
   .cons rfl (Q_p rfl (S_gcall rfl (AEvs.cons (AEv.S _) (AEvs.cons (.tmp rfl) AEvs.nil)) ((spec_Labels_ok labelsN (by decide) s.labels (by omega) h5) _ (fun p hp => by first | exact hG p hp | (simp [hG p hp]; done))))) <|
   .cons rfl (Q_p rfl (S_field 2 rfl (.tmp rfl) (by kernel_rfl))) <|
   .cons rfl (Q_p rfl (S_load 0 rfl (.tmp rfl) rfl rfl (by kernel_rfl))) <|
   .cons rfl (Q_p rfl (by first | exact S_lenM (e := 67) rfl (.tmp rfl) (by kernel_rfl) | exact S_len (e := 67) rfl (.tmp rfl) (by kernel_rfl))) <|
   .cons rfl (Q_p rfl (S_pcall rfl (AEvs.cons (AEv.S _) (AEvs.cons (.tmp rfl) (AEvs.cons (AEv.const _) (AEvs.cons (AEv.const _) AEvs.nil)))) (spec_atMost_ok initN (s.init.length : Int) 0 3))) <|
   .cons rfl (Q_p rfl (S_buildSlice (e := 56) 1 rfl (AEvs.cons (.tmp rfl) (AEvs.cons (.tmp rfl) (AEvs.cons (.tmp rfl) AEvs.nil))) rfl (by kernel_rfl) (by kernel_rfl) (by intro y hy; simp only [List.mem_cons, List.not_mem_nil, or_false] at hy; rcases hy with rfl | rfl | rfl <;> exact ⟨er_flat _ _ _, by rw [er_cells]; rfl⟩) (by decide) (by decide) (by decide))) <|
   .cons rfl (Q_p rfl (S_pcall rfl (AEvs.cons (.tmp rfl) AEvs.nil) (fail_First_ok (check1 s) (by simp)))) <|
   .cons rfl (Q_p rfl (S_assign rfl (.tmp rfl))) <|
   .nil) ?_
 refine AC_seq ?_
 refine AC_seq (AC_region ?_)
 refine mv rfl rfl rfl rfl ?_
 refine p_ (S_neqE (er_is 45 185 (firstE (check1 s))) rfl (.tmp rfl) (by kernel_rfl)) ?_
 refine AL_nil ?_
 refine AC_cond (.tmp rfl) (fun hb2 => ?_) (fun hb2 => ?_)
 ·try simp only [zA,zO,zN,zM,zP,zQ,zD,zF,gd] at hb2
  obtain ⟨x, hx⟩ : ∃ x, firstE (check1 s) = some x := by cases h : firstE (check1 s) with | none => rw [h] at hb2; simp at hb2 | some y => exact ⟨y, rfl⟩
  refine AC_seq (AC_region ?_)
  refine mv rfl rfl rfl rfl ?_
  refine as_ rfl rfl rfl rfl ?_
  refine AL_nil (AC_ret ?_)
  refine ret_tmp st rfl rfl (Sub.l (List.Sublist.cons _ (List.Sublist.refl _))) (Conv.refl (Sub.l (List.Sublist.cons _ (List.Sublist.refl _))) _) ⟨by rw [check_bad1 hx, hx], rfl⟩ (.inl rfl)
 try simp only [zA,zO,zN,zM,zP,zQ,zD,zF,gd] at hb2
 have hn1 : firstE (check1 s) = none := by cases h : firstE (check1 s) with | none => rfl | some y => rw [h] at hb2; simp at hb2
 refine AC_skip ?_
 refine AC_seq (AC_region ?_)
 refine p_ (S_build (t := 241) (pl := [(0, 1), (1, 1)]) (zs := [.slice none 0 0, .slice none 0 0]) rfl AEvs.nil (by kernel_rfl) rfl) ?_
 refine s_ (S_box rfl (.tmp rfl)) ?_
 rintro _ _ ⟨b3, rfl, rfl⟩
 refine as_ rfl rfl rfl rfl ?_
 refine AL_nil ?_
 refine AC_seq ?_
 have hB : ∀ r, r ∈ ((b1, Ob.cells (spcL s)) :: Gs tabs) → r ∈ ((b1, Ob.cells (spcL s)) :: st) := fun r hr => by
  rcases List.mem_cons.1 hr with rfl | h
  ·exact List.mem_cons_self
  ·exact List.mem_cons_of_mem _ (hG r h)
 have hG1 : ∀ r, r ∈ Gs tabs → r ∈ ((b1, Ob.cells (spcL s)) :: st) := fun r hr => List.mem_cons_of_mem _ (hG r hr)
 refine AC_plan (σ := [(0, 0), (1, 0), (2, 0), (4, 0), (5, 0), (6, 0), (3, 1), (7, 0), (8, 0), (9, 0), (10, 0)]) (by kernel_rfl) ((b1, Ob.cells (spcL s)) :: Gs tabs) (by kernel_rfl) (fun r hr => List.mem_cons_of_mem _ (hB r hr)) ?_
 refine AG.f rfl rfl (fun st' hst => Q_p rfl (S_move rfl (.tmp rfl))) ?_
 refine AG.f rfl rfl (fun st' hst => Q_p rfl (S_field 2 rfl (.tmp rfl) (by kernel_rfl))) ?_
 refine AG.f rfl rfl (fun st' hst => Q_p rfl (S_loadM rfl (.tmp rfl) (hst _ (List.mem_of_getElem? (i := 0) rfl)) rfl (by kernel_rfl))) ?_
 refine AG.f rfl rfl (fun st' hst => Q_p rfl (S_field 3 rfl (.tmp rfl) (by kernel_rfl))) ?_
 refine AG.f rfl rfl (fun st' hst => Q_p rfl (S_loadM rfl (.tmp rfl) (hst _ (List.mem_of_getElem? (i := 0) rfl)) rfl (by kernel_rfl))) ?_
 refine AG.f rfl rfl (fun st' hst => Q_p rfl (by first | exact S_lenM (e := 67) rfl (.tmp rfl) (by kernel_rfl) | exact S_len (e := 67) rfl (.tmp rfl) (by kernel_rfl))) ?_
 refine AG.s rfl rfl rfl (S_call (K := fun x st' => ∃ foot', (∃ (p' q' : Own) (ns' : List (List UInt8)) (ps' : List Int), p'.ok (strsV ns') ∧ q'.ok (intsV ps') ∧ (ctrsE initN [] [] s.init 0 0 = none → ns' = namesTo [] s.init (s.init).length ∧ ps' = portsTo [] s.init (s.init).length) ∧ x = erV 45 185 (ctrsE initN [] [] s.init 0 0) ∧ foot' = seenSt 9 3 b3 p' q' ns' ps') ∧ st' = foot' ++ ((b1, Ob.cells (spcL s)) :: st)) rfl (AEvs.cons (.tmp rfl) (AEvs.cons (AEv.S _) (AEvs.cons (.tmp rfl) (AEvs.cons (AEv.const _) (AEvs.cons (AEv.const _) AEvs.nil))))) (seen_containers_ok b3 .nil .nil initN (by decide) [] [] rfl rfl (by first | decide | omega) (by first | decide | omega) s.init (by omega) h6 0 0 ((b1, Ob.cells (spcL s)) :: st) hG1)) ?_ ?_
 ·rintro _ _ ⟨_, ⟨p2, q2, n2, m2, hp2, hq2, hn2, rfl, rfl⟩, rfl⟩ r hr; exact List.mem_append_right _ (hB r hr)
 rintro _ _ ⟨_, ⟨p2, q2, n2, m2, hp2, hq2, hn2, rfl, rfl⟩, rfl⟩
 refine AG.f rfl rfl (fun st' hst => Q_p rfl (S_pcall rfl (AEvs.cons (AEv.S _) (AEvs.cons (.tmp rfl) (AEvs.cons (AEv.const _) (AEvs.cons (AEv.const _) AEvs.nil)))) (spec_atMost_ok mainN (s.main.length : Int) 1 4))) ?_
 refine AG.f rfl rfl (fun st' hst => Q_p rfl (S_buildSlice (e := 56) 1 rfl (AEvs.cons (.tmp rfl) (AEvs.cons (.tmp rfl) AEvs.nil)) rfl (by kernel_rfl) (by kernel_rfl) (by intro y hy; simp only [List.mem_cons, List.not_mem_nil, or_false] at hy; rcases hy with rfl | rfl <;> exact ⟨er_flat _ _ _, by rw [er_cells]; rfl⟩) (by decide) (by decide) (by decide))) ?_
 refine AG.f rfl rfl (fun st' hst => Q_p rfl (S_pcall rfl (AEvs.cons (.tmp rfl) AEvs.nil) (fail_First_ok (check2 s) (by simp)))) ?_
 refine AG.f rfl rfl (fun st' hst => Q_p rfl (S_assign rfl (.tmp rfl))) ?_
 refine AG.nil ?_
 refine AC_seq ?_
 refine AC_seq (AC_region ?_)
 refine mv rfl rfl rfl rfl ?_
 refine p_ (S_neqE (er_is 45 185 (firstE (check2 s))) rfl (.tmp rfl) (by kernel_rfl)) ?_
 refine AL_nil ?_
 refine AC_cond (.tmp rfl) (fun hb4 => ?_) (fun hb4 => ?_)
 ·try simp only [zA,zO,zN,zM,zP,zQ,zD,zF,gd] at hb4
  obtain ⟨x, hx⟩ : ∃ x, firstE (check2 s) = some x := by cases h : firstE (check2 s) with | none => rw [h] at hb4; simp at hb4 | some y => exact ⟨y, rfl⟩
  refine AC_seq (AC_region ?_)
  refine mv rfl rfl rfl rfl ?_
  refine as_ rfl rfl rfl rfl ?_
  refine AL_nil (AC_ret ?_)
  refine ret_tmp st rfl rfl (Sub.l (List.sublist_append_of_sublist_right (List.Sublist.cons _ (List.Sublist.refl _)))) (Conv.refl (Sub.l (List.sublist_append_of_sublist_right (List.Sublist.cons _ (List.Sublist.refl _)))) _) ⟨by rw [check_bad2 hn1 hx, hx], rfl⟩ (.inl rfl)
 try simp only [zA,zO,zN,zM,zP,zQ,zD,zF,gd] at hb4
 have hn2_ : firstE (check2 s) = none := by cases h : firstE (check2 s) with | none => rfl | some y => rw [h] at hb4; simp at hb4
 obtain ⟨rfl, rfl⟩ := hn2 (firstE_none hn2_ _ List.mem_cons_self)
 obtain ⟨hb1, hb2⟩ := check_seen hn1 h6
 refine AC_skip ?_
 refine AC_seq ?_
 refine AC_plan (σ := [(0, 0), (1, 0), (2, 0), (4, 0), (5, 0), (7, 0), (8, 0), (10, 0), (11, 0), (3, 1), (6, 0), (9, 0), (12, 0), (13, 0), (14, 0), (15, 0)]) (by kernel_rfl) ((b1, Ob.cells (spcL s)) :: Gs tabs) (by kernel_rfl) (fun r hr => List.mem_append_right _ (hB r hr)) ?_
 refine AG.f rfl rfl (fun st' hst => Q_p rfl (S_move rfl (.tmp rfl))) ?_
 refine AG.f rfl rfl (fun st' hst => Q_p rfl (S_field 3 rfl (.tmp rfl) (by kernel_rfl))) ?_
 refine AG.f rfl rfl (fun st' hst => Q_p rfl (S_loadM rfl (.tmp rfl) (hst _ (List.mem_of_getElem? (i := 0) rfl)) rfl (by kernel_rfl))) ?_
 refine AG.f rfl rfl (fun st' hst => Q_p rfl (S_field 4 rfl (.tmp rfl) (by kernel_rfl))) ?_
 refine AG.f rfl rfl (fun st' hst => Q_p rfl (S_loadM rfl (.tmp rfl) (hst _ (List.mem_of_getElem? (i := 0) rfl)) rfl (by kernel_rfl))) ?_
 refine AG.f rfl rfl (fun st' hst => Q_p rfl (S_field 5 rfl (.tmp rfl) (by kernel_rfl))) ?_
 refine AG.f rfl rfl (fun st' hst => Q_p rfl (S_loadM rfl (.tmp rfl) (hst _ (List.mem_of_getElem? (i := 0) rfl)) rfl (by kernel_rfl))) ?_
 refine AG.f rfl rfl (fun st' hst => Q_p rfl (S_field 6 rfl (.tmp rfl) (by kernel_rfl))) ?_
 refine AG.f rfl rfl (fun st' hst => Q_p rfl (S_loadM rfl (.tmp rfl) (hst _ (List.mem_of_getElem? (i := 0) rfl)) rfl (by kernel_rfl))) ?_
 refine AG.s rfl rfl rfl (S_call (K := fun x st' => ∃ foot', (∃ (p' q' : Own) (ns' : List (List UInt8)) (ps' : List Int), p'.ok (strsV ns') ∧ q'.ok (intsV ps') ∧ (ctrsE mainN (namesTo [] s.init s.init.length) (portsTo [] s.init s.init.length) s.main 3 1000 = none → ns' = namesTo (namesTo [] s.init s.init.length) s.main (s.main).length ∧ ps' = portsTo (portsTo [] s.init s.init.length) s.main (s.main).length) ∧ x = erV 45 185 (ctrsE mainN (namesTo [] s.init s.init.length) (portsTo [] s.init s.init.length) s.main 3 1000) ∧ foot' = seenSt 9 3 b3 p' q' ns' ps') ∧ st' = foot' ++ ((b1, Ob.cells (spcL s)) :: st)) rfl (AEvs.cons (.tmp rfl) (AEvs.cons (AEv.S _) (AEvs.cons (.tmp rfl) (AEvs.cons (AEv.const _) (AEvs.cons (AEv.const _) AEvs.nil))))) (seen_containers_ok b3 p2 q2 mainN (by decide) (namesTo [] s.init s.init.length) (portsTo [] s.init s.init.length) hp2 hq2 (by first | decide | omega) (by first | decide | omega) s.main (by omega) h7 3 1000 ((b1, Ob.cells (spcL s)) :: st) hG1)) ?_ ?_
 ·rintro _ _ ⟨_, ⟨p2, q2, n2, m2, hp2, hq2, hn2, rfl, rfl⟩, rfl⟩ r hr; exact List.mem_append_right _ (hB r hr)
 rintro _ _ ⟨_, ⟨p2, q2, n2, m2, hp2, hq2, hn2, rfl, rfl⟩, rfl⟩
 refine AG.f rfl rfl (fun st' hst => Q_p rfl (S_pcall rfl (AEvs.cons (AEv.S _) (AEvs.cons (.tmp rfl) (AEvs.cons (AEv.const _) (AEvs.cons (AEv.const _) AEvs.nil)))) (spec_within_ok [114, 101, 115, 116, 97, 114, 116] s.restart 1 3))) ?_
 refine AG.f rfl rfl (fun st' hst => Q_p rfl (S_pcall rfl (AEvs.cons (AEv.S _) (AEvs.cons (.tmp rfl) (AEvs.cons (AEv.const _) (AEvs.cons (AEv.const _) AEvs.nil)))) (spec_within_ok [103, 114, 97, 99, 101] s.grace 0 1000))) ?_
 refine AG.f rfl rfl (fun st' hst => Q_p rfl (S_pcall rfl (AEvs.cons (AEv.S _) (AEvs.cons (.tmp rfl) (AEvs.cons (AEv.const _) (AEvs.cons (AEv.const _) AEvs.nil)))) (spec_within_ok [112, 114, 105, 111] s.prio 0 10))) ?_
 refine AG.f rfl rfl (fun st' hst => Q_p rfl (S_buildSlice (e := 56) 1 rfl (AEvs.cons (.tmp rfl) (AEvs.cons (.tmp rfl) (AEvs.cons (.tmp rfl) (AEvs.cons (.tmp rfl) AEvs.nil)))) rfl (by kernel_rfl) (by kernel_rfl) (by intro y hy; simp only [List.mem_cons, List.not_mem_nil, or_false] at hy; rcases hy with rfl | rfl | rfl | rfl <;> exact ⟨er_flat _ _ _, by rw [er_cells]; rfl⟩) (by decide) (by decide) (by decide))) ?_
 refine AG.f rfl rfl (fun st' hst => Q_p rfl (S_pcall rfl (AEvs.cons (.tmp rfl) AEvs.nil) (fail_First_ok (check3 s) (by simp)))) ?_
 refine AG.f rfl rfl (fun st' hst => Q_p rfl (S_assign rfl (.tmp rfl))) ?_
 refine AG.nil ?_
 refine AC_ret ?_
 refine ret_tmp st rfl rfl (Sub.l (List.sublist_append_of_sublist_right (List.Sublist.cons _ (List.Sublist.refl _)))) (Conv.refl (Sub.l (List.sublist_append_of_sublist_right (List.Sublist.cons _ (List.Sublist.refl _)))) _) ⟨by rw [check_good hn1 hn2_], rfl⟩ (.inl rfl)
end Go.Proofs.YtfpkefhjomeeeaaGreatDoor

set_option maxRecDepth 100000
namespace Go.Proofs.YtfpkefhjomeeeaaGreatDoor
open Go.AL Go.NumSpec
theorem book_SameInts_ok (a b : List (Int)) (ha : a.length ≤ 1000000) (hb : b.length ≤ 1000000) : PCalls Tryz.prog 99 [.sl (intsV a), .sl (intsV b)] (.bool (decide (a = b))) := by
 intro st
 refine co 37 Tryz.func99 ?_
 refine AC_seq (AC_region ?_)
 refine ac rfl rfl rfl ?_
 refine AL_nil (AC_seq (AC_region ?_))
 refine mv rfl rfl rfl rfl ?_
 refine p_ (by first | exact S_lenM (e := 3) rfl (.tmp rfl) (by kernel_rfl) | exact S_len (e := 3) rfl (.tmp rfl) (by kernel_rfl)) ?_
 refine mv rfl rfl rfl rfl ?_
 refine p_ (by first | exact S_lenM (e := 3) rfl (.tmp rfl) (by kernel_rfl) | exact S_len (e := 3) rfl (.tmp rfl) (by kernel_rfl)) ?_
 refine p_ (S_eql rfl (.tmp rfl) (.tmp rfl)) ?_
 refine as_ rfl rfl rfl rfl ?_
 refine AL_nil ?_
 refine AC_seq ?_
 refine AC_seq (AC_region ?_)
 refine ac rfl rfl rfl ?_
 refine AL_nil ?_
 refine AC_block ?_
 refine AC_loopK (G := Nat) [(0, _), (1, _), (4, _)] (fun i => i ≤ a.length) (fun g => [(5, .bool (sameP (fun a b => decide (a = b)) a b g)), (6, .int .i64 (g : Int))]) (fun g => st) (fun g => a.length - g) (0) (Nat.zero_le _) (Sub.l (List.Sublist.refl _)) (.cons rfl (Le.refl _) (.cons rfl (Le.refl _) (.cons rfl (Le.refl _) .nil))) (.cons rfl (Le.of_eq (congrArg AV.bool (by rw [sameP_zero]; exact decide_eq_decide.2 (by omega)))) (.cons rfl (by first | exact Le.refl _ | exact Le.nils | exact Le.row _ _ _ _ | exact Le.of_eq (by first | rfl | (simp; done) | (push_cast; rfl) | (simp; omega))) .nil)) ?_
 rintro i hi
 try dsimp only
 simp only [List.cons_append, List.nil_append]
 refine AC_seq ?_
 refine AC_seq (AC_region ?_)
 refine mv rfl rfl rfl rfl ?_
 refine mv rfl rfl rfl rfl ?_
 refine g_ (fun _ => mA) ?_
 refine g_ (fun _ => mA) ?_
 refine g_ (fun _ => by first | exact S_lenM (e := 3) rfl (AEv.cd (.tmp rfl)) (by kernel_rfl) | exact S_len (e := 3) rfl (AEv.cd (.tmp rfl)) (by kernel_rfl)) ?_
 refine g_ (fun _ => S_lss rfl (AEv.cd (.tmp rfl)) (AEv.cd (.tmp rfl))) ?_
 refine an ?_
 refine mv rfl rfl rfl rfl ?_
 refine g_ (fun _ => mA) ?_
 refine g_ (fun _ => mA) ?_
 refine g_ (fun _ => by first | exact S_lenM (e := 3) rfl (AEv.cd (.tmp rfl)) (by kernel_rfl) | exact S_len (e := 3) rfl (AEv.cd (.tmp rfl)) (by kernel_rfl)) ?_
 refine g_ (fun _ => S_lss rfl (AEv.cd (.tmp rfl)) (AEv.cd (.tmp rfl))) ?_
 refine an ?_
 refine AL_nil ?_
 refine AC_cond (.tmp rfl) (fun hb27 => ?_) (fun hb27 => ?_)
 ·try simp only [zA,zO,zN,zM,zP,zQ,zD,zF,gd] at hb27
  have hs : sameP (fun a b => decide (a = b)) a b i = true := hb27.1.1
  have hia : i < a.length := by have := hb27.1.2; omega
  have hib : i < b.length := by have := hb27.2; omega
  refine AC_skip ?_
  refine AC_seq ?_
  refine AC_block ?_
  refine AC_draw (by kernel_rfl) (by kernel_rfl) (.cons rfl (Q_p rfl (S_move rfl (.tmp rfl))) <|
    .cons rfl (Q_p rfl (S_move rfl (.tmp rfl))) <|
    .cons rfl (Q_p rfl (S_elemN (e := 3) 1 rfl (.tmp rfl) (.tmp rfl) (by kernel_rfl) (by kernel_rfl) (by omega) (fun _ => rfl))) <|
    .cons rfl (Q_p rfl (S_loadP rfl (.tmp rfl) rfl (by kernel_rfl))) <|
    .cons rfl (Q_p rfl (S_move rfl (.tmp rfl))) <|
    .cons rfl (Q_p rfl (S_move rfl (.tmp rfl))) <|
    .cons rfl (Q_p rfl (S_elemN (e := 3) 1 rfl (.tmp rfl) (.tmp rfl) (by kernel_rfl) (by kernel_rfl) (by omega) (fun _ => rfl))) <|
    .cons rfl (Q_p rfl (S_loadP rfl (.tmp rfl) rfl (by kernel_rfl))) <|
    .cons rfl (Q_p rfl (S_eql rfl (.tmp rfl) (.tmp rfl))) <|
    .cons rfl (Q_p rfl (S_assign rfl (.tmp rfl))) <|
    .nil) ?_
  refine AC_region ?_
  refine mv rfl rfl rfl rfl ?_
  refine p_ (S_addI rfl (.tmp rfl) (AEv.const _) (by omega) (by omega)) ?_
  refine as_ rfl rfl rfl rfl ?_
  refine AL_nil ?_
  exact ⟨i + 1, by omega, by omega, (Sub.l (List.Sublist.refl _)), (.cons rfl (Le.of_eq (congrArg AV.bool (sameP_next hs hia hib).symm)) (.cons rfl (by first | exact Le.refl _ | exact Le.nils | exact Le.row _ _ _ _ | exact Le.of_eq (by first | rfl | (simp; done) | (push_cast; rfl) | (simp; omega))) .nil)), (.cons rfl (Le.refl _) (.cons rfl (Le.refl _) (.cons rfl (Le.refl _) .nil)))⟩
 try simp only [zA,zO,zN,zM,zP,zQ,zD,zF,gd] at hb27
 have hend := sameP_end (f := (fun a b => decide (a = b))) (a := a) (b := b) (i := i) (by
  rcases hb27 with (h | h) | h
  ·exact .inl h
  ·exact .inr (.inl (by omega))
  ·exact .inr (.inr (by omega)))
 refine AC_exit ?_
 refine AC_seq (AC_region ?_)
 refine mv rfl rfl rfl rfl ?_
 refine as_ rfl rfl rfl rfl ?_
 refine AL_nil (AC_ret ?_)
 refine ret_tmp st rfl rfl (Sub.l (List.Sublist.refl _)) (Conv.refl (Sub.l (List.Sublist.refl _)) _) ⟨congrArg AV.bool (hend.trans sameL_eq), rfl⟩ (.inl rfl)
theorem book_SameLabels_ok (a b : List (Lab)) (ha : a.length ≤ 1000000) (hb : b.length ≤ 1000000) : PCalls Tryz.prog 28 [.sl (labsV a), .sl (labsV b)] (.bool (decide (a = b))) := by
 intro st
 refine co 37 Tryz.func28 ?_
 refine AC_seq (AC_region ?_)
 refine ac rfl rfl rfl ?_
 refine AL_nil (AC_seq (AC_region ?_))
 refine mv rfl rfl rfl rfl ?_
 refine p_ (by first | exact S_lenM (e := 123) rfl (.tmp rfl) (by kernel_rfl) | exact S_len (e := 123) rfl (.tmp rfl) (by kernel_rfl)) ?_
 refine mv rfl rfl rfl rfl ?_
 refine p_ (by first | exact S_lenM (e := 123) rfl (.tmp rfl) (by kernel_rfl) | exact S_len (e := 123) rfl (.tmp rfl) (by kernel_rfl)) ?_
 refine p_ (S_eql rfl (.tmp rfl) (.tmp rfl)) ?_
 refine as_ rfl rfl rfl rfl ?_
 refine AL_nil ?_
 refine AC_seq ?_
 refine AC_seq (AC_region ?_)
 refine ac rfl rfl rfl ?_
 refine AL_nil ?_
 refine AC_block ?_
 refine AC_loopK (G := Nat) [(0, _), (1, _), (4, _)] (fun i => i ≤ a.length) (fun g => [(5, .bool (sameP (fun a b => decide (a = b)) a b g)), (6, .int .i64 (g : Int))]) (fun g => st) (fun g => a.length - g) (0) (Nat.zero_le _) (Sub.l (List.Sublist.refl _)) (.cons rfl (Le.refl _) (.cons rfl (Le.refl _) (.cons rfl (Le.refl _) .nil))) (.cons rfl (Le.of_eq (congrArg AV.bool (by rw [sameP_zero]; exact decide_eq_decide.2 (by omega)))) (.cons rfl (by first | exact Le.refl _ | exact Le.nils | exact Le.row _ _ _ _ | exact Le.of_eq (by first | rfl | (simp; done) | (push_cast; rfl) | (simp; omega))) .nil)) ?_
 rintro i hi
 try dsimp only
 simp only [List.cons_append, List.nil_append]
 refine AC_seq ?_
 refine AC_seq (AC_region ?_)
 refine mv rfl rfl rfl rfl ?_
 refine mv rfl rfl rfl rfl ?_
 refine g_ (fun _ => mA) ?_
 refine g_ (fun _ => mA) ?_
 refine g_ (fun _ => by first | exact S_lenM (e := 123) rfl (AEv.cd (.tmp rfl)) (by kernel_rfl) | exact S_len (e := 123) rfl (AEv.cd (.tmp rfl)) (by kernel_rfl)) ?_
 refine g_ (fun _ => S_lss rfl (AEv.cd (.tmp rfl)) (AEv.cd (.tmp rfl))) ?_
 refine an ?_
 refine mv rfl rfl rfl rfl ?_
 refine g_ (fun _ => mA) ?_
 refine g_ (fun _ => mA) ?_
 refine g_ (fun _ => by first | exact S_lenM (e := 123) rfl (AEv.cd (.tmp rfl)) (by kernel_rfl) | exact S_len (e := 123) rfl (AEv.cd (.tmp rfl)) (by kernel_rfl)) ?_
 refine g_ (fun _ => S_lss rfl (AEv.cd (.tmp rfl)) (AEv.cd (.tmp rfl))) ?_
 refine an ?_
 refine AL_nil ?_
 refine AC_cond (.tmp rfl) (fun hb27 => ?_) (fun hb27 => ?_)
 ·try simp only [zA,zO,zN,zM,zP,zQ,zD,zF,gd] at hb27
  have hs : sameP (fun a b => decide (a = b)) a b i = true := hb27.1.1
  have hia : i < a.length := by have := hb27.1.2; omega
  have hib : i < b.length := by have := hb27.2; omega
  refine AC_skip ?_
  refine AC_seq ?_
  refine AC_block ?_
  refine AC_draw (by kernel_rfl) (by kernel_rfl) (.cons rfl (Q_p rfl (S_move rfl (.tmp rfl))) <|
    .cons rfl (Q_p rfl (S_move rfl (.tmp rfl))) <|
    .cons rfl (Q_p rfl (S_elemN (e := 123) 2 rfl (.tmp rfl) (.tmp rfl) (by kernel_rfl) (by kernel_rfl) (by omega) (fun _ => rfl))) <|
    .cons rfl (Q_p rfl (S_loadPN (m := 2) rfl (.tmp rfl) (by kernel_rfl) (by first | exact Nat.le_of_ble_eq_true rfl | (simp; omega) | simp))) <|
    .cons rfl (Q_p rfl (S_move rfl (.tmp rfl))) <|
    .cons rfl (Q_p rfl (S_move rfl (.tmp rfl))) <|
    .cons rfl (Q_p rfl (S_elemN (e := 123) 2 rfl (.tmp rfl) (.tmp rfl) (by kernel_rfl) (by kernel_rfl) (by omega) (fun _ => rfl))) <|
    .cons rfl (Q_p rfl (S_loadPN (m := 2) rfl (.tmp rfl) (by kernel_rfl) (by first | exact Nat.le_of_ble_eq_true rfl | (simp; omega) | simp))) <|
    .cons rfl (Q_p rfl ((S_eqlAgg rfl (.tmp rfl) (.tmp rfl) (by kernel_rfl) (EqAV.struct Tryz.underlying123 (by kernel_rfl) (EqFs.flat (by kernel_rfl) (by kernel_rfl) rfl rfl (EqAV.S (by kernel_rfl)) (EqFs.flat (by kernel_rfl) (by kernel_rfl) rfl rfl (EqAV.S (by kernel_rfl)) EqFs.nil)))).ofV (V' := .bool (decide ((a[i]'hia) = (b[i]'hib)))) (congrArg AV.bool lab_eqB))) <|
    .cons rfl (Q_p rfl (S_assign rfl (.tmp rfl))) <|
    .nil) ?_
  refine AC_region ?_
  refine mv rfl rfl rfl rfl ?_
  refine p_ (S_addI rfl (.tmp rfl) (AEv.const _) (by omega) (by omega)) ?_
  refine as_ rfl rfl rfl rfl ?_
  refine AL_nil ?_
  exact ⟨i + 1, by omega, by omega, (Sub.l (List.Sublist.refl _)), (.cons rfl (Le.of_eq (congrArg AV.bool (sameP_next hs hia hib).symm)) (.cons rfl (by first | exact Le.refl _ | exact Le.nils | exact Le.row _ _ _ _ | exact Le.of_eq (by first | rfl | (simp; done) | (push_cast; rfl) | (simp; omega))) .nil)), (.cons rfl (Le.refl _) (.cons rfl (Le.refl _) (.cons rfl (Le.refl _) .nil)))⟩
 try simp only [zA,zO,zN,zM,zP,zQ,zD,zF,gd] at hb27
 have hend := sameP_end (f := (fun a b => decide (a = b))) (a := a) (b := b) (i := i) (by
  rcases hb27 with (h | h) | h
  ·exact .inl h
  ·exact .inr (.inl (by omega))
  ·exact .inr (.inr (by omega)))
 refine AC_exit ?_
 refine AC_seq (AC_region ?_)
 refine mv rfl rfl rfl rfl ?_
 refine as_ rfl rfl rfl rfl ?_
 refine AL_nil (AC_ret ?_)
 refine ret_tmp st rfl rfl (Sub.l (List.Sublist.refl _)) (Conv.refl (Sub.l (List.Sublist.refl _)) _) ⟨congrArg AV.bool (hend.trans sameL_eq), rfl⟩ (.inl rfl)
theorem book_SameContainers_ok (a b : List (Ctr)) (ha : a.length ≤ 1000000) (hb : b.length ≤ 1000000) (hap : ∀ c ∈ a, c.ports.length ≤ 1000000) (hbp : ∀ c ∈ b, c.ports.length ≤ 1000000) : PCalls Tryz.prog 62 [.sl (ctrsV a), .sl (ctrsV b)] (.bool (sameL exactC a b)) := by
 intro st
 refine co 78 Tryz.func62 ?_
 refine AC_seq (AC_region ?_)
 refine ac rfl rfl rfl ?_
 refine AL_nil (AC_seq (AC_region ?_))
 refine mv rfl rfl rfl rfl ?_
 refine p_ (by first | exact S_lenM (e := 67) rfl (.tmp rfl) (by kernel_rfl) | exact S_len (e := 67) rfl (.tmp rfl) (by kernel_rfl)) ?_
 refine mv rfl rfl rfl rfl ?_
 refine p_ (by first | exact S_lenM (e := 67) rfl (.tmp rfl) (by kernel_rfl) | exact S_len (e := 67) rfl (.tmp rfl) (by kernel_rfl)) ?_
 refine p_ (S_eql rfl (.tmp rfl) (.tmp rfl)) ?_
 refine as_ rfl rfl rfl rfl ?_
 refine AL_nil ?_
 refine AC_seq ?_
 refine AC_seq (AC_region ?_)
 refine ac rfl rfl rfl ?_
 refine AL_nil ?_
 refine AC_block ?_
 refine AC_loopK (G := Nat) [(0, _), (1, _), (4, _)] (fun i => i ≤ a.length) (fun g => [(5, .bool (sameP exactC a b g)), (6, .int .i64 (g : Int))]) (fun g => st) (fun g => a.length - g) (0) (Nat.zero_le _) (Sub.l (List.Sublist.refl _)) (.cons rfl (Le.refl _) (.cons rfl (Le.refl _) (.cons rfl (Le.refl _) .nil))) (.cons rfl (Le.of_eq (congrArg AV.bool (by rw [sameP_zero]; exact decide_eq_decide.2 (by omega)))) (.cons rfl (by first | exact Le.refl _ | exact Le.nils | exact Le.row _ _ _ _ | exact Le.of_eq (by first | rfl | (simp; done) | (push_cast; rfl) | (simp; omega))) .nil)) ?_
 rintro i hi
 try dsimp only
 simp only [List.cons_append, List.nil_append]
 refine AC_seq ?_
 refine AC_seq (AC_region ?_)
 refine mv rfl rfl rfl rfl ?_
 refine mv rfl rfl rfl rfl ?_
 refine g_ (fun _ => mA) ?_
 refine g_ (fun _ => mA) ?_
 refine g_ (fun _ => by first | exact S_lenM (e := 67) rfl (AEv.cd (.tmp rfl)) (by kernel_rfl) | exact S_len (e := 67) rfl (AEv.cd (.tmp rfl)) (by kernel_rfl)) ?_
 refine g_ (fun _ => S_lss rfl (AEv.cd (.tmp rfl)) (AEv.cd (.tmp rfl))) ?_
 refine an ?_
 refine mv rfl rfl rfl rfl ?_
 refine g_ (fun _ => mA) ?_
 refine g_ (fun _ => mA) ?_
 refine g_ (fun _ => by first | exact S_lenM (e := 67) rfl (AEv.cd (.tmp rfl)) (by kernel_rfl) | exact S_len (e := 67) rfl (AEv.cd (.tmp rfl)) (by kernel_rfl)) ?_
 refine g_ (fun _ => S_lss rfl (AEv.cd (.tmp rfl)) (AEv.cd (.tmp rfl))) ?_
 refine an ?_
 refine AL_nil ?_
 refine AC_cond (.tmp rfl) (fun hb27 => ?_) (fun hb27 => ?_)
 ·try simp only [zA,zO,zN,zM,zP,zQ,zD,zF,gd] at hb27
  have hs : sameP exactC a b i = true := hb27.1.1
  have hia : i < a.length := by have := hb27.1.2; omega
  have hib : i < b.length := by have := hb27.2; omega
  refine AC_skip ?_
  refine AC_seq ?_
  refine AC_block ?_
  refine AC_seq (AC_region ?_)
  refine mv rfl rfl rfl rfl ?_
  refine mv rfl rfl rfl rfl ?_
  refine p_ (S_elemN (e := 67) 11 rfl (.tmp rfl) (.tmp rfl) (by kernel_rfl) (by kernel_rfl) (by omega) (fun _ => rfl)) ?_
  refine p_ (S_loadPN (m := 11) rfl (.tmp rfl) (by kernel_rfl) (by first | exact Nat.le_of_ble_eq_true rfl | (simp; omega) | simp)) ?_
  refine s_ (S_alloc [.string ⟨#[]⟩, .string ⟨#[]⟩, .int .i64 0, .int .i64 0, .int .i64 0, .int .i64 0, .int .i64 0, .int .i64 0, .slice none 0 0, .int .i64 0, .int .i64 0] rfl (by kernel_rfl)) ?_
  rintro _ _ ⟨b7, rfl, rfl⟩
  refine stW 0 ?_
  refine AL_nil (AC_seq (AC_region ?_))
  refine mv rfl rfl rfl rfl ?_
  refine mv rfl rfl rfl rfl ?_
  refine p_ (S_elemN (e := 67) 11 rfl (.tmp rfl) (.tmp rfl) (by kernel_rfl) (by kernel_rfl) (by omega) (fun _ => rfl)) ?_
  refine p_ (S_loadPN (m := 11) rfl (.tmp rfl) (by kernel_rfl) (by first | exact Nat.le_of_ble_eq_true rfl | (simp; omega) | simp)) ?_
  refine s_ (S_alloc [.string ⟨#[]⟩, .string ⟨#[]⟩, .int .i64 0, .int .i64 0, .int .i64 0, .int .i64 0, .int .i64 0, .int .i64 0, .slice none 0 0, .int .i64 0, .int .i64 0] rfl (by kernel_rfl)) ?_
  rintro _ _ ⟨b8, rfl, rfl⟩
  refine stW 0 ?_
  refine AL_nil ?_
  refine AC_region ?_
  refine fl 0 ?_
  refine ld 1 ?_
  refine fl 0 ?_
  refine ld 0 ?_
  refine p_ (S_eqS rfl (.tmp rfl) (.tmp rfl)) ?_
  refine mv rfl rfl rfl rfl ?_
  refine g_ (fun _ => fA 1) ?_
  refine g_ (fun _ => lA 1) ?_
  refine g_ (fun _ => fA 1) ?_
  refine g_ (fun _ => lA 0) ?_
  refine g_ (fun _ => S_eqS rfl (AEv.cd (.tmp rfl)) (AEv.cd (.tmp rfl))) ?_
  refine an ?_
  refine mv rfl rfl rfl rfl ?_
  refine g_ (fun _ => fA 2) ?_
  refine g_ (fun _ => lN 3 1) ?_
  refine g_ (fun _ => fA 2) ?_
  refine g_ (fun _ => lN 3 0) ?_
  refine g_ (fun _ => S_eqlAgg rfl (AEv.cd (.tmp rfl)) (AEv.cd (.tmp rfl)) (by kernel_rfl) (EqAV.struct Tryz.underlying63 (by kernel_rfl) (EqFs.flat (by kernel_rfl) (by kernel_rfl) rfl rfl (EqAV.int (k' := .i64) (by kernel_rfl)) (EqFs.flat (by kernel_rfl) (by kernel_rfl) rfl rfl (EqAV.int (k' := .i64) (by kernel_rfl)) (EqFs.flat (by kernel_rfl) (by kernel_rfl) rfl rfl (EqAV.int (k' := .i64) (by kernel_rfl)) EqFs.nil))))) ?_
  refine an ?_
  refine mv rfl rfl rfl rfl ?_
  refine g_ (fun _ => fA 5) ?_
  refine g_ (fun _ => lN 3 1) ?_
  refine g_ (fun _ => fA 5) ?_
  refine g_ (fun _ => lN 3 0) ?_
  refine g_ (fun _ => S_eqlAgg rfl (AEv.cd (.tmp rfl)) (AEv.cd (.tmp rfl)) (by kernel_rfl) (EqAV.struct Tryz.underlying63 (by kernel_rfl) (EqFs.flat (by kernel_rfl) (by kernel_rfl) rfl rfl (EqAV.int (k' := .i64) (by kernel_rfl)) (EqFs.flat (by kernel_rfl) (by kernel_rfl) rfl rfl (EqAV.int (k' := .i64) (by kernel_rfl)) (EqFs.flat (by kernel_rfl) (by kernel_rfl) rfl rfl (EqAV.int (k' := .i64) (by kernel_rfl)) EqFs.nil))))) ?_
  refine an ?_
  refine mv rfl rfl rfl rfl ?_
  refine g_ (fun _ => fA 8) ?_
  refine g_ (fun _ => lA 1) ?_
  refine g_ (fun _ => fA 8) ?_
  refine g_ (fun _ => lA 0) ?_
  refine g_ (fun _ => S_pcall rfl (AEvs.cons (AEv.cd (.tmp rfl)) (AEvs.cons (AEv.cd (.tmp rfl)) AEvs.nil)) (book_SameInts_ok (a[i]'hia).ports (b[i]'hib).ports (hap _ (List.getElem_mem _)) (hbp _ (List.getElem_mem _)))) ?_
  refine an ?_
  refine mv rfl rfl rfl rfl ?_
  refine g_ (fun _ => fA 9) ?_
  refine g_ (fun _ => lN 2 1) ?_
  refine g_ (fun _ => fA 9) ?_
  refine g_ (fun _ => lN 2 0) ?_
  refine g_ (fun _ => S_eqlAgg rfl (AEv.cd (.tmp rfl)) (AEv.cd (.tmp rfl)) (by kernel_rfl) (EqAV.struct Tryz.underlying65 (by kernel_rfl) (EqFs.flat (by kernel_rfl) (by kernel_rfl) rfl rfl (EqAV.int (k' := .i64) (by kernel_rfl)) (EqFs.flat (by kernel_rfl) (by kernel_rfl) rfl rfl (EqAV.int (k' := .i64) (by kernel_rfl)) EqFs.nil)))) ?_
  refine an ?_
  refine as_ rfl rfl rfl rfl ?_
  refine AL_nil ?_
  refine AC_region ?_
  refine mv rfl rfl rfl rfl ?_
  refine p_ (S_addI rfl (.tmp rfl) (AEv.const _) (by omega) (by omega)) ?_
  refine as_ rfl rfl rfl rfl ?_
  refine AL_nil ?_
  exact ⟨i + 1, by omega, by omega, (Sub.l (List.Sublist.cons _ (List.Sublist.cons _ (List.Sublist.refl _)))), (.cons rfl (Le.of_eq (congrArg AV.bool (by rw [sameP_next hs hia hib, ← exactC_order, res_eqB, res_eqB, probe_eqB]))) (.cons rfl (by first | exact Le.refl _ | exact Le.nils | exact Le.row _ _ _ _ | exact Le.of_eq (by first | rfl | (simp; done) | (push_cast; rfl) | (simp; omega))) .nil)), (.cons rfl (Le.refl _) (.cons rfl (Le.refl _) (.cons rfl (Le.refl _) .nil)))⟩
 try simp only [zA,zO,zN,zM,zP,zQ,zD,zF,gd] at hb27
 have hend := sameP_end (f := exactC) (a := a) (b := b) (i := i) (by
  rcases hb27 with (h | h) | h
  ·exact .inl h
  ·exact .inr (.inl (by omega))
  ·exact .inr (.inr (by omega)))
 refine AC_exit ?_
 refine AC_seq (AC_region ?_)
 refine mv rfl rfl rfl rfl ?_
 refine as_ rfl rfl rfl rfl ?_
 refine AL_nil (AC_ret ?_)
 refine ret_tmp st rfl rfl (Sub.l (List.Sublist.refl _)) (Conv.refl (Sub.l (List.Sublist.refl _)) _) ⟨congrArg AV.bool (hend.trans rfl), rfl⟩ (.inl rfl)
theorem book_SameSpec_ok (a b : Spc) (ha : shortS a) (hb : shortS b) : PCalls Tryz.prog 27 [spcAV a, spcAV b] (.bool (sameS a b)) := by
 intro st
 refine co 52 Tryz.func27 ?_
 obtain ⟨a1, a2, a3, a4, a5⟩ := ha
 obtain ⟨b1', b2', b3', b4', b5'⟩ := hb
 refine AC_seq (AC_region ?_)
 refine s_ (S_box rfl (.tmp rfl)) ?_
 rintro _ _ ⟨b1, rfl, rfl⟩
 refine s_ (S_box rfl (.tmp rfl)) ?_
 rintro _ _ ⟨b2, rfl, rfl⟩
 refine ac rfl rfl rfl ?_
 refine AL_nil (AC_seq (AC_region ?_))
 refine fl 0 ?_
 refine ld 1 ?_
 refine fl 0 ?_
 refine ld 0 ?_
 refine p_ (S_eqS rfl (.tmp rfl) (.tmp rfl)) ?_
 refine mv rfl rfl rfl rfl ?_
 refine g_ (fun _ => fA 1) ?_
 refine g_ (fun _ => lA 1) ?_
 refine g_ (fun _ => fA 1) ?_
 refine g_ (fun _ => lA 0) ?_
 refine g_ (fun _ => S_pcall rfl (AEvs.cons (AEv.cd (.tmp rfl)) (AEvs.cons (AEv.cd (.tmp rfl)) AEvs.nil)) (book_SameLabels_ok a.labels b.labels a1 b1')) ?_
 refine an ?_
 refine mv rfl rfl rfl rfl ?_
 refine g_ (fun _ => fA 2) ?_
 refine g_ (fun _ => lA 1) ?_
 refine g_ (fun _ => fA 2) ?_
 refine g_ (fun _ => lA 0) ?_
 refine g_ (fun _ => S_pcall rfl (AEvs.cons (AEv.cd (.tmp rfl)) (AEvs.cons (AEv.cd (.tmp rfl)) AEvs.nil)) (book_SameContainers_ok a.init b.init a2 b2' a4 b4')) ?_
 refine an ?_
 refine mv rfl rfl rfl rfl ?_
 refine g_ (fun _ => fA 3) ?_
 refine g_ (fun _ => lA 1) ?_
 refine g_ (fun _ => fA 3) ?_
 refine g_ (fun _ => lA 0) ?_
 refine g_ (fun _ => S_pcall rfl (AEvs.cons (AEv.cd (.tmp rfl)) (AEvs.cons (AEv.cd (.tmp rfl)) AEvs.nil)) (book_SameContainers_ok a.main b.main a3 b3' a5 b5')) ?_
 refine an ?_
 refine mv rfl rfl rfl rfl ?_
 refine g_ (fun _ => fA 4) ?_
 refine g_ (fun _ => lA 1) ?_
 refine g_ (fun _ => fA 4) ?_
 refine g_ (fun _ => lA 0) ?_
 refine g_ (fun _ => S_eql rfl (AEv.cd (.tmp rfl)) (AEv.cd (.tmp rfl))) ?_
 refine an ?_
 refine mv rfl rfl rfl rfl ?_
 refine g_ (fun _ => fA 5) ?_
 refine g_ (fun _ => lA 1) ?_
 refine g_ (fun _ => fA 5) ?_
 refine g_ (fun _ => lA 0) ?_
 refine g_ (fun _ => S_eql rfl (AEv.cd (.tmp rfl)) (AEv.cd (.tmp rfl))) ?_
 refine an ?_
 refine mv rfl rfl rfl rfl ?_
 refine g_ (fun _ => fA 6) ?_
 refine g_ (fun _ => lA 1) ?_
 refine g_ (fun _ => fA 6) ?_
 refine g_ (fun _ => lA 0) ?_
 refine g_ (fun _ => S_eql rfl (AEv.cd (.tmp rfl)) (AEv.cd (.tmp rfl))) ?_
 refine an ?_
 refine as_ rfl rfl rfl rfl ?_
 refine AL_nil (AC_ret ?_)
 refine ret_tmp st rfl rfl (Sub.l (List.Sublist.cons _ (List.Sublist.cons _ (List.Sublist.refl _)))) (Conv.refl (Sub.l (List.Sublist.cons _ (List.Sublist.cons _ (List.Sublist.refl _)))) _) ⟨rfl, rfl⟩ (.inl rfl)
end Go.Proofs.YtfpkefhjomeeeaaGreatDoor

set_option maxRecDepth 100000
namespace Go.Proofs.YtfpkefhjomeeeaaGreatDoor
open Go.AL Go.NumSpec
theorem copyCheck_fresh (b T m : Nat) (cs : List AV) (hm : 0 < m) (hl : liesAt Tryz.prog Tryz.prog.depth T (m / Tryz.prog.cellsOf T) 0 145 1 = true) (F : St) : ACalls Tryz.prog 112 [.ptr b 0] ((b, .cells (.nilB b T m :: cs)) :: F) (fun x st' => x = .tup [] ∧ st' = (b, .cells (.ptr b 0 :: cs)) :: F) := by
 refine co 20 Tryz.func112 ?_
 refine AC_seq (AC_region ?_)
 refine mv rfl rfl rfl rfl ?_
 refine p_ (S_nilCheck rfl (.tmp rfl)) ?_
 refine fl 0 ?_
 refine ld 0 ?_
 refine p_ (S_eqlPtr rfl ((AEv.tmp rfl).le (Le.nilB _ _ _)) (AEv.const _) (by kernel_rfl)) ?_
 refine AL_nil ?_
 refine AC_cond (.tmp rfl) (fun hb1 => ?_) (fun hb1 => ?_)
 ·try simp only [zA,zO,zN,zM,zP,zQ,zD,zF,gd] at hb1
  refine AC_region ?_
  refine mv rfl rfl rfl rfl ?_
  refine mv rfl rfl rfl rfl ?_
  refine p_ (S_toUnsafe (t := 145) (k := 0) 0 rfl (.tmp rfl) rfl rfl (by kernel_rfl) (by kernel_rfl) (by kernel_rfl) hm) ?_
  refine p_ (S_noEscape rfl (.tmp rfl) Tryz.func149 (by kernel_rfl) (by kernel_rfl) (by kernel_rfl) (by kernel_rfl)) ?_
  refine p_ (S_fromUnsafe (t := 145) (k := 0) 0 rfl (.tmp rfl) rfl rfl (by kernel_rfl) (by kernel_rfl) (by kernel_rfl) hl) ?_
  refine p_ (S_nilCheck rfl (.tmp rfl)) ?_
  refine fl 0 ?_
  refine st1 0 ?_
  refine AL_nil ?_
  refine ret_none ((b, .cells (.ptr b 0 :: cs)) :: F) rfl (Sub.l (List.Sublist.refl _)) ⟨rfl, rfl⟩ (.inr rfl)
 simp at hb1; done
theorem copyCheck_used (b : Nat) (cs : List AV) (F : St) : ACalls Tryz.prog 112 [.ptr b 0] ((b, .cells (.ptr b 0 :: cs)) :: F) (fun x st' => x = .tup [] ∧ st' = (b, .cells (.ptr b 0 :: cs)) :: F) := by
 refine co 20 Tryz.func112 ?_
 refine AC_seq (AC_region ?_)
 refine mv rfl rfl rfl rfl ?_
 refine p_ (S_nilCheck rfl (.tmp rfl)) ?_
 refine fl 0 ?_
 refine ld 0 ?_
 refine p_ (S_eqlNil rfl (.tmp rfl) (AEv.const _) (by kernel_rfl)) ?_
 refine AL_nil ?_
 refine AC_cond (.tmp rfl) (fun hb1 => ?_) (fun hb1 => ?_)
 ·simp at hb1; done
 try simp only [zA,zO,zN,zM,zP,zQ,zD,zF,gd] at hb1
 refine AC_seq (AC_region ?_)
 refine mv rfl rfl rfl rfl ?_
 refine p_ (S_nilCheck rfl (.tmp rfl)) ?_
 refine fl 0 ?_
 refine ld 0 ?_
 refine mv rfl rfl rfl rfl ?_
 refine p_ (S_neqPtr rfl (.tmp rfl) (.tmp rfl) (by kernel_rfl)) ?_
 refine AL_nil ?_
 refine AC_cond (.tmp rfl) (fun hb2 => ?_) (fun hb2 => ?_)
 ·simp at hb2; done
 try simp only [zA,zO,zN,zM,zP,zQ,zD,zF,gd] at hb2
 refine AC_skip ?_
 refine ret_none ((b, .cells (.ptr b 0 :: cs)) :: F) rfl (Sub.l (List.Sublist.refl _)) ⟨rfl, rfl⟩ (.inr rfl)
theorem copyCheck_ok (u : Bool) (b T m : Nat) (cs : List AV) (hm : 0 < m) (hl : liesAt Tryz.prog Tryz.prog.depth T (m / Tryz.prog.cellsOf T) 0 145 1 = true) (F : St) : ACalls Tryz.prog 112 [.ptr b 0] ((b, .cells (addrB u b T m :: cs)) :: F) (fun x st' => x = .tup [] ∧ st' = (b, .cells (.ptr b 0 :: cs)) :: F) := by
 cases u
 ·exact copyCheck_fresh b T m cs hm hl F
 ·exact copyCheck_used b cs F
theorem WriteString_ok (b : Nat) (u : Bool) (q : Buf) (l s : List UInt8) (T m : Nat) (post : List AV) (hq : q.ok l) (hlen : l.length + s.length ≤ 140737488355328) (hm : 0 < m) (hl : liesAt Tryz.prog Tryz.prog.depth T (m / Tryz.prog.cellsOf T) 0 145 1 = true) (F : St) : ACalls Tryz.prog 82 [.ptr b 0, .S s] (((b, .cells (addrB u b T m :: bufAV q (l) :: post)) :: bufSt q 5 (l)) ++ F) (fun x st' => ∃ foot', (∃ q' : Buf, q'.ok (l ++ s) ∧ x = .tup [.int .i64 (s.length : Int), .nili] ∧ foot' = (b, .cells (.ptr b 0 :: bufAV q' (l ++ s) :: post)) :: bufSt q' 5 (l ++ s)) ∧ st' = foot' ++ F) := by
 refine co 19 Tryz.func82 ?_
 refine AC_seq (AC_region ?_)
 refine ac rfl rfl rfl ?_
 refine ac rfl rfl rfl ?_
 refine AL_nil (AC_seq (AC_region ?_))
 refine mv rfl rfl rfl rfl ?_
 refine s_ (S_call rfl (AEvs.cons (.tmp rfl) AEvs.nil) (copyCheck_ok u b T m _ hm hl _)) ?_
 rintro _ _ ⟨rfl, rfl⟩
 refine AL_nil (AC_seq (AC_region ?_))
 refine mv rfl rfl rfl rfl ?_
 refine mv rfl rfl rfl rfl ?_
 refine p_ (S_nilCheck rfl (.tmp rfl)) ?_
 refine fl 1 ?_
 refine ld 0 ?_
 refine mv rfl rfl rfl rfl ?_
 refine s_ (S_appendStr (q := q) (l := l) (s := s) (e := 5) [(b, _)] F rfl (.tmp rfl) (.tmp rfl) rfl hq (by kernel_rfl) (by kernel_rfl) hlen) ?_
 rintro _ _ ⟨q2, hq2, rfl, rfl⟩
 refine p_ (S_nilCheck rfl (.tmp rfl)) ?_
 refine fl 1 ?_
 refine s_ (S_store 0 rfl (.tmp rfl) (.tmp rfl) rfl (by first | exact Nat.le_of_ble_eq_true rfl | simp) (bufAV_one _ _) (by kernel_rfl)) ?_
 rintro _ _ ⟨rfl, rfl⟩
 refine AL_nil (AC_seq (AC_region ?_))
 refine mv rfl rfl rfl rfl ?_
 refine p_ (S_lenS (ts := #[]) rfl (.tmp rfl) (by kernel_rfl)) ?_
 refine as_ rfl rfl rfl rfl ?_
 refine ac rfl rfl rfl ?_
 refine AL_nil (AC_ret ?_)
 refine ret_tmps (ts := [4, 5]) (((b, .cells (.ptr b 0 :: bufAV q2 (l ++ s) :: post)) :: bufSt q2 5 (l ++ s)) ++ F) rfl (by decide) rfl (Sub.l (List.Sublist.refl _)) (Conv.refl (Sub.l (List.Sublist.refl _)) _) ⟨_, ⟨q2, hq2, rfl, rfl⟩, rfl⟩ (.inl rfl)
theorem String_ok (b : Nat) (q : Buf) (l : List UInt8) (a : AV) (post : List AV) (hq : q.ok l) (F : St) : ACalls Tryz.prog 80 [.ptr b 0] (((b, .cells (a :: bufAV q (l) :: post)) :: bufSt q 5 (l)) ++ F) (fun x st' => ∃ foot', (x = .S l ∧ foot' = [(b, .cells (a :: bufAV q l :: post))]) ∧ st' = foot' ++ F) := by
 refine co 14 Tryz.func80 ?_
 refine AC_seq (AC_region ?_)
 refine p_ (S_assign rfl (AEv.S _)) ?_
 refine AL_nil ?_
 refine AC_seq ?_
 refine AC_plan (σ := [(0, 0), (1, 0), (2, 0), (3, 0), (4, 0), (5, 0), (6, 0), (7, 0), (8, 0), (9, 0), (10, 2), (11, 0)]) (by kernel_rfl) _ (by kernel_rfl) (fun _ h => h) ?_
 refine AG.f rfl rfl (fun st' hst => Q_p rfl (S_move rfl (.tmp rfl))) ?_
 refine AG.f rfl rfl (fun st' hst => Q_p rfl (S_nilCheck rfl (.tmp rfl))) ?_
 refine AG.f rfl rfl (fun st' hst => Q_p rfl (S_field 1 rfl (.tmp rfl) (by kernel_rfl))) ?_
 refine AG.f rfl rfl (fun st' hst => Q_p rfl (S_loadM rfl (.tmp rfl) (hst _ (List.mem_of_getElem? (i := 0) rfl)) rfl (by kernel_rfl))) ?_
 refine AG.f rfl rfl (fun st' hst => Q_p rfl (S_unsafeData rfl (.tmp rfl) hq)) ?_
 refine AG.f rfl rfl (fun st' hst => Q_p rfl (S_move rfl (.tmp rfl))) ?_
 refine AG.f rfl rfl (fun st' hst => Q_p rfl (S_nilCheck rfl (.tmp rfl))) ?_
 refine AG.f rfl rfl (fun st' hst => Q_p rfl (S_field 1 rfl (.tmp rfl) (by kernel_rfl))) ?_
 refine AG.f rfl rfl (fun st' hst => Q_p rfl (S_loadM rfl (.tmp rfl) (hst _ (List.mem_of_getElem? (i := 0) rfl)) rfl (by kernel_rfl))) ?_
 refine AG.f rfl rfl (fun st' hst => Q_p rfl (S_len (e := 5) rfl ((AEv.tmp rfl).le (Le_buf hq)) (by kernel_rfl))) ?_
 refine AG.h rfl rfl rfl (S_unsafeString (q := q) (l := l) (e := 5) (n := 0) (k := 1) [(b, _)] F rfl (.tmp rfl) ((AEv.tmp rfl).le (Le.of_eq (by rw [bytesV_len]))) rfl rfl rfl hq (by kernel_rfl) (by kernel_rfl)) ?_
 rintro _ _ ⟨rfl, rfl⟩
 refine AG.f rfl rfl (fun st' hst => Q_p rfl (S_assign rfl (.tmp rfl))) ?_
 refine AG.nil ?_
 refine AC_ret ?_
 refine ret_tmp ([(b, Ob.cells (a :: bufAV q l :: post))] ++ F) rfl rfl (Sub.l (List.Sublist.refl _)) (Conv.refl (Sub.l (List.Sublist.refl _)) _) ⟨_, ⟨rfl, rfl⟩, rfl⟩ (.inl rfl)
theorem sticks_Fail_ok (b k : Nat) (cs : List AV) (c d : Int) (hk : cs[k]? = some (.int .i64 c)) (F : St) : ACalls Tryz.prog 88 [.ptr b k, .int .i64 d] ((b, .cells cs) :: F) (fun x st' => x = .tup [] ∧ st' = (b, .cells (cs.set k (.int .i64 (failC c d)))) :: F) := by
 refine co 13 Tryz.func88 ?_
 have hlt : k < cs.length := (List.getElem?_eq_some_iff.1 hk).1
 refine AC_seq (AC_region ?_)
 refine mv rfl rfl rfl rfl ?_
 refine p_ (S_nilCheck rfl (.tmp rfl)) ?_
 refine fl 0 ?_
 refine p_ (S_load 0 rfl (.tmp rfl) rfl hk (by kernel_rfl)) ?_
 refine p_ (S_eql rfl (.tmp rfl) (AEv.const _)) ?_
 refine AL_nil ?_
 refine AC_cond (.tmp rfl) (fun hb1 => ?_) (fun hb1 => ?_)
 ·try simp only [zA,zO,zN,zM,zP,zQ,zD,zF,gd] at hb1
  have hc : c = 0 := by omega
  subst hc
  refine AC_region ?_
  refine mv rfl rfl rfl rfl ?_
  refine mv rfl rfl rfl rfl ?_
  refine p_ (S_nilCheck rfl (.tmp rfl)) ?_
  refine fl 0 ?_
  refine s_ (S_store 0 rfl (.tmp rfl) (.tmp rfl) rfl hlt rfl (by kernel_rfl)) ?_
  rintro _ _ ⟨rfl, rfl⟩
  refine AL_nil ?_
  refine ret_none ((b, .cells (cs.set k (.int .i64 d))) :: F) rfl (Sub.l (List.Sublist.refl _)) ⟨rfl, rfl⟩ (.inr rfl)
 try simp only [zA,zO,zN,zM,zP,zQ,zD,zF,gd] at hb1
 have hs : cs.set k (.int .i64 (failC c d)) = cs := by
  rw [failC, if_neg (by omega)]
  obtain ⟨h1, h2⟩ := List.getElem?_eq_some_iff.1 hk
  rw [← h2]
  exact List.set_getElem_self h1
 refine AC_skip ?_
 refine ret_none ((b, .cells cs) :: F) rfl (Sub.l (List.Sublist.refl _)) ⟨rfl, by rw [hs]⟩ (.inr rfl)
theorem wire_Write_ok (F : St) : ACalls Tryz.prog 49 [] ([] ++ F) (fun x st' => ∃ foot', (∃ b, x = .ptr b 0 ∧ foot' = (b, .cells [addrB false b 157 3, bufAV .nil ([]), .int .i64 (0)]) :: bufSt .nil 5 ([])) ∧ st' = foot' ++ F) := by
 refine co 3 Tryz.func49 ?_
 refine AC_seq (AC_region ?_)
 refine ac rfl rfl rfl ?_
 refine AL_nil (AC_seq (AC_region ?_))
 refine p_ (S_build (t := 157) (pl := [(0, 2), (2, 1)]) (zs := [.pointer none, .slice none 0 0, .int .i64 0]) rfl AEvs.nil (by kernel_rfl) rfl) ?_
 refine s_ (S_boxB (cs := [.nils, .int .i64 0]) rfl ((AEv.tmp rfl).le (Le.of_eq rfl))) ?_
 rintro _ _ ⟨b1, rfl, rfl⟩
 refine as_ rfl rfl rfl rfl ?_
 refine AL_nil (AC_ret ?_)
 refine ret_tmp (((b1, .cells [addrB false b1 157 3, bufAV .nil ([]), .int .i64 (0)]) :: bufSt .nil 5 ([])) ++ F) rfl rfl (Sub.l (List.Sublist.refl _)) (Conv.refl (Sub.l (List.Sublist.refl _)) _) ⟨_, ⟨b1, rfl, rfl⟩, rfl⟩ (.inl rfl)
theorem w_put_ok (b : Nat) (u : Bool) (q : Buf) (l : List UInt8) (c : Int) (hq : q.ok l) (s : List UInt8) (hlen : l.length + s.length ≤ 140737488355328) (F : St) : ACalls Tryz.prog 120 [.ptr b 0, .S s] (((b, .cells [addrB u b 157 3, bufAV q (l), .int .i64 (c)]) :: bufSt q 5 (l)) ++ F) (fun x st' => ∃ foot', (∃ (u' : Bool) (q' : Buf), q'.ok (wput c l s) ∧ x = .tup [] ∧ foot' = (b, .cells [addrB u' b 157 3, bufAV q' (wput c l s), .int .i64 (c)]) :: bufSt q' 5 (wput c l s)) ∧ st' = foot' ++ F) := by
 refine co 15 Tryz.func120 ?_
 refine AC_seq (AC_region ?_)
 refine mv rfl rfl rfl rfl ?_
 refine p_ (S_nilCheck rfl (.tmp rfl)) ?_
 refine fl 2 ?_
 refine fl 0 ?_
 refine ld 0 ?_
 refine p_ (S_eql rfl (.tmp rfl) (AEv.const _)) ?_
 refine AL_nil ?_
 refine AC_cond (.tmp rfl) (fun hb1 => ?_) (fun hb1 => ?_)
 ·try simp only [zA,zO,zN,zM,zP,zQ,zD,zF,gd] at hb1
  have hc : c = 0 := by omega
  subst hc
  refine AC_region ?_
  refine mv rfl rfl rfl rfl ?_
  refine p_ (S_nilCheck rfl (.tmp rfl)) ?_
  refine fl 0 ?_
  refine mv rfl rfl rfl rfl ?_
  refine s_ (S_call rfl (AEvs.cons (.tmp rfl) (AEvs.cons (.tmp rfl) AEvs.nil)) (WriteString_ok b u q l s 157 3 [_] hq hlen (by decide) (by kernel_rfl) F)) ?_
  rintro _ _ ⟨_, ⟨q2, hq2, rfl, rfl⟩, rfl⟩
  refine AL_nil ?_
  refine ret_none (((b, .cells [addrB true b 157 3, bufAV q2 (l ++ s), .int .i64 (0)]) :: bufSt q2 5 (l ++ s)) ++ F) rfl (Sub.l (List.Sublist.refl _)) ⟨_, ⟨true, q2, hq2, rfl, rfl⟩, rfl⟩ (.inr rfl)
 try simp only [zA,zO,zN,zM,zP,zQ,zD,zF,gd] at hb1
 have hw : wput c l s = l := wput_err (by omega) l s
 refine AC_skip ?_
 refine ret_none (((b, .cells [addrB u b 157 3, bufAV q (l), .int .i64 (c)]) :: bufSt q 5 (l)) ++ F) rfl (Sub.l (List.Sublist.refl _)) ⟨_, ⟨u, q, by rw [hw]; exact hq, rfl, by rw [hw]⟩, rfl⟩ (.inr rfl)
theorem w_Big_ok (b : Nat) (u : Bool) (q : Buf) (l : List UInt8) (c : Int) (hq : q.ok l) (n : Nat) (hn : n < 18446744073709551616) (hlen : l.length + 10 ≤ 140737488355328) (F : St) : ACalls Tryz.prog 89 [.ptr b 0, .int .u64 (n : Int)] (((b, .cells [addrB u b 157 3, bufAV q (l), .int .i64 (c)]) :: bufSt q 5 (l)) ++ F) (fun x st' => ∃ foot', (∃ (u' : Bool) (q' : Buf), q'.ok (wput c l (putL n)) ∧ x = .tup [] ∧ foot' = (b, .cells [addrB u' b 157 3, bufAV q' (wput c l (putL n)), .int .i64 (c)]) :: bufSt q' 5 (wput c l (putL n))) ∧ st' = foot' ++ F) := by
 refine co 8 Tryz.func89 ?_
 have hp := putL_few n hn
 refine AC_region ?_
 refine mv rfl rfl rfl rfl ?_
 refine mv rfl rfl rfl rfl ?_
 refine p_ (S_pcall rfl (AEvs.cons (.tmp rfl) AEvs.nil) (num_Put_ok _ (by first | assumption | omega))) ?_
 refine s_ (S_call rfl (AEvs.cons (.tmp rfl) (AEvs.cons (.tmp rfl) AEvs.nil)) (w_put_ok b u q l c hq (putL n) (by omega) F)) ?_
 rintro _ _ ⟨_, ⟨u2, q2, hq2, rfl, rfl⟩, rfl⟩
 refine AL_nil ?_
 refine ret_none (((b, .cells [addrB u2 b 157 3, bufAV q2 (wput c l (putL n)), .int .i64 (c)]) :: bufSt q2 5 (wput c l (putL n))) ++ F) rfl (Sub.l (List.Sublist.refl _)) ⟨_, ⟨u2, q2, hq2, rfl, rfl⟩, rfl⟩ (.inr rfl)
theorem w_Num_ok (b : Nat) (u : Bool) (q : Buf) (l : List UInt8) (c : Int) (hq : q.ok l) (n : Int) (hn : fits n) (hlen : l.length + 10 ≤ 140737488355328) (F : St) : ACalls Tryz.prog 50 [.ptr b 0, .int .i64 n] (((b, .cells [addrB u b 157 3, bufAV q (l), .int .i64 (c)]) :: bufSt q 5 (l)) ++ F) (fun x st' => ∃ foot', (∃ (u' : Bool) (q' : Buf), q'.ok (if n < 0 then l else wput c l (putL n.toNat)) ∧ x = .tup [] ∧ foot' = (b, .cells [addrB u' b 157 3, bufAV q' (if n < 0 then l else wput c l (putL n.toNat)), .int .i64 (if n < 0 then failC c 1 else c)]) :: bufSt q' 5 (if n < 0 then l else wput c l (putL n.toNat))) ∧ st' = foot' ++ F) := by
 refine co 14 Tryz.func50 ?_
 have hw := u64w n
 unfold fits at hn
 refine AC_seq ?_
 refine AC_seq (AC_region ?_)
 refine mv rfl rfl rfl rfl ?_
 refine p_ (S_lss rfl (.tmp rfl) (AEv.const _)) ?_
 refine AL_nil ?_
 refine AC_cond (.tmp rfl) (fun hb1 => ?_) (fun hb1 => ?_)
 ·try simp only [zA,zO,zN,zM,zP,zQ,zD,zF,gd] at hb1
  refine AC_seq (AC_region ?_)
  refine mv rfl rfl rfl rfl ?_
  refine p_ (S_nilCheck rfl (.tmp rfl)) ?_
  refine fl 2 ?_
  refine s_ (S_call rfl (AEvs.cons (.tmp rfl) (AEvs.cons (AEv.const _) AEvs.nil)) (sticks_Fail_ok b 2 [_, _, .int .i64 c] c 1 rfl _)) ?_
  rintro _ _ ⟨rfl, rfl⟩
  refine AL_nil (AC_ret ?_)
  refine ret_none (((b, .cells [addrB u b 157 3, bufAV q (l), .int .i64 (failC c 1)]) :: bufSt q 5 (l)) ++ F) rfl (Sub.l (List.Sublist.refl _)) ⟨_, ⟨u, q, by rw [if_pos (by assumption)]; exact hq, rfl, by rw [if_pos (by assumption), if_pos (by assumption)]⟩, rfl⟩ (.inl rfl)
 try simp only [zA,zO,zN,zM,zP,zQ,zD,zF,gd] at hb1
 refine AC_skip ?_
 refine AC_region ?_
 refine mv rfl rfl rfl rfl ?_
 refine mv rfl rfl rfl rfl ?_
 refine p_ (S_conv (k' := .u64) rfl (.tmp rfl) (by kernel_rfl) (by kernel_rfl)) ?_
 refine s_ (S_call rfl (AEvs.cons (.tmp rfl) (AEvs.cons (y := .int .u64 (n.toNat : Int)) ((AEv.tmp rfl).le (Le.of_eq (by rw [show IntKind.u64.wrap n = (n.toNat : Int) by omega]))) AEvs.nil)) (w_Big_ok b u q l c hq n.toNat (by omega) hlen F)) ?_
 rintro _ _ ⟨_, ⟨u2, q2, hq2, rfl, rfl⟩, rfl⟩
 refine AL_nil ?_
 refine ret_none (((b, .cells [addrB u2 b 157 3, bufAV q2 (wput c l (putL n.toNat)), .int .i64 (c)]) :: bufSt q2 5 (wput c l (putL n.toNat))) ++ F) rfl (Sub.l (List.Sublist.refl _)) ⟨_, ⟨u2, q2, by rw [if_neg (by omega)]; exact hq2, rfl, by rw [if_neg (by omega), if_neg (by omega)]⟩, rfl⟩ (.inr rfl)
theorem w_Text_ok (b : Nat) (u : Bool) (q : Buf) (l : List UInt8) (c : Int) (hq : q.ok l) (s : List UInt8) (hlen : l.length + s.length + 10 ≤ 140737488355328) (F : St) : ACalls Tryz.prog 91 [.ptr b 0, .S s] (((b, .cells [addrB u b 157 3, bufAV q (l), .int .i64 (c)]) :: bufSt q 5 (l)) ++ F) (fun x st' => ∃ foot', (∃ (u' : Bool) (q' : Buf), q'.ok (wput c l (putL s.length ++ s)) ∧ x = .tup [] ∧ foot' = (b, .cells [addrB u' b 157 3, bufAV q' (wput c l (putL s.length ++ s)), .int .i64 (c)]) :: bufSt q' 5 (wput c l (putL s.length ++ s))) ∧ st' = foot' ++ F) := by
 refine co 11 Tryz.func91 ?_
 have hp := putL_few s.length (by omega)
 have hwl := wput_len c l (putL s.length)
 have hneg : ¬ ((s.length : Int) < 0) := by omega
 refine AC_seq (AC_region ?_)
 refine mv rfl rfl rfl rfl ?_
 refine mv rfl rfl rfl rfl ?_
 refine p_ (S_lenS (ts := #[]) rfl (.tmp rfl) (by kernel_rfl)) ?_
 refine s_ (S_call rfl (AEvs.cons (.tmp rfl) (AEvs.cons (.tmp rfl) AEvs.nil)) (w_Num_ok b u q l c hq (s.length : Int) (by unfold fits; omega) (by omega) F)) ?_
 rintro _ _ ⟨_, ⟨u2, q2, hq2, rfl, rfl⟩, rfl⟩
 rw [if_neg hneg, Int.toNat_natCast] at hq2
 simp only [if_neg hneg, Int.toNat_natCast]
 refine AL_nil ?_
 refine AC_region ?_
 refine mv rfl rfl rfl rfl ?_
 refine mv rfl rfl rfl rfl ?_
 refine s_ (S_call rfl (AEvs.cons (.tmp rfl) (AEvs.cons (.tmp rfl) AEvs.nil)) (w_put_ok b u2 q2 (wput c l (putL s.length)) c hq2 s (by omega) F)) ?_
 rintro _ _ ⟨_, ⟨u3, q3, hq3, rfl, rfl⟩, rfl⟩
 rw [wput_wput] at hq3 ⊢
 refine AL_nil ?_
 refine ret_none (((b, .cells [addrB u3 b 157 3, bufAV q3 (wput c l (putL s.length ++ s)), .int .i64 (c)]) :: bufSt q3 5 (wput c l (putL s.length ++ s))) ++ F) rfl (Sub.l (List.Sublist.refl _)) ⟨_, ⟨u3, q3, hq3, rfl, rfl⟩, rfl⟩ (.inr rfl)
theorem w_End_ok (b : Nat) (u : Bool) (q : Buf) (l : List UInt8) (c : Int) (hq : q.ok l) (F : St) : ACalls Tryz.prog 52 [.ptr b 0] (((b, .cells [addrB u b 157 3, bufAV q (l), .int .i64 (c)]) :: bufSt q 5 (l)) ++ F) (fun x st' => ∃ foot', (∃ cs : List AV, x = .tup [.S (if c = 0 then l else []), .int .i64 c] ∧ foot' = [(b, .cells cs)]) ∧ st' = foot' ++ F) := by
 refine co 19 Tryz.func52 ?_
 refine AC_seq (AC_region ?_)
 refine p_ (S_assign rfl (AEv.S _)) ?_
 refine ac rfl rfl rfl ?_
 refine AL_nil ?_
 refine AC_seq ?_
 refine AC_seq (AC_region ?_)
 refine mv rfl rfl rfl rfl ?_
 refine p_ (S_nilCheck rfl (.tmp rfl)) ?_
 refine fl 2 ?_
 refine fl 0 ?_
 refine ld 0 ?_
 refine p_ (S_neq rfl (.tmp rfl) (AEv.const _)) ?_
 refine AL_nil ?_
 refine AC_cond (.tmp rfl) (fun hb1 => ?_) (fun hb1 => ?_)
 ·try simp only [zA,zO,zN,zM,zP,zQ,zD,zF,gd] at hb1
  refine AC_seq ?_
  refine AC_draw (by kernel_rfl) (by kernel_rfl) (.cons rfl (Q_p rfl (S_move rfl (.tmp rfl))) <|
    .cons rfl (Q_p rfl (S_nilCheck rfl (.tmp rfl))) <|
    .cons rfl (Q_p rfl (S_field 2 rfl (.tmp rfl) (by kernel_rfl))) <|
    .cons rfl (Q_p rfl (S_field 0 rfl (.tmp rfl) (by kernel_rfl))) <|
    .cons rfl (Q_p rfl (S_load 0 rfl (.tmp rfl) rfl rfl (by kernel_rfl))) <|
    .cons rfl (Q_p rfl (S_assign rfl (AEv.S _))) <|
    .cons rfl (Q_p rfl (S_assign rfl (.tmp rfl))) <|
    .nil) ?_
  refine AC_ret ?_
  refine ret_tmps (ts := [2, 3]) ([(b, Ob.cells [addrB u b 157 3, bufAV q l, .int .i64 c])] ++ F) rfl (by decide) rfl (Sub.l (.cons_cons _ (List.sublist_append_right _ _))) (Conv.refl (Sub.l (.cons_cons _ (List.sublist_append_right _ _))) _) ⟨_, ⟨_, by rw [if_neg (by assumption)], rfl⟩, rfl⟩ (.inl rfl)
 try simp only [zA,zO,zN,zM,zP,zQ,zD,zF,gd] at hb1
 have hc : c = 0 := by omega
 subst hc
 refine AC_skip ?_
 refine AC_seq (AC_region ?_)
 refine mv rfl rfl rfl rfl ?_
 refine p_ (S_nilCheck rfl (.tmp rfl)) ?_
 refine fl 0 ?_
 refine s_ (S_call rfl (AEvs.cons (.tmp rfl) AEvs.nil) (String_ok b q l (addrB u b 157 3) [_] hq F)) ?_
 rintro _ _ ⟨_, ⟨rfl, rfl⟩, rfl⟩
 refine as_ rfl rfl rfl rfl ?_
 refine ac rfl rfl rfl ?_
 refine AL_nil (AC_ret ?_)
 refine ret_tmps (ts := [2, 3]) ([(b, Ob.cells [addrB u b 157 3, bufAV q l, .int .i64 0])] ++ F) rfl (by decide) rfl (Sub.l (List.Sublist.refl _)) (Conv.refl (Sub.l (List.Sublist.refl _)) _) ⟨_, ⟨_, rfl, rfl⟩, rfl⟩ (.inl rfl)
end Go.Proofs.YtfpkefhjomeeeaaGreatDoor

namespace Go.Proofs.YtfpkefhjomeeeaaGreatDoor
open Go.AL Go.NumSpec

end Go.Proofs.YtfpkefhjomeeeaaGreatDoor

set_option maxRecDepth 100000
namespace Go.Proofs.YtfpkefhjomeeeaaGreatDoor
open Go.AL Go.NumSpec
theorem w_NumN (b : Nat) (u2 : Bool) (q2 : Buf) (l : List UInt8) (c : Int) (hq2 : q2.ok l)  (hl : l.length + 10 ≤ 100000000000) (n : Int) (h0 : 0 ≤ n) (hn : n ≤ 9223372036854775807) (F : St) : ACalls Tryz.prog 50 [.ptr b 0, .int .i64 n] (((b, .cells [addrB u2 b 157 3, bufAV q2 (l), .int .i64 (c)]) :: bufSt q2 5 (l)) ++ F) (fun x st' => ∃ foot', (∃ (u' : Bool) (q' : Buf), q'.ok (wput c l (numB n)) ∧ x = .tup [] ∧ foot' = (b, .cells [addrB u' b 157 3, bufAV q' (wput c l (numB n)), .int .i64 (c)]) :: bufSt q' 5 (wput c l (numB n))) ∧ st' = foot' ++ F) := by
 have h := w_Num_ok b u2 q2 l c hq2 n ⟨by omega, hn⟩ (by omega) F
 rw [if_neg (show ¬ n < 0 by omega), if_neg (show ¬ n < 0 by omega)] at h
 exact h
theorem w_TextN (b : Nat) (u2 : Bool) (q2 : Buf) (l : List UInt8) (c : Int) (hq2 : q2.ok l)  (hl : l.length + 10 ≤ 100000000000) (s : List UInt8) (hs : s.length ≤ 1000000000) (hls : l.length + (s.length + 10) ≤ 100000000000) (F : St) : ACalls Tryz.prog 91 [.ptr b 0, .S s] (((b, .cells [addrB u2 b 157 3, bufAV q2 (l), .int .i64 (c)]) :: bufSt q2 5 (l)) ++ F) (fun x st' => ∃ foot', (∃ (u' : Bool) (q' : Buf), q'.ok (wput c l (textB s)) ∧ x = .tup [] ∧ foot' = (b, .cells [addrB u' b 157 3, bufAV q' (wput c l (textB s)), .int .i64 (c)]) :: bufSt q' 5 (wput c l (textB s))) ∧ st' = foot' ++ F) := w_Text_ok b u2 q2 l c hq2 s (by omega) F
theorem putRes_ok (b : Nat) (u2 : Bool) (q2 : Buf) (l : List UInt8) (c : Int) (hq2 : q2.ok l)  (hl : l.length + 30 ≤ 100000000000) (r : Tri) (hr : TriOk r) (F : St) : ACalls Tryz.prog 159 [.ptr b 0, .agg [.int .i64 r.1, .int .i64 r.2.1, .int .i64 r.2.2]] (((b, .cells [addrB u2 b 157 3, bufAV q2 (l), .int .i64 (c)]) :: bufSt q2 5 (l)) ++ F) (fun x st' => ∃ foot', (∃ (u' : Bool) (q' : Buf), q'.ok (wput c l (triB r)) ∧ x = .tup [] ∧ foot' = (b, .cells [addrB u' b 157 3, bufAV q' (wput c l (triB r)), .int .i64 (c)]) :: bufSt q' 5 (wput c l (triB r))) ∧ st' = foot' ++ F) := by
 refine co 16 Tryz.func159 ?_
 have hr1 := hr.1
 have hr2 := hr.2.1
 have hr3 := hr.2.2
 unfold MR at hr1 hr2 hr3
 have n1 := numB_len (n := r.1) (by omega)
 have n2 := numB_len (n := r.2.1) (by omega)
 have n3 := numB_len (n := r.2.2) (by omega)
 refine AC_seq (AC_region ?_)
 refine s_ (S_box rfl (.tmp rfl)) ?_
 rintro _ _ ⟨b3, rfl, rfl⟩
 refine AL_nil (AC_seq (AC_region ?_))
 refine mv rfl rfl rfl rfl ?_
 refine fl 0 ?_
 refine ld 0 ?_
 refine s_ (S_call rfl (AEvs.cons (.tmp rfl) (AEvs.cons (.tmp rfl) AEvs.nil)) (ACalls.preQ (pre := [_]) (F := F) (w_NumN b u2 q2 _ c hq2 (by first | omega | (refine Nat.le_trans (Nat.add_le_add_right (wput_len _ _ _) _) ?_; (try simp only [List.length_append]); omega)) r.1 (by omega) (by omega) _))) ?_
 rintro _ _ ⟨_, ⟨u2, q2, hq2, rfl, rfl⟩, rfl⟩
 refine AL_nil (AC_seq (AC_region ?_))
 refine mv rfl rfl rfl rfl ?_
 refine fl 1 ?_
 refine ld 0 ?_
 refine s_ (S_call rfl (AEvs.cons (.tmp rfl) (AEvs.cons (.tmp rfl) AEvs.nil)) (ACalls.preQ (pre := [_]) (F := F) (w_NumN b u2 q2 _ c hq2 (by first | omega | (refine Nat.le_trans (Nat.add_le_add_right (wput_len _ _ _) _) ?_; (try simp only [List.length_append]); omega)) r.2.1 (by omega) (by omega) _))) ?_
 rintro _ _ ⟨_, ⟨u2, q2, hq2, rfl, rfl⟩, rfl⟩
 rw [wput_wput] at hq2 ⊢
 refine AL_nil ?_
 refine AC_region ?_
 refine mv rfl rfl rfl rfl ?_
 refine fl 2 ?_
 refine ld 0 ?_
 refine s_ (S_call rfl (AEvs.cons (.tmp rfl) (AEvs.cons (.tmp rfl) AEvs.nil)) (ACalls.preQ (pre := [_]) (F := F) (w_NumN b u2 q2 _ c hq2 (by first | omega | (refine Nat.le_trans (Nat.add_le_add_right (wput_len _ _ _) _) ?_; (try simp only [List.length_append]); omega)) r.2.2 (by omega) (by omega) _))) ?_
 rintro _ _ ⟨_, ⟨u2, q2, hq2, rfl, rfl⟩, rfl⟩
 rw [wput_wput] at hq2 ⊢
 rw [triB_assoc] at hq2 ⊢
 refine AL_nil ?_
 refine ret_none (((b, .cells [addrB u2 b 157 3, bufAV q2 (wput c l (triB r)), .int .i64 (c)]) :: bufSt q2 5 (wput c l (triB r))) ++ F) rfl (Sub.l (List.sublist_cons_self _ _)) ⟨_, ⟨u2, q2, hq2, rfl, rfl⟩, rfl⟩ (.inr rfl)
theorem putC1_ok (b : Nat) (u2 : Bool) (q2 : Buf) (l : List UInt8) (c : Int) (hq2 : q2.ok l)  (hl : l.length + 10 ≤ 100000000000) (bw : Nat) (n : Int) (h0 : 0 ≤ n) (hn : n ≤ 9223372036854775807) (F : St) (hw : (bw, Ob.cells [.ptr b 0]) ∈ F) : ACalls Tryz.prog 161 [.int .i64 n, .ptr bw 0] (((b, .cells [addrB u2 b 157 3, bufAV q2 (l), .int .i64 (c)]) :: bufSt q2 5 (l)) ++ F) (fun x st' => ∃ foot', (∃ (u' : Bool) (q' : Buf), q'.ok (wput c l (numB n)) ∧ x = .tup [] ∧ foot' = (b, .cells [addrB u' b 157 3, bufAV q' (wput c l (numB n)), .int .i64 (c)]) :: bufSt q' 5 (wput c l (numB n))) ∧ st' = foot' ++ F) := by
 refine co 6 Tryz.func161 ?_
 refine AC_region ?_
 refine p_ (S_loadM (cs := [.ptr b 0]) rfl (.tmp rfl) (by repeat (first | exact hw | refine List.mem_append_right _ ?_ | refine List.mem_cons_of_mem _ ?_)) rfl (by kernel_rfl)) ?_
 refine mv rfl rfl rfl rfl ?_
 refine s_ (S_call rfl (AEvs.cons (.tmp rfl) (AEvs.cons (.tmp rfl) AEvs.nil)) (w_NumN b u2 q2 _ c hq2 (by first | omega | (refine Nat.le_trans (Nat.add_le_add_right (wput_len _ _ _) _) ?_; (try simp only [List.length_append]); omega)) n h0 hn F)) ?_
 rintro _ _ ⟨_, ⟨u2, q2, hq2, rfl, rfl⟩, rfl⟩
 refine AL_nil ?_
 refine ret_none (((b, .cells [addrB u2 b 157 3, bufAV q2 (wput c l (numB n)), .int .i64 (c)]) :: bufSt q2 5 (wput c l (numB n))) ++ F) rfl (Sub.l (List.Sublist.refl _)) ⟨_, ⟨u2, q2, hq2, rfl, rfl⟩, rfl⟩ (.inr rfl)
theorem putL1_ok (b : Nat) (u2 : Bool) (q2 : Buf) (l : List UInt8) (c : Int) (hq2 : q2.ok l)  (hl : l.length + 1000 ≤ 100000000000) (bw : Nat) (y : Lab) (hx1 : y.1.length ≤ 400) (hx2 : y.2.length ≤ 400) (F : St) (hw : (bw, Ob.cells [.ptr b 0]) ∈ F) : ACalls Tryz.prog 126 [labAV y, .ptr bw 0] (((b, .cells [addrB u2 b 157 3, bufAV q2 (l), .int .i64 (c)]) :: bufSt q2 5 (l)) ++ F) (fun x st' => ∃ foot', (∃ (u' : Bool) (q' : Buf), q'.ok (wput c l (labB y)) ∧ x = .tup [] ∧ foot' = (b, .cells [addrB u' b 157 3, bufAV q' (wput c l (labB y)), .int .i64 (c)]) :: bufSt q' 5 (wput c l (labB y))) ∧ st' = foot' ++ F) := by
 refine co 11 Tryz.func126 ?_
 have n1 := textB_len (s := y.1) (by omega)
 have n2 := textB_len (s := y.2) (by omega)
 refine AC_seq (AC_region ?_)
 refine s_ (S_box rfl (.tmp rfl)) ?_
 rintro _ _ ⟨b2, rfl, rfl⟩
 refine AL_nil (AC_seq (AC_region ?_))
 refine p_ (S_loadM (cs := [.ptr b 0]) rfl (.tmp rfl) (by repeat (first | exact hw | refine List.mem_append_right _ ?_ | refine List.mem_cons_of_mem _ ?_)) rfl (by kernel_rfl)) ?_
 refine fl 0 ?_
 refine ld 0 ?_
 refine s_ (S_call rfl (AEvs.cons (.tmp rfl) (AEvs.cons (.tmp rfl) AEvs.nil)) (ACalls.preQ (pre := [_]) (F := F) (w_TextN b u2 q2 _ c hq2 (by first | omega | (refine Nat.le_trans (Nat.add_le_add_right (wput_len _ _ _) _) ?_; (try simp only [List.length_append]); omega)) y.1 (by omega) (by first | omega | (refine Nat.le_trans (Nat.add_le_add_right (wput_len _ _ _) _) ?_; (try simp only [List.length_append]); omega)) _))) ?_
 rintro _ _ ⟨_, ⟨u2, q2, hq2, rfl, rfl⟩, rfl⟩
 refine AL_nil ?_
 refine AC_region ?_
 refine p_ (S_loadM (cs := [.ptr b 0]) rfl (.tmp rfl) (by repeat (first | exact hw | refine List.mem_append_right _ ?_ | refine List.mem_cons_of_mem _ ?_)) rfl (by kernel_rfl)) ?_
 refine fl 1 ?_
 refine ld 0 ?_
 refine s_ (S_call rfl (AEvs.cons (.tmp rfl) (AEvs.cons (.tmp rfl) AEvs.nil)) (ACalls.preQ (pre := [_]) (F := F) (w_TextN b u2 q2 _ c hq2 (by first | omega | (refine Nat.le_trans (Nat.add_le_add_right (wput_len _ _ _) _) ?_; (try simp only [List.length_append]); omega)) y.2 (by omega) (by first | omega | (refine Nat.le_trans (Nat.add_le_add_right (wput_len _ _ _) _) ?_; (try simp only [List.length_append]); omega)) _))) ?_
 rintro _ _ ⟨_, ⟨u2, q2, hq2, rfl, rfl⟩, rfl⟩
 rw [wput_wput] at hq2 ⊢
 refine AL_nil ?_
 refine ret_none (((b, .cells [addrB u2 b 157 3, bufAV q2 (wput c l (labB y)), .int .i64 (c)]) :: bufSt q2 5 (wput c l (labB y))) ++ F) rfl (Sub.l (List.sublist_cons_self _ _)) ⟨_, ⟨u2, q2, hq2, rfl, rfl⟩, rfl⟩ (.inr rfl)
theorem putAllI_ok (b : Nat) (u2 : Bool) (q2 : Buf) (l : List UInt8) (c : Int) (hq2 : q2.ok l) (xs : List Int) (hl : l.length + (10 + xs.length * 10) ≤ 100000000000) (bw : Nat) (hxs : xs.length ≤ 1000) (hok : ∀ x ∈ xs, 0 ≤ x ∧ x ≤ 9223372036854775807) (F : St) (hw : (bw, Ob.cells [.ptr b 0]) ∈ F) : ACalls Tryz.prog 160 [.ptr b 0, .sl (xs.map (fun n : Int => AV.int .i64 n)), .fn 161 [.pointer (some ⟨bw, 0, none⟩)]] (((b, .cells [addrB u2 b 157 3, bufAV q2 (l), .int .i64 (c)]) :: bufSt q2 5 (l)) ++ F) (fun x st' => ∃ foot', (∃ (u' : Bool) (q' : Buf), q'.ok (wput c l (listB numB xs)) ∧ x = .tup [] ∧ foot' = (b, .cells [addrB u' b 157 3, bufAV q' (wput c l (listB numB xs)), .int .i64 (c)]) :: bufSt q' 5 (wput c l (listB numB xs))) ∧ st' = foot' ++ F) := by
 refine co 22 Tryz.func160 ?_
 have hen : ∀ x ∈ xs, (numB x).length ≤ 10 := fun x hx => by have h9 := hok x hx; exact numB_len h9.2
 have hp := putL_few xs.length (by omega)
 refine AC_seq (AC_region ?_)
 refine mv rfl rfl rfl rfl ?_
 refine mv rfl rfl rfl rfl ?_
 refine p_ (by first | exact S_lenM (e := 3) rfl (.tmp rfl) (by kernel_rfl) | exact S_len (e := 3) rfl (.tmp rfl) (by kernel_rfl)) ?_
 refine s_ (S_call rfl (AEvs.cons (.tmp rfl) (AEvs.cons (.tmp rfl) AEvs.nil)) (w_NumN b u2 q2 _ c hq2 (by first | omega | (refine Nat.le_trans (Nat.add_le_add_right (wput_len _ _ _) _) ?_; (try simp only [List.length_append]); omega)) (xs.length : Int) (by omega) (by omega) F)) ?_
 rintro _ _ ⟨_, ⟨u2, q2, hq2, rfl, rfl⟩, rfl⟩
 have e0 : wput c l (numB (xs.length : Int)) = wput c l (putL xs.length ++ (xs.take 0).flatMap numB) := by simp [numB]
 rw [e0] at hq2 ⊢
 refine AL_nil (AC_seq (AC_region ?_))
 refine mv rfl rfl rfl rfl ?_
 refine p_ (by first | exact S_lenM (e := 3) rfl (.tmp rfl) (by kernel_rfl) | exact S_len (e := 3) rfl (.tmp rfl) (by kernel_rfl)) ?_
 refine p_ (S_move rfl (AEv.const _)) ?_
 refine AL_nil ?_
 refine AC_block ?_
 refine AC_loopK (G := Nat × Bool × Buf) [(2, _), (12, _), (13, _)] (fun g => g.1 ≤ xs.length ∧ g.2.2.ok (wput c l (putL xs.length ++ (xs.take g.1).flatMap numB))) (fun g => [(14, .int .i64 (g.1 : Int))]) (fun g => ((b, .cells [addrB g.2.1 b 157 3, bufAV g.2.2 (wput c l (putL xs.length ++ (xs.take g.1).flatMap numB)), .int .i64 (c)]) :: bufSt g.2.2 5 (wput c l (putL xs.length ++ (xs.take g.1).flatMap numB))) ++ F) (fun g => xs.length - g.1) ((0, u2, q2)) (⟨Nat.zero_le _, hq2⟩) (Sub.l (List.Sublist.refl _)) (.cons rfl (Le.refl _) (.cons rfl (Le.refl _) (.cons rfl (Le.refl _) .nil))) (.cons rfl (by first | exact Le.refl _ | exact Le.nils | exact Le.row _ _ _ _ | exact Le.of_eq (by first | rfl | (simp; done) | (push_cast; rfl) | (simp; omega))) .nil) ?_
 rintro ⟨i, u2, q2⟩ ⟨hi, hq2⟩
 try dsimp only
 simp only [List.cons_append, List.nil_append]
 dsimp only at hi hq2
 have hfm := flatB_len (e := numB) (B := 10) (l := xs.take i) fun x hx => hen x (List.mem_of_mem_take hx)
 rw [List.length_take, show min i xs.length = i by omega] at hfm
 refine AC_seq (AC_region ?_)
 refine p_ (S_lss rfl (.tmp rfl) (.tmp rfl)) ?_
 refine AL_nil ?_
 refine AC_seq ?_
 refine AC_cond (.tmp rfl) (fun hb1 => ?_) (fun hb1 => ?_)
 ·try simp only [zA,zO,zN,zM,zP,zQ,zD,zF,gd] at hb1
  have hil : i < xs.length := by omega
  have hxi := hok _ (List.getElem_mem hil)
  have hxl := hen _ (List.getElem_mem hil)
  refine AC_skip ?_
  refine AC_seq ?_
  refine AC_block ?_
  refine AC_seq (AC_region ?_)
  refine p_ (S_elemN (e := 3) 1 rfl (.tmp rfl) (.tmp rfl) (by kernel_rfl) (by kernel_rfl) (by omega) (fun _ => rfl)) ?_
  refine p_ (S_loadP rfl (.tmp rfl) rfl (by kernel_rfl)) ?_
  refine as_ rfl rfl rfl rfl ?_
  refine AL_nil ?_
  refine AC_region ?_
  refine mv rfl rfl rfl rfl ?_
  refine mv rfl rfl rfl rfl ?_
  refine s_ (S_callF (caps := [.pointer (some ⟨bw, 0, none⟩)]) rfl (.tmp rfl) (AEvs.cons (y := .int .i64 (xs[i]'hil)) (.tmp rfl) AEvs.nil) (putC1_ok b u2 q2 _ c hq2 (by first | omega | (refine Nat.le_trans (Nat.add_le_add_right (wput_len _ _ _) _) ?_; (try simp only [List.length_append]); omega)) bw (xs[i]'hil) hxi.1 hxi.2 F hw)) ?_
  rintro _ _ ⟨_, ⟨u2, q2, hq2, rfl, rfl⟩, rfl⟩
  rw [wput_wput] at hq2 ⊢
  refine AL_nil ?_
  refine AC_region ?_
  refine p_ (S_addI rfl (.tmp rfl) (AEv.const _) (by omega) (by omega)) ?_
  refine mv rfl rfl rfl rfl ?_
  refine AL_nil ?_
  refine ⟨(i + 1, u2, q2), ⟨by dsimp only; omega, by dsimp only; rw [listB_next hil]; exact hq2⟩, by dsimp only; omega, by dsimp only; rw [listB_next hil]; exact (Sub.l (List.Sublist.refl _)), (.cons rfl (by first | exact Le.refl _ | exact Le.nils | exact Le.row _ _ _ _ | exact Le.of_eq (by first | rfl | (simp; done) | (push_cast; rfl) | (simp; omega))) .nil), (.cons rfl (Le.refl _) (.cons rfl (Le.refl _) (.cons rfl (Le.refl _) .nil)))⟩
 try simp only [zA,zO,zN,zM,zP,zQ,zD,zF,gd] at hb1
 rw [List.take_of_length_le (show xs.length ≤ i by omega)] at hq2 ⊢
 refine AC_exit ?_
 refine ret_none (((b, .cells [addrB u2 b 157 3, bufAV q2 (wput c l (listB numB xs)), .int .i64 (c)]) :: bufSt q2 5 (wput c l (listB numB xs))) ++ F) rfl (Sub.l (List.Sublist.refl _)) ⟨_, ⟨u2, q2, hq2, rfl, rfl⟩, rfl⟩ (.inr rfl)
theorem putAllL_ok (b : Nat) (u2 : Bool) (q2 : Buf) (l : List UInt8) (c : Int) (hq2 : q2.ok l) (xs : List Lab) (hl : l.length + (10 + xs.length * 1000) ≤ 100000000000) (bw : Nat) (hxs : xs.length ≤ 1000) (hok : ∀ x ∈ xs, x.1.length ≤ 400 ∧ x.2.length ≤ 400) (F : St) (hw : (bw, Ob.cells [.ptr b 0]) ∈ F) : ACalls Tryz.prog 125 [.ptr b 0, .sl (xs.map labAV), .fn 126 [.pointer (some ⟨bw, 0, none⟩)]] (((b, .cells [addrB u2 b 157 3, bufAV q2 (l), .int .i64 (c)]) :: bufSt q2 5 (l)) ++ F) (fun x st' => ∃ foot', (∃ (u' : Bool) (q' : Buf), q'.ok (wput c l (listB labB xs)) ∧ x = .tup [] ∧ foot' = (b, .cells [addrB u' b 157 3, bufAV q' (wput c l (listB labB xs)), .int .i64 (c)]) :: bufSt q' 5 (wput c l (listB labB xs))) ∧ st' = foot' ++ F) := by
 refine co 22 Tryz.func125 ?_
 have hen : ∀ x ∈ xs, (labB x).length ≤ 1000 := fun x hx => by have h9 := hok x hx; exact labB_len h9.1 h9.2
 have hp := putL_few xs.length (by omega)
 refine AC_seq (AC_region ?_)
 refine mv rfl rfl rfl rfl ?_
 refine mv rfl rfl rfl rfl ?_
 refine p_ (by first | exact S_lenM (e := 123) rfl (.tmp rfl) (by kernel_rfl) | exact S_len (e := 123) rfl (.tmp rfl) (by kernel_rfl)) ?_
 refine s_ (S_call rfl (AEvs.cons (.tmp rfl) (AEvs.cons (.tmp rfl) AEvs.nil)) (w_NumN b u2 q2 _ c hq2 (by first | omega | (refine Nat.le_trans (Nat.add_le_add_right (wput_len _ _ _) _) ?_; (try simp only [List.length_append]); omega)) (xs.length : Int) (by omega) (by omega) F)) ?_
 rintro _ _ ⟨_, ⟨u2, q2, hq2, rfl, rfl⟩, rfl⟩
 have e0 : wput c l (numB (xs.length : Int)) = wput c l (putL xs.length ++ (xs.take 0).flatMap labB) := by simp [numB]
 rw [e0] at hq2 ⊢
 refine AL_nil (AC_seq (AC_region ?_))
 refine mv rfl rfl rfl rfl ?_
 refine p_ (by first | exact S_lenM (e := 123) rfl (.tmp rfl) (by kernel_rfl) | exact S_len (e := 123) rfl (.tmp rfl) (by kernel_rfl)) ?_
 refine p_ (S_move rfl (AEv.const _)) ?_
 refine AL_nil ?_
 refine AC_block ?_
 refine AC_loopK (G := Nat × Bool × Buf) [(2, _), (12, _), (13, _)] (fun g => g.1 ≤ xs.length ∧ g.2.2.ok (wput c l (putL xs.length ++ (xs.take g.1).flatMap labB))) (fun g => [(14, .int .i64 (g.1 : Int))]) (fun g => ((b, .cells [addrB g.2.1 b 157 3, bufAV g.2.2 (wput c l (putL xs.length ++ (xs.take g.1).flatMap labB)), .int .i64 (c)]) :: bufSt g.2.2 5 (wput c l (putL xs.length ++ (xs.take g.1).flatMap labB))) ++ F) (fun g => xs.length - g.1) ((0, u2, q2)) (⟨Nat.zero_le _, hq2⟩) (Sub.l (List.Sublist.refl _)) (.cons rfl (Le.refl _) (.cons rfl (Le.refl _) (.cons rfl (Le.refl _) .nil))) (.cons rfl (by first | exact Le.refl _ | exact Le.nils | exact Le.row _ _ _ _ | exact Le.of_eq (by first | rfl | (simp; done) | (push_cast; rfl) | (simp; omega))) .nil) ?_
 rintro ⟨i, u2, q2⟩ ⟨hi, hq2⟩
 try dsimp only
 simp only [List.cons_append, List.nil_append]
 dsimp only at hi hq2
 have hfm := flatB_len (e := labB) (B := 1000) (l := xs.take i) fun x hx => hen x (List.mem_of_mem_take hx)
 rw [List.length_take, show min i xs.length = i by omega] at hfm
 refine AC_seq (AC_region ?_)
 refine p_ (S_lss rfl (.tmp rfl) (.tmp rfl)) ?_
 refine AL_nil ?_
 refine AC_seq ?_
 refine AC_cond (.tmp rfl) (fun hb1 => ?_) (fun hb1 => ?_)
 ·try simp only [zA,zO,zN,zM,zP,zQ,zD,zF,gd] at hb1
  have hil : i < xs.length := by omega
  have hxi := hok _ (List.getElem_mem hil)
  have hxl := hen _ (List.getElem_mem hil)
  refine AC_skip ?_
  refine AC_seq ?_
  refine AC_block ?_
  refine AC_seq (AC_region ?_)
  refine p_ (S_elemN (e := 123) 2 rfl (.tmp rfl) (.tmp rfl) (by kernel_rfl) (by kernel_rfl) (by omega) (fun _ => rfl)) ?_
  refine p_ (S_loadPN (m := 2) rfl (.tmp rfl) (by kernel_rfl) (by first | exact Nat.le_of_ble_eq_true rfl | (simp; omega) | simp)) ?_
  refine s_ (S_alloc [.string ⟨#[]⟩, .string ⟨#[]⟩] rfl (by kernel_rfl)) ?_
  rintro _ _ ⟨b7, rfl, rfl⟩
  refine stW 0 ?_
  refine AL_nil ?_
  refine AC_region ?_
  refine mv rfl rfl rfl rfl ?_
  refine ldN 2 0 ?_
  refine s_ (S_callF (caps := [.pointer (some ⟨bw, 0, none⟩)]) rfl (.tmp rfl) (AEvs.cons (y := labAV (xs[i]'hil)) (.tmp rfl) AEvs.nil) (ACalls.preQ (pre := [_]) (F := F) (putL1_ok b u2 q2 _ c hq2 (by first | omega | (refine Nat.le_trans (Nat.add_le_add_right (wput_len _ _ _) _) ?_; (try simp only [List.length_append]); omega)) bw (xs[i]'hil) hxi.1 hxi.2 _ (List.mem_cons_of_mem _ hw)))) ?_
  rintro _ _ ⟨_, ⟨u2, q2, hq2, rfl, rfl⟩, rfl⟩
  rw [wput_wput] at hq2 ⊢
  refine AL_nil ?_
  refine AC_region ?_
  refine p_ (S_addI rfl (.tmp rfl) (AEv.const _) (by omega) (by omega)) ?_
  refine mv rfl rfl rfl rfl ?_
  refine AL_nil ?_
  refine ⟨(i + 1, u2, q2), ⟨by dsimp only; omega, by dsimp only; rw [listB_next hil]; exact hq2⟩, by dsimp only; omega, by dsimp only; rw [listB_next hil]; exact (Sub.l (List.sublist_cons_self _ _)), (.cons rfl (by first | exact Le.refl _ | exact Le.nils | exact Le.row _ _ _ _ | exact Le.of_eq (by first | rfl | (simp; done) | (push_cast; rfl) | (simp; omega))) .nil), (.cons rfl (Le.refl _) (.cons rfl (Le.refl _) (.cons rfl (Le.refl _) .nil)))⟩
 try simp only [zA,zO,zN,zM,zP,zQ,zD,zF,gd] at hb1
 rw [List.take_of_length_le (show xs.length ≤ i by omega)] at hq2 ⊢
 refine AC_exit ?_
 refine ret_none (((b, .cells [addrB u2 b 157 3, bufAV q2 (wput c l (listB labB xs)), .int .i64 (c)]) :: bufSt q2 5 (wput c l (listB labB xs))) ++ F) rfl (Sub.l (List.Sublist.refl _)) ⟨_, ⟨u2, q2, hq2, rfl, rfl⟩, rfl⟩ (.inr rfl)
end Go.Proofs.YtfpkefhjomeeeaaGreatDoor

set_option maxRecDepth 100000
namespace Go.Proofs.YtfpkefhjomeeeaaGreatDoor
open Go.AL Go.NumSpec
theorem putContainer_ok (b : Nat) (u2 : Bool) (q2 : Buf) (l : List UInt8) (c : Int) (hq2 : q2.ok l)  (hl : l.length + 1000 ≤ 100000000000) (d : Ctr) (hd : CtrOk d) (F : St) : ACalls Tryz.prog 124 [.ptr b 0, ctrAV d] (((b, .cells [addrB u2 b 157 3, bufAV q2 (l), .int .i64 (c)]) :: bufSt q2 5 (l)) ++ F) (fun x st' => ∃ foot', (∃ (u' : Bool) (q' : Buf), q'.ok (wput c l (ctrB d)) ∧ x = .tup [] ∧ foot' = (b, .cells [addrB u' b 157 3, bufAV q' (wput c l (ctrB d)), .int .i64 (c)]) :: bufSt q' 5 (wput c l (ctrB d))) ∧ st' = foot' ++ F) := by
 refine co 35 Tryz.func124 ?_
 have hdl := ctrB_len hd
 obtain ⟨hd1, hd2, hd3, hd4, hd5, hd6, hd7⟩ := hd
 have n1 := textB_len (s := d.name) (by omega)
 have n2 := textB_len (s := d.image) (by omega)
 have n3 := triB_len hd3
 have n4 := triB_len hd4
 have n5 : (listB numB d.ports).length ≤ 40 := portsB_len hd5
 have n6 := numB_len (n := d.probe.1) (by omega)
 have n7 := numB_len (n := d.probe.2) (by omega)
 have hp1 := hd5.1
 refine AC_seq (AC_region ?_)
 refine s_ (S_box1 rfl (.tmp rfl) rfl) ?_
 rintro _ _ ⟨b2, rfl, rfl⟩
 refine s_ (S_box rfl (.tmp rfl)) ?_
 rintro _ _ ⟨b3, rfl, rfl⟩
 refine AL_nil (AC_seq (AC_region ?_))
 refine ld 1 ?_
 refine fl 0 ?_
 refine ld 0 ?_
 refine s_ (S_call rfl (AEvs.cons (.tmp rfl) (AEvs.cons (.tmp rfl) AEvs.nil)) (ACalls.preQ (pre := [_, _]) (F := F) (w_TextN b u2 q2 _ c hq2 (by first | omega | (refine Nat.le_trans (Nat.add_le_add_right (wput_len _ _ _) _) ?_; (try simp only [List.length_append]); omega)) d.name (by omega) (by first | omega | (refine Nat.le_trans (Nat.add_le_add_right (wput_len _ _ _) _) ?_; (try simp only [List.length_append]); omega)) _))) ?_
 rintro _ _ ⟨_, ⟨u2, q2, hq2, rfl, rfl⟩, rfl⟩
 refine AL_nil (AC_seq (AC_region ?_))
 refine ld 1 ?_
 refine fl 1 ?_
 refine ld 0 ?_
 refine s_ (S_call rfl (AEvs.cons (.tmp rfl) (AEvs.cons (.tmp rfl) AEvs.nil)) (ACalls.preQ (pre := [_, _]) (F := F) (w_TextN b u2 q2 _ c hq2 (by first | omega | (refine Nat.le_trans (Nat.add_le_add_right (wput_len _ _ _) _) ?_; (try simp only [List.length_append]); omega)) d.image (by omega) (by first | omega | (refine Nat.le_trans (Nat.add_le_add_right (wput_len _ _ _) _) ?_; (try simp only [List.length_append]); omega)) _))) ?_
 rintro _ _ ⟨_, ⟨u2, q2, hq2, rfl, rfl⟩, rfl⟩
 rw [wput_wput] at hq2 ⊢
 refine AL_nil (AC_seq (AC_region ?_))
 refine ld 1 ?_
 refine fl 2 ?_
 refine ldN 3 0 ?_
 refine s_ (S_call rfl (AEvs.cons (.tmp rfl) (AEvs.cons (.tmp rfl) AEvs.nil)) (ACalls.preQ (pre := [_, _]) (F := F) (putRes_ok b u2 q2 _ c hq2 (by first | omega | (refine Nat.le_trans (Nat.add_le_add_right (wput_len _ _ _) _) ?_; (try simp only [List.length_append]); omega)) d.req hd3 _))) ?_
 rintro _ _ ⟨_, ⟨u2, q2, hq2, rfl, rfl⟩, rfl⟩
 rw [wput_wput] at hq2 ⊢
 refine AL_nil (AC_seq (AC_region ?_))
 refine ld 1 ?_
 refine fl 5 ?_
 refine ldN 3 0 ?_
 refine s_ (S_call rfl (AEvs.cons (.tmp rfl) (AEvs.cons (.tmp rfl) AEvs.nil)) (ACalls.preQ (pre := [_, _]) (F := F) (putRes_ok b u2 q2 _ c hq2 (by first | omega | (refine Nat.le_trans (Nat.add_le_add_right (wput_len _ _ _) _) ?_; (try simp only [List.length_append]); omega)) d.lim hd4 _))) ?_
 rintro _ _ ⟨_, ⟨u2, q2, hq2, rfl, rfl⟩, rfl⟩
 rw [wput_wput] at hq2 ⊢
 refine AL_nil (AC_seq (AC_region ?_))
 refine ld 1 ?_
 refine fl 8 ?_
 refine ld 0 ?_
 refine p_ (S_makeFunc (caps := [_]) rfl (AEvs.cons (.tmp rfl) AEvs.nil)) ?_
 refine s_ (S_call rfl (AEvs.cons (.tmp rfl) (AEvs.cons (.tmp rfl) (AEvs.cons (.tmp rfl) AEvs.nil))) (ACalls.preQ (pre := [_, _]) (F := F) (putAllI_ok b u2 q2 _ c hq2 d.ports (by first | omega | (refine Nat.le_trans (Nat.add_le_add_right (wput_len _ _ _) _) ?_; (try simp only [List.length_append]); omega)) b2 (by omega) (fun x hx => ⟨(hd5.2 x hx).1, by have := (hd5.2 x hx).2; omega⟩) _ (List.mem_cons_of_mem _ List.mem_cons_self)))) ?_
 rintro _ _ ⟨_, ⟨u2, q2, hq2, rfl, rfl⟩, rfl⟩
 rw [wput_wput] at hq2 ⊢
 refine AL_nil (AC_seq (AC_region ?_))
 refine ld 1 ?_
 refine fl 9 ?_
 refine fl 0 ?_
 refine ld 0 ?_
 refine s_ (S_call rfl (AEvs.cons (.tmp rfl) (AEvs.cons (.tmp rfl) AEvs.nil)) (ACalls.preQ (pre := [_, _]) (F := F) (w_NumN b u2 q2 _ c hq2 (by first | omega | (refine Nat.le_trans (Nat.add_le_add_right (wput_len _ _ _) _) ?_; (try simp only [List.length_append]); omega)) d.probe.1 (by omega) (by omega) _))) ?_
 rintro _ _ ⟨_, ⟨u2, q2, hq2, rfl, rfl⟩, rfl⟩
 rw [wput_wput] at hq2 ⊢
 refine AL_nil ?_
 refine AC_region ?_
 refine ld 1 ?_
 refine fl 9 ?_
 refine fl 1 ?_
 refine ld 0 ?_
 refine s_ (S_call rfl (AEvs.cons (.tmp rfl) (AEvs.cons (.tmp rfl) AEvs.nil)) (ACalls.preQ (pre := [_, _]) (F := F) (w_NumN b u2 q2 _ c hq2 (by first | omega | (refine Nat.le_trans (Nat.add_le_add_right (wput_len _ _ _) _) ?_; (try simp only [List.length_append]); omega)) d.probe.2 (by omega) (by omega) _))) ?_
 rintro _ _ ⟨_, ⟨u2, q2, hq2, rfl, rfl⟩, rfl⟩
 rw [wput_wput] at hq2 ⊢
 rw [ctrB_assoc] at hq2 ⊢
 refine AL_nil ?_
 refine ret_none (((b, .cells [addrB u2 b 157 3, bufAV q2 (wput c l (ctrB d)), .int .i64 (c)]) :: bufSt q2 5 (wput c l (ctrB d))) ++ F) rfl (Sub.l ((List.sublist_cons_self _ _).trans (List.sublist_cons_self _ _))) ⟨_, ⟨u2, q2, hq2, rfl, rfl⟩, rfl⟩ (.inr rfl)
theorem putP1_ok (b : Nat) (u2 : Bool) (q2 : Buf) (l : List UInt8) (c : Int) (hq2 : q2.ok l)  (hl : l.length + 1000 ≤ 100000000000) (bw : Nat) (y : Ctr) (hy : CtrOk y) (F : St) (hw : (bw, Ob.cells [.ptr b 0]) ∈ F) : ACalls Tryz.prog 123 [ctrAV y, .ptr bw 0] (((b, .cells [addrB u2 b 157 3, bufAV q2 (l), .int .i64 (c)]) :: bufSt q2 5 (l)) ++ F) (fun x st' => ∃ foot', (∃ (u' : Bool) (q' : Buf), q'.ok (wput c l (ctrB y)) ∧ x = .tup [] ∧ foot' = (b, .cells [addrB u' b 157 3, bufAV q' (wput c l (ctrB y)), .int .i64 (c)]) :: bufSt q' 5 (wput c l (ctrB y))) ∧ st' = foot' ++ F) := by
 refine co 6 Tryz.func123 ?_
 refine AC_seq (AC_region ?_)
 refine s_ (S_box rfl (.tmp rfl)) ?_
 rintro _ _ ⟨b2, rfl, rfl⟩
 refine AL_nil ?_
 refine AC_region ?_
 refine p_ (S_loadM (cs := [.ptr b 0]) rfl (.tmp rfl) (by repeat (first | exact hw | exact List.mem_cons_self | refine List.mem_append_right _ ?_ | refine List.mem_cons_of_mem _ ?_)) rfl (by kernel_rfl)) ?_
 refine ldN 11 0 ?_
 refine s_ (S_call rfl (AEvs.cons (.tmp rfl) (AEvs.cons (.tmp rfl) AEvs.nil)) (ACalls.preQ (pre := [_]) (F := F) (putContainer_ok b u2 q2 _ c hq2 hl y hy _))) ?_
 rintro _ _ ⟨_, ⟨u2, q2, hq2, rfl, rfl⟩, rfl⟩
 refine AL_nil ?_
 refine ret_none (((b, .cells [addrB u2 b 157 3, bufAV q2 (wput c l (ctrB y)), .int .i64 (c)]) :: bufSt q2 5 (wput c l (ctrB y))) ++ F) rfl (Sub.l (List.sublist_cons_self _ _)) ⟨_, ⟨u2, q2, hq2, rfl, rfl⟩, rfl⟩ (.inr rfl)
theorem putAllC_ok (b : Nat) (u2 : Bool) (q2 : Buf) (l : List UInt8) (c : Int) (hq2 : q2.ok l) (xs : List Ctr) (hl : l.length + (10 + xs.length * 1000) ≤ 100000000000) (bw : Nat) (hxs : xs.length ≤ 1000) (hok : ∀ x ∈ xs, CtrOk x) (F : St) (hw : (bw, Ob.cells [.ptr b 0]) ∈ F) : ACalls Tryz.prog 122 [.ptr b 0, .sl (ctrsV xs), .fn 123 [.pointer (some ⟨bw, 0, none⟩)]] (((b, .cells [addrB u2 b 157 3, bufAV q2 (l), .int .i64 (c)]) :: bufSt q2 5 (l)) ++ F) (fun x st' => ∃ foot', (∃ (u' : Bool) (q' : Buf), q'.ok (wput c l (listB ctrB xs)) ∧ x = .tup [] ∧ foot' = (b, .cells [addrB u' b 157 3, bufAV q' (wput c l (listB ctrB xs)), .int .i64 (c)]) :: bufSt q' 5 (wput c l (listB ctrB xs))) ∧ st' = foot' ++ F) := by
 refine co 22 Tryz.func122 ?_
 have hen : ∀ x ∈ xs, (ctrB x).length ≤ 1000 := fun x hx => ctrB_len (hok x hx)
 have hp := putL_few xs.length (by omega)
 refine AC_seq (AC_region ?_)
 refine mv rfl rfl rfl rfl ?_
 refine mv rfl rfl rfl rfl ?_
 refine p_ (by first | exact S_lenM (e := 67) rfl (.tmp rfl) (by kernel_rfl) | exact S_len (e := 67) rfl (.tmp rfl) (by kernel_rfl)) ?_
 refine s_ (S_call rfl (AEvs.cons (.tmp rfl) (AEvs.cons (.tmp rfl) AEvs.nil)) (w_NumN b u2 q2 _ c hq2 (by first | omega | (refine Nat.le_trans (Nat.add_le_add_right (wput_len _ _ _) _) ?_; (try simp only [List.length_append]); omega)) (xs.length : Int) (by omega) (by omega) F)) ?_
 rintro _ _ ⟨_, ⟨u2, q2, hq2, rfl, rfl⟩, rfl⟩
 have e0 : wput c l (numB (xs.length : Int)) = wput c l (putL xs.length ++ (xs.take 0).flatMap ctrB) := by simp [numB]
 rw [e0] at hq2 ⊢
 refine AL_nil (AC_seq (AC_region ?_))
 refine mv rfl rfl rfl rfl ?_
 refine p_ (by first | exact S_lenM (e := 67) rfl (.tmp rfl) (by kernel_rfl) | exact S_len (e := 67) rfl (.tmp rfl) (by kernel_rfl)) ?_
 refine p_ (S_move rfl (AEv.const _)) ?_
 refine AL_nil ?_
 refine AC_block ?_
 refine AC_loopK (G := Nat × Bool × Buf) [(2, _), (12, _), (13, _)] (fun g => g.1 ≤ xs.length ∧ g.2.2.ok (wput c l (putL xs.length ++ (xs.take g.1).flatMap ctrB))) (fun g => [(14, .int .i64 (g.1 : Int))]) (fun g => ((b, .cells [addrB g.2.1 b 157 3, bufAV g.2.2 (wput c l (putL xs.length ++ (xs.take g.1).flatMap ctrB)), .int .i64 (c)]) :: bufSt g.2.2 5 (wput c l (putL xs.length ++ (xs.take g.1).flatMap ctrB))) ++ F) (fun g => xs.length - g.1) ((0, u2, q2)) (⟨Nat.zero_le _, hq2⟩) (Sub.l (List.Sublist.refl _)) (.cons rfl (Le.refl _) (.cons rfl (Le.refl _) (.cons rfl (Le.refl _) .nil))) (.cons rfl (by first | exact Le.refl _ | exact Le.nils | exact Le.row _ _ _ _ | exact Le.of_eq (by first | rfl | (simp; done) | (push_cast; rfl) | (simp; omega))) .nil) ?_
 rintro ⟨i, u2, q2⟩ ⟨hi, hq2⟩
 try dsimp only
 simp only [List.cons_append, List.nil_append]
 dsimp only at hi hq2
 have hfm := flatB_len (e := ctrB) (B := 1000) (l := xs.take i) fun x hx => hen x (List.mem_of_mem_take hx)
 rw [List.length_take, show min i xs.length = i by omega] at hfm
 refine AC_seq (AC_region ?_)
 refine p_ (S_lss rfl (.tmp rfl) (.tmp rfl)) ?_
 refine AL_nil ?_
 refine AC_seq ?_
 refine AC_cond (.tmp rfl) (fun hb1 => ?_) (fun hb1 => ?_)
 ·try simp only [zA,zO,zN,zM,zP,zQ,zD,zF,gd] at hb1
  have hil : i < xs.length := by omega
  have hxl := hen _ (List.getElem_mem hil)
  refine AC_skip ?_
  refine AC_seq ?_
  refine AC_block ?_
  refine AC_seq (AC_region ?_)
  refine p_ (S_elemN (e := 67) 11 rfl (.tmp rfl) (.tmp rfl) (by kernel_rfl) (by kernel_rfl) (by omega) (fun _ => rfl)) ?_
  refine p_ (S_loadPN (m := 11) rfl (.tmp rfl) (by kernel_rfl) (by first | exact Nat.le_of_ble_eq_true rfl | (simp; omega) | simp)) ?_
  refine s_ (S_alloc [.string ⟨#[]⟩, .string ⟨#[]⟩, .int .i64 0, .int .i64 0, .int .i64 0, .int .i64 0, .int .i64 0, .int .i64 0, .slice none 0 0, .int .i64 0, .int .i64 0] rfl (by kernel_rfl)) ?_
  rintro _ _ ⟨b7, rfl, rfl⟩
  refine stW 0 ?_
  refine AL_nil ?_
  refine AC_region ?_
  refine mv rfl rfl rfl rfl ?_
  refine ldN 11 0 ?_
  refine s_ (S_callF (caps := [.pointer (some ⟨bw, 0, none⟩)]) rfl (.tmp rfl) (AEvs.cons (y := ctrAV (xs[i]'hil)) (.tmp rfl) AEvs.nil) (ACalls.preQ (pre := [_]) (F := F) (putP1_ok b u2 q2 _ c hq2 (by first | omega | (refine Nat.le_trans (Nat.add_le_add_right (wput_len _ _ _) _) ?_; (try simp only [List.length_append]); omega)) bw (xs[i]'hil) (hok _ (List.getElem_mem hil)) _ (List.mem_cons_of_mem _ hw)))) ?_
  rintro _ _ ⟨_, ⟨u2, q2, hq2, rfl, rfl⟩, rfl⟩
  rw [wput_wput] at hq2 ⊢
  refine AL_nil ?_
  refine AC_region ?_
  refine p_ (S_addI rfl (.tmp rfl) (AEv.const _) (by omega) (by omega)) ?_
  refine mv rfl rfl rfl rfl ?_
  refine AL_nil ?_
  refine ⟨(i + 1, u2, q2), ⟨by dsimp only; omega, by dsimp only; rw [listB_next hil]; exact hq2⟩, by dsimp only; omega, by dsimp only; rw [listB_next hil]; exact (Sub.l (List.sublist_cons_self _ _)), (.cons rfl (by first | exact Le.refl _ | exact Le.nils | exact Le.row _ _ _ _ | exact Le.of_eq (by first | rfl | (simp; done) | (push_cast; rfl) | (simp; omega))) .nil), (.cons rfl (Le.refl _) (.cons rfl (Le.refl _) (.cons rfl (Le.refl _) .nil)))⟩
 try simp only [zA,zO,zN,zM,zP,zQ,zD,zF,gd] at hb1
 rw [List.take_of_length_le (show xs.length ≤ i by omega)] at hq2 ⊢
 refine AC_exit ?_
 refine ret_none (((b, .cells [addrB u2 b 157 3, bufAV q2 (wput c l (listB ctrB xs)), .int .i64 (c)]) :: bufSt q2 5 (wput c l (listB ctrB xs))) ++ F) rfl (Sub.l (List.Sublist.refl _)) ⟨_, ⟨u2, q2, hq2, rfl, rfl⟩, rfl⟩ (.inr rfl)
theorem PutLabels_ok (b : Nat) (u2 : Bool) (q2 : Buf) (l : List UInt8) (c : Int) (hq2 : q2.ok l) (xs : List Lab) (hl : l.length + (10 + xs.length * 1000) ≤ 100000000000) (hxs : xs.length ≤ 1000) (hok : ∀ x ∈ xs, x.1.length ≤ 400 ∧ x.2.length ≤ 400) (F : St) : ACalls Tryz.prog 92 [.ptr b 0, .sl (labsV xs)] (((b, .cells [addrB u2 b 157 3, bufAV q2 (l), .int .i64 (c)]) :: bufSt q2 5 (l)) ++ F) (fun x st' => ∃ foot', (∃ (u' : Bool) (q' : Buf), q'.ok (wput c l (listB labB xs)) ∧ x = .tup [] ∧ foot' = (b, .cells [addrB u' b 157 3, bufAV q' (wput c l (listB labB xs)), .int .i64 (c)]) :: bufSt q' 5 (wput c l (listB labB xs))) ∧ st' = foot' ++ F) := by
 refine co 8 Tryz.func92 ?_
 refine AC_seq (AC_region ?_)
 refine s_ (S_box1 rfl (.tmp rfl) rfl) ?_
 rintro _ _ ⟨b2, rfl, rfl⟩
 refine AL_nil ?_
 refine AC_region ?_
 refine ld 0 ?_
 refine mv rfl rfl rfl rfl ?_
 refine p_ (S_makeFunc (caps := [_]) rfl (AEvs.cons (.tmp rfl) AEvs.nil)) ?_
 refine s_ (S_call rfl (AEvs.cons (.tmp rfl) (AEvs.cons (.tmp rfl) (AEvs.cons (.tmp rfl) AEvs.nil))) (ACalls.preQ (pre := [_]) (F := F) (putAllL_ok b u2 q2 _ c hq2 xs hl b2 hxs hok _ List.mem_cons_self))) ?_
 rintro _ _ ⟨_, ⟨u2, q2, hq2, rfl, rfl⟩, rfl⟩
 refine AL_nil ?_
 refine ret_none (((b, .cells [addrB u2 b 157 3, bufAV q2 (wput c l (listB labB xs)), .int .i64 (c)]) :: bufSt q2 5 (wput c l (listB labB xs))) ++ F) rfl (Sub.l (List.sublist_cons_self _ _)) ⟨_, ⟨u2, q2, hq2, rfl, rfl⟩, rfl⟩ (.inr rfl)
theorem w_FailN (b : Nat) (u2 : Bool) (q2 : Buf) (l : List UInt8) (c : Int) (hq2 : q2.ok l) (d : Int) (F : St) : ACalls Tryz.prog 88 [.ptr b 2, .int .i64 d] (((b, .cells [addrB u2 b 157 3, bufAV q2 (l), .int .i64 (c)]) :: bufSt q2 5 (l)) ++ F) (fun x st' => ∃ foot', (∃ (u' : Bool) (q' : Buf), q'.ok (l) ∧ x = .tup [] ∧ foot' = (b, .cells [addrB u' b 157 3, bufAV q' (l), .int .i64 (failC c d)]) :: bufSt q' 5 (l)) ∧ st' = foot' ++ F) := (sticks_Fail_ok b 2 [_, _, .int .i64 c] c d rfl _).mono fun x st' ⟨h1, h2⟩ => ⟨_, ⟨u2, q2, hq2, h1, rfl⟩, h2⟩
theorem pack_Put_ok (b : Nat) (u2 : Bool) (q2 : Buf) (l : List UInt8) (c : Int) (hq2 : q2.ok l)  (hl : l.length + 20000 ≤ 100000000000) (s : Spc) (hs : lightS s = true) (F : St) (hG : ∀ r, r ∈ Gs tabs → r ∈ F) : ACalls Tryz.prog 90 [.ptr b 0, spcAV s] (((b, .cells [addrB u2 b 157 3, bufAV q2 (l), .int .i64 (c)]) :: bufSt q2 5 (l)) ++ F) (fun x st' => ∃ foot', (∃ (u' : Bool) (q' : Buf), q'.ok (if checkE s = none then wput c l (spcB s) else l) ∧ x = .tup [] ∧ foot' = (b, .cells [addrB u' b 157 3, bufAV q' ((if checkE s = none then wput c l (spcB s) else l)), .int .i64 ((if checkE s = none then c else failC c (erCode (checkE s))))]) :: bufSt q' 5 ((if checkE s = none then wput c l (spcB s) else l))) ∧ st' = foot' ++ F) := by
 refine co 50 Tryz.func90 ?_
 refine AC_seq (AC_region ?_)
 refine s_ (S_box1 rfl (.tmp rfl) rfl) ?_
 rintro _ _ ⟨b2, rfl, rfl⟩
 refine s_ (S_box rfl (.tmp rfl)) ?_
 rintro _ _ ⟨b3, rfl, rfl⟩
 refine AL_nil ?_
 refine AC_seq ?_
 refine AC_seq (AC_region ?_)
 refine ldN 7 0 ?_
 refine p_ (S_gcall rfl (AEvs.cons (.tmp rfl) AEvs.nil) ((spec_Check_ok s hs) _ (fun p hp => by first | exact hst p (List.mem_cons_of_mem _ hp) | exact (by repeat (first | exact hG p hp | refine List.mem_append_right _ ?_ | refine List.mem_cons_of_mem _ ?_))))) ?_
 refine as_ rfl rfl rfl rfl ?_
 refine AL_nil (AC_seq (AC_region ?_))
 refine mv rfl rfl rfl rfl ?_
 refine p_ (S_neqE (er_is 45 185 (checkE s)) rfl (.tmp rfl) (by kernel_rfl)) ?_
 refine AL_nil ?_
 refine AC_cond (.tmp rfl) (fun hb3 => ?_) (fun hb3 => ?_)
 ·try simp only [zA,zO,zN,zM,zP,zQ,zD,zF,gd] at hb3
  have hk : ¬ checkE s = none := fun h => by rw [h] at hb3; simp at hb3
  refine AC_seq ?_
  refine AC_plan (σ := [(0, 0), (1, 0), (2, 0), (3, 0), (4, 0), (5, 2)]) (by kernel_rfl) ((b2, Ob.cells [.ptr b 0]) :: Gs tabs) (by kernel_rfl) (fun r hr => by
   rcases List.mem_cons.1 hr with rfl | hr
   ·exact List.mem_cons_of_mem _ List.mem_cons_self
   ·exact (by repeat (first | exact hG r hr | refine List.mem_append_right _ ?_ | refine List.mem_cons_of_mem _ ?_))) ?_
  refine AG.f rfl rfl (fun st' hst => Q_p rfl (S_loadM rfl (.tmp rfl) (hst _ (List.mem_of_getElem? (i := 0) rfl)) rfl (by kernel_rfl))) ?_
  refine AG.f rfl rfl (fun st' hst => Q_p rfl (S_nilCheck rfl (.tmp rfl))) ?_
  refine AG.f rfl rfl (fun st' hst => Q_p rfl (S_field 2 rfl (.tmp rfl) (by kernel_rfl))) ?_
  refine AG.f rfl rfl (fun st' hst => Q_p rfl (S_move rfl (.tmp rfl))) ?_
  refine AG.f rfl rfl (fun st' hst => Q_p rfl (S_gcall rfl (AEvs.cons (.tmp rfl) AEvs.nil) ((fail_Code_ok (checkE s)) _ (fun p hp => by first | exact hst p (List.mem_cons_of_mem _ hp) | exact (by repeat (first | exact hG p hp | refine List.mem_append_right _ ?_ | refine List.mem_cons_of_mem _ ?_)))))) ?_
  refine AG.h rfl rfl rfl (S_call rfl (AEvs.cons (.tmp rfl) (AEvs.cons (.tmp rfl) AEvs.nil)) (ACalls.preQ (pre := [_, _]) (F := F) (w_FailN b u2 q2 _ c hq2 (erCode (checkE s)) _))) ?_
  rintro _ _ ⟨_, ⟨u2, q2, hq2, rfl, rfl⟩, rfl⟩
  refine AG.nil ?_
  refine AC_ret ?_
  refine ret_none (((b, .cells [addrB u2 b 157 3, bufAV q2 (l), .int .i64 (failC c (erCode (checkE s)))]) :: bufSt q2 5 (l)) ++ F) rfl (Sub.l ((List.sublist_cons_self _ _).trans (List.sublist_cons_self _ _))) ⟨_, ⟨u2, q2, by rw [if_neg hk]; exact hq2, rfl, by rw [if_neg hk, if_neg hk]⟩, rfl⟩ (.inl rfl)
 try simp only [zA,zO,zN,zM,zP,zQ,zD,zF,gd] at hb3
 have hk : checkE s = none := by simpa using hb3
 obtain ⟨hk1, hk2, hk3, hk4, hk5, hk6, hk7⟩ := check_ok hk
 have hk21 := hk2.1
 have hk31 := hk3.1
 have hk41 := hk4.1
 have n1 := textB_len (s := s.name) (by omega)
 have n2 := listB_len (e := labB) (l := s.labels) (B := 1000) (by omega) fun x hx => labB_len (by have := (hk2.2 x hx).1; omega) (by have := (hk2.2 x hx).2; omega)
 have hcs : ∀ x ∈ [s.init, s.main], x.length ≤ 4 ∧ ∀ y ∈ x, CtrOk y := two_all ⟨by omega, hk3.2⟩ ⟨by omega, hk4.2⟩
 have hcl : ∀ x ∈ [s.init, s.main], (listB ctrB x).length ≤ 4010 := fun x hx => by
  have h8 := hcs x hx
  have h9 := listB_len (e := ctrB) (l := x) (B := 1000) (by omega) fun y hy => ctrB_len (h8.2 y hy)
  omega
 have n5 := numB_len (n := s.restart) (by omega)
 have n6 := numB_len (n := s.grace) (by omega)
 have n7 := numB_len (n := s.prio) (by omega)
 refine AC_skip ?_
 refine AC_seq (AC_region ?_)
 refine ld 1 ?_
 refine fl 0 ?_
 refine ld 0 ?_
 refine s_ (S_call rfl (AEvs.cons (.tmp rfl) (AEvs.cons (.tmp rfl) AEvs.nil)) (ACalls.preQ (pre := [_, _]) (F := F) (w_TextN b u2 q2 _ c hq2 (by first | omega | (refine Nat.le_trans (Nat.add_le_add_right (wput_len _ _ _) _) ?_; (try simp only [List.length_append]); omega)) s.name (by omega) (by first | omega | (refine Nat.le_trans (Nat.add_le_add_right (wput_len _ _ _) _) ?_; (try simp only [List.length_append]); omega)) _))) ?_
 rintro _ _ ⟨_, ⟨u2, q2, hq2, rfl, rfl⟩, rfl⟩
 refine AL_nil (AC_seq (AC_region ?_))
 refine ld 1 ?_
 refine fl 1 ?_
 refine ld 0 ?_
 refine s_ (S_call rfl (AEvs.cons (.tmp rfl) (AEvs.cons (.tmp rfl) AEvs.nil)) (ACalls.preQ (pre := [_, _]) (F := F) (PutLabels_ok b u2 q2 _ c hq2 s.labels (by first | omega | (refine Nat.le_trans (Nat.add_le_add_right (wput_len _ _ _) _) ?_; (try simp only [List.length_append]); omega)) (by omega) (fun x hx => ⟨by have := (hk2.2 x hx).1; omega, by have := (hk2.2 x hx).2; omega⟩) _))) ?_
 rintro _ _ ⟨_, ⟨u2, q2, hq2, rfl, rfl⟩, rfl⟩
 rw [wput_wput] at hq2 ⊢
 refine AL_nil ?_
 refine AC_seq ?_
 refine AC_seq (AC_region ?_)
 refine fl 2 ?_
 refine ld 0 ?_
 refine fl 3 ?_
 refine ld 0 ?_
 refine p_ (S_build (t := 200) (pl := [(0, 1), (1, 1)]) (zs := [.slice none 0 0, .slice none 0 0]) rfl (AEvs.cons (.tmp rfl) (AEvs.cons (.tmp rfl) AEvs.nil)) (by kernel_rfl) rfl) ?_
 refine p_ (S_move rfl (AEv.const _)) ?_
 refine AL_nil ?_
 refine AC_block ?_
 refine AC_loopK (G := Nat × Bool × Buf) [(2, _), (3, _), (29, _)] (fun g => g.1 ≤ 2 ∧ g.2.2.ok (wput c l ((textB s.name ++ listB labB s.labels) ++ ([s.init, s.main].take g.1).flatMap (listB ctrB)))) (fun g => [(30, .int .i64 (g.1 : Int))]) (fun g => (b3, .cells (spcL s)) :: (b2, .cells [.ptr b 0]) :: (((b, .cells [addrB g.2.1 b 157 3, bufAV g.2.2 (wput c l ((textB s.name ++ listB labB s.labels) ++ ([s.init, s.main].take g.1).flatMap (listB ctrB))), .int .i64 (c)]) :: bufSt g.2.2 5 (wput c l ((textB s.name ++ listB labB s.labels) ++ ([s.init, s.main].take g.1).flatMap (listB ctrB)))) ++ F)) (fun g => 2 - g.1) ((0, u2, q2)) (⟨Nat.zero_le _, by simpa using hq2⟩) (by simp only [List.take_zero, List.flatMap_nil, List.append_nil]; exact (Sub.l (List.Sublist.refl _))) (.cons rfl (Le.refl _) (.cons rfl (Le.refl _) (.cons rfl (Le.refl _) .nil))) (.cons rfl (by first | exact Le.refl _ | exact Le.nils | exact Le.row _ _ _ _ | exact Le.of_eq (by first | rfl | (simp; done) | (push_cast; rfl) | (simp; omega))) .nil) ?_
 rintro ⟨i, u2, q2⟩ ⟨hi, hq2⟩
 try dsimp only
 simp only [List.cons_append, List.nil_append]
 dsimp only at hi hq2
 have hfm := flatB_len (e := listB ctrB) (B := 4010) (l := [s.init, s.main].take i) fun x hx => hcl x (List.mem_of_mem_take hx)
 rw [List.length_take, show min i [s.init, s.main].length = i from Nat.min_eq_left hi] at hfm
 refine AC_seq (AC_region ?_)
 refine p_ (S_lss rfl (.tmp rfl) (AEv.const _)) ?_
 refine AL_nil ?_
 refine AC_seq ?_
 refine AC_cond (.tmp rfl) (fun hb4 => ?_) (fun hb4 => ?_)
 ·try simp only [zA,zO,zN,zM,zP,zQ,zD,zF,gd] at hb4
  have hil : i < [s.init, s.main].length := by show i < 2; omega
  have hci := hcs _ (List.getElem_mem hil)
  have hcj := hcl _ (List.getElem_mem hil)
  refine AC_skip ?_
  refine AC_seq ?_
  refine AC_block ?_
  refine AC_seq (AC_region ?_)
  refine p_ ((S_idxOne (e := 29) (len := 2) (c := .sl (ctrsV ([s.init, s.main][i]'hil))) rfl (.tmp rfl) (.tmp rfl) (by kernel_rfl) (by kernel_rfl) (by kernel_rfl) (by omega) (by omega) (by rcases (show i = 0 ∨ i = 1 by omega) with rfl | rfl <;> rfl))) ?_
  refine as_ rfl rfl rfl rfl ?_
  refine AL_nil ?_
  refine AC_region ?_
  refine ld 1 ?_
  refine mv rfl rfl rfl rfl ?_
  refine p_ (S_makeFunc (caps := [_]) rfl (AEvs.cons (.tmp rfl) AEvs.nil)) ?_
  refine s_ (S_call rfl (AEvs.cons (.tmp rfl) (AEvs.cons (.tmp rfl) (AEvs.cons (.tmp rfl) AEvs.nil))) (ACalls.preQ (pre := [_, _]) (F := F) (putAllC_ok b u2 q2 _ c hq2 ([s.init, s.main][i]'hil) (by first | omega | (refine Nat.le_trans (Nat.add_le_add_right (wput_len _ _ _) _) ?_; (try simp only [List.length_append]); omega)) b2 (by omega) hci.2 _ (List.mem_cons_of_mem _ List.mem_cons_self)))) ?_
  rintro _ _ ⟨_, ⟨u2, q2, hq2, rfl, rfl⟩, rfl⟩
  rw [wput_wput] at hq2 ⊢
  refine AL_nil ?_
  refine AC_region ?_
  refine p_ (S_addI rfl (.tmp rfl) (AEv.const _) (by omega) (by omega)) ?_
  refine mv rfl rfl rfl rfl ?_
  refine AL_nil ?_
  refine ⟨(i + 1, u2, q2), ⟨by dsimp only; omega, by dsimp only; rw [flatB_next hil]; exact hq2⟩, by dsimp only; omega, by dsimp only; rw [flatB_next hil]; exact (Sub.l (List.Sublist.refl _)), (.cons rfl (by first | exact Le.refl _ | exact Le.nils | exact Le.row _ _ _ _ | exact Le.of_eq (by first | rfl | (simp; done) | (push_cast; rfl) | (simp; omega))) .nil), (.cons rfl (Le.refl _) (.cons rfl (Le.refl _) (.cons rfl (Le.refl _) .nil)))⟩
 try simp only [zA,zO,zN,zM,zP,zQ,zD,zF,gd] at hb4
 have hi2 : i = 2 := by omega
 subst hi2
 rw [show [s.init, s.main].take 2 = [s.init, s.main] from rfl] at hq2 hfm ⊢
 refine AC_exit ?_
 refine AC_seq (AC_region ?_)
 refine ld 1 ?_
 refine fl 4 ?_
 refine ld 0 ?_
 refine s_ (S_call rfl (AEvs.cons (.tmp rfl) (AEvs.cons (.tmp rfl) AEvs.nil)) (ACalls.preQ (pre := [_, _]) (F := F) (w_NumN b u2 q2 _ c hq2 (by first | omega | (refine Nat.le_trans (Nat.add_le_add_right (wput_len _ _ _) _) ?_; (try simp only [List.length_append]); omega)) s.restart (by omega) (by omega) _))) ?_
 rintro _ _ ⟨_, ⟨u2, q2, hq2, rfl, rfl⟩, rfl⟩
 rw [wput_wput] at hq2 ⊢
 refine AL_nil (AC_seq (AC_region ?_))
 refine ld 1 ?_
 refine fl 5 ?_
 refine ld 0 ?_
 refine s_ (S_call rfl (AEvs.cons (.tmp rfl) (AEvs.cons (.tmp rfl) AEvs.nil)) (ACalls.preQ (pre := [_, _]) (F := F) (w_NumN b u2 q2 _ c hq2 (by first | omega | (refine Nat.le_trans (Nat.add_le_add_right (wput_len _ _ _) _) ?_; (try simp only [List.length_append]); omega)) s.grace (by omega) (by omega) _))) ?_
 rintro _ _ ⟨_, ⟨u2, q2, hq2, rfl, rfl⟩, rfl⟩
 rw [wput_wput] at hq2 ⊢
 refine AL_nil ?_
 refine AC_region ?_
 refine ld 1 ?_
 refine fl 6 ?_
 refine ld 0 ?_
 refine s_ (S_call rfl (AEvs.cons (.tmp rfl) (AEvs.cons (.tmp rfl) AEvs.nil)) (ACalls.preQ (pre := [_, _]) (F := F) (w_NumN b u2 q2 _ c hq2 (by first | omega | (refine Nat.le_trans (Nat.add_le_add_right (wput_len _ _ _) _) ?_; (try simp only [List.length_append]); omega)) s.prio (by omega) (by omega) _))) ?_
 rintro _ _ ⟨_, ⟨u2, q2, hq2, rfl, rfl⟩, rfl⟩
 rw [wput_wput] at hq2 ⊢
 rw [spcB_assoc] at hq2 ⊢
 refine AL_nil ?_
 refine ret_none (((b, .cells [addrB u2 b 157 3, bufAV q2 (wput c l (spcB s)), .int .i64 (c)]) :: bufSt q2 5 (wput c l (spcB s))) ++ F) rfl (Sub.l ((List.sublist_cons_self _ _).trans (List.sublist_cons_self _ _))) ⟨_, ⟨u2, q2, by rw [if_pos hk]; exact hq2, rfl, by rw [if_pos hk, if_pos hk]⟩, rfl⟩ (.inr rfl)
end Go.Proofs.YtfpkefhjomeeeaaGreatDoor

namespace Go.Proofs.YtfpkefhjomeeeaaGreatDoor
open Go.AL Go.NumSpec

end Go.Proofs.YtfpkefhjomeeeaaGreatDoor

namespace Go.Proofs.YtfpkefhjomeeeaaGreatDoor
open Go.AL Go.NumSpec

end Go.Proofs.YtfpkefhjomeeeaaGreatDoor

set_option maxRecDepth 100000
namespace Go.Proofs.YtfpkefhjomeeeaaGreatDoor
open Go.AL Go.NumSpec
theorem ask_of_ok (v : Int) : GCalls Tryz.prog tabs 66 [.int .i64 v] (.tup [.agg [.S (kindA v.toNat).1, .S (kindA v.toNat).2], .bool (decide (1 ≤ v ∧ v < 13))]) := by
 intro st hG
 refine co 14 Tryz.func66 ?_
 refine AC_seq (AC_region ?_)
 refine s_ (S_alloc [.string ⟨#[]⟩, .string ⟨#[]⟩] rfl (by kernel_rfl)) ?_
 rintro _ _ ⟨b2, rfl, rfl⟩
 refine ac rfl rfl rfl ?_
 refine AL_nil ?_
 refine AC_seq ?_
 refine AC_seq (AC_region ?_)
 refine mv rfl rfl rfl rfl ?_
 refine p_ (S_lss rfl (.tmp rfl) (AEv.const _)) ?_
 refine mv rfl rfl rfl rfl ?_
 refine g_ (fun _ => mA) ?_
 refine g_ (fun _ => S_geq rfl (AEv.cd (.tmp rfl)) (AEv.const _)) ?_
 refine p_ (S_or rfl (.tmp rfl) (fun hp8 => (AEv.cd (.tmp rfl)))) ?_
 refine AL_nil ?_
 refine AC_cond (.tmp rfl) (fun hb9 => ?_) (fun hb9 => ?_)
 ·try simp only [zA,zO,zN,zM,zP,zQ,zD,zF,gd] at hb9
  have hx := kind_out (v := v) (by omega)
  refine AC_seq (AC_region ?_)
  refine p_ (S_build (t := 107) (pl := [(0, 1), (1, 1)]) (zs := [.string ⟨#[]⟩, .string ⟨#[]⟩]) rfl AEvs.nil (by kernel_rfl) rfl) ?_
  refine stW 0 ?_
  refine ac rfl rfl rfl ?_
  refine AL_nil (AC_ret ?_)
  refine ret_outs st rfl (by decide) (OutsR.row 0 rfl rfl (by kernel_rfl) (OutsR.tmp rfl OutsR.nil)) (Sub.l (List.sublist_cons_self _ _)) (Conv.refl (Sub.l (List.sublist_cons_self _ _)) _) ⟨by rw [hx, decide_eq_false (show ¬ (1 ≤ v ∧ v < 13) by omega)] <;> rfl, rfl⟩ (.inl rfl)
 try simp only [zA,zO,zN,zM,zP,zQ,zD,zF,gd] at hb9
 refine AC_skip ?_
 refine AC_seq (AC_region ?_)
 refine mv rfl rfl rfl rfl ?_
 refine p_ (S_elemA (e := 107) (len := 13) (i := v) 2 rfl (AEv.global _) (.tmp rfl) (by kernel_rfl) (by kernel_rfl) (by omega) (by omega)) ?_
 refine p_ ((S_loadKs (vs := kindsV) (m := 2) rfl (.tmp rfl) (List.mem_cons_of_mem _ (hG _ tab_kinds)) (by kernel_rfl) (by rw [show kindsV.length = 26 from rfl]; omega)).ofV (V' := .agg [.S (kindA v.toNat).1, .S (kindA v.toNat).2]) (congrArg AV.agg (kind_row (by omega) (by omega)))) ?_
 refine stW 0 ?_
 refine ac rfl rfl rfl ?_
 refine AL_nil (AC_ret ?_)
 refine ret_outs st rfl (by decide) (OutsR.row 0 rfl rfl (by kernel_rfl) (OutsR.tmp rfl OutsR.nil)) (Sub.l (List.sublist_cons_self _ _)) (Conv.refl (Sub.l (List.sublist_cons_self _ _)) _) ⟨by rw [decide_eq_true (show 1 ≤ v ∧ v < 13 by omega)] <;> rfl, rfl⟩ (.inl rfl)
theorem ask_within_ok (name : List UInt8) (n lo hi : Int) : PCalls Tryz.prog 115 [.S name, .int .i64 n, .int .i64 lo, .int .i64 hi] (erV 45 185 (withinE name n lo hi)) := by
 intro st
 refine co 20 Tryz.func115 ?_
 refine AC_seq (AC_region ?_)
 refine ac rfl rfl rfl ?_
 refine AL_nil ?_
 refine AC_seq ?_
 refine AC_seq (AC_region ?_)
 refine mv rfl rfl rfl rfl ?_
 refine mv rfl rfl rfl rfl ?_
 refine p_ (S_lss rfl (.tmp rfl) (.tmp rfl)) ?_
 refine mv rfl rfl rfl rfl ?_
 refine g_ (fun _ => mA) ?_
 refine g_ (fun _ => mA) ?_
 refine g_ (fun _ => S_gtr rfl (AEv.cd (.tmp rfl)) (AEv.cd (.tmp rfl))) ?_
 refine p_ (S_or rfl (.tmp rfl) (fun hp10 => (AEv.cd (.tmp rfl)))) ?_
 refine AL_nil ?_
 refine AC_cond (.tmp rfl) (fun hb11 => ?_) (fun hb11 => ?_)
 ·try simp only [zA,zO,zN,zM,zP,zQ,zD,zF,gd] at hb11
  refine AC_seq (AC_region ?_)
  refine mv rfl rfl rfl rfl ?_
  refine p_ (S_buildSlice (e := 9) 1 rfl (AEvs.cons (.tmp rfl) AEvs.nil) rfl (by kernel_rfl) (by kernel_rfl) (by simp [AV.flat, AV.one, AV.cells, Value.oneCell']) (by decide) (by decide) (by decide)) ?_
  refine p_ (S_pcall rfl (AEvs.cons (AEv.const _) (AEvs.cons (.tmp rfl) AEvs.nil)) (fail_New_ok 1 [name] (by simp))) ?_
  refine as_ rfl rfl rfl rfl ?_
  refine AL_nil (AC_ret ?_)
  refine ret_tmp st rfl rfl (Sub.l (List.Sublist.refl _)) (Conv.refl (Sub.l (List.Sublist.refl _)) _) ⟨by rw [withinE, if_pos (by omega)]; rfl, rfl⟩ (.inl rfl)
 try simp only [zA,zO,zN,zM,zP,zQ,zD,zF,gd] at hb11
 refine AC_skip ?_
 refine AC_seq (AC_region ?_)
 refine ac rfl rfl rfl ?_
 refine AL_nil (AC_ret ?_)
 refine ret_tmp st rfl rfl (Sub.l (List.Sublist.refl _)) (Conv.refl (Sub.l (List.Sublist.refl _)) _) ⟨by rw [withinE, if_neg (by omega)]; rfl, rfl⟩ (.inl rfl)
theorem ask_field_ok (x : Cal) (f : UInt8) (hx0 : ShortA x) : GCalls Tryz.prog tabs 86 [calAV x, .int .u8 (f.toNat : Int)] (erV 45 185 (fieldE x f)) := by
 intro st hG
 refine co 50 Tryz.func86 ?_
 refine AC_seq (AC_region ?_)
 refine s_ (S_box rfl (.tmp rfl)) ?_
 rintro _ _ ⟨b2, rfl, rfl⟩
 refine ac rfl rfl rfl ?_
 refine AL_nil ?_
 refine AC_seq ?_
 refine AC_seq (AC_region ?_)
 refine mv rfl rfl rfl rfl ?_
 refine AL_nil ?_
 refine AC_block ?_
 refine AC_seq (AC_region ?_)
 refine p_ (S_eql rfl (.tmp rfl) (AEv.const _)) ?_
 refine as_ rfl rfl rfl rfl ?_
 refine AL_nil ?_
 refine AC_cond (.tmp rfl) (fun hb2 => ?_) (fun hb2 => ?_)
 ·try simp only [zA,zO,zN,zM,zP,zQ,zD,zF,gd] at hb2
  obtain rfl : f = 117 := u8_eq hb2
  refine AC_seq (AC_region ?_)
  refine fl 1 ?_
  refine ld 0 ?_
  refine p_ (S_pcall rfl (AEvs.cons (AEv.S _) (AEvs.cons (.tmp rfl) (AEvs.cons (AEv.const _) (AEvs.cons (AEv.const _) AEvs.nil)))) (ask_within_ok [117, 105, 100] x.uid 1 1073741824)) ?_
  refine as_ rfl rfl rfl rfl ?_
  refine AL_nil (AC_ret ?_)
  refine ret_tmp st rfl rfl (Sub.l (List.sublist_cons_self _ _)) (Conv.refl (Sub.l (List.sublist_cons_self _ _)) _) ⟨rfl, rfl⟩ (.inl rfl)
 try simp only [zA,zO,zN,zM,zP,zQ,zD,zF,gd] at hb2
 have hf117 : ¬ f = 117 := fun h => hb2 (by rw [h]; rfl)
 refine AC_seq (AC_region ?_)
 refine p_ (S_eql rfl (.tmp rfl) (AEv.const _)) ?_
 refine as_ rfl rfl rfl rfl ?_
 refine AL_nil ?_
 refine AC_cond (.tmp rfl) (fun hb3 => ?_) (fun hb3 => ?_)
 ·try simp only [zA,zO,zN,zM,zP,zQ,zD,zF,gd] at hb3
  obtain rfl : f = 115 := u8_eq hb3
  refine AC_seq (AC_region ?_)
  refine fl 3 ?_
  refine ldN 7 0 ?_
  refine p_ (S_gcall rfl (AEvs.cons (.tmp rfl) AEvs.nil) ((spec_Check_ok x.spec hx0.1) _ (fun p hp => by repeat (first | exact hG p hp | refine List.mem_cons_of_mem _ ?_ | refine List.mem_append_right _ ?_)))) ?_
  refine p_ (S_pcall rfl (AEvs.cons (.tmp rfl) (AEvs.cons (AEv.S _) AEvs.nil)) (fail_In_ok (checkE x.spec) [115, 112, 101, 99])) ?_
  refine as_ rfl rfl rfl rfl ?_
  refine AL_nil (AC_ret ?_)
  refine ret_tmp st rfl rfl (Sub.l (List.sublist_cons_self _ _)) (Conv.refl (Sub.l (List.sublist_cons_self _ _)) _) ⟨rfl, rfl⟩ (.inl rfl)
 try simp only [zA,zO,zN,zM,zP,zQ,zD,zF,gd] at hb3
 have hf115 : ¬ f = 115 := fun h => hb3 (by rw [h]; rfl)
 refine AC_seq (AC_region ?_)
 refine p_ (S_eql rfl (.tmp rfl) (AEv.const _)) ?_
 refine as_ rfl rfl rfl rfl ?_
 refine AL_nil ?_
 refine AC_cond (.tmp rfl) (fun hb4 => ?_) (fun hb4 => ?_)
 ·try simp only [zA,zO,zN,zM,zP,zQ,zD,zF,gd] at hb4
  obtain rfl : f = 103 := u8_eq hb4
  refine AC_seq (AC_region ?_)
  refine fl 10 ?_
  refine ld 0 ?_
  refine p_ (S_pcall rfl (AEvs.cons (AEv.S _) (AEvs.cons (.tmp rfl) (AEvs.cons (AEv.const _) (AEvs.cons (AEv.const _) AEvs.nil)))) (ask_within_ok [103, 114, 97, 99, 101] x.grace 0 1000)) ?_
  refine as_ rfl rfl rfl rfl ?_
  refine AL_nil (AC_ret ?_)
  refine ret_tmp st rfl rfl (Sub.l (List.sublist_cons_self _ _)) (Conv.refl (Sub.l (List.sublist_cons_self _ _)) _) ⟨rfl, rfl⟩ (.inl rfl)
 try simp only [zA,zO,zN,zM,zP,zQ,zD,zF,gd] at hb4
 have hf103 : ¬ f = 103 := fun h => hb4 (by rw [h]; rfl)
 refine AC_seq (AC_region ?_)
 refine p_ (S_eql rfl (.tmp rfl) (AEv.const _)) ?_
 refine as_ rfl rfl rfl rfl ?_
 refine AL_nil ?_
 refine AC_cond (.tmp rfl) (fun hb5 => ?_) (fun hb5 => ?_)
 ·try simp only [zA,zO,zN,zM,zP,zQ,zD,zF,gd] at hb5
  obtain rfl : f = 99 := u8_eq hb5
  refine AC_seq (AC_region ?_)
  refine fl 11 ?_
  refine ld 0 ?_
  refine p_ (S_pcall rfl (AEvs.cons (AEv.S _) (AEvs.cons (.tmp rfl) (AEvs.cons (AEv.const _) (AEvs.cons (AEv.const _) AEvs.nil)))) (ask_within_ok [99, 116, 114] x.ctr 0 3)) ?_
  refine as_ rfl rfl rfl rfl ?_
  refine AL_nil (AC_ret ?_)
  refine ret_tmp st rfl rfl (Sub.l (List.sublist_cons_self _ _)) (Conv.refl (Sub.l (List.sublist_cons_self _ _)) _) ⟨rfl, rfl⟩ (.inl rfl)
 try simp only [zA,zO,zN,zM,zP,zQ,zD,zF,gd] at hb5
 have hf99 : ¬ f = 99 := fun h => hb5 (by rw [h]; rfl)
 refine AC_seq (AC_region ?_)
 refine p_ (S_eql rfl (.tmp rfl) (AEv.const _)) ?_
 refine as_ rfl rfl rfl rfl ?_
 refine AL_nil ?_
 refine AC_cond (.tmp rfl) (fun hb6 => ?_) (fun hb6 => ?_)
 ·try simp only [zA,zO,zN,zM,zP,zQ,zD,zF,gd] at hb6
  obtain rfl : f = 105 := u8_eq hb6
  refine AC_seq (AC_region ?_)
  refine fl 12 ?_
  refine ld 0 ?_
  refine p_ (S_pcall rfl (AEvs.cons (AEv.S _) (AEvs.cons (.tmp rfl) (AEvs.cons (AEv.const _) (AEvs.cons (AEv.const _) AEvs.nil)))) (ask_within_ok [105, 100] x.id 1 1073741824)) ?_
  refine as_ rfl rfl rfl rfl ?_
  refine AL_nil (AC_ret ?_)
  refine ret_tmp st rfl rfl (Sub.l (List.sublist_cons_self _ _)) (Conv.refl (Sub.l (List.sublist_cons_self _ _)) _) ⟨rfl, rfl⟩ (.inl rfl)
 try simp only [zA,zO,zN,zM,zP,zQ,zD,zF,gd] at hb6
 have hf105 : ¬ f = 105 := fun h => hb6 (by rw [h]; rfl)
 refine AC_seq (AC_region ?_)
 refine p_ (S_eql rfl (.tmp rfl) (AEv.const _)) ?_
 refine as_ rfl rfl rfl rfl ?_
 refine AL_nil ?_
 refine AC_cond (.tmp rfl) (fun hb7 => ?_) (fun hb7 => ?_)
 ·try simp only [zA,zO,zN,zM,zP,zQ,zD,zF,gd] at hb7
  obtain rfl : f = 109 := u8_eq hb7
  refine AC_seq (AC_region ?_)
  refine fl 13 ?_
  refine ld 0 ?_
  refine p_ (S_pcall rfl (AEvs.cons (AEv.S _) (AEvs.cons (.tmp rfl) (AEvs.cons (AEv.const _) (AEvs.cons (AEv.const _) AEvs.nil)))) (ask_within_ok [109, 111, 115, 116] x.most 1 32)) ?_
  refine as_ rfl rfl rfl rfl ?_
  refine AL_nil (AC_ret ?_)
  refine ret_tmp st rfl rfl (Sub.l (List.sublist_cons_self _ _)) (Conv.refl (Sub.l (List.sublist_cons_self _ _)) _) ⟨rfl, rfl⟩ (.inl rfl)
 try simp only [zA,zO,zN,zM,zP,zQ,zD,zF,gd] at hb7
 have hf109 : ¬ f = 109 := fun h => hb7 (by rw [h]; rfl)
 refine AC_seq (AC_region ?_)
 refine p_ (S_eql rfl (.tmp rfl) (AEv.const _)) ?_
 refine as_ rfl rfl rfl rfl ?_
 refine AL_nil ?_
 refine AC_cond (.tmp rfl) (fun hb8 => ?_) (fun hb8 => ?_)
 ·try simp only [zA,zO,zN,zM,zP,zQ,zD,zF,gd] at hb8
  obtain rfl : f = 108 := u8_eq hb8
  refine AC_seq (AC_region ?_)
  refine fl 15 ?_
  refine ld 0 ?_
  refine p_ (S_gcall rfl (AEvs.cons (AEv.S _) (AEvs.cons (.tmp rfl) AEvs.nil)) ((spec_Labels_ok [115, 101, 108] (by decide) x.sel hx0.2.1 hx0.2.2) _ (fun p hp => by repeat (first | exact hG p hp | refine List.mem_cons_of_mem _ ?_ | refine List.mem_append_right _ ?_)))) ?_
  refine as_ rfl rfl rfl rfl ?_
  refine AL_nil (AC_ret ?_)
  refine ret_tmp st rfl rfl (Sub.l (List.sublist_cons_self _ _)) (Conv.refl (Sub.l (List.sublist_cons_self _ _)) _) ⟨rfl, rfl⟩ (.inl rfl)
 try simp only [zA,zO,zN,zM,zP,zQ,zD,zF,gd] at hb8
 have hf108 : ¬ f = 108 := fun h => hb8 (by rw [h]; rfl)
 refine AC_seq (AC_region ?_)
 refine p_ (S_eql rfl (.tmp rfl) (AEv.const _)) ?_
 refine as_ rfl rfl rfl rfl ?_
 refine AL_nil ?_
 refine AC_cond (.tmp rfl) (fun hb9 => ?_) (fun hb9 => ?_)
 ·try simp only [zA,zO,zN,zM,zP,zQ,zD,zF,gd] at hb9
  obtain rfl : f = 100 := u8_eq hb9
  refine AC_seq (AC_region ?_)
  refine fl 14 ?_
  refine ld 0 ?_
  refine p_ (S_lenS (ts := #[]) rfl (.tmp rfl) (by kernel_rfl)) ?_
  refine p_ (S_gtr rfl (.tmp rfl) (AEv.const _)) ?_
  refine AL_nil ?_
  refine AC_cond (.tmp rfl) (fun hb10 => ?_) (fun hb10 => ?_)
  ·try simp only [zA,zO,zN,zM,zP,zQ,zD,zF,gd] at hb10
   have hx : fieldE x 100 = some (2, [[100, 97, 116, 97]]) := by rw [field_data, if_pos (by omega)]
   refine AC_seq (AC_region ?_)
   refine p_ (S_buildSlice (e := 9) 1 rfl (AEvs.cons (AEv.S _) AEvs.nil) rfl (by kernel_rfl) (by kernel_rfl) (by intro y hy; simp only [List.mem_cons, List.not_mem_nil, or_false] at hy; rcases hy with rfl <;> exact ⟨rfl, rfl⟩) (by decide) (by decide) (by decide)) ?_
   refine p_ (S_pcall rfl (AEvs.cons (AEv.const _) (AEvs.cons (.tmp rfl) AEvs.nil)) (fail_New_ok 2 [[100, 97, 116, 97]] (by simp))) ?_
   refine as_ rfl rfl rfl rfl ?_
   refine AL_nil (AC_ret ?_)
   refine ret_tmp st rfl rfl (Sub.l (List.sublist_cons_self _ _)) (Conv.refl (Sub.l (List.sublist_cons_self _ _)) _) ⟨by rw [hx] <;> rfl, rfl⟩ (.inl rfl)
  try simp only [zA,zO,zN,zM,zP,zQ,zD,zF,gd] at hb10
  have hx : fieldE x 100 = none := by rw [field_data, if_neg (by omega)]
  refine AC_skip ?_
  refine AC_seq (AC_region ?_)
  refine ac rfl rfl rfl ?_
  refine AL_nil (AC_ret ?_)
  refine ret_tmp st rfl rfl (Sub.l (List.sublist_cons_self _ _)) (Conv.refl (Sub.l (List.sublist_cons_self _ _)) _) ⟨by rw [hx] <;> rfl, rfl⟩ (.inl rfl)
 try simp only [zA,zO,zN,zM,zP,zQ,zD,zF,gd] at hb9
 have hf100 : ¬ f = 100 := fun h => hb9 (by rw [h]; rfl)
 have hx : fieldE x f = none := by unfold fieldE; simp only [hf117, hf115, hf103, hf99, hf105, hf109, hf108, hf100, if_false]
 refine AC_skip ?_
 refine AC_seq (AC_region ?_)
 refine ac rfl rfl rfl ?_
 refine AL_nil (AC_ret ?_)
 refine ret_tmp st rfl rfl (Sub.l (List.sublist_cons_self _ _)) (Conv.refl (Sub.l (List.sublist_cons_self _ _)) _) ⟨by rw [hx] <;> rfl, rfl⟩ (.inl rfl)
theorem copies_ok (bt : Nat) (o x : Cal) (f : UInt8) (F : St) : ACalls Tryz.prog 118 [.ptr bt 0, calAV x, .int .u8 (f.toNat : Int)] ([(bt, Ob.cells (calL o))] ++ F) (fun v st' => ∃ foot', (v = .tup [] ∧ foot' = [(bt, Ob.cells (calL (copyA f o x)))]) ∧ st' = foot' ++ F) := by
 refine co 70 Tryz.func118 ?_
 refine AC_seq (AC_region ?_)
 refine s_ (S_box rfl (.tmp rfl)) ?_
 rintro _ _ ⟨b4, rfl, rfl⟩
 refine AL_nil (AC_seq (AC_region ?_))
 refine mv rfl rfl rfl rfl ?_
 refine AL_nil ?_
 refine AC_block ?_
 refine AC_seq (AC_region ?_)
 refine p_ (S_eql rfl (.tmp rfl) (AEv.const _)) ?_
 refine as_ rfl rfl rfl rfl ?_
 refine AL_nil ?_
 refine AC_cond (.tmp rfl) (fun hb2 => ?_) (fun hb2 => ?_)
 ·try simp only [zA,zO,zN,zM,zP,zQ,zD,zF,gd] at hb2
  obtain rfl : f = 117 := u8_eq hb2
  refine AC_region ?_
  refine mv rfl rfl rfl rfl ?_
  refine fl 1 ?_
  refine ld 0 ?_
  refine p_ (S_nilCheck rfl (.tmp rfl)) ?_
  refine fl 1 ?_
  refine st1 1 ?_
  refine AL_nil ?_
  refine ret_none ([(bt, Ob.cells (calL (copyA 117 o x)))] ++ F) rfl (Sub.l (List.sublist_cons_self _ _)) ⟨_, ⟨rfl, rfl⟩, rfl⟩ (.inr rfl)
 try simp only [zA,zO,zN,zM,zP,zQ,zD,zF,gd] at hb2
 have hf117 : ¬ f = 117 := fun h => hb2 (by rw [h]; rfl)
 refine AC_seq (AC_region ?_)
 refine p_ (S_eql rfl (.tmp rfl) (AEv.const _)) ?_
 refine as_ rfl rfl rfl rfl ?_
 refine AL_nil ?_
 refine AC_cond (.tmp rfl) (fun hb3 => ?_) (fun hb3 => ?_)
 ·try simp only [zA,zO,zN,zM,zP,zQ,zD,zF,gd] at hb3
  obtain rfl : f = 114 := u8_eq hb3
  refine AC_region ?_
  refine mv rfl rfl rfl rfl ?_
  refine fl 2 ?_
  refine ld 0 ?_
  refine p_ (S_nilCheck rfl (.tmp rfl)) ?_
  refine fl 2 ?_
  refine st1 1 ?_
  refine AL_nil ?_
  refine ret_none ([(bt, Ob.cells (calL (copyA 114 o x)))] ++ F) rfl (Sub.l (List.sublist_cons_self _ _)) ⟨_, ⟨rfl, rfl⟩, rfl⟩ (.inr rfl)
 try simp only [zA,zO,zN,zM,zP,zQ,zD,zF,gd] at hb3
 have hf114 : ¬ f = 114 := fun h => hb3 (by rw [h]; rfl)
 refine AC_seq (AC_region ?_)
 refine p_ (S_eql rfl (.tmp rfl) (AEv.const _)) ?_
 refine as_ rfl rfl rfl rfl ?_
 refine AL_nil ?_
 refine AC_cond (.tmp rfl) (fun hb4 => ?_) (fun hb4 => ?_)
 ·try simp only [zA,zO,zN,zM,zP,zQ,zD,zF,gd] at hb4
  obtain rfl : f = 115 := u8_eq hb4
  refine AC_region ?_
  refine mv rfl rfl rfl rfl ?_
  refine fl 3 ?_
  refine ldN 7 0 ?_
  refine p_ (S_nilCheck rfl (.tmp rfl)) ?_
  refine fl 3 ?_
  refine stN 1 ?_
  refine AL_nil ?_
  refine ret_none ([(bt, Ob.cells (calL (copyA 115 o x)))] ++ F) rfl (Sub.l (List.sublist_cons_self _ _)) ⟨_, ⟨rfl, rfl⟩, rfl⟩ (.inr rfl)
 try simp only [zA,zO,zN,zM,zP,zQ,zD,zF,gd] at hb4
 have hf115 : ¬ f = 115 := fun h => hb4 (by rw [h]; rfl)
 refine AC_seq (AC_region ?_)
 refine p_ (S_eql rfl (.tmp rfl) (AEv.const _)) ?_
 refine as_ rfl rfl rfl rfl ?_
 refine AL_nil ?_
 refine AC_cond (.tmp rfl) (fun hb5 => ?_) (fun hb5 => ?_)
 ·try simp only [zA,zO,zN,zM,zP,zQ,zD,zF,gd] at hb5
  obtain rfl : f = 103 := u8_eq hb5
  refine AC_region ?_
  refine mv rfl rfl rfl rfl ?_
  refine fl 10 ?_
  refine ld 0 ?_
  refine p_ (S_nilCheck rfl (.tmp rfl)) ?_
  refine fl 10 ?_
  refine st1 1 ?_
  refine AL_nil ?_
  refine ret_none ([(bt, Ob.cells (calL (copyA 103 o x)))] ++ F) rfl (Sub.l (List.sublist_cons_self _ _)) ⟨_, ⟨rfl, rfl⟩, rfl⟩ (.inr rfl)
 try simp only [zA,zO,zN,zM,zP,zQ,zD,zF,gd] at hb5
 have hf103 : ¬ f = 103 := fun h => hb5 (by rw [h]; rfl)
 refine AC_seq (AC_region ?_)
 refine p_ (S_eql rfl (.tmp rfl) (AEv.const _)) ?_
 refine as_ rfl rfl rfl rfl ?_
 refine AL_nil ?_
 refine AC_cond (.tmp rfl) (fun hb6 => ?_) (fun hb6 => ?_)
 ·try simp only [zA,zO,zN,zM,zP,zQ,zD,zF,gd] at hb6
  obtain rfl : f = 99 := u8_eq hb6
  refine AC_region ?_
  refine mv rfl rfl rfl rfl ?_
  refine fl 11 ?_
  refine ld 0 ?_
  refine p_ (S_nilCheck rfl (.tmp rfl)) ?_
  refine fl 11 ?_
  refine st1 1 ?_
  refine AL_nil ?_
  refine ret_none ([(bt, Ob.cells (calL (copyA 99 o x)))] ++ F) rfl (Sub.l (List.sublist_cons_self _ _)) ⟨_, ⟨rfl, rfl⟩, rfl⟩ (.inr rfl)
 try simp only [zA,zO,zN,zM,zP,zQ,zD,zF,gd] at hb6
 have hf99 : ¬ f = 99 := fun h => hb6 (by rw [h]; rfl)
 refine AC_seq (AC_region ?_)
 refine p_ (S_eql rfl (.tmp rfl) (AEv.const _)) ?_
 refine as_ rfl rfl rfl rfl ?_
 refine AL_nil ?_
 refine AC_cond (.tmp rfl) (fun hb7 => ?_) (fun hb7 => ?_)
 ·try simp only [zA,zO,zN,zM,zP,zQ,zD,zF,gd] at hb7
  obtain rfl : f = 105 := u8_eq hb7
  refine AC_region ?_
  refine mv rfl rfl rfl rfl ?_
  refine fl 12 ?_
  refine ld 0 ?_
  refine p_ (S_nilCheck rfl (.tmp rfl)) ?_
  refine fl 12 ?_
  refine st1 1 ?_
  refine AL_nil ?_
  refine ret_none ([(bt, Ob.cells (calL (copyA 105 o x)))] ++ F) rfl (Sub.l (List.sublist_cons_self _ _)) ⟨_, ⟨rfl, rfl⟩, rfl⟩ (.inr rfl)
 try simp only [zA,zO,zN,zM,zP,zQ,zD,zF,gd] at hb7
 have hf105 : ¬ f = 105 := fun h => hb7 (by rw [h]; rfl)
 refine AC_seq (AC_region ?_)
 refine p_ (S_eql rfl (.tmp rfl) (AEv.const _)) ?_
 refine as_ rfl rfl rfl rfl ?_
 refine AL_nil ?_
 refine AC_cond (.tmp rfl) (fun hb8 => ?_) (fun hb8 => ?_)
 ·try simp only [zA,zO,zN,zM,zP,zQ,zD,zF,gd] at hb8
  obtain rfl : f = 109 := u8_eq hb8
  refine AC_region ?_
  refine mv rfl rfl rfl rfl ?_
  refine fl 13 ?_
  refine ld 0 ?_
  refine p_ (S_nilCheck rfl (.tmp rfl)) ?_
  refine fl 13 ?_
  refine st1 1 ?_
  refine AL_nil ?_
  refine ret_none ([(bt, Ob.cells (calL (copyA 109 o x)))] ++ F) rfl (Sub.l (List.sublist_cons_self _ _)) ⟨_, ⟨rfl, rfl⟩, rfl⟩ (.inr rfl)
 try simp only [zA,zO,zN,zM,zP,zQ,zD,zF,gd] at hb8
 have hf109 : ¬ f = 109 := fun h => hb8 (by rw [h]; rfl)
 refine AC_seq (AC_region ?_)
 refine p_ (S_eql rfl (.tmp rfl) (AEv.const _)) ?_
 refine as_ rfl rfl rfl rfl ?_
 refine AL_nil ?_
 refine AC_cond (.tmp rfl) (fun hb9 => ?_) (fun hb9 => ?_)
 ·try simp only [zA,zO,zN,zM,zP,zQ,zD,zF,gd] at hb9
  obtain rfl : f = 108 := u8_eq hb9
  refine AC_region ?_
  refine mv rfl rfl rfl rfl ?_
  refine fl 15 ?_
  refine ld 0 ?_
  refine p_ (S_nilCheck rfl (.tmp rfl)) ?_
  refine fl 15 ?_
  refine st1 1 ?_
  refine AL_nil ?_
  refine ret_none ([(bt, Ob.cells (calL (copyA 108 o x)))] ++ F) rfl (Sub.l (List.sublist_cons_self _ _)) ⟨_, ⟨rfl, rfl⟩, rfl⟩ (.inr rfl)
 try simp only [zA,zO,zN,zM,zP,zQ,zD,zF,gd] at hb9
 have hf108 : ¬ f = 108 := fun h => hb9 (by rw [h]; rfl)
 refine AC_seq (AC_region ?_)
 refine p_ (S_eql rfl (.tmp rfl) (AEv.const _)) ?_
 refine as_ rfl rfl rfl rfl ?_
 refine AL_nil ?_
 refine AC_cond (.tmp rfl) (fun hb10 => ?_) (fun hb10 => ?_)
 ·try simp only [zA,zO,zN,zM,zP,zQ,zD,zF,gd] at hb10
  obtain rfl : f = 100 := u8_eq hb10
  refine AC_region ?_
  refine mv rfl rfl rfl rfl ?_
  refine fl 14 ?_
  refine ld 0 ?_
  refine p_ (S_nilCheck rfl (.tmp rfl)) ?_
  refine fl 14 ?_
  refine st1 1 ?_
  refine AL_nil ?_
  refine ret_none ([(bt, Ob.cells (calL (copyA 100 o x)))] ++ F) rfl (Sub.l (List.sublist_cons_self _ _)) ⟨_, ⟨rfl, rfl⟩, rfl⟩ (.inr rfl)
 try simp only [zA,zO,zN,zM,zP,zQ,zD,zF,gd] at hb10
 have hf100 : ¬ f = 100 := fun h => hb10 (by rw [h]; rfl)
 have hx : copyA f o x = o := by unfold copyA; simp only [hf117, hf114, hf115, hf103, hf99, hf105, hf109, hf108, hf100, if_false]
 refine AC_skip ?_
 refine ret_none ([(bt, Ob.cells (calL o))] ++ F) rfl (Sub.l (List.sublist_cons_self _ _)) ⟨_, ⟨rfl, by rw [hx]⟩, rfl⟩ (.inr rfl)
end Go.Proofs.YtfpkefhjomeeeaaGreatDoor

set_option maxRecDepth 100000
namespace Go.Proofs.YtfpkefhjomeeeaaGreatDoor
open Go.AL Go.NumSpec
theorem slices_EqualI_ok (l m : List (Int)) (hl : l.length ≤ 1000000) (hm : m.length ≤ 1000000) : PCalls Tryz.prog 186 [.sl (intsV l), .sl (intsV m)] (.bool (sameL (fun a b => decide (a = b)) l m)) := by
 intro st
 refine co 26 Tryz.func186 ?_
 refine AC_seq (AC_region ?_)
 refine ac rfl rfl rfl ?_
 refine AL_nil ?_
 refine AC_seq ?_
 refine AC_seq (AC_region ?_)
 refine mv rfl rfl rfl rfl ?_
 refine p_ (by first | exact S_lenM (e := 3) rfl (.tmp rfl) (by kernel_rfl) | exact S_len (e := 3) rfl (.tmp rfl) (by kernel_rfl)) ?_
 refine mv rfl rfl rfl rfl ?_
 refine p_ (by first | exact S_lenM (e := 3) rfl (.tmp rfl) (by kernel_rfl) | exact S_len (e := 3) rfl (.tmp rfl) (by kernel_rfl)) ?_
 refine p_ (S_neq rfl (.tmp rfl) (.tmp rfl)) ?_
 refine AL_nil ?_
 refine AC_cond (.tmp rfl) (fun hb1 => ?_) (fun hb1 => ?_)
 ·try simp only [zA,zO,zN,zM,zP,zQ,zD,zF,gd] at hb1
  have hbad : sameL (fun a b => decide (a = b)) l m = false := sameL_len (by omega)
  refine AC_seq (AC_region ?_)
  refine ac rfl rfl rfl ?_
  refine AL_nil (AC_ret ?_)
  refine ret_tmp st rfl rfl (Sub.l (List.Sublist.refl _)) (Conv.refl (Sub.l (List.Sublist.refl _)) _) ⟨by rw [hbad], rfl⟩ (.inl rfl)
 try simp only [zA,zO,zN,zM,zP,zQ,zD,zF,gd] at hb1
 have hlen : l.length = m.length := by omega
 refine AC_skip ?_
 refine AC_seq ?_
 refine AC_seq (AC_region ?_)
 refine mv rfl rfl rfl rfl ?_
 refine p_ (by first | exact S_lenM (e := 3) rfl (.tmp rfl) (by kernel_rfl) | exact S_len (e := 3) rfl (.tmp rfl) (by kernel_rfl)) ?_
 refine p_ (S_move rfl (AEv.const _)) ?_
 refine AL_nil ?_
 refine AC_block ?_
 refine AC_loopK (G := Nat) [(0, _), (1, _), (12, _)] (fun i => i ≤ l.length ∧ ∀ j (h1 : j < l.length) (h2 : j < m.length), j < i → (fun a b => decide (a = b)) (l[j]'h1) (m[j]'h2) = true) (fun g => [(13, .int .i64 (g : Int))]) (fun g => st) (fun g => l.length - g) (0) (⟨Nat.zero_le _, fun j _ _ h => absurd h (Nat.not_lt_zero _)⟩) (Sub.l (List.Sublist.refl _)) (.cons rfl (Le.refl _) (.cons rfl (Le.refl _) (.cons rfl (Le.refl _) .nil))) (.cons rfl (by first | exact Le.refl _ | exact Le.nils | exact Le.row _ _ _ _ | exact Le.of_eq (by first | rfl | (simp; done) | (push_cast; rfl) | (simp; omega))) .nil) ?_
 rintro i ⟨hi, hall⟩
 try dsimp only
 simp only [List.cons_append, List.nil_append]
 refine AC_seq (AC_region ?_)
 refine p_ (S_lss rfl (.tmp rfl) (.tmp rfl)) ?_
 refine AL_nil ?_
 refine AC_seq ?_
 refine AC_cond (.tmp rfl) (fun hb2 => ?_) (fun hb2 => ?_)
 ·try simp only [zA,zO,zN,zM,zP,zQ,zD,zF,gd] at hb2
  have hil : i < l.length := by omega
  refine AC_skip ?_
  refine AC_seq ?_
  refine AC_block ?_
  refine AC_seq (AC_region ?_)
  refine mv rfl rfl rfl rfl ?_
  refine as_ rfl rfl rfl rfl ?_
  refine AL_nil ?_
  refine AC_seq ?_
  refine AC_draw (by kernel_rfl) (by kernel_rfl) (.cons rfl (Q_p rfl (S_move rfl (.tmp rfl))) <|
    .cons rfl (Q_p rfl (S_move rfl (.tmp rfl))) <|
    .cons rfl (Q_p rfl (S_elemN (e := 3) 1 rfl (.tmp rfl) (.tmp rfl) (by kernel_rfl) (by kernel_rfl) (by omega) (fun _ => rfl))) <|
    .cons rfl (Q_p rfl (S_loadP rfl (.tmp rfl) rfl (by kernel_rfl))) <|
    .cons rfl (Q_p rfl (S_move rfl (.tmp rfl))) <|
    .cons rfl (Q_p rfl (S_move rfl (.tmp rfl))) <|
    .cons rfl (Q_p rfl (S_elemN (e := 3) 1 rfl (.tmp rfl) (.tmp rfl) (by kernel_rfl) (by kernel_rfl) (by omega) (fun _ => rfl))) <|
    .cons rfl (Q_p rfl (S_loadP rfl (.tmp rfl) rfl (by kernel_rfl))) <|
    .cons rfl (Q_p rfl (S_neq rfl (.tmp rfl) (.tmp rfl))) <|
    .nil) ?_
  refine AC_cond (.tmp rfl) (fun hb3 => ?_) (fun hb3 => ?_)
  ·try simp only [zA,zO,zN,zM,zP,zQ,zD,zF,gd] at hb3
   have hbad : sameL (fun a b => decide (a = b)) l m = false := sameL_bad hil (by omega) (by simpa using hb3)
   refine AC_seq (AC_region ?_)
   refine ac rfl rfl rfl ?_
   refine AL_nil (AC_ret ?_)
   refine ret_tmp st rfl rfl (Sub.l (List.Sublist.refl _)) (Conv.refl (Sub.l (List.Sublist.refl _)) _) ⟨by rw [hbad], rfl⟩ (.inl rfl)
  try simp only [zA,zO,zN,zM,zP,zQ,zD,zF,gd] at hb3
  have hne : (fun a b => decide (a = b)) (l[i]'hil) (m[i]'(by omega)) = true := by simpa using hb3
  refine AC_skip ?_
  refine AC_region ?_
  refine p_ (S_addI rfl (.tmp rfl) (AEv.const _) (by omega) (by omega)) ?_
  refine mv rfl rfl rfl rfl ?_
  refine AL_nil ?_
  refine ⟨i + 1, ⟨by omega, fun j h1 h2 h => ?_⟩, by omega, Sub.l (List.Sublist.refl _), (.cons rfl (by first | exact Le.refl _ | exact Le.nils | exact Le.row _ _ _ _ | exact Le.of_eq (by first | rfl | (simp; done) | (push_cast; rfl) | (simp; omega))) .nil), (.cons rfl (Le.refl _) (.cons rfl (Le.refl _) (.cons rfl (Le.refl _) .nil)))⟩
  rcases Nat.lt_or_ge j i with h' | h'
  ·exact hall j h1 h2 h'
  ·have : j = i := by omega
   subst this
   exact hne
 try simp only [zA,zO,zN,zM,zP,zQ,zD,zF,gd] at hb2
 have hgood : sameL (fun a b => decide (a = b)) l m = true := sameL_all hlen fun j h1 h2 => hall j h1 h2 (by omega)
 refine AC_exit ?_
 refine AC_seq (AC_region ?_)
 refine ac rfl rfl rfl ?_
 refine AL_nil (AC_ret ?_)
 refine ret_tmp st rfl rfl (Sub.l (List.Sublist.refl _)) (Conv.refl (Sub.l (List.Sublist.refl _)) _) ⟨by rw [hgood], rfl⟩ (.inl rfl)
theorem slices_EqualL_ok (l m : List (Lab)) (hl : l.length ≤ 1000000) (hm : m.length ≤ 1000000) : PCalls Tryz.prog 156 [.sl (labsV l), .sl (labsV m)] (.bool (sameL (fun a b => decide (a = b)) l m)) := by
 intro st
 refine co 26 Tryz.func156 ?_
 refine AC_seq (AC_region ?_)
 refine ac rfl rfl rfl ?_
 refine AL_nil ?_
 refine AC_seq ?_
 refine AC_seq (AC_region ?_)
 refine mv rfl rfl rfl rfl ?_
 refine p_ (by first | exact S_lenM (e := 123) rfl (.tmp rfl) (by kernel_rfl) | exact S_len (e := 123) rfl (.tmp rfl) (by kernel_rfl)) ?_
 refine mv rfl rfl rfl rfl ?_
 refine p_ (by first | exact S_lenM (e := 123) rfl (.tmp rfl) (by kernel_rfl) | exact S_len (e := 123) rfl (.tmp rfl) (by kernel_rfl)) ?_
 refine p_ (S_neq rfl (.tmp rfl) (.tmp rfl)) ?_
 refine AL_nil ?_
 refine AC_cond (.tmp rfl) (fun hb1 => ?_) (fun hb1 => ?_)
 ·try simp only [zA,zO,zN,zM,zP,zQ,zD,zF,gd] at hb1
  have hbad : sameL (fun a b => decide (a = b)) l m = false := sameL_len (by omega)
  refine AC_seq (AC_region ?_)
  refine ac rfl rfl rfl ?_
  refine AL_nil (AC_ret ?_)
  refine ret_tmp st rfl rfl (Sub.l (List.Sublist.refl _)) (Conv.refl (Sub.l (List.Sublist.refl _)) _) ⟨by rw [hbad], rfl⟩ (.inl rfl)
 try simp only [zA,zO,zN,zM,zP,zQ,zD,zF,gd] at hb1
 have hlen : l.length = m.length := by omega
 refine AC_skip ?_
 refine AC_seq ?_
 refine AC_seq (AC_region ?_)
 refine mv rfl rfl rfl rfl ?_
 refine p_ (by first | exact S_lenM (e := 123) rfl (.tmp rfl) (by kernel_rfl) | exact S_len (e := 123) rfl (.tmp rfl) (by kernel_rfl)) ?_
 refine p_ (S_move rfl (AEv.const _)) ?_
 refine AL_nil ?_
 refine AC_block ?_
 refine AC_loopK (G := Nat) [(0, _), (1, _), (12, _)] (fun i => i ≤ l.length ∧ ∀ j (h1 : j < l.length) (h2 : j < m.length), j < i → (fun a b => decide (a = b)) (l[j]'h1) (m[j]'h2) = true) (fun g => [(13, .int .i64 (g : Int))]) (fun g => st) (fun g => l.length - g) (0) (⟨Nat.zero_le _, fun j _ _ h => absurd h (Nat.not_lt_zero _)⟩) (Sub.l (List.Sublist.refl _)) (.cons rfl (Le.refl _) (.cons rfl (Le.refl _) (.cons rfl (Le.refl _) .nil))) (.cons rfl (by first | exact Le.refl _ | exact Le.nils | exact Le.row _ _ _ _ | exact Le.of_eq (by first | rfl | (simp; done) | (push_cast; rfl) | (simp; omega))) .nil) ?_
 rintro i ⟨hi, hall⟩
 try dsimp only
 simp only [List.cons_append, List.nil_append]
 refine AC_seq (AC_region ?_)
 refine p_ (S_lss rfl (.tmp rfl) (.tmp rfl)) ?_
 refine AL_nil ?_
 refine AC_seq ?_
 refine AC_cond (.tmp rfl) (fun hb2 => ?_) (fun hb2 => ?_)
 ·try simp only [zA,zO,zN,zM,zP,zQ,zD,zF,gd] at hb2
  have hil : i < l.length := by omega
  refine AC_skip ?_
  refine AC_seq ?_
  refine AC_block ?_
  refine AC_seq (AC_region ?_)
  refine mv rfl rfl rfl rfl ?_
  refine as_ rfl rfl rfl rfl ?_
  refine AL_nil ?_
  refine AC_seq ?_
  refine AC_draw (by kernel_rfl) (by kernel_rfl) (.cons rfl (Q_p rfl (S_move rfl (.tmp rfl))) <|
    .cons rfl (Q_p rfl (S_move rfl (.tmp rfl))) <|
    .cons rfl (Q_p rfl (S_elemN (e := 123) 2 rfl (.tmp rfl) (.tmp rfl) (by kernel_rfl) (by kernel_rfl) (by omega) (fun _ => rfl))) <|
    .cons rfl (Q_p rfl (S_loadPN (m := 2) rfl (.tmp rfl) (by kernel_rfl) (by first | exact Nat.le_of_ble_eq_true rfl | (simp; omega) | simp))) <|
    .cons rfl (Q_p rfl (S_move rfl (.tmp rfl))) <|
    .cons rfl (Q_p rfl (S_move rfl (.tmp rfl))) <|
    .cons rfl (Q_p rfl (S_elemN (e := 123) 2 rfl (.tmp rfl) (.tmp rfl) (by kernel_rfl) (by kernel_rfl) (by omega) (fun _ => rfl))) <|
    .cons rfl (Q_p rfl (S_loadPN (m := 2) rfl (.tmp rfl) (by kernel_rfl) (by first | exact Nat.le_of_ble_eq_true rfl | (simp; omega) | simp))) <|
    .cons rfl (Q_p rfl ((S_neqAgg rfl (.tmp rfl) (.tmp rfl) (by kernel_rfl) (EqAV.struct Tryz.underlying123 (by kernel_rfl) (EqFs.flat (by kernel_rfl) (by kernel_rfl) rfl rfl (EqAV.S (by kernel_rfl)) (EqFs.flat (by kernel_rfl) (by kernel_rfl) rfl rfl (EqAV.S (by kernel_rfl)) EqFs.nil)))).ofV (V' := .bool (!decide ((l[i]'hil) = (m[i]'(by omega))))) (congrArg AV.bool (congrArg Bool.not lab_eqB)))) <|
    .nil) ?_
  refine AC_cond (.tmp rfl) (fun hb3 => ?_) (fun hb3 => ?_)
  ·try simp only [zA,zO,zN,zM,zP,zQ,zD,zF,gd] at hb3
   have hbad : sameL (fun a b => decide (a = b)) l m = false := sameL_bad hil (by omega) (by simpa using hb3)
   refine AC_seq (AC_region ?_)
   refine ac rfl rfl rfl ?_
   refine AL_nil (AC_ret ?_)
   refine ret_tmp st rfl rfl (Sub.l (List.Sublist.refl _)) (Conv.refl (Sub.l (List.Sublist.refl _)) _) ⟨by rw [hbad], rfl⟩ (.inl rfl)
  try simp only [zA,zO,zN,zM,zP,zQ,zD,zF,gd] at hb3
  have hne : (fun a b => decide (a = b)) (l[i]'hil) (m[i]'(by omega)) = true := by simpa using hb3
  refine AC_skip ?_
  refine AC_region ?_
  refine p_ (S_addI rfl (.tmp rfl) (AEv.const _) (by omega) (by omega)) ?_
  refine mv rfl rfl rfl rfl ?_
  refine AL_nil ?_
  refine ⟨i + 1, ⟨by omega, fun j h1 h2 h => ?_⟩, by omega, Sub.l (List.Sublist.refl _), (.cons rfl (by first | exact Le.refl _ | exact Le.nils | exact Le.row _ _ _ _ | exact Le.of_eq (by first | rfl | (simp; done) | (push_cast; rfl) | (simp; omega))) .nil), (.cons rfl (Le.refl _) (.cons rfl (Le.refl _) (.cons rfl (Le.refl _) .nil)))⟩
  rcases Nat.lt_or_ge j i with h' | h'
  ·exact hall j h1 h2 h'
  ·have : j = i := by omega
   subst this
   exact hne
 try simp only [zA,zO,zN,zM,zP,zQ,zD,zF,gd] at hb2
 have hgood : sameL (fun a b => decide (a = b)) l m = true := sameL_all hlen fun j h1 h2 => hall j h1 h2 (by omega)
 refine AC_exit ?_
 refine AC_seq (AC_region ?_)
 refine ac rfl rfl rfl ?_
 refine AL_nil (AC_ret ?_)
 refine ret_tmp st rfl rfl (Sub.l (List.Sublist.refl _)) (Conv.refl (Sub.l (List.Sublist.refl _)) _) ⟨by rw [hgood], rfl⟩ (.inl rfl)
theorem spec_alike_ok (a b : Ctr) (ha : a.ports.length ≤ 1000000) (hb : b.ports.length ≤ 1000000) : PCalls Tryz.prog 177 [ctrAV a, ctrAV b] (.bool (alikeC a b)) := by
 intro st
 refine co 38 Tryz.func177 ?_
 refine AC_seq (AC_region ?_)
 refine s_ (S_box rfl (.tmp rfl)) ?_
 rintro _ _ ⟨b1, rfl, rfl⟩
 refine s_ (S_box rfl (.tmp rfl)) ?_
 rintro _ _ ⟨b2, rfl, rfl⟩
 refine ac rfl rfl rfl ?_
 refine AL_nil (AC_seq (AC_region ?_))
 refine fl 0 ?_
 refine ld 1 ?_
 refine fl 0 ?_
 refine ld 0 ?_
 refine p_ (S_eqS rfl (.tmp rfl) (.tmp rfl)) ?_
 refine mv rfl rfl rfl rfl ?_
 refine g_ (fun _ => fA 2) ?_
 refine g_ (fun _ => lN 3 1) ?_
 refine g_ (fun _ => fA 2) ?_
 refine g_ (fun _ => lN 3 0) ?_
 refine g_ (fun _ => S_eqlAgg rfl (AEv.cd (.tmp rfl)) (AEv.cd (.tmp rfl)) (by kernel_rfl) (EqAV.struct Tryz.underlying63 (by kernel_rfl) (EqFs.flat (by kernel_rfl) (by kernel_rfl) rfl rfl (EqAV.int (k' := .i64) (by kernel_rfl)) (EqFs.flat (by kernel_rfl) (by kernel_rfl) rfl rfl (EqAV.int (k' := .i64) (by kernel_rfl)) (EqFs.flat (by kernel_rfl) (by kernel_rfl) rfl rfl (EqAV.int (k' := .i64) (by kernel_rfl)) EqFs.nil))))) ?_
 refine an ?_
 refine mv rfl rfl rfl rfl ?_
 refine g_ (fun _ => fA 5) ?_
 refine g_ (fun _ => lN 3 1) ?_
 refine g_ (fun _ => fA 5) ?_
 refine g_ (fun _ => lN 3 0) ?_
 refine g_ (fun _ => S_eqlAgg rfl (AEv.cd (.tmp rfl)) (AEv.cd (.tmp rfl)) (by kernel_rfl) (EqAV.struct Tryz.underlying63 (by kernel_rfl) (EqFs.flat (by kernel_rfl) (by kernel_rfl) rfl rfl (EqAV.int (k' := .i64) (by kernel_rfl)) (EqFs.flat (by kernel_rfl) (by kernel_rfl) rfl rfl (EqAV.int (k' := .i64) (by kernel_rfl)) (EqFs.flat (by kernel_rfl) (by kernel_rfl) rfl rfl (EqAV.int (k' := .i64) (by kernel_rfl)) EqFs.nil))))) ?_
 refine an ?_
 refine mv rfl rfl rfl rfl ?_
 refine g_ (fun _ => fA 8) ?_
 refine g_ (fun _ => lA 1) ?_
 refine g_ (fun _ => fA 8) ?_
 refine g_ (fun _ => lA 0) ?_
 refine g_ (fun _ => S_pcall rfl (AEvs.cons (AEv.cd (.tmp rfl)) (AEvs.cons (AEv.cd (.tmp rfl)) AEvs.nil)) (slices_EqualI_ok a.ports b.ports ha hb)) ?_
 refine an ?_
 refine mv rfl rfl rfl rfl ?_
 refine g_ (fun _ => fA 9) ?_
 refine g_ (fun _ => lN 2 1) ?_
 refine g_ (fun _ => fA 9) ?_
 refine g_ (fun _ => lN 2 0) ?_
 refine g_ (fun _ => S_eqlAgg rfl (AEv.cd (.tmp rfl)) (AEv.cd (.tmp rfl)) (by kernel_rfl) (EqAV.struct Tryz.underlying65 (by kernel_rfl) (EqFs.flat (by kernel_rfl) (by kernel_rfl) rfl rfl (EqAV.int (k' := .i64) (by kernel_rfl)) (EqFs.flat (by kernel_rfl) (by kernel_rfl) rfl rfl (EqAV.int (k' := .i64) (by kernel_rfl)) EqFs.nil)))) ?_
 refine an ?_
 refine as_ rfl rfl rfl rfl ?_
 refine AL_nil (AC_ret ?_)
 refine ret_tmp st rfl rfl (Sub.l (List.Sublist.cons _ (List.Sublist.cons _ (List.Sublist.refl _)))) (Conv.refl (Sub.l (List.Sublist.cons _ (List.Sublist.cons _ (List.Sublist.refl _)))) _) ⟨congrArg AV.bool (by rw [res_eqB, res_eqB, probe_eqB, sameL_eq]; simp only [alikeC, Bool.and_assoc]), rfl⟩ (.inl rfl)
theorem spec_exact_ok (a b : Ctr) (ha : a.ports.length ≤ 1000000) (hb : b.ports.length ≤ 1000000) : PCalls Tryz.prog 158 [ctrAV a, ctrAV b] (.bool (exactC a b)) := by
 intro st
 refine co 15 Tryz.func158 ?_
 refine AC_seq (AC_region ?_)
 refine s_ (S_box rfl (.tmp rfl)) ?_
 rintro _ _ ⟨b1, rfl, rfl⟩
 refine s_ (S_box rfl (.tmp rfl)) ?_
 rintro _ _ ⟨b2, rfl, rfl⟩
 refine ac rfl rfl rfl ?_
 refine AL_nil (AC_seq (AC_region ?_))
 refine ldN 11 1 ?_
 refine ldN 11 0 ?_
 refine p_ (S_pcall rfl (AEvs.cons (y := ctrAV a) (.tmp rfl) (AEvs.cons (y := ctrAV b) (.tmp rfl) AEvs.nil)) (spec_alike_ok a b ha hb)) ?_
 refine mv rfl rfl rfl rfl ?_
 refine g_ (fun _ => fA 1) ?_
 refine g_ (fun _ => lA 1) ?_
 refine g_ (fun _ => fA 1) ?_
 refine g_ (fun _ => lA 0) ?_
 refine g_ (fun _ => S_eqS rfl (AEv.cd (.tmp rfl)) (AEv.cd (.tmp rfl))) ?_
 refine an ?_
 refine as_ rfl rfl rfl rfl ?_
 refine AL_nil (AC_ret ?_)
 refine ret_tmp st rfl rfl (Sub.l (List.Sublist.cons _ (List.Sublist.cons _ (List.Sublist.refl _)))) (Conv.refl (Sub.l (List.Sublist.cons _ (List.Sublist.cons _ (List.Sublist.refl _)))) _) ⟨rfl, rfl⟩ (.inl rfl)
theorem slices_EqualFunc_ok (l m : List Ctr) (hl : l.length ≤ 1000000) (hm : m.length ≤ 1000000) (hlp : ∀ c ∈ l, c.ports.length ≤ 1000000) (hmp : ∀ c ∈ m, c.ports.length ≤ 1000000) : PCalls Tryz.prog 176 [.sl (ctrsV l), .sl (ctrsV m), .fn 158 []] (.bool (sameL exactC l m)) := by
 intro st
 refine co 32 Tryz.func176 ?_
 refine AC_seq (AC_region ?_)
 refine ac rfl rfl rfl ?_
 refine AL_nil ?_
 refine AC_seq ?_
 refine AC_seq (AC_region ?_)
 refine mv rfl rfl rfl rfl ?_
 refine p_ (by first | exact S_lenM (e := 67) rfl (.tmp rfl) (by kernel_rfl) | exact S_len (e := 67) rfl (.tmp rfl) (by kernel_rfl)) ?_
 refine mv rfl rfl rfl rfl ?_
 refine p_ (by first | exact S_lenM (e := 67) rfl (.tmp rfl) (by kernel_rfl) | exact S_len (e := 67) rfl (.tmp rfl) (by kernel_rfl)) ?_
 refine p_ (S_neq rfl (.tmp rfl) (.tmp rfl)) ?_
 refine AL_nil ?_
 refine AC_cond (.tmp rfl) (fun hb1 => ?_) (fun hb1 => ?_)
 ·try simp only [zA,zO,zN,zM,zP,zQ,zD,zF,gd] at hb1
  have hbad : sameL exactC l m = false := sameL_len (by omega)
  refine AC_seq (AC_region ?_)
  refine ac rfl rfl rfl ?_
  refine AL_nil (AC_ret ?_)
  refine ret_tmp st rfl rfl (Sub.l (List.Sublist.refl _)) (Conv.refl (Sub.l (List.Sublist.refl _)) _) ⟨by rw [hbad], rfl⟩ (.inl rfl)
 try simp only [zA,zO,zN,zM,zP,zQ,zD,zF,gd] at hb1
 have hlen : l.length = m.length := by omega
 refine AC_skip ?_
 refine AC_seq ?_
 refine AC_seq (AC_region ?_)
 refine mv rfl rfl rfl rfl ?_
 refine p_ (by first | exact S_lenM (e := 67) rfl (.tmp rfl) (by kernel_rfl) | exact S_len (e := 67) rfl (.tmp rfl) (by kernel_rfl)) ?_
 refine p_ (S_move rfl (AEv.const _)) ?_
 refine AL_nil ?_
 refine AC_block ?_
 refine AC_loopK (G := Nat) [(1, _), (2, _), (15, _), (16, _)] (fun i => i ≤ l.length ∧ ∀ j (h1 : j < l.length) (h2 : j < m.length), j < i → exactC (l[j]'h1) (m[j]'h2) = true) (fun g => [(17, .int .i64 (g : Int))]) (fun g => st) (fun g => l.length - g) (0) (⟨Nat.zero_le _, fun j _ _ h => absurd h (Nat.not_lt_zero _)⟩) (Sub.l (List.Sublist.refl _)) (.cons rfl (Le.refl _) (.cons rfl (Le.refl _) (.cons rfl (Le.refl _) (.cons rfl (Le.refl _) .nil)))) (.cons rfl (by first | exact Le.refl _ | exact Le.nils | exact Le.row _ _ _ _ | exact Le.of_eq (by first | rfl | (simp; done) | (push_cast; rfl) | (simp; omega))) .nil) ?_
 rintro i ⟨hi, hall⟩
 try dsimp only
 simp only [List.cons_append, List.nil_append]
 refine AC_seq (AC_region ?_)
 refine p_ (S_lss rfl (.tmp rfl) (.tmp rfl)) ?_
 refine AL_nil ?_
 refine AC_seq ?_
 refine AC_cond (.tmp rfl) (fun hb2 => ?_) (fun hb2 => ?_)
 ·try simp only [zA,zO,zN,zM,zP,zQ,zD,zF,gd] at hb2
  have hil : i < l.length := by omega
  have him : i < m.length := by omega
  refine AC_skip ?_
  refine AC_seq ?_
  refine AC_block ?_
  refine AC_seq (AC_region ?_)
  refine mv rfl rfl rfl rfl ?_
  refine p_ (S_elemN (e := 67) 11 rfl (.tmp rfl) (.tmp rfl) (by kernel_rfl) (by kernel_rfl) (by omega) (fun _ => rfl)) ?_
  refine p_ (S_loadPN (m := 11) rfl (.tmp rfl) (by kernel_rfl) (by first | exact Nat.le_of_ble_eq_true rfl | (simp; omega) | simp)) ?_
  refine s_ (S_alloc [.string ⟨#[]⟩, .string ⟨#[]⟩, .int .i64 0, .int .i64 0, .int .i64 0, .int .i64 0, .int .i64 0, .int .i64 0, .slice none 0 0, .int .i64 0, .int .i64 0] rfl (by kernel_rfl)) ?_
  rintro _ _ ⟨b8, rfl, rfl⟩
  refine as_ rfl rfl rfl rfl ?_
  refine stW 0 ?_
  refine AL_nil (AC_seq (AC_region ?_))
  refine mv rfl rfl rfl rfl ?_
  refine mv rfl rfl rfl rfl ?_
  refine p_ (S_elemN (e := 67) 11 rfl (.tmp rfl) (.tmp rfl) (by kernel_rfl) (by kernel_rfl) (by omega) (fun _ => rfl)) ?_
  refine p_ (S_loadPN (m := 11) rfl (.tmp rfl) (by kernel_rfl) (by first | exact Nat.le_of_ble_eq_true rfl | (simp; omega) | simp)) ?_
  refine s_ (S_alloc [.string ⟨#[]⟩, .string ⟨#[]⟩, .int .i64 0, .int .i64 0, .int .i64 0, .int .i64 0, .int .i64 0, .int .i64 0, .slice none 0 0, .int .i64 0, .int .i64 0] rfl (by kernel_rfl)) ?_
  rintro _ _ ⟨b9, rfl, rfl⟩
  refine stW 0 ?_
  refine AL_nil (AC_seq (AC_region ?_))
  refine mv rfl rfl rfl rfl ?_
  refine ldN 11 1 ?_
  refine ldN 11 0 ?_
  refine s_ (S_callF (caps := []) rfl (.tmp rfl) (AEvs.cons (y := ctrAV (l[i]'hil)) (.tmp rfl) (AEvs.cons (y := ctrAV (m[i]'him)) (.tmp rfl) AEvs.nil)) (spec_exact_ok (l[i]'hil) (m[i]'him) (hlp _ (List.getElem_mem _)) (hmp _ (List.getElem_mem _)) _)) ?_
  rintro _ _ ⟨rfl, rfl⟩
  refine p_ (S_not rfl (.tmp rfl)) ?_
  refine AL_nil ?_
  refine AC_cond (.tmp rfl) (fun hb5 => ?_) (fun hb5 => ?_)
  ·try simp only [zA,zO,zN,zM,zP,zQ,zD,zF,gd] at hb5
   have hbad : sameL exactC l m = false := sameL_bad hil him hb5
   refine AC_seq (AC_region ?_)
   refine ac rfl rfl rfl ?_
   refine AL_nil (AC_ret ?_)
   refine ret_tmp st rfl rfl (Sub.l (List.Sublist.cons _ (List.Sublist.cons _ (List.Sublist.refl _)))) (Conv.refl (Sub.l (List.Sublist.cons _ (List.Sublist.cons _ (List.Sublist.refl _)))) _) ⟨by rw [hbad], rfl⟩ (.inl rfl)
  try simp only [zA,zO,zN,zM,zP,zQ,zD,zF,gd] at hb5
  have hne : exactC (l[i]'hil) (m[i]'him) = true := hb5
  refine AC_skip ?_
  refine AC_region ?_
  refine p_ (S_addI rfl (.tmp rfl) (AEv.const _) (by omega) (by omega)) ?_
  refine mv rfl rfl rfl rfl ?_
  refine AL_nil ?_
  refine ⟨i + 1, ⟨by omega, fun j h1 h2 h => ?_⟩, by omega, (Sub.l (List.Sublist.cons _ (List.Sublist.cons _ (List.Sublist.refl _)))), (.cons rfl (by first | exact Le.refl _ | exact Le.nils | exact Le.row _ _ _ _ | exact Le.of_eq (by first | rfl | (simp; done) | (push_cast; rfl) | (simp; omega))) .nil), (.cons rfl (Le.refl _) (.cons rfl (Le.refl _) (.cons rfl (Le.refl _) (.cons rfl (Le.refl _) .nil))))⟩
  rcases Nat.lt_or_ge j i with h' | h'
  ·exact hall j h1 h2 h'
  ·have : j = i := by omega
   subst this
   exact hne
 try simp only [zA,zO,zN,zM,zP,zQ,zD,zF,gd] at hb2
 have hgood : sameL exactC l m = true := sameL_all hlen fun j h1 h2 => hall j h1 h2 (by omega)
 refine AC_exit ?_
 refine AC_seq (AC_region ?_)
 refine ac rfl rfl rfl ?_
 refine AL_nil (AC_ret ?_)
 refine ret_tmp st rfl rfl (Sub.l (List.Sublist.refl _)) (Conv.refl (Sub.l (List.Sublist.refl _)) _) ⟨by rw [hgood], rfl⟩ (.inl rfl)
theorem spec_each_ok (l m : List Ctr) (hl : l.length ≤ 1000000) (hm : m.length ≤ 1000000) (hlp : ∀ c ∈ l, c.ports.length ≤ 1000000) (hmp : ∀ c ∈ m, c.ports.length ≤ 1000000) : PCalls Tryz.prog 157 [.sl (ctrsV l), .sl (ctrsV m), .fn 158 []] (.bool (sameL exactC l m)) := by
 intro st
 refine co 11 Tryz.func157 ?_
 refine AC_seq (AC_region ?_)
 refine ac rfl rfl rfl ?_
 refine AL_nil (AC_seq (AC_region ?_))
 refine mv rfl rfl rfl rfl ?_
 refine mv rfl rfl rfl rfl ?_
 refine mv rfl rfl rfl rfl ?_
 refine p_ (S_pcall rfl (AEvs.cons (.tmp rfl) (AEvs.cons (.tmp rfl) (AEvs.cons (.tmp rfl) AEvs.nil))) (slices_EqualFunc_ok _ _ (by omega) (by omega) (by assumption) (by assumption))) ?_
 refine as_ rfl rfl rfl rfl ?_
 refine AL_nil (AC_ret ?_)
 refine ret_tmp st rfl rfl (Sub.l (List.Sublist.refl _)) (Conv.refl (Sub.l (List.Sublist.refl _)) _) ⟨rfl, rfl⟩ (.inl rfl)
theorem spec_Same_ok (a b : Spc) (ha : shortS a) (hb : shortS b) : PCalls Tryz.prog 119 [spcAV a, spcAV b] (.bool (sameS a b)) := by
 intro st
 refine co 52 Tryz.func119 ?_
 obtain ⟨a1, a2, a3, a4, a5⟩ := ha
 obtain ⟨b1', b2', b3', b4', b5'⟩ := hb
 refine AC_seq (AC_region ?_)
 refine s_ (S_box rfl (.tmp rfl)) ?_
 rintro _ _ ⟨b1, rfl, rfl⟩
 refine s_ (S_box rfl (.tmp rfl)) ?_
 rintro _ _ ⟨b2, rfl, rfl⟩
 refine ac rfl rfl rfl ?_
 refine AL_nil (AC_seq (AC_region ?_))
 refine fl 0 ?_
 refine ld 1 ?_
 refine fl 0 ?_
 refine ld 0 ?_
 refine p_ (S_eqS rfl (.tmp rfl) (.tmp rfl)) ?_
 refine mv rfl rfl rfl rfl ?_
 refine g_ (fun _ => fA 1) ?_
 refine g_ (fun _ => lA 1) ?_
 refine g_ (fun _ => fA 1) ?_
 refine g_ (fun _ => lA 0) ?_
 refine g_ (fun _ => S_pcall rfl (AEvs.cons (AEv.cd (.tmp rfl)) (AEvs.cons (AEv.cd (.tmp rfl)) AEvs.nil)) (slices_EqualL_ok a.labels b.labels a1 b1')) ?_
 refine an ?_
 refine mv rfl rfl rfl rfl ?_
 refine g_ (fun _ => fA 2) ?_
 refine g_ (fun _ => lA 1) ?_
 refine g_ (fun _ => fA 2) ?_
 refine g_ (fun _ => lA 0) ?_
 refine g_ (fun _ => S_pcall rfl (AEvs.cons (AEv.cd (.tmp rfl)) (AEvs.cons (AEv.cd (.tmp rfl)) (AEvs.cons (AEv.func _) AEvs.nil))) (spec_each_ok a.init b.init a2 b2' a4 b4')) ?_
 refine an ?_
 refine mv rfl rfl rfl rfl ?_
 refine g_ (fun _ => fA 3) ?_
 refine g_ (fun _ => lA 1) ?_
 refine g_ (fun _ => fA 3) ?_
 refine g_ (fun _ => lA 0) ?_
 refine g_ (fun _ => S_pcall rfl (AEvs.cons (AEv.cd (.tmp rfl)) (AEvs.cons (AEv.cd (.tmp rfl)) (AEvs.cons (AEv.func _) AEvs.nil))) (spec_each_ok a.main b.main a3 b3' a5 b5')) ?_
 refine an ?_
 refine mv rfl rfl rfl rfl ?_
 refine g_ (fun _ => fA 4) ?_
 refine g_ (fun _ => lA 1) ?_
 refine g_ (fun _ => fA 4) ?_
 refine g_ (fun _ => lA 0) ?_
 refine g_ (fun _ => S_eql rfl (AEv.cd (.tmp rfl)) (AEv.cd (.tmp rfl))) ?_
 refine an ?_
 refine mv rfl rfl rfl rfl ?_
 refine g_ (fun _ => fA 5) ?_
 refine g_ (fun _ => lA 1) ?_
 refine g_ (fun _ => fA 5) ?_
 refine g_ (fun _ => lA 0) ?_
 refine g_ (fun _ => S_eql rfl (AEv.cd (.tmp rfl)) (AEv.cd (.tmp rfl))) ?_
 refine an ?_
 refine mv rfl rfl rfl rfl ?_
 refine g_ (fun _ => fA 6) ?_
 refine g_ (fun _ => lA 1) ?_
 refine g_ (fun _ => fA 6) ?_
 refine g_ (fun _ => lA 0) ?_
 refine g_ (fun _ => S_eql rfl (AEv.cd (.tmp rfl)) (AEv.cd (.tmp rfl))) ?_
 refine an ?_
 refine as_ rfl rfl rfl rfl ?_
 refine AL_nil (AC_ret ?_)
 refine ret_tmp st rfl rfl (Sub.l (List.Sublist.cons _ (List.Sublist.cons _ (List.Sublist.refl _)))) (Conv.refl (Sub.l (List.Sublist.cons _ (List.Sublist.cons _ (List.Sublist.refl _)))) _) ⟨congrArg AV.bool (by rw [sameL_eq]; rfl), rfl⟩ (.inl rfl)
theorem ask_clean_ok (x : Cal) (k : Nat) (hx0 : ShortA x) : PCalls Tryz.prog 87 [calAV x, .agg [.S (kindA k).1, .S (kindA k).2]] (.bool (cleanB (onlyA (kindA k).2 x) x)) := by
 intro st
 refine co 88 Tryz.func87 ?_
 have hfw := fields_few k
 refine AC_seq (AC_region ?_)
 refine s_ (S_box rfl (.tmp rfl)) ?_
 rintro _ _ ⟨b2, rfl, rfl⟩
 refine s_ (S_box rfl (.tmp rfl)) ?_
 rintro _ _ ⟨b3, rfl, rfl⟩
 refine ac rfl rfl rfl ?_
 refine AL_nil (AC_seq (AC_region ?_))
 refine fl 0 ?_
 refine ld 1 ?_
 refine p_ (S_build (t := 33) (pl := [(0, 1), (1, 1), (2, 1), (3, 7), (10, 1), (11, 1), (12, 1), (13, 1), (14, 1), (15, 1)]) (zs := [.int .i64 0, .int .i64 0, .int .u64 0, .string ⟨#[]⟩, .slice none 0 0, .slice none 0 0, .slice none 0 0, .int .i64 0, .int .i64 0, .int .i64 0, .int .i64 0, .int .i64 0, .int .i64 0, .int .i64 0, .string ⟨#[]⟩, .slice none 0 0]) rfl (AEvs.cons (.tmp rfl) AEvs.nil) (by kernel_rfl) rfl) ?_
 refine s_ (S_alloc [.int .i64 0, .int .i64 0, .int .u64 0, .string ⟨#[]⟩, .slice none 0 0, .slice none 0 0, .slice none 0 0, .int .i64 0, .int .i64 0, .int .i64 0, .int .i64 0, .int .i64 0, .int .i64 0, .int .i64 0, .string ⟨#[]⟩, .slice none 0 0] rfl (by kernel_rfl)) ?_
 rintro _ _ ⟨b5, rfl, rfl⟩
 refine s_ (S_storeW 0 rfl (.tmp rfl) ((AEv.tmp rfl).le (z := calAV (cal0 x.kind)) (by exact (Les.agg (.cons (Le.refl _) (.cons (Le.refl _) (.cons (Le.refl _) (.cons (Le.refl _) (.cons (Le.nils) (.cons (Le.nils) (.cons (Le.nils) (.cons (Le.refl _) (.cons (Le.refl _) (.cons (Le.refl _) (.cons (Le.refl _) (.cons (Le.refl _) (.cons (Le.refl _) (.cons (Le.refl _) (.cons (Le.refl _) (.cons (Le.nils) .nil))))))))))))))))))) rfl rfl rfl (by kernel_rfl)) ?_
 rintro _ _ ⟨rfl, rfl⟩
 refine AL_nil ?_
 refine AC_seq ?_
 refine AC_seq (AC_region ?_)
 refine fl 1 ?_
 refine ld 1 ?_
 refine p_ (S_lenS (ts := #[]) rfl (.tmp rfl) (by kernel_rfl)) ?_
 refine p_ (S_move rfl (AEv.const _)) ?_
 refine AL_nil ?_
 refine AC_block ?_
 refine AC_loopK (G := Nat) [(2, _), (3, _), (4, _), (5, _), (13, _)] (fun g => g ≤ (kindA k).2.length) (fun g => [(14, .int .i64 (g : Int))]) (fun g => (b5, .cells (calL (onlyA ((kindA k).2.take g) x))) :: (b3, .cells [.S (kindA k).1, .S (kindA k).2]) :: (b2, .cells (calL x)) :: st) (fun g => (kindA k).2.length - g) (0) (Nat.zero_le _) (Sub.l (List.Sublist.refl _)) (.cons rfl (Le.refl _) (.cons rfl (Le.refl _) (.cons rfl (Le.refl _) (.cons rfl (Le.refl _) (.cons rfl (Le.refl _) .nil))))) (.cons rfl (by first | exact Le.refl _ | exact Le.nils | exact Le.row _ _ _ _ | exact Le.of_eq (by first | rfl | (simp; done) | (push_cast; rfl) | (simp; omega))) .nil) ?_
 rintro i hi
 try dsimp only
 simp only [List.cons_append, List.nil_append]
 refine AC_seq (AC_region ?_)
 refine p_ (S_lss rfl (.tmp rfl) (.tmp rfl)) ?_
 refine AL_nil ?_
 refine AC_seq ?_
 refine AC_cond (.tmp rfl) (fun hb4 => ?_) (fun hb4 => ?_)
 ·try simp only [zA,zO,zN,zM,zP,zQ,zD,zF,gd] at hb4
  have hil : i < (kindA k).2.length := by omega
  refine AC_skip ?_
  refine AC_seq ?_
  refine AC_block ?_
  refine AC_seq (AC_region ?_)
  refine mv rfl rfl rfl rfl ?_
  refine as_ rfl rfl rfl rfl ?_
  refine AL_nil ?_
  refine AC_plan (σ := [(0, 0), (1, 0), (2, 0), (3, 0), (4, 0), (5, 2)]) (by kernel_rfl) [_, _, _] (by kernel_rfl) (fun r hr => List.mem_append_left _ hr) ?_
  refine AG.f rfl rfl (fun st' hst => Q_p rfl (S_loadNM (m := 16) rfl (.tmp rfl) (hst _ (List.mem_of_getElem? (i := 2) rfl)) (by kernel_rfl) (by first | exact Nat.le_of_ble_eq_true rfl | (simp; omega) | simp))) ?_
  refine AG.f rfl rfl (fun st' hst => Q_p rfl (S_field 1 rfl (.tmp rfl) (by kernel_rfl))) ?_
  refine AG.f rfl rfl (fun st' hst => Q_p rfl (S_loadM rfl (.tmp rfl) (hst _ (List.mem_of_getElem? (i := 1) rfl)) rfl (by kernel_rfl))) ?_
  refine AG.f rfl rfl (fun st' hst => Q_p rfl (S_move rfl (.tmp rfl))) ?_
  refine AG.f rfl rfl (fun st' hst => Q_p rfl ((S_index rfl (.tmp rfl) (.tmp rfl) (by kernel_rfl) (by omega) (by omega)).ofV (congrArg _ (atL_get hil)))) ?_
  refine AG.h rfl rfl rfl (S_call rfl (AEvs.cons (.tmp rfl) (AEvs.cons (.tmp rfl) (AEvs.cons (.tmp rfl) AEvs.nil))) (copies_ok b5 (onlyA ((kindA k).2.take i) x) x ((kindA k).2[i]'hil) _)) ?_
  rintro _ _ ⟨_, ⟨rfl, rfl⟩, rfl⟩
  refine AG.nil ?_
  refine AC_region ?_
  refine p_ (S_addI rfl (.tmp rfl) (AEv.const _) (by omega) (by omega)) ?_
  refine mv rfl rfl rfl rfl ?_
  refine AL_nil ?_
  refine ⟨i + 1, by omega, by omega, by rw [only_next hil]; exact (Sub.l (List.Sublist.refl _)), (.cons rfl (by first | exact Le.refl _ | exact Le.nils | exact Le.row _ _ _ _ | exact Le.of_eq (by first | rfl | (simp; done) | (push_cast; rfl) | (simp; omega))) .nil), (.cons rfl (Le.refl _) (.cons rfl (Le.refl _) (.cons rfl (Le.refl _) (.cons rfl (Le.refl _) (.cons rfl (Le.refl _) .nil)))))⟩
 try simp only [zA,zO,zN,zM,zP,zQ,zD,zF,gd] at hb4
 have hi9 : (kindA k).2.take i = (kindA k).2 := List.take_of_length_le (by omega)
 rw [hi9]
 refine AC_exit ?_
 refine AC_seq (AC_region ?_)
 refine fl 1 ?_
 refine ld 0 ?_
 refine fl 1 ?_
 refine ld 2 ?_
 refine p_ (S_eql rfl (.tmp rfl) (.tmp rfl)) ?_
 refine mv rfl rfl rfl rfl ?_
 refine g_ (fun _ => fA 2) ?_
 refine g_ (fun _ => lA 0) ?_
 refine g_ (fun _ => fA 2) ?_
 refine g_ (fun _ => lA 2) ?_
 refine g_ (fun _ => S_eql rfl (AEv.cd (.tmp rfl)) (AEv.cd (.tmp rfl))) ?_
 refine an ?_
 refine mv rfl rfl rfl rfl ?_
 refine g_ (fun _ => fA 10) ?_
 refine g_ (fun _ => lA 0) ?_
 refine g_ (fun _ => fA 10) ?_
 refine g_ (fun _ => lA 2) ?_
 refine g_ (fun _ => S_eql rfl (AEv.cd (.tmp rfl)) (AEv.cd (.tmp rfl))) ?_
 refine an ?_
 refine mv rfl rfl rfl rfl ?_
 refine g_ (fun _ => fA 11) ?_
 refine g_ (fun _ => lA 0) ?_
 refine g_ (fun _ => fA 11) ?_
 refine g_ (fun _ => lA 2) ?_
 refine g_ (fun _ => S_eql rfl (AEv.cd (.tmp rfl)) (AEv.cd (.tmp rfl))) ?_
 refine an ?_
 refine mv rfl rfl rfl rfl ?_
 refine g_ (fun _ => fA 12) ?_
 refine g_ (fun _ => lA 0) ?_
 refine g_ (fun _ => fA 12) ?_
 refine g_ (fun _ => lA 2) ?_
 refine g_ (fun _ => S_eql rfl (AEv.cd (.tmp rfl)) (AEv.cd (.tmp rfl))) ?_
 refine an ?_
 refine mv rfl rfl rfl rfl ?_
 refine g_ (fun _ => fA 13) ?_
 refine g_ (fun _ => lA 0) ?_
 refine g_ (fun _ => fA 13) ?_
 refine g_ (fun _ => lA 2) ?_
 refine g_ (fun _ => S_eql rfl (AEv.cd (.tmp rfl)) (AEv.cd (.tmp rfl))) ?_
 refine an ?_
 refine as_ rfl rfl rfl rfl ?_
 refine AL_nil (AC_seq (AC_region ?_))
 refine mv rfl rfl rfl rfl ?_
 refine mv rfl rfl rfl rfl ?_
 refine g_ (fun _ => fA 14) ?_
 refine g_ (fun _ => lA 0) ?_
 refine g_ (fun _ => fA 14) ?_
 refine g_ (fun _ => lA 2) ?_
 refine g_ (fun _ => S_eqS rfl (AEv.cd (.tmp rfl)) (AEv.cd (.tmp rfl))) ?_
 refine an ?_
 refine mv rfl rfl rfl rfl ?_
 refine g_ (fun _ => fA 15) ?_
 refine g_ (fun _ => lA 0) ?_
 refine g_ (fun _ => by first | exact S_lenM (e := 123) rfl (AEv.cd (.tmp rfl)) (by kernel_rfl) | exact S_len (e := 123) rfl (AEv.cd (.tmp rfl)) (by kernel_rfl)) ?_
 refine g_ (fun _ => fA 15) ?_
 refine g_ (fun _ => lA 2) ?_
 refine g_ (fun _ => by first | exact S_lenM (e := 123) rfl (AEv.cd (.tmp rfl)) (by kernel_rfl) | exact S_len (e := 123) rfl (AEv.cd (.tmp rfl)) (by kernel_rfl)) ?_
 refine g_ (fun _ => S_eql rfl (AEv.cd (.tmp rfl)) (AEv.cd (.tmp rfl))) ?_
 refine an ?_
 refine mv rfl rfl rfl rfl ?_
 refine g_ (fun _ => fA 3) ?_
 refine g_ (fun _ => lN 7 0) ?_
 refine g_ (fun _ => fA 3) ?_
 refine g_ (fun _ => lN 7 2) ?_
 refine g_ (fun _ => S_pcall rfl (AEvs.cons (AEv.cd (.tmp rfl)) (AEvs.cons (AEv.cd (.tmp rfl)) AEvs.nil)) (spec_Same_ok (onlyA (kindA k).2 x).spec x.spec (light_short (only_light hx0.1)) (light_short hx0.1))) ?_
 refine an ?_
 refine as_ rfl rfl rfl rfl ?_
 refine AL_nil (AC_ret ?_)
 refine ret_tmp st rfl rfl (Sub.l (((List.sublist_cons_self _ _).trans (List.sublist_cons_self _ _)).trans (List.sublist_cons_self _ _))) (Conv.refl (Sub.l (((List.sublist_cons_self _ _).trans (List.sublist_cons_self _ _)).trans (List.sublist_cons_self _ _))) _) ⟨congrArg AV.bool (by simp only [cleanB, Bool.and_assoc, Int.ofNat_inj]), rfl⟩ (.inl rfl)
theorem ask_Check_ok (x : Cal) (hx0 : ShortA x) : GCalls Tryz.prog tabs 48 [calAV x] (erV 45 185 (checkA x)) := by
 intro st hG
 refine co 39 Tryz.func48 ?_
 have hfw := fields_few x.kind.toNat
 refine AC_seq (AC_region ?_)
 refine s_ (S_box rfl (.tmp rfl)) ?_
 rintro _ _ ⟨b1, rfl, rfl⟩
 refine ac rfl rfl rfl ?_
 refine AL_nil (AC_seq (AC_region ?_))
 refine fl 0 ?_
 refine ld 0 ?_
 refine p_ (S_gcall rfl (AEvs.cons (.tmp rfl) AEvs.nil) ((ask_of_ok x.kind) _ (fun p hp => by repeat (first | exact hG p hp | refine List.mem_cons_of_mem _ ?_ | refine List.mem_append_right _ ?_)))) ?_
 refine mv rfl rfl rfl rfl ?_
 refine ex 0 ?_
 refine ex 1 ?_
 refine s_ (S_alloc [.string ⟨#[]⟩, .string ⟨#[]⟩] rfl (by kernel_rfl)) ?_
 rintro _ _ ⟨b3, rfl, rfl⟩
 refine stW 0 ?_
 refine as_ rfl rfl rfl rfl ?_
 refine AL_nil ?_
 refine AC_seq ?_
 refine AC_seq (AC_region ?_)
 refine mv rfl rfl rfl rfl ?_
 refine p_ (S_not rfl (.tmp rfl)) ?_
 refine AL_nil ?_
 refine AC_cond (.tmp rfl) (fun hb3 => ?_) (fun hb3 => ?_)
 ·try simp only [zA,zO,zN,zM,zP,zQ,zD,zF,gd] at hb3
  have hx : checkA x = some (80, [kindN]) := check_kind (by simpa using hb3)
  refine AC_seq (AC_region ?_)
  refine p_ (S_buildSlice (e := 9) 1 rfl (AEvs.cons (AEv.S _) AEvs.nil) rfl (by kernel_rfl) (by kernel_rfl) (by intro y hy; simp only [List.mem_cons, List.not_mem_nil, or_false] at hy; rcases hy with rfl <;> exact ⟨rfl, rfl⟩) (by decide) (by decide) (by decide)) ?_
  refine p_ (S_pcall rfl (AEvs.cons (AEv.const _) (AEvs.cons (.tmp rfl) AEvs.nil)) (fail_New_ok 80 [kindN] (by simp))) ?_
  refine as_ rfl rfl rfl rfl ?_
  refine AL_nil (AC_ret ?_)
  refine ret_tmp st rfl rfl (Sub.l ((List.sublist_cons_self _ _).trans (List.sublist_cons_self _ _))) (Conv.refl (Sub.l ((List.sublist_cons_self _ _).trans (List.sublist_cons_self _ _))) _) ⟨by rw [hx] <;> rfl, rfl⟩ (.inl rfl)
 try simp only [zA,zO,zN,zM,zP,zQ,zD,zF,gd] at hb3
 have hk : 1 ≤ x.kind ∧ x.kind < 13 := by simpa using hb3
 refine AC_skip ?_
 refine AC_seq ?_
 refine AC_seq (AC_region ?_)
 refine fl 1 ?_
 refine ld 0 ?_
 refine p_ (S_lenS (ts := #[]) rfl (.tmp rfl) (by kernel_rfl)) ?_
 refine p_ (S_move rfl (AEv.const _)) ?_
 refine AL_nil ?_
 refine AC_block ?_
 refine AC_loopK (G := Nat) [(1, _), (3, _), (19, _)] (fun g => g ≤ (kindA x.kind.toNat).2.length ∧ ∀ j (h : j < (kindA x.kind.toNat).2.length), j < g → fieldE x ((kindA x.kind.toNat).2[j]'h) = none) (fun g => [(20, .int .i64 (g : Int))]) (fun g => (b3, .cells [.S (kindA x.kind.toNat).1, .S (kindA x.kind.toNat).2]) :: (b1, .cells (calL x)) :: st) (fun g => (kindA x.kind.toNat).2.length - g) (0) (⟨Nat.zero_le _, fun j _ h => absurd h (Nat.not_lt_zero _)⟩) (Sub.l (List.Sublist.refl _)) (.cons rfl (Le.refl _) (.cons rfl (Le.refl _) (.cons rfl (Le.refl _) .nil))) (.cons rfl (by first | exact Le.refl _ | exact Le.nils | exact Le.row _ _ _ _ | exact Le.of_eq (by first | rfl | (simp; done) | (push_cast; rfl) | (simp; omega))) .nil) ?_
 rintro i ⟨hi, hall⟩
 try dsimp only
 simp only [List.cons_append, List.nil_append]
 refine AC_seq (AC_region ?_)
 refine p_ (S_lss rfl (.tmp rfl) (.tmp rfl)) ?_
 refine AL_nil ?_
 refine AC_seq ?_
 refine AC_cond (.tmp rfl) (fun hb4 => ?_) (fun hb4 => ?_)
 ·try simp only [zA,zO,zN,zM,zP,zQ,zD,zF,gd] at hb4
  have hil : i < (kindA x.kind.toNat).2.length := by omega
  refine AC_skip ?_
  refine AC_seq ?_
  refine AC_block ?_
  refine AC_seq (AC_region ?_)
  refine mv rfl rfl rfl rfl ?_
  refine as_ rfl rfl rfl rfl ?_
  refine AL_nil ?_
  refine AC_seq ?_
  refine AC_draw (by kernel_rfl) (by kernel_rfl) (.cons rfl (Q_p rfl (S_loadN (m := 16) 1 rfl (.tmp rfl) rfl (by kernel_rfl) (by first | exact Nat.le_of_ble_eq_true rfl | (simp; omega) | simp))) <|
    .cons rfl (Q_p rfl (S_field 1 rfl (.tmp rfl) (by kernel_rfl))) <|
    .cons rfl (Q_p rfl (S_load 0 rfl (.tmp rfl) rfl rfl (by kernel_rfl))) <|
    .cons rfl (Q_p rfl (S_move rfl (.tmp rfl))) <|
    .cons rfl (Q_p rfl ((S_index rfl (.tmp rfl) (.tmp rfl) (by kernel_rfl) (by omega) (by omega)).ofV (congrArg _ (atL_get hil)))) <|
    .cons rfl (Q_p rfl (S_gcall rfl (AEvs.cons (.tmp rfl) (AEvs.cons (.tmp rfl) AEvs.nil)) ((ask_field_ok x ((kindA x.kind.toNat).2[i]'hil) hx0) _ (fun p hp => by repeat (first | exact hG p hp | refine List.mem_cons_of_mem _ ?_ | refine List.mem_append_right _ ?_))))) <|
    .cons rfl (Q_p rfl (S_assign rfl (.tmp rfl))) <|
    .nil) ?_
  refine AC_seq (AC_region ?_)
  refine mv rfl rfl rfl rfl ?_
  refine p_ (S_neqE (er_is 45 185 (fieldE x ((kindA x.kind.toNat).2[i]'hil))) rfl (.tmp rfl) (by kernel_rfl)) ?_
  refine AL_nil ?_
  refine AC_cond (.tmp rfl) (fun hb5 => ?_) (fun hb5 => ?_)
  ·try simp only [zA,zO,zN,zM,zP,zQ,zD,zF,gd] at hb5
   have hx : checkA x = fieldE x ((kindA x.kind.toNat).2[i]'hil) := check_field hk hil (fun j h h9 => hall j h h9) (fun h => by rw [h] at hb5; simp at hb5)
   refine AC_seq (AC_region ?_)
   refine mv rfl rfl rfl rfl ?_
   refine as_ rfl rfl rfl rfl ?_
   refine AL_nil (AC_ret ?_)
   refine ret_tmp st rfl rfl (Sub.l ((List.sublist_cons_self _ _).trans (List.sublist_cons_self _ _))) (Conv.refl (Sub.l ((List.sublist_cons_self _ _).trans (List.sublist_cons_self _ _))) _) ⟨by rw [hx] <;> rfl, rfl⟩ (.inl rfl)
  try simp only [zA,zO,zN,zM,zP,zQ,zD,zF,gd] at hb5
  have hne : fieldE x ((kindA x.kind.toNat).2[i]'hil) = none := by simpa using hb5
  refine AC_skip ?_
  refine AC_region ?_
  refine p_ (S_addI rfl (.tmp rfl) (AEv.const _) (by omega) (by omega)) ?_
  refine mv rfl rfl rfl rfl ?_
  refine AL_nil ?_
  refine ⟨i + 1, ⟨by omega, fun j h1 h => ?_⟩, by omega, (Sub.l (List.Sublist.refl _)), (.cons rfl (by first | exact Le.refl _ | exact Le.nils | exact Le.row _ _ _ _ | exact Le.of_eq (by first | rfl | (simp; done) | (push_cast; rfl) | (simp; omega))) .nil), (.cons rfl (Le.refl _) (.cons rfl (Le.refl _) (.cons rfl (Le.refl _) .nil)))⟩
  rcases Nat.lt_or_ge j i with h' | h'
  ·exact hall j h1 h'
  ·have : j = i := by omega
   subst this
   exact hne
 try simp only [zA,zO,zN,zM,zP,zQ,zD,zF,gd] at hb4
 have hfn : ∀ f ∈ (kindA x.kind.toNat).2, fieldE x f = none := fun f hf => by
  obtain ⟨j, hj, rfl⟩ := List.getElem_of_mem hf
  exact hall j hj (by omega)
 refine AC_exit ?_
 refine AC_seq ?_
 refine AC_seq (AC_region ?_)
 refine ldN 16 1 ?_
 refine ldN 2 0 ?_
 refine p_ (S_pcall rfl (AEvs.cons (y := calAV x) (.tmp rfl) (AEvs.cons (y := .agg [.S (kindA x.kind.toNat).1, .S (kindA x.kind.toNat).2]) (.tmp rfl) AEvs.nil)) (ask_clean_ok x x.kind.toNat hx0)) ?_
 refine p_ (S_not rfl (.tmp rfl)) ?_
 refine AL_nil ?_
 refine AC_cond (.tmp rfl) (fun hb6 => ?_) (fun hb6 => ?_)
 ·try simp only [zA,zO,zN,zM,zP,zQ,zD,zF,gd] at hb6
  have hx : checkA x = some (4, [callN]) := check_unclean hk hfn (by simpa using hb6)
  refine AC_seq (AC_region ?_)
  refine p_ (S_buildSlice (e := 9) 1 rfl (AEvs.cons (AEv.S _) AEvs.nil) rfl (by kernel_rfl) (by kernel_rfl) (by intro y hy; simp only [List.mem_cons, List.not_mem_nil, or_false] at hy; rcases hy with rfl <;> exact ⟨rfl, rfl⟩) (by decide) (by decide) (by decide)) ?_
  refine p_ (S_pcall rfl (AEvs.cons (AEv.const _) (AEvs.cons (.tmp rfl) AEvs.nil)) (fail_New_ok 4 [callN] (by simp))) ?_
  refine as_ rfl rfl rfl rfl ?_
  refine AL_nil (AC_ret ?_)
  refine ret_tmp st rfl rfl (Sub.l ((List.sublist_cons_self _ _).trans (List.sublist_cons_self _ _))) (Conv.refl (Sub.l ((List.sublist_cons_self _ _).trans (List.sublist_cons_self _ _))) _) ⟨by rw [hx] <;> rfl, rfl⟩ (.inl rfl)
 try simp only [zA,zO,zN,zM,zP,zQ,zD,zF,gd] at hb6
 have hx : checkA x = none := check_clean hk hfn (by simpa using hb6)
 refine AC_skip ?_
 refine AC_seq (AC_region ?_)
 refine ac rfl rfl rfl ?_
 refine AL_nil (AC_ret ?_)
 refine ret_tmp st rfl rfl (Sub.l ((List.sublist_cons_self _ _).trans (List.sublist_cons_self _ _))) (Conv.refl (Sub.l ((List.sublist_cons_self _ _).trans (List.sublist_cons_self _ _))) _) ⟨by rw [hx] <;> rfl, rfl⟩ (.inl rfl)
end Go.Proofs.YtfpkefhjomeeeaaGreatDoor

set_option maxRecDepth 100000
namespace Go.Proofs.YtfpkefhjomeeeaaGreatDoor
open Go.AL Go.NumSpec
theorem ask_put_ok (b : Nat) (u2 : Bool) (q2 : Buf) (l : List UInt8) (c : Int) (hq2 : q2.ok l)  (hl : l.length + 20000 ≤ 100000000000) (x : Cal) (f : UInt8) (hx0 : ShortA x) (hu : x.rev < 18446744073709551616) (hfe : fieldE x f = none) (F : St) (hG : ∀ r, r ∈ Gs tabs → r ∈ F) : ACalls Tryz.prog 51 [.ptr b 0, calAV x, .int .u8 (f.toNat : Int)] (((b, .cells [addrB u2 b 157 3, bufAV q2 (l), .int .i64 (c)]) :: bufSt q2 5 (l)) ++ F) (fun v9 st' => ∃ foot', (∃ (u' : Bool) (q' : Buf), q'.ok (wput c l (fieldB x f)) ∧ v9 = .tup [] ∧ foot' = (b, .cells [addrB u' b 157 3, bufAV q' (wput c l (fieldB x f)), .int .i64 (c)]) :: bufSt q' 5 (wput c l (fieldB x f))) ∧ st' = foot' ++ F) := by
 refine co 61 Tryz.func51 ?_
 refine AC_seq (AC_region ?_)
 refine s_ (S_box rfl (.tmp rfl)) ?_
 rintro _ _ ⟨b4, rfl, rfl⟩
 refine AL_nil (AC_seq (AC_region ?_))
 refine mv rfl rfl rfl rfl ?_
 refine AL_nil ?_
 refine AC_block ?_
 refine AC_seq (AC_region ?_)
 refine p_ (S_eql rfl (.tmp rfl) (AEv.const _)) ?_
 refine as_ rfl rfl rfl rfl ?_
 refine AL_nil ?_
 refine AC_cond (.tmp rfl) (fun hb2 => ?_) (fun hb2 => ?_)
 ·try simp only [zA,zO,zN,zM,zP,zQ,zD,zF,gd] at hb2
  obtain rfl : f = 117 := u8_eq hb2
  have hfo : 0 ≤ x.uid ∧ x.uid ≤ 1073741824 := field_ok hu hfe
  refine AC_region ?_
  refine mv rfl rfl rfl rfl ?_
  refine fl 1 ?_
  refine ld 0 ?_
  refine s_ (S_call rfl (AEvs.cons (.tmp rfl) (AEvs.cons (.tmp rfl) AEvs.nil)) (ACalls.preQ (pre := [_]) (F := F) (w_NumN b u2 q2 _ c hq2 (by first | omega | (refine Nat.le_trans (Nat.add_le_add_right (wput_len _ _ _) _) ?_; (try simp only [List.length_append]); omega)) x.uid (by omega) (by omega) _))) ?_
  rintro _ _ ⟨_, ⟨u2, q2, hq2, rfl, rfl⟩, rfl⟩
  refine AL_nil ?_
  refine ret_none (((b, .cells [addrB u2 b 157 3, bufAV q2 (wput c l (fieldB x 117)), .int .i64 (c)]) :: bufSt q2 5 (wput c l (fieldB x 117))) ++ F) rfl (Sub.l (List.sublist_cons_self _ _)) ⟨_, ⟨u2, q2, hq2, rfl, rfl⟩, rfl⟩ (.inr rfl)
 try simp only [zA,zO,zN,zM,zP,zQ,zD,zF,gd] at hb2
 have hf117 : ¬ f = 117 := fun h => hb2 (by rw [h]; rfl)
 refine AC_seq (AC_region ?_)
 refine p_ (S_eql rfl (.tmp rfl) (AEv.const _)) ?_
 refine as_ rfl rfl rfl rfl ?_
 refine AL_nil ?_
 refine AC_cond (.tmp rfl) (fun hb3 => ?_) (fun hb3 => ?_)
 ·try simp only [zA,zO,zN,zM,zP,zQ,zD,zF,gd] at hb3
  obtain rfl : f = 114 := u8_eq hb3
  have hfo : x.rev < 18446744073709551616 := field_ok hu hfe
  refine AC_region ?_
  refine mv rfl rfl rfl rfl ?_
  refine fl 2 ?_
  refine ld 0 ?_
  refine s_ (S_call rfl (AEvs.cons (.tmp rfl) (AEvs.cons (.tmp rfl) AEvs.nil)) (ACalls.preQ (pre := [_]) (F := F) (w_Big_ok b u2 q2 _ c hq2 x.rev hfo (by omega) _))) ?_
  rintro _ _ ⟨_, ⟨u2, q2, hq2, rfl, rfl⟩, rfl⟩
  refine AL_nil ?_
  refine ret_none (((b, .cells [addrB u2 b 157 3, bufAV q2 (wput c l (fieldB x 114)), .int .i64 (c)]) :: bufSt q2 5 (wput c l (fieldB x 114))) ++ F) rfl (Sub.l (List.sublist_cons_self _ _)) ⟨_, ⟨u2, q2, hq2, rfl, rfl⟩, rfl⟩ (.inr rfl)
 try simp only [zA,zO,zN,zM,zP,zQ,zD,zF,gd] at hb3
 have hf114 : ¬ f = 114 := fun h => hb3 (by rw [h]; rfl)
 refine AC_seq (AC_region ?_)
 refine p_ (S_eql rfl (.tmp rfl) (AEv.const _)) ?_
 refine as_ rfl rfl rfl rfl ?_
 refine AL_nil ?_
 refine AC_cond (.tmp rfl) (fun hb4 => ?_) (fun hb4 => ?_)
 ·try simp only [zA,zO,zN,zM,zP,zQ,zD,zF,gd] at hb4
  obtain rfl : f = 115 := u8_eq hb4
  have hck : checkE x.spec = none := erIn_none hfe
  refine AC_region ?_
  refine mv rfl rfl rfl rfl ?_
  refine fl 3 ?_
  refine ldN 7 0 ?_
  refine s_ (S_call rfl (AEvs.cons (.tmp rfl) (AEvs.cons (.tmp rfl) AEvs.nil)) (ACalls.preQ (pre := [_]) (F := F) (pack_Put_ok b u2 q2 _ c hq2 (by first | omega | (refine Nat.le_trans (Nat.add_le_add_right (wput_len _ _ _) _) ?_; (try simp only [List.length_append]); omega)) x.spec hx0.1 _ (fun r hr => List.mem_append_right _ (hG r hr))))) ?_
  rintro _ _ ⟨_, ⟨u2, q2, hq2, rfl, rfl⟩, rfl⟩
  rw [if_pos hck] at hq2
  rw [if_pos hck, if_pos hck]
  refine AL_nil ?_
  refine ret_none (((b, .cells [addrB u2 b 157 3, bufAV q2 (wput c l (fieldB x 115)), .int .i64 (c)]) :: bufSt q2 5 (wput c l (fieldB x 115))) ++ F) rfl (Sub.l (List.sublist_cons_self _ _)) ⟨_, ⟨u2, q2, hq2, rfl, rfl⟩, rfl⟩ (.inr rfl)
 try simp only [zA,zO,zN,zM,zP,zQ,zD,zF,gd] at hb4
 have hf115 : ¬ f = 115 := fun h => hb4 (by rw [h]; rfl)
 refine AC_seq (AC_region ?_)
 refine p_ (S_eql rfl (.tmp rfl) (AEv.const _)) ?_
 refine as_ rfl rfl rfl rfl ?_
 refine AL_nil ?_
 refine AC_cond (.tmp rfl) (fun hb5 => ?_) (fun hb5 => ?_)
 ·try simp only [zA,zO,zN,zM,zP,zQ,zD,zF,gd] at hb5
  obtain rfl : f = 103 := u8_eq hb5
  have hfo : 0 ≤ x.grace ∧ x.grace ≤ 1000 := field_ok hu hfe
  refine AC_region ?_
  refine mv rfl rfl rfl rfl ?_
  refine fl 10 ?_
  refine ld 0 ?_
  refine s_ (S_call rfl (AEvs.cons (.tmp rfl) (AEvs.cons (.tmp rfl) AEvs.nil)) (ACalls.preQ (pre := [_]) (F := F) (w_NumN b u2 q2 _ c hq2 (by first | omega | (refine Nat.le_trans (Nat.add_le_add_right (wput_len _ _ _) _) ?_; (try simp only [List.length_append]); omega)) x.grace (by omega) (by omega) _))) ?_
  rintro _ _ ⟨_, ⟨u2, q2, hq2, rfl, rfl⟩, rfl⟩
  refine AL_nil ?_
  refine ret_none (((b, .cells [addrB u2 b 157 3, bufAV q2 (wput c l (fieldB x 103)), .int .i64 (c)]) :: bufSt q2 5 (wput c l (fieldB x 103))) ++ F) rfl (Sub.l (List.sublist_cons_self _ _)) ⟨_, ⟨u2, q2, hq2, rfl, rfl⟩, rfl⟩ (.inr rfl)
 try simp only [zA,zO,zN,zM,zP,zQ,zD,zF,gd] at hb5
 have hf103 : ¬ f = 103 := fun h => hb5 (by rw [h]; rfl)
 refine AC_seq (AC_region ?_)
 refine p_ (S_eql rfl (.tmp rfl) (AEv.const _)) ?_
 refine as_ rfl rfl rfl rfl ?_
 refine AL_nil ?_
 refine AC_cond (.tmp rfl) (fun hb6 => ?_) (fun hb6 => ?_)
 ·try simp only [zA,zO,zN,zM,zP,zQ,zD,zF,gd] at hb6
  obtain rfl : f = 99 := u8_eq hb6
  have hfo : 0 ≤ x.ctr ∧ x.ctr ≤ 3 := field_ok hu hfe
  refine AC_region ?_
  refine mv rfl rfl rfl rfl ?_
  refine fl 11 ?_
  refine ld 0 ?_
  refine s_ (S_call rfl (AEvs.cons (.tmp rfl) (AEvs.cons (.tmp rfl) AEvs.nil)) (ACalls.preQ (pre := [_]) (F := F) (w_NumN b u2 q2 _ c hq2 (by first | omega | (refine Nat.le_trans (Nat.add_le_add_right (wput_len _ _ _) _) ?_; (try simp only [List.length_append]); omega)) x.ctr (by omega) (by omega) _))) ?_
  rintro _ _ ⟨_, ⟨u2, q2, hq2, rfl, rfl⟩, rfl⟩
  refine AL_nil ?_
  refine ret_none (((b, .cells [addrB u2 b 157 3, bufAV q2 (wput c l (fieldB x 99)), .int .i64 (c)]) :: bufSt q2 5 (wput c l (fieldB x 99))) ++ F) rfl (Sub.l (List.sublist_cons_self _ _)) ⟨_, ⟨u2, q2, hq2, rfl, rfl⟩, rfl⟩ (.inr rfl)
 try simp only [zA,zO,zN,zM,zP,zQ,zD,zF,gd] at hb6
 have hf99 : ¬ f = 99 := fun h => hb6 (by rw [h]; rfl)
 refine AC_seq (AC_region ?_)
 refine p_ (S_eql rfl (.tmp rfl) (AEv.const _)) ?_
 refine as_ rfl rfl rfl rfl ?_
 refine AL_nil ?_
 refine AC_cond (.tmp rfl) (fun hb7 => ?_) (fun hb7 => ?_)
 ·try simp only [zA,zO,zN,zM,zP,zQ,zD,zF,gd] at hb7
  obtain rfl : f = 105 := u8_eq hb7
  have hfo : 0 ≤ x.id ∧ x.id ≤ 1073741824 := field_ok hu hfe
  refine AC_region ?_
  refine mv rfl rfl rfl rfl ?_
  refine fl 12 ?_
  refine ld 0 ?_
  refine s_ (S_call rfl (AEvs.cons (.tmp rfl) (AEvs.cons (.tmp rfl) AEvs.nil)) (ACalls.preQ (pre := [_]) (F := F) (w_NumN b u2 q2 _ c hq2 (by first | omega | (refine Nat.le_trans (Nat.add_le_add_right (wput_len _ _ _) _) ?_; (try simp only [List.length_append]); omega)) x.id (by omega) (by omega) _))) ?_
  rintro _ _ ⟨_, ⟨u2, q2, hq2, rfl, rfl⟩, rfl⟩
  refine AL_nil ?_
  refine ret_none (((b, .cells [addrB u2 b 157 3, bufAV q2 (wput c l (fieldB x 105)), .int .i64 (c)]) :: bufSt q2 5 (wput c l (fieldB x 105))) ++ F) rfl (Sub.l (List.sublist_cons_self _ _)) ⟨_, ⟨u2, q2, hq2, rfl, rfl⟩, rfl⟩ (.inr rfl)
 try simp only [zA,zO,zN,zM,zP,zQ,zD,zF,gd] at hb7
 have hf105 : ¬ f = 105 := fun h => hb7 (by rw [h]; rfl)
 refine AC_seq (AC_region ?_)
 refine p_ (S_eql rfl (.tmp rfl) (AEv.const _)) ?_
 refine as_ rfl rfl rfl rfl ?_
 refine AL_nil ?_
 refine AC_cond (.tmp rfl) (fun hb8 => ?_) (fun hb8 => ?_)
 ·try simp only [zA,zO,zN,zM,zP,zQ,zD,zF,gd] at hb8
  obtain rfl : f = 109 := u8_eq hb8
  have hfo : 0 ≤ x.most ∧ x.most ≤ 32 := field_ok hu hfe
  refine AC_region ?_
  refine mv rfl rfl rfl rfl ?_
  refine fl 13 ?_
  refine ld 0 ?_
  refine s_ (S_call rfl (AEvs.cons (.tmp rfl) (AEvs.cons (.tmp rfl) AEvs.nil)) (ACalls.preQ (pre := [_]) (F := F) (w_NumN b u2 q2 _ c hq2 (by first | omega | (refine Nat.le_trans (Nat.add_le_add_right (wput_len _ _ _) _) ?_; (try simp only [List.length_append]); omega)) x.most (by omega) (by omega) _))) ?_
  rintro _ _ ⟨_, ⟨u2, q2, hq2, rfl, rfl⟩, rfl⟩
  refine AL_nil ?_
  refine ret_none (((b, .cells [addrB u2 b 157 3, bufAV q2 (wput c l (fieldB x 109)), .int .i64 (c)]) :: bufSt q2 5 (wput c l (fieldB x 109))) ++ F) rfl (Sub.l (List.sublist_cons_self _ _)) ⟨_, ⟨u2, q2, hq2, rfl, rfl⟩, rfl⟩ (.inr rfl)
 try simp only [zA,zO,zN,zM,zP,zQ,zD,zF,gd] at hb8
 have hf109 : ¬ f = 109 := fun h => hb8 (by rw [h]; rfl)
 refine AC_seq (AC_region ?_)
 refine p_ (S_eql rfl (.tmp rfl) (AEv.const _)) ?_
 refine as_ rfl rfl rfl rfl ?_
 refine AL_nil ?_
 refine AC_cond (.tmp rfl) (fun hb9 => ?_) (fun hb9 => ?_)
 ·try simp only [zA,zO,zN,zM,zP,zQ,zD,zF,gd] at hb9
  obtain rfl : f = 100 := u8_eq hb9
  have hfo : (x.data.length : Int) ≤ 32 := field_ok hu hfe
  refine AC_region ?_
  refine mv rfl rfl rfl rfl ?_
  refine fl 14 ?_
  refine ld 0 ?_
  refine s_ (S_call rfl (AEvs.cons (.tmp rfl) (AEvs.cons (.tmp rfl) AEvs.nil)) (ACalls.preQ (pre := [_]) (F := F) (w_TextN b u2 q2 _ c hq2 (by first | omega | (refine Nat.le_trans (Nat.add_le_add_right (wput_len _ _ _) _) ?_; (try simp only [List.length_append]); omega)) x.data (by omega) (by first | omega | (refine Nat.le_trans (Nat.add_le_add_right (wput_len _ _ _) _) ?_; (try simp only [List.length_append]); omega)) _))) ?_
  rintro _ _ ⟨_, ⟨u2, q2, hq2, rfl, rfl⟩, rfl⟩
  refine AL_nil ?_
  refine ret_none (((b, .cells [addrB u2 b 157 3, bufAV q2 (wput c l (fieldB x 100)), .int .i64 (c)]) :: bufSt q2 5 (wput c l (fieldB x 100))) ++ F) rfl (Sub.l (List.sublist_cons_self _ _)) ⟨_, ⟨u2, q2, hq2, rfl, rfl⟩, rfl⟩ (.inr rfl)
 try simp only [zA,zO,zN,zM,zP,zQ,zD,zF,gd] at hb9
 have hf100 : ¬ f = 100 := fun h => hb9 (by rw [h]; rfl)
 refine AC_seq (AC_region ?_)
 refine p_ (S_eql rfl (.tmp rfl) (AEv.const _)) ?_
 refine as_ rfl rfl rfl rfl ?_
 refine AL_nil ?_
 refine AC_cond (.tmp rfl) (fun hb10 => ?_) (fun hb10 => ?_)
 ·try simp only [zA,zO,zN,zM,zP,zQ,zD,zF,gd] at hb10
  obtain rfl : f = 108 := u8_eq hb10
  have hfo : LabsOk x.sel := field_ok hu hfe
  have hfl := hfo.1
  refine AC_region ?_
  refine mv rfl rfl rfl rfl ?_
  refine fl 15 ?_
  refine ld 0 ?_
  refine s_ (S_call rfl (AEvs.cons (.tmp rfl) (AEvs.cons (.tmp rfl) AEvs.nil)) (ACalls.preQ (pre := [_]) (F := F) (PutLabels_ok b u2 q2 _ c hq2 x.sel (by first | omega | (refine Nat.le_trans (Nat.add_le_add_right (wput_len _ _ _) _) ?_; (try simp only [List.length_append]); omega)) (by omega) (fun y hy => ⟨by have := (hfo.2 y hy).1; omega, by have := (hfo.2 y hy).2; omega⟩) _))) ?_
  rintro _ _ ⟨_, ⟨u2, q2, hq2, rfl, rfl⟩, rfl⟩
  refine AL_nil ?_
  refine ret_none (((b, .cells [addrB u2 b 157 3, bufAV q2 (wput c l (fieldB x 108)), .int .i64 (c)]) :: bufSt q2 5 (wput c l (fieldB x 108))) ++ F) rfl (Sub.l (List.sublist_cons_self _ _)) ⟨_, ⟨u2, q2, hq2, rfl, rfl⟩, rfl⟩ (.inr rfl)
 try simp only [zA,zO,zN,zM,zP,zQ,zD,zF,gd] at hb10
 have hf108 : ¬ f = 108 := fun h => hb10 (by rw [h]; rfl)
 have hx : fieldB x f = [] := by unfold fieldB; simp only [hf117, hf114, hf115, hf103, hf99, hf105, hf109, hf100, hf108, if_false]
 refine AC_skip ?_
 refine ret_none (((b, .cells [addrB u2 b 157 3, bufAV q2 (l), .int .i64 (c)]) :: bufSt q2 5 (l)) ++ F) rfl (Sub.l (List.sublist_cons_self _ _)) ⟨_, ⟨u2, q2, by rw [hx, wput_nil]; exact hq2, rfl, by rw [hx, wput_nil]⟩, rfl⟩ (.inr rfl)
theorem ask_Bytes_ok (x : Cal) (hx0 : ShortA x) (hu : x.rev < 18446744073709551616) : GCalls Tryz.prog tabs 22 [calAV x] (.tup [.S (if checkA x = none then calB x else []), .int .i64 (erCode (checkA x))]) := by
 intro st hG
 refine co 42 Tryz.func22 ?_
 refine AC_seq (AC_region ?_)
 refine s_ (S_box rfl (.tmp rfl)) ?_
 rintro _ _ ⟨b1, rfl, rfl⟩
 refine p_ (S_assign rfl (AEv.S _)) ?_
 refine ac rfl rfl rfl ?_
 refine AL_nil ?_
 refine AC_seq ?_
 refine AC_seq (AC_region ?_)
 refine ldN 16 0 ?_
 refine p_ (S_gcall rfl (AEvs.cons (.tmp rfl) AEvs.nil) ((ask_Check_ok x hx0) _ (fun p hp => by repeat (first | exact hG p hp | refine List.mem_cons_of_mem _ ?_ | refine List.mem_append_right _ ?_)))) ?_
 refine as_ rfl rfl rfl rfl ?_
 refine AL_nil (AC_seq (AC_region ?_))
 refine mv rfl rfl rfl rfl ?_
 refine p_ (S_neqE (er_is 45 185 (checkA x)) rfl (.tmp rfl) (by kernel_rfl)) ?_
 refine AL_nil ?_
 refine AC_cond (.tmp rfl) (fun hb2 => ?_) (fun hb2 => ?_)
 ·try simp only [zA,zO,zN,zM,zP,zQ,zD,zF,gd] at hb2
  have hk : ¬ checkA x = none := fun h => by rw [h] at hb2; simp at hb2
  refine AC_seq (AC_region ?_)
  refine mv rfl rfl rfl rfl ?_
  refine p_ (S_gcall rfl (AEvs.cons (.tmp rfl) AEvs.nil) ((fail_Code_ok (checkA x)) _ (fun p hp => by repeat (first | exact hG p hp | refine List.mem_cons_of_mem _ ?_ | refine List.mem_append_right _ ?_)))) ?_
  refine p_ (S_assign rfl (AEv.S _)) ?_
  refine as_ rfl rfl rfl rfl ?_
  refine AL_nil (AC_ret ?_)
  refine ret_tmps (ts := [2, 3]) st rfl (by decide) rfl (Sub.l (List.sublist_cons_self _ _)) (Conv.refl (Sub.l (List.sublist_cons_self _ _)) _) ⟨by rw [if_neg hk] <;> rfl, rfl⟩ (.inl rfl)
 try simp only [zA,zO,zN,zM,zP,zQ,zD,zF,gd] at hb2
 have hk : checkA x = none := by simpa using hb2
 obtain ⟨hcal, hff⟩ := checkA_ok hu hk
 have hk1 := hcal.1.1
 have hk2 := hcal.1.2
 have hfw := fields_few x.kind.toNat
 have hkl := numB_len (n := x.kind) (by omega)
 have h00 : ([] : List UInt8).length = 0 := rfl
 refine AC_skip ?_
 refine AC_seq (AC_region ?_)
 refine s_ (S_call rfl AEvs.nil (wire_Write_ok _)) ?_
 rintro _ _ ⟨_, ⟨b4, rfl, rfl⟩, rfl⟩
 refine as_ rfl rfl rfl rfl ?_
 refine AL_nil (AC_seq (AC_region ?_))
 refine mv rfl rfl rfl rfl ?_
 refine fl 0 ?_
 refine ld 1 ?_
 refine s_ (S_call rfl (AEvs.cons (.tmp rfl) (AEvs.cons (.tmp rfl) AEvs.nil)) (w_NumN b4 false .nil [] 0 rfl (by decide) x.kind (by omega) (by omega) _)) ?_
 rintro _ _ ⟨_, ⟨u2, q2, hq2, rfl, rfl⟩, rfl⟩
 refine AL_nil ?_
 refine AC_seq ?_
 refine AC_seq (AC_region ?_)
 refine fl 0 ?_
 refine p_ (S_loadM rfl (.tmp rfl) (by repeat (first | exact List.mem_cons_self | refine List.mem_append_right _ ?_ | refine List.mem_cons_of_mem _ ?_)) rfl (by kernel_rfl)) ?_
 refine p_ (S_elemA (e := 107) (len := 13) (i := x.kind) 2 rfl (AEv.global _) (.tmp rfl) (by kernel_rfl) (by kernel_rfl) (by omega) (by omega)) ?_
 refine fl 1 ?_
 refine p_ (S_loadK (vs := kindsV) (u := .string ⟨(kindA x.kind.toNat).2.toArray⟩) rfl (.tmp rfl) (by repeat (first | exact hG _ tab_kinds | exact List.mem_cons_self | refine List.mem_append_right _ ?_ | refine List.mem_cons_of_mem _ ?_)) (kindT_fields (by omega) (by omega)) (by kernel_rfl)) ?_
 refine p_ (S_lenS (ts := #[]) rfl (.tmp rfl) (by kernel_rfl)) ?_
 refine p_ (S_move rfl (AEv.const _)) ?_
 refine AL_nil ?_
 refine AC_block ?_
 refine AC_loopK (G := Nat × Bool × Buf) [(1, _), (2, _), (3, _), (5, _), (23, _)] (fun g => g.1 ≤ (kindA x.kind.toNat).2.length ∧ g.2.2.ok (wput 0 [] (numB x.kind ++ ((kindA x.kind.toNat).2.take g.1).flatMap (fieldB x)))) (fun g => [(24, .int .i64 (g.1 : Int))]) (fun g => ((b4, .cells [addrB g.2.1 b4 157 3, bufAV g.2.2 (wput 0 [] (numB x.kind ++ ((kindA x.kind.toNat).2.take g.1).flatMap (fieldB x))), .int .i64 (0)]) :: bufSt g.2.2 5 (wput 0 [] (numB x.kind ++ ((kindA x.kind.toNat).2.take g.1).flatMap (fieldB x)))) ++ ((b1, .cells (calL x)) :: st)) (fun g => (kindA x.kind.toNat).2.length - g.1) ((0, u2, q2)) (⟨Nat.zero_le _, by simpa using hq2⟩) (by simp only [List.take_zero, List.flatMap_nil, List.append_nil]; exact (Sub.l (List.Sublist.refl _))) (.cons rfl (Le.refl _) (.cons rfl (Le.refl _) (.cons rfl (Le.refl _) (.cons rfl (Le.refl _) (.cons rfl (Le.refl _) .nil))))) (.cons rfl (by first | exact Le.refl _ | exact Le.nils | exact Le.row _ _ _ _ | exact Le.of_eq (by first | rfl | (simp; done) | (push_cast; rfl) | (simp; omega))) .nil) ?_
 rintro ⟨i, u2, q2⟩ ⟨hi, hq2⟩
 try dsimp only
 simp only [List.cons_append, List.nil_append]
 dsimp only at hi hq2
 have hfm := flatB_len (e := fieldB x) (B := 20000) (l := (kindA x.kind.toNat).2.take i) fun f hf => fieldB_few hu (hff f (List.mem_of_mem_take hf))
 rw [List.length_take, show min i (kindA x.kind.toNat).2.length = i by omega] at hfm
 refine AC_seq (AC_region ?_)
 refine p_ (S_lss rfl (.tmp rfl) (.tmp rfl)) ?_
 refine AL_nil ?_
 refine AC_seq ?_
 refine AC_cond (.tmp rfl) (fun hb3 => ?_) (fun hb3 => ?_)
 ·try simp only [zA,zO,zN,zM,zP,zQ,zD,zF,gd] at hb3
  have hil : i < (kindA x.kind.toNat).2.length := by omega
  refine AC_skip ?_
  refine AC_seq ?_
  refine AC_block ?_
  refine AC_seq (AC_region ?_)
  refine mv rfl rfl rfl rfl ?_
  refine as_ rfl rfl rfl rfl ?_
  refine AL_nil ?_
  refine AC_plan (σ := [(0, 0), (1, 0), (2, 0), (3, 0), (4, 0), (5, 0), (6, 0), (7, 0), (8, 0), (9, 2)]) (by kernel_rfl) ((b1, Ob.cells (calL x)) :: Gs tabs) (by kernel_rfl) (fun r hr => by
   rcases List.mem_cons.1 hr with rfl | hr
   ·repeat (first | exact List.mem_cons_self | refine List.mem_append_right _ ?_ | refine List.mem_cons_of_mem _ ?_)
   ·repeat (first | exact hG r hr | refine List.mem_append_right _ ?_ | refine List.mem_cons_of_mem _ ?_)) ?_
  refine AG.f rfl rfl (fun st' hst => Q_p rfl (S_move rfl (.tmp rfl))) ?_
  refine AG.f rfl rfl (fun st' hst => Q_p rfl (S_loadNM (m := 16) rfl (.tmp rfl) (hst _ (List.mem_of_getElem? (i := 0) rfl)) (by kernel_rfl) (by first | exact Nat.le_of_ble_eq_true rfl | (simp; omega) | simp))) ?_
  refine AG.f rfl rfl (fun st' hst => Q_p rfl (S_field 0 rfl (.tmp rfl) (by kernel_rfl))) ?_
  refine AG.f rfl rfl (fun st' hst => Q_p rfl (S_loadM rfl (.tmp rfl) (hst _ (List.mem_of_getElem? (i := 0) rfl)) rfl (by kernel_rfl))) ?_
  refine AG.f rfl rfl (fun st' hst => Q_p rfl (S_elemA (e := 107) (len := 13) (i := x.kind) 2 rfl (AEv.global _) (.tmp rfl) (by kernel_rfl) (by kernel_rfl) (by omega) (by omega))) ?_
  refine AG.f rfl rfl (fun st' hst => Q_p rfl (S_field 1 rfl (.tmp rfl) (by kernel_rfl))) ?_
  refine AG.f rfl rfl (fun st' hst => Q_p rfl (S_loadK (vs := kindsV) (u := .string ⟨(kindA x.kind.toNat).2.toArray⟩) rfl (.tmp rfl) (hst _ (List.mem_cons_of_mem _ tab_kinds)) (kindT_fields (by omega) (by omega)) (by kernel_rfl))) ?_
  refine AG.f rfl rfl (fun st' hst => Q_p rfl (S_move rfl (.tmp rfl))) ?_
  refine AG.f rfl rfl (fun st' hst => Q_p rfl ((S_index rfl (.tmp rfl) (.tmp rfl) (by kernel_rfl) (by omega) (by omega)).ofV (congrArg _ (atL_get hil)))) ?_
  refine AG.h rfl rfl rfl (S_call rfl (AEvs.cons (.tmp rfl) (AEvs.cons (.tmp rfl) (AEvs.cons (.tmp rfl) AEvs.nil))) (ask_put_ok b4 u2 q2 _ 0 hq2 (by first | omega | (refine Nat.le_trans (Nat.add_le_add_right (wput_len _ _ _) _) ?_; (try simp only [List.length_append]); omega)) x ((kindA x.kind.toNat).2[i]'hil) hx0 hu (hff _ (List.getElem_mem hil)) _ (fun r hr => List.mem_cons_of_mem _ (hG r hr)))) ?_
  rintro _ _ ⟨_, ⟨u2, q2, hq2, rfl, rfl⟩, rfl⟩
  rw [wput_wput] at hq2 ⊢
  refine AG.nil ?_
  refine AC_region ?_
  refine p_ (S_addI rfl (.tmp rfl) (AEv.const _) (by omega) (by omega)) ?_
  refine mv rfl rfl rfl rfl ?_
  refine AL_nil ?_
  refine ⟨(i + 1, u2, q2), ⟨by dsimp only; omega, by dsimp only; rw [flatB_next hil]; exact hq2⟩, by dsimp only; omega, by dsimp only; rw [flatB_next hil]; exact (Sub.l (List.Sublist.refl _)), (.cons rfl (by first | exact Le.refl _ | exact Le.nils | exact Le.row _ _ _ _ | exact Le.of_eq (by first | rfl | (simp; done) | (push_cast; rfl) | (simp; omega))) .nil), (.cons rfl (Le.refl _) (.cons rfl (Le.refl _) (.cons rfl (Le.refl _) (.cons rfl (Le.refl _) (.cons rfl (Le.refl _) .nil)))))⟩
 try simp only [zA,zO,zN,zM,zP,zQ,zD,zF,gd] at hb3
 rw [show (kindA x.kind.toNat).2.take i = (kindA x.kind.toNat).2 from List.take_of_length_le (by omega)] at hq2 ⊢
 refine AC_exit ?_
 refine AC_seq (AC_region ?_)
 refine mv rfl rfl rfl rfl ?_
 refine s_ (S_call rfl (AEvs.cons (.tmp rfl) AEvs.nil) (w_End_ok b4 u2 q2 _ _ hq2 _)) ?_
 rintro _ _ ⟨_, ⟨cs2, rfl, rfl⟩, rfl⟩
 refine ex 0 ?_
 refine ex 1 ?_
 refine as_ rfl rfl rfl rfl ?_
 refine as_ rfl rfl rfl rfl ?_
 refine AL_nil (AC_ret ?_)
 refine ret_tmps (ts := [2, 3]) st rfl (by decide) rfl (Sub.l ((List.sublist_cons_self _ _).trans (List.sublist_cons_self _ _))) (Conv.refl (Sub.l ((List.sublist_cons_self _ _).trans (List.sublist_cons_self _ _))) _) ⟨by rw [if_pos hk, hk] <;> rfl, rfl⟩ (.inl rfl)
end Go.Proofs.YtfpkefhjomeeeaaGreatDoor

namespace Go.Proofs.YtfpkefhjomeeeaaGreatDoor
open Go.AL Go.NumSpec

end Go.Proofs.YtfpkefhjomeeeaaGreatDoor

set_option maxRecDepth 100000
namespace Go.Proofs.YtfpkefhjomeeeaaGreatDoor
open Go.AL Go.NumSpec
theorem book_SameCall_ok (a b : Cal) (ha : ShortA a) (hb : ShortA b) : PCalls Tryz.prog 12 [calAV a, calAV b] (.bool (sameA a b)) := by
 intro st
 refine co 73 Tryz.func12 ?_
 refine AC_seq (AC_region ?_)
 refine s_ (S_box rfl (.tmp rfl)) ?_
 rintro _ _ ⟨b2, rfl, rfl⟩
 refine s_ (S_box rfl (.tmp rfl)) ?_
 rintro _ _ ⟨b3, rfl, rfl⟩
 refine ac rfl rfl rfl ?_
 refine AL_nil (AC_seq (AC_region ?_))
 refine fl 0 ?_
 refine ld 1 ?_
 refine fl 0 ?_
 refine ld 0 ?_
 refine p_ (S_eql rfl (.tmp rfl) (.tmp rfl)) ?_
 refine mv rfl rfl rfl rfl ?_
 refine g_ (fun _ => fA 1) ?_
 refine g_ (fun _ => lA 1) ?_
 refine g_ (fun _ => fA 1) ?_
 refine g_ (fun _ => lA 0) ?_
 refine g_ (fun _ => S_eql rfl (AEv.cd (.tmp rfl)) (AEv.cd (.tmp rfl))) ?_
 refine an ?_
 refine mv rfl rfl rfl rfl ?_
 refine g_ (fun _ => fA 2) ?_
 refine g_ (fun _ => lA 1) ?_
 refine g_ (fun _ => fA 2) ?_
 refine g_ (fun _ => lA 0) ?_
 refine g_ (fun _ => S_eql rfl (AEv.cd (.tmp rfl)) (AEv.cd (.tmp rfl))) ?_
 refine an ?_
 refine mv rfl rfl rfl rfl ?_
 refine g_ (fun _ => fA 3) ?_
 refine g_ (fun _ => lN 7 1) ?_
 refine g_ (fun _ => fA 3) ?_
 refine g_ (fun _ => lN 7 0) ?_
 refine g_ (fun _ => S_pcall rfl (AEvs.cons (AEv.cd (.tmp rfl)) (AEvs.cons (AEv.cd (.tmp rfl)) AEvs.nil)) (book_SameSpec_ok a.spec b.spec (light_short ha.1) (light_short hb.1))) ?_
 refine an ?_
 refine mv rfl rfl rfl rfl ?_
 refine g_ (fun _ => fA 10) ?_
 refine g_ (fun _ => lA 1) ?_
 refine g_ (fun _ => fA 10) ?_
 refine g_ (fun _ => lA 0) ?_
 refine g_ (fun _ => S_eql rfl (AEv.cd (.tmp rfl)) (AEv.cd (.tmp rfl))) ?_
 refine an ?_
 refine mv rfl rfl rfl rfl ?_
 refine g_ (fun _ => fA 11) ?_
 refine g_ (fun _ => lA 1) ?_
 refine g_ (fun _ => fA 11) ?_
 refine g_ (fun _ => lA 0) ?_
 refine g_ (fun _ => S_eql rfl (AEv.cd (.tmp rfl)) (AEv.cd (.tmp rfl))) ?_
 refine an ?_
 refine mv rfl rfl rfl rfl ?_
 refine g_ (fun _ => fA 12) ?_
 refine g_ (fun _ => lA 1) ?_
 refine g_ (fun _ => fA 12) ?_
 refine g_ (fun _ => lA 0) ?_
 refine g_ (fun _ => S_eql rfl (AEv.cd (.tmp rfl)) (AEv.cd (.tmp rfl))) ?_
 refine an ?_
 refine mv rfl rfl rfl rfl ?_
 refine g_ (fun _ => fA 13) ?_
 refine g_ (fun _ => lA 1) ?_
 refine g_ (fun _ => fA 13) ?_
 refine g_ (fun _ => lA 0) ?_
 refine g_ (fun _ => S_eql rfl (AEv.cd (.tmp rfl)) (AEv.cd (.tmp rfl))) ?_
 refine an ?_
 refine mv rfl rfl rfl rfl ?_
 refine g_ (fun _ => fA 14) ?_
 refine g_ (fun _ => lA 1) ?_
 refine g_ (fun _ => fA 14) ?_
 refine g_ (fun _ => lA 0) ?_
 refine g_ (fun _ => S_eqS rfl (AEv.cd (.tmp rfl)) (AEv.cd (.tmp rfl))) ?_
 refine an ?_
 refine mv rfl rfl rfl rfl ?_
 refine g_ (fun _ => fA 15) ?_
 refine g_ (fun _ => lA 1) ?_
 refine g_ (fun _ => fA 15) ?_
 refine g_ (fun _ => lA 0) ?_
 refine g_ (fun _ => S_pcall rfl (AEvs.cons (AEv.cd (.tmp rfl)) (AEvs.cons (AEv.cd (.tmp rfl)) AEvs.nil)) (book_SameLabels_ok a.sel b.sel ha.2.1 hb.2.1)) ?_
 refine an ?_
 refine as_ rfl rfl rfl rfl ?_
 refine AL_nil (AC_ret ?_)
 refine ret_tmp st rfl rfl (Sub.l ((List.sublist_cons_self _ _).trans (List.sublist_cons_self _ _))) (Conv.refl (Sub.l ((List.sublist_cons_self _ _).trans (List.sublist_cons_self _ _))) _) ⟨congrArg AV.bool (by simp only [sameA, Int.ofNat_inj]), rfl⟩ (.inl rfl)
end Go.Proofs.YtfpkefhjomeeeaaGreatDoor

namespace Go.Proofs.YtfpkefhjomeeeaaGreatDoor
open Go.AL Go.NumSpec

end Go.Proofs.YtfpkefhjomeeeaaGreatDoor

set_option maxRecDepth 100000
namespace Go.Proofs.YtfpkefhjomeeeaaGreatDoor
open Go.AL Go.NumSpec
theorem x_count : ExtOf Tryz.prog 146 Extern.BytealgCount.count := ⟨_, Tryz.func146, by kernel_rfl, by kernel_rfl, by kernel_rfl, by kernel_rfl⟩
theorem strings_Index_ok (s : List UInt8) (c : UInt8) : PCalls Tryz.prog 110 [.S s, .S [c]] (.int .i64 (idxV s c)) := by
 intro st
 refine co 8 Tryz.func110 ?_
 refine AC_seq (AC_region ?_)
 refine ac rfl rfl rfl ?_
 refine AL_nil (AC_seq (AC_region ?_))
 refine mv rfl rfl rfl rfl ?_
 refine mv rfl rfl rfl rfl ?_
 refine p_ (S_pcall rfl (AEvs.cons (.tmp rfl) (AEvs.cons (.tmp rfl) AEvs.nil)) (lite_Index_ok s c)) ?_
 refine as_ rfl rfl rfl rfl ?_
 refine AL_nil (AC_ret ?_)
 refine ret_tmp st rfl rfl (Sub.l (List.Sublist.refl _)) (Conv.refl (Sub.l (List.Sublist.refl _)) _) ⟨rfl, rfl⟩ (.inl rfl)
theorem strings_Count_ok (s : List UInt8) (c : UInt8) : PCalls Tryz.prog 109 [.S s, .S [c]] (.int .i64 ((s.count c : Nat) : Int)) := by
 intro st
 refine co 34 Tryz.func109 ?_
 refine AC_seq (AC_region ?_)
 refine ac rfl rfl rfl ?_
 refine AL_nil ?_
 refine AC_seq ?_
 refine AC_seq (AC_region ?_)
 refine mv rfl rfl rfl rfl ?_
 refine p_ (S_lenS (ts := #[]) rfl (.tmp rfl) (by kernel_rfl)) ?_
 refine p_ (S_eql rfl (.tmp rfl) (AEv.const _)) ?_
 refine AL_nil ?_
 refine AC_cond (.tmp rfl) (fun hb1 => ?_) (fun hb1 => ?_)
 ·simp at hb1; done
 try simp only [zA,zO,zN,zM,zP,zQ,zD,zF,gd] at hb1
 refine AC_skip ?_
 refine AC_seq ?_
 refine AC_seq (AC_region ?_)
 refine mv rfl rfl rfl rfl ?_
 refine p_ (S_lenS (ts := #[]) rfl (.tmp rfl) (by kernel_rfl)) ?_
 refine p_ (S_eql rfl (.tmp rfl) (AEv.const _)) ?_
 refine AL_nil ?_
 refine AC_cond (.tmp rfl) (fun hb2 => ?_) (fun hb2 => ?_)
 ·try simp only [zA,zO,zN,zM,zP,zQ,zD,zF,gd] at hb2
  refine AC_seq (AC_region ?_)
  refine mv rfl rfl rfl rfl ?_
  refine mv rfl rfl rfl rfl ?_
  refine p_ (S_index rfl (.tmp rfl) (AEv.const _) (by kernel_rfl) (by omega) (by omega)) ?_
  refine p_ (S_extL (vals := [.string ⟨s.toArray⟩, .int .u8 (c.toNat : Int)]) rfl (AEvs.cons (.tmp rfl) (AEvs.cons (.tmp rfl) AEvs.nil)) x_count (fun w => run_count w)) ?_
  refine as_ rfl rfl rfl rfl ?_
  refine AL_nil (AC_ret ?_)
  refine ret_tmp st rfl rfl (Sub.l (List.Sublist.refl _)) (Conv.refl (Sub.l (List.Sublist.refl _)) _) ⟨rfl, rfl⟩ (.inl rfl)
 simp at hb2; done
theorem strings_genSplit_ok (s : List UInt8) (c : UInt8) (hs : s.length ≤ 1000000) : PCalls Tryz.prog 73 [.S s, .S [c], .int .i64 0, .int .i64 (-1)] (.sl (strsV (partsB c s))) := by
 intro st
 refine co 66 Tryz.func73 ?_
 have hcl : s.count c ≤ s.length := List.count_le_length
 have hc1 : ([c] : List UInt8).length = 1 := rfl
 refine AC_seq (AC_region ?_)
 refine ac rfl rfl rfl ?_
 refine AL_nil ?_
 refine AC_seq ?_
 refine AC_seq (AC_region ?_)
 refine mv rfl rfl rfl rfl ?_
 refine p_ (S_eql rfl (.tmp rfl) (AEv.const _)) ?_
 refine AL_nil ?_
 refine AC_cond (.tmp rfl) (fun hb1 => ?_) (fun hb1 => ?_)
 ·simp at hb1; done
 try simp only [zA,zO,zN,zM,zP,zQ,zD,zF,gd] at hb1
 refine AC_skip ?_
 refine AC_seq ?_
 refine AC_seq (AC_region ?_)
 refine mv rfl rfl rfl rfl ?_
 refine p_ (S_eqS rfl (.tmp rfl) (AEv.S _)) ?_
 refine AL_nil ?_
 refine AC_cond (.tmp rfl) (fun hb2 => ?_) (fun hb2 => ?_)
 ·simp at hb2; done
 try simp only [zA,zO,zN,zM,zP,zQ,zD,zF,gd] at hb2
 refine AC_skip ?_
 refine AC_joinK (G := Unit) [(0, _), (1, _), (2, _), (8, _)] (fun _ => True) (fun _ => [(3, .int .i64 (((s.count c + 1) : Nat) : Int))]) (fun _ => st) (.cons rfl (Le.refl _) (.cons rfl (Le.refl _) (.cons rfl (Le.refl _) (.cons rfl (Le.refl _) .nil)))) ?_ ?_
 ·refine AC_seq (AC_region ?_)
  refine mv rfl rfl rfl rfl ?_
  refine p_ (S_lss rfl (.tmp rfl) (AEv.const _)) ?_
  refine AL_nil ?_
  refine AC_cond (.tmp rfl) (fun hb3 => ?_) (fun hb3 => ?_)
  ·try simp only [zA,zO,zN,zM,zP,zQ,zD,zF,gd] at hb3
   refine AC_region ?_
   refine mv rfl rfl rfl rfl ?_
   refine mv rfl rfl rfl rfl ?_
   refine p_ (S_pcall rfl (AEvs.cons (.tmp rfl) (AEvs.cons (.tmp rfl) AEvs.nil)) (strings_Count_ok s c)) ?_
   refine p_ (S_addI rfl (.tmp rfl) (AEv.const _) (by omega) (by omega)) ?_
   refine as_ rfl rfl rfl rfl ?_
   refine AL_nil ?_
   exact ⟨(), trivial, Sub.l (List.Sublist.refl _), (.cons rfl (by first | exact Le.refl _ | exact Le.nils | exact Le.row _ _ _ _ | exact Le.of_eq (by first | rfl | (simp; done) | (push_cast; rfl) | (simp; omega))) .nil), (.cons rfl (Le.refl _) (.cons rfl (Le.refl _) (.cons rfl (Le.refl _) (.cons rfl (Le.refl _) .nil))))⟩
  simp at hb3; done
 rintro _ _
 try dsimp only
 simp only [List.cons_append, List.nil_append]
 refine AC_seq (AC_region ?_)
 refine mv rfl rfl rfl rfl ?_
 refine mv rfl rfl rfl rfl ?_
 refine p_ (S_lenS (ts := #[]) rfl (.tmp rfl) (by kernel_rfl)) ?_
 refine p_ (S_addI rfl (.tmp rfl) (AEv.const _) (by omega) (by omega)) ?_
 refine p_ ((S_min rfl (.tmp rfl) (.tmp rfl)).ofV (V' := .int .i64 (((s.count c + 1) : Nat) : Int)) (congrArg (AV.int .i64) (by omega))) ?_
 refine as_ rfl rfl rfl rfl ?_
 refine AL_nil (AC_seq (AC_region ?_))
 refine mv rfl rfl rfl rfl ?_
 refine s_ (S_make1 (e := 9) (bytes := 16) (n := (s.count c + 1)) (z := .string ⟨#[]⟩) rfl (.tmp rfl) (by kernel_rfl) (by kernel_rfl) rfl (by omega) (by omega)) ?_
 rintro _ _ ⟨b9, rfl, rfl⟩
 refine as_ rfl rfl rfl rfl ?_
 refine AL_nil (AC_seq (AC_region ?_))
 refine mv rfl rfl rfl rfl ?_
 refine p_ (S_subI rfl (.tmp rfl) (AEv.const _) (by omega) (by omega)) ?_
 refine as_ rfl rfl rfl rfl ?_
 refine AL_nil (AC_seq (AC_region ?_))
 refine ac rfl rfl rfl ?_
 refine AL_nil ?_
 refine AC_seq ?_
 refine AC_block ?_
 refine AC_loopK (G := List (List UInt8) × List UInt8) [(1, _), (2, _), (3, _), (8, _), (9, _)] (fun g => partsB c s = g.1 ++ partsB c g.2 ∧ g.2.length ≤ s.length) (fun g => [(0, .S g.2), (10, .int .i64 ((g.1.length : Nat) : Int))]) (fun g => (b9, .cells (filling (s.count c + 1) g.1)) :: st) (fun g => g.2.length) (([], s)) (⟨rfl, Nat.le_refl _⟩) (by rw [filling_zero]; exact Sub.l (List.Sublist.refl _)) (.cons rfl (Le.refl _) (.cons rfl (Le.refl _) (.cons rfl (Le.refl _) (.cons rfl (Le.refl _) (.cons rfl (Le.refl _) .nil))))) (.cons rfl (by first | exact Le.refl _ | exact Le.nils | exact Le.row _ _ _ _ | exact Le.of_eq (by first | rfl | (simp; done) | (push_cast; rfl) | (simp; omega))) (.cons rfl (by first | exact Le.refl _ | exact Le.nils | exact Le.row _ _ _ _ | exact Le.of_eq (by first | rfl | (simp; done) | (push_cast; rfl) | (simp; omega))) .nil)) ?_
 rintro ⟨d, r⟩ ⟨hsp, hrl⟩
 try dsimp only
 simp only [List.cons_append, List.nil_append]
 dsimp only at hsp hrl
 refine AC_seq ?_
 refine AC_seq (AC_region ?_)
 refine mv rfl rfl rfl rfl ?_
 refine mv rfl rfl rfl rfl ?_
 refine p_ (S_lss rfl (.tmp rfl) (.tmp rfl)) ?_
 refine AL_nil ?_
 refine AC_cond (.tmp rfl) (fun hb4 => ?_) (fun hb4 => ?_)
 ·try simp only [zA,zO,zN,zM,zP,zQ,zD,zF,gd] at hb4
  have hdl : d.length < s.count c := by omega
  refine AC_skip ?_
  refine AC_block ?_
  refine AC_seq (AC_region ?_)
  refine mv rfl rfl rfl rfl ?_
  refine mv rfl rfl rfl rfl ?_
  refine p_ (S_pcall rfl (AEvs.cons (.tmp rfl) (AEvs.cons (.tmp rfl) AEvs.nil)) (strings_Index_ok r c)) ?_
  refine as_ rfl rfl rfl rfl ?_
  refine AL_nil ?_
  refine AC_seq ?_
  refine AC_seq (AC_region ?_)
  refine mv rfl rfl rfl rfl ?_
  refine p_ (S_lss rfl (.tmp rfl) (AEv.const _)) ?_
  refine AL_nil ?_
  refine AC_cond (.tmp rfl) (fun hb5 => ?_) (fun hb5 => ?_)
  ·try simp only [zA,zO,zN,zM,zP,zQ,zD,zF,gd] at hb5
   have hno : c ∉ r := idxV_neg.1 hb5
   have hd : d.length = s.count c := by
    have h1 := parts_count c s
    rw [hsp, List.length_append, split_none hno] at h1
    simp only [List.length_cons, List.length_nil] at h1
    omega
   rw [split_none hno] at hsp
   refine AC_exit ?_
   refine AC_seq (AC_region ?_)
   refine mv rfl rfl rfl rfl ?_
   refine mv rfl rfl rfl rfl ?_
   refine mv rfl rfl rfl rfl ?_
   refine p_ (S_elemO (e := 9) 1 rfl (.tmp rfl) (.tmp rfl) (by kernel_rfl) (by kernel_rfl) (by omega) (by omega)) ?_
   refine s_ (S_store (c := .S r) 0 rfl (.tmp rfl) (.tmp rfl) rfl (by rw [filling_len (by omega)]; omega) rfl (by kernel_rfl)) ?_
   rintro _ _ ⟨rfl, rfl⟩
   refine AL_nil (AC_seq (AC_region ?_))
   refine mv rfl rfl rfl rfl ?_
   refine mv rfl rfl rfl rfl ?_
   refine p_ (S_addI rfl (.tmp rfl) (AEv.const _) (by omega) (by omega)) ?_
   refine p_ (S_cutOH (e := 9) (j := d.length + 1) 1 rfl (.tmp rfl) ((AEv.tmp rfl).le (Le.of_eq (congrArg (AV.int _) (by omega)))) (by kernel_rfl) (by kernel_rfl) (by omega)) ?_
   refine as_ rfl rfl rfl rfl ?_
   refine AL_nil (AC_ret ?_)
   refine ret_tmp st rfl rfl (Sub.l (List.Sublist.cons _ (List.Sublist.refl _))) (y := .sl (strsV (d ++ [r]))) ?_ ⟨by rw [hsp], rfl⟩ (.inl rfl)
   refine Conv.nd fun hnd => ?_
   have hfl : (filling (s.count c + 1) d).set (0 + ((d.length : Nat) : Int).toNat * 1) (.S r) = vec1C (s.count c + 1) (strsV (d ++ [r])) := by rw [filling_set (by omega), filling_full (by simp [hd])]
   have hv := Conv.vec1 (st := (b9, Ob.cells (vec1C (s.count c + 1) (strsV (d ++ [r])))) :: st) (st' := st) (b := b9) (cap := (s.count c + 1)) (xs := strsV (d ++ [r])) (Sub.l (List.Sublist.cons _ (List.Sublist.refl _))) (by simp [strsV, hd]) (fun x hx => by obtain ⟨y, _, rfl⟩ := List.mem_map.1 hx; rfl) List.mem_cons_self (fun o ho => by
    simp only [List.set_cons_zero, List.map_cons, List.nodup_cons] at hnd
    exact hnd.1 (List.mem_map_of_mem (f := Prod.fst) ho))
   rw [← hfl] at hv
   rw [show d.length + 1 = (strsV (d ++ [r])).length by simp [strsV]]
   exact hv
  try simp only [zA,zO,zN,zM,zP,zQ,zD,zF,gd] at hb5
  have hin : c ∈ r := Classical.byContradiction fun h => hb5 (idxV_neg.2 h)
  have hix := idxV_hit hin
  have hlt := head_lt hin
  refine AC_skip ?_
  refine AC_seq (AC_region ?_)
  refine mv rfl rfl rfl rfl ?_
  refine mv rfl rfl rfl rfl ?_
  refine mv rfl rfl rfl rfl ?_
  refine mv rfl rfl rfl rfl ?_
  refine mv rfl rfl rfl rfl ?_
  refine p_ (S_addI rfl (.tmp rfl) (.tmp rfl) (by omega) (by omega)) ?_
  refine p_ ((S_sliceH rfl (.tmp rfl) (.tmp rfl) (by kernel_rfl) (by omega) (by omega)).ofV (V' := .S (headB c r)) (congrArg AV.S (by rw [show (idxV r c + 0).toNat = (headB c r).length by rw [idxV_hit hin]; omega]; exact take_head))) ?_
  refine p_ (S_elemO (e := 9) 1 rfl (.tmp rfl) (.tmp rfl) (by kernel_rfl) (by kernel_rfl) (by omega) (by omega)) ?_
  refine s_ (S_store (c := .S (headB c r)) 0 rfl (.tmp rfl) (.tmp rfl) rfl (by rw [filling_len (by omega)]; omega) rfl (by kernel_rfl)) ?_
  rintro _ _ ⟨rfl, rfl⟩
  refine AL_nil (AC_seq (AC_region ?_))
  refine mv rfl rfl rfl rfl ?_
  refine mv rfl rfl rfl rfl ?_
  refine mv rfl rfl rfl rfl ?_
  refine p_ (S_lenS (ts := #[]) rfl (.tmp rfl) (by kernel_rfl)) ?_
  refine p_ (S_addI rfl (.tmp rfl) (.tmp rfl) (by omega) (by omega)) ?_
  refine p_ ((S_sliceL rfl (.tmp rfl) (.tmp rfl) (by kernel_rfl) (by simp; omega) (by simp; omega)).ofV (V' := .S (restB c r)) (congrArg AV.S (by rw [show (idxV r c + ((([c] : List UInt8).length : Nat) : Int)).toNat = (headB c r).length + 1 by rw [idxV_hit hin]; simp]))) ?_
  refine as_ rfl rfl rfl rfl ?_
  refine AL_nil ?_
  refine AC_region ?_
  refine mv rfl rfl rfl rfl ?_
  refine p_ (S_addI rfl (.tmp rfl) (AEv.const _) (by omega) (by omega)) ?_
  refine as_ rfl rfl rfl rfl ?_
  refine AL_nil ?_
  rw [split_hit hin] at hsp
  have hlt := head_lt hin
  refine ⟨(d ++ [headB c r], restB c r), ⟨by dsimp only; rw [hsp]; simp, by dsimp only; rw [List.length_drop]; omega⟩, by dsimp only; rw [List.length_drop]; omega, ?_, (.cons rfl (Le.of_eq (congrArg AV.S (by simp [restB]))) (.cons rfl (Le.of_eq (congrArg (AV.int .i64) (by simp))) .nil)), (.cons rfl (Le.refl _) (.cons rfl (Le.refl _) (.cons rfl (Le.refl _) (.cons rfl (Le.refl _) (.cons rfl (Le.refl _) .nil)))))⟩
  dsimp only
  rw [← filling_set (by omega)]
  exact Sub.l (List.Sublist.refl _)
 try simp only [zA,zO,zN,zM,zP,zQ,zD,zF,gd] at hb4
 have hno : c ∉ r := by
  have h1 := parts_count c s
  have h2 := parts_count c r
  rw [hsp, List.length_append] at h1
  exact count_none (by omega)
 have hd : d.length = s.count c := by
  have h1 := parts_count c s
  rw [hsp, List.length_append, split_none hno] at h1
  simp only [List.length_cons, List.length_nil] at h1
  omega
 rw [split_none hno] at hsp
 refine AC_exit ?_
 refine AC_seq (AC_region ?_)
 refine mv rfl rfl rfl rfl ?_
 refine mv rfl rfl rfl rfl ?_
 refine mv rfl rfl rfl rfl ?_
 refine p_ (S_elemO (e := 9) 1 rfl (.tmp rfl) (.tmp rfl) (by kernel_rfl) (by kernel_rfl) (by omega) (by omega)) ?_
 refine s_ (S_store (c := .S r) 0 rfl (.tmp rfl) (.tmp rfl) rfl (by rw [filling_len (by omega)]; omega) rfl (by kernel_rfl)) ?_
 rintro _ _ ⟨rfl, rfl⟩
 refine AL_nil (AC_seq (AC_region ?_))
 refine mv rfl rfl rfl rfl ?_
 refine mv rfl rfl rfl rfl ?_
 refine p_ (S_addI rfl (.tmp rfl) (AEv.const _) (by omega) (by omega)) ?_
 refine p_ (S_cutOH (e := 9) (j := d.length + 1) 1 rfl (.tmp rfl) ((AEv.tmp rfl).le (Le.of_eq (congrArg (AV.int _) (by omega)))) (by kernel_rfl) (by kernel_rfl) (by omega)) ?_
 refine as_ rfl rfl rfl rfl ?_
 refine AL_nil (AC_ret ?_)
 refine ret_tmp st rfl rfl (Sub.l (List.Sublist.cons _ (List.Sublist.refl _))) (y := .sl (strsV (d ++ [r]))) ?_ ⟨by rw [hsp], rfl⟩ (.inl rfl)
 refine Conv.nd fun hnd => ?_
 have hfl : (filling (s.count c + 1) d).set (0 + ((d.length : Nat) : Int).toNat * 1) (.S r) = vec1C (s.count c + 1) (strsV (d ++ [r])) := by rw [filling_set (by omega), filling_full (by simp [hd])]
 have hv := Conv.vec1 (st := (b9, Ob.cells (vec1C (s.count c + 1) (strsV (d ++ [r])))) :: st) (st' := st) (b := b9) (cap := (s.count c + 1)) (xs := strsV (d ++ [r])) (Sub.l (List.Sublist.cons _ (List.Sublist.refl _))) (by simp [strsV, hd]) (fun x hx => by obtain ⟨y, _, rfl⟩ := List.mem_map.1 hx; rfl) List.mem_cons_self (fun o ho => by
  simp only [List.set_cons_zero, List.map_cons, List.nodup_cons] at hnd
  exact hnd.1 (List.mem_map_of_mem (f := Prod.fst) ho))
 rw [← hfl] at hv
 rw [show d.length + 1 = (strsV (d ++ [r])).length by simp [strsV]]
 exact hv
theorem strings_Split_ok (s : List UInt8) (c : UInt8) (hs : s.length ≤ 1000000) : PCalls Tryz.prog 37 [.S s, .S [c]] (.sl (strsV (partsB c s))) := by
 intro st
 refine co 8 Tryz.func37 ?_
 refine AC_seq (AC_region ?_)
 refine ac rfl rfl rfl ?_
 refine AL_nil (AC_seq (AC_region ?_))
 refine mv rfl rfl rfl rfl ?_
 refine mv rfl rfl rfl rfl ?_
 refine p_ (S_pcall rfl (AEvs.cons (.tmp rfl) (AEvs.cons (.tmp rfl) (AEvs.cons (AEv.const _) (AEvs.cons (AEv.const _) AEvs.nil)))) (strings_genSplit_ok s c hs)) ?_
 refine as_ rfl rfl rfl rfl ?_
 refine AL_nil (AC_ret ?_)
 refine ret_tmp st rfl rfl (Sub.l (List.Sublist.refl _)) (Conv.refl (Sub.l (List.Sublist.refl _)) _) ⟨rfl, rfl⟩ (.inl rfl)
theorem WriteByte_ok (b : Nat) (u : Bool) (q : Buf) (l : List UInt8) (c : UInt8) (T m : Nat) (post : List AV) (hq : q.ok l) (hlen : l.length + 1 ≤ 140737488355328) (hm : 0 < m) (hl : liesAt Tryz.prog Tryz.prog.depth T (m / Tryz.prog.cellsOf T) 0 145 1 = true) (F : St) : ACalls Tryz.prog 79 [.ptr b 0, byteV c] (((b, .cells (addrB u b T m :: bufAV q (l) :: post)) :: bufSt q 5 (l)) ++ F) (fun x st' => ∃ foot', (∃ q' : Buf, q'.ok (l ++ [c]) ∧ x = .nili ∧ foot' = (b, .cells (.ptr b 0 :: bufAV q' (l ++ [c]) :: post)) :: bufSt q' 5 (l ++ [c])) ∧ st' = foot' ++ F) := by
 refine co 17 Tryz.func79 ?_
 refine AC_seq (AC_region ?_)
 refine ac rfl rfl rfl ?_
 refine AL_nil (AC_seq (AC_region ?_))
 refine mv rfl rfl rfl rfl ?_
 refine s_ (S_call rfl (AEvs.cons (.tmp rfl) AEvs.nil) (copyCheck_ok u b T m _ hm hl _)) ?_
 rintro _ _ ⟨rfl, rfl⟩
 refine AL_nil (AC_seq (AC_region ?_))
 refine mv rfl rfl rfl rfl ?_
 refine mv rfl rfl rfl rfl ?_
 refine p_ (S_nilCheck rfl (.tmp rfl)) ?_
 refine fl 1 ?_
 refine ld 0 ?_
 refine mv rfl rfl rfl rfl ?_
 refine p_ (S_buildSlice (e := 5) 1 rfl (AEvs.cons (.tmp rfl) AEvs.nil) rfl (by kernel_rfl) (by kernel_rfl) (by simp [AV.flat, AV.one, AV.cells, Value.oneCell']) (by decide) (by decide) (by decide)) ?_
 refine s_ (S_appendByte (q := q) (l := l) (c := c) (e := 5) [(b, _)] F rfl (.tmp rfl) (.tmp rfl) rfl hq (by kernel_rfl) hlen) ?_
 rintro _ _ ⟨q2, hq2, rfl, rfl⟩
 refine p_ (S_nilCheck rfl (.tmp rfl)) ?_
 refine fl 1 ?_
 refine s_ (S_store 0 rfl (.tmp rfl) (.tmp rfl) rfl (by first | exact Nat.le_of_ble_eq_true rfl | simp) (bufAV_one _ _) (by kernel_rfl)) ?_
 rintro _ _ ⟨rfl, rfl⟩
 refine AL_nil (AC_seq (AC_region ?_))
 refine ac rfl rfl rfl ?_
 refine AL_nil (AC_ret ?_)
 refine ret_tmp (((b, .cells (.ptr b 0 :: bufAV q2 (l ++ [c]) :: post)) :: bufSt q2 5 (l ++ [c])) ++ F) rfl rfl (Sub.l (List.Sublist.refl _)) (Conv.refl (Sub.l (List.Sublist.refl _)) _) ⟨_, ⟨q2, hq2, rfl, rfl⟩, rfl⟩ (.inl rfl)
end Go.Proofs.YtfpkefhjomeeeaaGreatDoor
