/-
The walks of Go functions in the logic AL: what each of them answers.
Conditions: those of each theorem.
-/
import Derived.Test.YtnjlecejhnoicaaDoorCov14i
set_option linter.unusedVariables false
set_option linter.unusedSimpArgs false
namespace Go.Proofs.YtnjlecejhnoicaaDoor
open Go.AL Go.NumSpec

theorem seen_name_f (b : Nat) (p q : Own) (ns : List (List UInt8)) (ps : List Int) (hp : p.ok (strsV ns)) (hq : q.ok (intsV ps)) (hns : ns.length ≤ 1000) (c : Ctr) (F : St) (hG : ∀ r, r ∈ Gs tabs → r ∈ F) : ACalls Tryd.prog 37 [.ptr b 0, ctrAV c] (seenSt 9 3 b p q ns ps ++ F) fun x st' => ∃ foot', (∃ p' : Own, p'.ok (strsV (ns ++ [c.name])) ∧ x = erV 48 76 (nameE ns c.name) ∧ foot' = seenSt 9 3 b p' q (ns ++ [c.name]) ps) ∧ st' = foot' ++ F := by
  unfold seenSt
  simp only [List.cons_append, List.append_assoc]
  exact (seen_name_ok b p q ns ps hp hq hns c F hG).mono fun x st' ⟨p', h1, h2, h3⟩ => ⟨_, ⟨p', h1, h2, rfl⟩, by rw [h3]; simp only [List.cons_append, List.append_assoc]⟩

theorem seen_port_f (b : Nat) (p q : Own) (ns : List (List UInt8)) (ps : List Int) (hp : p.ok (strsV ns)) (hq : q.ok (intsV ps)) (hps : ps.length ≤ 1000) (l : List Int) (hl : l.length ≤ 1000) (n : Int) (F : St) : ACalls Tryd.prog 41 [.ptr b 0, .sl (intsV l), .int .i64 n] (seenSt 9 3 b p q ns ps ++ F) fun x st' => ∃ foot', (∃ (q' : Own) (m : Nat), m ≤ (l).length ∧ (portE ps (l) (n) = none → m = (l).length) ∧ q'.ok (intsV (ps ++ (l).take m)) ∧ x = erV 48 76 (portE ps (l) (n)) ∧ foot' = seenSt 9 3 b p q' ns (ps ++ (l).take m)) ∧ st' = foot' ++ F := by
  unfold seenSt
  simp only [List.cons_append, List.append_assoc]
  exact (seen_port_ok b p q ns ps hp hq hps l hl n F).mono fun x st' ⟨q', m, h1, h2, h3, h4, h5⟩ => ⟨_, ⟨q', m, h1, h2, h3, h4, rfl⟩, by rw [h5]; simp only [List.cons_append, List.append_assoc]⟩

set_option maxRecDepth 100000 in
/-- (*provost/spec.seen).container -/
theorem seen_container_ok (b : Nat) (p q : Own) (ns : List (List UInt8)) (ps : List Int) (hp : p.ok (strsV ns)) (hq : q.ok (intsV ps)) (hns : ns.length ≤ 1000) (hps : ps.length ≤ 1000) (c : Ctr) (himg : c.image.length ≤ 1000000) (hpo : c.ports.length ≤ 1000) (ports every : Int) (F : St) (hG : ∀ r, r ∈ Gs tabs → r ∈ F) : ACalls Tryd.prog 31 [.ptr b 0, ctrAV c, .int .i64 ports, .int .i64 every] (seenSt 9 3 b p q ns ps ++ F) (fun x st' => ∃ foot', (∃ (p' q' : Own) (m : Nat), m ≤ c.ports.length ∧ (portE ps c.ports ports = none → m = c.ports.length) ∧ p'.ok (strsV (ns ++ [c.name])) ∧ q'.ok (intsV (ps ++ c.ports.take m)) ∧ x = erV 48 76 (ctrE ns ps c ports every) ∧ foot' = seenSt 9 3 b p' q' (ns ++ [c.name]) (ps ++ c.ports.take m)) ∧ st' = foot' ++ F) := by
  refine ACalls_of (N := 36) Tryd.func31 (by kernel_rfl) rfl rfl rfl ?_
  refine AC_seq ?_
  refine AC_region ?_
  refine AL_step rfl rfl (S_box rfl (AEv.tmp rfl)) ?_
  rintro _ _ ⟨b1, rfl, rfl⟩
  refine AL_p rfl rfl (S_assign rfl (AEv.const _)) ?_
  refine AL_nil ?_
  refine AC_seq ?_
  refine AC_plan (σ := [(0, 0), (1, 0), (3, 0), (4, 0), (6, 0), (8, 0), (9, 0), (11, 0), (12, 0), (13, 0), (14, 0), (16, 0), (17, 0), (18, 0), (19, 0), (21, 0), (22, 0), (23, 0), (2, 1), (5, 0), (7, 0), (10, 0), (15, 0), (20, 1), (24, 0), (25, 0), (26, 0), (27, 0)]) (by kernel_rfl) ((b1, .cells (ctrL c)) :: Gs tabs) (by kernel_rfl) (fun r hr => by rcases List.mem_cons.1 hr with rfl | hr2; exact List.mem_cons_self; exact List.mem_cons_of_mem _ (List.mem_append_right _ (hG r hr2))) ?_
  refine AG.f rfl rfl (fun st' hst => Q_p rfl (S_move rfl (AEv.tmp rfl))) ?_
  refine AG.f rfl rfl (fun st' hst => Q_p rfl (S_loadNM (m := 11) rfl (AEv.tmp rfl) (hst _ (List.mem_of_getElem? (i := 0) rfl)) (by kernel_rfl) (by first | exact Nat.le_of_ble_eq_true rfl | (simp; omega) | simp))) ?_
  refine AG.f rfl rfl (fun st' hst => Q_p rfl (S_field 1 rfl (AEv.tmp rfl) (by kernel_rfl))) ?_
  refine AG.f rfl rfl (fun st' hst => Q_p rfl (S_loadM rfl (AEv.tmp rfl) (hst _ (List.mem_of_getElem? (i := 0) rfl)) rfl (by kernel_rfl))) ?_
  refine AG.f rfl rfl (fun st' hst => Q_p rfl (S_buildSlice (e := 9) 1 rfl (AEvs.cons (AEv.S _) AEvs.nil) rfl (by kernel_rfl) (by kernel_rfl) (by simp [AV.flat, AV.one, AV.cells, Value.oneCell']) (by decide) (by decide) (by decide))) ?_
  refine AG.f rfl rfl (fun st' hst => Q_p rfl (S_field 2 rfl (AEv.tmp rfl) (by kernel_rfl))) ?_
  refine AG.f rfl rfl (fun st' hst => Q_p rfl (S_loadNM (m := 3) rfl (AEv.tmp rfl) (hst _ (List.mem_of_getElem? (i := 0) rfl)) (by kernel_rfl) (by first | exact Nat.le_of_ble_eq_true rfl | (simp; omega) | simp))) ?_
  refine AG.f rfl rfl (fun st' hst => Q_p rfl (S_field 5 rfl (AEv.tmp rfl) (by kernel_rfl))) ?_
  refine AG.f rfl rfl (fun st' hst => Q_p rfl (S_loadNM (m := 3) rfl (AEv.tmp rfl) (hst _ (List.mem_of_getElem? (i := 0) rfl)) (by kernel_rfl) (by first | exact Nat.le_of_ble_eq_true rfl | (simp; omega) | simp))) ?_
  refine AG.f rfl rfl (fun st' hst => Q_p rfl (S_field 2 rfl (AEv.tmp rfl) (by kernel_rfl))) ?_
  refine AG.f rfl rfl (fun st' hst => Q_p rfl (S_loadNM (m := 3) rfl (AEv.tmp rfl) (hst _ (List.mem_of_getElem? (i := 0) rfl)) (by kernel_rfl) (by first | exact Nat.le_of_ble_eq_true rfl | (simp; omega) | simp))) ?_
  refine AG.f rfl rfl (fun st' hst => Q_p rfl (S_move rfl (AEv.tmp rfl))) ?_
  refine AG.f rfl rfl (fun st' hst => Q_p rfl (S_field 8 rfl (AEv.tmp rfl) (by kernel_rfl))) ?_
  refine AG.f rfl rfl (fun st' hst => Q_p rfl (S_loadM rfl (AEv.tmp rfl) (hst _ (List.mem_of_getElem? (i := 0) rfl)) rfl (by kernel_rfl))) ?_
  refine AG.f rfl rfl (fun st' hst => Q_p rfl (S_move rfl (AEv.tmp rfl))) ?_
  refine AG.f rfl rfl (fun st' hst => Q_p rfl (S_field 9 rfl (AEv.tmp rfl) (by kernel_rfl))) ?_
  refine AG.f rfl rfl (fun st' hst => Q_p rfl (S_loadNM (m := 2) rfl (AEv.tmp rfl) (hst _ (List.mem_of_getElem? (i := 0) rfl)) (by kernel_rfl) (by first | exact Nat.le_of_ble_eq_true rfl | (simp; omega) | simp))) ?_
  refine AG.f rfl rfl (fun st' hst => Q_p rfl (S_move rfl (AEv.tmp rfl))) ?_
  refine AG.s rfl rfl rfl (S_call rfl (AEvs.cons (AEv.tmp rfl) (AEvs.cons (y := ctrAV c) (AEv.tmp rfl) AEvs.nil)) (ACalls.preP (G := fun F => ∀ r, r ∈ Gs tabs → r ∈ F) (fun pre F h r hr => List.mem_append_right _ (h r hr)) (foot := seenSt 9 3 b p q ns ps) (K := fun x foot' => ∃ p' : Own, p'.ok (strsV (ns ++ [c.name])) ∧ x = erV 48 76 (nameE ns c.name) ∧ foot' = seenSt 9 3 b p' q (ns ++ [c.name]) ps) (fun F hF => seen_name_f b p q ns ps hp hq hns c F hF) [(b1, Ob.cells (ctrL c))] F hG)) ?_ ?_
  · rintro _ _ ⟨_, ⟨p2, hp2, rfl, rfl⟩, rfl⟩ r hr; exact (List.mem_cons.1 hr).elim (fun h => h ▸ List.mem_append_left _ List.mem_cons_self) (fun h => List.mem_append_right _ (List.mem_append_right _ (hG r h)))
  rintro _ _ ⟨_, ⟨p2, hp2, rfl, rfl⟩, rfl⟩
  refine AG.f rfl rfl (fun st' hst => Q_p rfl (S_gcall rfl (AEvs.cons (AEv.tmp rfl) AEvs.nil) ((text_Image_ok c.image (by omega)) _ (fun r hr => hst r (List.mem_cons_of_mem _ hr))))) ?_
  refine AG.f rfl rfl (fun st' hst => Q_p rfl (S_pcall rfl (AEvs.cons (AEv.tmp rfl) (AEvs.cons (AEv.tmp rfl) AEvs.nil)) (fail_New_ok (saysV (tparts c.image).2.2 33) [[105, 109, 97, 103, 101]] (by simp)))) ?_
  refine AG.f rfl rfl (fun st' hst => Q_p rfl (S_pcall rfl (AEvs.cons (y := resAV c.req) (AEv.tmp rfl) AEvs.nil) (spec_req_ok c.req))) ?_
  refine AG.f rfl rfl (fun st' hst => Q_p rfl (S_pcall rfl (AEvs.cons (y := resAV c.lim) (AEv.tmp rfl) (AEvs.cons (y := resAV c.req) (AEv.tmp rfl) AEvs.nil)) (spec_lim_ok c.lim c.req))) ?_
  refine AG.s rfl rfl rfl (S_call rfl (AEvs.cons (AEv.tmp rfl) (AEvs.cons (AEv.tmp rfl) (AEvs.cons (AEv.tmp rfl) AEvs.nil))) (ACalls.pre (foot := seenSt 9 3 b p2 q (ns ++ [c.name]) ps) (K := fun x foot' => ∃ (q' : Own) (m : Nat), m ≤ (c.ports).length ∧ (portE ps (c.ports) (ports) = none → m = (c.ports).length) ∧ q'.ok (intsV (ps ++ (c.ports).take m)) ∧ x = erV 48 76 (portE ps (c.ports) (ports)) ∧ foot' = seenSt 9 3 b p2 q' (ns ++ [c.name]) (ps ++ (c.ports).take m)) (fun F => seen_port_f b p2 q (ns ++ [c.name]) ps hp2 hq hps c.ports hpo ports F) [(b1, Ob.cells (ctrL c))] F)) ?_ ?_
  · rintro _ _ ⟨_, ⟨q2, m, hm, hm2, hq2, rfl, rfl⟩, rfl⟩ r hr; exact (List.mem_cons.1 hr).elim (fun h => h ▸ List.mem_append_left _ List.mem_cons_self) (fun h => List.mem_append_right _ (List.mem_append_right _ (hG r h)))
  rintro _ _ ⟨_, ⟨q2, m, hm, hm2, hq2, rfl, rfl⟩, rfl⟩
  refine AG.f rfl rfl (fun st' hst => Q_p rfl (S_pcall rfl (AEvs.cons (y := probeAV c.probe) (AEv.tmp rfl) (AEvs.cons (AEv.tmp rfl) AEvs.nil)) (spec_probe_ok c.probe every))) ?_
  refine AG.f rfl rfl (fun st' hst => Q_p rfl (S_buildSlice (e := 29) 1 rfl (AEvs.cons (AEv.tmp rfl) (AEvs.cons (AEv.tmp rfl) (AEvs.cons (AEv.tmp rfl) (AEvs.cons (AEv.tmp rfl) (AEvs.cons (AEv.tmp rfl) (AEvs.cons (AEv.tmp rfl) AEvs.nil)))))) rfl (by kernel_rfl) (by kernel_rfl) (by intro y hy; simp only [List.mem_cons, List.not_mem_nil, or_false] at hy; rcases hy with rfl | rfl | rfl | rfl | rfl | rfl <;> exact ⟨er_flat _ _ _, by rw [er_cells]; rfl⟩) (by decide) (by decide) (by decide))) ?_
  refine AG.f rfl rfl (fun st' hst => Q_p rfl (S_pcall rfl (AEvs.cons (AEv.tmp rfl) AEvs.nil) (fail_First_ok [nameE ns c.name, erNew (saysV (tparts c.image).2.2 33) [[105, 109, 97, 103, 101]], reqE c.req, limE c.lim c.req, portE ps c.ports ports, probeE c.probe every] (by simp)))) ?_
  refine AG.f rfl rfl (fun st' hst => Q_p rfl (S_assign rfl (AEv.tmp rfl))) ?_
  refine AG.nil ?_
  refine AC_ret ?_
  refine ret_tmp (seenSt 9 3 b p2 q2 (ns ++ [c.name]) (ps ++ c.ports.take m) ++ F) rfl rfl (Sub.l (List.Sublist.cons _ (List.Sublist.refl _))) (Conv.refl (Sub.l (List.Sublist.cons _ (List.Sublist.refl _))) _) ⟨_, ⟨p2, q2, m, hm, hm2, hp2, hq2, rfl, rfl⟩, rfl⟩ (.inl rfl)

end Go.Proofs.YtnjlecejhnoicaaDoor
