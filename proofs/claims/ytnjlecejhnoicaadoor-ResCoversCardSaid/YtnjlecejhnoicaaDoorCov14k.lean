/-
The walks of Go functions in the logic AL: what each of them answers.
Conditions: those of each theorem.
-/
import Derived.Test.YtnjlecejhnoicaaDoorCov14j
import Derived.Test.YtnjlecejhnoicaaDoorSpecLem4
set_option linter.unusedVariables false
set_option linter.unusedSimpArgs false
namespace Go.Proofs.YtnjlecejhnoicaaDoor
open Go.AL Go.NumSpec

set_option maxRecDepth 100000 in
/-- (*provost/spec.seen).containers -/
theorem seen_containers_ok (b : Nat) (p q : Own) (name : List UInt8) (hn : name.length ≤ 1000000) (ns : List (List UInt8)) (ps : List Int) (hp : p.ok (strsV ns)) (hq : q.ok (intsV ps)) (hns : ns.length ≤ 100) (hps : ps.length ≤ 100) (l : List Ctr) (hl : l.length ≤ 8) (hc : ∀ c ∈ l, lightC c = true) (ports every : Int) (F : St) (hG : ∀ r, r ∈ Gs tabs → r ∈ F) : ACalls Tryd.prog 18 [.ptr b 0, .S name, .sl (ctrsV l), .int .i64 ports, .int .i64 every] (seenSt 9 3 b p q ns ps ++ F) (fun x st' => ∃ foot', (∃ (p' q' : Own) (ns' : List (List UInt8)) (ps' : List Int), p'.ok (strsV ns') ∧ q'.ok (intsV ps') ∧ (ctrsE name ns ps l ports every = none → ns' = namesTo ns l l.length ∧ ps' = portsTo ps l l.length) ∧ x = erV 48 76 (ctrsE name ns ps l ports every) ∧ foot' = seenSt 9 3 b p' q' ns' ps') ∧ st' = foot' ++ F) := by
  refine ACalls_of (N := 34) Tryd.func18 (by kernel_rfl) rfl rfl rfl ?_
  have hll : (ctrsV l).length = l.length := by simp [ctrsV]
  have hpo : ∀ c ∈ l, c.ports.length ≤ 10 := fun c h => (of_decide_eq_true (hc c h)).2.2
  refine AC_seq ?_
  refine AC_region ?_
  refine AL_p rfl rfl (S_assign rfl (AEv.const _)) ?_
  refine AL_nil ?_
  refine AC_seq ?_
  refine AC_seq ?_
  refine AC_region ?_
  refine AL_p rfl rfl (S_move rfl (AEv.tmp rfl)) ?_
  refine AL_p rfl rfl (S_len (e := 40) rfl (AEv.tmp rfl) (by kernel_rfl)) ?_
  refine AL_p rfl rfl (S_move rfl (AEv.const _)) ?_
  refine AL_nil ?_
  refine AC_block ?_
  refine AC_loopS (G := Nat × Own × Own) (fun g => g.1 ≤ l.length ∧ (∀ j, j < g.1 → ctrAt ns ps l ports every j = none) ∧ g.2.1.ok (strsV (namesTo ns l g.1)) ∧ g.2.2.ok (intsV (portsTo ps l g.1))) (fun g => [(0, .ptr b 0), (1, .S name), (3, .int .i64 ports), (4, .int .i64 every), (14, .sl (ctrsV l)), (15, .int .i64 ((ctrsV l).length : Int)), (16, .int .i64 (g.1 : Int))]) (fun g => (seenSt 9 3 b g.2.1 g.2.2 (namesTo ns l g.1) (portsTo ps l g.1) ++ F)) (fun g => l.length - g.1) ((0, p, q)) (⟨Nat.zero_le _, fun j hj => absurd hj (Nat.not_lt_zero _), by simpa [namesTo] using hp, by simpa [portsTo] using hq⟩) (by simp only [namesTo, portsTo, List.take_zero, List.map_nil, List.flatMap_nil, List.append_nil]; exact Sub.l (List.Sublist.refl _)) ?_ ?_
  · exact (.cons rfl (Le.refl _) (.cons rfl (Le.refl _) (.cons rfl (Le.refl _) (.cons rfl (Le.refl _) (.cons rfl (Le.refl _) (.cons rfl (Le.refl _) (.cons rfl (Le.refl _) .nil)))))))
  · rintro ⟨i, p1, q1⟩ ⟨hi, hno, hp1, hq1⟩
    try dsimp only
    dsimp only at hi hno hp1 hq1
    refine AC_seq ?_
    refine AC_region ?_
    refine AL_p rfl rfl (S_lss rfl (AEv.tmp rfl) (AEv.tmp rfl)) ?_
    refine AL_nil ?_
    refine AC_seq ?_
    refine AC_cond (AEv.tmp rfl) (fun hb1 => ?_) (fun hb1 => ?_)
    · try simp only [Bool.and_eq_true, Bool.or_eq_true, Bool.not_eq_true', Bool.not_eq_false', Bool.and_eq_false_iff, Bool.or_eq_false_iff, decide_eq_true_eq, decide_eq_false_iff_not, gd] at hb1
      have hil : i < l.length := by omega
      have hif : fits (i : Int) := by unfold fits; omega
      have hb1 := namesTo_le (i := i) hl hns
      have hb2 := portsTo_le (i := i) hpo hl hps
      obtain ⟨k1, k2, k3⟩ := of_decide_eq_true (hc _ (List.getElem_mem hil))
      refine AC_skip ?_
      refine AC_seq ?_
      refine AC_block ?_
      refine AC_seq ?_
      refine AC_region ?_
      refine AL_p rfl rfl (S_move rfl (AEv.tmp rfl)) ?_
      refine AL_p rfl rfl (S_elem (e := 40) (c := ctrAV (l[i]'hil)) (i := (i : Int)) 11 rfl (AEv.tmp rfl) (AEv.tmp rfl) (by kernel_rfl) (by kernel_rfl) (by omega) (by simp [ctrsV, hil]) rfl) ?_
      refine AL_p rfl rfl (S_loadPN (m := 11) rfl (AEv.tmp rfl) (by kernel_rfl) (by first | exact Nat.le_of_ble_eq_true rfl | (simp; omega) | simp)) ?_
      refine AL_step rfl rfl (S_alloc [.string ⟨#[]⟩, .string ⟨#[]⟩, .int .i64 0, .int .i64 0, .int .i64 0, .int .i64 0, .int .i64 0, .int .i64 0, .slice none 0 0, .int .i64 0, .int .i64 0] rfl (by kernel_rfl)) ?_
      rintro _ _ ⟨b2, rfl, rfl⟩
      refine AL_p rfl rfl (S_assign rfl (AEv.tmp rfl)) ?_
      refine AL_step rfl rfl (S_storeN 0 rfl (AEv.tmp rfl) (AEv.tmp rfl) rfl (by first | exact Nat.le_of_ble_eq_true rfl | (simp; omega) | simp) (by first | rfl | simp [AV.one, Value.oneCell']) (by kernel_rfl)) ?_
      rintro _ _ ⟨rfl, rfl⟩
      refine AL_nil ?_
      refine AC_seq ?_
      refine AC_region ?_
      refine AL_p rfl rfl (S_move rfl (AEv.tmp rfl)) ?_
      refine AL_p rfl rfl (S_loadN (m := 11) 0 rfl (AEv.tmp rfl) rfl (by kernel_rfl) (by first | exact Nat.le_of_ble_eq_true rfl | (simp; omega) | simp)) ?_
      refine AL_p rfl rfl (S_move rfl (AEv.tmp rfl)) ?_
      refine AL_p rfl rfl (S_move rfl (AEv.tmp rfl)) ?_
      refine AL_step rfl rfl (S_call rfl (AEvs.cons (AEv.tmp rfl) (AEvs.cons (y := ctrAV (l[i]'hil)) (AEv.tmp rfl) (AEvs.cons (AEv.tmp rfl) (AEvs.cons (AEv.tmp rfl) AEvs.nil)))) (ACalls.preP (G := fun F => ∀ r, r ∈ Gs tabs → r ∈ F) (fun pre F h r hr => List.mem_append_right _ (h r hr)) (foot := seenSt 9 3 b p1 q1 (namesTo ns l i) (portsTo ps l i)) (K := fun x foot' => ∃ (p' q' : Own) (m : Nat), m ≤ ((l[i]'hil)).ports.length ∧ (portE (portsTo ps l i) ((l[i]'hil)).ports ports = none → m = ((l[i]'hil)).ports.length) ∧ p'.ok (strsV ((namesTo ns l i) ++ [((l[i]'hil)).name])) ∧ q'.ok (intsV ((portsTo ps l i) ++ ((l[i]'hil)).ports.take m)) ∧ x = erV 48 76 (ctrE (namesTo ns l i) (portsTo ps l i) (l[i]'hil) ports every) ∧ foot' = seenSt 9 3 b p' q' ((namesTo ns l i) ++ [((l[i]'hil)).name]) ((portsTo ps l i) ++ ((l[i]'hil)).ports.take m)) (fun F hF => seen_container_ok b p1 q1 (namesTo ns l i) (portsTo ps l i) hp1 hq1 (by omega) (by omega) (l[i]'hil) (by omega) (by omega) ports every F hF) [(_, _)] F hG)) ?_
      rintro _ _ ⟨_, ⟨p2, q2, m, hm, hm2, hp2, hq2, rfl, rfl⟩, rfl⟩
      refine AL_p rfl rfl (S_assign rfl (AEv.tmp rfl)) ?_
      refine AL_nil ?_
      refine AC_seq ?_
      refine AC_region ?_
      refine AL_p rfl rfl (S_move rfl (AEv.tmp rfl)) ?_
      refine AL_p rfl rfl (S_neqE (er_is 48 76 (ctrE (namesTo ns l i) (portsTo ps l i) (l[i]'hil) ports every)) rfl (AEv.tmp rfl) (by kernel_rfl)) ?_
      refine AL_nil ?_
      refine AC_cond (AEv.tmp rfl) (fun hb3 => ?_) (fun hb3 => ?_)
      · try simp only [Bool.and_eq_true, Bool.or_eq_true, Bool.not_eq_true', Bool.not_eq_false', Bool.and_eq_false_iff, Bool.or_eq_false_iff, decide_eq_true_eq, decide_eq_false_iff_not, gd] at hb3
        obtain ⟨y, hy⟩ : ∃ y, (ctrE (namesTo ns l i) (portsTo ps l i) (l[i]'hil) ports every) = some y := by cases h : (ctrE (namesTo ns l i) (portsTo ps l i) (l[i]'hil) ports every) with | none => rw [h] at hb3; simp at hb3 | some y => exact ⟨y, rfl⟩
        have hend : ctrsE name ns ps l ports every = erIn (some y) (atT name (i : Int)) := eachE_at hil (by rw [ctrAt_at hil, hy]; rfl) (fun j hj => by rw [hno j hj]; rfl)
        refine AC_seq ?_
        refine AC_region ?_
        refine AL_p rfl rfl (S_move rfl (AEv.tmp rfl)) ?_
        refine AL_p rfl rfl (S_move rfl (AEv.tmp rfl)) ?_
        refine AL_p rfl rfl (S_move rfl (AEv.tmp rfl)) ?_
        refine AL_p rfl rfl (S_pcall rfl (AEvs.cons (AEv.tmp rfl) (AEvs.cons (AEv.tmp rfl) AEvs.nil)) (spec_at_ok name hn (i : Int) hif)) ?_
        refine AL_p rfl rfl (S_pcall rfl (AEvs.cons (AEv.tmp rfl) (AEvs.cons (AEv.tmp rfl) AEvs.nil)) (fail_In_ok (ctrE (namesTo ns l i) (portsTo ps l i) (l[i]'hil) ports every) (atT name (i : Int)))) ?_
        refine AL_p rfl rfl (S_assign rfl (AEv.tmp rfl)) ?_
        refine AL_nil ?_
        refine AC_ret ?_
        refine ret_tmp (seenSt 9 3 b p2 q2 ((namesTo ns l i) ++ [((l[i]'hil)).name]) ((portsTo ps l i) ++ ((l[i]'hil)).ports.take m) ++ F) rfl rfl (Sub.l (List.Sublist.cons _ (List.Sublist.refl _))) (Conv.refl (Sub.l (List.Sublist.cons _ (List.Sublist.refl _))) _) ⟨_, ⟨p2, q2, _, _, hp2, hq2, (fun h => by rw [hend] at h; cases h), by rw [hend, hy], rfl⟩, rfl⟩ (.inl rfl)
      · try simp only [Bool.and_eq_true, Bool.or_eq_true, Bool.not_eq_true', Bool.not_eq_false', Bool.and_eq_false_iff, Bool.or_eq_false_iff, decide_eq_true_eq, decide_eq_false_iff_not, gd] at hb3
        have hnone : (ctrE (namesTo ns l i) (portsTo ps l i) (l[i]'hil) ports every) = none := by cases h : (ctrE (namesTo ns l i) (portsTo ps l i) (l[i]'hil) ports every) with | none => rfl | some y => rw [h] at hb3; simp at hb3
        obtain rfl := hm2 (ctrE_port hnone)
        rw [List.take_length] at hq2 ⊢
        refine AC_skip ?_
        refine AC_region ?_
        refine AL_p rfl rfl (S_addI rfl (AEv.tmp rfl) (AEv.const _) (by omega) (by omega)) ?_
        refine AL_p rfl rfl (S_move rfl (AEv.tmp rfl)) ?_
        refine AL_nil ?_
        refine ⟨(i + 1, p2, q2), ⟨by dsimp only; omega, fun j hj => ?_, by dsimp only; rw [namesTo_next hil]; exact hp2, by dsimp only; rw [portsTo_next hil]; exact hq2⟩, by dsimp only; omega, by dsimp only; rw [namesTo_next hil, portsTo_next hil]; exact Sub.l (List.Sublist.cons _ (List.Sublist.refl _)), (.cons rfl (Le.refl _) (.cons rfl (Le.refl _) (.cons rfl (Le.refl _) (.cons rfl (Le.refl _) (.cons rfl (Le.refl _) (.cons rfl (Le.refl _) (.cons rfl (Le.of_eq (by dsimp only; rw [Int.natCast_add]; rfl)) .nil)))))))⟩
        rcases Nat.lt_or_ge j i with h' | h'
        · exact hno j h'
        · rw [show j = i by omega, ctrAt_at hil]; exact hnone
    · try simp only [Bool.and_eq_true, Bool.or_eq_true, Bool.not_eq_true', Bool.not_eq_false', Bool.and_eq_false_iff, Bool.or_eq_false_iff, decide_eq_true_eq, decide_eq_false_iff_not, gd] at hb1
      obtain rfl : i = l.length := by omega
      have hend : ctrsE name ns ps l ports every = none := eachE_all fun j hj => by rw [hno j hj]; rfl
      refine AC_exit ?_
      refine AC_seq ?_
      refine AC_region ?_
      refine AL_p rfl rfl (S_assign rfl (AEv.const _)) ?_
      refine AL_nil ?_
      refine AC_ret ?_
      refine ret_tmp (seenSt 9 3 b p1 q1 (namesTo ns l l.length) (portsTo ps l l.length) ++ F) rfl rfl (Sub.l (List.Sublist.refl _)) (Conv.refl (Sub.l (List.Sublist.refl _)) _) ⟨_, ⟨p1, q1, _, _, hp1, hq1, fun _ => ⟨rfl, rfl⟩, by rw [hend]; rfl, rfl⟩, rfl⟩ (.inl rfl)

end Go.Proofs.YtnjlecejhnoicaaDoor
