/- Proves the given statement TellChecksCardSaid of this seat: the Go function answers true at every input, and what came in reads as before, where the listed table starts as the program's text lays it (the card ties that).
Conditions: none beyond the given statement. -/
import Derived.Test.YtemmkkmpchphkaaGreatDoorW4
import Derived.Test.YtemmkkmpchphkaaGreatDoorCards
import Derived.Test.YtemmkkmpchphkaaGreatDoorTie
import Derived.WalkKit
import Derived.ProofKit
import Derived.OpenShut
import Derived.ShutString
import Derived.SizedLaws
import Derived.Carry
import Derived.LaidMore
import Derived.Lay
import Derived.SevenTiedAt
import Derived.Stop.Joined
import Derived.LaidHandle
import Derived.LaidLaws
import Derived.ChangeVars
import Derived.JoinedOf
import Derived.RowKitTokens
namespace Go.Proofs.YtemmkkmpchphkaaGreatDoor.tellChecks
open Go.ChangeShapes Go.WideShapes Go.ChangeAt Go.RowKit
open Go.AL Go.NumSpec
set_option linter.unusedVariables false

theorem own : ownKnob Tryz.prog.godebug = none := by kernel_rfl
theorem laidOut : laidOutB Tryz.prog = true := by kernel_rfl
theorem openRes : Opens Tryz.prog 74 (Tri) (resL) (fits3) := ((Opens.struct (tot := 3) Tryz.underlying74 (by kernel_rfl) (OpensFs.cons (m := 1) rfl (by kernel_rfl) (Opens.i64 Tryz.underlying3) (OpensFs.cons (m := 1) rfl (by kernel_rfl) (Opens.i64 Tryz.underlying3) (OpensFs.one (m := 1) rfl (by kernel_rfl) rfl (Opens.i64 Tryz.underlying3)))))).map (fun r => r) (fun _ => rfl) (fun _ h => h)
theorem openLab : Opens Tryz.prog 140 (Lab) (fun p => [.S p.1, .S p.2]) (okLab) := ((Opens.struct (tot := 2) Tryz.underlying140 (by kernel_rfl) (OpensFs.cons (m := 1) rfl (by kernel_rfl) (Opens.str Tryz.underlying9) (OpensFs.one (m := 1) rfl (by kernel_rfl) rfl (Opens.str Tryz.underlying9))))).map (fun r => r) (fun _ => rfl) (fun _ h => h)
theorem openLabs : Opens Tryz.prog 28 (List Lab) (fun l => [.sl (labsV l)]) (fun l => ∀ x ∈ l, okLab x) := ((Opens.slice (m := 2) (labAV) Tryz.underlying28 (by kernel_rfl) (by decide) openLab (fun _ => rfl))).map (fun r => r) (fun _ => rfl) (fun _ h => h)
theorem openInts : Opens Tryz.prog 32 (List Int) (fun l => [.sl (intsV l)]) (fun l => ∀ p ∈ l, fits p) := ((Opens.slice (m := 1) (fun n => .int .i64 n) Tryz.underlying32 (by kernel_rfl) (by decide) (Opens.i64 Tryz.underlying3) (fun _ => rfl))).map (fun r => r) (fun _ => rfl) (fun _ h => h)
theorem openProbe : Opens Tryz.prog 148 (Int × Int) (fun p => [.int .i64 p.1, .int .i64 p.2]) (fun p => fits p.1 ∧ fits p.2) := ((Opens.struct (tot := 2) Tryz.underlying148 (by kernel_rfl) (OpensFs.cons (m := 1) rfl (by kernel_rfl) (Opens.i64 Tryz.underlying3) (OpensFs.one (m := 1) rfl (by kernel_rfl) rfl (Opens.i64 Tryz.underlying3))))).map (fun r => r) (fun _ => rfl) (fun _ h => h)
theorem openCtr : Opens Tryz.prog 150 (Ctr) (ctrL) (okCtr) := ((Opens.struct (tot := 11) Tryz.underlying150 (by kernel_rfl) (OpensFs.cons (m := 1) rfl (by kernel_rfl) (Opens.str Tryz.underlying9) (OpensFs.cons (m := 1) rfl (by kernel_rfl) (Opens.str Tryz.underlying9) (OpensFs.cons (m := 3) rfl (by kernel_rfl) openRes (OpensFs.cons (m := 3) rfl (by kernel_rfl) openRes (OpensFs.cons (m := 1) rfl (by kernel_rfl) openInts (OpensFs.one (m := 2) rfl (by kernel_rfl) rfl openProbe)))))))).map (fun y => ⟨y.1, y.2.1, y.2.2.1, y.2.2.2.1, y.2.2.2.2.1, y.2.2.2.2.2⟩) (fun _ => rfl) (fun _ h => h.2.2)
theorem openCtrs : Opens Tryz.prog 29 (List Ctr) (fun l => [.sl (ctrsV l)]) (fun l => ∀ c ∈ l, okCtr c) := ((Opens.slice (m := 11) (ctrAV) Tryz.underlying29 (by kernel_rfl) (by decide) openCtr (fun _ => rfl))).map (fun r => r) (fun _ => rfl) (fun _ h => h)
theorem openSpc : Opens Tryz.prog 31 (Spc) (spcL) (okSpc) := ((Opens.struct (tot := 7) Tryz.underlying31 (by kernel_rfl) (OpensFs.cons (m := 1) rfl (by kernel_rfl) (Opens.str Tryz.underlying9) (OpensFs.cons (m := 1) rfl (by kernel_rfl) openLabs (OpensFs.cons (m := 1) rfl (by kernel_rfl) openCtrs (OpensFs.cons (m := 1) rfl (by kernel_rfl) openCtrs (OpensFs.cons (m := 1) rfl (by kernel_rfl) (Opens.i64 Tryz.underlying3) (OpensFs.cons (m := 1) rfl (by kernel_rfl) (Opens.i64 Tryz.underlying3) (OpensFs.one (m := 1) rfl (by kernel_rfl) rfl (Opens.i64 Tryz.underlying3)))))))))).map (fun y => ⟨y.1, y.2.1, y.2.2.1, y.2.2.2.1, y.2.2.2.2.1, y.2.2.2.2.2.1, y.2.2.2.2.2.2⟩) (fun _ => rfl) (fun _ h => h.2.2)
theorem openPodU : Opens Tryz.prog 34 (Pod) (podL) (PodU) := ((Opens.struct (tot := 13) Tryz.underlying34 (by kernel_rfl) (OpensFs.cons (m := 1) rfl (by kernel_rfl) (Opens.i64 Tryz.underlying3) (OpensFs.cons (m := 1) rfl (by kernel_rfl) (Opens.u64 Tryz.underlying23) (OpensFs.cons (m := 7) rfl (by kernel_rfl) openSpc (OpensFs.cons (m := 1) rfl (by kernel_rfl) (Opens.i64 Tryz.underlying3) (OpensFs.cons (m := 1) rfl (by kernel_rfl) openInts (OpensFs.cons (m := 1) rfl (by kernel_rfl) (Opens.i64 Tryz.underlying3) (OpensFs.one (m := 1) rfl (by kernel_rfl) rfl (Opens.i64 Tryz.underlying3)))))))))).map (fun y => ⟨y.1, y.2.1, y.2.2.1, y.2.2.2.1, y.2.2.2.2.1, y.2.2.2.2.2.1, y.2.2.2.2.2.2⟩) (fun _ => rfl) (fun _ h => h.2.1)
theorem openPodsU : Opens Tryz.prog 24 (List Pod) (fun l => [.sl (podsV l)]) (fun l => ∀ p ∈ l, PodU p) := ((Opens.slice (m := 13) (podAV) Tryz.underlying24 (by kernel_rfl) (by decide) openPodU (fun _ => rfl))).map (fun r => r) (fun _ => rfl) (fun _ h => h)
theorem openUse : Opens Tryz.prog 25 (List Tri) (fun l => [.sl (l.map resAV)]) (fun l => ∀ r ∈ l, fits3 r) := ((Opens.slice (m := 3) (resAV) Tryz.underlying25 (by kernel_rfl) (by decide) openRes (fun _ => rfl))).map (fun r => r) (fun _ => rfl) (fun _ h => h)
theorem openReply : Opens Tryz.prog 27 (Rep) (repL) (fun r => (r.rev < 18446744073709551616 ∧ ∀ p ∈ r.pods, PodU p) ∧ (fits r.code ∧ fits r.uid ∧ fits r.id)) := ((Opens.struct (tot := 7) Tryz.underlying27 (by kernel_rfl) (OpensFs.cons (m := 1) rfl (by kernel_rfl) (Opens.i64 Tryz.underlying22) (OpensFs.cons (m := 1) rfl (by kernel_rfl) (Opens.i64 Tryz.underlying3) (OpensFs.cons (m := 1) rfl (by kernel_rfl) (Opens.i64 Tryz.underlying3) (OpensFs.cons (m := 1) rfl (by kernel_rfl) (Opens.u64 Tryz.underlying23) (OpensFs.cons (m := 1) rfl (by kernel_rfl) (Opens.str Tryz.underlying9) (OpensFs.cons (m := 1) rfl (by kernel_rfl) openPodsU (OpensFs.one (m := 1) rfl (by kernel_rfl) rfl openUse))))))))).map (fun y => ⟨y.1, y.2.1, y.2.2.1, y.2.2.2.1, y.2.2.2.2.1, y.2.2.2.2.2.1, y.2.2.2.2.2.2⟩) (fun _ => rfl) (fun _ h => ⟨⟨h.2.2.2.1, h.2.2.2.2.2.1⟩, h.1, h.2.1, h.2.2.1⟩)
theorem openEvt : Opens Tryz.prog 36 (Evt) (evtL) (fun e => e.rev < 18446744073709551616 ∧ PodU e.pod) := ((Opens.struct (tot := 15) Tryz.underlying36 (by kernel_rfl) (OpensFs.cons (m := 1) rfl (by kernel_rfl) (Opens.i64 Tryz.underlying3) (OpensFs.cons (m := 1) rfl (by kernel_rfl) (Opens.u64 Tryz.underlying23) (OpensFs.one (m := 13) rfl (by kernel_rfl) rfl openPodU))))).map (fun y => ⟨y.1, y.2.1, y.2.2⟩) (fun _ => rfl) (fun _ h => ⟨h.2.1, h.2.2⟩)
theorem openMsg : Opens Tryz.prog 38 (Msg) (msgL) (fun m => MsgU m ∧ MsgF m) := ((Opens.struct (tot := 24) Tryz.underlying38 (by kernel_rfl) (OpensFs.cons (m := 1) rfl (by kernel_rfl) (Opens.i64 Tryz.underlying3) (OpensFs.cons (m := 1) rfl (by kernel_rfl) (Opens.i64 Tryz.underlying3) (OpensFs.cons (m := 7) rfl (by kernel_rfl) openReply (OpensFs.one (m := 15) rfl (by kernel_rfl) rfl openEvt)))))).map (fun y => ⟨y.1, y.2.1, y.2.2.1, y.2.2.2⟩) (fun _ => rfl) (fun _ h => ⟨⟨h.2.2.1.1.1, h.2.2.1.1.2, h.2.2.2.1, h.2.2.2.2⟩, h.2.1, h.2.2.1.2⟩)

theorem parts {W : World} (h : laidMetH Tryz.prog Rows.tellChecksRow.laid W) : laidMet Tryz.prog [("provost/text.marks", Rows.laid_provost_text_marks)] W ∧ handlesMet Tryz.prog [("errors.errorType", Rows.laid_errors_errorType)] W := h
theorem et : Tryz.prog.globalNamed "errors.errorType" = some 0 := by kernel_rfl
theorem rt : (Tryz.prog.cutTypes.find? (·.1 == "internal/reflectlite.rtype")).map (·.2) = some 244 := by kernel_rfl
theorem oneRow : ((List.range 295).filter fun t => Tryz.prog.rowNamed t [101, 114, 114, 111, 114]) = [118] := by kernel_rfl
theorem size : Tryz.prog.types.size = 295 := by kernel_rfl
theorem handle_of_laid {W : World} (h : laidMetH Tryz.prog Rows.tellChecksRow.laid W) : W.cell? ⟨0, 0, none⟩ = some (.iface 244 (.agg #[.pointer (some ⟨3, 118, none⟩)])) := by
  obtain ⟨name, u, ty, e1, e2, e3, e4, e5⟩ := (parts h).2 _ (List.mem_singleton.2 rfl)
  have en : name = [101, 114, 114, 111, 114] := (Option.some.inj e1).symm
  subst en
  obtain rfl := Option.some.inj (rt.symm.trans e2)
  have hm : ty ∈ (List.range 295).filter fun t => Tryz.prog.rowNamed t [101, 114, 114, 111, 114] := List.mem_filter.2 ⟨List.mem_range.2 (by rw [← size]; exact e3), e4⟩
  rw [oneRow] at hm
  obtain rfl := List.mem_singleton.1 hm
  have hh : typeHandle Tryz.prog 118 = .pointer (some ⟨3, 118, none⟩) := by kernel_rfl
  rw [hh] at e5
  simpa using World.var?_cell et e5 0
theorem gTab : Tryz.prog.globalNamed "provost/text.marks" = some 2 := by kernel_rfl
theorem gTabType : (Tryz.prog.globals[2]?).map (·.type) = some 260 := by kernel_rfl
theorem cellsT : Tryz.prog.cellsOf 260 = 64 := by kernel_rfl
theorem cellsE : Tryz.prog.cellsOf 3 = 1 := by kernel_rfl
theorem table {W : World} (h : laidMetH Tryz.prog Rows.tellChecksRow.laid W) : Lib.TabIs Tryz.prog W "provost/text.marks" .i64 marksI :=
  tabIs_of_laid (k := .i64) (zs := marksI) gTab gTabType Tryz.underlying260 Tryz.underlying3 cellsE cellsT (l := [("provost/text.marks", Rows.laid_provost_text_marks)]) List.mem_cons_self (parts h).1
theorem cells_in {W : World} (h : laidMetH Tryz.prog Rows.tellChecksRow.laid W) : ∀ p, p ∈ tabs → p.1 < W.heap.size ∧ ∀ (j : Nat) u, p.2[j]? = some u → W.cell? ⟨p.1, j, none⟩ = some u := by
  intro p hp
  simp only [tabs, List.mem_cons, List.not_mem_nil, or_false] at hp
  rcases hp with rfl | rfl
  · have hc := handle_of_laid h
    refine ⟨cell_lt hc, fun j u hu => ?_⟩
    have hj : j = 0 := by have := (List.getElem?_eq_some_iff.1 hu).1; simpa using this
    subst hj
    cases hu
    exact hc
  · have hc := fun j (hj : j < marksI.length) => (table h).cell gTab j hj
    refine ⟨cell_lt (hc 0 (by decide)), fun j u hu => ?_⟩
    have hj : j < marksI.length := by have := (List.getElem?_eq_some_iff.1 hu).1; simpa [marksV] using this
    rw [hc j hj, ← hu]
    simp [marksV, hj]
theorem door_met (os : Os) (args : Array Value) : laidMetH Tryz.prog Rows.tellChecksRow.laid ((World.doorLaid Tryz.prog 2000 os).forCall (fun _ _ => 0) ⟨#[], args, []⟩).memory :=
  laidMetH_of_parts3 (fuel := 8) (laidMet_of_run' 8 (by kernel_rfl) (by kernel_rfl)) (by kernel_rfl) (by kernel_rfl)
set_option maxRecDepth 100000 in
theorem lifted (os : Os) (started : os.Started) (H : Type) (enc : TypeId × Value → H) :
    ReturnsInHanded {} Tryz.checked os 6 .any (fun w args => (Rows.tellChecksSpec.pre enc Tryz.prog Tryz.f6 Rows.tellChecksRow.domain false w args ∧ laidMetH Tryz.prog Rows.tellChecksRow.laid w) ∧ sizedMet enc Tryz.prog Tryz.f6 (OpenSpec.ofChange Rows.tellChecksSpec) false w args) (Rows.tellChecksSpec.post enc Tryz.prog Tryz.f6 false true false false) := by
  refine returnsInHanded_of_change_and (C := Tryz.checked) (X := fun w _ => laidMetH Tryz.prog Rows.tellChecksRow.laid w) (fun _ _ _ hh h => h.of_heap hh) own started (by kernel_rfl) Tryz.func6
    (ChangeSpec.witness_shaped (enc := enc) (C := Tryz.checked) (os := os) (X := fun w _ => laidMetH Tryz.prog Rows.tellChecksRow.laid w) false (World.doorLaid Tryz.prog 2000 os) #[.agg #[.int .i64 0, .int .u64 0, .string ⟨#[]⟩, .slice none 0 0, .slice none 0 0, .slice none 0 0, .int .i64 0, .int .i64 0, .int .i64 0, .int .i64 0, .slice none 0 0, .int .i64 0, .int .i64 0], .agg #[.int .i64 0, .int .i64 0, .int .i64 0, .int .i64 0, .int .i64 0, .int .u64 0, .string ⟨#[]⟩, .slice none 0 0, .slice none 0 0, .int .i64 0, .int .u64 0, .int .i64 0, .int .u64 0, .string ⟨#[]⟩, .slice none 0 0, .slice none 0 0, .slice none 0 0, .int .i64 0, .int .i64 0, .int .i64 0, .int .i64 0, .slice none 0 0, .int .i64 0, .int .i64 0]] 8 rfl (World.shaped_of_RefB (by kernel_rfl) (by kernel_rfl)) (by kernel_rfl) (by kernel_rfl) (by kernel_rfl) (door_met os _)) ?_
  intro W base args ds gs before hval0 hW hcnd _ hL _
  have hval : ∀ (j : Nat) t v, Tryz.f6.params[j]? = some t → args[j]? = some v → Value.okWide Tryz.prog W .any base t v := hval0
  have hW' := hW
  obtain ⟨p, q, hA0, hV, rfl, hfz, hnd⟩ := hW
  have hA : DataW.TrodAll enc Tryz.prog W 0 (fun _ => true) true Tryz.f6.params.toList args.toList ds p := hA0
  rw [Tryz.params6] at hA hval
  obtain ⟨v0, vs0, d0, ds0, p0, q0, hargs, rfl, rfl, h0, r0⟩ := trodAll_cons hA
  obtain ⟨v1, vs1, d1, ds1, p1, q1, rfl, rfl, rfl, h1, r1⟩ := trodAll_cons r0
  obtain ⟨rfl, rfl, rfl⟩ := trodAll_nil r1
  obtain rfl : args = #[v0, v1] := by cases args; simp_all
  obtain ⟨rfl, rfl⟩ := trodVars_none hV
  obtain ⟨y0, o0, e0⟩ := (openPodU).argS Tryz.underlying34 (hval 0 34 v0 rfl rfl) h0
  obtain ⟨y1, o1, e1⟩ := (openMsg).argS Tryz.underlying38 (hval 1 38 v1 rfl rfl) h1
  refine (GCalls.rowC (vs := #[v0, v1]) (Go.Proofs.YtemmkkmpchphkaaGreatDoor.law_TellChecks y0 y1) (by decide) (cells_in hL) ((RC.one e0).append (RC.one e1))).mono fun e W' ⟨he, hb⟩ => ?_
  subst he
  have hlt0 : ∀ x ∈ p0, x.block < W.heap.size := fun x hx => by simpa using hW'.lt x (by simp [hx])
  have hlt1 : ∀ x ∈ p1, x.block < W.heap.size := fun x hx => by simpa using hW'.lt x (by simp [hx])
  exact ⟨_, rfl, post_below hb hW' rfl rfl rfl rfl (fun _ _ _ => trodAll_cons_mk (shut_bool Tryz.underlying4 _) trodAll_mk0) (fun sp hsp => by rw [List.append_nil]; exact (trodAll_cons_mk (arg_stays laidOut (by kernel_rfl) (of_decide_eq_true (by kernel_rfl)) h0 hb hlt0 sp (fun x hx => hsp x (by simp [hx]))) (trodAll_cons_mk (arg_stays laidOut (by kernel_rfl) (of_decide_eq_true (by kernel_rfl)) h1 hb hlt1 sp (fun x hx => hsp x (by simp [hx]))) trodAll_mk0))) (ok_one (by kernel_rfl) rfl (okWide_bool_mk Tryz.underlying4 _))⟩

theorem over : Rows.tellChecksRow.holds Tryz.pinned (OpenSpec.ofChange Rows.tellChecksSpec) :=
  OpenClaim.holds_of_wide 6 Tryz.f6 rfl rfl rfl rfl rfl rfl rfl ⟨rfl, rfl, rfl, rfl, rfl⟩ rfl rfl rfl rfl rfl (by kernel_rfl) Tryz.func6 (by kernel_rfl)
    (of_decide_eq_true (by kernel_rfl)) (by unfold Func.isWrapper; first | (rw [if_pos (by decide +kernel)]; kernel_rfl) | (rw [if_neg (by decide +kernel)]; exact ⟨rfl, rfl⟩))
    (fun os started H enc _ => lifted os started H enc)

theorem plain (f : FuncId) (fn : Func) (hf : Tryz.pinned.checked.prog.funcNamed "provost/provostlaw09.TellChecks" = some f) (hfn : Tryz.pinned.checked.prog.funcs[f]? = some fn) :
    true = Tryz.pinned.checked.prog.looks [] ∧ ∀ (j : Nat) t, fn.params[j]? = some t → Tryz.pinned.checked.prog.wantsStandIn t = false := by
  obtain rfl : f = 6 := Option.some.inj ((show Tryz.prog.funcNamed "provost/provostlaw09.TellChecks" = some 6 by kernel_rfl).symm.trans hf) |>.symm
  obtain rfl : fn = Tryz.f6 := (Option.some.inj (Tryz.func6.symm.trans hfn)).symm
  refine ⟨by kernel_rfl, fun j t ht => ?_⟩
  rw [Tryz.params6] at ht
  have hm : t ∈ [34, 38] := by simpa using Array.mem_of_getElem? ht
  have hall : ([34, 38].all fun u => !Tryz.prog.wantsStandIn u) = true := by kernel_rfl
  exact (show Tryz.prog.wantsStandIn t = false by simpa using List.all_eq_true.1 hall t hm)

/-- The card. -/
theorem proved : Rows.TellChecksCardSaid :=
  Claim7.holds_tied_plain_at .later [] _ _ _ _ over (fun _ h => by cases h) (by kernel_rfl) (fun _ h => by cases h) tellChecks_row_tie rfl ⟨rfl, rfl⟩ (by kernel_rfl) rfl plain (by kernel_rfl)
#print axioms proved
end Go.Proofs.YtemmkkmpchphkaaGreatDoor.tellChecks
