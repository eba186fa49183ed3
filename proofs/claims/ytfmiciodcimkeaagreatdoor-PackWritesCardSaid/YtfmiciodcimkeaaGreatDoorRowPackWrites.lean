/- Proves the given statement PackWritesCardSaid of this seat: the Go function answers true at every input, and what came in reads as before, where the listed table starts as the program's text lays it (the card ties that).
Conditions: none beyond the given statement. -/
import Derived.Test.YtfmiciodcimkeaaGreatDoorW3
import Derived.Test.YtfmiciodcimkeaaGreatDoorCards
import Derived.Test.YtfmiciodcimkeaaGreatDoorTie
import Derived.WalkKit
import Derived.ProofKit
import Derived.OpenShut
import Derived.ShutString
import Derived.SizedLaws
import Derived.Carry
import Derived.LaidMore
import Derived.Lay
import Derived.SevenTiedAt
import Derived.Stop.Joined
import Derived.LaidHandle
import Derived.LaidLaws
import Derived.ChangeVars
import Derived.JoinedOf
import Derived.RowKitTokens
namespace Go.Proofs.YtfmiciodcimkeaaGreatDoor.packWrites
open Go.ChangeShapes Go.WideShapes Go.ChangeAt Go.RowKit
open Go.AL Go.NumSpec
set_option linter.unusedVariables false

theorem own : ownKnob Tryz.prog.godebug = none := by kernel_rfl
theorem laidOut : laidOutB Tryz.prog = true := by kernel_rfl
theorem openRes : Opens Tryz.prog 74 (Tri) (resL) (fits3) := ((Opens.struct (tot := 3) Tryz.underlying74 (by kernel_rfl) (OpensFs.cons (m := 1) rfl (by kernel_rfl) (Opens.i64 Tryz.underlying3) (OpensFs.cons (m := 1) rfl (by kernel_rfl) (Opens.i64 Tryz.underlying3) (OpensFs.one (m := 1) rfl (by kernel_rfl) rfl (Opens.i64 Tryz.underlying3)))))).map (fun r => r) (fun _ => rfl) (fun _ h => h)
theorem openLab : Opens Tryz.prog 71 (Lab) (fun p => [.S p.1, .S p.2]) (okLab) := ((Opens.struct (tot := 2) Tryz.underlying71 (by kernel_rfl) (OpensFs.cons (m := 1) rfl (by kernel_rfl) (Opens.str Tryz.underlying9) (OpensFs.one (m := 1) rfl (by kernel_rfl) rfl (Opens.str Tryz.underlying9))))).map (fun r => r) (fun _ => rfl) (fun _ h => h)
theorem openLabs : Opens Tryz.prog 22 (List Lab) (fun l => [.sl (labsV l)]) (fun l => ∀ x ∈ l, okLab x) := ((Opens.slice (m := 2) (labAV) Tryz.underlying22 (by kernel_rfl) (by decide) openLab (fun _ => rfl))).map (fun r => r) (fun _ => rfl) (fun _ h => h)
theorem openInts : Opens Tryz.prog 75 (List Int) (fun l => [.sl (intsV l)]) (fun l => ∀ p ∈ l, fits p) := ((Opens.slice (m := 1) (fun n => .int .i64 n) Tryz.underlying75 (by kernel_rfl) (by decide) (Opens.i64 Tryz.underlying3) (fun _ => rfl))).map (fun r => r) (fun _ => rfl) (fun _ h => h)
theorem openProbe : Opens Tryz.prog 77 (Int × Int) (fun p => [.int .i64 p.1, .int .i64 p.2]) (fun p => fits p.1 ∧ fits p.2) := ((Opens.struct (tot := 2) Tryz.underlying77 (by kernel_rfl) (OpensFs.cons (m := 1) rfl (by kernel_rfl) (Opens.i64 Tryz.underlying3) (OpensFs.one (m := 1) rfl (by kernel_rfl) rfl (Opens.i64 Tryz.underlying3))))).map (fun r => r) (fun _ => rfl) (fun _ h => h)
theorem openCtr : Opens Tryz.prog 79 (Ctr) (ctrL) (okCtr) := ((Opens.struct (tot := 11) Tryz.underlying79 (by kernel_rfl) (OpensFs.cons (m := 1) rfl (by kernel_rfl) (Opens.str Tryz.underlying9) (OpensFs.cons (m := 1) rfl (by kernel_rfl) (Opens.str Tryz.underlying9) (OpensFs.cons (m := 3) rfl (by kernel_rfl) openRes (OpensFs.cons (m := 3) rfl (by kernel_rfl) openRes (OpensFs.cons (m := 1) rfl (by kernel_rfl) openInts (OpensFs.one (m := 2) rfl (by kernel_rfl) rfl openProbe)))))))).map (fun y => ⟨y.1, y.2.1, y.2.2.1, y.2.2.2.1, y.2.2.2.2.1, y.2.2.2.2.2⟩) (fun _ => rfl) (fun _ h => h.2.2)
theorem openCtrs : Opens Tryz.prog 23 (List Ctr) (fun l => [.sl (ctrsV l)]) (fun l => ∀ c ∈ l, okCtr c) := ((Opens.slice (m := 11) (ctrAV) Tryz.underlying23 (by kernel_rfl) (by decide) openCtr (fun _ => rfl))).map (fun r => r) (fun _ => rfl) (fun _ h => h)
theorem openSpc : Opens Tryz.prog 25 (Spc) (spcL) (okSpc) := ((Opens.struct (tot := 7) Tryz.underlying25 (by kernel_rfl) (OpensFs.cons (m := 1) rfl (by kernel_rfl) (Opens.str Tryz.underlying9) (OpensFs.cons (m := 1) rfl (by kernel_rfl) openLabs (OpensFs.cons (m := 1) rfl (by kernel_rfl) openCtrs (OpensFs.cons (m := 1) rfl (by kernel_rfl) openCtrs (OpensFs.cons (m := 1) rfl (by kernel_rfl) (Opens.i64 Tryz.underlying3) (OpensFs.cons (m := 1) rfl (by kernel_rfl) (Opens.i64 Tryz.underlying3) (OpensFs.one (m := 1) rfl (by kernel_rfl) rfl (Opens.i64 Tryz.underlying3)))))))))).map (fun y => ⟨y.1, y.2.1, y.2.2.1, y.2.2.2.1, y.2.2.2.2.1, y.2.2.2.2.2.1, y.2.2.2.2.2.2⟩) (fun _ => rfl) (fun _ h => h.2.2)

theorem parts {W : World} (h : laidMetH Tryz.prog Rows.packWritesRow.laid W) : laidMet Tryz.prog [("provost/text.marks", Rows.laid_provost_text_marks)] W ∧ handlesMet Tryz.prog [("errors.errorType", Rows.laid_errors_errorType)] W := h
theorem et : Tryz.prog.globalNamed "errors.errorType" = some 0 := by kernel_rfl
theorem rt : (Tryz.prog.cutTypes.find? (·.1 == "internal/reflectlite.rtype")).map (·.2) = some 190 := by kernel_rfl
theorem oneRow : ((List.range 248).filter fun t => Tryz.prog.rowNamed t [101, 114, 114, 111, 114]) = [41] := by kernel_rfl
theorem size : Tryz.prog.types.size = 248 := by kernel_rfl
theorem handle_of_laid {W : World} (h : laidMetH Tryz.prog Rows.packWritesRow.laid W) : W.cell? ⟨0, 0, none⟩ = some (.iface 190 (.agg #[.pointer (some ⟨3, 41, none⟩)])) := by
  obtain ⟨name, u, ty, e1, e2, e3, e4, e5⟩ := (parts h).2 _ (List.mem_singleton.2 rfl)
  have en : name = [101, 114, 114, 111, 114] := (Option.some.inj e1).symm
  subst en
  obtain rfl := Option.some.inj (rt.symm.trans e2)
  have hm : ty ∈ (List.range 248).filter fun t => Tryz.prog.rowNamed t [101, 114, 114, 111, 114] := List.mem_filter.2 ⟨List.mem_range.2 (by rw [← size]; exact e3), e4⟩
  rw [oneRow] at hm
  obtain rfl := List.mem_singleton.1 hm
  have hh : typeHandle Tryz.prog 41 = .pointer (some ⟨3, 41, none⟩) := by kernel_rfl
  rw [hh] at e5
  simpa using World.var?_cell et e5 0
theorem gTab : Tryz.prog.globalNamed "provost/text.marks" = some 1 := by kernel_rfl
theorem gTabType : (Tryz.prog.globals[1]?).map (·.type) = some 212 := by kernel_rfl
theorem cellsT : Tryz.prog.cellsOf 212 = 64 := by kernel_rfl
theorem cellsE : Tryz.prog.cellsOf 3 = 1 := by kernel_rfl
theorem table {W : World} (h : laidMetH Tryz.prog Rows.packWritesRow.laid W) : Lib.TabIs Tryz.prog W "provost/text.marks" .i64 marksI :=
  tabIs_of_laid (k := .i64) (zs := marksI) gTab gTabType Tryz.underlying212 Tryz.underlying3 cellsE cellsT (l := [("provost/text.marks", Rows.laid_provost_text_marks)]) List.mem_cons_self (parts h).1
theorem cells_in {W : World} (h : laidMetH Tryz.prog Rows.packWritesRow.laid W) : ∀ p, p ∈ tabs → p.1 < W.heap.size ∧ ∀ (j : Nat) u, p.2[j]? = some u → W.cell? ⟨p.1, j, none⟩ = some u := by
  intro p hp
  simp only [tabs, List.mem_cons, List.not_mem_nil, or_false] at hp
  rcases hp with rfl | rfl
  · have hc := handle_of_laid h
    refine ⟨cell_lt hc, fun j u hu => ?_⟩
    have hj : j = 0 := by have := (List.getElem?_eq_some_iff.1 hu).1; simpa using this
    subst hj
    cases hu
    exact hc
  · have hc := fun j (hj : j < marksI.length) => (table h).cell gTab j hj
    refine ⟨cell_lt (hc 0 (by decide)), fun j u hu => ?_⟩
    have hj : j < marksI.length := by have := (List.getElem?_eq_some_iff.1 hu).1; simpa [marksV] using this
    rw [hc j hj, ← hu]
    simp [marksV, hj]
theorem door_met (os : Os) (args : Array Value) : laidMetH Tryz.prog Rows.packWritesRow.laid ((World.doorLaid Tryz.prog 400 os).forCall (fun _ _ => 0) ⟨#[], args, []⟩).memory :=
  laidMetH_of_parts3 (fuel := 8) (laidMet_of_run' 8 (by kernel_rfl) (by kernel_rfl)) (by kernel_rfl) (by kernel_rfl)
set_option maxRecDepth 100000 in
theorem lifted (os : Os) (started : os.Started) (H : Type) (enc : TypeId × Value → H) :
    ReturnsInHanded {} Tryz.checked os 3 .any (fun w args => (Rows.packWritesSpec.pre enc Tryz.prog Tryz.f3 Rows.packWritesRow.domain false w args ∧ laidMetH Tryz.prog Rows.packWritesRow.laid w) ∧ sizedMet enc Tryz.prog Tryz.f3 (OpenSpec.ofChange Rows.packWritesSpec) false w args) (Rows.packWritesSpec.post enc Tryz.prog Tryz.f3 false true false false) := by
  refine returnsInHanded_of_change_and (C := Tryz.checked) (X := fun w _ => laidMetH Tryz.prog Rows.packWritesRow.laid w) (fun _ _ _ hh h => h.of_heap hh) own started (by kernel_rfl) Tryz.func3
    (ChangeSpec.witness_shaped (enc := enc) (C := Tryz.checked) (os := os) (X := fun w _ => laidMetH Tryz.prog Rows.packWritesRow.laid w) false (World.doorLaid Tryz.prog 400 os) #[.string ⟨#[]⟩, .agg #[.string ⟨#[]⟩, .slice none 0 0, .slice none 0 0, .slice none 0 0, .int .i64 0, .int .i64 0, .int .i64 0]] 8 rfl (World.shaped_of_RefB (by kernel_rfl) (by kernel_rfl)) (by kernel_rfl) (by kernel_rfl) (by kernel_rfl) (door_met os _)) ?_
  intro W base args ds gs before hval0 hW hcnd _ hL _
  have hval : ∀ (j : Nat) t v, Tryz.f3.params[j]? = some t → args[j]? = some v → Value.okWide Tryz.prog W .any base t v := hval0
  have hW' := hW
  obtain ⟨p, q, hA0, hV, rfl, hfz, hnd⟩ := hW
  have hA : DataW.TrodAll enc Tryz.prog W 0 (fun _ => true) true Tryz.f3.params.toList args.toList ds p := hA0
  rw [Tryz.params3] at hA hval
  obtain ⟨v0, vs0, d0, ds0, p0, q0, hargs, rfl, rfl, h0, r0⟩ := trodAll_cons hA
  obtain ⟨v1, vs1, d1, ds1, p1, q1, rfl, rfl, rfl, h1, r1⟩ := trodAll_cons r0
  obtain ⟨rfl, rfl, rfl⟩ := trodAll_nil r1
  obtain rfl : args = #[v0, v1] := by cases args; simp_all
  obtain ⟨rfl, rfl⟩ := trodVars_none hV
  obtain ⟨y0, o0, e0⟩ := (Opens.str Tryz.underlying9).argF (fun l => .S l) (fun _ => rfl) (by kernel_rfl) (hval 0 9 v0 rfl rfl) h0
  obtain ⟨y1, o1, e1⟩ := (openSpc).argS Tryz.underlying25 (hval 1 25 v1 rfl rfl) h1
  refine (GCalls.rowC (vs := #[v0, v1]) (Go.Proofs.YtfmiciodcimkeaaGreatDoor.law_PackWrites y0 y1) (by decide) (cells_in hL) ((RC.one e0).append (RC.one e1))).mono fun e W' ⟨he, hb⟩ => ?_
  subst he
  have hlt0 : ∀ x ∈ p0, x.block < W.heap.size := fun x hx => by simpa using hW'.lt x (by simp [hx])
  have hlt1 : ∀ x ∈ p1, x.block < W.heap.size := fun x hx => by simpa using hW'.lt x (by simp [hx])
  exact ⟨_, rfl, post_below hb hW' rfl rfl rfl rfl (fun _ _ _ => trodAll_cons_mk (shut_bool Tryz.underlying4 _) trodAll_mk0) (fun sp hsp => by rw [List.append_nil]; exact (trodAll_cons_mk (arg_stays laidOut (by kernel_rfl) (of_decide_eq_true (by kernel_rfl)) h0 hb hlt0 sp (fun x hx => hsp x (by simp [hx]))) (trodAll_cons_mk (arg_stays laidOut (by kernel_rfl) (of_decide_eq_true (by kernel_rfl)) h1 hb hlt1 sp (fun x hx => hsp x (by simp [hx]))) trodAll_mk0))) (ok_one (by kernel_rfl) rfl (okWide_bool_mk Tryz.underlying4 _))⟩

theorem over : Rows.packWritesRow.holds Tryz.pinned (OpenSpec.ofChange Rows.packWritesSpec) :=
  OpenClaim.holds_of_wide 3 Tryz.f3 rfl rfl rfl rfl rfl rfl rfl ⟨rfl, rfl, rfl, rfl, rfl⟩ rfl rfl rfl rfl rfl (by kernel_rfl) Tryz.func3 (by kernel_rfl)
    (of_decide_eq_true (by kernel_rfl)) (by unfold Func.isWrapper; first | (rw [if_pos (by decide +kernel)]; kernel_rfl) | (rw [if_neg (by decide +kernel)]; exact ⟨rfl, rfl⟩))
    (fun os started H enc _ => lifted os started H enc)

theorem plain (f : FuncId) (fn : Func) (hf : Tryz.pinned.checked.prog.funcNamed "provost/provostlaw07.PackWrites" = some f) (hfn : Tryz.pinned.checked.prog.funcs[f]? = some fn) :
    true = Tryz.pinned.checked.prog.looks [] ∧ ∀ (j : Nat) t, fn.params[j]? = some t → Tryz.pinned.checked.prog.wantsStandIn t = false := by
  obtain rfl : f = 3 := Option.some.inj ((show Tryz.prog.funcNamed "provost/provostlaw07.PackWrites" = some 3 by kernel_rfl).symm.trans hf) |>.symm
  obtain rfl : fn = Tryz.f3 := (Option.some.inj (Tryz.func3.symm.trans hfn)).symm
  refine ⟨by kernel_rfl, fun j t ht => ?_⟩
  rw [Tryz.params3] at ht
  have hm : t ∈ [9, 25] := by simpa using Array.mem_of_getElem? ht
  have hall : ([9, 25].all fun u => !Tryz.prog.wantsStandIn u) = true := by kernel_rfl
  exact (show Tryz.prog.wantsStandIn t = false by simpa using List.all_eq_true.1 hall t hm)

/-- The card. -/
theorem proved : Rows.PackWritesCardSaid :=
  Claim7.holds_tied_plain_at .later [] _ _ _ _ over (fun _ h => by cases h) (by kernel_rfl) (fun _ h => by cases h) packWrites_row_tie rfl ⟨rfl, rfl⟩ (by kernel_rfl) rfl plain (by kernel_rfl)
#print axioms proved
end Go.Proofs.YtfmiciodcimkeaaGreatDoor.packWrites
