/- Proves the given statement ScriptReadsCardSaid of this seat: the Go function answers true at every input, and what came in reads as before, where the listed table starts as the program's text lays it (the card ties that).
Conditions: none beyond the given statement. -/
import Derived.Test.YtfpkefhjomeeeaaDoorW3
import Derived.Test.YtfpkefhjomeeeaaDoorCards
import Derived.Test.YtfpkefhjomeeeaaDoorTie
import Derived.WalkKit
import Derived.ProofKit
import Derived.OpenShut
import Derived.ShutString
import Derived.SizedLaws
import Derived.Carry
import Derived.LaidMore
import Derived.Lay
import Derived.SevenTiedAt
import Derived.Stop.Joined
import Derived.LaidHandle
import Derived.LaidLaws
import Derived.ChangeVars
import Derived.JoinedOf
import Derived.RowKitTokens
namespace Go.Proofs.YtfpkefhjomeeeaaDoor.scriptReads
open Go.ChangeShapes Go.WideShapes Go.ChangeAt Go.RowKit
open Go.AL Go.NumSpec
set_option linter.unusedVariables false

theorem own : ownKnob Tryd.prog.godebug = none := by kernel_rfl
theorem laidOut : laidOutB Tryd.prog = true := by kernel_rfl
theorem openInts : Opens Tryd.prog 22 (List Int) (fun l => [.sl (intsV l)]) (fun l => ∀ p ∈ l, fits p) := ((Opens.slice (m := 1) (fun n => .int .i64 n) Tryd.underlying22 (by kernel_rfl) (by decide) (Opens.i64 Tryd.underlying3) (fun _ => rfl))).map (fun r => r) (fun _ => rfl) (fun _ h => h)
theorem openEnt : Opens Tryd.prog 24 (Ent) (entL) (fun _ => True) := ((Opens.struct (tot := 3) Tryd.underlying24 (by kernel_rfl) (OpensFs.cons (m := 1) rfl (by kernel_rfl) (Opens.i64 Tryd.underlying3) (OpensFs.cons (m := 1) rfl (by kernel_rfl) openInts (OpensFs.one (m := 1) rfl (by kernel_rfl) rfl (Opens.str Tryd.underlying9)))))).map (fun y => ⟨y.1, y.2.1, y.2.2⟩) (fun _ => rfl) (fun _ _ => trivial)
theorem openEnts : Opens Tryd.prog 39 (List Ent) (fun l => [.sl (l.map entAV)]) (fun _ => True) := ((Opens.slice (m := 3) (entAV) Tryd.underlying39 (by kernel_rfl) (by decide) openEnt (fun _ => rfl))).map (fun r => r) (fun _ => rfl) (fun _ _ => trivial)

theorem parts {W : World} (h : laidMetH Tryd.prog Rows.scriptReadsRow.laid W) : laidMet Tryd.prog [("unicode/utf8.acceptRanges", Rows.laid_unicode_utf8_acceptRanges), ("provost/text.marks", Rows.laid_provost_text_marks), ("provost/script.verbs", Rows.laid_provost_script_verbs), ("unicode/utf8.first", Rows.laid_unicode_utf8_first)] W ∧ handlesMet Tryd.prog [("errors.errorType", Rows.laid_errors_errorType)] W := h
theorem et : Tryd.prog.globalNamed "errors.errorType" = some 1 := by kernel_rfl
theorem rt : (Tryd.prog.cutTypes.find? (·.1 == "internal/reflectlite.rtype")).map (·.2) = some 120 := by kernel_rfl
theorem oneRow : ((List.range 172).filter fun t => Tryd.prog.rowNamed t [101, 114, 114, 111, 114]) = [42] := by kernel_rfl
theorem size : Tryd.prog.types.size = 172 := by kernel_rfl
theorem handle_of_laid {W : World} (h : laidMetH Tryd.prog Rows.scriptReadsRow.laid W) : W.cell? ⟨1, 0, none⟩ = some (.iface 120 (.agg #[.pointer (some ⟨6, 42, none⟩)])) := by
  obtain ⟨name, u, ty, e1, e2, e3, e4, e5⟩ := (parts h).2 _ (List.mem_singleton.2 rfl)
  have en : name = [101, 114, 114, 111, 114] := (Option.some.inj e1).symm
  subst en
  obtain rfl := Option.some.inj (rt.symm.trans e2)
  have hm : ty ∈ (List.range 172).filter fun t => Tryd.prog.rowNamed t [101, 114, 114, 111, 114] := List.mem_filter.2 ⟨List.mem_range.2 (by rw [← size]; exact e3), e4⟩
  rw [oneRow] at hm
  obtain rfl := List.mem_singleton.1 hm
  have hh : typeHandle Tryd.prog 42 = .pointer (some ⟨6, 42, none⟩) := by kernel_rfl
  rw [hh] at e5
  simpa using World.var?_cell et e5 0
theorem gTab : Tryd.prog.globalNamed "provost/text.marks" = some 3 := by kernel_rfl
theorem gTabType : (Tryd.prog.globals[3]?).map (·.type) = some 137 := by kernel_rfl
theorem cellsT : Tryd.prog.cellsOf 137 = 64 := by kernel_rfl
theorem cellsE : Tryd.prog.cellsOf 3 = 1 := by kernel_rfl
theorem table {W : World} (h : laidMetH Tryd.prog Rows.scriptReadsRow.laid W) : Lib.TabIs Tryd.prog W "provost/text.marks" .i64 marksI :=
  tabIs_of_laid (k := .i64) (zs := marksI) gTab gTabType Tryd.underlying137 Tryd.underlying3 cellsE cellsT (l := [("unicode/utf8.acceptRanges", Rows.laid_unicode_utf8_acceptRanges), ("provost/text.marks", Rows.laid_provost_text_marks), ("provost/script.verbs", Rows.laid_provost_script_verbs), ("unicode/utf8.first", Rows.laid_unicode_utf8_first)]) (List.mem_cons_of_mem _ List.mem_cons_self) (parts h).1
theorem gVerbs : Tryd.prog.globalNamed "provost/script.verbs" = some 0 := by kernel_rfl
theorem gVerbsType : (Tryd.prog.globals[0]?).map (·.type) = some 63 := by kernel_rfl
theorem verbs_in {W : World} (h : laidMetH Tryd.prog Rows.scriptReadsRow.laid W) : ∀ (j : Nat) u, verbsV[j]? = some u → W.cell? ⟨0, j, none⟩ = some u := by
  obtain ⟨ps, h1, _⟩ := (parts h).1
  obtain ⟨g', t', cs, fuel, p, e1, e2, e3, e4⟩ := laid_mem (name := "provost/script.verbs") (d := Rows.laid_provost_script_verbs) (List.mem_cons_of_mem _ (List.mem_cons_of_mem _ List.mem_cons_self)) h1
  obtain rfl := Option.some.inj (gVerbs.symm.trans e1)
  obtain rfl := Option.some.inj (gVerbsType.symm.trans e2)
  intro j u hu
  have := verbs_cells Tryd.underlying63 (by kernel_rfl) Tryd.underlying62 (by kernel_rfl) rfl rfl rfl (by kernel_rfl) (by kernel_rfl) (by kernel_rfl) Tryd.underlying9 Tryd.underlying3 Tryd.underlying3 (e4.trans (by rfl)) j u hu
  rw [World.var?_cell gVerbs e3 j]
  simpa using this
theorem cells_in {W : World} (h : laidMetH Tryd.prog Rows.scriptReadsRow.laid W) : ∀ p, p ∈ tabsE → p.1 < W.heap.size ∧ ∀ (j : Nat) u, p.2[j]? = some u → W.cell? ⟨p.1, j, none⟩ = some u := by
  intro p hp
  simp only [tabsE, List.mem_cons, List.not_mem_nil, or_false] at hp
  rcases hp with rfl | rfl | rfl
  · have hc := handle_of_laid h
    refine ⟨cell_lt hc, fun j u hu => ?_⟩
    have hj : j = 0 := by have := (List.getElem?_eq_some_iff.1 hu).1; simpa using this
    subst hj
    cases hu
    exact hc
  · have hc := fun j (hj : j < marksI.length) => (table h).cell gTab j hj
    refine ⟨cell_lt (hc 0 (by decide)), fun j u hu => ?_⟩
    have hj : j < marksI.length := by have := (List.getElem?_eq_some_iff.1 hu).1; simpa [marksV] using this
    rw [hc j hj, ← hu]
    simp [marksV, hj]
  · have hc := verbs_in h
    refine ⟨cell_lt (hc 0 _ rfl), fun j u hu => hc j u hu⟩
noncomputable def doorWorld (os : Os) : World :=
  let w0 := World.doorLaid Tryd.prog 2000 os
  { w0 with heap := w0.heap.modify 4 fun
      | .cells _ t frozen => .cells (Go.Pinned.utf8FirstZ.map fun (z : Nat) => Value.int .u8 z).toArray t frozen
      | o => o }
theorem door_met (os : Os) (args : Array Value) : laidMetH Tryd.prog Rows.scriptReadsRow.laid ((doorWorld os).forCall (fun _ _ => 0) ⟨#[], args, []⟩).memory :=
  laidMetH_of_parts3 (fuel := 8) (laidMet_of_run' 8 (by kernel_rfl) (by kernel_rfl)) (by kernel_rfl) (by kernel_rfl)
set_option maxRecDepth 100000 in
theorem lifted (os : Os) (started : os.Started) (H : Type) (enc : TypeId × Value → H) :
    ReturnsInHanded {} Tryd.checked os 5 .any (fun w args => (Rows.scriptReadsSpec.pre enc Tryd.prog Tryd.f5 Rows.scriptReadsRow.domain false w args ∧ laidMetH Tryd.prog Rows.scriptReadsRow.laid w) ∧ sizedMet enc Tryd.prog Tryd.f5 (OpenSpec.ofChange Rows.scriptReadsSpec) false w args) (Rows.scriptReadsSpec.post enc Tryd.prog Tryd.f5 false true false false) := by
  refine returnsInHanded_of_change_and (C := Tryd.checked) (X := fun w _ => laidMetH Tryd.prog Rows.scriptReadsRow.laid w) (fun _ _ _ hh h => h.of_heap hh) own started (by kernel_rfl) Tryd.func5
    (ChangeSpec.witness_shaped (enc := enc) (C := Tryd.checked) (os := os) (X := fun w _ => laidMetH Tryd.prog Rows.scriptReadsRow.laid w) false (doorWorld os) #[.string ⟨#[]⟩, .slice none 0 0] 8 rfl (World.shaped_of_RefB (by kernel_rfl) (by kernel_rfl)) (by kernel_rfl) (by kernel_rfl) (by kernel_rfl) (door_met os _)) ?_
  intro W base args ds gs before hval0 hW hcnd _ hL _
  have hval : ∀ (j : Nat) t v, Tryd.f5.params[j]? = some t → args[j]? = some v → Value.okWide Tryd.prog W .any base t v := hval0
  have hW' := hW
  obtain ⟨p, q, hA0, hV, rfl, hfz, hnd⟩ := hW
  have hA : DataW.TrodAll enc Tryd.prog W 0 (fun _ => true) true Tryd.f5.params.toList args.toList ds p := hA0
  rw [Tryd.params5] at hA hval
  obtain ⟨v0, vs0, d0, ds0, p0, q0, hargs, rfl, rfl, h0, r0⟩ := trodAll_cons hA
  obtain ⟨v1, vs1, d1, ds1, p1, q1, rfl, rfl, rfl, h1, r1⟩ := trodAll_cons r0
  obtain ⟨rfl, rfl, rfl⟩ := trodAll_nil r1
  obtain rfl : args = #[v0, v1] := by cases args; simp_all
  obtain ⟨rfl, rfl⟩ := trodVars_none hV
  obtain ⟨y0, o0, e0⟩ := (Opens.str Tryd.underlying9).argF (fun l => .S l) (fun _ => rfl) (by kernel_rfl) (hval 0 9 v0 rfl rfl) h0
  obtain ⟨y1, o1, e1⟩ := (openEnts).argF (fun l => .sl (l.map entAV)) (fun _ => rfl) (by kernel_rfl) (hval 1 39 v1 rfl rfl) h1
  refine (GCalls.rowC (vs := #[v0, v1]) (Go.Proofs.YtfpkefhjomeeeaaDoor.law_ScriptReads y0 y1) (by decide) (cells_in hL) ((RC.one e0).append (RC.one e1))).mono fun e W' ⟨he, hb⟩ => ?_
  subst he
  have hlt0 : ∀ x ∈ p0, x.block < W.heap.size := fun x hx => by simpa using hW'.lt x (by simp [hx])
  have hlt1 : ∀ x ∈ p1, x.block < W.heap.size := fun x hx => by simpa using hW'.lt x (by simp [hx])
  exact ⟨_, rfl, post_below hb hW' rfl rfl rfl rfl (fun _ _ _ => trodAll_cons_mk (shut_bool Tryd.underlying4 _) trodAll_mk0) (fun sp hsp => by rw [List.append_nil]; exact (trodAll_cons_mk (arg_stays laidOut (by kernel_rfl) (of_decide_eq_true (by kernel_rfl)) h0 hb hlt0 sp (fun x hx => hsp x (by simp [hx]))) (trodAll_cons_mk (arg_stays laidOut (by kernel_rfl) (of_decide_eq_true (by kernel_rfl)) h1 hb hlt1 sp (fun x hx => hsp x (by simp [hx]))) trodAll_mk0))) (ok_one (by kernel_rfl) rfl (okWide_bool_mk Tryd.underlying4 _))⟩

theorem over : Rows.scriptReadsRow.holds Tryd.pinned (OpenSpec.ofChange Rows.scriptReadsSpec) :=
  OpenClaim.holds_of_wide 5 Tryd.f5 rfl rfl rfl rfl rfl rfl rfl ⟨rfl, rfl, rfl, rfl, rfl⟩ rfl rfl rfl rfl rfl (by kernel_rfl) Tryd.func5 (by kernel_rfl)
    (of_decide_eq_true (by kernel_rfl)) (by unfold Func.isWrapper; first | (rw [if_pos (by decide +kernel)]; kernel_rfl) | (rw [if_neg (by decide +kernel)]; exact ⟨rfl, rfl⟩))
    (fun os started H enc _ => lifted os started H enc)

theorem plain (f : FuncId) (fn : Func) (hf : Tryd.pinned.checked.prog.funcNamed "provost/provostlaw45.ScriptReads" = some f) (hfn : Tryd.pinned.checked.prog.funcs[f]? = some fn) :
    true = Tryd.pinned.checked.prog.looks [] ∧ ∀ (j : Nat) t, fn.params[j]? = some t → Tryd.pinned.checked.prog.wantsStandIn t = false := by
  obtain rfl : f = 5 := Option.some.inj ((show Tryd.prog.funcNamed "provost/provostlaw45.ScriptReads" = some 5 by kernel_rfl).symm.trans hf) |>.symm
  obtain rfl : fn = Tryd.f5 := (Option.some.inj (Tryd.func5.symm.trans hfn)).symm
  refine ⟨by kernel_rfl, fun j t ht => ?_⟩
  rw [Tryd.params5] at ht
  have hm : t ∈ [9, 39] := by simpa using Array.mem_of_getElem? ht
  have hall : ([9, 39].all fun u => !Tryd.prog.wantsStandIn u) = true := by kernel_rfl
  exact (show Tryd.prog.wantsStandIn t = false by simpa using List.all_eq_true.1 hall t hm)

/-- The card. -/
theorem proved : Rows.ScriptReadsCardSaid :=
  Claim7.holds_tied_plain_at .later [] _ _ _ _ over (fun _ h => by cases h) (by kernel_rfl) (fun _ h => by cases h) scriptReads_row_tie rfl ⟨rfl, rfl⟩ (by kernel_rfl) rfl plain (by kernel_rfl)
#print axioms proved
end Go.Proofs.YtfpkefhjomeeeaaDoor.scriptReads
