/- Proves the given statement ScriptCallsCardSaid of this seat: the Go function answers true at every input, and what came in reads as before, where the listed table starts as the program's text lays it (the card ties that).
Conditions: none beyond the given statement. -/
import Derived.Test.YtfpkefhjomeeeaaGreatDoorW4
import Derived.Test.YtfpkefhjomeeeaaGreatDoorCards
import Derived.Test.YtfpkefhjomeeeaaGreatDoorTie
import Derived.WalkKit
import Derived.ProofKit
import Derived.OpenShut
import Derived.ShutString
import Derived.SizedLaws
import Derived.Carry
import Derived.LaidMore
import Derived.Lay
import Derived.SevenTiedAt
import Derived.Stop.Joined
import Derived.LaidHandle
import Derived.LaidLaws
import Derived.ChangeVars
import Derived.JoinedOf
import Derived.RowKitTokens
namespace Go.Proofs.YtfpkefhjomeeeaaGreatDoor.scriptCalls
open Go.ChangeShapes Go.WideShapes Go.ChangeAt Go.RowKit
open Go.AL Go.NumSpec
set_option linter.unusedVariables false

theorem own : ownKnob Tryz.prog.godebug = none := by kernel_rfl
theorem laidOut : laidOutB Tryz.prog = true := by kernel_rfl
theorem openInts : Opens Tryz.prog 22 (List Int) (fun l => [.sl (intsV l)]) (fun l => ∀ p ∈ l, fits p) := ((Opens.slice (m := 1) (fun n => .int .i64 n) Tryz.underlying22 (by kernel_rfl) (by decide) (Opens.i64 Tryz.underlying3) (fun _ => rfl))).map (fun r => r) (fun _ => rfl) (fun _ h => h)
theorem openEnt : Opens Tryz.prog 24 (Ent) (entL) (fun _ => True) := ((Opens.struct (tot := 3) Tryz.underlying24 (by kernel_rfl) (OpensFs.cons (m := 1) rfl (by kernel_rfl) (Opens.i64 Tryz.underlying3) (OpensFs.cons (m := 1) rfl (by kernel_rfl) openInts (OpensFs.one (m := 1) rfl (by kernel_rfl) rfl (Opens.str Tryz.underlying9)))))).map (fun y => ⟨y.1, y.2.1, y.2.2⟩) (fun _ => rfl) (fun _ _ => trivial)

theorem parts {W : World} (h : laidMetH Tryz.prog Rows.scriptCallsRow.laid W) : laidMet Tryz.prog [("unicode/utf8.acceptRanges", Rows.laid_unicode_utf8_acceptRanges), ("provost/text.marks", Rows.laid_provost_text_marks), ("provost/ask.kinds", Rows.laid_provost_ask_kinds), ("provost/script.verbs", Rows.laid_provost_script_verbs), ("unicode/utf8.first", Rows.laid_unicode_utf8_first)] W ∧ handlesMet Tryz.prog [("errors.errorType", Rows.laid_errors_errorType)] W := h
theorem et : Tryz.prog.globalNamed "errors.errorType" = some 2 := by kernel_rfl
theorem rt : (Tryz.prog.cutTypes.find? (·.1 == "internal/reflectlite.rtype")).map (·.2) = some 222 := by kernel_rfl
theorem oneRow : ((List.range 299).filter fun t => Tryz.prog.rowNamed t [101, 114, 114, 111, 114]) = [56] := by kernel_rfl
theorem size : Tryz.prog.types.size = 299 := by kernel_rfl
theorem handle_of_laid {W : World} (h : laidMetH Tryz.prog Rows.scriptCallsRow.laid W) : W.cell? ⟨2, 0, none⟩ = some (.iface 222 (.agg #[.pointer (some ⟨7, 56, none⟩)])) := by
  obtain ⟨name, u, ty, e1, e2, e3, e4, e5⟩ := (parts h).2 _ (List.mem_singleton.2 rfl)
  have en : name = [101, 114, 114, 111, 114] := (Option.some.inj e1).symm
  subst en
  obtain rfl := Option.some.inj (rt.symm.trans e2)
  have hm : ty ∈ (List.range 299).filter fun t => Tryz.prog.rowNamed t [101, 114, 114, 111, 114] := List.mem_filter.2 ⟨List.mem_range.2 (by rw [← size]; exact e3), e4⟩
  rw [oneRow] at hm
  obtain rfl := List.mem_singleton.1 hm
  have hh : typeHandle Tryz.prog 56 = .pointer (some ⟨7, 56, none⟩) := by kernel_rfl
  rw [hh] at e5
  simpa using World.var?_cell et e5 0
theorem gTab : Tryz.prog.globalNamed "provost/text.marks" = some 4 := by kernel_rfl
theorem gTabType : (Tryz.prog.globals[4]?).map (·.type) = some 254 := by kernel_rfl
theorem cellsT : Tryz.prog.cellsOf 254 = 64 := by kernel_rfl
theorem cellsE : Tryz.prog.cellsOf 3 = 1 := by kernel_rfl
theorem table {W : World} (h : laidMetH Tryz.prog Rows.scriptCallsRow.laid W) : Lib.TabIs Tryz.prog W "provost/text.marks" .i64 marksI :=
  tabIs_of_laid (k := .i64) (zs := marksI) gTab gTabType Tryz.underlying254 Tryz.underlying3 cellsE cellsT (l := [("unicode/utf8.acceptRanges", Rows.laid_unicode_utf8_acceptRanges), ("provost/text.marks", Rows.laid_provost_text_marks), ("provost/ask.kinds", Rows.laid_provost_ask_kinds), ("provost/script.verbs", Rows.laid_provost_script_verbs), ("unicode/utf8.first", Rows.laid_unicode_utf8_first)]) (List.mem_cons_of_mem _ List.mem_cons_self) (parts h).1
theorem gVerbs : Tryz.prog.globalNamed "provost/script.verbs" = some 0 := by kernel_rfl
theorem gVerbsType : (Tryz.prog.globals[0]?).map (·.type) = some 93 := by kernel_rfl
theorem verbs_in {W : World} (h : laidMetH Tryz.prog Rows.scriptCallsRow.laid W) : ∀ (j : Nat) u, verbsV[j]? = some u → W.cell? ⟨0, j, none⟩ = some u := by
  obtain ⟨ps, h1, _⟩ := (parts h).1
  obtain ⟨g', t', cs, fuel, p, e1, e2, e3, e4⟩ := laid_mem (name := "provost/script.verbs") (d := Rows.laid_provost_script_verbs) (List.mem_cons_of_mem _ (List.mem_cons_of_mem _ (List.mem_cons_of_mem _ List.mem_cons_self))) h1
  obtain rfl := Option.some.inj (gVerbs.symm.trans e1)
  obtain rfl := Option.some.inj (gVerbsType.symm.trans e2)
  intro j u hu
  have := verbs_cells Tryz.underlying93 (by kernel_rfl) Tryz.underlying92 (by kernel_rfl) rfl rfl rfl (by kernel_rfl) (by kernel_rfl) (by kernel_rfl) Tryz.underlying9 Tryz.underlying3 Tryz.underlying3 (e4.trans (by rfl)) j u hu
  rw [World.var?_cell gVerbs e3 j]
  simpa using this
theorem gKinds : Tryz.prog.globalNamed "provost/ask.kinds" = some 1 := by kernel_rfl
theorem gKindsType : (Tryz.prog.globals[1]?).map (·.type) = some 108 := by kernel_rfl
theorem kinds_in {W : World} (h : laidMetH Tryz.prog Rows.scriptCallsRow.laid W) : ∀ (j : Nat) u, kindsV[j]? = some u → W.cell? ⟨1, j, none⟩ = some u := by
  obtain ⟨ps, h1, _⟩ := (parts h).1
  obtain ⟨g', t', cs, fuel, p, e1, e2, e3, e4⟩ := laid_mem (name := "provost/ask.kinds") (d := Rows.laid_provost_ask_kinds) (List.mem_cons_of_mem _ (List.mem_cons_of_mem _ List.mem_cons_self)) h1
  obtain rfl := Option.some.inj (gKinds.symm.trans e1)
  obtain rfl := Option.some.inj (gKindsType.symm.trans e2)
  intro j u hu
  have := kinds_cells Tryz.underlying108 (by kernel_rfl) Tryz.underlying107 (by kernel_rfl) rfl rfl (by kernel_rfl) (by kernel_rfl) Tryz.underlying9 Tryz.underlying9 (e4.trans (by rfl)) j u hu
  rw [World.var?_cell gKinds e3 j]
  simpa using this
theorem cells_in {W : World} (h : laidMetH Tryz.prog Rows.scriptCallsRow.laid W) : ∀ p, p ∈ tabs → p.1 < W.heap.size ∧ ∀ (j : Nat) u, p.2[j]? = some u → W.cell? ⟨p.1, j, none⟩ = some u := by
  intro p hp
  simp only [tabs, List.mem_cons, List.not_mem_nil, or_false] at hp
  rcases hp with rfl | rfl | rfl | rfl
  · have hc := handle_of_laid h
    refine ⟨cell_lt hc, fun j u hu => ?_⟩
    have hj : j = 0 := by have := (List.getElem?_eq_some_iff.1 hu).1; simpa using this
    subst hj
    cases hu
    exact hc
  · have hc := fun j (hj : j < marksI.length) => (table h).cell gTab j hj
    refine ⟨cell_lt (hc 0 (by decide)), fun j u hu => ?_⟩
    have hj : j < marksI.length := by have := (List.getElem?_eq_some_iff.1 hu).1; simpa [marksV] using this
    rw [hc j hj, ← hu]
    simp [marksV, hj]
  · have hc := verbs_in h
    refine ⟨cell_lt (hc 0 _ rfl), fun j u hu => hc j u hu⟩
  · have hc := kinds_in h
    refine ⟨cell_lt (hc 0 _ rfl), fun j u hu => hc j u hu⟩
noncomputable def doorWorld (os : Os) : World :=
  let w0 := World.doorLaid Tryz.prog 2000 os
  { w0 with heap := w0.heap.modify 5 fun
      | .cells _ t frozen => .cells (Go.Pinned.utf8FirstZ.map fun (z : Nat) => Value.int .u8 z).toArray t frozen
      | o => o }
theorem door_met (os : Os) (args : Array Value) : laidMetH Tryz.prog Rows.scriptCallsRow.laid ((doorWorld os).forCall (fun _ _ => 0) ⟨#[], args, []⟩).memory :=
  laidMetH_of_parts3 (fuel := 8) (laidMet_of_run' 8 (by kernel_rfl) (by kernel_rfl)) (by kernel_rfl) (by kernel_rfl)
set_option maxRecDepth 100000 in
theorem lifted (os : Os) (started : os.Started) (H : Type) (enc : TypeId × Value → H) :
    ReturnsInHanded {} Tryz.checked os 3 .any (fun w args => (Rows.scriptCallsSpec.pre enc Tryz.prog Tryz.f3 Rows.scriptCallsRow.domain false w args ∧ laidMetH Tryz.prog Rows.scriptCallsRow.laid w) ∧ sizedMet enc Tryz.prog Tryz.f3 (OpenSpec.ofChange Rows.scriptCallsSpec) false w args) (Rows.scriptCallsSpec.post enc Tryz.prog Tryz.f3 false true false false) := by
  refine returnsInHanded_of_change_and (C := Tryz.checked) (X := fun w _ => laidMetH Tryz.prog Rows.scriptCallsRow.laid w) (fun _ _ _ hh h => h.of_heap hh) own started (by kernel_rfl) Tryz.func3
    (ChangeSpec.witness_shaped (enc := enc) (C := Tryz.checked) (os := os) (X := fun w _ => laidMetH Tryz.prog Rows.scriptCallsRow.laid w) false (doorWorld os) #[.agg #[.int .i64 0, .slice none 0 0, .string ⟨#[]⟩]] 8 rfl (World.shaped_of_RefB (by kernel_rfl) (by kernel_rfl)) (by kernel_rfl) (by kernel_rfl) (by kernel_rfl) (door_met os _)) ?_
  intro W base args ds gs before hval0 hW hcnd _ hL _
  have hval : ∀ (j : Nat) t v, Tryz.f3.params[j]? = some t → args[j]? = some v → Value.okWide Tryz.prog W .any base t v := hval0
  have hW' := hW
  obtain ⟨p, q, hA0, hV, rfl, hfz, hnd⟩ := hW
  have hA : DataW.TrodAll enc Tryz.prog W 0 (fun _ => true) true Tryz.f3.params.toList args.toList ds p := hA0
  rw [Tryz.params3] at hA hval
  obtain ⟨v0, vs0, d0, ds0, p0, q0, hargs, rfl, rfl, h0, r0⟩ := trodAll_cons hA
  obtain ⟨rfl, rfl, rfl⟩ := trodAll_nil r0
  obtain rfl : args = #[v0] := by cases args; simp_all
  obtain ⟨rfl, rfl⟩ := trodVars_none hV
  obtain ⟨y0, o0, e0⟩ := (openEnt).argS Tryz.underlying24 (hval 0 24 v0 rfl rfl) h0
  refine (GCalls.rowC (vs := #[v0]) (Go.Proofs.YtfpkefhjomeeeaaGreatDoor.law_ScriptCalls y0) (by decide) (cells_in hL) (RC.one e0)).mono fun e W' ⟨he, hb⟩ => ?_
  subst he
  have hlt0 : ∀ x ∈ p0, x.block < W.heap.size := fun x hx => by simpa using hW'.lt x (by simp [hx])
  exact ⟨_, rfl, post_below hb hW' rfl rfl rfl rfl (fun _ _ _ => trodAll_cons_mk (shut_bool Tryz.underlying4 _) trodAll_mk0) (fun sp hsp => by rw [List.append_nil]; exact (trodAll_cons_mk (arg_stays laidOut (by kernel_rfl) (of_decide_eq_true (by kernel_rfl)) h0 hb hlt0 sp (fun x hx => hsp x (by simp [hx]))) trodAll_mk0)) (ok_one (by kernel_rfl) rfl (okWide_bool_mk Tryz.underlying4 _))⟩

theorem over : Rows.scriptCallsRow.holds Tryz.pinned (OpenSpec.ofChange Rows.scriptCallsSpec) :=
  OpenClaim.holds_of_wide 3 Tryz.f3 rfl rfl rfl rfl rfl rfl rfl ⟨rfl, rfl, rfl, rfl, rfl⟩ rfl rfl rfl rfl rfl (by kernel_rfl) Tryz.func3 (by kernel_rfl)
    (of_decide_eq_true (by kernel_rfl)) (by unfold Func.isWrapper; first | (rw [if_pos (by decide +kernel)]; kernel_rfl) | (rw [if_neg (by decide +kernel)]; exact ⟨rfl, rfl⟩))
    (fun os started H enc _ => lifted os started H enc)

theorem plain (f : FuncId) (fn : Func) (hf : Tryz.pinned.checked.prog.funcNamed "provost/provostlaw45.ScriptCalls" = some f) (hfn : Tryz.pinned.checked.prog.funcs[f]? = some fn) :
    true = Tryz.pinned.checked.prog.looks [] ∧ ∀ (j : Nat) t, fn.params[j]? = some t → Tryz.pinned.checked.prog.wantsStandIn t = false := by
  obtain rfl : f = 3 := Option.some.inj ((show Tryz.prog.funcNamed "provost/provostlaw45.ScriptCalls" = some 3 by kernel_rfl).symm.trans hf) |>.symm
  obtain rfl : fn = Tryz.f3 := (Option.some.inj (Tryz.func3.symm.trans hfn)).symm
  refine ⟨by kernel_rfl, fun j t ht => ?_⟩
  rw [Tryz.params3] at ht
  have hm : t ∈ [24] := by simpa using Array.mem_of_getElem? ht
  have hall : ([24].all fun u => !Tryz.prog.wantsStandIn u) = true := by kernel_rfl
  exact (show Tryz.prog.wantsStandIn t = false by simpa using List.all_eq_true.1 hall t hm)

/-- The card. -/
theorem proved : Rows.ScriptCallsCardSaid :=
  Claim7.holds_tied_plain_at .later [] _ _ _ _ over (fun _ h => by cases h) (by kernel_rfl) (fun _ h => by cases h) scriptCalls_row_tie rfl ⟨rfl, rfl⟩ (by kernel_rfl) rfl plain (by kernel_rfl)
#print axioms proved
end Go.Proofs.YtfpkefhjomeeeaaGreatDoor.scriptCalls
