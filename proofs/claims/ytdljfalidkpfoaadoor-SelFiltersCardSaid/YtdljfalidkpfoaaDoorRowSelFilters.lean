/- Proves the given statement SelFiltersCardSaid of this seat: the Go function answers true at every input, and what came in reads as before, where the listed table starts as the program's text lays it (the card ties that).
Conditions: none beyond the given statement. -/
import Derived.Test.YtdljfalidkpfoaaDoorW3
import Derived.Test.YtdljfalidkpfoaaDoorCards
import Derived.Test.YtdljfalidkpfoaaDoorTie
import Derived.WalkKit
import Derived.ProofKit
import Derived.OpenShut
import Derived.ShutString
import Derived.SizedLaws
import Derived.Carry
import Derived.LaidMore
import Derived.Lay
import Derived.SevenTiedAt
import Derived.Stop.Joined
import Derived.LaidHandle
import Derived.LaidLaws
import Derived.ChangeVars
import Derived.JoinedOf
import Derived.RowKitTokens
namespace Go.Proofs.YtdljfalidkpfoaaDoor.selFilters
open Go.ChangeShapes Go.WideShapes Go.ChangeAt Go.RowKit
open Go.AL Go.NumSpec
set_option linter.unusedVariables false

theorem own : ownKnob Tryd.prog.godebug = none := by kernel_rfl
theorem laidOut : laidOutB Tryd.prog = true := by kernel_rfl
theorem openRes : Opens Tryd.prog 85 (Tri) (resL) (fits3) := ((Opens.struct (tot := 3) Tryd.underlying85 (by kernel_rfl) (OpensFs.cons (m := 1) rfl (by kernel_rfl) (Opens.i64 Tryd.underlying3) (OpensFs.cons (m := 1) rfl (by kernel_rfl) (Opens.i64 Tryd.underlying3) (OpensFs.one (m := 1) rfl (by kernel_rfl) rfl (Opens.i64 Tryd.underlying3)))))).map (fun r => r) (fun _ => rfl) (fun _ h => h)
theorem openLab : Opens Tryd.prog 52 (Lab) (fun p => [.S p.1, .S p.2]) (okLab) := ((Opens.struct (tot := 2) Tryd.underlying52 (by kernel_rfl) (OpensFs.cons (m := 1) rfl (by kernel_rfl) (Opens.str Tryd.underlying9) (OpensFs.one (m := 1) rfl (by kernel_rfl) rfl (Opens.str Tryd.underlying9))))).map (fun r => r) (fun _ => rfl) (fun _ h => h)
theorem openLabs : Opens Tryd.prog 22 (List Lab) (fun l => [.sl (labsV l)]) (fun l => ∀ x ∈ l, okLab x) := ((Opens.slice (m := 2) (labAV) Tryd.underlying22 (by kernel_rfl) (by decide) openLab (fun _ => rfl))).map (fun r => r) (fun _ => rfl) (fun _ h => h)
theorem openInts : Opens Tryd.prog 39 (List Int) (fun l => [.sl (intsV l)]) (fun l => ∀ p ∈ l, fits p) := ((Opens.slice (m := 1) (fun n => .int .i64 n) Tryd.underlying39 (by kernel_rfl) (by decide) (Opens.i64 Tryd.underlying3) (fun _ => rfl))).map (fun r => r) (fun _ => rfl) (fun _ h => h)
theorem openProbe : Opens Tryd.prog 87 (Int × Int) (fun p => [.int .i64 p.1, .int .i64 p.2]) (fun p => fits p.1 ∧ fits p.2) := ((Opens.struct (tot := 2) Tryd.underlying87 (by kernel_rfl) (OpensFs.cons (m := 1) rfl (by kernel_rfl) (Opens.i64 Tryd.underlying3) (OpensFs.one (m := 1) rfl (by kernel_rfl) rfl (Opens.i64 Tryd.underlying3))))).map (fun r => r) (fun _ => rfl) (fun _ h => h)
theorem openCtr : Opens Tryd.prog 89 (Ctr) (ctrL) (okCtr) := ((Opens.struct (tot := 11) Tryd.underlying89 (by kernel_rfl) (OpensFs.cons (m := 1) rfl (by kernel_rfl) (Opens.str Tryd.underlying9) (OpensFs.cons (m := 1) rfl (by kernel_rfl) (Opens.str Tryd.underlying9) (OpensFs.cons (m := 3) rfl (by kernel_rfl) openRes (OpensFs.cons (m := 3) rfl (by kernel_rfl) openRes (OpensFs.cons (m := 1) rfl (by kernel_rfl) openInts (OpensFs.one (m := 2) rfl (by kernel_rfl) rfl openProbe)))))))).map (fun y => ⟨y.1, y.2.1, y.2.2.1, y.2.2.2.1, y.2.2.2.2.1, y.2.2.2.2.2⟩) (fun _ => rfl) (fun _ h => h.2.2)
theorem openCtrs : Opens Tryd.prog 36 (List Ctr) (fun l => [.sl (ctrsV l)]) (fun l => ∀ c ∈ l, okCtr c) := ((Opens.slice (m := 11) (ctrAV) Tryd.underlying36 (by kernel_rfl) (by decide) openCtr (fun _ => rfl))).map (fun r => r) (fun _ => rfl) (fun _ h => h)
theorem openSpc : Opens Tryd.prog 38 (Spc) (spcL) (okSpc) := ((Opens.struct (tot := 7) Tryd.underlying38 (by kernel_rfl) (OpensFs.cons (m := 1) rfl (by kernel_rfl) (Opens.str Tryd.underlying9) (OpensFs.cons (m := 1) rfl (by kernel_rfl) openLabs (OpensFs.cons (m := 1) rfl (by kernel_rfl) openCtrs (OpensFs.cons (m := 1) rfl (by kernel_rfl) openCtrs (OpensFs.cons (m := 1) rfl (by kernel_rfl) (Opens.i64 Tryd.underlying3) (OpensFs.cons (m := 1) rfl (by kernel_rfl) (Opens.i64 Tryd.underlying3) (OpensFs.one (m := 1) rfl (by kernel_rfl) rfl (Opens.i64 Tryd.underlying3)))))))))).map (fun y => ⟨y.1, y.2.1, y.2.2.1, y.2.2.2.1, y.2.2.2.2.1, y.2.2.2.2.2.1, y.2.2.2.2.2.2⟩) (fun _ => rfl) (fun _ h => h.2.2)
theorem openPod : Opens Tryd.prog 41 (Pod) (podL) (fun _ => True) := ((Opens.struct (tot := 13) Tryd.underlying41 (by kernel_rfl) (OpensFs.cons (m := 1) rfl (by kernel_rfl) (Opens.i64 Tryd.underlying3) (OpensFs.cons (m := 1) rfl (by kernel_rfl) (Opens.u64 Tryd.underlying35) (OpensFs.cons (m := 7) rfl (by kernel_rfl) openSpc (OpensFs.cons (m := 1) rfl (by kernel_rfl) (Opens.i64 Tryd.underlying3) (OpensFs.cons (m := 1) rfl (by kernel_rfl) openInts (OpensFs.cons (m := 1) rfl (by kernel_rfl) (Opens.i64 Tryd.underlying3) (OpensFs.one (m := 1) rfl (by kernel_rfl) rfl (Opens.i64 Tryd.underlying3)))))))))).map (fun y => ⟨y.1, y.2.1, y.2.2.1, y.2.2.2.1, y.2.2.2.2.1, y.2.2.2.2.2.1, y.2.2.2.2.2.2⟩) (fun _ => rfl) (fun _ _ => trivial)
theorem openPods : Opens Tryd.prog 33 (List Pod) (fun l => [.sl (podsV l)]) (fun _ => True) := ((Opens.slice (m := 13) (podAV) Tryd.underlying33 (by kernel_rfl) (by decide) openPod (fun _ => rfl))).map (fun r => r) (fun _ => rfl) (fun _ _ => trivial)

theorem parts {W : World} (h : laidMetH Tryd.prog Rows.selFiltersRow.laid W) : laidMet Tryd.prog [("unicode/utf8.acceptRanges", Rows.laid_unicode_utf8_acceptRanges), ("provost/text.marks", Rows.laid_provost_text_marks), ("unicode/utf8.first", Rows.laid_unicode_utf8_first)] W ∧ handlesMet Tryd.prog [("errors.errorType", Rows.laid_errors_errorType)] W := h
theorem et : Tryd.prog.globalNamed "errors.errorType" = some 0 := by kernel_rfl
theorem rt : (Tryd.prog.cutTypes.find? (·.1 == "internal/reflectlite.rtype")).map (·.2) = some 124 := by kernel_rfl
theorem oneRow : ((List.range 184).filter fun t => Tryd.prog.rowNamed t [101, 114, 114, 111, 114]) = [59] := by kernel_rfl
theorem size : Tryd.prog.types.size = 184 := by kernel_rfl
theorem handle_of_laid {W : World} (h : laidMetH Tryd.prog Rows.selFiltersRow.laid W) : W.cell? ⟨0, 0, none⟩ = some (.iface 124 (.agg #[.pointer (some ⟨5, 59, none⟩)])) := by
  obtain ⟨name, u, ty, e1, e2, e3, e4, e5⟩ := (parts h).2 _ (List.mem_singleton.2 rfl)
  have en : name = [101, 114, 114, 111, 114] := (Option.some.inj e1).symm
  subst en
  obtain rfl := Option.some.inj (rt.symm.trans e2)
  have hm : ty ∈ (List.range 184).filter fun t => Tryd.prog.rowNamed t [101, 114, 114, 111, 114] := List.mem_filter.2 ⟨List.mem_range.2 (by rw [← size]; exact e3), e4⟩
  rw [oneRow] at hm
  obtain rfl := List.mem_singleton.1 hm
  have hh : typeHandle Tryd.prog 59 = .pointer (some ⟨5, 59, none⟩) := by kernel_rfl
  rw [hh] at e5
  simpa using World.var?_cell et e5 0
theorem gTab : Tryd.prog.globalNamed "provost/text.marks" = some 4 := by kernel_rfl
theorem gTabType : (Tryd.prog.globals[4]?).map (·.type) = some 155 := by kernel_rfl
theorem cellsT : Tryd.prog.cellsOf 155 = 64 := by kernel_rfl
theorem cellsE : Tryd.prog.cellsOf 3 = 1 := by kernel_rfl
theorem table {W : World} (h : laidMetH Tryd.prog Rows.selFiltersRow.laid W) : Lib.TabIs Tryd.prog W "provost/text.marks" .i64 marksI :=
  tabIs_of_laid (k := .i64) (zs := marksI) gTab gTabType Tryd.underlying155 Tryd.underlying3 cellsE cellsT (l := [("unicode/utf8.acceptRanges", Rows.laid_unicode_utf8_acceptRanges), ("provost/text.marks", Rows.laid_provost_text_marks), ("unicode/utf8.first", Rows.laid_unicode_utf8_first)]) (List.mem_cons_of_mem _ List.mem_cons_self) (parts h).1
theorem cells_in {W : World} (h : laidMetH Tryd.prog Rows.selFiltersRow.laid W) : ∀ p, p ∈ tabs → p.1 < W.heap.size ∧ ∀ (j : Nat) u, p.2[j]? = some u → W.cell? ⟨p.1, j, none⟩ = some u := by
  intro p hp
  simp only [tabs, List.mem_cons, List.not_mem_nil, or_false] at hp
  rcases hp with rfl | rfl
  · have hc := handle_of_laid h
    refine ⟨cell_lt hc, fun j u hu => ?_⟩
    have hj : j = 0 := by have := (List.getElem?_eq_some_iff.1 hu).1; simpa using this
    subst hj
    cases hu
    exact hc
  · have hc := fun j (hj : j < marksI.length) => (table h).cell gTab j hj
    refine ⟨cell_lt (hc 0 (by decide)), fun j u hu => ?_⟩
    have hj : j < marksI.length := by have := (List.getElem?_eq_some_iff.1 hu).1; simpa [marksV] using this
    rw [hc j hj, ← hu]
    simp [marksV, hj]
noncomputable def doorWorld (os : Os) : World :=
  let w0 := World.doorLaid Tryd.prog 400 os
  { w0 with heap := w0.heap.modify 2 fun
      | .cells _ t frozen => .cells (Go.Pinned.utf8FirstZ.map fun (z : Nat) => Value.int .u8 z).toArray t frozen
      | o => o }
theorem door_met (os : Os) (args : Array Value) : laidMetH Tryd.prog Rows.selFiltersRow.laid ((doorWorld os).forCall (fun _ _ => 0) ⟨#[], args, []⟩).memory :=
  laidMetH_of_parts3 (fuel := 8) (laidMet_of_run' 8 (by kernel_rfl) (by kernel_rfl)) (by kernel_rfl) (by kernel_rfl)
set_option maxRecDepth 100000 in
theorem lifted (os : Os) (started : os.Started) (H : Type) (enc : TypeId × Value → H) :
    ReturnsInHanded {} Tryd.checked os 5 .any (fun w args => (Rows.selFiltersSpec.pre enc Tryd.prog Tryd.f5 Rows.selFiltersRow.domain false w args ∧ laidMetH Tryd.prog Rows.selFiltersRow.laid w) ∧ sizedMet enc Tryd.prog Tryd.f5 (OpenSpec.ofChange Rows.selFiltersSpec) false w args) (Rows.selFiltersSpec.post enc Tryd.prog Tryd.f5 false true false false) := by
  refine returnsInHanded_of_change_and (C := Tryd.checked) (X := fun w _ => laidMetH Tryd.prog Rows.selFiltersRow.laid w) (fun _ _ _ hh h => h.of_heap hh) own started (by kernel_rfl) Tryd.func5
    (ChangeSpec.witness_shaped (enc := enc) (C := Tryd.checked) (os := os) (X := fun w _ => laidMetH Tryd.prog Rows.selFiltersRow.laid w) false (doorWorld os) #[.slice none 0 0, .slice none 0 0] 8 rfl (World.shaped_of_RefB (by kernel_rfl) (by kernel_rfl)) (by kernel_rfl) (by kernel_rfl) (by kernel_rfl) (door_met os _)) ?_
  intro W base args ds gs before hval0 hW hcnd _ hL _
  have hval : ∀ (j : Nat) t v, Tryd.f5.params[j]? = some t → args[j]? = some v → Value.okWide Tryd.prog W .any base t v := hval0
  have hW' := hW
  obtain ⟨p, q, hA0, hV, rfl, hfz, hnd⟩ := hW
  have hA : DataW.TrodAll enc Tryd.prog W 0 (fun _ => true) true Tryd.f5.params.toList args.toList ds p := hA0
  rw [Tryd.params5] at hA hval
  obtain ⟨v0, vs0, d0, ds0, p0, q0, hargs, rfl, rfl, h0, r0⟩ := trodAll_cons hA
  obtain ⟨v1, vs1, d1, ds1, p1, q1, rfl, rfl, rfl, h1, r1⟩ := trodAll_cons r0
  obtain ⟨rfl, rfl, rfl⟩ := trodAll_nil r1
  obtain rfl : args = #[v0, v1] := by cases args; simp_all
  obtain ⟨rfl, rfl⟩ := trodVars_none hV
  obtain ⟨y0, o0, e0⟩ := (openLabs).argF (fun l => .sl (labsV l)) (fun _ => rfl) (by kernel_rfl) (hval 0 22 v0 rfl rfl) h0
  obtain ⟨y1, o1, e1⟩ := (openPods).argF (fun l => .sl (podsV l)) (fun _ => rfl) (by kernel_rfl) (hval 1 33 v1 rfl rfl) h1
  refine (GCalls.rowC (vs := #[v0, v1]) (Go.Proofs.YtdljfalidkpfoaaDoor.law_SelFilters y0 y1) (by decide) (cells_in hL) ((RC.one e0).append (RC.one e1))).mono fun e W' ⟨he, hb⟩ => ?_
  subst he
  have hlt0 : ∀ x ∈ p0, x.block < W.heap.size := fun x hx => by simpa using hW'.lt x (by simp [hx])
  have hlt1 : ∀ x ∈ p1, x.block < W.heap.size := fun x hx => by simpa using hW'.lt x (by simp [hx])
  exact ⟨_, rfl, post_below hb hW' rfl rfl rfl rfl (fun _ _ _ => trodAll_cons_mk (shut_bool Tryd.underlying4 _) trodAll_mk0) (fun sp hsp => by rw [List.append_nil]; exact (trodAll_cons_mk (arg_stays laidOut (by kernel_rfl) (of_decide_eq_true (by kernel_rfl)) h0 hb hlt0 sp (fun x hx => hsp x (by simp [hx]))) (trodAll_cons_mk (arg_stays laidOut (by kernel_rfl) (of_decide_eq_true (by kernel_rfl)) h1 hb hlt1 sp (fun x hx => hsp x (by simp [hx]))) trodAll_mk0))) (ok_one (by kernel_rfl) rfl (okWide_bool_mk Tryd.underlying4 _))⟩

theorem over : Rows.selFiltersRow.holds Tryd.pinned (OpenSpec.ofChange Rows.selFiltersSpec) :=
  OpenClaim.holds_of_wide 5 Tryd.f5 rfl rfl rfl rfl rfl rfl rfl ⟨rfl, rfl, rfl, rfl, rfl⟩ rfl rfl rfl rfl rfl (by kernel_rfl) Tryd.func5 (by kernel_rfl)
    (of_decide_eq_true (by kernel_rfl)) (by unfold Func.isWrapper; first | (rw [if_pos (by decide +kernel)]; kernel_rfl) | (rw [if_neg (by decide +kernel)]; exact ⟨rfl, rfl⟩))
    (fun os started H enc _ => lifted os started H enc)

theorem plain (f : FuncId) (fn : Func) (hf : Tryd.pinned.checked.prog.funcNamed "provost/provostlaw11.SelFilters" = some f) (hfn : Tryd.pinned.checked.prog.funcs[f]? = some fn) :
    true = Tryd.pinned.checked.prog.looks [] ∧ ∀ (j : Nat) t, fn.params[j]? = some t → Tryd.pinned.checked.prog.wantsStandIn t = false := by
  obtain rfl : f = 5 := Option.some.inj ((show Tryd.prog.funcNamed "provost/provostlaw11.SelFilters" = some 5 by kernel_rfl).symm.trans hf) |>.symm
  obtain rfl : fn = Tryd.f5 := (Option.some.inj (Tryd.func5.symm.trans hfn)).symm
  refine ⟨by kernel_rfl, fun j t ht => ?_⟩
  rw [Tryd.params5] at ht
  have hm : t ∈ [22, 33] := by simpa using Array.mem_of_getElem? ht
  have hall : ([22, 33].all fun u => !Tryd.prog.wantsStandIn u) = true := by kernel_rfl
  exact (show Tryd.prog.wantsStandIn t = false by simpa using List.all_eq_true.1 hall t hm)

/-- The card. -/
theorem proved : Rows.SelFiltersCardSaid :=
  Claim7.holds_tied_plain_at .later [] _ _ _ _ over (fun _ h => by cases h) (by kernel_rfl) (fun _ h => by cases h) selFilters_row_tie rfl ⟨rfl, rfl⟩ (by kernel_rfl) rfl plain (by kernel_rfl)
#print axioms proved
end Go.Proofs.YtdljfalidkpfoaaDoor.selFilters
