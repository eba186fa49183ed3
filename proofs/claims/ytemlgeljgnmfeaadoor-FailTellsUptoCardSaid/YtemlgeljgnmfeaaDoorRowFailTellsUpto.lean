/- Proves the given statement FailTellsUptoCardSaid of this seat: the Go function answers true at every input whose bulk is within the bound, and what came in reads as before, where the listed table starts as the program's text lays it (the card ties that).
Conditions: none beyond the given statement. -/
import Derived.Test.YtemlgeljgnmfeaaDoorCards
import Derived.Test.YtemlgeljgnmfeaaDoorTie
import Derived.Test.YtemlgeljgnmfeaaDoorFail02h
import Derived.Test.YtemlgeljgnmfeaaDoorFailBulk
import Derived.Test.YtemlgeljgnmfeaaDoorAlRow
import Derived.WalkKit
import Derived.ProofKit
import Derived.OpenShut
import Derived.ShutString
import Derived.SizedLaws
import Derived.Carry
import Derived.LaidMore
import Derived.Lay
import Derived.SevenTiedAt
import Derived.Stop.Joined
import Derived.LaidHandle
import Derived.Deep.DeepHandedRow
import Derived.LaidLaws
import Derived.ChangeVars
import Derived.JoinedOf
import Derived.RowKitTokens
import Derived.Stop.Joined
namespace Go.Proofs.YtemlgeljgnmfeaaDoor.failTellsUpto
open Go.ChangeShapes Go.WideShapes Go.ChangeAt Go.RowKit
open Go.AL Go.NumSpec
set_option linter.unusedVariables false

theorem strsBulk {H : Type} (y : List (List UInt8)) : Rows.uptoBulkAll (y.map fun l => (DataW.lit (.string l) : DataW H)) = sumT y := by
  induction y with
  | nil => simp [Rows.uptoBulkAll, sumT]
  | cons p y ih => rw [List.map_cons, Rows.uptoBulkAll, ih, sumT_cons, Rows.uptoBulk]
theorem own : ownKnob Tryd.prog.godebug = none := by kernel_rfl
theorem laidOut : laidOutB Tryd.prog = true := by kernel_rfl

theorem et : Tryd.prog.globalNamed "errors.errorType" = some 0 := by kernel_rfl
theorem rt : (Tryd.prog.cutTypes.find? (·.1 == "internal/reflectlite.rtype")).map (·.2) = some 78 := by kernel_rfl
theorem oneRow : ((List.range 123).filter fun t => Tryd.prog.rowNamed t [101, 114, 114, 111, 114]) = [24] := by kernel_rfl
theorem size : Tryd.prog.types.size = 123 := by kernel_rfl
theorem handle_of_laid {W : World} (h : laidMetH Tryd.prog Rows.failTellsUptoRow.laid W) : W.cell? ⟨0, 0, none⟩ = some (.iface 78 (.agg #[.pointer (some ⟨2, 24, none⟩)])) := by
  have h' : laidMet Tryd.prog [] W ∧ handlesMet Tryd.prog Rows.failTellsUptoRow.laid W := h
  obtain ⟨name, u, ty, e1, e2, e3, e4, e5⟩ := h'.2 _ (List.mem_singleton.2 rfl)
  have en : name = [101, 114, 114, 111, 114] := (Option.some.inj e1).symm
  subst en
  obtain rfl := Option.some.inj (rt.symm.trans e2)
  have hm : ty ∈ (List.range 123).filter fun t => Tryd.prog.rowNamed t [101, 114, 114, 111, 114] := List.mem_filter.2 ⟨List.mem_range.2 (by rw [← size]; exact e3), e4⟩
  rw [oneRow] at hm
  obtain rfl := List.mem_singleton.1 hm
  have hh : typeHandle Tryd.prog 24 = .pointer (some ⟨2, 24, none⟩) := by kernel_rfl
  rw [hh] at e5
  simpa using World.var?_cell et e5 0
theorem cells_in {W : World} (h : laidMetH Tryd.prog Rows.failTellsUptoRow.laid W) : ∀ p, p ∈ tabs → p.1 < W.heap.size ∧ ∀ (j : Nat) u, p.2[j]? = some u → W.cell? ⟨p.1, j, none⟩ = some u := by
  intro p hp
  obtain rfl : p = (0, [.iface 78 (.agg #[.pointer (some ⟨2, 24, none⟩)])]) := by simpa [tabs] using hp
  have hc := handle_of_laid h
  refine ⟨cell_lt hc, fun j u hu => ?_⟩
  have hj : j = 0 := by have := (List.getElem?_eq_some_iff.1 hu).1; simpa using this
  subst hj
  cases hu
  exact hc
/-- A world that meets the condition: the settled one, the variable's cell laid. -/
noncomputable def laidWorld (os : Os) : World :=
  let w0 := World.holding Tryd.prog os ⟨#[], #[], []⟩
  { w0 with heap := w0.heap.modify 0 fun
      | .cells _ t frozen => .cells #[.iface 78 (.agg #[.pointer (some ⟨2, 24, none⟩)])] t frozen
      | o => o }
theorem laidWorld_met (os : Os) (args : Array Value) : laidMetH Tryd.prog Rows.failTellsUptoRow.laid ((laidWorld os).forCall (fun _ _ => 0) ⟨#[], args, []⟩).memory :=
  laidMetH_of_parts (laidMet_nil _ _) (by kernel_rfl)

theorem reads (os : Os) {H : Type} (enc : TypeId × Value → H) : ∃ places, DataW.whole enc Tryd.prog ((laidWorld os).forCall (fun _ _ => 0) ⟨#[], #[.agg #[.int .i64 0, .int .i64 0], .slice none 0 0, .slice none 0 0], []⟩).memory Tryd.f5.params.toList Rows.failTellsSpec.vars false (#[.agg #[.int .i64 0, .int .i64 0], .slice none 0 0, .slice none 0 0] : Array Value).toList 8 = some ([.agg [.lit (.int .i64 0), .lit (.int .i64 0)], .nil, .nil], [], places) := ⟨[], by kernel_rfl⟩
set_option maxRecDepth 100000 in
theorem lifted (os : Os) (started : os.Started) (H : Type) (enc : TypeId × Value → H) (F : Stop.Interp) :
    ReturnsInHanded {} Tryd.checked os 5 .any ((Rows.OpenSpec.upto Rows.failTellsSpec).preRow enc Tryd.prog Tryd.f5 Rows.failTellsUptoRow.domain false Rows.failTellsUptoRow.laid) (((Rows.OpenSpec.upto Rows.failTellsSpec).at F).post enc Tryd.prog Tryd.f5 false true false false) := by
  obtain ⟨places, hx⟩ := reads os enc
  refine returnsInHanded_of_row (C := Tryd.checked) (s := (Rows.OpenSpec.upto Rows.failTellsSpec)) own started (by kernel_rfl) Tryd.func5
    (witness_row_at (enc := enc) (C := Tryd.checked) false (laidWorld os) #[.agg #[.int .i64 0, .int .i64 0], .slice none 0 0, .slice none 0 0] rfl (by kernel_rfl) (by kernel_rfl) (by kernel_rfl)
      (OpenSpec.preRow_of_cond 8 hx (by kernel_rfl) (fun k hk => by cases hk; kernel_rfl) (by kernel_rfl) (laidWorld_met os _))) ?_
  intro W base args ds gs before hval0 hW _ hcond _ hL _ _
  have hval : ∀ (j : Nat) t v, Tryd.f5.params[j]? = some t → args[j]? = some v → Value.okWide Tryd.prog W .any base t v := hval0
  have hW' := hW
  obtain ⟨p, q, hA0, hV, rfl, hfz, hnd⟩ := hW
  have hA : DataW.TrodAll enc Tryd.prog W 0 (fun _ => true) true Tryd.f5.params.toList args.toList ds p := hA0
  rw [Tryd.params5] at hA hval
  obtain ⟨v0, vs0, d0, ds0, p0, q0, hargs, rfl, rfl, h0, r0⟩ := trodAll_cons hA
  obtain ⟨v1, vs1, d1, ds1, p1, q1, rfl, rfl, rfl, h1, r1⟩ := trodAll_cons r0
  obtain ⟨v2, vs2, d2, ds2, p2, q2, rfl, rfl, rfl, h2, r2⟩ := trodAll_cons r1
  obtain ⟨rfl, rfl, rfl⟩ := trodAll_nil r2
  obtain rfl : args = #[v0, v1, v2] := by cases args; simp_all
  obtain ⟨rfl, rfl⟩ := trodVars_none hV
  obtain ⟨y0, o0, e0⟩ := (Opens.arrInts (n := 2) Tryd.underlying36 Tryd.underlying3 (by kernel_rfl) (by kernel_rfl)).argA Tryd.underlying36 (hval 0 36 v0 rfl rfl) h0
  obtain ⟨y1, o1, e1⟩ := (Opens.slice (m := 1) (fun s => .S s) Tryd.underlying31 (by kernel_rfl) (by decide) (Opens.str Tryd.underlying9) (fun _ => rfl)).argF (fun l => .sl (strsV l)) (fun _ => rfl) (by kernel_rfl) (hval 1 31 v1 rfl rfl) h1
  obtain ⟨y2, o2, e2⟩ := (Opens.slice (m := 1) (fun s => .S s) Tryd.underlying31 (by kernel_rfl) (by decide) (Opens.str Tryd.underlying9) (fun _ => rfl)).argF (fun l => .sl (strsV l)) (fun _ => rfl) (by kernel_rfl) (hval 2 31 v2 rfl rfl) h2
  have hb1 := strs_data Tryd.underlying31 Tryd.underlying9 (by kernel_rfl) h1 e1
  have hb2 := strs_data Tryd.underlying31 Tryd.underlying9 (by kernel_rfl) h2 e2
  have hk := hcond _ rfl
  have hsum : sumT y1 + sumT y2 ≤ 1048576 := by
    have h := of_decide_eq_true hk
    simp only [List.append_nil, Rows.uptoBulkAll] at h
    have k1 : sumT y1 ≤ Rows.uptoBulk d1 := by
      rcases hb1 with rfl | ⟨sp, rfl⟩
      · simp [sumT]
      · rw [Rows.uptoBulk, strsBulk]; omega
    have k2 : sumT y2 ≤ Rows.uptoBulk d2 := by
      rcases hb2 with rfl | ⟨sp, rfl⟩
      · simp [sumT]
      · rw [Rows.uptoBulk, strsBulk]; omega
    omega
  refine (GCalls.rowC (vs := #[v0, v1, v2]) (Go.Proofs.YtemlgeljgnmfeaaDoor.row_FailTells y0 o0 y1 y2 hsum) (by decide) (cells_in hL) ((RC.one e0).append ((RC.one e1).append (RC.one e2)))).mono fun e W' ⟨he, hb⟩ => ?_
  subst he
  have hlt0 : ∀ x ∈ p0, x.block < W.heap.size := fun x hx => by simpa using hW'.lt x (by simp [hx])
  have hlt1 : ∀ x ∈ p1, x.block < W.heap.size := fun x hx => by simpa using hW'.lt x (by simp [hx])
  have hlt2 : ∀ x ∈ p2, x.block < W.heap.size := fun x hx => by simpa using hW'.lt x (by simp [hx])
  exact ⟨_, rfl, show Rows.failTellsSpec.post enc Tryd.prog Tryd.f5 false true false false W #[v0, v1, v2] _ W' from post_below hb hW' rfl rfl rfl rfl (fun _ _ _ => trodAll_cons_mk (shut_bool Tryd.underlying4 _) trodAll_mk0) (fun sp hsp => by rw [List.append_nil]; exact (trodAll_cons_mk (arg_stays laidOut (by kernel_rfl) (of_decide_eq_true (by kernel_rfl)) h0 hb hlt0 sp (fun x hx => hsp x (by simp [hx]))) (trodAll_cons_mk (arg_stays laidOut (by kernel_rfl) (of_decide_eq_true (by kernel_rfl)) h1 hb hlt1 sp (fun x hx => hsp x (by simp [hx]))) (trodAll_cons_mk (arg_stays laidOut (by kernel_rfl) (of_decide_eq_true (by kernel_rfl)) h2 hb hlt2 sp (fun x hx => hsp x (by simp [hx]))) trodAll_mk0)))) (ok_one (by kernel_rfl) rfl (okWide_bool_mk Tryd.underlying4 _))⟩

theorem over : Rows.failTellsUptoRow.holds Tryd.pinned (Rows.OpenSpec.upto Rows.failTellsSpec) :=
  OpenClaim.holds_of_cond 5 Tryd.f5 rfl rfl rfl rfl rfl rfl rfl ⟨rfl, rfl, rfl, rfl, rfl⟩ rfl rfl rfl rfl rfl (by kernel_rfl) Tryd.func5 (by kernel_rfl)
    (of_decide_eq_true (by kernel_rfl)) (by unfold Func.isWrapper; first | (rw [if_pos (by decide +kernel)]; kernel_rfl) | (rw [if_neg (by decide +kernel)]; exact ⟨rfl, rfl⟩))
    (fun os started H enc _ F => by rw [OpenClaim.pre_eq_preRow]; exact lifted os started H enc F)

theorem plain (f : FuncId) (fn : Func) (hf : Tryd.pinned.checked.prog.funcNamed "provost/provostlaw02.FailTells" = some f) (hfn : Tryd.pinned.checked.prog.funcs[f]? = some fn) :
    true = Tryd.pinned.checked.prog.looks [] ∧ ∀ (j : Nat) t, fn.params[j]? = some t → Tryd.pinned.checked.prog.wantsStandIn t = false := by
  obtain rfl : f = 5 := Option.some.inj ((show Tryd.prog.funcNamed "provost/provostlaw02.FailTells" = some 5 by kernel_rfl).symm.trans hf) |>.symm
  obtain rfl : fn = Tryd.f5 := (Option.some.inj (Tryd.func5.symm.trans hfn)).symm
  refine ⟨by kernel_rfl, fun j t ht => ?_⟩
  rw [Tryd.params5] at ht
  have hm : t ∈ [36, 31, 31] := by simpa using Array.mem_of_getElem? ht
  have hall : ([36, 31, 31].all fun u => !Tryd.prog.wantsStandIn u) = true := by kernel_rfl
  exact (show Tryd.prog.wantsStandIn t = false by simpa using List.all_eq_true.1 hall t hm)

/-- The card. -/
theorem proved : Rows.FailTellsUptoCardSaid :=
  Claim7.holds_tied_plain_at .later [] _ _ _ _ over (fun _ h => by cases h) (by kernel_rfl) (fun _ h => by cases h) failTellsUpto_row_tie rfl ⟨rfl, rfl⟩ (by kernel_rfl) rfl plain (by kernel_rfl)
#print axioms proved
end Go.Proofs.YtemlgeljgnmfeaaDoor.failTellsUpto
