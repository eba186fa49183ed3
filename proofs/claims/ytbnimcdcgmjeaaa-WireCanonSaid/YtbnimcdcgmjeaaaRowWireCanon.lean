/- Proves the given statement WireCanonSaid of this seat: the Go function answers true at every input, and what came in reads as before.
Conditions: none beyond the given statement. -/
import Derived.Test.YtbnimcdcgmjeaaaRows
import Derived.Test.YtbnimcdcgmjeaaaWire04f
import Derived.Test.YtbnimcdcgmjeaaaAlRow
import Derived.WalkKit
import Derived.ProofKit
import Derived.OpenShut
import Derived.ShutString
import Derived.SizedLaws
import Derived.Carry
namespace Go.Proofs.Ytbnimcdcgmjeaaa.wireCanon
open Go.ChangeShapes Go.WideShapes Go.ChangeAt Go.RowKit
open Go.AL Go.NumSpec
set_option linter.unusedVariables false

theorem own : ownKnob Try.prog.godebug = none := by kernel_rfl
theorem laidOut : laidOutB Try.prog = true := by kernel_rfl
theorem openInts : Opens Try.prog 55 (List Int) (fun l => [.sl (l.map fun n => .int .i64 n)]) (fun l => ∀ r, r ∈ l → fits r) := Opens.slice (m := 1) (fun n => .int .i64 n) Try.underlying55 (by kernel_rfl) (by decide) (Opens.i64 Try.underlying3) (fun _ => rfl)

set_option maxRecDepth 100000 in
theorem lifted (os : Os) (started : os.Started) (H : Type) (enc : TypeId × Value → H) :
    ReturnsInHanded {} Try.checked os 5 .any (Rows.wireCanonSpec.pre6 enc Try.prog Try.f5 Rows.wireCanonRow.domain false) (Rows.wireCanonSpec.post enc Try.prog Try.f5 false true false false) := by
  refine returnsInHanded_of_change_sized (C := Try.checked) own started (by kernel_rfl) Try.func5
    (ChangeSpec.witness6 (enc := enc) (C := Try.checked) false ⟨#[], #[.string ⟨#[]⟩, .slice none 0 0], []⟩ 8 (by kernel_rfl) (by kernel_rfl) (by kernel_rfl) (by kernel_rfl)) ?_
  intro W base args ds gs before hval0 hW hcnd hsz _
  have hval : ∀ (j : Nat) t v, Try.f5.params[j]? = some t → args[j]? = some v → Value.okWide Try.prog W .any base t v := hval0
  have hW' := hW
  obtain ⟨p, q, hA0, hV, rfl, hfz, hnd⟩ := hW
  have hA : DataW.TrodAll enc Try.prog W 0 (fun _ => true) true Try.f5.params.toList args.toList ds p := hA0
  rw [Try.params5] at hA hval
  obtain ⟨v0, vs0, d0, ds0, p0, q0, hargs, rfl, rfl, h0, r0⟩ := trodAll_cons hA
  obtain ⟨v1, vs1, d1, ds1, p1, q1, rfl, rfl, rfl, h1, r1⟩ := trodAll_cons r0
  obtain ⟨rfl, rfl, rfl⟩ := trodAll_nil r1
  obtain rfl : args = #[v0, v1] := by cases args; simp_all
  obtain ⟨rfl, rfl⟩ := trodVars_none hV
  obtain ⟨y0, o0, e0⟩ := (Opens.str Try.underlying9).argF (fun l => .S l) (fun _ => rfl) (by kernel_rfl) (hval 0 9 v0 rfl rfl) h0
  obtain ⟨y1, o1, e1⟩ := (openInts).argF (fun l => .sl (l.map fun n => .int .i64 n)) (fun _ => rfl) (by kernel_rfl) (hval 1 55 v1 rfl rfl) h1
  refine (PCalls.rowC (vs := #[v0, v1]) (Go.Proofs.Ytbnimcdcgmjeaaa.law_WireCanon y0 o0 y1 o1) ((RC.one e0).append (RC.one e1))).mono fun e W' ⟨he, hb⟩ => ?_
  subst he
  have hlt0 : ∀ x ∈ p0, x.block < W.heap.size := fun x hx => by simpa using hW'.lt x (by simp [hx])
  have hlt1 : ∀ x ∈ p1, x.block < W.heap.size := fun x hx => by simpa using hW'.lt x (by simp [hx])
  exact ⟨_, rfl, post_below hb hW' rfl rfl rfl rfl (fun _ _ _ => trodAll_cons_mk (shut_bool Try.underlying4 _) trodAll_mk0) (fun sp hsp => by rw [List.append_nil]; exact (trodAll_cons_mk (arg_stays laidOut (by kernel_rfl) (of_decide_eq_true (by kernel_rfl)) h0 hb hlt0 sp (fun x hx => hsp x (by simp [hx]))) (trodAll_cons_mk (arg_stays laidOut (by kernel_rfl) (of_decide_eq_true (by kernel_rfl)) h1 hb hlt1 sp (fun x hx => hsp x (by simp [hx]))) trodAll_mk0))) (ok_one (by kernel_rfl) rfl (okWide_bool_mk Try.underlying4 _))⟩

theorem over : Rows.wireCanonRow.holds Try.pinned (OpenSpec.ofChange Rows.wireCanonSpec) :=
  OpenClaim.holds_of_wide 5 Try.f5 rfl rfl rfl rfl rfl rfl rfl ⟨rfl, rfl, rfl, rfl, rfl⟩ rfl rfl rfl rfl rfl (by kernel_rfl) Try.func5 (by kernel_rfl)
    (of_decide_eq_true (by kernel_rfl)) (by unfold Func.isWrapper; first | (rw [if_pos (by decide +kernel)]; kernel_rfl) | (rw [if_neg (by decide +kernel)]; exact ⟨rfl, rfl⟩))
    (fun os started H enc _ => lifted os started H enc)

/-- The statement. -/
theorem proved : Rows.WireCanonSaid := over
#print axioms proved
end Go.Proofs.Ytbnimcdcgmjeaaa.wireCanon
