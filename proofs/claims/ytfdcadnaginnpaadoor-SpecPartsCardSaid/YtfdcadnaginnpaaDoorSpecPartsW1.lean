import Derived.Test.YtfdcadnaginnpaaDoorSpecPartsL3
import Derived.Test.YtfdcadnaginnpaaDoorProg
import Derived.Shelf.Strings.Builder1
import Derived.Shelf.Strings.Builder2
import Derived.Shelf.Strings.OnBuilder
/-
The walks of Go functions in the logic AL: what each of them answers.
Conditions: those of each theorem.
-/
set_option linter.unusedVariables false
set_option linter.unusedSimpArgs false
namespace Go.Proofs.YtfdcadnaginnpaaDoor
open Go.AL Go.NumSpec

abbrev hv (t : Nat) : Value := .pointer (some ⟨3, t, none⟩)
abbrev ty (t : Nat) : Value := .iface 107 (.agg #[hv t])
abbrev rv (t : Nat) (a : Nat) (fl : Int) : Value := .agg #[hv t, .pointer (some ⟨a, 0, none⟩), .int .u64 fl]
def tabs : List (Nat × List Value) := [(0, [ty 29]), (1, marksV)]
theorem tab_err : ((0, Ob.konst [ty 29]) : Nat × Ob) ∈ Gs tabs := by simp [Gs, tabs]
theorem tab_marks : ((1, Ob.konst marksV) : Nat × Ob) ∈ Gs tabs := by simp [Gs, tabs]

open Go.Extern Go.Stop
/-! functions without text -/
theorem x23 : ExtOf Tryd.prog 36 (fun args => ReflectliteValue.unpack (args.getD 0 (.tuple #[]))) := ⟨_, Tryd.func36, by kernel_rfl, by kernel_rfl, by kernel_rfl, by kernel_rfl⟩
theorem x24 : ExtOf Tryd.prog 37 (ReflectliteValue.methodAny (ReflectliteValue.valueError "reflectlite.Value.Type" 0) (fun t _ _ _ => ReflectliteType.toType t)) := ⟨_, Tryd.func37, by kernel_rfl, by kernel_rfl, by kernel_rfl, by kernel_rfl⟩
theorem x25 : ExtOf Tryd.prog 38 (ReflectliteValue.method (ReflectliteValue.valueError "reflectlite.Value.IsNil" 0) ReflectliteValue.isNil) := ⟨_, Tryd.func38, by kernel_rfl, by kernel_rfl, by kernel_rfl, by kernel_rfl⟩
theorem x30 : ExtOf Tryd.prog 55 ReflectliteType.typeOf := ⟨_, Tryd.func55, by kernel_rfl, by kernel_rfl, by kernel_rfl, by kernel_rfl⟩
theorem x32 : ExtOf Tryd.prog 56 (ReflectliteValue.method (ReflectliteValue.valueError "reflectlite.Value.Elem" 0) ReflectliteValue.elem) := ⟨_, Tryd.func56, by kernel_rfl, by kernel_rfl, by kernel_rfl, by kernel_rfl⟩
theorem x33 : ExtOf Tryd.prog 57 ReflectliteValue.set := ⟨_, Tryd.func57, by kernel_rfl, by kernel_rfl, by kernel_rfl, by kernel_rfl⟩
theorem x52 : ExtOf Tryd.prog 93 (ReflectliteType.abiMethod fun t => do pure (.int .u8 (← Rtype.kind t))) := ⟨_, Tryd.func93, by kernel_rfl, by kernel_rfl, by kernel_rfl, by kernel_rfl⟩
theorem x63 : ExtOf Tryd.prog 104 (ReflectliteType.relation "AssignableTo" ReflectliteType.assignableTo) := ⟨_, Tryd.func104, by kernel_rfl, by kernel_rfl, by kernel_rfl, by kernel_rfl⟩
theorem x64 : ExtOf Tryd.prog 105 (ReflectliteType.method fun t => do Rtype.noPackHeld "Comparable" t; pure (.bool (← typeInfo t).comparable)) := ⟨_, Tryd.func105, by kernel_rfl, by kernel_rfl, by kernel_rfl, by kernel_rfl⟩
theorem x65 : ExtOf Tryd.prog 106 (ReflectliteType.method ReflectliteType.elem) := ⟨_, Tryd.func106, by kernel_rfl, by kernel_rfl, by kernel_rfl, by kernel_rfl⟩
theorem x66 : ExtOf Tryd.prog 107 (ReflectliteType.relation "Implements" ReflectliteType.implements_) := ⟨_, Tryd.func107, by kernel_rfl, by kernel_rfl, by kernel_rfl, by kernel_rfl⟩

/-! methods -/
theorem mKind (t : Nat) (w : World) : (Go.method (Tryd.prog.types.size + Made.depth) 107 (.agg #[hv t]) "Kind").run Tryd.prog w = .ok (93, hv t) w := by kernel_rfl
theorem mElem (t : Nat) (w : World) : (Go.method (Tryd.prog.types.size + Made.depth) 107 (.agg #[hv t]) "Elem").run Tryd.prog w = .ok (106, .agg #[hv t]) w := by kernel_rfl
theorem mImpl (t : Nat) (w : World) : (Go.method (Tryd.prog.types.size + Made.depth) 107 (.agg #[hv t]) "Implements").run Tryd.prog w = .ok (107, .agg #[hv t]) w := by kernel_rfl
theorem mAssign (t : Nat) (w : World) : (Go.method (Tryd.prog.types.size + Made.depth) 107 (.agg #[hv t]) "AssignableTo").run Tryd.prog w = .ok (104, .agg #[hv t]) w := by kernel_rfl
theorem mComp (t : Nat) (w : World) : (Go.method (Tryd.prog.types.size + Made.depth) 107 (.agg #[hv t]) "Comparable").run Tryd.prog w = .ok (105, .agg #[hv t]) w := by kernel_rfl
theorem mUnwrap (u : Value) (w : World) : (Go.method (Tryd.prog.types.size + Made.depth) 79 u "Unwrap").run Tryd.prog w = .ok (99, u) w := by kernel_rfl

/-! entries that answer plain values -/
abbrev kindE := ReflectliteType.abiMethod fun t => do pure (.int .u8 (← Rtype.kind t))
theorem k48 (w : World) : (kindE #[hv 60]).run Tryd.prog w = .ok (.int .u8 22) w := by kernel_rfl
theorem k52 (w : World) : (kindE #[hv 80]).run Tryd.prog w = .ok (.int .u8 22) w := by kernel_rfl
theorem k27 (w : World) : (kindE #[hv 40]).run Tryd.prog w = .ok (.int .u8 2) w := by kernel_rfl
theorem k49 (w : World) : (kindE #[hv 79]).run Tryd.prog w = .ok (.int .u8 22) w := by kernel_rfl
theorem e48 (w : World) : (ReflectliteType.method ReflectliteType.elem #[.agg #[hv 60]]).run Tryd.prog w = .ok (ty 40) w := by kernel_rfl
theorem e52 (w : World) : (ReflectliteType.method ReflectliteType.elem #[.agg #[hv 80]]).run Tryd.prog w = .ok (ty 79) w := by kernel_rfl
theorem i27 (w : World) : (ReflectliteType.relation "Implements" ReflectliteType.implements_ #[.agg #[hv 40], ty 29]).run Tryd.prog w = .ok (.bool true) w := by kernel_rfl
theorem i49 (w : World) : (ReflectliteType.relation "Implements" ReflectliteType.implements_ #[.agg #[hv 79], ty 29]).run Tryd.prog w = .ok (.bool true) w := by kernel_rfl
theorem a2727 (w : World) : (ReflectliteType.relation "AssignableTo" ReflectliteType.assignableTo #[.agg #[hv 40], ty 40]).run Tryd.prog w = .ok (.bool true) w := by kernel_rfl
theorem a4949 (w : World) : (ReflectliteType.relation "AssignableTo" ReflectliteType.assignableTo #[.agg #[hv 79], ty 79]).run Tryd.prog w = .ok (.bool true) w := by kernel_rfl
theorem a2749 (w : World) : (ReflectliteType.relation "AssignableTo" ReflectliteType.assignableTo #[.agg #[hv 40], ty 79]).run Tryd.prog w = .ok (.bool false) w := by kernel_rfl
theorem a4927 (w : World) : (ReflectliteType.relation "AssignableTo" ReflectliteType.assignableTo #[.agg #[hv 79], ty 40]).run Tryd.prog w = .ok (.bool false) w := by kernel_rfl
theorem t27 (v : Value) (w : World) : (ReflectliteType.typeOf #[.iface 40 v]).run Tryd.prog w = .ok (ty 40) w := by kernel_rfl
theorem t49 (v : Value) (w : World) : (ReflectliteType.typeOf #[.iface 79 v]).run Tryd.prog w = .ok (ty 79) w := by kernel_rfl
theorem c27 (w : World) : (ReflectliteType.method (fun t => do Rtype.noPackHeld "Comparable" t; pure (.bool (← typeInfo t).comparable)) #[.agg #[hv 40]]).run Tryd.prog w = .ok (.bool true) w := by kernel_rfl
theorem y48 (a : Nat) (w : World) : (ReflectliteValue.methodAny (ReflectliteValue.valueError "reflectlite.Value.Type" 0) (fun t _ _ _ => ReflectliteType.toType t) #[rv 60 a 150]).run Tryd.prog w = .ok (ty 60) w := by kernel_rfl
theorem y52 (a : Nat) (w : World) : (ReflectliteValue.methodAny (ReflectliteValue.valueError "reflectlite.Value.Type" 0) (fun t _ _ _ => ReflectliteType.toType t) #[rv 80 a 150]).run Tryd.prog w = .ok (ty 80) w := by kernel_rfl

/-! entries that take or write memory -/
abbrev unp : Array Value → Sem Value := fun args => ReflectliteValue.unpack (args.getD 0 (.tuple #[]))
theorem v48 (b : Nat) (w : World) : (unp #[.iface 60 (.pointer (some ⟨b, 0, none⟩))]).run Tryd.prog w = .ok (rv 60 w.heap.size 150) (w.alloc (.cells #[.pointer (some ⟨b, 0, none⟩)] 60)) := by kernel_rfl
theorem v52 (b : Nat) (w : World) : (unp #[.iface 80 (.pointer (some ⟨b, 0, none⟩))]).run Tryd.prog w = .ok (rv 80 w.heap.size 150) (w.alloc (.cells #[.pointer (some ⟨b, 0, none⟩)] 80)) := by kernel_rfl
theorem v27 (c : Int) (w : World) : (unp #[.iface 40 (.int .i64 c)]).run Tryd.prog w = .ok (rv 40 w.heap.size 130) (w.alloc (.cells #[.int .i64 c] 40)) := by kernel_rfl
theorem v49 (b : Addr) (w : World) : (unp #[.iface 79 (.pointer (some b))]).run Tryd.prog w = .ok (rv 79 w.heap.size 150) (w.alloc (.cells #[.pointer (some b)] 79)) := by kernel_rfl

theorem rlm (z : Sem Value) (f : TypeId → Addr → Nat → Nat → Sem Value) (v : Value) :
    ReflectliteValue.method z f #[v] = (do match ← ReflectliteValue.parts v with | none => z | some (t, a, fl) => f t a fl (fl % 32)) := rfl
theorem p48 (a : Nat) (w : World) : (ReflectliteValue.parts (rv 60 a 150)).run Tryd.prog w = .ok (some (60, ⟨a, 0, none⟩, 150)) w := by kernel_rfl
theorem p52 (a : Nat) (w : World) : (ReflectliteValue.parts (rv 80 a 150)).run Tryd.prog w = .ok (some (80, ⟨a, 0, none⟩, 150)) w := by kernel_rfl
theorem p27 (a : Nat) (w : World) : (ReflectliteValue.parts (rv 40 a 130)).run Tryd.prog w = .ok (some (40, ⟨a, 0, none⟩, 130)) w := by kernel_rfl
theorem p49 (a : Nat) (w : World) : (ReflectliteValue.parts (rv 79 a 150)).run Tryd.prog w = .ok (some (79, ⟨a, 0, none⟩, 150)) w := by kernel_rfl
theorem p27a (a : Nat) (w : World) : (ReflectliteValue.parts (rv 40 a 386)).run Tryd.prog w = .ok (some (40, ⟨a, 0, none⟩, 386)) w := by kernel_rfl
theorem p49a (a : Nat) (w : World) : (ReflectliteValue.parts (rv 79 a 406)).run Tryd.prog w = .ok (some (79, ⟨a, 0, none⟩, 406)) w := by kernel_rfl
abbrev nilE := ReflectliteValue.method (ReflectliteValue.valueError "reflectlite.Value.IsNil" 0) ReflectliteValue.isNil
theorem n48 (a b : Nat) (w : World) (ha : w.cell? ⟨a, 0, none⟩ = some (.pointer (some ⟨b, 0, none⟩))) : (nilE #[rv 60 a 150]).run Tryd.prog w = .ok (.bool false) w := by
  show (ReflectliteValue.method _ _ _).run _ _ = _
  rw [rlm]
  simp only [Sem.run_bind, p48, Result.andThen]
  simp [ReflectliteValue.isNil, loadVar, isAgg, underlying, Tryd.underlying60, ha, Result.andThen]
theorem n52 (a b : Nat) (w : World) (ha : w.cell? ⟨a, 0, none⟩ = some (.pointer (some ⟨b, 0, none⟩))) : (nilE #[rv 80 a 150]).run Tryd.prog w = .ok (.bool false) w := by
  show (ReflectliteValue.method _ _ _).run _ _ = _
  rw [rlm]
  simp only [Sem.run_bind, p52, Result.andThen]
  simp [ReflectliteValue.isNil, loadVar, isAgg, underlying, Tryd.underlying80, ha, Result.andThen]
theorem el48 (w : World) : (Rtype.elem? 60).run Tryd.prog w = .ok (some 40) w := by kernel_rfl
theorem el52 (w : World) : (Rtype.elem? 80).run Tryd.prog w = .ok (some 79) w := by kernel_rfl
theorem mk27 (p : Addr) (w : World) : (ReflectliteValue.mk 40 p ReflectliteValue.flagAddr).run Tryd.prog w = .ok (.agg #[hv 40, .pointer (some p), .int .u64 386]) w := by kernel_rfl
theorem mk49 (p : Addr) (w : World) : (ReflectliteValue.mk 79 p ReflectliteValue.flagAddr).run Tryd.prog w = .ok (.agg #[hv 79, .pointer (some p), .int .u64 406]) w := by kernel_rfl
abbrev elemE := ReflectliteValue.method (ReflectliteValue.valueError "reflectlite.Value.Elem" 0) ReflectliteValue.elem
theorem l48 (a b : Nat) (w : World) (ha : w.cell? ⟨a, 0, none⟩ = some (.pointer (some ⟨b, 0, none⟩))) : (elemE #[rv 60 a 150]).run Tryd.prog w = .ok (rv 40 b 386) w := by
  show (ReflectliteValue.method _ _ _).run _ _ = _
  rw [rlm]
  simp only [Sem.run_bind, p48, Result.andThen]
  simp [ReflectliteValue.elem, loadVar, isAgg, underlying, Tryd.underlying60, ha, Result.andThen, el48, mk27]
theorem l52 (a b : Nat) (w : World) (ha : w.cell? ⟨a, 0, none⟩ = some (.pointer (some ⟨b, 0, none⟩))) : (elemE #[rv 80 a 150]).run Tryd.prog w = .ok (rv 79 b 406) w := by
  show (ReflectliteValue.method _ _ _).run _ _ = _
  rw [rlm]
  simp only [Sem.run_bind, p52, Result.andThen]
  simp [ReflectliteValue.elem, loadVar, isAgg, underlying, Tryd.underlying80, ha, Result.andThen, el52, mk49]
theorem rls (v x : Value) : ReflectliteValue.set #[v, x] = (do
    let (some (dst, a, fl), some (src, b, _)) := (← ReflectliteValue.parts v, ← ReflectliteValue.parts x)
      | unsupported (.noEntry "extern/(internal/reflectlite.Value).Set.zeroValue")
    if fl / ReflectliteValue.flagAddr % 2 == 0 then unsupported (.noEntry "extern/(internal/reflectlite.Value).Set.unaddressable")
    let val ← loadVar src b
    if ← Rtype.directlyAssignable dst src then storeVar dst a val
    else if ← Rtype.implements dst src then
      if (← Rtype.kind src) == 20 then
        match val with
        | .nilIface => unsupported (.noEntry "extern/reflectlite: a nil value of one interface type handed on as a value of another")
        | _ => storeVar dst a val
      else storeVar dst a (.iface src val)
    else panicString ("reflectlite.Set: value of type " ++ (← Rtype.spelt src) ++ " is not assignable to type " ++ (← Rtype.spelt dst))
    pure (.tuple #[])) := rfl
theorem d27 (w : World) : (Rtype.directlyAssignable 40 40).run Tryd.prog w = .ok true w := by kernel_rfl
theorem d49 (w : World) : (Rtype.directlyAssignable 79 79).run Tryd.prog w = .ok true w := by kernel_rfl
theorem s27 (t b : Nat) (u old : Value) (w : World) (hu : u.cells = #[u]) (h1 : u.oneCell' = true) (hb : w.cell? ⟨b, 0, none⟩ = some u) (ht : w.cell? ⟨t, 0, none⟩ = some old) (hf : w.frozen? ⟨t, 0, none⟩ = false) :
    (ReflectliteValue.set #[rv 40 t 386, rv 40 b 130]).run Tryd.prog w = .ok (.tuple #[]) (w.setCell ⟨t, 0, none⟩ u) := by
  rw [rls]
  simp only [Sem.run_bind, p27a, p27, Result.andThen]
  simp [ReflectliteValue.flagAddr, loadVar, isAgg, underlying, Tryd.underlying40, hb, Result.andThen, d27, storeVar, hu, storeCells, Addr.add]
  rw [run_store Tryd.prog w ⟨t, 0, none⟩ _ _ h1]
  simp [ht, hf]
theorem s49 (t b : Nat) (u old : Value) (w : World) (hu : u.cells = #[u]) (h1 : u.oneCell' = true) (hb : w.cell? ⟨b, 0, none⟩ = some u) (ht : w.cell? ⟨t, 0, none⟩ = some old) (hf : w.frozen? ⟨t, 0, none⟩ = false) :
    (ReflectliteValue.set #[rv 79 t 406, rv 79 b 150]).run Tryd.prog w = .ok (.tuple #[]) (w.setCell ⟨t, 0, none⟩ u) := by
  rw [rls]
  simp only [Sem.run_bind, p49a, p49, Result.andThen]
  simp [ReflectliteValue.flagAddr, loadVar, isAgg, underlying, Tryd.underlying79, hb, Result.andThen, d49, storeVar, hu, storeCells, Addr.add]
  rw [run_store Tryd.prog w ⟨t, 0, none⟩ _ _ h1]
  simp [ht, hf]

end Go.Proofs.YtfdcadnaginnpaaDoor

/-
The walks of Go functions in the logic AL: what each of them answers.
Conditions: those of each theorem.
-/
set_option linter.unusedVariables false
set_option linter.unusedSimpArgs false
namespace Go.Proofs.YtfdcadnaginnpaaDoor
open Go.AL Go.NumSpec

set_option maxRecDepth 100000 in
/-- provost/num.digits -/
theorem num_digits_ok (n : Nat) (h : n < 18446744073709551616) : PCalls Tryd.prog 58 [.int .u64 n] (.S (digL n)) := by
  intro st
  refine ACalls_of (N := 20) Tryd.func58 (by kernel_rfl) rfl rfl rfl ?_
  have hlen : (digL n).length ≤ 20 := digL_20 h
  refine AC_seq ?_
  refine AC_region ?_
  refine AL_p rfl rfl (S_assign rfl (AEv.S _)) ?_
  refine AL_nil ?_
  refine AC_seq ?_
  refine AC_region ?_
  refine AL_step rfl rfl (S_alloc (List.replicate 20 (.int .u8 0)) rfl (by kernel_rfl)) ?_
  rintro _ _ ⟨b1, rfl, rfl⟩
  refine AL_nil ?_
  refine AC_seq ?_
  refine AC_region ?_
  refine AL_p rfl rfl (S_assign rfl (AEv.const _)) ?_
  refine AL_nil ?_
  refine AC_block ?_
  refine AC_loop (G := Nat × List UInt8) (DigInv n) (fun g => [(0, .int .u64 g.1), (3, .ptr b1 0), (4, .int .i64 ((20 - g.2.length : Nat) : Int))]) (fun g => (b1, .cells (padR g.2)) :: st) (fun g => g.1) ((n, [])) (⟨by simp, h, hlen⟩) rfl ?_ ?_
  · exact (.cons rfl (by first | exact Le.refl _ | exact Le.nils | exact Le.row _ _ _ _ | (exact Le.of_eq (by simp))) (.cons rfl (by first | exact Le.refl _ | exact Le.nils | exact Le.row _ _ _ _ | (exact Le.of_eq (by simp))) (.cons rfl (by first | exact Le.refl _ | exact Le.nils | exact Le.row _ _ _ _ | (exact Le.of_eq (by simp))) .nil)))
  · rintro ⟨m, l⟩ hI
    try dsimp only
    have h3 := dig_le hI
    have h2 := hI.lt
    dsimp only at h2
    refine AC_block ?_
    refine AC_seq ?_
    refine AC_region ?_
    refine AL_p rfl rfl (S_move rfl (AEv.tmp rfl)) ?_
    refine AL_p rfl rfl (S_subI rfl (AEv.tmp rfl) (AEv.const _) (by omega) (by omega)) ?_
    refine AL_p rfl rfl (S_assign rfl (AEv.tmp rfl)) ?_
    refine AL_nil ?_
    refine AC_seq ?_
    refine AC_region ?_
    refine AL_p rfl rfl (S_move rfl (AEv.tmp rfl)) ?_
    refine AL_p rfl rfl (S_move rfl (AEv.tmp rfl)) ?_
    refine AL_p rfl rfl (S_remN (n := 10) rfl (AEv.tmp rfl) (AEv.const _) (by omega)) ?_
    refine AL_p rfl rfl (S_conv (k' := .u8) rfl (AEv.tmp rfl) (by kernel_rfl) (by kernel_rfl)) ?_
    refine AL_p rfl rfl (S_add rfl (AEv.const _) (AEv.tmp rfl)) ?_
    refine AL_p rfl rfl (S_elemA (e := 5) (len := 20) 1 rfl (AEv.tmp rfl) (AEv.tmp rfl) (by kernel_rfl) (by kernel_rfl) (by omega) (by omega)) ?_
    refine AL_step rfl rfl (S_store 0 rfl (AEv.tmp rfl) (AEv.tmp rfl) rfl (by rw [padR_len (by omega)]; omega) rfl (by kernel_rfl)) ?_
    rintro _ _ ⟨rfl, rfl⟩
    rw [padR_set (c := UInt8.ofNat (48 + m % 10)) rfl (by rw [wrap_u8 (n := ((m % 10 : Nat) : Int)) (by omega) (by omega), wrap_u8 (by omega) (by omega)]; simp; omega) h3]
    refine AL_nil ?_
    refine AC_seq ?_
    refine AC_region ?_
    refine AL_p rfl rfl (S_move rfl (AEv.tmp rfl)) ?_
    refine AL_p rfl rfl (S_quoN (n := 10) (.inl rfl) rfl (AEv.tmp rfl) (AEv.const _) (by omega) (.inr ⟨rfl, by omega⟩)) ?_
    refine AL_p rfl rfl (S_assign rfl (AEv.tmp rfl)) ?_
    refine AL_nil ?_
    refine AC_seq ?_
    refine AC_region ?_
    refine AL_p rfl rfl (S_move rfl (AEv.tmp rfl)) ?_
    refine AL_p rfl rfl (S_eql rfl (AEv.tmp rfl) (AEv.const _)) ?_
    refine AL_nil ?_
    refine AC_cond (AEv.tmp rfl) (fun hb2 => ?_) (fun hb2 => ?_)
    · try simp only [Bool.and_eq_true, Bool.or_eq_true, Bool.not_eq_true', Bool.not_eq_false', Bool.and_eq_false_iff, Bool.or_eq_false_iff, decide_eq_true_eq, decide_eq_false_iff_not, gd] at hb2
      have hq : m / 10 = 0 := by omega
      refine AC_seq ?_
      refine AC_region ?_
      refine AL_p rfl rfl (S_move rfl (AEv.tmp rfl)) ?_
      refine AL_p rfl rfl (S_cutA (e := 5) (len := 20) (i := 20 - (l.length + 1)) (j := 20) 1 rfl (AEv.tmp rfl) ⟨_, (AEv.tmp rfl).le (Le.of_eq (by rw [show ((20 - l.length : Nat) : Int) - 1 = ((20 - (l.length + 1) : Nat) : Int) by omega]))⟩ rfl (by kernel_rfl) (by kernel_rfl) (by omega) (by omega) (by omega)) ?_
      refine AL_p rfl rfl (S_bytes (e := 5) (l := UInt8.ofNat (48 + m % 10) :: l) 0 rfl (AEv.tmp rfl) rfl (by have := padR_drop (l := UInt8.ofNat (48 + m % 10) :: l) (by simp; omega); simp only [List.length_cons] at this; rw [show 20 - (20 - (l.length + 1)) = l.length + 1 by omega]; exact this) (by simp; omega) (by kernel_rfl) (by kernel_rfl) (by kernel_rfl)) ?_
      refine AL_p rfl rfl (S_assign rfl (AEv.tmp rfl)) ?_
      refine AL_nil ?_
      refine AC_ret ?_
      refine ret_tmp st rfl rfl (Sub.l (List.Sublist.cons _ (List.Sublist.refl _))) (Conv.refl (Sub.l (List.Sublist.cons _ (List.Sublist.refl _))) _) ⟨by rw [dig_end hI hq], rfl⟩ (.inl rfl)
    · try simp only [Bool.and_eq_true, Bool.or_eq_true, Bool.not_eq_true', Bool.not_eq_false', Bool.and_eq_false_iff, Bool.or_eq_false_iff, decide_eq_true_eq, decide_eq_false_iff_not, gd] at hb2
      have hq : m / 10 ≠ 0 := by omega
      refine AC_skip ?_
      refine ⟨_, dig_next hI hq, by show m / 10 < m; omega, rfl, .cons rfl (Le.refl _) (.cons rfl (Le.refl _) (.cons rfl (Le.of_eq (by simp only [List.length_cons]; rw [show ((20 - l.length : Nat) : Int) - 1 = ((20 - (l.length + 1) : Nat) : Int) by omega])) .nil))⟩

set_option maxRecDepth 100000 in
/-- provost/num.Text -/
theorem num_Text_ok (a : Int) (ha : fits a) : PCalls Tryd.prog 42 [.int .i64 a] (.S (textL a)) := by
  intro st
  refine ACalls_of (N := 13) Tryd.func42 (by kernel_rfl) rfl rfl rfl ?_
  have hw1 := u64w a
  have hw2 := u64w (-IntKind.u64.wrap a)
  unfold fits at ha
  have hlen : (digL a.natAbs).length ≤ 19 := digL_19 (by omega)
  refine AC_seq ?_
  refine AC_region ?_
  refine AL_p rfl rfl (S_assign rfl (AEv.S _)) ?_
  refine AL_nil ?_
  refine AC_seq ?_
  refine AC_seq ?_
  refine AC_region ?_
  refine AL_p rfl rfl (S_move rfl (AEv.tmp rfl)) ?_
  refine AL_p rfl rfl (S_lss rfl (AEv.tmp rfl) (AEv.const _)) ?_
  refine AL_nil ?_
  refine AC_cond (AEv.tmp rfl) (fun hb1 => ?_) (fun hb1 => ?_)
  · try simp only [Bool.and_eq_true, Bool.or_eq_true, Bool.not_eq_true', Bool.not_eq_false', Bool.and_eq_false_iff, Bool.or_eq_false_iff, decide_eq_true_eq, decide_eq_false_iff_not, gd] at hb1
    refine AC_seq ?_
    refine AC_region ?_
    refine AL_p rfl rfl (S_move rfl (AEv.tmp rfl)) ?_
    refine AL_p rfl rfl (S_conv (k' := .u64) rfl (AEv.tmp rfl) (by kernel_rfl) (by kernel_rfl)) ?_
    refine AL_p rfl rfl (S_neg rfl (AEv.tmp rfl)) ?_
    refine AL_p rfl rfl (S_pcall rfl (AEvs.cons ((AEv.tmp rfl).le (Le.of_eq (by rw [show IntKind.u64.wrap (-IntKind.u64.wrap a) = (a.natAbs : Int) by omega]))) AEvs.nil) (num_digits_ok a.natAbs (by omega))) ?_
    refine AL_p rfl rfl (S_cat rfl (AEv.S _) (AEv.tmp rfl) (by first | omega | (simp; done) | (simp; omega))) ?_
    refine AL_p rfl rfl (S_assign rfl (AEv.tmp rfl)) ?_
    refine AL_nil ?_
    refine AC_ret ?_
    refine ret_tmp st rfl rfl (Sub.l (List.Sublist.refl _)) (Conv.refl (Sub.l (List.Sublist.refl _)) _) ⟨by rw [textL, if_pos (by omega)]; rfl, rfl⟩ (.inl rfl)
  · try simp only [Bool.and_eq_true, Bool.or_eq_true, Bool.not_eq_true', Bool.not_eq_false', Bool.and_eq_false_iff, Bool.or_eq_false_iff, decide_eq_true_eq, decide_eq_false_iff_not, gd] at hb1
    refine AC_skip ?_
    refine AC_seq ?_
    refine AC_region ?_
    refine AL_p rfl rfl (S_move rfl (AEv.tmp rfl)) ?_
    refine AL_p rfl rfl (S_conv (k' := .u64) rfl (AEv.tmp rfl) (by kernel_rfl) (by kernel_rfl)) ?_
    refine AL_p rfl rfl (S_pcall rfl (AEvs.cons ((AEv.tmp rfl).le (Le.of_eq (by rw [show IntKind.u64.wrap a = (a.natAbs : Int) by omega]))) AEvs.nil) (num_digits_ok a.natAbs (by omega))) ?_
    refine AL_p rfl rfl (S_assign rfl (AEv.tmp rfl)) ?_
    refine AL_nil ?_
    refine AC_ret ?_
    refine ret_tmp st rfl rfl (Sub.l (List.Sublist.refl _)) (Conv.refl (Sub.l (List.Sublist.refl _)) _) ⟨by rw [textL, if_neg (by omega)], rfl⟩ (.inl rfl)

set_option maxRecDepth 100000 in
/-- internal/stringslite.IndexByte -/
theorem lite_IndexByte_ok (s : List UInt8) (c : UInt8) : PCalls Tryd.prog 73 [.S s, .int .u8 (c.toNat : Int)] (.int .i64 (idxV s c)) := by
  intro st
  refine ACalls_of (N := 8) Tryd.func73 (by kernel_rfl) rfl rfl rfl ?_
  refine AC_seq ?_
  refine AC_region ?_
  refine AL_p rfl rfl (S_assign rfl (AEv.const _)) ?_
  refine AL_nil ?_
  refine AC_seq ?_
  refine AC_region ?_
  refine AL_p rfl rfl (S_move rfl (AEv.tmp rfl)) ?_
  refine AL_p rfl rfl (S_move rfl (AEv.tmp rfl)) ?_
  refine AL_p rfl rfl (S_indexByte (s := s) (c := c) rfl (AEv.tmp rfl) (AEv.tmp rfl) Tryd.func77 (by kernel_rfl) (by kernel_rfl) (by kernel_rfl) (by kernel_rfl)) ?_
  refine AL_p rfl rfl (S_assign rfl (AEv.tmp rfl)) ?_
  refine AL_nil ?_
  refine AC_ret ?_
  refine ret_tmp st rfl rfl (Sub.l (List.Sublist.refl _)) (Conv.refl (Sub.l (List.Sublist.refl _)) _) ⟨by first | rfl | (simp; done), rfl⟩ (.inl rfl)

set_option maxRecDepth 100000 in
/-- internal/stringslite.Index -/
theorem lite_Index_ok (s : List UInt8) (c : UInt8) : PCalls Tryd.prog 72 [.S s, .S [c]] (.int .i64 (idxV s c)) := by
  intro st
  refine ACalls_of (N := 143) Tryd.func72 (by kernel_rfl) rfl rfl rfl ?_
  refine AC_seq ?_
  refine AC_region ?_
  refine AL_p rfl rfl (S_assign rfl (AEv.const _)) ?_
  refine AL_nil ?_
  refine AC_seq ?_
  refine AC_region ?_
  refine AL_p rfl rfl (S_move rfl (AEv.tmp rfl)) ?_
  refine AL_p rfl rfl (S_lenS (ts := #[]) rfl (AEv.tmp rfl) (by kernel_rfl)) ?_
  refine AL_p rfl rfl (S_assign rfl (AEv.tmp rfl)) ?_
  refine AL_nil ?_
  refine AC_seq ?_
  refine AC_block ?_
  refine AC_seq ?_
  refine AC_region ?_
  refine AL_p rfl rfl (S_move rfl (AEv.tmp rfl)) ?_
  refine AL_p rfl rfl (S_eql rfl (AEv.tmp rfl) (AEv.const _)) ?_
  refine AL_p rfl rfl (S_move rfl (AEv.tmp rfl)) ?_
  refine AL_g rfl rfl (AEv.tmp rfl) rfl (fun hg1 => S_move rfl (AEv.tmp rfl)) ?_
  refine AL_g rfl rfl (AEv.tmp rfl) rfl (fun hg4 => S_move rfl (AEv.tmp rfl)) ?_
  refine AL_g rfl rfl (AEv.tmp rfl) rfl (fun hg7 => S_eqS rfl (AEv.cond (AEv.tmp rfl) (by first | assumption | exact gdAnd (by assumption) (by assumption))) (AEv.cond (AEv.tmp rfl) (by first | assumption | exact gdAnd (by assumption) (by assumption)))) ?_
  refine AL_p rfl rfl (S_or rfl (AEv.tmp rfl) (fun hp10 => (AEv.cond (AEv.tmp rfl) (by first | assumption | exact gdT hp10 | exact gdF hp10 | exact gdAnd (by assumption) (gdT hp10) | exact gdAnd (by assumption) (gdF hp10))))) ?_
  refine AL_p rfl rfl (S_assign rfl (AEv.tmp rfl)) ?_
  refine AL_nil ?_
  refine AC_cond (AEv.tmp rfl) (fun hb11 => ?_) (fun hb11 => ?_)
  · try simp only [Bool.and_eq_true, Bool.or_eq_true, Bool.not_eq_true', Bool.not_eq_false', Bool.and_eq_false_iff, Bool.or_eq_false_iff, decide_eq_true_eq, decide_eq_false_iff_not, gd] at hb11
    have hs : s = [c] := by
      have : [c] = s := by simpa using hb11
      exact this.symm
    subst hs
    refine AC_seq ?_
    refine AC_region ?_
    refine AL_p rfl rfl (S_assign rfl (AEv.const _)) ?_
    refine AL_nil ?_
    refine AC_ret ?_
    refine ret_tmp st rfl rfl (Sub.l (List.Sublist.refl _)) (Conv.refl (Sub.l (List.Sublist.refl _)) _) ⟨by simp [idxV], rfl⟩ (.inl rfl)
  · try simp only [Bool.and_eq_true, Bool.or_eq_true, Bool.not_eq_true', Bool.not_eq_false', Bool.and_eq_false_iff, Bool.or_eq_false_iff, decide_eq_true_eq, decide_eq_false_iff_not, gd] at hb11
    refine AC_seq ?_
    refine AC_region ?_
    refine AL_p rfl rfl (S_move rfl (AEv.tmp rfl)) ?_
    refine AL_p rfl rfl (S_eql rfl (AEv.tmp rfl) (AEv.const _)) ?_
    refine AL_p rfl rfl (S_assign rfl (AEv.tmp rfl)) ?_
    refine AL_nil ?_
    refine AC_cond (AEv.tmp rfl) (fun hb12 => ?_) (fun hb12 => ?_)
    · try simp only [Bool.and_eq_true, Bool.or_eq_true, Bool.not_eq_true', Bool.not_eq_false', Bool.and_eq_false_iff, Bool.or_eq_false_iff, decide_eq_true_eq, decide_eq_false_iff_not, gd] at hb12
      refine AC_seq ?_
      refine AC_region ?_
      refine AL_p rfl rfl (S_move rfl (AEv.tmp rfl)) ?_
      refine AL_p rfl rfl (S_move rfl (AEv.tmp rfl)) ?_
      refine AL_p rfl rfl (S_index rfl (AEv.tmp rfl) (AEv.const _) (by kernel_rfl) (by omega) (by omega)) ?_
      refine AL_p rfl rfl (S_pcall rfl (AEvs.cons (AEv.tmp rfl) (AEvs.cons (y := .int .u8 (c.toNat : Int)) (AEv.tmp rfl) AEvs.nil)) (lite_IndexByte_ok s c)) ?_
      refine AL_p rfl rfl (S_assign rfl (AEv.tmp rfl)) ?_
      refine AL_nil ?_
      refine AC_ret ?_
      refine ret_tmp st rfl rfl (Sub.l (List.Sublist.refl _)) (Conv.refl (Sub.l (List.Sublist.refl _)) _) ⟨rfl, rfl⟩ (.inl rfl)
    · simp at hb12; done

set_option maxRecDepth 100000 in
/-- internal/stringslite.Cut -/
theorem lite_Cut_ok (s : List UInt8) (c : UInt8) (hs : s.length ≤ 9223372036854775806) : PCalls Tryd.prog 69 [.S s, .S [c]] (.tup [.S (cutV c s).1, .S (cutV c s).2.1, .bool (cutV c s).2.2]) := by
  intro st
  refine ACalls_of (N := 23) Tryd.func69 (by kernel_rfl) rfl rfl rfl ?_
  have hi : idxV s c = if c ∈ s then ((s.takeWhile (fun x => x != c)).length : Int) else -1 := rfl
  have hone : ([c] : List UInt8).length = 1 := rfl
  refine AC_seq ?_
  refine AC_region ?_
  refine AL_p rfl rfl (S_assign rfl (AEv.S _)) ?_
  refine AL_p rfl rfl (S_assign rfl (AEv.S _)) ?_
  refine AL_p rfl rfl (S_assign rfl (AEv.const _)) ?_
  refine AL_nil ?_
  refine AC_seq ?_
  refine AC_seq ?_
  refine AC_region ?_
  refine AL_p rfl rfl (S_move rfl (AEv.tmp rfl)) ?_
  refine AL_p rfl rfl (S_move rfl (AEv.tmp rfl)) ?_
  refine AL_p rfl rfl (S_pcall rfl (AEvs.cons (AEv.tmp rfl) (AEvs.cons (AEv.tmp rfl) AEvs.nil)) (lite_Index_ok s c)) ?_
  refine AL_p rfl rfl (S_assign rfl (AEv.tmp rfl)) ?_
  refine AL_nil ?_
  refine AC_seq ?_
  refine AC_region ?_
  refine AL_p rfl rfl (S_move rfl (AEv.tmp rfl)) ?_
  refine AL_p rfl rfl (S_geq rfl (AEv.tmp rfl) (AEv.const _)) ?_
  refine AL_nil ?_
  refine AC_cond (AEv.tmp rfl) (fun hb1 => ?_) (fun hb1 => ?_)
  · try simp only [Bool.and_eq_true, Bool.or_eq_true, Bool.not_eq_true', Bool.not_eq_false', Bool.and_eq_false_iff, Bool.or_eq_false_iff, decide_eq_true_eq, decide_eq_false_iff_not, gd] at hb1
    have hm : c ∈ s := Decidable.byContradiction fun h => by rw [if_neg h] at hi; omega
    rw [if_pos hm] at hi
    have hlt := (tw_lt hm).1
    have hcv : cutV c s = (s.takeWhile (fun x => x != c), s.drop ((s.takeWhile (fun x => x != c)).length + 1), true) := by rw [cutV, if_pos hm]
    rw [hcv]
    refine AC_seq ?_
    refine AC_draw (by kernel_rfl) (by kernel_rfl) (.cons rfl (Q_p rfl (S_move rfl (AEv.tmp rfl))) <|
        .cons rfl (Q_p rfl (S_move rfl (AEv.tmp rfl))) <|
        .cons rfl (Q_p rfl (S_sliceH rfl (AEv.tmp rfl) (AEv.tmp rfl) (by kernel_rfl) (by omega) (by omega))) <|
        .cons rfl (Q_p rfl (S_move rfl (AEv.tmp rfl))) <|
        .cons rfl (Q_p rfl (S_move rfl (AEv.tmp rfl))) <|
        .cons rfl (Q_p rfl (S_move rfl (AEv.tmp rfl))) <|
        .cons rfl (Q_p rfl (S_lenS (ts := #[]) rfl (AEv.tmp rfl) (by kernel_rfl))) <|
        .cons rfl (Q_p rfl (S_addI rfl (AEv.tmp rfl) (AEv.tmp rfl) (by omega) (by omega))) <|
        .cons rfl (Q_p rfl (S_sliceL rfl (AEv.tmp rfl) (AEv.tmp rfl) (by kernel_rfl) (by omega) (by omega))) <|
        .cons rfl (Q_p rfl (S_assign rfl (AEv.tmp rfl))) <|
        .cons rfl (Q_p rfl (S_assign rfl (AEv.tmp rfl))) <|
        .cons rfl (Q_p rfl (S_assign rfl (AEv.const _))) <|
        .nil) ?_
    refine AC_ret ?_
    refine ret_tmps (ts := [4, 5, 6]) st rfl (by decide) rfl (Sub.l (List.Sublist.refl _)) (Conv.refl (Sub.l (List.Sublist.refl _)) _) ⟨(show AV.tup [.S (s.take (idxV s c).toNat), .S (s.drop (idxV s c + (([c] : List UInt8).length : Int)).toNat), .bool true] = _ from by rw [hi]; simp only [List.length_singleton, Int.toNat_natCast]; rw [tw_take, show ((List.takeWhile (fun x => x != c) s).length : Int) + ((1 : Nat) : Int) = (((List.takeWhile (fun x => x != c) s).length + 1 : Nat) : Int) by omega, Int.toNat_natCast]), rfl⟩ (.inl rfl)
  · try simp only [Bool.and_eq_true, Bool.or_eq_true, Bool.not_eq_true', Bool.not_eq_false', Bool.and_eq_false_iff, Bool.or_eq_false_iff, decide_eq_true_eq, decide_eq_false_iff_not, gd] at hb1
    have hm : c ∉ s := fun h => by rw [if_pos h] at hi; omega
    have hcv : cutV c s = (s, [], false) := by rw [cutV, if_neg hm]
    rw [hcv]
    refine AC_skip ?_
    refine AC_seq ?_
    refine AC_region ?_
    refine AL_p rfl rfl (S_move rfl (AEv.tmp rfl)) ?_
    refine AL_p rfl rfl (S_assign rfl (AEv.tmp rfl)) ?_
    refine AL_p rfl rfl (S_assign rfl (AEv.S _)) ?_
    refine AL_p rfl rfl (S_assign rfl (AEv.const _)) ?_
    refine AL_nil ?_
    refine AC_ret ?_
    refine ret_tmps (ts := [4, 5, 6]) st rfl (by decide) rfl (Sub.l (List.Sublist.refl _)) (Conv.refl (Sub.l (List.Sublist.refl _)) _) ⟨rfl, rfl⟩ (.inl rfl)

set_option maxRecDepth 100000 in
/-- strings.Cut -/
theorem strings_Cut_ok (s : List UInt8) (c : UInt8) (hs : s.length ≤ 9223372036854775806) : PCalls Tryd.prog 59 [.S s, .S [c]] (.tup [.S (cutV c s).1, .S (cutV c s).2.1, .bool (cutV c s).2.2]) := by
  intro st
  refine ACalls_of (N := 13) Tryd.func59 (by kernel_rfl) rfl rfl rfl ?_
  refine AC_seq ?_
  refine AC_region ?_
  refine AL_p rfl rfl (S_assign rfl (AEv.S _)) ?_
  refine AL_p rfl rfl (S_assign rfl (AEv.S _)) ?_
  refine AL_p rfl rfl (S_assign rfl (AEv.const _)) ?_
  refine AL_nil ?_
  refine AC_seq ?_
  refine AC_region ?_
  refine AL_p rfl rfl (S_move rfl (AEv.tmp rfl)) ?_
  refine AL_p rfl rfl (S_move rfl (AEv.tmp rfl)) ?_
  refine AL_p rfl rfl (S_pcall rfl (AEvs.cons (AEv.tmp rfl) (AEvs.cons (AEv.tmp rfl) AEvs.nil)) (lite_Cut_ok s c hs)) ?_
  refine AL_p rfl rfl (S_extract 0 rfl (AEv.tmp rfl) rfl) ?_
  refine AL_p rfl rfl (S_extract 1 rfl (AEv.tmp rfl) rfl) ?_
  refine AL_p rfl rfl (S_extract 2 rfl (AEv.tmp rfl) rfl) ?_
  refine AL_p rfl rfl (S_assign rfl (AEv.tmp rfl)) ?_
  refine AL_p rfl rfl (S_assign rfl (AEv.tmp rfl)) ?_
  refine AL_p rfl rfl (S_assign rfl (AEv.tmp rfl)) ?_
  refine AL_nil ?_
  refine AC_ret ?_
  refine ret_tmps (ts := [4, 5, 6]) st rfl (by decide) rfl (Sub.l (List.Sublist.refl _)) (Conv.refl (Sub.l (List.Sublist.refl _)) _) ⟨rfl, rfl⟩ (.inl rfl)

set_option maxRecDepth 100000 in
/-- provost/text.of -/
theorem text_of_ok (c : UInt8) : GCalls Tryd.prog tabs 62 [.int .u8 (c.toNat : Int)] (.int .i64 (ofV c)) := by
  intro st hG
  refine ACalls_of (N := 42) Tryd.func62 (by kernel_rfl) rfl rfl rfl ?_
  have hn := c.toNat_lt
  refine AC_seq ?_
  refine AC_region ?_
  refine AL_p rfl rfl (S_assign rfl (AEv.const _)) ?_
  refine AL_nil ?_
  refine AC_seq ?_
  refine AC_region ?_
  refine AL_p rfl rfl (S_assign rfl (AEv.const _)) ?_
  refine AL_nil ?_
  refine AC_seq ?_
  refine AC_block ?_
  refine AC_seq ?_
  refine AC_block ?_
  refine AC_seq ?_
  refine AC_block ?_
  refine AC_seq ?_
  refine AC_block ?_
  refine AC_seq ?_
  refine AC_seq ?_
  refine AC_seq ?_
  refine AC_seq ?_
  refine AC_region ?_
  refine AL_p rfl rfl (S_move rfl (AEv.tmp rfl)) ?_
  refine AL_p rfl rfl (S_geq rfl (AEv.tmp rfl) (AEv.const _)) ?_
  refine AL_p rfl rfl (S_move rfl (AEv.tmp rfl)) ?_
  refine AL_g rfl rfl (AEv.tmp rfl) rfl (fun hg1 => S_move rfl (AEv.tmp rfl)) ?_
  refine AL_g rfl rfl (AEv.tmp rfl) rfl (fun hg4 => S_leq rfl (AEv.cond (AEv.tmp rfl) (by first | assumption | exact gdAnd (by assumption) (by assumption))) (AEv.const _)) ?_
  refine AL_p rfl rfl (S_and rfl (AEv.tmp rfl) (fun hp7 => (AEv.cond (AEv.tmp rfl) (by first | assumption | exact gdT hp7 | exact gdF hp7 | exact gdAnd (by assumption) (gdT hp7) | exact gdAnd (by assumption) (gdF hp7))))) ?_
  refine AL_p rfl rfl (S_assign rfl (AEv.tmp rfl)) ?_
  refine AL_nil ?_
  refine AC_cond (AEv.tmp rfl) (fun hb8 => ?_) (fun hb8 => ?_)
  · try simp only [Bool.and_eq_true, Bool.or_eq_true, Bool.not_eq_true', Bool.not_eq_false', Bool.and_eq_false_iff, Bool.or_eq_false_iff, decide_eq_true_eq, decide_eq_false_iff_not, gd] at hb8
    refine AC_skip ?_
    refine AC_cond (AEv.tmp rfl) (fun hb9 => ?_) (fun hb9 => ?_)
    · try simp only [Bool.and_eq_true, Bool.or_eq_true, Bool.not_eq_true', Bool.not_eq_false', Bool.and_eq_false_iff, Bool.or_eq_false_iff, decide_eq_true_eq, decide_eq_false_iff_not, gd] at hb9
      have ho : ofV c = 7 := by rw [ofV, if_pos (by omega)]
      refine AC_exit ?_
      refine AC_region ?_
      refine AL_p rfl rfl (S_move rfl (AEv.tmp rfl)) ?_
      refine AL_p rfl rfl (S_bits rfl (by simp) (AEv.tmp rfl) (AEv.const _)) ?_
      refine AL_p rfl rfl (S_assign rfl (AEv.tmp rfl)) ?_
      refine AL_nil ?_
      refine AC_seq ?_
      refine AC_region ?_
      refine AL_p rfl rfl (S_move rfl (AEv.tmp rfl)) ?_
      refine AL_p rfl rfl (S_bits rfl (by simp) (AEv.tmp rfl) (AEv.const _)) ?_
      refine AL_p rfl rfl (S_assign rfl (AEv.tmp rfl)) ?_
      refine AL_nil ?_
      refine AC_exit ?_
      refine AC_seq ?_
      refine AC_region ?_
      refine AL_p rfl rfl (S_move rfl (AEv.tmp rfl)) ?_
      refine AL_p rfl rfl (S_assign rfl (AEv.tmp rfl)) ?_
      refine AL_nil ?_
      refine AC_ret ?_
      refine ret_tmp st rfl rfl (Sub.l (List.Sublist.refl _)) (Conv.refl (Sub.l (List.Sublist.refl _)) _) ⟨by rw [ho] <;> rfl, rfl⟩ (.inl rfl)
    · exfalso; simp at hb9; omega
  · try simp only [Bool.and_eq_true, Bool.or_eq_true, Bool.not_eq_true', Bool.not_eq_false', Bool.and_eq_false_iff, Bool.or_eq_false_iff, decide_eq_true_eq, decide_eq_false_iff_not, gd] at hb8
    refine AC_region ?_
    refine AL_p rfl rfl (S_move rfl (AEv.tmp rfl)) ?_
    refine AL_p rfl rfl (S_geq rfl (AEv.tmp rfl) (AEv.const _)) ?_
    refine AL_p rfl rfl (S_move rfl (AEv.tmp rfl)) ?_
    refine AL_g rfl rfl (AEv.tmp rfl) rfl (fun hg10 => S_move rfl (AEv.tmp rfl)) ?_
    refine AL_g rfl rfl (AEv.tmp rfl) rfl (fun hg13 => S_leq rfl (AEv.cond (AEv.tmp rfl) (by first | assumption | exact gdAnd (by assumption) (by assumption))) (AEv.const _)) ?_
    refine AL_p rfl rfl (S_and rfl (AEv.tmp rfl) (fun hp16 => (AEv.cond (AEv.tmp rfl) (by first | assumption | exact gdT hp16 | exact gdF hp16 | exact gdAnd (by assumption) (gdT hp16) | exact gdAnd (by assumption) (gdF hp16))))) ?_
    refine AL_p rfl rfl (S_assign rfl (AEv.tmp rfl)) ?_
    refine AL_nil ?_
    refine AC_cond (AEv.tmp rfl) (fun hb17 => ?_) (fun hb17 => ?_)
    · try simp only [Bool.and_eq_true, Bool.or_eq_true, Bool.not_eq_true', Bool.not_eq_false', Bool.and_eq_false_iff, Bool.or_eq_false_iff, decide_eq_true_eq, decide_eq_false_iff_not, gd] at hb17
      have ho : ofV c = 7 := by rw [ofV, if_pos (by omega)]
      refine AC_exit ?_
      refine AC_region ?_
      refine AL_p rfl rfl (S_move rfl (AEv.tmp rfl)) ?_
      refine AL_p rfl rfl (S_bits rfl (by simp) (AEv.tmp rfl) (AEv.const _)) ?_
      refine AL_p rfl rfl (S_assign rfl (AEv.tmp rfl)) ?_
      refine AL_nil ?_
      refine AC_seq ?_
      refine AC_region ?_
      refine AL_p rfl rfl (S_move rfl (AEv.tmp rfl)) ?_
      refine AL_p rfl rfl (S_bits rfl (by simp) (AEv.tmp rfl) (AEv.const _)) ?_
      refine AL_p rfl rfl (S_assign rfl (AEv.tmp rfl)) ?_
      refine AL_nil ?_
      refine AC_exit ?_
      refine AC_seq ?_
      refine AC_region ?_
      refine AL_p rfl rfl (S_move rfl (AEv.tmp rfl)) ?_
      refine AL_p rfl rfl (S_assign rfl (AEv.tmp rfl)) ?_
      refine AL_nil ?_
      refine AC_ret ?_
      refine ret_tmp st rfl rfl (Sub.l (List.Sublist.refl _)) (Conv.refl (Sub.l (List.Sublist.refl _)) _) ⟨by rw [ho] <;> rfl, rfl⟩ (.inl rfl)
    · try simp only [Bool.and_eq_true, Bool.or_eq_true, Bool.not_eq_true', Bool.not_eq_false', Bool.and_eq_false_iff, Bool.or_eq_false_iff, decide_eq_true_eq, decide_eq_false_iff_not, gd] at hb17
      refine AC_skip ?_
      refine AC_seq ?_
      refine AC_seq ?_
      refine AC_region ?_
      refine AL_p rfl rfl (S_move rfl (AEv.tmp rfl)) ?_
      refine AL_p rfl rfl (S_geq rfl (AEv.tmp rfl) (AEv.const _)) ?_
      refine AL_p rfl rfl (S_move rfl (AEv.tmp rfl)) ?_
      refine AL_g rfl rfl (AEv.tmp rfl) rfl (fun hg18 => S_move rfl (AEv.tmp rfl)) ?_
      refine AL_g rfl rfl (AEv.tmp rfl) rfl (fun hg21 => S_leq rfl (AEv.cond (AEv.tmp rfl) (by first | assumption | exact gdAnd (by assumption) (by assumption))) (AEv.const _)) ?_
      refine AL_p rfl rfl (S_and rfl (AEv.tmp rfl) (fun hp24 => (AEv.cond (AEv.tmp rfl) (by first | assumption | exact gdT hp24 | exact gdF hp24 | exact gdAnd (by assumption) (gdT hp24) | exact gdAnd (by assumption) (gdF hp24))))) ?_
      refine AL_p rfl rfl (S_assign rfl (AEv.tmp rfl)) ?_
      refine AL_nil ?_
      refine AC_cond (AEv.tmp rfl) (fun hb25 => ?_) (fun hb25 => ?_)
      · try simp only [Bool.and_eq_true, Bool.or_eq_true, Bool.not_eq_true', Bool.not_eq_false', Bool.and_eq_false_iff, Bool.or_eq_false_iff, decide_eq_true_eq, decide_eq_false_iff_not, gd] at hb25
        have ho : ofV c = 4 := by rw [ofV, if_neg (by omega), if_pos (by omega)]
        refine AC_exit ?_
        refine AC_seq ?_
        refine AC_region ?_
        refine AL_p rfl rfl (S_move rfl (AEv.tmp rfl)) ?_
        refine AL_p rfl rfl (S_bits rfl (by simp) (AEv.tmp rfl) (AEv.const _)) ?_
        refine AL_p rfl rfl (S_assign rfl (AEv.tmp rfl)) ?_
        refine AL_nil ?_
        refine AC_exit ?_
        refine AC_seq ?_
        refine AC_region ?_
        refine AL_p rfl rfl (S_move rfl (AEv.tmp rfl)) ?_
        refine AL_p rfl rfl (S_assign rfl (AEv.tmp rfl)) ?_
        refine AL_nil ?_
        refine AC_ret ?_
        refine ret_tmp st rfl rfl (Sub.l (List.Sublist.refl _)) (Conv.refl (Sub.l (List.Sublist.refl _)) _) ⟨by rw [ho] <;> rfl, rfl⟩ (.inl rfl)
      · try simp only [Bool.and_eq_true, Bool.or_eq_true, Bool.not_eq_true', Bool.not_eq_false', Bool.and_eq_false_iff, Bool.or_eq_false_iff, decide_eq_true_eq, decide_eq_false_iff_not, gd] at hb25
        have hw : IntKind.u8.wrap ((c.toNat : Int) - 32) = (((c.toNat : Int) - 32) % 256) := by simp [IntKind.wrap, IntKind.bits, IntKind.signed]
        have hw2 : IntKind.i64.wrap (IntKind.u8.wrap ((c.toNat : Int) - 32)) = (((c.toNat : Int) - 32) % 256) := by rw [hw]; exact wrap_i64 (by omega) (by omega)
        refine AC_skip ?_
        refine AC_seq ?_
        refine AC_region ?_
        refine AL_p rfl rfl (S_move rfl (AEv.tmp rfl)) ?_
        refine AL_p rfl rfl (S_geq rfl (AEv.tmp rfl) (AEv.const _)) ?_
        refine AL_p rfl rfl (S_move rfl (AEv.tmp rfl)) ?_
        refine AL_g rfl rfl (AEv.tmp rfl) rfl (fun hg26 => S_move rfl (AEv.tmp rfl)) ?_
        refine AL_g rfl rfl (AEv.tmp rfl) rfl (fun hg29 => S_sub rfl (AEv.cond (AEv.tmp rfl) (by first | assumption | exact gdAnd (by assumption) (by assumption))) (AEv.const _)) ?_
        refine AL_g rfl rfl (AEv.tmp rfl) rfl (fun hg32 => S_conv (k' := .i64) rfl (AEv.cond (AEv.tmp rfl) (by first | assumption | exact gdAnd (by assumption) (by assumption))) (by kernel_rfl) (by kernel_rfl)) ?_
        refine AL_g rfl rfl (AEv.tmp rfl) rfl (fun hg35 => S_lss rfl (AEv.cond (AEv.tmp rfl) (by first | assumption | exact gdAnd (by assumption) (by assumption))) (AEv.const _)) ?_
        refine AL_p rfl rfl (S_and rfl (AEv.tmp rfl) (fun hp38 => (AEv.cond (AEv.tmp rfl) (by first | assumption | exact gdT hp38 | exact gdF hp38 | exact gdAnd (by assumption) (gdT hp38) | exact gdAnd (by assumption) (gdF hp38))))) ?_
        refine AL_p rfl rfl (S_assign rfl (AEv.tmp rfl)) ?_
        refine AL_nil ?_
        refine AC_cond (AEv.tmp rfl) (fun hb39 => ?_) (fun hb39 => ?_)
        · try simp only [Bool.and_eq_true, Bool.or_eq_true, Bool.not_eq_true', Bool.not_eq_false', Bool.and_eq_false_iff, Bool.or_eq_false_iff, decide_eq_true_eq, decide_eq_false_iff_not, gd] at hb39
          have ho : ofV c = marksI.getD (c.toNat - 32) 0 := by rw [ofV, if_neg (by omega), if_neg (by omega), if_pos (by omega)]
          have hsub : 0 + (IntKind.u8.wrap ((c.toNat : Int) - 32)).toNat * 1 = c.toNat - 32 := by omega
          refine AC_exit ?_
          refine AC_seq ?_
          refine AC_region ?_
          refine AL_p rfl rfl (S_move rfl (AEv.tmp rfl)) ?_
          refine AL_p rfl rfl (S_sub rfl (AEv.tmp rfl) (AEv.const _)) ?_
          refine AL_p rfl rfl (S_elemA (e := 3) (len := 64) 1 rfl (AEv.global _) (AEv.tmp rfl) (by kernel_rfl) (by kernel_rfl) (by omega) (by omega)) ?_
          refine AL_p rfl rfl (S_loadK (vs := marksV) (u := .int .i64 (marksI.getD (c.toNat - 32) 0)) rfl (AEv.tmp rfl) (hG _ tab_marks) (by rw [hsub]; exact marks_at (by omega)) (by kernel_rfl)) ?_
          refine AL_p rfl rfl (S_assign rfl (AEv.tmp rfl)) ?_
          refine AL_nil ?_
          refine AC_exit ?_
          refine AC_seq ?_
          refine AC_region ?_
          refine AL_p rfl rfl (S_move rfl (AEv.tmp rfl)) ?_
          refine AL_p rfl rfl (S_assign rfl (AEv.tmp rfl)) ?_
          refine AL_nil ?_
          refine AC_ret ?_
          refine ret_tmp st rfl rfl (Sub.l (List.Sublist.refl _)) (Conv.refl (Sub.l (List.Sublist.refl _)) _) ⟨by rw [ho] <;> rfl, rfl⟩ (.inl rfl)
        · try simp only [Bool.and_eq_true, Bool.or_eq_true, Bool.not_eq_true', Bool.not_eq_false', Bool.and_eq_false_iff, Bool.or_eq_false_iff, decide_eq_true_eq, decide_eq_false_iff_not, gd] at hb39
          have ho : ofV c = 0 := by rw [ofV, if_neg (by omega), if_neg (by omega), if_neg (by omega)]
          refine AC_skip ?_
          refine AC_exit ?_
          refine AC_seq ?_
          refine AC_region ?_
          refine AL_p rfl rfl (S_move rfl (AEv.tmp rfl)) ?_
          refine AL_p rfl rfl (S_assign rfl (AEv.tmp rfl)) ?_
          refine AL_nil ?_
          refine AC_ret ?_
          refine ret_tmp st rfl rfl (Sub.l (List.Sublist.refl _)) (Conv.refl (Sub.l (List.Sublist.refl _)) _) ⟨by rw [ho] <;> rfl, rfl⟩ (.inl rfl)

set_option maxRecDepth 100000 in
/-- provost/text.all -/
theorem text_all_ok (s : List UInt8) (w : Int) (hw : w = 1 ∨ w = 2 ∨ w = 4) (hs : s.length ≤ 9223372036854775806) : GCalls Tryd.prog tabs 44 [.S s, .int .i64 w] (.bool (s.all (inC w))) := by
  intro st hG
  refine ACalls_of (N := 19) Tryd.func44 (by kernel_rfl) rfl rfl rfl ?_
  refine AC_seq ?_
  refine AC_region ?_
  refine AL_p rfl rfl (S_assign rfl (AEv.const _)) ?_
  refine AL_nil ?_
  refine AC_seq ?_
  refine AC_seq ?_
  refine AC_region ?_
  refine AL_p rfl rfl (S_move rfl (AEv.tmp rfl)) ?_
  refine AL_p rfl rfl (S_lenS (ts := #[]) rfl (AEv.tmp rfl) (by kernel_rfl)) ?_
  refine AL_p rfl rfl (S_move rfl (AEv.const _)) ?_
  refine AL_nil ?_
  refine AC_block ?_
  refine AC_loop (G := Nat) (fun i => i ≤ s.length ∧ (s.take i).all (inC w) = true) (fun i => [(0, .S s), (1, .int .i64 w), (7, .int .i64 (s.length : Int)), (8, .int .i64 (i : Int))]) (fun i => st) (fun i => s.length - i) (0) (⟨by simp, by simp⟩) rfl ?_ ?_
  · exact (.cons rfl (by first | exact Le.refl _ | exact Le.nils | exact Le.row _ _ _ _ | (exact Le.of_eq (by simp))) (.cons rfl (by first | exact Le.refl _ | exact Le.nils | exact Le.row _ _ _ _ | (exact Le.of_eq (by simp))) (.cons rfl (by first | exact Le.refl _ | exact Le.nils | exact Le.row _ _ _ _ | (exact Le.of_eq (by simp))) (.cons rfl (by first | exact Le.refl _ | exact Le.nils | exact Le.row _ _ _ _ | (exact Le.of_eq (by simp))) .nil))))
  · rintro i ⟨hi, hall⟩
    try dsimp only
    refine AC_seq ?_
    refine AC_region ?_
    refine AL_p rfl rfl (S_lss rfl (AEv.tmp rfl) (AEv.tmp rfl)) ?_
    refine AL_nil ?_
    refine AC_seq ?_
    refine AC_cond (AEv.tmp rfl) (fun hb1 => ?_) (fun hb1 => ?_)
    · try simp only [Bool.and_eq_true, Bool.or_eq_true, Bool.not_eq_true', Bool.not_eq_false', Bool.and_eq_false_iff, Bool.or_eq_false_iff, decide_eq_true_eq, decide_eq_false_iff_not, gd] at hb1
      have hil : i < s.length := by omega
      refine AC_skip ?_
      refine AC_seq ?_
      refine AC_block ?_
      refine AC_seq ?_
      refine AC_region ?_
      refine AL_p rfl rfl (S_move rfl (AEv.tmp rfl)) ?_
      refine AL_p rfl rfl (S_assign rfl (AEv.tmp rfl)) ?_
      refine AL_nil ?_
      refine AC_seq ?_
      refine AC_region ?_
      refine AL_p rfl rfl (S_move rfl (AEv.tmp rfl)) ?_
      refine AL_p rfl rfl (S_move rfl (AEv.tmp rfl)) ?_
      refine AL_p rfl rfl (S_index rfl (AEv.tmp rfl) (AEv.tmp rfl) (by kernel_rfl) (by omega) (by omega)) ?_
      refine AL_p rfl rfl (S_gcall rfl (AEvs.cons (y := .int .u8 ((s[i]'hil).toNat : Int)) ((AEv.tmp rfl).le (Le.of_eq (by rw [atL_get hil]))) AEvs.nil) (text_of_ok (s[i]'hil) _ hG)) ?_
      refine AL_p rfl rfl (S_move rfl (AEv.tmp rfl)) ?_
      refine AL_p rfl rfl (S_bits rfl (by simp) (AEv.tmp rfl) (AEv.tmp rfl)) ?_
      refine AL_p rfl rfl ((S_eql rfl (AEv.tmp rfl) (AEv.const _)).ofV (congrArg _ (of_bits (s[i]'hil) hw))) ?_
      refine AL_nil ?_
      refine AC_cond (AEv.tmp rfl) (fun hb2 => ?_) (fun hb2 => ?_)
      · try simp only [Bool.and_eq_true, Bool.or_eq_true, Bool.not_eq_true', Bool.not_eq_false', Bool.and_eq_false_iff, Bool.or_eq_false_iff, decide_eq_true_eq, decide_eq_false_iff_not, gd] at hb2
        have hin : inC w (s[i]'hil) = false := by simpa using hb2
        have ha : s.all (inC w) = false := List.all_eq_false.2 ⟨s[i], List.getElem_mem hil, by rw [hin]; simp⟩
        refine AC_seq ?_
        refine AC_region ?_
        refine AL_p rfl rfl (S_assign rfl (AEv.const _)) ?_
        refine AL_nil ?_
        refine AC_ret ?_
        refine ret_tmp st rfl rfl (Sub.l (List.Sublist.refl _)) (Conv.refl (Sub.l (List.Sublist.refl _)) _) ⟨by rw [ha], rfl⟩ (.inl rfl)
      · try simp only [Bool.and_eq_true, Bool.or_eq_true, Bool.not_eq_true', Bool.not_eq_false', Bool.and_eq_false_iff, Bool.or_eq_false_iff, decide_eq_true_eq, decide_eq_false_iff_not, gd] at hb2
        have hin : inC w (s[i]'hil) = true := by simpa using hb2
        refine AC_skip ?_
        refine AC_region ?_
        refine AL_p rfl rfl (S_addI rfl (AEv.tmp rfl) (AEv.const _) (by omega) (by omega)) ?_
        refine AL_p rfl rfl (S_move rfl (AEv.tmp rfl)) ?_
        refine AL_nil ?_
        refine ⟨i + 1, ⟨by omega, by rw [all_take_succ hil, hall, hin]; rfl⟩, by omega, rfl, .cons rfl (Le.refl _) (.cons rfl (Le.refl _) (.cons rfl (Le.refl _) (.cons rfl (Le.of_eq (by rw [Int.natCast_add]; rfl)) .nil)))⟩
    · try simp only [Bool.and_eq_true, Bool.or_eq_true, Bool.not_eq_true', Bool.not_eq_false', Bool.and_eq_false_iff, Bool.or_eq_false_iff, decide_eq_true_eq, decide_eq_false_iff_not, gd] at hb1
      have ha : s.all (inC w) = true := by
        rw [List.take_of_length_le (by omega)] at hall
        exact hall
      refine AC_exit ?_
      refine AC_seq ?_
      refine AC_region ?_
      refine AL_p rfl rfl (S_assign rfl (AEv.const _)) ?_
      refine AL_nil ?_
      refine AC_ret ?_
      refine ret_tmp st rfl rfl (Sub.l (List.Sublist.refl _)) (Conv.refl (Sub.l (List.Sublist.refl _)) _) ⟨by rw [ha], rfl⟩ (.inl rfl)

set_option maxRecDepth 100000 in
/-- provost/text.name -/
theorem text_name_ok (s : List UInt8) : GCalls Tryd.prog tabs 30 [.S s] (.bool (nameV s)) := by
  intro st hG
  refine ACalls_of (N := 27) Tryd.func30 (by kernel_rfl) rfl rfl rfl ?_
  have hpos : ∀ h : ¬ s = [], 0 < s.length := fun h => List.length_pos_iff.2 h
  refine AC_seq ?_
  refine AC_region ?_
  refine AL_p rfl rfl (S_assign rfl (AEv.const _)) ?_
  refine AL_nil ?_
  refine AC_seq ?_
  refine AC_region ?_
  refine AL_p rfl rfl (S_move rfl (AEv.tmp rfl)) ?_
  refine AL_p rfl rfl (S_neS rfl (AEv.tmp rfl) (AEv.S _)) ?_
  refine AL_p rfl rfl (S_move rfl (AEv.tmp rfl)) ?_
  refine AL_g rfl rfl (AEv.tmp rfl) rfl (fun hg1 => S_move rfl (AEv.tmp rfl)) ?_
  refine AL_g rfl rfl (AEv.tmp rfl) rfl (fun hg4 => S_lenS (ts := #[]) rfl (AEv.cond (AEv.tmp rfl) (by first | assumption | exact gdAnd (by assumption) (by assumption))) (by kernel_rfl)) ?_
  refine AL_g rfl rfl (AEv.tmp rfl) rfl (fun hg7 => S_leq rfl (AEv.cond (AEv.tmp rfl) (by first | assumption | exact gdAnd (by assumption) (by assumption))) (AEv.const _)) ?_
  refine AL_p rfl rfl (S_and rfl (AEv.tmp rfl) (fun hp10 => (AEv.cond (AEv.tmp rfl) (by first | assumption | exact gdT hp10 | exact gdF hp10 | exact gdAnd (by assumption) (gdT hp10) | exact gdAnd (by assumption) (gdF hp10))))) ?_
  refine AL_p rfl rfl (S_move rfl (AEv.tmp rfl)) ?_
  refine AL_g rfl rfl (AEv.tmp rfl) rfl (fun hg11 => S_move rfl (AEv.tmp rfl)) ?_
  refine AL_g rfl rfl (AEv.tmp rfl) rfl (fun hg14 => S_gcall rfl (AEvs.cons (AEv.cond (AEv.tmp rfl) (by first | assumption | exact gdAnd (by assumption) (by assumption))) (AEvs.cons (AEv.const _) AEvs.nil)) (text_all_ok s 1 (.inl rfl) (by simp only [gd, Bool.and_eq_true, decide_eq_true_eq] at *; omega) _ hG)) ?_
  refine AL_p rfl rfl (S_and rfl (AEv.tmp rfl) (fun hp17 => (AEv.cond (AEv.tmp rfl) (by first | assumption | exact gdT hp17 | exact gdF hp17 | exact gdAnd (by assumption) (gdT hp17) | exact gdAnd (by assumption) (gdF hp17))))) ?_
  refine AL_p rfl rfl (S_move rfl (AEv.tmp rfl)) ?_
  refine AL_g rfl rfl (AEv.tmp rfl) rfl (fun hg18 => S_move rfl (AEv.tmp rfl)) ?_
  refine AL_g rfl rfl (AEv.tmp rfl) rfl (fun hg21 => S_index rfl (AEv.cond (AEv.tmp rfl) (by first | assumption | exact gdAnd (by assumption) (by assumption))) (AEv.const _) (by kernel_rfl) (by omega) (by simp only [gd, Bool.and_eq_true, Bool.not_eq_true', decide_eq_false_iff_not, decide_eq_true_eq] at *; have hp : 0 < s.length := List.length_pos_iff.2 (by first | assumption | (simp_all; done)); omega)) ?_
  refine AL_g rfl rfl (AEv.tmp rfl) rfl (fun hg24 => S_neq rfl (AEv.cond (AEv.tmp rfl) (by first | assumption | exact gdAnd (by assumption) (by assumption))) (AEv.const _)) ?_
  refine AL_p rfl rfl (S_and rfl (AEv.tmp rfl) (fun hp27 => (AEv.cond (AEv.tmp rfl) (by first | assumption | exact gdT hp27 | exact gdF hp27 | exact gdAnd (by assumption) (gdT hp27) | exact gdAnd (by assumption) (gdF hp27))))) ?_
  refine AL_p rfl rfl (S_move rfl (AEv.tmp rfl)) ?_
  refine AL_g rfl rfl (AEv.tmp rfl) rfl (fun hg28 => S_move rfl (AEv.tmp rfl)) ?_
  refine AL_g rfl rfl (AEv.tmp rfl) rfl (fun hg31 => S_move rfl (AEv.tmp rfl)) ?_
  refine AL_g rfl rfl (AEv.tmp rfl) rfl (fun hg34 => S_lenS (ts := #[]) rfl (AEv.cond (AEv.tmp rfl) (by first | assumption | exact gdAnd (by assumption) (by assumption))) (by kernel_rfl)) ?_
  refine AL_g rfl rfl (AEv.tmp rfl) rfl (fun hg37 => S_subI rfl (AEv.cond (AEv.tmp rfl) (by first | assumption | exact gdAnd (by assumption) (by assumption))) (AEv.const _) (by (try simp only [gd, Bool.and_eq_true, Bool.or_eq_true, Bool.not_eq_true', Bool.not_eq_false', decide_eq_true_eq, decide_eq_false_iff_not, Bool.or_eq_false_iff, Bool.and_eq_false_iff] at *); omega) (by (try simp only [gd, Bool.and_eq_true, Bool.or_eq_true, Bool.not_eq_true', Bool.not_eq_false', decide_eq_true_eq, decide_eq_false_iff_not, Bool.or_eq_false_iff, Bool.and_eq_false_iff] at *); omega)) ?_
  refine AL_g rfl rfl (AEv.tmp rfl) rfl (fun hg40 => S_index rfl (AEv.cond (AEv.tmp rfl) (by first | assumption | exact gdAnd (by assumption) (by assumption))) (AEv.cond (AEv.tmp rfl) (by first | assumption | exact gdAnd (by assumption) (by assumption))) (by kernel_rfl) (by simp only [gd, Bool.and_eq_true, Bool.not_eq_true', decide_eq_false_iff_not, decide_eq_true_eq] at *; have hp : 0 < s.length := List.length_pos_iff.2 (by first | assumption | (simp_all; done)); omega) (by omega)) ?_
  refine AL_g rfl rfl (AEv.tmp rfl) rfl (fun hg43 => S_neq rfl (AEv.cond (AEv.tmp rfl) (by first | assumption | exact gdAnd (by assumption) (by assumption))) (AEv.const _)) ?_
  refine AL_p rfl rfl (S_and rfl (AEv.tmp rfl) (fun hp46 => (AEv.cond (AEv.tmp rfl) (by first | assumption | exact gdT hp46 | exact gdF hp46 | exact gdAnd (by assumption) (gdT hp46) | exact gdAnd (by assumption) (gdF hp46))))) ?_
  refine AL_p rfl rfl (S_assign rfl (AEv.tmp rfl)) ?_
  refine AL_nil ?_
  refine AC_ret ?_
  refine ret_tmp st rfl rfl (Sub.l (List.Sublist.refl _)) (Conv.refl (Sub.l (List.Sublist.refl _)) _) ⟨rfl, rfl⟩ (.inl rfl)

set_option maxRecDepth 100000 in
/-- provost/text.names -/
theorem text_names_ok (s : List UInt8) (k : Nat) (hk : k ≤ 100) (hs : s.length ≤ 9223372036854775806) : GCalls Tryd.prog tabs 63 [.S s, .int .i64 (k : Int)] (.bool (namesR k s)) := by
  intro st hG
  refine ACalls_of (N := 24) Tryd.func63 (by kernel_rfl) rfl rfl rfl ?_
  refine AC_seq ?_
  refine AC_region ?_
  refine AL_p rfl rfl (S_assign rfl (AEv.const _)) ?_
  refine AL_nil ?_
  refine AC_seq ?_
  refine AC_seq ?_
  refine AC_region ?_
  refine AL_p rfl rfl (S_move rfl (AEv.tmp rfl)) ?_
  refine AL_p rfl rfl (S_move rfl (AEv.const _)) ?_
  refine AL_nil ?_
  refine AC_block ?_
  refine AC_loop (G := Nat × List UInt8) (fun g => g.1 ≤ k ∧ namesR k s = namesR (k - g.1) g.2 ∧ g.2.length ≤ s.length) (fun g => [(0, .S g.2), (8, .int .i64 (k : Int)), (9, .int .i64 (g.1 : Int))]) (fun g => st) (fun g => k - g.1) ((0, s)) (⟨by simp, by simp, by simp⟩) rfl ?_ ?_
  · exact (.cons rfl (by first | exact Le.refl _ | exact Le.nils | exact Le.row _ _ _ _ | (exact Le.of_eq (by simp))) (.cons rfl (by first | exact Le.refl _ | exact Le.nils | exact Le.row _ _ _ _ | (exact Le.of_eq (by simp))) (.cons rfl (by first | exact Le.refl _ | exact Le.nils | exact Le.row _ _ _ _ | (exact Le.of_eq (by simp))) .nil)))
  · rintro ⟨j, t⟩ ⟨hj, hR, htl⟩
    try dsimp only
    dsimp only at hj hR htl
    refine AC_seq ?_
    refine AC_region ?_
    refine AL_p rfl rfl (S_lss rfl (AEv.tmp rfl) (AEv.tmp rfl)) ?_
    refine AL_nil ?_
    refine AC_seq ?_
    refine AC_cond (AEv.tmp rfl) (fun hb1 => ?_) (fun hb1 => ?_)
    · try simp only [Bool.and_eq_true, Bool.or_eq_true, Bool.not_eq_true', Bool.not_eq_false', Bool.and_eq_false_iff, Bool.or_eq_false_iff, decide_eq_true_eq, decide_eq_false_iff_not, gd] at hb1
      have hstep : namesR (k - j) t = if nameV (cutV 47 t).1 = true then (if (cutV 47 t).2.2 = true then namesR (k - j - 1) (cutV 47 t).2.1 else true) else false := by
        rw [show k - j = (k - j - 1) + 1 by omega]; rfl
      have hcl : (cutV 47 t).1.length ≤ t.length := cutV_le 47 t
      refine AC_skip ?_
      refine AC_seq ?_
      refine AC_block ?_
      refine AC_seq ?_
      refine AC_region ?_
      refine AL_p rfl rfl (S_move rfl (AEv.tmp rfl)) ?_
      refine AL_p rfl rfl (S_pcall rfl (AEvs.cons (AEv.tmp rfl) (AEvs.cons (AEv.S _) AEvs.nil)) (strings_Cut_ok t 47 (by omega))) ?_
      refine AL_p rfl rfl (S_move rfl (AEv.tmp rfl)) ?_
      refine AL_p rfl rfl (S_extract 0 rfl (AEv.tmp rfl) rfl) ?_
      refine AL_p rfl rfl (S_extract 1 rfl (AEv.tmp rfl) rfl) ?_
      refine AL_p rfl rfl (S_extract 2 rfl (AEv.tmp rfl) rfl) ?_
      refine AL_p rfl rfl (S_assign rfl (AEv.tmp rfl)) ?_
      refine AL_p rfl rfl (S_assign rfl (AEv.tmp rfl)) ?_
      refine AL_p rfl rfl (S_assign rfl (AEv.tmp rfl)) ?_
      refine AL_nil ?_
      refine AC_seq ?_
      refine AC_seq ?_
      refine AC_region ?_
      refine AL_p rfl rfl (S_move rfl (AEv.tmp rfl)) ?_
      refine AL_p rfl rfl (S_gcall rfl (AEvs.cons (AEv.tmp rfl) AEvs.nil) (text_name_ok (cutV 47 t).1 _ hG)) ?_
      refine AL_p rfl rfl (S_not rfl (AEv.tmp rfl)) ?_
      refine AL_nil ?_
      refine AC_cond (AEv.tmp rfl) (fun hb2 => ?_) (fun hb2 => ?_)
      · try simp only [Bool.and_eq_true, Bool.or_eq_true, Bool.not_eq_true', Bool.not_eq_false', Bool.and_eq_false_iff, Bool.or_eq_false_iff, decide_eq_true_eq, decide_eq_false_iff_not, gd] at hb2
        have hname : ¬ nameV (cutV 47 t).1 = true := by simpa using hb2
        refine AC_seq ?_
        refine AC_region ?_
        refine AL_p rfl rfl (S_assign rfl (AEv.const _)) ?_
        refine AL_nil ?_
        refine AC_ret ?_
        refine ret_tmp st rfl rfl (Sub.l (List.Sublist.refl _)) (Conv.refl (Sub.l (List.Sublist.refl _)) _) ⟨by rw [hR, hstep, if_neg hname], rfl⟩ (.inl rfl)
      · try simp only [Bool.and_eq_true, Bool.or_eq_true, Bool.not_eq_true', Bool.not_eq_false', Bool.and_eq_false_iff, Bool.or_eq_false_iff, decide_eq_true_eq, decide_eq_false_iff_not, gd] at hb2
        have hname : nameV (cutV 47 t).1 = true := by simpa using hb2
        refine AC_skip ?_
        refine AC_seq ?_
        refine AC_seq ?_
        refine AC_region ?_
        refine AL_p rfl rfl (S_move rfl (AEv.tmp rfl)) ?_
        refine AL_p rfl rfl (S_not rfl (AEv.tmp rfl)) ?_
        refine AL_nil ?_
        refine AC_cond (AEv.tmp rfl) (fun hb3 => ?_) (fun hb3 => ?_)
        · try simp only [Bool.and_eq_true, Bool.or_eq_true, Bool.not_eq_true', Bool.not_eq_false', Bool.and_eq_false_iff, Bool.or_eq_false_iff, decide_eq_true_eq, decide_eq_false_iff_not, gd] at hb3
          have hmore : ¬ (cutV 47 t).2.2 = true := by simpa using hb3
          refine AC_seq ?_
          refine AC_region ?_
          refine AL_p rfl rfl (S_assign rfl (AEv.const _)) ?_
          refine AL_nil ?_
          refine AC_ret ?_
          refine ret_tmp st rfl rfl (Sub.l (List.Sublist.refl _)) (Conv.refl (Sub.l (List.Sublist.refl _)) _) ⟨by rw [hR, hstep, if_pos hname, if_neg hmore], rfl⟩ (.inl rfl)
        · try simp only [Bool.and_eq_true, Bool.or_eq_true, Bool.not_eq_true', Bool.not_eq_false', Bool.and_eq_false_iff, Bool.or_eq_false_iff, decide_eq_true_eq, decide_eq_false_iff_not, gd] at hb3
          have hmore : (cutV 47 t).2.2 = true := by simpa using hb3
          refine AC_skip ?_
          refine AC_region ?_
          refine AL_p rfl rfl (S_move rfl (AEv.tmp rfl)) ?_
          refine AL_p rfl rfl (S_assign rfl (AEv.tmp rfl)) ?_
          refine AL_nil ?_
          refine AC_region ?_
          refine AL_p rfl rfl (S_addI rfl (AEv.tmp rfl) (AEv.const _) (by omega) (by omega)) ?_
          refine AL_p rfl rfl (S_move rfl (AEv.tmp rfl)) ?_
          refine AL_nil ?_
          refine ⟨(j + 1, (cutV 47 t).2.1), ⟨by dsimp only; omega, by dsimp only; rw [hR, hstep, if_pos hname, if_pos hmore, show k - (j + 1) = k - j - 1 by omega], by have := cutV_len hmore; dsimp only; omega⟩, by dsimp only; omega, rfl, .cons rfl (Le.refl _) (.cons rfl (Le.refl _) (.cons rfl (Le.of_eq (by rw [Int.natCast_add]; rfl)) .nil))⟩
    · try simp only [Bool.and_eq_true, Bool.or_eq_true, Bool.not_eq_true', Bool.not_eq_false', Bool.and_eq_false_iff, Bool.or_eq_false_iff, decide_eq_true_eq, decide_eq_false_iff_not, gd] at hb1
      have hkj : k - j = 0 := by omega
      refine AC_exit ?_
      refine AC_seq ?_
      refine AC_region ?_
      refine AL_p rfl rfl (S_assign rfl (AEv.const _)) ?_
      refine AL_nil ?_
      refine AC_ret ?_
      refine ret_tmp st rfl rfl (Sub.l (List.Sublist.refl _)) (Conv.refl (Sub.l (List.Sublist.refl _)) _) ⟨by rw [hR, hkj]; rfl, rfl⟩ (.inl rfl)

set_option maxRecDepth 100000 in
/-- provost/text.says -/
theorem text_says_ok (b : Bool) (c : Int) : PCalls Tryd.prog 29 [.bool b, .int .i64 c] (.int .i64 (saysV b c)) := by
  intro st
  refine ACalls_of (N := 7) Tryd.func29 (by kernel_rfl) rfl rfl rfl ?_
  refine AC_seq ?_
  refine AC_region ?_
  refine AL_p rfl rfl (S_assign rfl (AEv.const _)) ?_
  refine AL_nil ?_
  refine AC_seq ?_
  refine AC_seq ?_
  refine AC_region ?_
  refine AL_p rfl rfl (S_move rfl (AEv.tmp rfl)) ?_
  refine AL_nil ?_
  refine AC_cond (AEv.tmp rfl) (fun hb1 => ?_) (fun hb1 => ?_)
  · try simp only [Bool.and_eq_true, Bool.or_eq_true, Bool.not_eq_true', Bool.not_eq_false', Bool.and_eq_false_iff, Bool.or_eq_false_iff, decide_eq_true_eq, decide_eq_false_iff_not, gd] at hb1
    have hb : b = true := hb1
    refine AC_seq ?_
    refine AC_region ?_
    refine AL_p rfl rfl (S_assign rfl (AEv.const _)) ?_
    refine AL_nil ?_
    refine AC_ret ?_
    refine ret_tmp st rfl rfl (Sub.l (List.Sublist.refl _)) (Conv.refl (Sub.l (List.Sublist.refl _)) _) ⟨by rw [saysV, if_pos (by assumption)], rfl⟩ (.inl rfl)
  · try simp only [Bool.and_eq_true, Bool.or_eq_true, Bool.not_eq_true', Bool.not_eq_false', Bool.and_eq_false_iff, Bool.or_eq_false_iff, decide_eq_true_eq, decide_eq_false_iff_not, gd] at hb1
    have hb : b = false := hb1
    refine AC_skip ?_
    refine AC_seq ?_
    refine AC_region ?_
    refine AL_p rfl rfl (S_move rfl (AEv.tmp rfl)) ?_
    refine AL_p rfl rfl (S_assign rfl (AEv.tmp rfl)) ?_
    refine AL_nil ?_
    refine AC_ret ?_
    refine ret_tmp st rfl rfl (Sub.l (List.Sublist.refl _)) (Conv.refl (Sub.l (List.Sublist.refl _)) _) ⟨by rw [saysV, if_neg (by simp_all)], rfl⟩ (.inl rfl)

set_option maxRecDepth 100000 in
/-- provost/text.Name -/
theorem text_Name_ok (s : List UInt8) : GCalls Tryd.prog tabs 15 [.S s] (.int .i64 (saysV (nameV s) 30)) := by
  intro st hG
  refine ACalls_of (N := 6) Tryd.func15 (by kernel_rfl) rfl rfl rfl ?_
  refine AC_seq ?_
  refine AC_region ?_
  refine AL_p rfl rfl (S_assign rfl (AEv.const _)) ?_
  refine AL_nil ?_
  refine AC_seq ?_
  refine AC_region ?_
  refine AL_p rfl rfl (S_move rfl (AEv.tmp rfl)) ?_
  refine AL_p rfl rfl (S_gcall rfl (AEvs.cons (AEv.tmp rfl) AEvs.nil) ((text_name_ok _) _ (fun p hp => by first | exact hG p hp | (simp [hG p hp]; done)))) ?_
  refine AL_p rfl rfl (S_pcall rfl (AEvs.cons (AEv.tmp rfl) (AEvs.cons (AEv.const _) AEvs.nil)) (text_says_ok _ _)) ?_
  refine AL_p rfl rfl (S_assign rfl (AEv.tmp rfl)) ?_
  refine AL_nil ?_
  refine AC_ret ?_
  refine ret_tmp st rfl rfl (Sub.l (List.Sublist.refl _)) (Conv.refl (Sub.l (List.Sublist.refl _)) _) ⟨rfl, rfl⟩ (.inl rfl)

set_option maxRecDepth 100000 in
/-- provost/text.Key -/
theorem text_Key_ok (s : List UInt8) (hs : s.length ≤ 9223372036854775806) : GCalls Tryd.prog tabs 45 [.S s] (.int .i64 (saysV (namesR 2 s) 31)) := by
  intro st hG
  refine ACalls_of (N := 6) Tryd.func45 (by kernel_rfl) rfl rfl rfl ?_
  refine AC_seq ?_
  refine AC_region ?_
  refine AL_p rfl rfl (S_assign rfl (AEv.const _)) ?_
  refine AL_nil ?_
  refine AC_seq ?_
  refine AC_region ?_
  refine AL_p rfl rfl (S_move rfl (AEv.tmp rfl)) ?_
  refine AL_p rfl rfl (S_gcall rfl (AEvs.cons (AEv.tmp rfl) (AEvs.cons (AEv.const _) AEvs.nil)) (text_names_ok s 2 (by decide) hs _ hG)) ?_
  refine AL_p rfl rfl (S_pcall rfl (AEvs.cons (AEv.tmp rfl) (AEvs.cons (AEv.const _) AEvs.nil)) (text_says_ok _ _)) ?_
  refine AL_p rfl rfl (S_assign rfl (AEv.tmp rfl)) ?_
  refine AL_nil ?_
  refine AC_ret ?_
  refine ret_tmp st rfl rfl (Sub.l (List.Sublist.refl _)) (Conv.refl (Sub.l (List.Sublist.refl _)) _) ⟨rfl, rfl⟩ (.inl rfl)

set_option maxRecDepth 100000 in
/-- provost/text.Val -/
theorem text_Val_ok (s : List UInt8) (hs : s.length ≤ 9223372036854775806) : GCalls Tryd.prog tabs 46 [.S s] (.int .i64 (saysV (valV s) 32)) := by
  intro st hG
  refine ACalls_of (N := 11) Tryd.func46 (by kernel_rfl) rfl rfl rfl ?_
  refine AC_seq ?_
  refine AC_region ?_
  refine AL_p rfl rfl (S_assign rfl (AEv.const _)) ?_
  refine AL_nil ?_
  refine AC_seq ?_
  refine AC_region ?_
  refine AL_p rfl rfl (S_move rfl (AEv.tmp rfl)) ?_
  refine AL_p rfl rfl (S_lenS (ts := #[]) rfl (AEv.tmp rfl) (by kernel_rfl)) ?_
  refine AL_p rfl rfl (S_leq rfl (AEv.tmp rfl) (AEv.const _)) ?_
  refine AL_p rfl rfl (S_move rfl (AEv.tmp rfl)) ?_
  refine AL_g rfl rfl (AEv.tmp rfl) rfl (fun hg1 => S_move rfl (AEv.tmp rfl)) ?_
  refine AL_g rfl rfl (AEv.tmp rfl) rfl (fun hg4 => S_gcall rfl (AEvs.cons (AEv.cond (AEv.tmp rfl) (by first | assumption | exact gdAnd (by assumption) (by assumption))) (AEvs.cons (AEv.const _) AEvs.nil)) ((text_all_ok _ _ (by first | exact .inl rfl | exact .inr (.inl rfl) | exact .inr (.inr rfl)) (by omega)) _ (fun p hp => by first | exact hG p hp | (simp [hG p hp]; done)))) ?_
  refine AL_p rfl rfl (S_and rfl (AEv.tmp rfl) (fun hp7 => (AEv.cond (AEv.tmp rfl) (by first | assumption | exact gdT hp7 | exact gdF hp7 | exact gdAnd (by assumption) (gdT hp7) | exact gdAnd (by assumption) (gdF hp7))))) ?_
  refine AL_p rfl rfl (S_pcall rfl (AEvs.cons (AEv.tmp rfl) (AEvs.cons (AEv.const _) AEvs.nil)) (text_says_ok _ _)) ?_
  refine AL_p rfl rfl (S_assign rfl (AEv.tmp rfl)) ?_
  refine AL_nil ?_
  refine AC_ret ?_
  refine ret_tmp st rfl rfl (Sub.l (List.Sublist.refl _)) (Conv.refl (Sub.l (List.Sublist.refl _)) _) ⟨rfl, rfl⟩ (.inl rfl)

set_option maxRecDepth 100000 in
/-- provost/text.repo -/
theorem text_repo_ok (s : List UInt8) (hs : s.length ≤ 9223372036854775806) : GCalls Tryd.prog tabs 60 [.S s] (.bool (repoV s)) := by
  intro st hG
  refine ACalls_of (N := 10) Tryd.func60 (by kernel_rfl) rfl rfl rfl ?_
  refine AC_seq ?_
  refine AC_region ?_
  refine AL_p rfl rfl (S_assign rfl (AEv.const _)) ?_
  refine AL_nil ?_
  refine AC_seq ?_
  refine AC_region ?_
  refine AL_p rfl rfl (S_move rfl (AEv.tmp rfl)) ?_
  refine AL_p rfl rfl (S_lenS (ts := #[]) rfl (AEv.tmp rfl) (by kernel_rfl)) ?_
  refine AL_p rfl rfl (S_leq rfl (AEv.tmp rfl) (AEv.const _)) ?_
  refine AL_p rfl rfl (S_move rfl (AEv.tmp rfl)) ?_
  refine AL_g rfl rfl (AEv.tmp rfl) rfl (fun hg1 => S_move rfl (AEv.tmp rfl)) ?_
  refine AL_g rfl rfl (AEv.tmp rfl) rfl (fun hg4 => S_gcall rfl (AEvs.cons (AEv.cond (AEv.tmp rfl) (by first | assumption | exact gdAnd (by assumption) (by assumption))) (AEvs.cons (AEv.const _) AEvs.nil)) (text_names_ok s 24 (by decide) hs _ hG)) ?_
  refine AL_p rfl rfl (S_and rfl (AEv.tmp rfl) (fun hp7 => (AEv.cond (AEv.tmp rfl) (by first | assumption | exact gdT hp7 | exact gdF hp7 | exact gdAnd (by assumption) (gdT hp7) | exact gdAnd (by assumption) (gdF hp7))))) ?_
  refine AL_p rfl rfl (S_assign rfl (AEv.tmp rfl)) ?_
  refine AL_nil ?_
  refine AC_ret ?_
  refine ret_tmp st rfl rfl (Sub.l (List.Sublist.refl _)) (Conv.refl (Sub.l (List.Sublist.refl _)) _) ⟨rfl, rfl⟩ (.inl rfl)

set_option maxRecDepth 100000 in
/-- provost/text.tag -/
theorem text_tag_ok (s : List UInt8) (hs : s.length ≤ 9223372036854775806) : GCalls Tryd.prog tabs 61 [.S s] (.bool (tagV s)) := by
  intro st hG
  refine ACalls_of (N := 14) Tryd.func61 (by kernel_rfl) rfl rfl rfl ?_
  refine AC_seq ?_
  refine AC_region ?_
  refine AL_p rfl rfl (S_assign rfl (AEv.const _)) ?_
  refine AL_nil ?_
  refine AC_seq ?_
  refine AC_region ?_
  refine AL_p rfl rfl (S_move rfl (AEv.tmp rfl)) ?_
  refine AL_p rfl rfl (S_neS rfl (AEv.tmp rfl) (AEv.S _)) ?_
  refine AL_p rfl rfl (S_move rfl (AEv.tmp rfl)) ?_
  refine AL_g rfl rfl (AEv.tmp rfl) rfl (fun hg1 => S_move rfl (AEv.tmp rfl)) ?_
  refine AL_g rfl rfl (AEv.tmp rfl) rfl (fun hg4 => S_lenS (ts := #[]) rfl (AEv.cond (AEv.tmp rfl) (by first | assumption | exact gdAnd (by assumption) (by assumption))) (by kernel_rfl)) ?_
  refine AL_g rfl rfl (AEv.tmp rfl) rfl (fun hg7 => S_leq rfl (AEv.cond (AEv.tmp rfl) (by first | assumption | exact gdAnd (by assumption) (by assumption))) (AEv.const _)) ?_
  refine AL_p rfl rfl (S_and rfl (AEv.tmp rfl) (fun hp10 => (AEv.cond (AEv.tmp rfl) (by first | assumption | exact gdT hp10 | exact gdF hp10 | exact gdAnd (by assumption) (gdT hp10) | exact gdAnd (by assumption) (gdF hp10))))) ?_
  refine AL_p rfl rfl (S_move rfl (AEv.tmp rfl)) ?_
  refine AL_g rfl rfl (AEv.tmp rfl) rfl (fun hg11 => S_move rfl (AEv.tmp rfl)) ?_
  refine AL_g rfl rfl (AEv.tmp rfl) rfl (fun hg14 => S_gcall rfl (AEvs.cons (AEv.cond (AEv.tmp rfl) (by first | assumption | exact gdAnd (by assumption) (by assumption))) (AEvs.cons (AEv.const _) AEvs.nil)) ((text_all_ok _ _ (by first | exact .inl rfl | exact .inr (.inl rfl) | exact .inr (.inr rfl)) (by omega)) _ (fun p hp => by first | exact hG p hp | (simp [hG p hp]; done)))) ?_
  refine AL_p rfl rfl (S_and rfl (AEv.tmp rfl) (fun hp17 => (AEv.cond (AEv.tmp rfl) (by first | assumption | exact gdT hp17 | exact gdF hp17 | exact gdAnd (by assumption) (gdT hp17) | exact gdAnd (by assumption) (gdF hp17))))) ?_
  refine AL_p rfl rfl (S_assign rfl (AEv.tmp rfl)) ?_
  refine AL_nil ?_
  refine AC_ret ?_
  refine ret_tmp st rfl rfl (Sub.l (List.Sublist.refl _)) (Conv.refl (Sub.l (List.Sublist.refl _)) _) ⟨rfl, rfl⟩ (.inl rfl)

set_option maxRecDepth 100000 in
/-- provost/text.parts -/
theorem text_parts_ok (s : List UInt8) (hs : s.length ≤ 9223372036854775806) : GCalls Tryd.prog tabs 43 [.S s] (.tup [.S (tparts s).1, .S (tparts s).2.1, .bool (tparts s).2.2]) := by
  intro st hG
  refine ACalls_of (N := 28) Tryd.func43 (by kernel_rfl) rfl rfl rfl ?_
  have hcl := cutV_le 58 s
  have hcl2 := cutV_le2 58 s
  refine AC_seq ?_
  refine AC_region ?_
  refine AL_p rfl rfl (S_assign rfl (AEv.S _)) ?_
  refine AL_p rfl rfl (S_assign rfl (AEv.S _)) ?_
  refine AL_p rfl rfl (S_assign rfl (AEv.const _)) ?_
  refine AL_nil ?_
  refine AC_seq ?_
  refine AC_region ?_
  refine AL_p rfl rfl (S_move rfl (AEv.tmp rfl)) ?_
  refine AL_p rfl rfl (S_pcall rfl (AEvs.cons (AEv.tmp rfl) (AEvs.cons (AEv.S _) AEvs.nil)) (strings_Cut_ok s 58 hs)) ?_
  refine AL_p rfl rfl (S_move rfl (AEv.tmp rfl)) ?_
  refine AL_p rfl rfl (S_extract 0 rfl (AEv.tmp rfl) rfl) ?_
  refine AL_p rfl rfl (S_extract 1 rfl (AEv.tmp rfl) rfl) ?_
  refine AL_p rfl rfl (S_extract 2 rfl (AEv.tmp rfl) rfl) ?_
  refine AL_p rfl rfl (S_assign rfl (AEv.tmp rfl)) ?_
  refine AL_p rfl rfl (S_assign rfl (AEv.tmp rfl)) ?_
  refine AL_p rfl rfl (S_assign rfl (AEv.tmp rfl)) ?_
  refine AL_nil ?_
  refine AC_seq ?_
  refine AC_seq ?_
  refine AC_region ?_
  refine AL_p rfl rfl (S_move rfl (AEv.tmp rfl)) ?_
  refine AL_p rfl rfl (S_not rfl (AEv.tmp rfl)) ?_
  refine AL_p rfl rfl (S_move rfl (AEv.tmp rfl)) ?_
  refine AL_g rfl rfl (AEv.tmp rfl) rfl (fun hg1 => S_move rfl (AEv.tmp rfl)) ?_
  refine AL_g rfl rfl (AEv.tmp rfl) rfl (fun hg4 => S_gcall rfl (AEvs.cons (AEv.cond (AEv.tmp rfl) (by first | assumption | exact gdAnd (by assumption) (by assumption))) AEvs.nil) ((text_repo_ok _ (by omega)) _ (fun p hp => by first | exact hG p hp | (simp [hG p hp]; done)))) ?_
  refine AL_g rfl rfl (AEv.tmp rfl) rfl (fun hg7 => S_not rfl (AEv.cond (AEv.tmp rfl) (by first | assumption | exact gdAnd (by assumption) (by assumption)))) ?_
  refine AL_p rfl rfl (S_or rfl (AEv.tmp rfl) (fun hp10 => (AEv.cond (AEv.tmp rfl) (by first | assumption | exact gdT hp10 | exact gdF hp10 | exact gdAnd (by assumption) (gdT hp10) | exact gdAnd (by assumption) (gdF hp10))))) ?_
  refine AL_p rfl rfl (S_move rfl (AEv.tmp rfl)) ?_
  refine AL_g rfl rfl (AEv.tmp rfl) rfl (fun hg11 => S_move rfl (AEv.tmp rfl)) ?_
  refine AL_g rfl rfl (AEv.tmp rfl) rfl (fun hg14 => S_gcall rfl (AEvs.cons (AEv.cond (AEv.tmp rfl) (by first | assumption | exact gdAnd (by assumption) (by assumption))) AEvs.nil) ((text_tag_ok _ (by omega)) _ (fun p hp => by first | exact hG p hp | (simp [hG p hp]; done)))) ?_
  refine AL_g rfl rfl (AEv.tmp rfl) rfl (fun hg17 => S_not rfl (AEv.cond (AEv.tmp rfl) (by first | assumption | exact gdAnd (by assumption) (by assumption)))) ?_
  refine AL_p rfl rfl (S_or rfl (AEv.tmp rfl) (fun hp20 => (AEv.cond (AEv.tmp rfl) (by first | assumption | exact gdT hp20 | exact gdF hp20 | exact gdAnd (by assumption) (gdT hp20) | exact gdAnd (by assumption) (gdF hp20))))) ?_
  refine AL_nil ?_
  refine AC_cond (AEv.tmp rfl) (fun hb21 => ?_) (fun hb21 => ?_)
  · try simp only [Bool.and_eq_true, Bool.or_eq_true, Bool.not_eq_true', Bool.not_eq_false', Bool.and_eq_false_iff, Bool.or_eq_false_iff, decide_eq_true_eq, decide_eq_false_iff_not, gd] at hb21
    have ht := tparts_no (s := s) (fun h => by rw [h.1, h.2.1, h.2.2] at hb21; simp at hb21)
    refine AC_seq ?_
    refine AC_region ?_
    refine AL_p rfl rfl (S_assign rfl (AEv.S _)) ?_
    refine AL_p rfl rfl (S_assign rfl (AEv.S _)) ?_
    refine AL_p rfl rfl (S_assign rfl (AEv.const _)) ?_
    refine AL_nil ?_
    refine AC_ret ?_
    refine ret_tmps (ts := [2, 3, 4]) st rfl (by decide) rfl (Sub.l (List.Sublist.refl _)) (Conv.refl (Sub.l (List.Sublist.refl _)) _) ⟨(show AV.tup [.S [], .S [], .bool false] = _ from by rw [ht]), rfl⟩ (.inl rfl)
  · try simp only [Bool.and_eq_true, Bool.or_eq_true, Bool.not_eq_true', Bool.not_eq_false', Bool.and_eq_false_iff, Bool.or_eq_false_iff, decide_eq_true_eq, decide_eq_false_iff_not, gd] at hb21
    have hc3 : (cutV 58 s).2.2 = true ∧ repoV (cutV 58 s).1 = true ∧ tagV (cutV 58 s).2.1 = true := by
      cases h1 : (cutV 58 s).2.2 <;> cases h2 : repoV (cutV 58 s).1 <;> cases h3 : tagV (cutV 58 s).2.1 <;> simp_all
    have ht : tparts s = ((cutV 58 s).1, (cutV 58 s).2.1, true) := by rw [tparts, if_pos hc3]
    refine AC_skip ?_
    refine AC_seq ?_
    refine AC_region ?_
    refine AL_p rfl rfl (S_move rfl (AEv.tmp rfl)) ?_
    refine AL_p rfl rfl (S_move rfl (AEv.tmp rfl)) ?_
    refine AL_p rfl rfl (S_assign rfl (AEv.tmp rfl)) ?_
    refine AL_p rfl rfl (S_assign rfl (AEv.tmp rfl)) ?_
    refine AL_p rfl rfl (S_assign rfl (AEv.const _)) ?_
    refine AL_nil ?_
    refine AC_ret ?_
    refine ret_tmps (ts := [2, 3, 4]) st rfl (by decide) rfl (Sub.l (List.Sublist.refl _)) (Conv.refl (Sub.l (List.Sublist.refl _)) _) ⟨(show AV.tup [.S (cutV 58 s).1, .S (cutV 58 s).2.1, .bool true] = _ from by rw [ht]), rfl⟩ (.inl rfl)

set_option maxRecDepth 100000 in
/-- provost/text.Image -/
theorem text_Image_ok (s : List UInt8) (hs : s.length ≤ 9223372036854775806) : GCalls Tryd.prog tabs 48 [.S s] (.int .i64 (saysV (tparts s).2.2 33)) := by
  intro st hG
  refine ACalls_of (N := 14) Tryd.func48 (by kernel_rfl) rfl rfl rfl ?_
  refine AC_seq ?_
  refine AC_region ?_
  refine AL_p rfl rfl (S_assign rfl (AEv.const _)) ?_
  refine AL_nil ?_
  refine AC_seq ?_
  refine AC_region ?_
  refine AL_p rfl rfl (S_move rfl (AEv.tmp rfl)) ?_
  refine AL_p rfl rfl (S_gcall rfl (AEvs.cons (AEv.tmp rfl) AEvs.nil) ((text_parts_ok _ (by omega)) _ (fun p hp => by first | exact hG p hp | (simp [hG p hp]; done)))) ?_
  refine AL_p rfl rfl (S_move rfl (AEv.tmp rfl)) ?_
  refine AL_p rfl rfl (S_extract 0 rfl (AEv.tmp rfl) rfl) ?_
  refine AL_p rfl rfl (S_extract 1 rfl (AEv.tmp rfl) rfl) ?_
  refine AL_p rfl rfl (S_extract 2 rfl (AEv.tmp rfl) rfl) ?_
  refine AL_p rfl rfl (S_assign rfl (AEv.tmp rfl)) ?_
  refine AL_p rfl rfl (S_assign rfl (AEv.tmp rfl)) ?_
  refine AL_p rfl rfl (S_assign rfl (AEv.tmp rfl)) ?_
  refine AL_nil ?_
  refine AC_seq ?_
  refine AC_region ?_
  refine AL_p rfl rfl (S_move rfl (AEv.tmp rfl)) ?_
  refine AL_p rfl rfl (S_pcall rfl (AEvs.cons (AEv.tmp rfl) (AEvs.cons (AEv.const _) AEvs.nil)) (text_says_ok _ _)) ?_
  refine AL_p rfl rfl (S_assign rfl (AEv.tmp rfl)) ?_
  refine AL_nil ?_
  refine AC_ret ?_
  refine ret_tmp st rfl rfl (Sub.l (List.Sublist.refl _)) (Conv.refl (Sub.l (List.Sublist.refl _)) _) ⟨rfl, rfl⟩ (.inl rfl)

set_option maxRecDepth 100000 in
/-- provost/text.Same -/
theorem text_Same_ok (a b : List UInt8) (ha : a.length ≤ 9223372036854775806) (hb : b.length ≤ 9223372036854775806) : GCalls Tryd.prog tabs 27 [.S a, .S b] (.bool (sameV a b)) := by
  intro st hG
  refine ACalls_of (N := 32) Tryd.func27 (by kernel_rfl) rfl rfl rfl ?_
  refine AC_seq ?_
  refine AC_region ?_
  refine AL_p rfl rfl (S_assign rfl (AEv.const _)) ?_
  refine AL_nil ?_
  refine AC_seq ?_
  refine AC_region ?_
  refine AL_p rfl rfl (S_move rfl (AEv.tmp rfl)) ?_
  refine AL_p rfl rfl (S_gcall rfl (AEvs.cons (AEv.tmp rfl) AEvs.nil) ((text_parts_ok _ (by omega)) _ (fun p hp => by first | exact hG p hp | (simp [hG p hp]; done)))) ?_
  refine AL_p rfl rfl (S_move rfl (AEv.tmp rfl)) ?_
  refine AL_p rfl rfl (S_extract 0 rfl (AEv.tmp rfl) rfl) ?_
  refine AL_p rfl rfl (S_extract 1 rfl (AEv.tmp rfl) rfl) ?_
  refine AL_p rfl rfl (S_extract 2 rfl (AEv.tmp rfl) rfl) ?_
  refine AL_p rfl rfl (S_assign rfl (AEv.tmp rfl)) ?_
  refine AL_p rfl rfl (S_assign rfl (AEv.tmp rfl)) ?_
  refine AL_p rfl rfl (S_assign rfl (AEv.tmp rfl)) ?_
  refine AL_nil ?_
  refine AC_seq ?_
  refine AC_region ?_
  refine AL_p rfl rfl (S_move rfl (AEv.tmp rfl)) ?_
  refine AL_p rfl rfl (S_gcall rfl (AEvs.cons (AEv.tmp rfl) AEvs.nil) ((text_parts_ok _ (by omega)) _ (fun p hp => by first | exact hG p hp | (simp [hG p hp]; done)))) ?_
  refine AL_p rfl rfl (S_move rfl (AEv.tmp rfl)) ?_
  refine AL_p rfl rfl (S_extract 0 rfl (AEv.tmp rfl) rfl) ?_
  refine AL_p rfl rfl (S_extract 1 rfl (AEv.tmp rfl) rfl) ?_
  refine AL_p rfl rfl (S_extract 2 rfl (AEv.tmp rfl) rfl) ?_
  refine AL_p rfl rfl (S_assign rfl (AEv.tmp rfl)) ?_
  refine AL_p rfl rfl (S_assign rfl (AEv.tmp rfl)) ?_
  refine AL_p rfl rfl (S_assign rfl (AEv.tmp rfl)) ?_
  refine AL_nil ?_
  refine AC_seq ?_
  refine AC_region ?_
  refine AL_p rfl rfl (S_move rfl (AEv.tmp rfl)) ?_
  refine AL_p rfl rfl (S_move rfl (AEv.tmp rfl)) ?_
  refine AL_g rfl rfl (AEv.tmp rfl) rfl (fun hg1 => S_move rfl (AEv.tmp rfl)) ?_
  refine AL_p rfl rfl (S_and rfl (AEv.tmp rfl) (fun hp4 => (AEv.cond (AEv.tmp rfl) (by first | assumption | exact gdT hp4 | exact gdF hp4 | exact gdAnd (by assumption) (gdT hp4) | exact gdAnd (by assumption) (gdF hp4))))) ?_
  refine AL_p rfl rfl (S_move rfl (AEv.tmp rfl)) ?_
  refine AL_g rfl rfl (AEv.tmp rfl) rfl (fun hg5 => S_move rfl (AEv.tmp rfl)) ?_
  refine AL_g rfl rfl (AEv.tmp rfl) rfl (fun hg8 => S_move rfl (AEv.tmp rfl)) ?_
  refine AL_g rfl rfl (AEv.tmp rfl) rfl (fun hg11 => S_eqS rfl (AEv.cond (AEv.tmp rfl) (by first | assumption | exact gdAnd (by assumption) (by assumption))) (AEv.cond (AEv.tmp rfl) (by first | assumption | exact gdAnd (by assumption) (by assumption)))) ?_
  refine AL_p rfl rfl (S_and rfl (AEv.tmp rfl) (fun hp14 => (AEv.cond (AEv.tmp rfl) (by first | assumption | exact gdT hp14 | exact gdF hp14 | exact gdAnd (by assumption) (gdT hp14) | exact gdAnd (by assumption) (gdF hp14))))) ?_
  refine AL_p rfl rfl (S_assign rfl (AEv.tmp rfl)) ?_
  refine AL_nil ?_
  refine AC_ret ?_
  refine ret_tmp st rfl rfl (Sub.l (List.Sublist.refl _)) (Conv.refl (Sub.l (List.Sublist.refl _)) _) ⟨rfl, rfl⟩ (.inl rfl)

end Go.Proofs.YtfdcadnaginnpaaDoor

/-
The walks of Go functions in the logic AL: what each of them answers.
Conditions: those of each theorem.
-/
set_option linter.unusedVariables false
set_option linter.unusedSimpArgs false
namespace Go.Proofs.YtfdcadnaginnpaaDoor
open Go.AL Go.NumSpec

set_option maxRecDepth 100000 in
/-- (*provost/fail.step).Unwrap -/
theorem step_Unwrap_ok (p : List UInt8) (x : AV) : PCalls Tryd.prog 99 [.ip [.S p, x]] (x) := by
  intro st
  refine ACalls_of (N := 7) Tryd.func99 (by kernel_rfl) rfl rfl rfl ?_
  refine AC_seq ?_
  refine AC_region ?_
  refine AL_p rfl rfl (S_assign rfl (AEv.const _)) ?_
  refine AL_nil ?_
  refine AC_seq ?_
  refine AC_region ?_
  refine AL_p rfl rfl (S_move rfl (AEv.tmp rfl)) ?_
  refine AL_p rfl rfl (S_nilCheckP rfl (AEv.tmp rfl)) ?_
  refine AL_p rfl rfl (S_fieldP 1 rfl (AEv.tmp rfl) (by kernel_rfl)) ?_
  refine AL_p rfl rfl (S_loadP rfl (AEv.tmp rfl) rfl (by kernel_rfl)) ?_
  refine AL_p rfl rfl (S_assign rfl (AEv.tmp rfl)) ?_
  refine AL_nil ?_
  refine AC_ret ?_
  refine ret_tmp st rfl rfl (Sub.l (List.Sublist.refl _)) (Conv.refl (Sub.l (List.Sublist.refl _)) _) ⟨by first | rfl | (simp; done), rfl⟩ (.inl rfl)

set_option maxRecDepth 100000 in
/-- provost/fail.In -/
theorem fail_In_ok (e : Er) (p : List UInt8) : PCalls Tryd.prog 28 [erV 40 79 e, .S p] (erV 40 79 (erIn e p)) := by
  intro st
  refine ACalls_of (N := 12) Tryd.func28 (by kernel_rfl) rfl rfl rfl ?_
  refine AC_seq ?_
  refine AC_region ?_
  refine AL_p rfl rfl (S_assign rfl (AEv.const _)) ?_
  refine AL_nil ?_
  refine AC_seq ?_
  refine AC_seq ?_
  refine AC_region ?_
  refine AL_p rfl rfl (S_move rfl (AEv.tmp rfl)) ?_
  refine AL_p rfl rfl (S_eqlE (er_is 40 79 e) rfl (AEv.tmp rfl) (by kernel_rfl)) ?_
  refine AL_nil ?_
  refine AC_cond (AEv.tmp rfl) (fun hb1 => ?_) (fun hb1 => ?_)
  · try simp only [Bool.and_eq_true, Bool.or_eq_true, Bool.not_eq_true', Bool.not_eq_false', Bool.and_eq_false_iff, Bool.or_eq_false_iff, decide_eq_true_eq, decide_eq_false_iff_not, gd] at hb1
    obtain rfl : e = none := by cases e with | none => rfl | some x => simp at hb1
    refine AC_seq ?_
    refine AC_region ?_
    refine AL_p rfl rfl (S_assign rfl (AEv.const _)) ?_
    refine AL_nil ?_
    refine AC_ret ?_
    refine ret_tmp st rfl rfl (Sub.l (List.Sublist.refl _)) (Conv.refl (Sub.l (List.Sublist.refl _)) _) ⟨rfl, rfl⟩ (.inl rfl)
  · try simp only [Bool.and_eq_true, Bool.or_eq_true, Bool.not_eq_true', Bool.not_eq_false', Bool.and_eq_false_iff, Bool.or_eq_false_iff, decide_eq_true_eq, decide_eq_false_iff_not, gd] at hb1
    obtain ⟨⟨c, ps⟩, rfl⟩ : ∃ x, e = some x := by cases e with | none => simp at hb1 | some x => exact ⟨x, rfl⟩
    obtain ⟨T9, z, hz⟩ := chain_ifc 40 79 c ps
    have hR : erV 40 79 (erIn (some (c, ps)) p) = .ifc 79 (.ip [.S p, .ifc T9 z]) := by
      show AV.ifc 79 _ = _
      rw [hz]
    have he : erV 40 79 (some (c, ps)) = .ifc T9 z := hz
    rw [hR]
    simp only [he]
    refine AC_skip ?_
    refine AC_seq ?_
    refine AC_region ?_
    refine AL_p rfl rfl (S_move rfl (AEv.tmp rfl)) ?_
    refine AL_p rfl rfl (S_move rfl (AEv.tmp rfl)) ?_
    refine AL_p rfl rfl (S_build (t := 82) (pl := [(0, 1), (1, 1)]) (zs := [.string ⟨#[]⟩, .nilIface]) rfl (AEvs.cons (AEv.tmp rfl) (AEvs.cons (AEv.tmp rfl) AEvs.nil)) (by kernel_rfl) rfl) ?_
    refine AL_step rfl rfl (S_box rfl (AEv.tmp rfl)) ?_
    rintro _ _ ⟨b2, rfl, rfl⟩
    refine AL_p rfl rfl (S_ifc (T2 := 0) rfl (AEv.tmp rfl) (by kernel_rfl)) ?_
    refine AL_p rfl rfl (S_assign rfl (AEv.tmp rfl)) ?_
    refine AL_nil ?_
    refine AC_ret ?_
    refine ret_tmp st rfl rfl (Sub.l (List.Sublist.cons _ (List.Sublist.refl _))) (Conv.ifc (Conv.ipT (Sub.l (List.Sublist.cons _ (List.Sublist.refl _))) List.mem_cons_self (fun hn o ho => absurd (List.mem_map_of_mem (f := Prod.fst) ho) (by simp only [List.map_cons, List.nodup_cons] at hn; exact hn.1)))) ⟨rfl, rfl⟩ (.inl rfl)

set_option maxRecDepth 100000 in
/-- provost/fail.First -/
theorem fail_First_ok (es : List Er) (hes : es.length ≤ 9223372036854775807) : PCalls Tryd.prog 13 [.sl (ersV 40 79 es)] (erV 40 79 (firstE es)) := by
  intro st
  refine ACalls_of (N := 15) Tryd.func13 (by kernel_rfl) rfl rfl rfl ?_
  have hel : (ersV 40 79 es).length = es.length := by simp [ersV]
  refine AC_seq ?_
  refine AC_region ?_
  refine AL_p rfl rfl (S_assign rfl (AEv.const _)) ?_
  refine AL_nil ?_
  refine AC_seq ?_
  refine AC_seq ?_
  refine AC_region ?_
  refine AL_p rfl rfl (S_move rfl (AEv.tmp rfl)) ?_
  refine AL_p rfl rfl (S_len (e := 29) rfl (AEv.tmp rfl) (by kernel_rfl)) ?_
  refine AL_p rfl rfl (S_move rfl (AEv.const _)) ?_
  refine AL_nil ?_
  refine AC_block ?_
  refine AC_loop (G := Nat) (fun i => i ≤ es.length ∧ firstE es = firstE (es.drop i)) (fun i => [(5, .sl (ersV 40 79 es)), (6, .int .i64 ((ersV 40 79 es).length : Int)), (7, .int .i64 (i : Int))]) (fun i => st) (fun i => es.length - i) (0) (⟨by simp, rfl⟩) rfl ?_ ?_
  · exact .cons rfl (Le.refl _) (.cons rfl (Le.refl _) (.cons rfl (Le.refl _) .nil))
  · rintro i ⟨hi, hf⟩
    try dsimp only
    refine AC_seq ?_
    refine AC_region ?_
    refine AL_p rfl rfl (S_lss rfl (AEv.tmp rfl) (AEv.tmp rfl)) ?_
    refine AL_nil ?_
    refine AC_seq ?_
    refine AC_cond (AEv.tmp rfl) (fun hb1 => ?_) (fun hb1 => ?_)
    · try simp only [Bool.and_eq_true, Bool.or_eq_true, Bool.not_eq_true', Bool.not_eq_false', Bool.and_eq_false_iff, Bool.or_eq_false_iff, decide_eq_true_eq, decide_eq_false_iff_not, gd] at hb1
      have hil : i < es.length := by omega
      refine AC_skip ?_
      refine AC_seq ?_
      refine AC_block ?_
      refine AC_seq ?_
      refine AC_region ?_
      refine AL_p rfl rfl ((S_elem (e := 29) (c := erV 40 79 (es[i]'hil)) (i := (i : Int)) 1 rfl (AEv.tmp rfl) (AEv.tmp rfl) (by kernel_rfl) (by kernel_rfl) (by omega) (by simp [ersV, hil]) (by rw [er_cells]; rfl)).ofV (congrArg AV.ip (er_cells _ _ _))) ?_
      refine AL_p rfl rfl (S_loadP rfl (AEv.tmp rfl) rfl (by kernel_rfl)) ?_
      refine AL_p rfl rfl (S_assign rfl (AEv.tmp rfl)) ?_
      refine AL_nil ?_
      refine AC_seq ?_
      refine AC_region ?_
      refine AL_p rfl rfl (S_move rfl (AEv.tmp rfl)) ?_
      refine AL_p rfl rfl (S_neqE (er_is 40 79 (es[i]'hil)) rfl (AEv.tmp rfl) (by kernel_rfl)) ?_
      refine AL_nil ?_
      refine AC_cond (AEv.tmp rfl) (fun hb2 => ?_) (fun hb2 => ?_)
      · try simp only [Bool.and_eq_true, Bool.or_eq_true, Bool.not_eq_true', Bool.not_eq_false', Bool.and_eq_false_iff, Bool.or_eq_false_iff, decide_eq_true_eq, decide_eq_false_iff_not, gd] at hb2
        obtain ⟨x, hin⟩ : ∃ x, es[i]'hil = some x := by cases h : es[i]'hil with | none => rw [h] at hb2; simp at hb2 | some x => exact ⟨x, rfl⟩
        refine AC_seq ?_
        refine AC_region ?_
        refine AL_p rfl rfl (S_move rfl (AEv.tmp rfl)) ?_
        refine AL_p rfl rfl (S_assign rfl (AEv.tmp rfl)) ?_
        refine AL_nil ?_
        refine AC_ret ?_
        refine ret_tmp st rfl rfl (Sub.l (List.Sublist.refl _)) (Conv.refl (Sub.l (List.Sublist.refl _)) _) ⟨by rw [hf, first_some hil hin, hin], rfl⟩ (.inl rfl)
      · try simp only [Bool.and_eq_true, Bool.or_eq_true, Bool.not_eq_true', Bool.not_eq_false', Bool.and_eq_false_iff, Bool.or_eq_false_iff, decide_eq_true_eq, decide_eq_false_iff_not, gd] at hb2
        have hin : es[i]'hil = none := by cases h : es[i]'hil with | none => rfl | some x => rw [h] at hb2; simp at hb2
        refine AC_skip ?_
        refine AC_region ?_
        refine AL_p rfl rfl (S_addI rfl (AEv.tmp rfl) (AEv.const _) (by omega) (by omega)) ?_
        refine AL_p rfl rfl (S_move rfl (AEv.tmp rfl)) ?_
        refine AL_nil ?_
        refine ⟨i + 1, ⟨by omega, by rw [hf, first_none hil hin]⟩, by omega, rfl, .cons rfl (Le.refl _) (.cons rfl (Le.refl _) (.cons rfl (Le.of_eq (by rw [Int.natCast_add]; rfl)) .nil))⟩
    · try simp only [Bool.and_eq_true, Bool.or_eq_true, Bool.not_eq_true', Bool.not_eq_false', Bool.and_eq_false_iff, Bool.or_eq_false_iff, decide_eq_true_eq, decide_eq_false_iff_not, gd] at hb1
      have hi2 : es.drop i = [] := List.drop_of_length_le (by omega)
      refine AC_exit ?_
      refine AC_seq ?_
      refine AC_region ?_
      refine AL_p rfl rfl (S_assign rfl (AEv.const _)) ?_
      refine AL_nil ?_
      refine AC_ret ?_
      refine ret_tmp st rfl rfl (Sub.l (List.Sublist.refl _)) (Conv.refl (Sub.l (List.Sublist.refl _)) _) ⟨by rw [hf, hi2]; rfl, rfl⟩ (.inl rfl)

set_option maxRecDepth 100000 in
/-- provost/fail.New -/
theorem fail_New_ok (c : Int) (ps : List (List UInt8)) (hl : ps.length ≤ 9223372036854775807) : PCalls Tryd.prog 14 [.int .i64 c, .sl (strsV ps)] (erV 40 79 (erNew c ps)) := by
  intro st
  refine ACalls_of (N := 25) Tryd.func14 (by kernel_rfl) rfl rfl rfl ?_
  have hpl := strsV_len ps
  refine AC_seq ?_
  refine AC_region ?_
  refine AL_p rfl rfl (S_assign rfl (AEv.const _)) ?_
  refine AL_nil ?_
  refine AC_seq ?_
  refine AC_seq ?_
  refine AC_region ?_
  refine AL_p rfl rfl (S_move rfl (AEv.tmp rfl)) ?_
  refine AL_p rfl rfl (S_eql rfl (AEv.tmp rfl) (AEv.const _)) ?_
  refine AL_nil ?_
  refine AC_cond (AEv.tmp rfl) (fun hb1 => ?_) (fun hb1 => ?_)
  · try simp only [Bool.and_eq_true, Bool.or_eq_true, Bool.not_eq_true', Bool.not_eq_false', Bool.and_eq_false_iff, Bool.or_eq_false_iff, decide_eq_true_eq, decide_eq_false_iff_not, gd] at hb1
    have hc0 : c = 0 := by omega
    refine AC_seq ?_
    refine AC_region ?_
    refine AL_p rfl rfl (S_assign rfl (AEv.const _)) ?_
    refine AL_nil ?_
    refine AC_ret ?_
    refine ret_tmp st rfl rfl (Sub.l (List.Sublist.refl _)) (Conv.refl (Sub.l (List.Sublist.refl _)) _) ⟨by rw [erNew_none hc0]; rfl, rfl⟩ (.inl rfl)
  · try simp only [Bool.and_eq_true, Bool.or_eq_true, Bool.not_eq_true', Bool.not_eq_false', Bool.and_eq_false_iff, Bool.or_eq_false_iff, decide_eq_true_eq, decide_eq_false_iff_not, gd] at hb1
    have hc0 : c ≠ 0 := by omega
    refine AC_skip ?_
    refine AC_seq ?_
    refine AC_region ?_
    refine AL_p rfl rfl (S_move rfl (AEv.tmp rfl)) ?_
    refine AL_p rfl rfl (S_ifc (T2 := 0) rfl (AEv.tmp rfl) (by kernel_rfl)) ?_
    refine AL_p rfl rfl (S_assign rfl (AEv.tmp rfl)) ?_
    refine AL_nil ?_
    refine AC_seq ?_
    refine AC_seq ?_
    refine AC_region ?_
    refine AL_p rfl rfl (S_move rfl (AEv.tmp rfl)) ?_
    refine AL_p rfl rfl (S_len (e := 9) rfl (AEv.tmp rfl) (by kernel_rfl)) ?_
    refine AL_p rfl rfl (S_subI rfl (AEv.tmp rfl) (AEv.const _) (by omega) (by omega)) ?_
    refine AL_p rfl rfl (S_assign rfl (AEv.tmp rfl)) ?_
    refine AL_nil ?_
    refine AC_block ?_
    refine AC_loop (G := Nat) (fun n => n ≤ ps.length) (fun n => [(1, .sl (strsV ps)), (5, erV 40 79 (some (c, ps.drop n))), (6, .int .i64 ((n : Int) - 1))]) (fun n => st) (fun n => n) (ps.length) (Nat.le_refl _) rfl ?_ ?_
    · exact .cons rfl (Le.refl _) (.cons rfl (Le.of_eq (by rw [List.drop_length]; rfl)) (.cons rfl (Le.of_eq (by rw [hpl])) .nil))
    · rintro n hn
      try dsimp only
      refine AC_seq ?_
      refine AC_seq ?_
      refine AC_region ?_
      refine AL_p rfl rfl (S_move rfl (AEv.tmp rfl)) ?_
      refine AL_p rfl rfl (S_geq rfl (AEv.tmp rfl) (AEv.const _)) ?_
      refine AL_nil ?_
      refine AC_cond (AEv.tmp rfl) (fun hb2 => ?_) (fun hb2 => ?_)
      · try simp only [Bool.and_eq_true, Bool.or_eq_true, Bool.not_eq_true', Bool.not_eq_false', Bool.and_eq_false_iff, Bool.or_eq_false_iff, decide_eq_true_eq, decide_eq_false_iff_not, gd] at hb2
        obtain ⟨k, rfl⟩ : ∃ k, n = k + 1 := ⟨n - 1, by omega⟩
        have hil : k < ps.length := by omega
        refine AC_skip ?_
        refine AC_seq ?_
        refine AC_block ?_
        refine AC_region ?_
        refine AL_p rfl rfl (S_move rfl (AEv.tmp rfl)) ?_
        refine AL_p rfl rfl (S_move rfl (AEv.tmp rfl)) ?_
        refine AL_p rfl rfl (S_move rfl (AEv.tmp rfl)) ?_
        refine AL_p rfl rfl (S_elem (e := 9) (c := .S (ps[k]'hil)) (i := ((k + 1 : Nat) : Int) - 1) 1 rfl (AEv.tmp rfl) (AEv.tmp rfl) (by kernel_rfl) (by kernel_rfl) (by omega) (by simp [strsV, hil]) rfl) ?_
        refine AL_p rfl rfl (S_loadP rfl (AEv.tmp rfl) rfl (by kernel_rfl)) ?_
        refine AL_p rfl rfl (S_pcall rfl (AEvs.cons (AEv.tmp rfl) (AEvs.cons (AEv.tmp rfl) AEvs.nil)) (fail_In_ok (some (c, ps.drop (k + 1))) (ps[k]'hil))) ?_
        refine AL_p rfl rfl (S_assign rfl (AEv.tmp rfl)) ?_
        refine AL_nil ?_
        refine AC_region ?_
        refine AL_p rfl rfl (S_move rfl (AEv.tmp rfl)) ?_
        refine AL_p rfl rfl (S_subI rfl (AEv.tmp rfl) (AEv.const _) (by omega) (by omega)) ?_
        refine AL_p rfl rfl (S_assign rfl (AEv.tmp rfl)) ?_
        refine AL_nil ?_
        refine ⟨k, by omega, by omega, rfl, .cons rfl (Le.refl _) (.cons rfl (Le.of_eq (by rw [List.drop_eq_getElem_cons hil]; rfl)) (.cons rfl (Le.of_eq (by rw [show ((k + 1 : Nat) : Int) - 1 - 1 = (k : Int) - 1 by omega])) .nil))⟩
      · try simp only [Bool.and_eq_true, Bool.or_eq_true, Bool.not_eq_true', Bool.not_eq_false', Bool.and_eq_false_iff, Bool.or_eq_false_iff, decide_eq_true_eq, decide_eq_false_iff_not, gd] at hb2
        obtain rfl : n = 0 := by omega
        refine AC_exit ?_
        refine AC_seq ?_
        refine AC_region ?_
        refine AL_p rfl rfl (S_move rfl (AEv.tmp rfl)) ?_
        refine AL_p rfl rfl (S_assign rfl (AEv.tmp rfl)) ?_
        refine AL_nil ?_
        refine AC_ret ?_
        refine ret_tmp st rfl rfl (Sub.l (List.Sublist.refl _)) (Conv.refl (Sub.l (List.Sublist.refl _)) _) ⟨by rw [erNew_some hc0]; rfl, rfl⟩ (.inl rfl)

end Go.Proofs.YtfdcadnaginnpaaDoor

/- The kit's shelf at this seat (lay-shelf, lay-plain), up to strings.Join. -/
namespace Go.Proofs
open Go.Shelf
def Tryd.lays169_ren : Go.Shelf.Ren := ⟨fun | 169 => 35 | n => n, fun | 70 => 71 | 9 => 9 | 0 => 0 | 72 => 74 | 37 => 72 | 127 => 105 | 3 => 3 | 5 => 5 | n => n, fun | n => n⟩
theorem Tryd.lays169 : Go.Proofs.Lays.n169 Tryd.prog Tryd.lays169_ren := {
  mixed := by kernel_rfl
  f169 := Tryd.func35.trans (congrArg some (by kernel_rfl))
  t0 := Tryd.underlying0
  a0 := Tryd.isAgg0
  z0 := Tryd.sizeOf0
  v0 := Tryd.zeroValue0
  t3 := Tryd.underlying3
  a3 := Tryd.isAgg3
  z3 := Tryd.sizeOf3
  v3 := Tryd.zeroValue3
  t9 := Tryd.underlying9
  a9 := Tryd.isAgg9
  z9 := Tryd.sizeOf9
  v9 := Tryd.zeroValue9
  t37 := Tryd.underlying72
  a37 := Tryd.isAgg72
  z37 := Tryd.sizeOf72
  v37 := Tryd.zeroValue72
  t70 := Tryd.underlying71
  a70 := Tryd.isAgg71
  z70 := Tryd.sizeOf71
  v70 := Tryd.zeroValue71
  t72 := Tryd.underlying74
  a72 := Tryd.isAgg74
  z72 := Tryd.sizeOf74
  v72 := Tryd.zeroValue74
  t127 := Tryd.underlying105
  a127 := Tryd.isAgg105
  z127 := Tryd.sizeOf105
  v127 := Tryd.zeroValue105 }
theorem Tryd.Builder_Extra_169 : Builder.Extra Tryd.prog Tryd.lays169_ren := {
  sizeBuilder := by kernel_rfl
  liesBuilder := by kernel_rfl
  t5 := Tryd.underlying5
  a5 := Tryd.isAgg5
  z5 := Tryd.sizeOf5
  v5 := Tryd.zeroValue5
  infoByte := by kernel_rfl
  cellsByte := by kernel_rfl
  sizeByte := by kernel_rfl
  neB5 := by decide }
open Go.RowKit in
/-- (*strings.Builder).String: "String returns the accumulated string.": OF A BUILDER THAT HOLDS AT LEAST ONE BYTE. ✋ THE MODEL FREEZES THOSE BYTES IN THE BUFFER (unsafe.String): a later write INTO them ends the model's run without an answer; a later append BEHIND them goes on. The statement's order of evaluation is drawn: one draw. (LAID: no walk: one application.) -/
theorem Tryd.Builder_String (B b : Nat) (l : List UInt8) (w : World) (h : Lib.IsBuilder 74 5 B b (Lib.byteCells l) w) (h0 : l ≠ []) :
    Calls Tryd.prog 35 #[.pointer (some ⟨b, 0, none⟩)] w fun e w' => e = .returned (.string ⟨l.toArray⟩) ∧ Below B w w' := Any.Builder_String Tryd.lays169 Tryd.Builder_Extra_169 B b l w h h0
open Go.RowKit in
/-- (*strings.Builder).String OF A BUILDER THAT HOLDS NO BYTE: the empty string. (Its buffer is nil, or a row of which it has taken nothing yet; where that row has NO capacity the model lays one new block for unsafe.SliceData's 'some address'.) One draw. (LAID: no walk: one application.) -/
theorem Tryd.Builder_String_empty (B b : Nat) (w : World) (h : Lib.IsBuilder 74 5 B b [] w) (hBw : B ≤ w.heap.size) :
    Calls Tryd.prog 35 #[.pointer (some ⟨b, 0, none⟩)] w fun e w' => e = .returned (.string ⟨#[]⟩) ∧ Below B w w' := Any.Builder_String_empty Tryd.lays169 Tryd.Builder_Extra_169 B b w h hBw
open Go.RowKit in
/-- (*strings.Builder).String: "String returns the accumulated string.": WHATEVER THE BUILDER HOLDS. (LAID: no walk: one application.) -/
theorem Tryd.Builder_String_any (B b : Nat) (l : List UInt8) (w : World) (h : Lib.IsBuilder 74 5 B b (Lib.byteCells l) w) (hBw : B ≤ w.heap.size) :
    Calls Tryd.prog 35 #[.pointer (some ⟨b, 0, none⟩)] w fun e w' => e = .returned (.string ⟨l.toArray⟩) ∧ Below B w w' := Any.Builder_String_any Tryd.lays169 Tryd.Builder_Extra_169 B b l w h hBw
def Tryd.lays241_ren : Go.Shelf.Ren := ⟨fun | 241 => 54 | 277 => 68 | n => n, fun | 70 => 71 | 3 => 3 | 0 => 0 | 72 => 74 | 37 => 72 | 5 => 5 | n => n, fun | n => n⟩
theorem Tryd.lays241 : Go.Proofs.Lays.n241 Tryd.prog Tryd.lays241_ren := {
  mixed := by kernel_rfl
  f241 := Tryd.func54.trans (congrArg some (by kernel_rfl))
  f277 := Tryd.func68.trans (congrArg some (by kernel_rfl))
  t0 := Tryd.underlying0
  a0 := Tryd.isAgg0
  z0 := Tryd.sizeOf0
  v0 := Tryd.zeroValue0
  t3 := Tryd.underlying3
  a3 := Tryd.isAgg3
  z3 := Tryd.sizeOf3
  v3 := Tryd.zeroValue3
  t37 := Tryd.underlying72
  a37 := Tryd.isAgg72
  z37 := Tryd.sizeOf72
  v37 := Tryd.zeroValue72
  t70 := Tryd.underlying71
  a70 := Tryd.isAgg71
  z70 := Tryd.sizeOf71
  v70 := Tryd.zeroValue71
  t72 := Tryd.underlying74
  a72 := Tryd.isAgg74
  z72 := Tryd.sizeOf74
  v72 := Tryd.zeroValue74 }
theorem Tryd.Builder_Extra_241 : Builder.Extra Tryd.prog Tryd.lays241_ren := {
  sizeBuilder := by kernel_rfl
  liesBuilder := by kernel_rfl
  t5 := Tryd.underlying5
  a5 := Tryd.isAgg5
  z5 := Tryd.sizeOf5
  v5 := Tryd.zeroValue5
  infoByte := by kernel_rfl
  cellsByte := by kernel_rfl
  sizeByte := by kernel_rfl
  neB5 := by decide }
open Go.RowKit in
/-- (*strings.Builder).grow (no doc but "grow copies the buffer to a new, larger buffer so that there are at least n bytes of capacity beyond len(b.buf)."): AT A BUILDER WITHOUT A BUFFER: a new row of whatever bytes for its buffer, none of them its own yet. Three draws. (LAID: no walk: one application.) -/
theorem Tryd.Builder_grow_fresh (B b n : Nat) (w : World) (hB : B ≤ b) (hbk : w.heap[b]? = some (.cells #[.pointer (some ⟨b, 0, none⟩), .slice none 0 0] 74 (0, 0))) (hBw : B ≤ w.heap.size) (hn : n ≤ 281474976710656) :
    Calls Tryd.prog 54 #[.pointer (some ⟨b, 0, none⟩), .int .i64 n] w fun e w' => e = .returned (.tuple #[]) ∧ (Lib.BuilderAt 74 5 B b (.pointer (some ⟨b, 0, none⟩)) [] w' ∧ Below B w w') := Any.Builder_grow_fresh Tryd.lays241 Tryd.Builder_Extra_241 B b n w hB hbk hBw hn
def Tryd.lays165_ren : Go.Shelf.Ren := ⟨fun | 165 => 33 | 240 => 53 | 241 => 54 | 276 => 67 | 277 => 68 | n => n, fun | 70 => 71 | 3 => 3 | 0 => 0 | 4 => 4 | 9 => 9 | 20 => 20 | 72 => 74 | 37 => 72 | 164 => 83 | 5 => 5 | n => n, fun | n => n⟩
theorem Tryd.lays165 : Go.Proofs.Lays.n165 Tryd.prog Tryd.lays165_ren := {
  mixed := by kernel_rfl
  f165 := Tryd.func33.trans (congrArg some (by kernel_rfl))
  f240 := Tryd.func53.trans (congrArg some (by kernel_rfl))
  f241 := Tryd.func54.trans (congrArg some (by kernel_rfl))
  f276 := Tryd.func67.trans (congrArg some (by kernel_rfl))
  f277 := Tryd.func68.trans (congrArg some (by kernel_rfl))
  t0 := Tryd.underlying0
  a0 := Tryd.isAgg0
  z0 := Tryd.sizeOf0
  v0 := Tryd.zeroValue0
  t3 := Tryd.underlying3
  a3 := Tryd.isAgg3
  z3 := Tryd.sizeOf3
  v3 := Tryd.zeroValue3
  t4 := Tryd.underlying4
  a4 := Tryd.isAgg4
  z4 := Tryd.sizeOf4
  v4 := Tryd.zeroValue4
  t9 := Tryd.underlying9
  a9 := Tryd.isAgg9
  z9 := Tryd.sizeOf9
  v9 := Tryd.zeroValue9
  t20 := Tryd.underlying20
  a20 := Tryd.isAgg20
  z20 := Tryd.sizeOf20
  v20 := Tryd.zeroValue20
  t37 := Tryd.underlying72
  a37 := Tryd.isAgg72
  z37 := Tryd.sizeOf72
  v37 := Tryd.zeroValue72
  t70 := Tryd.underlying71
  a70 := Tryd.isAgg71
  z70 := Tryd.sizeOf71
  v70 := Tryd.zeroValue71
  t72 := Tryd.underlying74
  a72 := Tryd.isAgg74
  z72 := Tryd.sizeOf74
  v72 := Tryd.zeroValue74
  t164 := Tryd.underlying83
  a164 := Tryd.isAgg83
  z164 := Tryd.sizeOf83
  v164 := Tryd.zeroValue83 }
theorem Tryd.Builder_Extra_165 : Builder.Extra Tryd.prog Tryd.lays165_ren := {
  sizeBuilder := by kernel_rfl
  liesBuilder := by kernel_rfl
  t5 := Tryd.underlying5
  a5 := Tryd.isAgg5
  z5 := Tryd.sizeOf5
  v5 := Tryd.zeroValue5
  infoByte := by kernel_rfl
  cellsByte := by kernel_rfl
  sizeByte := by kernel_rfl
  neB5 := by decide }
open Go.RowKit in
/-- (*strings.Builder).Grow AT A BUILDER THAT HAS NOT BEEN WRITTEN ('var b strings.Builder; b.Grow(n)'): "Grow grows b's capacity, if necessary, to guarantee space for another n bytes.": it holds no byte behind it as before it. (LAID: no walk: one application.) -/
theorem Tryd.Builder_Grow_fresh (B b n : Nat) (w : World) (hB : B ≤ b) (hbk : w.heap[b]? = some (.cells #[.pointer none, .slice none 0 0] 74 (0, 0))) (hBw : B ≤ w.heap.size) (hn : n ≤ 281474976710656) :
    Calls Tryd.prog 33 #[.pointer (some ⟨b, 0, none⟩), .int .i64 n] w fun e w' => e = .returned (.tuple #[]) ∧ (Lib.BuilderAt 74 5 B b (.pointer (some ⟨b, 0, none⟩)) [] w' ∧ Below B w w') := Any.Builder_Grow_fresh Tryd.lays165 Tryd.Builder_Extra_165 B b n w hB hbk hBw hn
def Tryd.lays156_ren : Go.Shelf.Ren := ⟨fun | 156 => 20 | 165 => 33 | 166 => 34 | 169 => 35 | 240 => 53 | 241 => 54 | 276 => 67 | 277 => 68 | n => n, fun | 31 => 53 | 9 => 9 | 3 => 3 | 4 => 4 | 0 => 0 | 20 => 20 | 72 => 74 | 76 => 76 | 70 => 71 | 37 => 72 | 75 => 29 | 127 => 105 | 164 => 83 | 5 => 5 | 80 => 78 | n => n, fun | n => n⟩
theorem Tryd.lays156 : Go.Proofs.Lays.n156 Tryd.prog Tryd.lays156_ren := {
  mixed := by kernel_rfl
  f156 := Tryd.func20.trans (congrArg some (by kernel_rfl))
  f165 := Tryd.func33.trans (congrArg some (by kernel_rfl))
  f166 := Tryd.func34.trans (congrArg some (by kernel_rfl))
  f169 := Tryd.func35.trans (congrArg some (by kernel_rfl))
  f240 := Tryd.func53.trans (congrArg some (by kernel_rfl))
  f241 := Tryd.func54.trans (congrArg some (by kernel_rfl))
  f276 := Tryd.func67.trans (congrArg some (by kernel_rfl))
  f277 := Tryd.func68.trans (congrArg some (by kernel_rfl))
  t0 := Tryd.underlying0
  a0 := Tryd.isAgg0
  z0 := Tryd.sizeOf0
  v0 := Tryd.zeroValue0
  t3 := Tryd.underlying3
  a3 := Tryd.isAgg3
  z3 := Tryd.sizeOf3
  v3 := Tryd.zeroValue3
  t4 := Tryd.underlying4
  a4 := Tryd.isAgg4
  z4 := Tryd.sizeOf4
  v4 := Tryd.zeroValue4
  t9 := Tryd.underlying9
  a9 := Tryd.isAgg9
  z9 := Tryd.sizeOf9
  v9 := Tryd.zeroValue9
  t20 := Tryd.underlying20
  a20 := Tryd.isAgg20
  z20 := Tryd.sizeOf20
  v20 := Tryd.zeroValue20
  t31 := Tryd.underlying53
  a31 := Tryd.isAgg53
  z31 := Tryd.sizeOf53
  v31 := Tryd.zeroValue53
  t37 := Tryd.underlying72
  a37 := Tryd.isAgg72
  z37 := Tryd.sizeOf72
  v37 := Tryd.zeroValue72
  t70 := Tryd.underlying71
  a70 := Tryd.isAgg71
  z70 := Tryd.sizeOf71
  v70 := Tryd.zeroValue71
  t72 := Tryd.underlying74
  a72 := Tryd.isAgg74
  z72 := Tryd.sizeOf74
  v72 := Tryd.zeroValue74
  t75 := Tryd.underlying29
  a75 := Tryd.isAgg29
  z75 := Tryd.sizeOf29
  v75 := Tryd.zeroValue29
  t76 := Tryd.underlying76
  a76 := Tryd.isAgg76
  z76 := Tryd.sizeOf76
  v76 := Tryd.zeroValue76
  t127 := Tryd.underlying105
  a127 := Tryd.isAgg105
  z127 := Tryd.sizeOf105
  v127 := Tryd.zeroValue105
  t164 := Tryd.underlying83
  a164 := Tryd.isAgg83
  z164 := Tryd.sizeOf83
  v164 := Tryd.zeroValue83 }
theorem Tryd.Builder_Extra_156 : Builder.Extra Tryd.prog Tryd.lays156_ren := {
  sizeBuilder := by kernel_rfl
  liesBuilder := by kernel_rfl
  t5 := Tryd.underlying5
  a5 := Tryd.isAgg5
  z5 := Tryd.sizeOf5
  v5 := Tryd.zeroValue5
  infoByte := by kernel_rfl
  cellsByte := by kernel_rfl
  sizeByte := by kernel_rfl
  neB5 := by decide }
open Go.RowKit in
/-- No element: the empty string; the world is as it was. (Whatever the slice's address and capacity: a nil slice too.) (LAID: no walk: one application.) -/
theorem Tryd.strings_Join_none (a : Option Addr) (c : Nat) (sep : ByteArray) (w : World) :
    Calls Tryd.prog 20 #[.slice a 0 c, .string sep] w fun e w' => e = .returned (.string ⟨#[]⟩) ∧ w' = w := Any.strings_Join_none Tryd.lays156 Tryd.Builder_Extra_156 a c sep w
open Go.RowKit in
/-- strings.Join: "Join concatenates the elements of its first argument to create a single string. The separator string sep is placed between elements in the resulting string.": HOWEVER MANY ELEMENTS. Below the heap's end the world is as it was. (LAID: no walk: one application.) -/
theorem Tryd.strings_Join (bk o c : Nat) (xs : List ByteArray) (sep : ByteArray) (w : World) (hcells : ∀ (j : Nat) x, xs[j]? = some x → w.cell? ⟨bk, o + j, none⟩ = some (.string x)) (hbk : bk < w.heap.size) (hN : xs.length ≤ 140737488355328) (hcap : xs.length ≤ c) (hlen : (Lib.join (xs.map (·.data.toList)) sep.data.toList).length ≤ 140737488355328) :
    Calls Tryd.prog 20 #[.slice (some ⟨bk, o, none⟩) xs.length c, .string sep] w fun e w' => e = .returned (.string ⟨(Lib.join (xs.map (·.data.toList)) sep.data.toList).toArray⟩) ∧ Below w.heap.size w w' := Any.strings_Join Tryd.lays156 Tryd.Builder_Extra_156 bk o c xs sep w hcells hbk hN hcap hlen
end Go.Proofs

/-
The walks of Go functions in the logic AL: what each of them answers.
Conditions: those of each theorem.
-/
set_option linter.unusedVariables false
set_option linter.unusedSimpArgs false
namespace Go.Proofs.YtfdcadnaginnpaaDoor
open Go.AL Go.NumSpec

set_option maxRecDepth 100000 in
set_option maxHeartbeats 4000000 in
/-- errors.as -/
theorem errors_as_code (c : Int) (ps : List (List UInt8)) (a b : Nat) (Y : AV) (F : St) : ACalls Tryd.prog 39 [chainV 40 79 c ps, .ifc 60 (.ptr b 0), rvAV (hv 60) a (.int .u64 150), .lit (ty 40)] ([(a, Ob.cells [.ptr b 0]), (b, Ob.cells [Y])] ++ F) (fun x st' => ∃ foot', (x = .bool true ∧ foot' = [(a, Ob.cells [.ptr b 0]), (b, Ob.cells [.int .i64 c])]) ∧ st' = foot' ++ F) := by
  refine ACalls_of (N := 62) Tryd.func39 (by kernel_rfl) rfl rfl rfl ?_
  refine AC_seq ?_
  refine AC_region ?_
  refine AL_step rfl rfl (S_box rfl (AEv.tmp rfl)) ?_
  rintro _ _ ⟨b1, rfl, rfl⟩
  refine AL_p rfl rfl (S_assign rfl (AEv.const _)) ?_
  refine AL_nil ?_
  refine AC_block ?_
  refine AC_loop (G := List (List UInt8)) (fun g => True) (fun g => [(0, chainV 40 79 c g), (1, .ifc 60 (.ptr b 0)), (3, .lit (ty 40)), (6, .ptr b1 0)]) (fun g => ((b1, .cells [.lit (hv 60), .ptr a 0, .lit (.int .u64 150)]) :: ([(a, Ob.cells [.ptr b 0]), (b, Ob.cells [Y])] ++ F))) (fun g => g.length) (ps) (trivial) rfl ?_ ?_
  · exact (.cons rfl (Le.refl _) (.cons rfl (Le.refl _) (.cons rfl (Le.refl _) (.cons rfl (Le.refl _) .nil))))
  · rintro g _
    try dsimp only
    refine AC_block ?_
    refine AC_seq ?_
    refine AC_seq ?_
    refine AC_region ?_
    refine AL_p rfl rfl (S_move rfl (AEv.tmp rfl)) ?_
    refine AL_p rfl rfl ((show PStep _ _ _ _ _ (.lit (ty (typV 40 79 g))) from by cases g with | nil => exact S_typeOf rfl (AEv.tmp rfl) x30 t27 | cons p0 ps0 => exact S_typeOf rfl (AEv.tmp rfl) x30 t49)) ?_
    refine AL_p rfl rfl (S_move rfl (AEv.tmp rfl)) ?_
    refine AL_p rfl rfl ((show PStep _ _ _ _ _ (.bool g.isEmpty) from by cases g with | nil => exact (by simp only [typV]; exact S_invL (ys := [.tmp 18]) (vals := [ty 40]) rfl (AEv.tmp rfl) (AEvs.cons (AEv.tmp rfl) AEvs.nil) (mAssign 40) x63 a2727) | cons p0 ps0 => exact (by simp only [typV]; exact S_invL (ys := [.tmp 18]) (vals := [ty 40]) rfl (AEv.tmp rfl) (AEvs.cons (AEv.tmp rfl) AEvs.nil) (mAssign 79) x63 a4927))) ?_
    refine AL_nil ?_
    refine AC_cond (AEv.tmp rfl) (fun hb2 => ?_) (fun hb2 => ?_)
    · try simp only [Bool.and_eq_true, Bool.or_eq_true, Bool.not_eq_true', Bool.not_eq_false', Bool.and_eq_false_iff, Bool.or_eq_false_iff, decide_eq_true_eq, decide_eq_false_iff_not, gd] at hb2
      obtain rfl : g = [] := by cases g with | nil => rfl | cons p1 ps1 => simp at hb2
      refine AC_seq ?_
      refine AC_region ?_
      refine AL_p rfl rfl (S_loadN (m := 3) 0 rfl (AEv.tmp rfl) rfl (by kernel_rfl) (by first | exact Nat.le_of_ble_eq_true rfl | (simp; omega) | simp)) ?_
      refine AL_p rfl rfl (S_elemV rfl (AEv.tmp rfl) (List.mem_cons_of_mem _ List.mem_cons_self) x32 (l48 a b)) ?_
      refine AL_p rfl rfl (S_move rfl (AEv.tmp rfl)) ?_
      refine AL_step rfl rfl (S_valueOf rfl (AEv.tmp rfl) x23 (fun w u hu => by rw [hu.lit_inv]; exact v27 c w)) ?_
      rintro _ _ ⟨d, rfl, rfl⟩
      refine AL_step rfl rfl (S_setV (n := 3) rfl (AEv.tmp rfl) (AEv.tmp rfl) rfl List.mem_cons_self x33 (fun w u old hu h1 h2 h3 => by rw [hu.lit_inv] at h1 ⊢; exact s27 b d _ old w (by simp [Value.cells]) rfl h1 h2 h3)) ?_
      rintro _ _ ⟨rfl, rfl⟩
      refine AL_nil ?_
      refine AC_seq ?_
      refine AC_region ?_
      refine AL_p rfl rfl (S_assign rfl (AEv.const _)) ?_
      refine AL_nil ?_
      refine AC_ret ?_
      refine ret_tmp ([(a, Ob.cells [.ptr b 0]), (b, Ob.cells [.int .i64 c])] ++ F) rfl rfl (Sub.l (List.Sublist.cons _ (List.Sublist.cons _ (List.Sublist.refl _)))) (Conv.refl (Sub.l (List.Sublist.cons _ (List.Sublist.cons _ (List.Sublist.refl _)))) _) ⟨_, ⟨rfl, rfl⟩, rfl⟩ (.inl rfl)
    · try simp only [Bool.and_eq_true, Bool.or_eq_true, Bool.not_eq_true', Bool.not_eq_false', Bool.and_eq_false_iff, Bool.or_eq_false_iff, decide_eq_true_eq, decide_eq_false_iff_not, gd] at hb2
      obtain ⟨p1, ps1, rfl⟩ : ∃ p1 ps1, g = p1 :: ps1 := by cases g with | nil => simp at hb2 | cons p1 ps1 => exact ⟨p1, ps1, rfl⟩
      refine AC_skip ?_
      refine AC_seq ?_
      refine AC_seq ?_
      refine AC_region ?_
      refine AL_p rfl rfl (S_move rfl (AEv.tmp rfl)) ?_
      refine AL_p rfl rfl (S_assertNo (X := 0) rfl (AEv.tmp rfl) Tryd.underlying112 (by kernel_rfl) (by kernel_rfl)) ?_
      refine AL_p rfl rfl (S_move rfl (AEv.tmp rfl)) ?_
      refine AL_p rfl rfl (S_extract 0 rfl (AEv.tmp rfl) rfl) ?_
      refine AL_p rfl rfl (S_extract 1 rfl (AEv.tmp rfl) rfl) ?_
      refine AL_p rfl rfl (S_assign rfl (AEv.tmp rfl)) ?_
      refine AL_p rfl rfl (S_assign rfl (AEv.tmp rfl)) ?_
      refine AL_nil ?_
      refine AC_seq ?_
      refine AC_region ?_
      refine AL_p rfl rfl (S_move rfl (AEv.tmp rfl)) ?_
      refine AL_p rfl rfl (S_move rfl (AEv.tmp rfl)) ?_
      refine AL_g rfl rfl (AEv.tmp rfl) rfl (fun hg3 => S_move rfl (AEv.tmp rfl)) ?_
      refine AL_g rfl rfl (AEv.tmp rfl) rfl (fun hg6 => S_move rfl (AEv.tmp rfl)) ?_
      refine AL_g rfl rfl (AEv.tmp rfl) rfl (fun hg9 => (show PStep _ _ _ _ _ (.bool false) from absurd (show gd false true = true by assumption) (by decide))) ?_
      refine AL_p rfl rfl (S_and rfl (AEv.tmp rfl) (fun hp12 => (AEv.cond (AEv.tmp rfl) (by first | assumption | exact gdT hp12 | exact gdF hp12 | exact gdAnd (by assumption) (gdT hp12) | exact gdAnd (by assumption) (gdF hp12))))) ?_
      refine AL_nil ?_
      refine AC_cond (AEv.tmp rfl) (fun hb13 => ?_) (fun hb13 => ?_)
      · simp at hb13; done
      · try simp only [Bool.and_eq_true, Bool.or_eq_true, Bool.not_eq_true', Bool.not_eq_false', Bool.and_eq_false_iff, Bool.or_eq_false_iff, decide_eq_true_eq, decide_eq_false_iff_not, gd] at hb13
        refine AC_skip ?_
        refine AC_seq ?_
        refine AC_region ?_
        refine AL_p rfl rfl (S_move rfl (AEv.tmp rfl)) ?_
        refine AL_nil ?_
        refine AC_block ?_
        refine AC_seq ?_
        refine AC_region ?_
        refine AL_p rfl rfl (S_assertYes rfl (AEv.tmp rfl) Tryd.underlying115 (by kernel_rfl)) ?_
        refine AL_p rfl rfl (S_extract 1 rfl (AEv.tmp rfl) rfl) ?_
        refine AL_p rfl rfl (S_extract 0 rfl (AEv.tmp rfl) rfl) ?_
        refine AL_nil ?_
        refine AC_cond (AEv.tmp rfl) (fun hb14 => ?_) (fun hb14 => ?_)
        · try simp only [Bool.and_eq_true, Bool.or_eq_true, Bool.not_eq_true', Bool.not_eq_false', Bool.and_eq_false_iff, Bool.or_eq_false_iff, decide_eq_true_eq, decide_eq_false_iff_not, gd] at hb14
          refine AC_seq ?_
          refine AC_region ?_
          refine AL_p rfl rfl (S_assign rfl (AEv.tmp rfl)) ?_
          refine AL_nil ?_
          refine AC_seq ?_
          refine AC_region ?_
          refine AL_p rfl rfl (S_move rfl (AEv.tmp rfl)) ?_
          refine AL_step rfl rfl (S_invC rfl (AEv.tmp rfl) mUnwrap (step_Unwrap_ok _ _ _)) ?_
          rintro _ _ ⟨rfl, rfl⟩
          refine AL_p rfl rfl (S_assign rfl (AEv.tmp rfl)) ?_
          refine AL_nil ?_
          refine AC_seq ?_
          refine AC_region ?_
          refine AL_p rfl rfl (S_move rfl (AEv.tmp rfl)) ?_
          refine AL_p rfl rfl (S_eqlE (chain_is 40 79 c ps1) rfl (AEv.tmp rfl) (by kernel_rfl)) ?_
          refine AL_nil ?_
          refine AC_cond (AEv.tmp rfl) (fun hb15 => ?_) (fun hb15 => ?_)
          · simp at hb15; done
          · try simp only [Bool.and_eq_true, Bool.or_eq_true, Bool.not_eq_true', Bool.not_eq_false', Bool.and_eq_false_iff, Bool.or_eq_false_iff, decide_eq_true_eq, decide_eq_false_iff_not, gd] at hb15
            refine AC_skip ?_
            refine ⟨ps1, trivial, by simp, rfl, (.cons rfl (Le.refl _) (.cons rfl (Le.refl _) (.cons rfl (Le.refl _) (.cons rfl (Le.refl _) .nil))))⟩
        · simp at hb14; done

set_option maxRecDepth 100000 in
/-- errors.As -/
theorem errors_As_code (c : Int) (ps : List (List UInt8)) (b : Nat) (Y : AV) (F : St) (hF : (0, Ob.konst [ty 29]) ∈ F) : ACalls Tryd.prog 22 [chainV 40 79 c ps, .ifc 60 (.ptr b 0)] ([(b, .cells [Y])] ++ F) (fun x st' => ∃ foot', (x = .bool true ∧ foot' = [(b, .cells [.int .i64 c])]) ∧ st' = foot' ++ F) := by
  refine ACalls_of (N := 42) Tryd.func22 (by kernel_rfl) rfl rfl rfl ?_
  refine AC_seq ?_
  refine AC_region ?_
  refine AL_p rfl rfl (S_assign rfl (AEv.const _)) ?_
  refine AL_nil ?_
  refine AC_seq ?_
  refine AC_seq ?_
  refine AC_region ?_
  refine AL_p rfl rfl (S_move rfl (AEv.tmp rfl)) ?_
  refine AL_p rfl rfl (S_eqlE (chain_is 40 79 c ps) rfl (AEv.tmp rfl) (by kernel_rfl)) ?_
  refine AL_nil ?_
  refine AC_cond (AEv.tmp rfl) (fun hb1 => ?_) (fun hb1 => ?_)
  · simp at hb1; done
  · try simp only [Bool.and_eq_true, Bool.or_eq_true, Bool.not_eq_true', Bool.not_eq_false', Bool.and_eq_false_iff, Bool.or_eq_false_iff, decide_eq_true_eq, decide_eq_false_iff_not, gd] at hb1
    refine AC_skip ?_
    refine AC_seq ?_
    refine AC_seq ?_
    refine AC_region ?_
    refine AL_p rfl rfl (S_move rfl (AEv.tmp rfl)) ?_
    refine AL_p rfl rfl (S_eqlE (ifc_is 60 (.ptr b 0)) rfl (AEv.tmp rfl) (by kernel_rfl)) ?_
    refine AL_nil ?_
    refine AC_cond (AEv.tmp rfl) (fun hb2 => ?_) (fun hb2 => ?_)
    · simp at hb2; done
    · try simp only [Bool.and_eq_true, Bool.or_eq_true, Bool.not_eq_true', Bool.not_eq_false', Bool.and_eq_false_iff, Bool.or_eq_false_iff, decide_eq_true_eq, decide_eq_false_iff_not, gd] at hb2
      refine AC_skip ?_
      refine AC_seq ?_
      refine AC_region ?_
      refine AL_p rfl rfl (S_move rfl (AEv.tmp rfl)) ?_
      refine AL_step rfl rfl (S_valueOf rfl (AEv.tmp rfl) x23 (fun w u hu => by rw [hu.lit_inv]; exact v48 b w)) ?_
      rintro _ _ ⟨a, rfl, rfl⟩
      refine AL_step rfl rfl (S_alloc [.pointer none, .pointer none, .int .u64 0] rfl (by kernel_rfl)) ?_
      rintro _ _ ⟨b3, rfl, rfl⟩
      refine AL_step rfl rfl (S_storeN 0 rfl (AEv.tmp rfl) (AEv.tmp rfl) rfl (by first | exact Nat.le_of_ble_eq_true rfl | (simp; omega) | simp) (by first | rfl | simp [AV.one, Value.oneCell']) (by kernel_rfl)) ?_
      rintro _ _ ⟨rfl, rfl⟩
      refine AL_nil ?_
      refine AC_seq ?_
      refine AC_region ?_
      refine AL_p rfl rfl (S_loadN (m := 3) 0 rfl (AEv.tmp rfl) rfl (by kernel_rfl) (by first | exact Nat.le_of_ble_eq_true rfl | (simp; omega) | simp)) ?_
      refine AL_p rfl rfl (S_rvP rfl (AEv.tmp rfl) x24 (y48 a)) ?_
      refine AL_p rfl rfl (S_assign rfl (AEv.tmp rfl)) ?_
      refine AL_nil ?_
      refine AC_seq ?_
      refine AC_seq ?_
      refine AC_region ?_
      refine AL_p rfl rfl (S_move rfl (AEv.tmp rfl)) ?_
      refine AL_p rfl rfl (S_invL (ys := []) (vals := []) rfl (AEv.tmp rfl) AEvs.nil (mKind 60) x52 k48) ?_
      refine AL_p rfl rfl (S_neq rfl (AEv.tmp rfl) (AEv.const _)) ?_
      refine AL_p rfl rfl (S_move rfl (AEv.tmp rfl)) ?_
      refine AL_gTp rfl rfl (AEv.tmp rfl) rfl rfl (S_loadN (m := 3) 0 rfl (AEv.tmp rfl) rfl (by kernel_rfl) (by first | exact Nat.le_of_ble_eq_true rfl | (simp; omega) | simp)) ?_
      refine AL_gTp rfl rfl (AEv.tmp rfl) rfl rfl (S_isNilV rfl (AEv.tmp rfl) (List.mem_cons_of_mem _ List.mem_cons_self) x25 (n48 a b)) ?_
      refine AL_p rfl rfl (S_or rfl (AEv.tmp rfl) (fun hp4 => (AEv.tmp rfl))) ?_
      refine AL_nil ?_
      refine AC_cond (AEv.tmp rfl) (fun hb5 => ?_) (fun hb5 => ?_)
      · simp at hb5; done
      · try simp only [Bool.and_eq_true, Bool.or_eq_true, Bool.not_eq_true', Bool.not_eq_false', Bool.and_eq_false_iff, Bool.or_eq_false_iff, decide_eq_true_eq, decide_eq_false_iff_not, gd] at hb5
        refine AC_skip ?_
        refine AC_seq ?_
        refine AC_region ?_
        refine AL_p rfl rfl (S_move rfl (AEv.tmp rfl)) ?_
        refine AL_p rfl rfl (S_invL (ys := []) (vals := []) rfl (AEv.tmp rfl) AEvs.nil (mElem 60) x65 e48) ?_
        refine AL_p rfl rfl (S_assign rfl (AEv.tmp rfl)) ?_
        refine AL_nil ?_
        refine AC_seq ?_
        refine AC_seq ?_
        refine AC_region ?_
        refine AL_p rfl rfl (S_move rfl (AEv.tmp rfl)) ?_
        refine AL_p rfl rfl (S_invL (ys := []) (vals := []) rfl (AEv.tmp rfl) AEvs.nil (mKind 40) x52 k27) ?_
        refine AL_p rfl rfl (S_neq rfl (AEv.tmp rfl) (AEv.const _)) ?_
        refine AL_p rfl rfl (S_move rfl (AEv.tmp rfl)) ?_
        refine AL_gTp rfl rfl (AEv.tmp rfl) rfl rfl (S_move rfl (AEv.tmp rfl)) ?_
        refine AL_gTp rfl rfl (AEv.tmp rfl) rfl rfl (S_loadK rfl (AEv.global _) (List.mem_cons_of_mem _ (List.mem_cons_of_mem _ (List.mem_cons_of_mem _ hF))) rfl (by kernel_rfl)) ?_
        refine AL_gTp rfl rfl (AEv.tmp rfl) rfl rfl (S_invL (ys := [.tmp 32]) (vals := [ty 29]) rfl (AEv.tmp rfl) (AEvs.cons (AEv.tmp rfl) AEvs.nil) (mImpl 40) x66 i27) ?_
        refine AL_gTp rfl rfl (AEv.tmp rfl) rfl rfl (S_not rfl (AEv.tmp rfl)) ?_
        refine AL_p rfl rfl (S_and rfl (AEv.tmp rfl) (fun hp6 => (AEv.tmp rfl))) ?_
        refine AL_nil ?_
        refine AC_cond (AEv.tmp rfl) (fun hb7 => ?_) (fun hb7 => ?_)
        · simp at hb7; done
        · try simp only [Bool.and_eq_true, Bool.or_eq_true, Bool.not_eq_true', Bool.not_eq_false', Bool.and_eq_false_iff, Bool.or_eq_false_iff, decide_eq_true_eq, decide_eq_false_iff_not, gd] at hb7
          refine AC_skip ?_
          refine AC_seq ?_
          refine AC_region ?_
          refine AL_p rfl rfl (S_move rfl (AEv.tmp rfl)) ?_
          refine AL_p rfl rfl (S_move rfl (AEv.tmp rfl)) ?_
          refine AL_p rfl rfl (S_loadN (m := 3) 0 rfl (AEv.tmp rfl) rfl (by kernel_rfl) (by first | exact Nat.le_of_ble_eq_true rfl | (simp; omega) | simp)) ?_
          refine AL_p rfl rfl (S_move rfl (AEv.tmp rfl)) ?_
          refine AL_step rfl rfl (S_call rfl (AEvs.cons (AEv.tmp rfl) (AEvs.cons (AEv.tmp rfl) (AEvs.cons (AEv.tmp rfl) (AEvs.cons (AEv.tmp rfl) AEvs.nil)))) (ACalls.pre (foot := [(a, Ob.cells [.ptr b 0]), (b, Ob.cells [Y])]) (K := fun x foot' => x = .bool true ∧ foot' = [(a, Ob.cells [.ptr b 0]), (b, Ob.cells [.int .i64 c])]) (errors_as_code c ps a b Y) [(_, _)] F)) ?_
          rintro _ _ ⟨_, ⟨rfl, rfl⟩, rfl⟩
          refine AL_p rfl rfl (S_assign rfl (AEv.tmp rfl)) ?_
          refine AL_nil ?_
          refine AC_ret ?_
          refine ret_tmp ([(b, Ob.cells [.int .i64 c])] ++ F) rfl rfl (Sub.l (List.Sublist.cons _ (List.Sublist.cons _ (List.Sublist.refl _)))) (Conv.refl (Sub.l (List.Sublist.cons _ (List.Sublist.cons _ (List.Sublist.refl _)))) _) ⟨_, ⟨rfl, rfl⟩, rfl⟩ (.inl rfl)

set_option maxRecDepth 100000 in
set_option maxHeartbeats 4000000 in
/-- errors.as -/
theorem errors_as_step (c : Int) (ps : List (List UInt8)) (a b : Nat) (Y : AV) (F : St) : ACalls Tryd.prog 39 [chainV 40 79 c ps, .ifc 80 (.ptr b 0), rvAV (hv 80) a (.int .u64 150), .lit (ty 79)] ([(a, Ob.cells [.ptr b 0]), (b, Ob.cells [Y])] ++ F) (fun x st' => ∃ foot', (x = .bool (!ps.isEmpty) ∧ foot' = [(a, Ob.cells [.ptr b 0]), (b, Ob.cells [stepV 40 79 (some (c, ps)) Y])]) ∧ st' = foot' ++ F) := by
  refine ACalls_of (N := 62) Tryd.func39 (by kernel_rfl) rfl rfl rfl ?_
  refine AC_seq ?_
  refine AC_region ?_
  refine AL_step rfl rfl (S_box rfl (AEv.tmp rfl)) ?_
  rintro _ _ ⟨b1, rfl, rfl⟩
  refine AL_p rfl rfl (S_assign rfl (AEv.const _)) ?_
  refine AL_nil ?_
  refine AC_block ?_
  refine AC_loop (G := List (List UInt8)) (fun g => g = ps) (fun g => [(0, chainV 40 79 c g), (1, .ifc 80 (.ptr b 0)), (3, .lit (ty 79)), (6, .ptr b1 0)]) (fun g => ((b1, .cells [.lit (hv 80), .ptr a 0, .lit (.int .u64 150)]) :: ([(a, Ob.cells [.ptr b 0]), (b, Ob.cells [Y])] ++ F))) (fun g => g.length) (ps) (rfl) rfl ?_ ?_
  · exact (.cons rfl (Le.refl _) (.cons rfl (Le.refl _) (.cons rfl (Le.refl _) (.cons rfl (Le.refl _) .nil))))
  · rintro g hg
    try dsimp only
    subst hg
    refine AC_block ?_
    refine AC_seq ?_
    refine AC_seq ?_
    refine AC_region ?_
    refine AL_p rfl rfl (S_move rfl (AEv.tmp rfl)) ?_
    refine AL_p rfl rfl ((show PStep _ _ _ _ _ (.lit (ty (typV 40 79 g))) from by cases g with | nil => exact S_typeOf rfl (AEv.tmp rfl) x30 t27 | cons p0 ps0 => exact S_typeOf rfl (AEv.tmp rfl) x30 t49)) ?_
    refine AL_p rfl rfl (S_move rfl (AEv.tmp rfl)) ?_
    refine AL_p rfl rfl ((show PStep _ _ _ _ _ (.bool (!g.isEmpty)) from by cases g with | nil => exact (by simp only [typV]; exact S_invL (ys := [.tmp 18]) (vals := [ty 79]) rfl (AEv.tmp rfl) (AEvs.cons (AEv.tmp rfl) AEvs.nil) (mAssign 40) x63 a2749) | cons p0 ps0 => exact (by simp only [typV]; exact S_invL (ys := [.tmp 18]) (vals := [ty 79]) rfl (AEv.tmp rfl) (AEvs.cons (AEv.tmp rfl) AEvs.nil) (mAssign 79) x63 a4949))) ?_
    refine AL_nil ?_
    refine AC_cond (AEv.tmp rfl) (fun hb2 => ?_) (fun hb2 => ?_)
    · try simp only [Bool.and_eq_true, Bool.or_eq_true, Bool.not_eq_true', Bool.not_eq_false', Bool.and_eq_false_iff, Bool.or_eq_false_iff, decide_eq_true_eq, decide_eq_false_iff_not, gd] at hb2
      obtain ⟨p1, ps1, rfl⟩ : ∃ p1 ps1, g = p1 :: ps1 := by cases g with | nil => simp at hb2 | cons p1 ps1 => exact ⟨p1, ps1, rfl⟩
      refine AC_seq ?_
      refine AC_region ?_
      refine AL_p rfl rfl (S_loadN (m := 3) 0 rfl (AEv.tmp rfl) rfl (by kernel_rfl) (by first | exact Nat.le_of_ble_eq_true rfl | (simp; omega) | simp)) ?_
      refine AL_p rfl rfl (S_elemV rfl (AEv.tmp rfl) (List.mem_cons_of_mem _ List.mem_cons_self) x32 (l52 a b)) ?_
      refine AL_p rfl rfl (S_move rfl (AEv.tmp rfl)) ?_
      refine AL_step rfl rfl (S_valueOf rfl (AEv.tmp rfl) x23 (fun w u hu => by obtain ⟨b', off, f, rfl, _⟩ := ip_inv hu; exact v49 _ w)) ?_
      rintro _ _ ⟨d, rfl, rfl⟩
      refine AL_step rfl rfl (S_setV (n := 3) rfl (AEv.tmp rfl) (AEv.tmp rfl) rfl List.mem_cons_self x33 (fun w u old hu h1 h2 h3 => by obtain ⟨b', off, f, rfl, _⟩ := ip_inv hu; exact s49 b d _ old w (by simp [Value.cells]) rfl h1 h2 h3)) ?_
      rintro _ _ ⟨rfl, rfl⟩
      refine AL_nil ?_
      refine AC_seq ?_
      refine AC_region ?_
      refine AL_p rfl rfl (S_assign rfl (AEv.const _)) ?_
      refine AL_nil ?_
      refine AC_ret ?_
      refine ret_tmp ([(a, Ob.cells [.ptr b 0]), (b, Ob.cells [.ip [.S p1, chainV 40 79 c ps1]])] ++ F) rfl rfl (Sub.l (List.Sublist.cons _ (List.Sublist.cons _ (List.Sublist.refl _)))) (Conv.refl (Sub.l (List.Sublist.cons _ (List.Sublist.cons _ (List.Sublist.refl _)))) _) ⟨_, ⟨rfl, rfl⟩, rfl⟩ (.inl rfl)
    · try simp only [Bool.and_eq_true, Bool.or_eq_true, Bool.not_eq_true', Bool.not_eq_false', Bool.and_eq_false_iff, Bool.or_eq_false_iff, decide_eq_true_eq, decide_eq_false_iff_not, gd] at hb2
      obtain rfl : g = [] := by cases g with | nil => rfl | cons p1 ps1 => simp at hb2
      refine AC_skip ?_
      refine AC_seq ?_
      refine AC_seq ?_
      refine AC_region ?_
      refine AL_p rfl rfl (S_move rfl (AEv.tmp rfl)) ?_
      refine AL_p rfl rfl (S_assertNo (X := 0) rfl (AEv.tmp rfl) Tryd.underlying112 (by kernel_rfl) (by kernel_rfl)) ?_
      refine AL_p rfl rfl (S_move rfl (AEv.tmp rfl)) ?_
      refine AL_p rfl rfl (S_extract 0 rfl (AEv.tmp rfl) rfl) ?_
      refine AL_p rfl rfl (S_extract 1 rfl (AEv.tmp rfl) rfl) ?_
      refine AL_p rfl rfl (S_assign rfl (AEv.tmp rfl)) ?_
      refine AL_p rfl rfl (S_assign rfl (AEv.tmp rfl)) ?_
      refine AL_nil ?_
      refine AC_seq ?_
      refine AC_region ?_
      refine AL_p rfl rfl (S_move rfl (AEv.tmp rfl)) ?_
      refine AL_p rfl rfl (S_move rfl (AEv.tmp rfl)) ?_
      refine AL_g rfl rfl (AEv.tmp rfl) rfl (fun hg3 => S_move rfl (AEv.tmp rfl)) ?_
      refine AL_g rfl rfl (AEv.tmp rfl) rfl (fun hg6 => S_move rfl (AEv.tmp rfl)) ?_
      refine AL_g rfl rfl (AEv.tmp rfl) rfl (fun hg9 => (show PStep _ _ _ _ _ (.bool false) from absurd (show gd false true = true by assumption) (by decide))) ?_
      refine AL_p rfl rfl (S_and rfl (AEv.tmp rfl) (fun hp12 => (AEv.cond (AEv.tmp rfl) (by first | assumption | exact gdT hp12 | exact gdF hp12 | exact gdAnd (by assumption) (gdT hp12) | exact gdAnd (by assumption) (gdF hp12))))) ?_
      refine AL_nil ?_
      refine AC_cond (AEv.tmp rfl) (fun hb13 => ?_) (fun hb13 => ?_)
      · simp at hb13; done
      · try simp only [Bool.and_eq_true, Bool.or_eq_true, Bool.not_eq_true', Bool.not_eq_false', Bool.and_eq_false_iff, Bool.or_eq_false_iff, decide_eq_true_eq, decide_eq_false_iff_not, gd] at hb13
        refine AC_skip ?_
        refine AC_seq ?_
        refine AC_region ?_
        refine AL_p rfl rfl (S_move rfl (AEv.tmp rfl)) ?_
        refine AL_nil ?_
        refine AC_block ?_
        refine AC_seq ?_
        refine AC_region ?_
        refine AL_p rfl rfl (S_assertNo (X := 0) rfl (AEv.tmp rfl) Tryd.underlying115 (by kernel_rfl) (by kernel_rfl)) ?_
        refine AL_p rfl rfl (S_extract 1 rfl (AEv.tmp rfl) rfl) ?_
        refine AL_p rfl rfl (S_extract 0 rfl (AEv.tmp rfl) rfl) ?_
        refine AL_nil ?_
        refine AC_cond (AEv.tmp rfl) (fun hb14 => ?_) (fun hb14 => ?_)
        · simp at hb14; done
        · try simp only [Bool.and_eq_true, Bool.or_eq_true, Bool.not_eq_true', Bool.not_eq_false', Bool.and_eq_false_iff, Bool.or_eq_false_iff, decide_eq_true_eq, decide_eq_false_iff_not, gd] at hb14
          refine AC_seq ?_
          refine AC_region ?_
          refine AL_p rfl rfl (S_assertNo (X := 0) rfl (AEv.tmp rfl) Tryd.underlying117 (by kernel_rfl) (by kernel_rfl)) ?_
          refine AL_p rfl rfl (S_extract 1 rfl (AEv.tmp rfl) rfl) ?_
          refine AL_p rfl rfl (S_extract 0 rfl (AEv.tmp rfl) rfl) ?_
          refine AL_nil ?_
          refine AC_cond (AEv.tmp rfl) (fun hb15 => ?_) (fun hb15 => ?_)
          · simp at hb15; done
          · try simp only [Bool.and_eq_true, Bool.or_eq_true, Bool.not_eq_true', Bool.not_eq_false', Bool.and_eq_false_iff, Bool.or_eq_false_iff, decide_eq_true_eq, decide_eq_false_iff_not, gd] at hb15
            refine AC_seq ?_
            refine AC_region ?_
            refine AL_p rfl rfl (S_assign rfl (AEv.tmp rfl)) ?_
            refine AL_nil ?_
            refine AC_seq ?_
            refine AC_region ?_
            refine AL_p rfl rfl (S_assign rfl (AEv.const _)) ?_
            refine AL_nil ?_
            refine AC_ret ?_
            refine ret_tmp ([(a, Ob.cells [.ptr b 0]), (b, Ob.cells [Y])] ++ F) rfl rfl (Sub.l (List.Sublist.cons _ (List.Sublist.refl _))) (Conv.refl (Sub.l (List.Sublist.cons _ (List.Sublist.refl _))) _) ⟨_, ⟨rfl, rfl⟩, rfl⟩ (.inl rfl)

set_option maxRecDepth 100000 in
/-- errors.As -/
theorem errors_As_step (e : Er) (b : Nat) (Y : AV) (F : St) (hF : (0, Ob.konst [ty 29]) ∈ F) : ACalls Tryd.prog 22 [erV 40 79 e, .ifc 80 (.ptr b 0)] ([(b, .cells [Y])] ++ F) (fun x st' => ∃ foot', (x = .bool (stepB e) ∧ foot' = [(b, .cells [stepV 40 79 e Y])]) ∧ st' = foot' ++ F) := by
  refine ACalls_of (N := 42) Tryd.func22 (by kernel_rfl) rfl rfl rfl ?_
  refine AC_seq ?_
  refine AC_region ?_
  refine AL_p rfl rfl (S_assign rfl (AEv.const _)) ?_
  refine AL_nil ?_
  refine AC_seq ?_
  refine AC_seq ?_
  refine AC_region ?_
  refine AL_p rfl rfl (S_move rfl (AEv.tmp rfl)) ?_
  refine AL_p rfl rfl (S_eqlE (er_is 40 79 e) rfl (AEv.tmp rfl) (by kernel_rfl)) ?_
  refine AL_nil ?_
  refine AC_cond (AEv.tmp rfl) (fun hb1 => ?_) (fun hb1 => ?_)
  · try simp only [Bool.and_eq_true, Bool.or_eq_true, Bool.not_eq_true', Bool.not_eq_false', Bool.and_eq_false_iff, Bool.or_eq_false_iff, decide_eq_true_eq, decide_eq_false_iff_not, gd] at hb1
    obtain rfl : e = none := by cases e with | none => rfl | some x => simp at hb1
    refine AC_seq ?_
    refine AC_region ?_
    refine AL_p rfl rfl (S_assign rfl (AEv.const _)) ?_
    refine AL_nil ?_
    refine AC_ret ?_
    refine ret_tmp ([(b, Ob.cells [Y])] ++ F) rfl rfl (Sub.l (List.Sublist.refl _)) (Conv.refl (Sub.l (List.Sublist.refl _)) _) ⟨_, ⟨rfl, rfl⟩, rfl⟩ (.inl rfl)
  · try simp only [Bool.and_eq_true, Bool.or_eq_true, Bool.not_eq_true', Bool.not_eq_false', Bool.and_eq_false_iff, Bool.or_eq_false_iff, decide_eq_true_eq, decide_eq_false_iff_not, gd] at hb1
    obtain ⟨⟨c, ps⟩, rfl⟩ : ∃ x, e = some x := by cases e with | none => simp at hb1 | some x => exact ⟨x, rfl⟩
    refine AC_skip ?_
    refine AC_seq ?_
    refine AC_seq ?_
    refine AC_region ?_
    refine AL_p rfl rfl (S_move rfl (AEv.tmp rfl)) ?_
    refine AL_p rfl rfl (S_eqlE (ifc_is 80 (.ptr b 0)) rfl (AEv.tmp rfl) (by kernel_rfl)) ?_
    refine AL_nil ?_
    refine AC_cond (AEv.tmp rfl) (fun hb2 => ?_) (fun hb2 => ?_)
    · simp at hb2; done
    · try simp only [Bool.and_eq_true, Bool.or_eq_true, Bool.not_eq_true', Bool.not_eq_false', Bool.and_eq_false_iff, Bool.or_eq_false_iff, decide_eq_true_eq, decide_eq_false_iff_not, gd] at hb2
      refine AC_skip ?_
      refine AC_seq ?_
      refine AC_region ?_
      refine AL_p rfl rfl (S_move rfl (AEv.tmp rfl)) ?_
      refine AL_step rfl rfl (S_valueOf rfl (AEv.tmp rfl) x23 (fun w u hu => by rw [hu.lit_inv]; exact v52 b w)) ?_
      rintro _ _ ⟨a, rfl, rfl⟩
      refine AL_step rfl rfl (S_alloc [.pointer none, .pointer none, .int .u64 0] rfl (by kernel_rfl)) ?_
      rintro _ _ ⟨b3, rfl, rfl⟩
      refine AL_step rfl rfl (S_storeN 0 rfl (AEv.tmp rfl) (AEv.tmp rfl) rfl (by first | exact Nat.le_of_ble_eq_true rfl | (simp; omega) | simp) (by first | rfl | simp [AV.one, Value.oneCell']) (by kernel_rfl)) ?_
      rintro _ _ ⟨rfl, rfl⟩
      refine AL_nil ?_
      refine AC_seq ?_
      refine AC_region ?_
      refine AL_p rfl rfl (S_loadN (m := 3) 0 rfl (AEv.tmp rfl) rfl (by kernel_rfl) (by first | exact Nat.le_of_ble_eq_true rfl | (simp; omega) | simp)) ?_
      refine AL_p rfl rfl (S_rvP rfl (AEv.tmp rfl) x24 (y52 a)) ?_
      refine AL_p rfl rfl (S_assign rfl (AEv.tmp rfl)) ?_
      refine AL_nil ?_
      refine AC_seq ?_
      refine AC_seq ?_
      refine AC_region ?_
      refine AL_p rfl rfl (S_move rfl (AEv.tmp rfl)) ?_
      refine AL_p rfl rfl (S_invL (ys := []) (vals := []) rfl (AEv.tmp rfl) AEvs.nil (mKind 80) x52 k52) ?_
      refine AL_p rfl rfl (S_neq rfl (AEv.tmp rfl) (AEv.const _)) ?_
      refine AL_p rfl rfl (S_move rfl (AEv.tmp rfl)) ?_
      refine AL_gTp rfl rfl (AEv.tmp rfl) rfl rfl (S_loadN (m := 3) 0 rfl (AEv.tmp rfl) rfl (by kernel_rfl) (by first | exact Nat.le_of_ble_eq_true rfl | (simp; omega) | simp)) ?_
      refine AL_gTp rfl rfl (AEv.tmp rfl) rfl rfl (S_isNilV rfl (AEv.tmp rfl) (List.mem_cons_of_mem _ List.mem_cons_self) x25 (n52 a b)) ?_
      refine AL_p rfl rfl (S_or rfl (AEv.tmp rfl) (fun hp4 => (AEv.tmp rfl))) ?_
      refine AL_nil ?_
      refine AC_cond (AEv.tmp rfl) (fun hb5 => ?_) (fun hb5 => ?_)
      · simp at hb5; done
      · try simp only [Bool.and_eq_true, Bool.or_eq_true, Bool.not_eq_true', Bool.not_eq_false', Bool.and_eq_false_iff, Bool.or_eq_false_iff, decide_eq_true_eq, decide_eq_false_iff_not, gd] at hb5
        refine AC_skip ?_
        refine AC_seq ?_
        refine AC_region ?_
        refine AL_p rfl rfl (S_move rfl (AEv.tmp rfl)) ?_
        refine AL_p rfl rfl (S_invL (ys := []) (vals := []) rfl (AEv.tmp rfl) AEvs.nil (mElem 80) x65 e52) ?_
        refine AL_p rfl rfl (S_assign rfl (AEv.tmp rfl)) ?_
        refine AL_nil ?_
        refine AC_seq ?_
        refine AC_seq ?_
        refine AC_region ?_
        refine AL_p rfl rfl (S_move rfl (AEv.tmp rfl)) ?_
        refine AL_p rfl rfl (S_invL (ys := []) (vals := []) rfl (AEv.tmp rfl) AEvs.nil (mKind 79) x52 k49) ?_
        refine AL_p rfl rfl (S_neq rfl (AEv.tmp rfl) (AEv.const _)) ?_
        refine AL_p rfl rfl (S_move rfl (AEv.tmp rfl)) ?_
        refine AL_gTp rfl rfl (AEv.tmp rfl) rfl rfl (S_move rfl (AEv.tmp rfl)) ?_
        refine AL_gTp rfl rfl (AEv.tmp rfl) rfl rfl (S_loadK rfl (AEv.global _) (List.mem_cons_of_mem _ (List.mem_cons_of_mem _ (List.mem_cons_of_mem _ hF))) rfl (by kernel_rfl)) ?_
        refine AL_gTp rfl rfl (AEv.tmp rfl) rfl rfl (S_invL (ys := [.tmp 32]) (vals := [ty 29]) rfl (AEv.tmp rfl) (AEvs.cons (AEv.tmp rfl) AEvs.nil) (mImpl 79) x66 i49) ?_
        refine AL_gTp rfl rfl (AEv.tmp rfl) rfl rfl (S_not rfl (AEv.tmp rfl)) ?_
        refine AL_p rfl rfl (S_and rfl (AEv.tmp rfl) (fun hp6 => (AEv.tmp rfl))) ?_
        refine AL_nil ?_
        refine AC_cond (AEv.tmp rfl) (fun hb7 => ?_) (fun hb7 => ?_)
        · simp at hb7; done
        · try simp only [Bool.and_eq_true, Bool.or_eq_true, Bool.not_eq_true', Bool.not_eq_false', Bool.and_eq_false_iff, Bool.or_eq_false_iff, decide_eq_true_eq, decide_eq_false_iff_not, gd] at hb7
          refine AC_skip ?_
          refine AC_seq ?_
          refine AC_region ?_
          refine AL_p rfl rfl (S_move rfl (AEv.tmp rfl)) ?_
          refine AL_p rfl rfl (S_move rfl (AEv.tmp rfl)) ?_
          refine AL_p rfl rfl (S_loadN (m := 3) 0 rfl (AEv.tmp rfl) rfl (by kernel_rfl) (by first | exact Nat.le_of_ble_eq_true rfl | (simp; omega) | simp)) ?_
          refine AL_p rfl rfl (S_move rfl (AEv.tmp rfl)) ?_
          refine AL_step rfl rfl (S_call rfl (AEvs.cons (AEv.tmp rfl) (AEvs.cons (AEv.tmp rfl) (AEvs.cons (AEv.tmp rfl) (AEvs.cons (AEv.tmp rfl) AEvs.nil)))) (ACalls.pre (foot := [(a, Ob.cells [.ptr b 0]), (b, Ob.cells [Y])]) (K := fun x foot' => x = .bool (!ps.isEmpty) ∧ foot' = [(a, Ob.cells [.ptr b 0]), (b, Ob.cells [stepV 40 79 (some (c, ps)) Y])]) (errors_as_step c ps a b Y) [(_, _)] F)) ?_
          rintro _ _ ⟨_, ⟨rfl, rfl⟩, rfl⟩
          refine AL_p rfl rfl (S_assign rfl (AEv.tmp rfl)) ?_
          refine AL_nil ?_
          refine AC_ret ?_
          refine ret_tmp ([(b, Ob.cells [stepV 40 79 (some (c, ps)) Y])] ++ F) rfl rfl (Sub.l (List.Sublist.cons _ (List.Sublist.cons _ (List.Sublist.refl _)))) (Conv.refl (Sub.l (List.Sublist.cons _ (List.Sublist.cons _ (List.Sublist.refl _)))) _) ⟨_, ⟨by cases ps <;> rfl, rfl⟩, rfl⟩ (.inl rfl)

set_option maxRecDepth 100000 in
/-- provost/fail.Code -/
theorem fail_Code_ok (e : Er) : GCalls Tryd.prog tabs 9 [erV 40 79 e] (.int .i64 (erCode e)) := by
  intro st hG
  refine ACalls_of (N := 10) Tryd.func9 (by kernel_rfl) rfl rfl rfl ?_
  refine AC_seq ?_
  refine AC_region ?_
  refine AL_p rfl rfl (S_assign rfl (AEv.const _)) ?_
  refine AL_nil ?_
  refine AC_seq ?_
  refine AC_seq ?_
  refine AC_region ?_
  refine AL_p rfl rfl (S_move rfl (AEv.tmp rfl)) ?_
  refine AL_p rfl rfl (S_eqlE (er_is 40 79 e) rfl (AEv.tmp rfl) (by kernel_rfl)) ?_
  refine AL_nil ?_
  refine AC_cond (AEv.tmp rfl) (fun hb1 => ?_) (fun hb1 => ?_)
  · try simp only [Bool.and_eq_true, Bool.or_eq_true, Bool.not_eq_true', Bool.not_eq_false', Bool.and_eq_false_iff, Bool.or_eq_false_iff, decide_eq_true_eq, decide_eq_false_iff_not, gd] at hb1
    obtain rfl : e = none := by cases e with | none => rfl | some x => simp at hb1
    refine AC_seq ?_
    refine AC_region ?_
    refine AL_p rfl rfl (S_assign rfl (AEv.const _)) ?_
    refine AL_nil ?_
    refine AC_ret ?_
    refine ret_tmp st rfl rfl (Sub.l (List.Sublist.refl _)) (Conv.refl (Sub.l (List.Sublist.refl _)) _) ⟨rfl, rfl⟩ (.inl rfl)
  · try simp only [Bool.and_eq_true, Bool.or_eq_true, Bool.not_eq_true', Bool.not_eq_false', Bool.and_eq_false_iff, Bool.or_eq_false_iff, decide_eq_true_eq, decide_eq_false_iff_not, gd] at hb1
    obtain ⟨⟨c, ps⟩, rfl⟩ : ∃ x, e = some x := by cases e with | none => simp at hb1 | some x => exact ⟨x, rfl⟩
    refine AC_skip ?_
    refine AC_seq ?_
    refine AC_region ?_
    refine AL_step rfl rfl (S_alloc [.int .i64 0] rfl (by kernel_rfl)) ?_
    rintro _ _ ⟨b2, rfl, rfl⟩
    refine AL_nil ?_
    refine AC_seq ?_
    refine AC_seq ?_
    refine AC_region ?_
    refine AL_p rfl rfl (S_move rfl (AEv.tmp rfl)) ?_
    refine AL_p rfl rfl (S_ifc (T2 := 0) rfl (AEv.tmp rfl) (by kernel_rfl)) ?_
    refine AL_step rfl rfl (S_call rfl (AEvs.cons (AEv.tmp rfl) (AEvs.cons (AEv.tmp rfl) AEvs.nil)) (errors_As_code c ps _ _ st (hG _ tab_err))) ?_
    rintro _ _ ⟨_, ⟨rfl, rfl⟩, rfl⟩
    refine AL_nil ?_
    refine AC_cond (AEv.tmp rfl) (fun hb3 => ?_) (fun hb3 => ?_)
    · try simp only [Bool.and_eq_true, Bool.or_eq_true, Bool.not_eq_true', Bool.not_eq_false', Bool.and_eq_false_iff, Bool.or_eq_false_iff, decide_eq_true_eq, decide_eq_false_iff_not, gd] at hb3
      refine AC_seq ?_
      refine AC_region ?_
      refine AL_p rfl rfl (S_load 0 rfl (AEv.tmp rfl) rfl rfl (by kernel_rfl)) ?_
      refine AL_p rfl rfl (S_assign rfl (AEv.tmp rfl)) ?_
      refine AL_nil ?_
      refine AC_ret ?_
      refine ret_tmp st rfl rfl (Sub.l (List.Sublist.cons _ (List.Sublist.refl _))) (Conv.refl (Sub.l (List.Sublist.cons _ (List.Sublist.refl _))) _) ⟨rfl, rfl⟩ (.inl rfl)
    · simp at hb3; done

set_option maxRecDepth 100000 in
/-- provost/fail.Path -/
theorem fail_Path_ok (e : Er) (he : (erPath e).length ≤ 1000000) : GCalls Tryd.prog tabs 21 [erV 40 79 e] (.sl (strsV (erPath e))) := by
  intro st hG
  refine ACalls_of (N := 20) Tryd.func21 (by kernel_rfl) rfl rfl rfl ?_
  refine AC_seq ?_
  refine AC_region ?_
  refine AL_p rfl rfl (S_assign rfl (AEv.const _)) ?_
  refine AL_nil ?_
  refine AC_seq ?_
  refine AC_region ?_
  refine AL_p rfl rfl (S_assign rfl (AEv.const _)) ?_
  refine AL_nil ?_
  refine AC_seq ?_
  refine AC_region ?_
  refine AL_step rfl rfl (S_alloc [.pointer none] rfl (by kernel_rfl)) ?_
  rintro _ _ ⟨b1, rfl, rfl⟩
  refine AL_nil ?_
  refine AC_seq ?_
  refine AC_block ?_
  refine AC_loop (G := Er × List (List UInt8) × Own × AV) (fun g => erPath e = g.2.1 ++ erPath g.1 ∧ g.2.2.1.ok (strsV g.2.1)) (fun g => [(0, erV 40 79 g.1), (3, ownAV g.2.2.1 1 (strsV g.2.1)), (4, .ptr b1 0)]) (fun g => (b1, .cells [g.2.2.2]) :: (ownSt g.2.2.1 9 1 (strsV g.2.1) ++ st)) (fun g => (erPath g.1).length) ((e, [], .nil, .lit (.pointer none))) (⟨rfl, rfl⟩) rfl ?_ ?_
  · exact .cons rfl (Le.refl _) (.cons rfl (Le.refl _) (.cons rfl (Le.refl _) .nil))
  · rintro ⟨e1, done, p, Y⟩ ⟨hpath, hp⟩
    try dsimp only
    dsimp only at hpath hp
    refine AC_seq ?_
    refine AC_seq ?_
    refine AC_region ?_
    refine AL_p rfl rfl (S_move rfl (AEv.tmp rfl)) ?_
    refine AL_p rfl rfl (S_ifc (T2 := 0) rfl (AEv.tmp rfl) (by kernel_rfl)) ?_
    refine AL_step rfl rfl (S_call rfl (AEvs.cons (AEv.tmp rfl) (AEvs.cons (AEv.tmp rfl) AEvs.nil)) (errors_As_step e1 b1 Y (ownSt p 9 1 (strsV done) ++ st) (List.mem_append_right _ (hG _ tab_err)))) ?_
    rintro _ _ ⟨_, ⟨rfl, rfl⟩, rfl⟩
    refine AL_nil ?_
    refine AC_cond (AEv.tmp rfl) (fun hb2 => ?_) (fun hb2 => ?_)
    · try simp only [Bool.and_eq_true, Bool.or_eq_true, Bool.not_eq_true', Bool.not_eq_false', Bool.and_eq_false_iff, Bool.or_eq_false_iff, decide_eq_true_eq, decide_eq_false_iff_not, gd] at hb2
      obtain ⟨c1, p1, ps1, rfl⟩ : ∃ c1 p1 ps1, e1 = some (c1, p1 :: ps1) := by
        rcases e1 with _ | ⟨c1, _ | ⟨p1, ps1⟩⟩
        · simp [stepB] at hb2
        · simp [stepB] at hb2
        · exact ⟨c1, p1, ps1, rfl⟩
      have hlen : (strsV done).length = done.length := strsV_len done
      have hle := congrArg List.length hpath
      rw [List.length_append] at hle
      have hsd : strsV (done ++ [p1]) = strsV done ++ [.S p1] := by simp [strsV]
      refine AC_skip ?_
      refine AC_block ?_
      refine AC_seq ?_
      refine AC_region ?_
      refine AL_p rfl rfl (S_move rfl (AEv.tmp rfl)) ?_
      refine AL_p rfl rfl (S_load 0 rfl (AEv.tmp rfl) rfl rfl (by kernel_rfl)) ?_
      refine AL_p rfl rfl (S_nilCheckP rfl (AEv.tmp rfl)) ?_
      refine AL_p rfl rfl (S_fieldP 0 rfl (AEv.tmp rfl) (by kernel_rfl)) ?_
      refine AL_p rfl rfl (S_loadP rfl (AEv.tmp rfl) rfl (by kernel_rfl)) ?_
      refine AL_p rfl rfl (S_buildSlice (e := 9) 1 rfl (AEvs.cons (AEv.tmp rfl) AEvs.nil) rfl (by kernel_rfl) (by kernel_rfl) (by simp [AV.flat, AV.one, AV.cells, Value.oneCell']) (by decide) (by decide) (by decide)) ?_
      refine AL_step rfl rfl (S_appendOwn (e := 9) (size := 1) (bytes := 16) (p := p) (xs := strsV done) [_] st rfl (AEv.tmp rfl) (AEv.tmp rfl) rfl hp (by kernel_rfl) (by simp) (fun x hx => by obtain ⟨q, _, rfl⟩ := List.mem_map.1 hx; rfl) (by simp [AV.cells, AV.one, Value.oneCell']) (by simp only [List.length_singleton]; omega) (by simp only [List.length_singleton]; omega)) ?_
      rintro _ _ ⟨b9, k9, cap9, hc9, rfl, rfl⟩
      refine AL_p rfl rfl (S_assign rfl (AEv.tmp rfl)) ?_
      refine AL_nil ?_
      refine AC_region ?_
      refine AL_p rfl rfl (S_load 0 rfl (AEv.tmp rfl) rfl rfl (by kernel_rfl)) ?_
      refine AL_p rfl rfl (S_nilCheckP rfl (AEv.tmp rfl)) ?_
      refine AL_p rfl rfl (S_fieldP 1 rfl (AEv.tmp rfl) (by kernel_rfl)) ?_
      refine AL_p rfl rfl (S_loadP rfl (AEv.tmp rfl) rfl (by kernel_rfl)) ?_
      refine AL_p rfl rfl (S_assign rfl (AEv.tmp rfl)) ?_
      refine AL_nil ?_
      refine ⟨(some (c1, ps1), done ++ [p1], .row b9 k9 cap9, _), ⟨by dsimp only; rw [hpath]; simp [erPath], by dsimp only; rw [hsd]; exact hc9⟩, by simp [erPath], by dsimp only; rw [hsd]; rfl, .cons rfl (Le.refl _) (.cons rfl (Le.of_eq (by dsimp only; rw [hsd])) (.cons rfl (Le.refl _) .nil))⟩
    · try simp only [Bool.and_eq_true, Bool.or_eq_true, Bool.not_eq_true', Bool.not_eq_false', Bool.and_eq_false_iff, Bool.or_eq_false_iff, decide_eq_true_eq, decide_eq_false_iff_not, gd] at hb2
      have hend : erPath e1 = [] := by
        rcases e1 with _ | ⟨c1, _ | ⟨p1, ps1⟩⟩
        · rfl
        · rfl
        · simp [stepB] at hb2
      rw [hend, List.append_nil] at hpath
      refine AC_exit ?_
      refine AC_seq ?_
      refine AC_region ?_
      refine AL_p rfl rfl (S_move rfl (AEv.tmp rfl)) ?_
      refine AL_p rfl rfl (S_assign rfl (AEv.tmp rfl)) ?_
      refine AL_nil ?_
      refine AC_ret ?_
      refine ret_tmp st rfl rfl (Sub.l (List.Sublist.cons _ (List.sublist_append_right _ _))) (Conv.le (Sub.l (List.Sublist.cons _ (List.sublist_append_right _ _))) (Le_own hp)) ⟨by rw [hpath], rfl⟩ (.inl rfl)

theorem join_ok (ls : List (List UInt8)) (sep : List UInt8) (hN : ls.length ≤ 140737488355328) (hlen : (Lib.join ls sep).length ≤ 140737488355328) : PCalls Tryd.prog 20 [.sl (ls.map fun l => .S l), .S sep] (.S (Lib.join ls sep)) :=
  PCalls_join ⟨Tryd.f20, _, Tryd.func20, by kernel_rfl, rfl⟩ Tryd.strings_Join_none Tryd.strings_Join ls sep hN hlen

set_option maxRecDepth 100000 in
/-- provost/fail.Text -/
theorem fail_Text_ok (e : Er) (he : (erPath e).length ≤ 1000000) (hj : (Lib.join (erPath e) [46]).length ≤ 140737488355328) : GCalls Tryd.prog tabs 8 [erV 40 79 e] (.S (Lib.join (erPath e) [46])) := by
  intro st hG
  refine ACalls_of (N := 6) Tryd.func8 (by kernel_rfl) rfl rfl rfl ?_
  refine AC_seq ?_
  refine AC_region ?_
  refine AL_p rfl rfl (S_assign rfl (AEv.S _)) ?_
  refine AL_nil ?_
  refine AC_seq ?_
  refine AC_region ?_
  refine AL_p rfl rfl (S_move rfl (AEv.tmp rfl)) ?_
  refine AL_p rfl rfl (S_gcall rfl (AEvs.cons (AEv.tmp rfl) AEvs.nil) ((fail_Path_ok e he) _ (fun p hp => by first | exact hG p hp | (simp [hG p hp]; done)))) ?_
  refine AL_p rfl rfl (S_pcall rfl (AEvs.cons (AEv.tmp rfl) (AEvs.cons (AEv.S _) AEvs.nil)) (join_ok (erPath e) [46] (by omega) hj)) ?_
  refine AL_p rfl rfl (S_assign rfl (AEv.tmp rfl)) ?_
  refine AL_nil ?_
  refine AC_ret ?_
  refine ret_tmp st rfl rfl (Sub.l (List.Sublist.refl _)) (Conv.refl (Sub.l (List.Sublist.refl _)) _) ⟨by first | rfl | (simp; done), rfl⟩ (.inl rfl)

end Go.Proofs.YtfdcadnaginnpaaDoor

/-
The walks of Go functions in the logic AL: what each of them answers.
Conditions: those of each theorem.
-/
set_option linter.unusedVariables false
set_option linter.unusedSimpArgs false
namespace Go.Proofs.YtfdcadnaginnpaaDoor
open Go.AL Go.NumSpec

set_option maxRecDepth 100000 in
/-- provost/spec.within -/
theorem spec_within_ok (name : List UInt8) (n lo hi : Int) : PCalls Tryd.prog 19 [.S name, .int .i64 n, .int .i64 lo, .int .i64 hi] (erV 40 79 (withinE name n lo hi)) := by
  intro st
  refine ACalls_of (N := 20) Tryd.func19 (by kernel_rfl) rfl rfl rfl ?_
  refine AC_seq ?_
  refine AC_region ?_
  refine AL_p rfl rfl (S_assign rfl (AEv.const _)) ?_
  refine AL_nil ?_
  refine AC_seq ?_
  refine AC_seq ?_
  refine AC_region ?_
  refine AL_p rfl rfl (S_move rfl (AEv.tmp rfl)) ?_
  refine AL_p rfl rfl (S_move rfl (AEv.tmp rfl)) ?_
  refine AL_p rfl rfl (S_lss rfl (AEv.tmp rfl) (AEv.tmp rfl)) ?_
  refine AL_p rfl rfl (S_move rfl (AEv.tmp rfl)) ?_
  refine AL_g rfl rfl (AEv.tmp rfl) rfl (fun hg1 => S_move rfl (AEv.tmp rfl)) ?_
  refine AL_g rfl rfl (AEv.tmp rfl) rfl (fun hg4 => S_move rfl (AEv.tmp rfl)) ?_
  refine AL_g rfl rfl (AEv.tmp rfl) rfl (fun hg7 => S_gtr rfl (AEv.cond (AEv.tmp rfl) (by first | assumption | exact gdAnd (by assumption) (by assumption))) (AEv.cond (AEv.tmp rfl) (by first | assumption | exact gdAnd (by assumption) (by assumption)))) ?_
  refine AL_p rfl rfl (S_or rfl (AEv.tmp rfl) (fun hp10 => (AEv.cond (AEv.tmp rfl) (by first | assumption | exact gdT hp10 | exact gdF hp10 | exact gdAnd (by assumption) (gdT hp10) | exact gdAnd (by assumption) (gdF hp10))))) ?_
  refine AL_nil ?_
  refine AC_cond (AEv.tmp rfl) (fun hb11 => ?_) (fun hb11 => ?_)
  · try simp only [Bool.and_eq_true, Bool.or_eq_true, Bool.not_eq_true', Bool.not_eq_false', Bool.and_eq_false_iff, Bool.or_eq_false_iff, decide_eq_true_eq, decide_eq_false_iff_not, gd] at hb11
    refine AC_seq ?_
    refine AC_region ?_
    refine AL_p rfl rfl (S_move rfl (AEv.tmp rfl)) ?_
    refine AL_p rfl rfl (S_buildSlice (e := 9) 1 rfl (AEvs.cons (AEv.tmp rfl) AEvs.nil) rfl (by kernel_rfl) (by kernel_rfl) (by simp [AV.flat, AV.one, AV.cells, Value.oneCell']) (by decide) (by decide) (by decide)) ?_
    refine AL_p rfl rfl (S_pcall rfl (AEvs.cons (AEv.const _) (AEvs.cons (AEv.tmp rfl) AEvs.nil)) (fail_New_ok 1 [name] (by simp))) ?_
    refine AL_p rfl rfl (S_assign rfl (AEv.tmp rfl)) ?_
    refine AL_nil ?_
    refine AC_ret ?_
    refine ret_tmp st rfl rfl (Sub.l (List.Sublist.refl _)) (Conv.refl (Sub.l (List.Sublist.refl _)) _) ⟨by rw [withinE, if_pos (by omega)]; rfl, rfl⟩ (.inl rfl)
  · try simp only [Bool.and_eq_true, Bool.or_eq_true, Bool.not_eq_true', Bool.not_eq_false', Bool.and_eq_false_iff, Bool.or_eq_false_iff, decide_eq_true_eq, decide_eq_false_iff_not, gd] at hb11
    refine AC_skip ?_
    refine AC_seq ?_
    refine AC_region ?_
    refine AL_p rfl rfl (S_assign rfl (AEv.const _)) ?_
    refine AL_nil ?_
    refine AC_ret ?_
    refine ret_tmp st rfl rfl (Sub.l (List.Sublist.refl _)) (Conv.refl (Sub.l (List.Sublist.refl _)) _) ⟨by rw [withinE, if_neg (by omega)]; rfl, rfl⟩ (.inl rfl)

set_option maxRecDepth 100000 in
/-- provost/spec.atMost -/
theorem spec_atMost_ok (name : List UInt8) (n lo hi : Int) : PCalls Tryd.prog 17 [.S name, .int .i64 n, .int .i64 lo, .int .i64 hi] (erV 40 79 (atMostE name n lo hi)) := by
  intro st
  refine ACalls_of (N := 20) Tryd.func17 (by kernel_rfl) rfl rfl rfl ?_
  refine AC_seq ?_
  refine AC_region ?_
  refine AL_p rfl rfl (S_assign rfl (AEv.const _)) ?_
  refine AL_nil ?_
  refine AC_seq ?_
  refine AC_seq ?_
  refine AC_region ?_
  refine AL_p rfl rfl (S_move rfl (AEv.tmp rfl)) ?_
  refine AL_p rfl rfl (S_move rfl (AEv.tmp rfl)) ?_
  refine AL_p rfl rfl (S_lss rfl (AEv.tmp rfl) (AEv.tmp rfl)) ?_
  refine AL_p rfl rfl (S_move rfl (AEv.tmp rfl)) ?_
  refine AL_g rfl rfl (AEv.tmp rfl) rfl (fun hg1 => S_move rfl (AEv.tmp rfl)) ?_
  refine AL_g rfl rfl (AEv.tmp rfl) rfl (fun hg4 => S_move rfl (AEv.tmp rfl)) ?_
  refine AL_g rfl rfl (AEv.tmp rfl) rfl (fun hg7 => S_gtr rfl (AEv.cond (AEv.tmp rfl) (by first | assumption | exact gdAnd (by assumption) (by assumption))) (AEv.cond (AEv.tmp rfl) (by first | assumption | exact gdAnd (by assumption) (by assumption)))) ?_
  refine AL_p rfl rfl (S_or rfl (AEv.tmp rfl) (fun hp10 => (AEv.cond (AEv.tmp rfl) (by first | assumption | exact gdT hp10 | exact gdF hp10 | exact gdAnd (by assumption) (gdT hp10) | exact gdAnd (by assumption) (gdF hp10))))) ?_
  refine AL_nil ?_
  refine AC_cond (AEv.tmp rfl) (fun hb11 => ?_) (fun hb11 => ?_)
  · try simp only [Bool.and_eq_true, Bool.or_eq_true, Bool.not_eq_true', Bool.not_eq_false', Bool.and_eq_false_iff, Bool.or_eq_false_iff, decide_eq_true_eq, decide_eq_false_iff_not, gd] at hb11
    refine AC_seq ?_
    refine AC_region ?_
    refine AL_p rfl rfl (S_move rfl (AEv.tmp rfl)) ?_
    refine AL_p rfl rfl (S_buildSlice (e := 9) 1 rfl (AEvs.cons (AEv.tmp rfl) AEvs.nil) rfl (by kernel_rfl) (by kernel_rfl) (by simp [AV.flat, AV.one, AV.cells, Value.oneCell']) (by decide) (by decide) (by decide)) ?_
    refine AL_p rfl rfl (S_pcall rfl (AEvs.cons (AEv.const _) (AEvs.cons (AEv.tmp rfl) AEvs.nil)) (fail_New_ok 2 [name] (by simp))) ?_
    refine AL_p rfl rfl (S_assign rfl (AEv.tmp rfl)) ?_
    refine AL_nil ?_
    refine AC_ret ?_
    refine ret_tmp st rfl rfl (Sub.l (List.Sublist.refl _)) (Conv.refl (Sub.l (List.Sublist.refl _)) _) ⟨by rw [atMostE, if_pos (by omega)]; rfl, rfl⟩ (.inl rfl)
  · try simp only [Bool.and_eq_true, Bool.or_eq_true, Bool.not_eq_true', Bool.not_eq_false', Bool.and_eq_false_iff, Bool.or_eq_false_iff, decide_eq_true_eq, decide_eq_false_iff_not, gd] at hb11
    refine AC_skip ?_
    refine AC_seq ?_
    refine AC_region ?_
    refine AL_p rfl rfl (S_assign rfl (AEv.const _)) ?_
    refine AL_nil ?_
    refine AC_ret ?_
    refine ret_tmp st rfl rfl (Sub.l (List.Sublist.refl _)) (Conv.refl (Sub.l (List.Sublist.refl _)) _) ⟨by rw [atMostE, if_neg (by omega)]; rfl, rfl⟩ (.inl rfl)

set_option maxRecDepth 100000 in
/-- provost/spec.most -/
theorem spec_most_ok (name : List UInt8) (n lo : Int) : PCalls Tryd.prog 65 [.S name, .int .i64 n, .int .i64 lo] (erV 40 79 (mostE name n lo)) := by
  intro st
  refine ACalls_of (N := 13) Tryd.func65 (by kernel_rfl) rfl rfl rfl ?_
  refine AC_seq ?_
  refine AC_region ?_
  refine AL_p rfl rfl (S_assign rfl (AEv.const _)) ?_
  refine AL_nil ?_
  refine AC_seq ?_
  refine AC_seq ?_
  refine AC_region ?_
  refine AL_p rfl rfl (S_move rfl (AEv.tmp rfl)) ?_
  refine AL_p rfl rfl (S_eql rfl (AEv.tmp rfl) (AEv.const _)) ?_
  refine AL_nil ?_
  refine AC_cond (AEv.tmp rfl) (fun hb1 => ?_) (fun hb1 => ?_)
  · try simp only [Bool.and_eq_true, Bool.or_eq_true, Bool.not_eq_true', Bool.not_eq_false', Bool.and_eq_false_iff, Bool.or_eq_false_iff, decide_eq_true_eq, decide_eq_false_iff_not, gd] at hb1
    refine AC_seq ?_
    refine AC_region ?_
    refine AL_p rfl rfl (S_assign rfl (AEv.const _)) ?_
    refine AL_nil ?_
    refine AC_ret ?_
    refine ret_tmp st rfl rfl (Sub.l (List.Sublist.refl _)) (Conv.refl (Sub.l (List.Sublist.refl _)) _) ⟨by rw [mostE, if_pos (by omega)]; rfl, rfl⟩ (.inl rfl)
  · try simp only [Bool.and_eq_true, Bool.or_eq_true, Bool.not_eq_true', Bool.not_eq_false', Bool.and_eq_false_iff, Bool.or_eq_false_iff, decide_eq_true_eq, decide_eq_false_iff_not, gd] at hb1
    refine AC_skip ?_
    refine AC_seq ?_
    refine AC_region ?_
    refine AL_p rfl rfl (S_move rfl (AEv.tmp rfl)) ?_
    refine AL_p rfl rfl (S_move rfl (AEv.tmp rfl)) ?_
    refine AL_p rfl rfl (S_move rfl (AEv.tmp rfl)) ?_
    refine AL_p rfl rfl (S_pcall rfl (AEvs.cons (AEv.tmp rfl) (AEvs.cons (AEv.tmp rfl) (AEvs.cons (AEv.tmp rfl) (AEvs.cons (AEv.const _) AEvs.nil)))) (spec_within_ok _ _ _ _)) ?_
    refine AL_p rfl rfl (S_assign rfl (AEv.tmp rfl)) ?_
    refine AL_nil ?_
    refine AC_ret ?_
    refine ret_tmp st rfl rfl (Sub.l (List.Sublist.refl _)) (Conv.refl (Sub.l (List.Sublist.refl _)) _) ⟨by rw [mostE, if_neg (by omega)], rfl⟩ (.inl rfl)

set_option maxRecDepth 100000 in
/-- provost/spec.at -/
theorem spec_at_ok (name : List UInt8) (hn : name.length ≤ 1000000) (i : Int) (hi : fits i) : PCalls Tryd.prog 26 [.S name, .int .i64 i] (.S (atT name i)) := by
  intro st
  refine ACalls_of (N := 11) Tryd.func26 (by kernel_rfl) rfl rfl rfl ?_
  have ht := textL_len hi
  refine AC_seq ?_
  refine AC_region ?_
  refine AL_p rfl rfl (S_assign rfl (AEv.S _)) ?_
  refine AL_nil ?_
  refine AC_seq ?_
  refine AC_region ?_
  refine AL_p rfl rfl (S_move rfl (AEv.tmp rfl)) ?_
  refine AL_p rfl rfl (S_cat rfl (AEv.tmp rfl) (AEv.S _) (by first | omega | (simp only [List.length_append, List.length_singleton]; omega))) ?_
  refine AL_p rfl rfl (S_move rfl (AEv.tmp rfl)) ?_
  refine AL_p rfl rfl (S_pcall rfl (AEvs.cons (AEv.tmp rfl) AEvs.nil) (num_Text_ok i hi)) ?_
  refine AL_p rfl rfl (S_cat rfl (AEv.tmp rfl) (AEv.tmp rfl) (by first | omega | (simp only [List.length_append, List.length_singleton]; omega))) ?_
  refine AL_p rfl rfl (S_cat rfl (AEv.tmp rfl) (AEv.S _) (by first | omega | (simp only [List.length_append, List.length_singleton]; omega))) ?_
  refine AL_p rfl rfl (S_assign rfl (AEv.tmp rfl)) ?_
  refine AL_nil ?_
  refine AC_ret ?_
  refine ret_tmp st rfl rfl (Sub.l (List.Sublist.refl _)) (Conv.refl (Sub.l (List.Sublist.refl _)) _) ⟨rfl, rfl⟩ (.inl rfl)

set_option maxRecDepth 100000 in
/-- provost/spec.req -/
theorem spec_req_ok (r : Int × Int × Int) : PCalls Tryd.prog 49 [resAV r] (erV 40 79 (reqE r)) := by
  intro st
  refine ACalls_of (N := 15) Tryd.func49 (by kernel_rfl) rfl rfl rfl ?_
  refine AC_seq ?_
  refine AC_region ?_
  refine AL_step rfl rfl (S_box rfl (AEv.tmp rfl)) ?_
  rintro _ _ ⟨b1, rfl, rfl⟩
  refine AL_p rfl rfl (S_assign rfl (AEv.const _)) ?_
  refine AL_nil ?_
  refine AC_seq ?_
  refine AC_draw (by kernel_rfl) (by kernel_rfl) (.cons rfl (Q_p rfl (S_field 0 rfl (AEv.tmp rfl) (by kernel_rfl))) <|
      .cons rfl (Q_p rfl (S_load 0 rfl (AEv.tmp rfl) rfl rfl (by kernel_rfl))) <|
      .cons rfl (Q_p rfl (S_pcall rfl (AEvs.cons (AEv.S _) (AEvs.cons (AEv.tmp rfl) (AEvs.cons (AEv.const _) (AEvs.cons (AEv.const _) AEvs.nil)))) (spec_within_ok _ _ _ _))) <|
      .cons rfl (Q_p rfl (S_field 1 rfl (AEv.tmp rfl) (by kernel_rfl))) <|
      .cons rfl (Q_p rfl (S_load 0 rfl (AEv.tmp rfl) rfl rfl (by kernel_rfl))) <|
      .cons rfl (Q_p rfl (S_pcall rfl (AEvs.cons (AEv.S _) (AEvs.cons (AEv.tmp rfl) (AEvs.cons (AEv.const _) (AEvs.cons (AEv.const _) AEvs.nil)))) (spec_within_ok _ _ _ _))) <|
      .cons rfl (Q_p rfl (S_field 2 rfl (AEv.tmp rfl) (by kernel_rfl))) <|
      .cons rfl (Q_p rfl (S_load 0 rfl (AEv.tmp rfl) rfl rfl (by kernel_rfl))) <|
      .cons rfl (Q_p rfl (S_pcall rfl (AEvs.cons (AEv.S _) (AEvs.cons (AEv.tmp rfl) (AEvs.cons (AEv.const _) (AEvs.cons (AEv.const _) AEvs.nil)))) (spec_within_ok _ _ _ _))) <|
      .cons rfl (Q_p rfl (S_buildSlice (e := 29) 1 rfl (AEvs.cons (AEv.tmp rfl) (AEvs.cons (AEv.tmp rfl) (AEvs.cons (AEv.tmp rfl) AEvs.nil))) rfl (by kernel_rfl) (by kernel_rfl) (by intro y hy; simp only [List.mem_cons, List.not_mem_nil, or_false] at hy; rcases hy with rfl | rfl | rfl <;> exact ⟨er_flat _ _ _, by rw [er_cells]; rfl⟩) (by decide) (by decide) (by decide))) <|
      .cons rfl (Q_p rfl (S_pcall rfl (AEvs.cons (AEv.tmp rfl) AEvs.nil) (fail_First_ok [withinE [99, 112, 117] r.1 0 1099511627776, withinE [109, 101, 109] r.2.1 0 1099511627776, withinE [112, 105, 100, 115] r.2.2 0 1099511627776] (by simp)))) <|
      .cons rfl (Q_p rfl (S_pcall rfl (AEvs.cons (AEv.tmp rfl) (AEvs.cons (AEv.S _) AEvs.nil)) (fail_In_ok (firstE [withinE [99, 112, 117] r.1 0 1099511627776, withinE [109, 101, 109] r.2.1 0 1099511627776, withinE [112, 105, 100, 115] r.2.2 0 1099511627776]) [114, 101, 113]))) <|
      .cons rfl (Q_p rfl (S_assign rfl (AEv.tmp rfl))) <|
      .nil) ?_
  refine AC_ret ?_
  refine ret_tmp st rfl rfl (Sub.l (List.Sublist.cons _ (List.Sublist.refl _))) (Conv.refl (Sub.l (List.Sublist.cons _ (List.Sublist.refl _))) _) ⟨rfl, rfl⟩ (.inl rfl)

set_option maxRecDepth 100000 in
/-- provost/spec.lim -/
theorem spec_lim_ok (l r : Int × Int × Int) : PCalls Tryd.prog 50 [resAV l, resAV r] (erV 40 79 (limE l r)) := by
  intro st
  refine ACalls_of (N := 23) Tryd.func50 (by kernel_rfl) rfl rfl rfl ?_
  refine AC_seq ?_
  refine AC_region ?_
  refine AL_step rfl rfl (S_box rfl (AEv.tmp rfl)) ?_
  rintro _ _ ⟨b1, rfl, rfl⟩
  refine AL_step rfl rfl (S_box rfl (AEv.tmp rfl)) ?_
  rintro _ _ ⟨b2, rfl, rfl⟩
  refine AL_p rfl rfl (S_assign rfl (AEv.const _)) ?_
  refine AL_nil ?_
  refine AC_seq ?_
  refine AC_draw (by kernel_rfl) (by kernel_rfl) (.cons rfl (Q_p rfl (S_field 0 rfl (AEv.tmp rfl) (by kernel_rfl))) <|
      .cons rfl (Q_p rfl (S_load 1 rfl (AEv.tmp rfl) rfl rfl (by kernel_rfl))) <|
      .cons rfl (Q_p rfl (S_field 0 rfl (AEv.tmp rfl) (by kernel_rfl))) <|
      .cons rfl (Q_p rfl (S_load 0 rfl (AEv.tmp rfl) rfl rfl (by kernel_rfl))) <|
      .cons rfl (Q_p rfl (S_pcall rfl (AEvs.cons (AEv.S _) (AEvs.cons (AEv.tmp rfl) (AEvs.cons (AEv.tmp rfl) AEvs.nil))) (spec_most_ok _ _ _))) <|
      .cons rfl (Q_p rfl (S_field 1 rfl (AEv.tmp rfl) (by kernel_rfl))) <|
      .cons rfl (Q_p rfl (S_load 1 rfl (AEv.tmp rfl) rfl rfl (by kernel_rfl))) <|
      .cons rfl (Q_p rfl (S_field 1 rfl (AEv.tmp rfl) (by kernel_rfl))) <|
      .cons rfl (Q_p rfl (S_load 0 rfl (AEv.tmp rfl) rfl rfl (by kernel_rfl))) <|
      .cons rfl (Q_p rfl (S_pcall rfl (AEvs.cons (AEv.S _) (AEvs.cons (AEv.tmp rfl) (AEvs.cons (AEv.tmp rfl) AEvs.nil))) (spec_most_ok _ _ _))) <|
      .cons rfl (Q_p rfl (S_field 2 rfl (AEv.tmp rfl) (by kernel_rfl))) <|
      .cons rfl (Q_p rfl (S_load 1 rfl (AEv.tmp rfl) rfl rfl (by kernel_rfl))) <|
      .cons rfl (Q_p rfl (S_field 2 rfl (AEv.tmp rfl) (by kernel_rfl))) <|
      .cons rfl (Q_p rfl (S_load 0 rfl (AEv.tmp rfl) rfl rfl (by kernel_rfl))) <|
      .cons rfl (Q_p rfl (S_pcall rfl (AEvs.cons (AEv.S _) (AEvs.cons (AEv.tmp rfl) (AEvs.cons (AEv.tmp rfl) AEvs.nil))) (spec_most_ok _ _ _))) <|
      .cons rfl (Q_p rfl (S_buildSlice (e := 29) 1 rfl (AEvs.cons (AEv.tmp rfl) (AEvs.cons (AEv.tmp rfl) (AEvs.cons (AEv.tmp rfl) AEvs.nil))) rfl (by kernel_rfl) (by kernel_rfl) (by intro y hy; simp only [List.mem_cons, List.not_mem_nil, or_false] at hy; rcases hy with rfl | rfl | rfl <;> exact ⟨er_flat _ _ _, by rw [er_cells]; rfl⟩) (by decide) (by decide) (by decide))) <|
      .cons rfl (Q_p rfl (S_pcall rfl (AEvs.cons (AEv.tmp rfl) AEvs.nil) (fail_First_ok [mostE [99, 112, 117] l.1 r.1, mostE [109, 101, 109] l.2.1 r.2.1, mostE [112, 105, 100, 115] l.2.2 r.2.2] (by simp)))) <|
      .cons rfl (Q_p rfl (S_pcall rfl (AEvs.cons (AEv.tmp rfl) (AEvs.cons (AEv.S _) AEvs.nil)) (fail_In_ok (firstE [mostE [99, 112, 117] l.1 r.1, mostE [109, 101, 109] l.2.1 r.2.1, mostE [112, 105, 100, 115] l.2.2 r.2.2]) [108, 105, 109]))) <|
      .cons rfl (Q_p rfl (S_assign rfl (AEv.tmp rfl))) <|
      .nil) ?_
  refine AC_ret ?_
  refine ret_tmp st rfl rfl (Sub.l (List.Sublist.cons _ (List.Sublist.cons _ (List.Sublist.refl _)))) (Conv.refl (Sub.l (List.Sublist.cons _ (List.Sublist.cons _ (List.Sublist.refl _)))) _) ⟨rfl, rfl⟩ (.inl rfl)

set_option maxRecDepth 100000 in
/-- provost/spec.probe -/
theorem spec_probe_ok (p : Int × Int) (every : Int) : PCalls Tryd.prog 52 [probeAV p, .int .i64 every] (erV 40 79 (probeE p every)) := by
  intro st
  refine ACalls_of (N := 22) Tryd.func52 (by kernel_rfl) rfl rfl rfl ?_
  refine AC_seq ?_
  refine AC_region ?_
  refine AL_step rfl rfl (S_box rfl (AEv.tmp rfl)) ?_
  rintro _ _ ⟨b1, rfl, rfl⟩
  refine AL_p rfl rfl (S_assign rfl (AEv.const _)) ?_
  refine AL_nil ?_
  refine AC_seq ?_
  refine AC_region ?_
  refine AL_p rfl rfl (S_assign rfl (AEv.const _)) ?_
  refine AL_p rfl rfl (S_assign rfl (AEv.const _)) ?_
  refine AL_nil ?_
  refine AC_join (G := Unit) (fun _ => True) (fun _ => [(1, .int .i64 every), (2, .ptr b1 0), (5, .int .i64 (if p.1 = 0 then 0 else 1)), (6, .int .i64 (if p.1 = 0 then 0 else 10))]) (fun _ => (b1, .cells [.int .i64 p.1, .int .i64 p.2]) :: st) ?_ ?_
  · refine AC_seq ?_
    refine AC_region ?_
    refine AL_p rfl rfl (S_field 0 rfl (AEv.tmp rfl) (by kernel_rfl)) ?_
    refine AL_p rfl rfl (S_load 0 rfl (AEv.tmp rfl) rfl rfl (by kernel_rfl)) ?_
    refine AL_p rfl rfl (S_eql rfl (AEv.tmp rfl) (AEv.const _)) ?_
    refine AL_nil ?_
    refine AC_cond (AEv.tmp rfl) (fun hb2 => ?_) (fun hb2 => ?_)
    · try simp only [Bool.and_eq_true, Bool.or_eq_true, Bool.not_eq_true', Bool.not_eq_false', Bool.and_eq_false_iff, Bool.or_eq_false_iff, decide_eq_true_eq, decide_eq_false_iff_not, gd] at hb2
      have hp0 : p.1 = 0 := by omega
      refine AC_region ?_
      refine AL_p rfl rfl (S_assign rfl (AEv.const _)) ?_
      refine AL_p rfl rfl (S_assign rfl (AEv.const _)) ?_
      refine AL_nil ?_
      exact ⟨(), trivial, rfl, .cons rfl (Le.refl _) (.cons rfl (Le.refl _) (.cons rfl (Le.of_eq (by rw [if_pos hp0])) (.cons rfl (Le.of_eq (by rw [if_pos hp0])) .nil)))⟩
    · try simp only [Bool.and_eq_true, Bool.or_eq_true, Bool.not_eq_true', Bool.not_eq_false', Bool.and_eq_false_iff, Bool.or_eq_false_iff, decide_eq_true_eq, decide_eq_false_iff_not, gd] at hb2
      have hp0 : ¬ p.1 = 0 := by omega
      refine AC_skip ?_
      exact ⟨(), trivial, rfl, .cons rfl (Le.refl _) (.cons rfl (Le.refl _) (.cons rfl (Le.of_eq (by rw [if_neg hp0])) (.cons rfl (Le.of_eq (by rw [if_neg hp0])) .nil)))⟩
  · rintro _ _
    try dsimp only
    refine AC_seq ?_
    refine AC_draw (by kernel_rfl) (by kernel_rfl) (.cons rfl (Q_p rfl (S_field 0 rfl (AEv.tmp rfl) (by kernel_rfl))) <|
        .cons rfl (Q_p rfl (S_load 0 rfl (AEv.tmp rfl) rfl rfl (by kernel_rfl))) <|
        .cons rfl (Q_p rfl (S_move rfl (AEv.tmp rfl))) <|
        .cons rfl (Q_p rfl (S_pcall rfl (AEvs.cons (AEv.S _) (AEvs.cons (AEv.tmp rfl) (AEvs.cons (AEv.const _) (AEvs.cons (AEv.tmp rfl) AEvs.nil)))) (spec_within_ok _ _ _ _))) <|
        .cons rfl (Q_p rfl (S_field 1 rfl (AEv.tmp rfl) (by kernel_rfl))) <|
        .cons rfl (Q_p rfl (S_load 0 rfl (AEv.tmp rfl) rfl rfl (by kernel_rfl))) <|
        .cons rfl (Q_p rfl (S_move rfl (AEv.tmp rfl))) <|
        .cons rfl (Q_p rfl (S_move rfl (AEv.tmp rfl))) <|
        .cons rfl (Q_p rfl (S_pcall rfl (AEvs.cons (AEv.S _) (AEvs.cons (AEv.tmp rfl) (AEvs.cons (AEv.tmp rfl) (AEvs.cons (AEv.tmp rfl) AEvs.nil)))) (spec_within_ok [102, 97, 105, 108, 115] p.2 (if p.1 = 0 then 0 else 1) (if p.1 = 0 then 0 else 10)))) <|
        .cons rfl (Q_p rfl (S_buildSlice (e := 29) 1 rfl (AEvs.cons (AEv.tmp rfl) (AEvs.cons (AEv.tmp rfl) AEvs.nil)) rfl (by kernel_rfl) (by kernel_rfl) (by intro y hy; simp only [List.mem_cons, List.not_mem_nil, or_false] at hy; rcases hy with rfl | rfl <;> exact ⟨er_flat _ _ _, by rw [er_cells]; rfl⟩) (by decide) (by decide) (by decide))) <|
        .cons rfl (Q_p rfl (S_pcall rfl (AEvs.cons (AEv.tmp rfl) AEvs.nil) (fail_First_ok [withinE [101, 118, 101, 114, 121] p.1 0 every, withinE [102, 97, 105, 108, 115] p.2 (if p.1 = 0 then 0 else 1) (if p.1 = 0 then 0 else 10)] (by simp)))) <|
        .cons rfl (Q_p rfl (S_pcall rfl (AEvs.cons (AEv.tmp rfl) (AEvs.cons (AEv.S _) AEvs.nil)) (fail_In_ok (firstE [withinE [101, 118, 101, 114, 121] p.1 0 every, withinE [102, 97, 105, 108, 115] p.2 (if p.1 = 0 then 0 else 1) (if p.1 = 0 then 0 else 10)]) [112, 114, 111, 98, 101]))) <|
        .cons rfl (Q_p rfl (S_assign rfl (AEv.tmp rfl))) <|
        .nil) ?_
    refine AC_ret ?_
    refine ret_tmp st rfl rfl (Sub.l (List.Sublist.cons _ (List.Sublist.refl _))) (Conv.refl (Sub.l (List.Sublist.cons _ (List.Sublist.refl _))) _) ⟨rfl, rfl⟩ (.inl rfl)

set_option maxRecDepth 100000 in
/-- slices.Index[[]string,string] -/
theorem slices_IndexS_ok (l : List (List UInt8)) (s : List UInt8) (hl : l.length ≤ 1000000) : PCalls Tryd.prog 70 [.sl (strsV l), .S s] (.int .i64 (idxG l s)) := by
  intro st
  refine ACalls_of (N := 19) Tryd.func70 (by kernel_rfl) rfl rfl rfl ?_
  have hll : (strsV l).length = l.length := by simp [strsV]
  refine AC_seq ?_
  refine AC_region ?_
  refine AL_p rfl rfl (S_assign rfl (AEv.const _)) ?_
  refine AL_nil ?_
  refine AC_seq ?_
  refine AC_seq ?_
  refine AC_region ?_
  refine AL_p rfl rfl (S_move rfl (AEv.tmp rfl)) ?_
  refine AL_p rfl rfl (S_len (e := 9) rfl (AEv.tmp rfl) (by kernel_rfl)) ?_
  refine AL_p rfl rfl (S_move rfl (AEv.const _)) ?_
  refine AL_nil ?_
  refine AC_block ?_
  refine AC_loop (G := Nat) (fun i => i ≤ l.length ∧ ∀ j (hj : j < i) (hj2 : j < l.length), l[j] ≠ s) (fun i => [(0, .sl (strsV l)), (1, .S s), (7, .int .i64 ((strsV l).length : Int)), (8, .int .i64 (i : Int))]) (fun i => st) (fun i => l.length - i) (0) (⟨Nat.zero_le _, fun j hj => absurd hj (Nat.not_lt_zero _)⟩) rfl ?_ ?_
  · exact .cons rfl (Le.refl _) (.cons rfl (Le.refl _) (.cons rfl (Le.refl _) (.cons rfl (Le.refl _) .nil)))
  · rintro i ⟨hi, hno⟩
    try dsimp only
    refine AC_seq ?_
    refine AC_region ?_
    refine AL_p rfl rfl (S_lss rfl (AEv.tmp rfl) (AEv.tmp rfl)) ?_
    refine AL_nil ?_
    refine AC_seq ?_
    refine AC_cond (AEv.tmp rfl) (fun hb1 => ?_) (fun hb1 => ?_)
    · try simp only [Bool.and_eq_true, Bool.or_eq_true, Bool.not_eq_true', Bool.not_eq_false', Bool.and_eq_false_iff, Bool.or_eq_false_iff, decide_eq_true_eq, decide_eq_false_iff_not, gd] at hb1
      have hil : i < l.length := by omega
      refine AC_skip ?_
      refine AC_seq ?_
      refine AC_block ?_
      refine AC_seq ?_
      refine AC_region ?_
      refine AL_p rfl rfl (S_move rfl (AEv.tmp rfl)) ?_
      refine AL_p rfl rfl (S_assign rfl (AEv.tmp rfl)) ?_
      refine AL_nil ?_
      refine AC_seq ?_
      refine AC_region ?_
      refine AL_p rfl rfl (S_move rfl (AEv.tmp rfl)) ?_
      refine AL_p rfl rfl (S_move rfl (AEv.tmp rfl)) ?_
      refine AL_p rfl rfl (S_move rfl (AEv.tmp rfl)) ?_
      refine AL_p rfl rfl (S_elem (e := 9) (c := .S (l[i]'hil)) (i := (i : Int)) 1 rfl (AEv.tmp rfl) (AEv.tmp rfl) (by kernel_rfl) (by kernel_rfl) (by omega) (by simp [strsV, hil]) rfl) ?_
      refine AL_p rfl rfl (S_loadP rfl (AEv.tmp rfl) rfl (by kernel_rfl)) ?_
      refine AL_p rfl rfl (S_eqS rfl (AEv.tmp rfl) (AEv.tmp rfl)) ?_
      refine AL_nil ?_
      refine AC_cond (AEv.tmp rfl) (fun hb2 => ?_) (fun hb2 => ?_)
      · try simp only [Bool.and_eq_true, Bool.or_eq_true, Bool.not_eq_true', Bool.not_eq_false', Bool.and_eq_false_iff, Bool.or_eq_false_iff, decide_eq_true_eq, decide_eq_false_iff_not, gd] at hb2
        have he : l[i]'hil = s := (by first | exact hb2.symm | omega)
        refine AC_seq ?_
        refine AC_region ?_
        refine AL_p rfl rfl (S_move rfl (AEv.tmp rfl)) ?_
        refine AL_p rfl rfl (S_assign rfl (AEv.tmp rfl)) ?_
        refine AL_nil ?_
        refine AC_ret ?_
        refine ret_tmp st rfl rfl (Sub.l (List.Sublist.refl _)) (Conv.refl (Sub.l (List.Sublist.refl _)) _) ⟨by rw [idxG_hit hil he fun j hj => hno j hj (by omega)], rfl⟩ (.inl rfl)
      · try simp only [Bool.and_eq_true, Bool.or_eq_true, Bool.not_eq_true', Bool.not_eq_false', Bool.and_eq_false_iff, Bool.or_eq_false_iff, decide_eq_true_eq, decide_eq_false_iff_not, gd] at hb2
        have hne : ¬ s = l[i]'hil := (by first | exact hb2 | omega)
        refine AC_skip ?_
        refine AC_region ?_
        refine AL_p rfl rfl (S_addI rfl (AEv.tmp rfl) (AEv.const _) (by omega) (by omega)) ?_
        refine AL_p rfl rfl (S_move rfl (AEv.tmp rfl)) ?_
        refine AL_nil ?_
        refine ⟨i + 1, ⟨by omega, fun j hj hj2 => ?_⟩, by omega, rfl, .cons rfl (Le.refl _) (.cons rfl (Le.refl _) (.cons rfl (Le.refl _) (.cons rfl (Le.of_eq (by rw [Int.natCast_add]; rfl)) .nil)))⟩
        rcases Nat.lt_or_ge j i with h | h
        · exact hno j h hj2
        · have : j = i := by omega
          subst this
          exact fun e => hne e.symm
    · try simp only [Bool.and_eq_true, Bool.or_eq_true, Bool.not_eq_true', Bool.not_eq_false', Bool.and_eq_false_iff, Bool.or_eq_false_iff, decide_eq_true_eq, decide_eq_false_iff_not, gd] at hb1
      refine AC_exit ?_
      refine AC_seq ?_
      refine AC_region ?_
      refine AL_p rfl rfl (S_assign rfl (AEv.const _)) ?_
      refine AL_nil ?_
      refine AC_ret ?_
      refine ret_tmp st rfl rfl (Sub.l (List.Sublist.refl _)) (Conv.refl (Sub.l (List.Sublist.refl _)) _) ⟨by rw [idxG_none fun j hj => hno j (by omega) hj], rfl⟩ (.inl rfl)

set_option maxRecDepth 100000 in
/-- slices.Contains[[]string,string] -/
theorem slices_ContainsS_ok (l : List (List UInt8)) (s : List UInt8) (hl : l.length ≤ 1000000) : PCalls Tryd.prog 64 [.sl (strsV l), .S s] (.bool (decide (s ∈ l))) := by
  intro st
  refine ACalls_of (N := 9) Tryd.func64 (by kernel_rfl) rfl rfl rfl ?_
  refine AC_seq ?_
  refine AC_region ?_
  refine AL_p rfl rfl (S_assign rfl (AEv.const _)) ?_
  refine AL_nil ?_
  refine AC_seq ?_
  refine AC_region ?_
  refine AL_p rfl rfl (S_move rfl (AEv.tmp rfl)) ?_
  refine AL_p rfl rfl (S_move rfl (AEv.tmp rfl)) ?_
  refine AL_p rfl rfl (S_pcall rfl (AEvs.cons (AEv.tmp rfl) (AEvs.cons (AEv.tmp rfl) AEvs.nil)) (slices_IndexS_ok l s hl)) ?_
  refine AL_p rfl rfl (S_geq rfl (AEv.tmp rfl) (AEv.const _)) ?_
  refine AL_p rfl rfl (S_assign rfl (AEv.tmp rfl)) ?_
  refine AL_nil ?_
  refine AC_ret ?_
  refine ret_tmp st rfl rfl (Sub.l (List.Sublist.refl _)) (Conv.refl (Sub.l (List.Sublist.refl _)) _) ⟨by rw [show decide (s ∈ l) = decide (0 ≤ idxG l s) from decide_eq_decide.2 (idxG_mem s l).symm], rfl⟩ (.inl rfl)

set_option maxRecDepth 100000 in
/-- slices.Index[[]int,int] -/
theorem slices_IndexI_ok (l : List Int) (s : Int) (hl : l.length ≤ 1000000) : PCalls Tryd.prog 71 [.sl (intsV l), .int .i64 s] (.int .i64 (idxG l s)) := by
  intro st
  refine ACalls_of (N := 19) Tryd.func71 (by kernel_rfl) rfl rfl rfl ?_
  have hll : (intsV l).length = l.length := by simp [intsV]
  refine AC_seq ?_
  refine AC_region ?_
  refine AL_p rfl rfl (S_assign rfl (AEv.const _)) ?_
  refine AL_nil ?_
  refine AC_seq ?_
  refine AC_seq ?_
  refine AC_region ?_
  refine AL_p rfl rfl (S_move rfl (AEv.tmp rfl)) ?_
  refine AL_p rfl rfl (S_len (e := 3) rfl (AEv.tmp rfl) (by kernel_rfl)) ?_
  refine AL_p rfl rfl (S_move rfl (AEv.const _)) ?_
  refine AL_nil ?_
  refine AC_block ?_
  refine AC_loop (G := Nat) (fun i => i ≤ l.length ∧ ∀ j (hj : j < i) (hj2 : j < l.length), l[j] ≠ s) (fun i => [(0, .sl (intsV l)), (1, .int .i64 s), (7, .int .i64 ((intsV l).length : Int)), (8, .int .i64 (i : Int))]) (fun i => st) (fun i => l.length - i) (0) (⟨Nat.zero_le _, fun j hj => absurd hj (Nat.not_lt_zero _)⟩) rfl ?_ ?_
  · exact .cons rfl (Le.refl _) (.cons rfl (Le.refl _) (.cons rfl (Le.refl _) (.cons rfl (Le.refl _) .nil)))
  · rintro i ⟨hi, hno⟩
    try dsimp only
    refine AC_seq ?_
    refine AC_region ?_
    refine AL_p rfl rfl (S_lss rfl (AEv.tmp rfl) (AEv.tmp rfl)) ?_
    refine AL_nil ?_
    refine AC_seq ?_
    refine AC_cond (AEv.tmp rfl) (fun hb1 => ?_) (fun hb1 => ?_)
    · try simp only [Bool.and_eq_true, Bool.or_eq_true, Bool.not_eq_true', Bool.not_eq_false', Bool.and_eq_false_iff, Bool.or_eq_false_iff, decide_eq_true_eq, decide_eq_false_iff_not, gd] at hb1
      have hil : i < l.length := by omega
      refine AC_skip ?_
      refine AC_seq ?_
      refine AC_block ?_
      refine AC_seq ?_
      refine AC_region ?_
      refine AL_p rfl rfl (S_move rfl (AEv.tmp rfl)) ?_
      refine AL_p rfl rfl (S_assign rfl (AEv.tmp rfl)) ?_
      refine AL_nil ?_
      refine AC_seq ?_
      refine AC_region ?_
      refine AL_p rfl rfl (S_move rfl (AEv.tmp rfl)) ?_
      refine AL_p rfl rfl (S_move rfl (AEv.tmp rfl)) ?_
      refine AL_p rfl rfl (S_move rfl (AEv.tmp rfl)) ?_
      refine AL_p rfl rfl (S_elem (e := 3) (c := .int .i64 (l[i]'hil)) (i := (i : Int)) 1 rfl (AEv.tmp rfl) (AEv.tmp rfl) (by kernel_rfl) (by kernel_rfl) (by omega) (by simp [intsV, hil]) rfl) ?_
      refine AL_p rfl rfl (S_loadP rfl (AEv.tmp rfl) rfl (by kernel_rfl)) ?_
      refine AL_p rfl rfl (S_eql rfl (AEv.tmp rfl) (AEv.tmp rfl)) ?_
      refine AL_nil ?_
      refine AC_cond (AEv.tmp rfl) (fun hb2 => ?_) (fun hb2 => ?_)
      · try simp only [Bool.and_eq_true, Bool.or_eq_true, Bool.not_eq_true', Bool.not_eq_false', Bool.and_eq_false_iff, Bool.or_eq_false_iff, decide_eq_true_eq, decide_eq_false_iff_not, gd] at hb2
        have he : l[i]'hil = s := (by first | exact hb2.symm | omega)
        refine AC_seq ?_
        refine AC_region ?_
        refine AL_p rfl rfl (S_move rfl (AEv.tmp rfl)) ?_
        refine AL_p rfl rfl (S_assign rfl (AEv.tmp rfl)) ?_
        refine AL_nil ?_
        refine AC_ret ?_
        refine ret_tmp st rfl rfl (Sub.l (List.Sublist.refl _)) (Conv.refl (Sub.l (List.Sublist.refl _)) _) ⟨by rw [idxG_hit hil he fun j hj => hno j hj (by omega)], rfl⟩ (.inl rfl)
      · try simp only [Bool.and_eq_true, Bool.or_eq_true, Bool.not_eq_true', Bool.not_eq_false', Bool.and_eq_false_iff, Bool.or_eq_false_iff, decide_eq_true_eq, decide_eq_false_iff_not, gd] at hb2
        have hne : ¬ s = l[i]'hil := (by first | exact hb2 | omega)
        refine AC_skip ?_
        refine AC_region ?_
        refine AL_p rfl rfl (S_addI rfl (AEv.tmp rfl) (AEv.const _) (by omega) (by omega)) ?_
        refine AL_p rfl rfl (S_move rfl (AEv.tmp rfl)) ?_
        refine AL_nil ?_
        refine ⟨i + 1, ⟨by omega, fun j hj hj2 => ?_⟩, by omega, rfl, .cons rfl (Le.refl _) (.cons rfl (Le.refl _) (.cons rfl (Le.refl _) (.cons rfl (Le.of_eq (by rw [Int.natCast_add]; rfl)) .nil)))⟩
        rcases Nat.lt_or_ge j i with h | h
        · exact hno j h hj2
        · have : j = i := by omega
          subst this
          exact fun e => hne e.symm
    · try simp only [Bool.and_eq_true, Bool.or_eq_true, Bool.not_eq_true', Bool.not_eq_false', Bool.and_eq_false_iff, Bool.or_eq_false_iff, decide_eq_true_eq, decide_eq_false_iff_not, gd] at hb1
      refine AC_exit ?_
      refine AC_seq ?_
      refine AC_region ?_
      refine AL_p rfl rfl (S_assign rfl (AEv.const _)) ?_
      refine AL_nil ?_
      refine AC_ret ?_
      refine ret_tmp st rfl rfl (Sub.l (List.Sublist.refl _)) (Conv.refl (Sub.l (List.Sublist.refl _)) _) ⟨by rw [idxG_none fun j hj => hno j (by omega) hj], rfl⟩ (.inl rfl)

set_option maxRecDepth 100000 in
/-- slices.Contains[[]int,int] -/
theorem slices_ContainsI_ok (l : List Int) (s : Int) (hl : l.length ≤ 1000000) : PCalls Tryd.prog 66 [.sl (intsV l), .int .i64 s] (.bool (decide (s ∈ l))) := by
  intro st
  refine ACalls_of (N := 9) Tryd.func66 (by kernel_rfl) rfl rfl rfl ?_
  refine AC_seq ?_
  refine AC_region ?_
  refine AL_p rfl rfl (S_assign rfl (AEv.const _)) ?_
  refine AL_nil ?_
  refine AC_seq ?_
  refine AC_region ?_
  refine AL_p rfl rfl (S_move rfl (AEv.tmp rfl)) ?_
  refine AL_p rfl rfl (S_move rfl (AEv.tmp rfl)) ?_
  refine AL_p rfl rfl (S_pcall rfl (AEvs.cons (AEv.tmp rfl) (AEvs.cons (AEv.tmp rfl) AEvs.nil)) (slices_IndexI_ok l s hl)) ?_
  refine AL_p rfl rfl (S_geq rfl (AEv.tmp rfl) (AEv.const _)) ?_
  refine AL_p rfl rfl (S_assign rfl (AEv.tmp rfl)) ?_
  refine AL_nil ?_
  refine AC_ret ?_
  refine ret_tmp st rfl rfl (Sub.l (List.Sublist.refl _)) (Conv.refl (Sub.l (List.Sublist.refl _)) _) ⟨by rw [show decide (s ∈ l) = decide (0 ≤ idxG l s) from decide_eq_decide.2 (idxG_mem s l).symm], rfl⟩ (.inl rfl)

set_option maxRecDepth 100000 in
/-- provost/spec.label -/
theorem spec_label_ok (name : List UInt8) (hn : name.length ≤ 1000000) (l : List Lab) (hl : l.length ≤ 1000000) (hls : ∀ x ∈ l, x.1.length ≤ 1000000 ∧ x.2.length ≤ 1000000) (i : Nat) (hi : i < l.length) : GCalls Tryd.prog tabs 31 [.S name, .sl (labsV l), .int .i64 (i : Int)] (erV 40 79 (labelE name l i)) := by
  intro st hG
  refine ACalls_of (N := 49) Tryd.func31 (by kernel_rfl) rfl rfl rfl ?_
  have hll : (labsV l).length = l.length := by simp [labsV]
  have hat : ∀ j, j < l.length → (labsV l)[j]? = some (labAV (l.getD j ([], []))) := fun j hj => by simp [labsV, hj]
  have hmem := hls (l.getD i ([], [])) (by rw [List.getD_eq_getElem?_getD, List.getElem?_eq_getElem hi]; exact List.getElem_mem hi)
  have hif : fits (i : Int) := by unfold fits; omega
  refine AC_seq ?_
  refine AC_region ?_
  refine AL_p rfl rfl (S_assign rfl (AEv.const _)) ?_
  refine AL_nil ?_
  refine AC_seq ?_
  refine AC_region ?_
  refine AL_p rfl rfl (S_move rfl (AEv.tmp rfl)) ?_
  refine AL_p rfl rfl (S_move rfl (AEv.tmp rfl)) ?_
  refine AL_p rfl rfl (S_elem (e := 45) (c := labAV (l.getD i ([], []))) (i := (i : Int)) 2 rfl (AEv.tmp rfl) (AEv.tmp rfl) (by kernel_rfl) (by kernel_rfl) (by omega) (hat _ (by omega)) rfl) ?_
  refine AL_p rfl rfl (S_loadPN (m := 2) rfl (AEv.tmp rfl) (by kernel_rfl) (by first | exact Nat.le_of_ble_eq_true rfl | (simp; omega) | simp)) ?_
  refine AL_step rfl rfl (S_alloc [.string ⟨#[]⟩, .string ⟨#[]⟩] rfl (by kernel_rfl)) ?_
  rintro _ _ ⟨b1, rfl, rfl⟩
  refine AL_step rfl rfl (S_storeN 0 rfl (AEv.tmp rfl) (AEv.tmp rfl) rfl (by first | exact Nat.le_of_ble_eq_true rfl | (simp; omega) | simp) (by first | rfl | simp [AV.one, Value.oneCell']) (by kernel_rfl)) ?_
  rintro _ _ ⟨rfl, rfl⟩
  refine AL_nil ?_
  refine AC_seq ?_
  refine AC_region ?_
  refine AL_p rfl rfl (S_field 0 rfl (AEv.tmp rfl) (by kernel_rfl)) ?_
  refine AL_p rfl rfl (S_load 0 rfl (AEv.tmp rfl) rfl rfl (by kernel_rfl)) ?_
  refine AL_p rfl rfl (S_gcall rfl (AEvs.cons (AEv.tmp rfl) AEvs.nil) ((text_Key_ok (l.getD i ([], [])).1 (by omega)) _ (fun p hp => by first | exact hG p hp | (simp [hG p hp]; done)))) ?_
  refine AL_p rfl rfl (S_buildSlice (e := 9) 1 rfl (AEvs.cons (AEv.S _) AEvs.nil) rfl (by kernel_rfl) (by kernel_rfl) (by simp [AV.flat, AV.one, AV.cells, Value.oneCell']) (by decide) (by decide) (by decide)) ?_
  refine AL_p rfl rfl (S_pcall rfl (AEvs.cons (AEv.tmp rfl) (AEvs.cons (AEv.tmp rfl) AEvs.nil)) (fail_New_ok (saysV (namesR 2 (l.getD i ([], [])).1) 31) [[107, 101, 121]] (by simp))) ?_
  refine AL_p rfl rfl (S_assign rfl (AEv.tmp rfl)) ?_
  refine AL_nil ?_
  refine AC_join (G := Unit) (fun _ => True) (fun _ => [(0, .S name), (1, .sl (labsV l)), (2, .int .i64 (i : Int)), (7, .ptr b1 0), (8, erV 40 79 (keyE l i))]) (fun _ => (b1, .cells [.S (l.getD i ([], [])).1, .S (l.getD i ([], [])).2]) :: st) ?_ ?_
  · refine AC_seq ?_
    refine AC_draw (by kernel_rfl) (by kernel_rfl) (.cons rfl (Q_p rfl (S_move rfl (AEv.tmp rfl))) <|
        .cons rfl (Q_p rfl (S_eqlE (er_is 40 79 (erNew (saysV (namesR 2 (l.getD i ([], [])).1) 31) [[107, 101, 121]])) rfl (AEv.tmp rfl) (by kernel_rfl))) <|
        .cons rfl (Q_p rfl (S_move rfl (AEv.tmp rfl))) <|
        .cons rfl (Q_g rfl rfl (AEv.tmp rfl) (fun hg2 => S_move rfl (AEv.tmp rfl))) <|
        .cons rfl (Q_g rfl rfl (AEv.tmp rfl) (fun hg5 => S_gtr rfl (AEv.cond (AEv.tmp rfl) (by first | assumption | exact gdAnd (by assumption) (by assumption))) (AEv.const _))) <|
        .cons rfl (Q_p rfl (S_and rfl (AEv.tmp rfl) (fun hp8 => (AEv.cond (AEv.tmp rfl) (by first | assumption | exact gdT hp8 | exact gdF hp8 | exact gdAnd (by assumption) (gdT hp8) | exact gdAnd (by assumption) (gdF hp8)))))) <|
        .cons rfl (Q_p rfl (S_move rfl (AEv.tmp rfl))) <|
        .cons rfl (Q_g rfl rfl (AEv.tmp rfl) (fun hg9 => S_field 0 rfl (AEv.tmp rfl) (by kernel_rfl))) <|
        .cons rfl (Q_g rfl rfl (AEv.tmp rfl) (fun hg12 => S_load 0 rfl (AEv.cond (AEv.tmp rfl) (by first | assumption | exact gdAnd (by assumption) (by assumption))) rfl rfl (by kernel_rfl))) <|
        .cons rfl (Q_g rfl rfl (AEv.tmp rfl) (fun hg15 => S_move rfl (AEv.tmp rfl))) <|
        .cons rfl (Q_g rfl rfl (AEv.tmp rfl) (fun hg18 => S_move rfl (AEv.tmp rfl))) <|
        .cons rfl (Q_g rfl rfl (AEv.tmp rfl) (fun hg21 => S_subI rfl (AEv.cond (AEv.tmp rfl) (by first | assumption | exact gdAnd (by assumption) (by assumption))) (AEv.const _) (by (try simp only [gd, Bool.and_eq_true, Bool.or_eq_true, Bool.not_eq_true', Bool.not_eq_false', decide_eq_true_eq, decide_eq_false_iff_not, Bool.or_eq_false_iff, Bool.and_eq_false_iff] at *); omega) (by (try simp only [gd, Bool.and_eq_true, Bool.or_eq_true, Bool.not_eq_true', Bool.not_eq_false', decide_eq_true_eq, decide_eq_false_iff_not, Bool.or_eq_false_iff, Bool.and_eq_false_iff] at *); omega))) <|
        .cons rfl (Q_g rfl rfl (AEv.tmp rfl) (fun hg24 => S_elem (e := 45) (c := labAV (l.getD (i - 1) ([], []))) (i := (i : Int) - 1) 2 rfl (AEv.cond (AEv.tmp rfl) (by first | assumption | exact gdAnd (by assumption) (by assumption))) (AEv.cond (AEv.tmp rfl) (by first | assumption | exact gdAnd (by assumption) (by assumption))) (by kernel_rfl) (by kernel_rfl) (by simp only [gd, Bool.and_eq_true, decide_eq_true_eq] at *; omega) (by rw [show ((i : Int) - 1).toNat = i - 1 by omega]; exact hat _ (by omega)) rfl)) <|
        .cons rfl (Q_g rfl rfl (AEv.tmp rfl) (fun hg27 => S_fieldP 0 rfl (AEv.cond (AEv.tmp rfl) (by first | assumption | exact gdAnd (by assumption) (by assumption))) (by kernel_rfl))) <|
        .cons rfl (Q_g rfl rfl (AEv.tmp rfl) (fun hg30 => S_loadP rfl (AEv.cond (AEv.tmp rfl) (by first | assumption | exact gdAnd (by assumption) (by assumption))) rfl (by kernel_rfl))) <|
        .cons rfl (Q_g rfl rfl (AEv.tmp rfl) (fun hg33 => S_leS rfl (AEv.cond (AEv.tmp rfl) (by first | assumption | exact gdAnd (by assumption) (by assumption))) (AEv.cond (AEv.tmp rfl) (by first | assumption | exact gdAnd (by assumption) (by assumption))))) <|
        .cons rfl (Q_p rfl (S_and rfl (AEv.tmp rfl) (fun hp36 => (AEv.cond (AEv.tmp rfl) (by first | assumption | exact gdT hp36 | exact gdF hp36 | exact gdAnd (by assumption) (gdT hp36) | exact gdAnd (by assumption) (gdF hp36)))))) <|
        .nil) ?_
    refine AC_cond (AEv.tmp rfl) (fun hb37 => ?_) (fun hb37 => ?_)
    · try simp only [Bool.and_eq_true, Bool.or_eq_true, Bool.not_eq_true', Bool.not_eq_false', Bool.and_eq_false_iff, Bool.or_eq_false_iff, decide_eq_true_eq, decide_eq_false_iff_not, gd] at hb37
      have hk : (erNew (saysV (namesR 2 (l.getD i ([], [])).1) 31) [[107, 101, 121]]).isNone = true ∧ 0 < i ∧ (Op.bytesLess (l.getD i ([], [])).1 (l.getD (i - 1) ([], [])).1 || decide ((l.getD i ([], [])).1 = (l.getD (i - 1) ([], [])).1)) = true := ⟨hb37.1.1, by have := hb37.1.2; omega, by simpa using hb37.2⟩
      refine AC_region ?_
      refine AL_p rfl rfl (S_buildSlice (e := 9) 1 rfl (AEvs.cons (AEv.S _) AEvs.nil) rfl (by kernel_rfl) (by kernel_rfl) (by simp [AV.flat, AV.one, AV.cells, Value.oneCell']) (by decide) (by decide) (by decide)) ?_
      refine AL_p rfl rfl (S_pcall rfl (AEvs.cons (AEv.const _) (AEvs.cons (AEv.tmp rfl) AEvs.nil)) (fail_New_ok 4 [[107, 101, 121]] (by simp))) ?_
      refine AL_p rfl rfl (S_assign rfl (AEv.tmp rfl)) ?_
      refine AL_nil ?_
      exact ⟨(), trivial, rfl, .cons rfl (Le.refl _) (.cons rfl (Le.refl _) (.cons rfl (Le.refl _) (.cons rfl (Le.refl _) (.cons rfl (Le.of_eq (by rw [keyE, if_pos hk]; rfl)) .nil))))⟩
    · try simp only [Bool.and_eq_true, Bool.or_eq_true, Bool.not_eq_true', Bool.not_eq_false', Bool.and_eq_false_iff, Bool.or_eq_false_iff, decide_eq_true_eq, decide_eq_false_iff_not, gd] at hb37
      have hk : ¬ ((erNew (saysV (namesR 2 (l.getD i ([], [])).1) 31) [[107, 101, 121]]).isNone = true ∧ 0 < i ∧ (Op.bytesLess (l.getD i ([], [])).1 (l.getD (i - 1) ([], [])).1 || decide ((l.getD i ([], [])).1 = (l.getD (i - 1) ([], [])).1)) = true) := fun ⟨h1, h2, h3⟩ => by
        rcases hb37 with (h | h) | h
        · rw [h1] at h; cases h
        · omega
        · simp at h h3; rcases h3 with h3 | h3
          · rw [h.1] at h3; cases h3
          · exact h.2 h3
      refine AC_skip ?_
      exact ⟨(), trivial, rfl, .cons rfl (Le.refl _) (.cons rfl (Le.refl _) (.cons rfl (Le.refl _) (.cons rfl (Le.refl _) (.cons rfl (Le.of_eq (by rw [keyE, if_neg hk])) .nil))))⟩
  · rintro _ _
    try dsimp only
    refine AC_seq ?_
    refine AC_region ?_
    refine AL_p rfl rfl (S_move rfl (AEv.tmp rfl)) ?_
    refine AL_p rfl rfl (S_field 1 rfl (AEv.tmp rfl) (by kernel_rfl)) ?_
    refine AL_p rfl rfl (S_load 0 rfl (AEv.tmp rfl) rfl rfl (by kernel_rfl)) ?_
    refine AL_p rfl rfl (S_gcall rfl (AEvs.cons (AEv.tmp rfl) AEvs.nil) ((text_Val_ok (l.getD i ([], [])).2 (by omega)) _ (fun p hp => by first | exact hG p hp | (simp [hG p hp]; done)))) ?_
    refine AL_p rfl rfl (S_buildSlice (e := 9) 1 rfl (AEvs.cons (AEv.S _) AEvs.nil) rfl (by kernel_rfl) (by kernel_rfl) (by simp [AV.flat, AV.one, AV.cells, Value.oneCell']) (by decide) (by decide) (by decide)) ?_
    refine AL_p rfl rfl (S_pcall rfl (AEvs.cons (AEv.tmp rfl) (AEvs.cons (AEv.tmp rfl) AEvs.nil)) (fail_New_ok (saysV (valV (l.getD i ([], [])).2) 32) [[118, 97, 108]] (by simp))) ?_
    refine AL_p rfl rfl (S_buildSlice (e := 29) 1 rfl (AEvs.cons (AEv.tmp rfl) (AEvs.cons (AEv.tmp rfl) AEvs.nil)) rfl (by kernel_rfl) (by kernel_rfl) (by intro y hy; simp only [List.mem_cons, List.not_mem_nil, or_false] at hy; rcases hy with rfl | rfl <;> exact ⟨er_flat _ _ _, by rw [er_cells]; rfl⟩) (by decide) (by decide) (by decide)) ?_
    refine AL_p rfl rfl (S_pcall rfl (AEvs.cons (AEv.tmp rfl) AEvs.nil) (fail_First_ok [keyE l i, (erNew (saysV (valV (l.getD i ([], [])).2) 32) [[118, 97, 108]])] (by simp))) ?_
    refine AL_p rfl rfl (S_move rfl (AEv.tmp rfl)) ?_
    refine AL_p rfl rfl (S_move rfl (AEv.tmp rfl)) ?_
    refine AL_p rfl rfl (S_pcall rfl (AEvs.cons (AEv.tmp rfl) (AEvs.cons (AEv.tmp rfl) AEvs.nil)) (spec_at_ok name hn (i : Int) hif)) ?_
    refine AL_p rfl rfl (S_pcall rfl (AEvs.cons (AEv.tmp rfl) (AEvs.cons (AEv.tmp rfl) AEvs.nil)) (fail_In_ok (firstE [keyE l i, (erNew (saysV (valV (l.getD i ([], [])).2) 32) [[118, 97, 108]])]) (atT name (i : Int)))) ?_
    refine AL_p rfl rfl (S_assign rfl (AEv.tmp rfl)) ?_
    refine AL_nil ?_
    refine AC_ret ?_
    refine ret_tmp st rfl rfl (Sub.l (List.Sublist.cons _ (List.Sublist.refl _))) (Conv.refl (Sub.l (List.Sublist.cons _ (List.Sublist.refl _))) _) ⟨rfl, rfl⟩ (.inl rfl)

end Go.Proofs.YtfdcadnaginnpaaDoor

/-
The walks of Go functions in the logic AL: what each of them answers.
Conditions: those of each theorem.
-/
set_option linter.unusedVariables false
set_option linter.unusedSimpArgs false
namespace Go.Proofs.YtfdcadnaginnpaaDoor
open Go.AL Go.NumSpec

set_option maxRecDepth 100000 in
/-- provost/spec.Labels -/
theorem spec_Labels_ok (name : List UInt8) (hn : name.length ≤ 1000000) (l : List Lab) (hl : l.length ≤ 1000000) (hls : ∀ x ∈ l, x.1.length ≤ 1000000 ∧ x.2.length ≤ 1000000) : GCalls Tryd.prog tabs 16 [.S name, .sl (labsV l)] (erV 40 79 (labelsE name l)) := by
  intro st hG
  refine ACalls_of (N := 26) Tryd.func16 (by kernel_rfl) rfl rfl rfl ?_
  have hll : (labsV l).length = l.length := by simp [labsV]
  refine AC_seq ?_
  refine AC_region ?_
  refine AL_p rfl rfl (S_assign rfl (AEv.const _)) ?_
  refine AL_nil ?_
  refine AC_seq ?_
  refine AC_region ?_
  refine AL_p rfl rfl (S_move rfl (AEv.tmp rfl)) ?_
  refine AL_p rfl rfl (S_move rfl (AEv.tmp rfl)) ?_
  refine AL_p rfl rfl (S_len (e := 45) rfl (AEv.tmp rfl) (by kernel_rfl)) ?_
  refine AL_p rfl rfl (S_pcall rfl (AEvs.cons (AEv.tmp rfl) (AEvs.cons (AEv.tmp rfl) (AEvs.cons (AEv.const _) (AEvs.cons (AEv.const _) AEvs.nil)))) (spec_atMost_ok name ((labsV l).length : Int) 0 4)) ?_
  refine AL_p rfl rfl (S_assign rfl (AEv.tmp rfl)) ?_
  refine AL_nil ?_
  refine AC_seq ?_
  refine AC_seq ?_
  refine AC_region ?_
  refine AL_p rfl rfl (S_assign rfl (AEv.const _)) ?_
  refine AL_nil ?_
  refine AC_block ?_
  refine AC_loop (G := Nat × Er) (fun g => g.1 ≤ l.length ∧ (g.2 = none → (atMostE name (l.length : Int) 0 4) = none ∧ ∀ j, j < g.1 → labelE name l j = none) ∧ (g.2 ≠ none → g.2 = labelsE name l)) (fun g => [(0, .S name), (1, .sl (labsV l)), (5, erV 40 79 g.2), (6, .int .i64 (g.1 : Int))]) (fun g => st) (fun g => l.length - g.1) ((0, (atMostE name (l.length : Int) 0 4))) (⟨Nat.zero_le _, fun h => ⟨h, fun j hj => absurd hj (Nat.not_lt_zero _)⟩, fun h => (labelsE_bad h).symm⟩) rfl ?_ ?_
  · exact .cons rfl (Le.refl _) (.cons rfl (Le.refl _) (.cons rfl (Le.of_eq (by rw [hll])) (.cons rfl (Le.refl _) .nil)))
  · rintro ⟨i, e⟩ ⟨hi, hno, hyes⟩
    try dsimp only
    dsimp only at hi hno hyes
    refine AC_seq ?_
    refine AC_seq ?_
    refine AC_region ?_
    refine AL_p rfl rfl (S_move rfl (AEv.tmp rfl)) ?_
    refine AL_p rfl rfl (S_eqlE (er_is 40 79 e) rfl (AEv.tmp rfl) (by kernel_rfl)) ?_
    refine AL_p rfl rfl (S_move rfl (AEv.tmp rfl)) ?_
    refine AL_g rfl rfl (AEv.tmp rfl) rfl (fun hg1 => S_move rfl (AEv.tmp rfl)) ?_
    refine AL_g rfl rfl (AEv.tmp rfl) rfl (fun hg4 => S_move rfl (AEv.tmp rfl)) ?_
    refine AL_g rfl rfl (AEv.tmp rfl) rfl (fun hg7 => S_len (e := 45) rfl (AEv.cond (AEv.tmp rfl) (by first | assumption | exact gdAnd (by assumption) (by assumption))) (by kernel_rfl)) ?_
    refine AL_g rfl rfl (AEv.tmp rfl) rfl (fun hg10 => S_lss rfl (AEv.cond (AEv.tmp rfl) (by first | assumption | exact gdAnd (by assumption) (by assumption))) (AEv.cond (AEv.tmp rfl) (by first | assumption | exact gdAnd (by assumption) (by assumption)))) ?_
    refine AL_p rfl rfl (S_and rfl (AEv.tmp rfl) (fun hp13 => (AEv.cond (AEv.tmp rfl) (by first | assumption | exact gdT hp13 | exact gdF hp13 | exact gdAnd (by assumption) (gdT hp13) | exact gdAnd (by assumption) (gdF hp13))))) ?_
    refine AL_nil ?_
    refine AC_cond (AEv.tmp rfl) (fun hb14 => ?_) (fun hb14 => ?_)
    · try simp only [Bool.and_eq_true, Bool.or_eq_true, Bool.not_eq_true', Bool.not_eq_false', Bool.and_eq_false_iff, Bool.or_eq_false_iff, decide_eq_true_eq, decide_eq_false_iff_not, gd] at hb14
      have hil : i < l.length := by have := hb14.2; omega
      obtain rfl : e = none := by cases e with | none => rfl | some x => simp at hb14
      have hn0 := hno rfl
      refine AC_skip ?_
      refine AC_seq ?_
      refine AC_block ?_
      refine AC_region ?_
      refine AL_p rfl rfl (S_move rfl (AEv.tmp rfl)) ?_
      refine AL_p rfl rfl (S_move rfl (AEv.tmp rfl)) ?_
      refine AL_p rfl rfl (S_move rfl (AEv.tmp rfl)) ?_
      refine AL_p rfl rfl (S_gcall rfl (AEvs.cons (AEv.tmp rfl) (AEvs.cons (AEv.tmp rfl) (AEvs.cons (AEv.tmp rfl) AEvs.nil))) ((spec_label_ok name hn l hl hls i hil) _ (fun p hp => by first | exact hG p hp | (simp [hG p hp]; done)))) ?_
      refine AL_p rfl rfl (S_assign rfl (AEv.tmp rfl)) ?_
      refine AL_nil ?_
      refine AC_region ?_
      refine AL_p rfl rfl (S_move rfl (AEv.tmp rfl)) ?_
      refine AL_p rfl rfl (S_addI rfl (AEv.tmp rfl) (AEv.const _) (by omega) (by omega)) ?_
      refine AL_p rfl rfl (S_assign rfl (AEv.tmp rfl)) ?_
      refine AL_nil ?_
      refine ⟨(i + 1, labelE name l i), ⟨by dsimp only; omega, fun h => ⟨hn0.1, fun j hj => ?_⟩, fun h => ?_⟩, by dsimp only; omega, rfl, .cons rfl (Le.refl _) (.cons rfl (Le.refl _) (.cons rfl (Le.refl _) (.cons rfl (Le.of_eq (by dsimp only; rw [Int.natCast_add]; rfl)) .nil)))⟩
      · rcases Nat.lt_or_ge j i with h' | h'
        · exact hn0.2 j h'
        · rw [show j = i by omega]; exact h
      · dsimp only at h ⊢
        cases hx : labelE name l i with
        | none => exact absurd hx h
        | some x => rw [labelsE_good hn0.1, eachE_at hil hx hn0.2]
    · try simp only [Bool.and_eq_true, Bool.or_eq_true, Bool.not_eq_true', Bool.not_eq_false', Bool.and_eq_false_iff, Bool.or_eq_false_iff, decide_eq_true_eq, decide_eq_false_iff_not, gd] at hb14
      have hend : e = labelsE name l := by
        cases he : e with
        | some x => rw [← he]; exact hyes (by rw [he]; exact fun h => by cases h)
        | none =>
          have h0 := hno he
          rw [he] at hb14
          rw [labelsE_good h0.1, eachE_all fun j hj => h0.2 j (by
            rcases hb14 with h | h
            · cases h
            · omega)]
      refine AC_exit ?_
      refine AC_seq ?_
      refine AC_region ?_
      refine AL_p rfl rfl (S_move rfl (AEv.tmp rfl)) ?_
      refine AL_p rfl rfl (S_assign rfl (AEv.tmp rfl)) ?_
      refine AL_nil ?_
      refine AC_ret ?_
      refine ret_tmp st rfl rfl (Sub.l (List.Sublist.refl _)) (Conv.refl (Sub.l (List.Sublist.refl _)) _) ⟨by rw [hend], rfl⟩ (.inl rfl)

set_option maxRecDepth 100000 in
/-- (*provost/spec.seen).name -/
theorem seen_name_ok (b : Nat) (p q : Own) (ns : List (List UInt8)) (ps : List Int) (hp : p.ok (strsV ns)) (hq : q.ok (intsV ps)) (hns : ns.length ≤ 1000) (c : Ctr) (F : St) (hG : ∀ r, r ∈ Gs tabs → r ∈ F) : ACalls Tryd.prog 47 [.ptr b 0, ctrAV c] ((b, Ob.cells [ownAV p 1 (strsV ns), ownAV q 1 (intsV ps)]) :: (ownSt p 9 1 (strsV ns) ++ (ownSt q 3 1 (intsV ps) ++ F))) (fun x st' => ∃ p' : Own, p'.ok (strsV (ns ++ [c.name])) ∧ x = erV 40 79 (nameE ns c.name) ∧ st' = (b, Ob.cells [ownAV p' 1 (strsV (ns ++ [c.name])), ownAV q 1 (intsV ps)]) :: (ownSt p' 9 1 (strsV (ns ++ [c.name])) ++ (ownSt q 3 1 (intsV ps) ++ F))) := by
  refine ACalls_of (N := 36) Tryd.func47 (by kernel_rfl) rfl rfl rfl ?_
  have hnl := strsV_len ns
  refine AC_seq ?_
  refine AC_region ?_
  refine AL_step rfl rfl (S_box rfl (AEv.tmp rfl)) ?_
  rintro _ _ ⟨b1, rfl, rfl⟩
  refine AL_p rfl rfl (S_assign rfl (AEv.const _)) ?_
  refine AL_nil ?_
  refine AC_seq ?_
  refine AC_region ?_
  refine AL_p rfl rfl (S_field 0 rfl (AEv.tmp rfl) (by kernel_rfl)) ?_
  refine AL_p rfl rfl (S_load 0 rfl (AEv.tmp rfl) rfl rfl (by kernel_rfl)) ?_
  refine AL_p rfl rfl (S_gcall rfl (AEvs.cons (AEv.tmp rfl) AEvs.nil) ((text_Name_ok c.name) _ (fun r hr => List.mem_cons_of_mem _ (List.mem_cons_of_mem _ (List.mem_append_right _ (List.mem_append_right _ (hG r hr))))))) ?_
  refine AL_p rfl rfl (S_buildSlice (e := 9) 1 rfl (AEvs.cons (AEv.S _) AEvs.nil) rfl (by kernel_rfl) (by kernel_rfl) (by simp [AV.flat, AV.one, AV.cells, Value.oneCell']) (by decide) (by decide) (by decide)) ?_
  refine AL_p rfl rfl (S_pcall rfl (AEvs.cons (AEv.tmp rfl) (AEvs.cons (AEv.tmp rfl) AEvs.nil)) (fail_New_ok (saysV (nameV c.name) 30) [[110, 97, 109, 101]] (by simp))) ?_
  refine AL_p rfl rfl (S_assign rfl (AEv.tmp rfl)) ?_
  refine AL_nil ?_
  refine AC_join (G := Unit) (fun _ => True) (fun _ => [(0, .ptr b 0), (3, .ptr b1 0), (5, erV 40 79 (nameE ns c.name))]) (fun _ => (b1, Ob.cells (ctrL c)) :: ((b, Ob.cells [ownAV p 1 (strsV ns), ownAV q 1 (intsV ps)]) :: (ownSt p 9 1 (strsV ns) ++ (ownSt q 3 1 (intsV ps) ++ F)))) ?_ ?_
  · refine AC_seq ?_
    refine AC_draw (by kernel_rfl) (by kernel_rfl) (.cons rfl (Q_p rfl (S_move rfl (AEv.tmp rfl))) <|
        .cons rfl (Q_p rfl (S_eqlE (er_is 40 79 (erNew (saysV (nameV c.name) 30) [[110, 97, 109, 101]])) rfl (AEv.tmp rfl) (by kernel_rfl))) <|
        .cons rfl (Q_p rfl (S_move rfl (AEv.tmp rfl))) <|
        .cons rfl (Q_g rfl rfl (AEv.tmp rfl) (fun hg2 => S_move rfl (AEv.tmp rfl))) <|
        .cons rfl (Q_g rfl rfl (AEv.tmp rfl) (fun hg5 => S_nilCheck rfl (AEv.cond (AEv.tmp rfl) (by first | assumption | exact gdAnd (by assumption) (by assumption))))) <|
        .cons rfl (Q_g rfl rfl (AEv.tmp rfl) (fun hg8 => S_field 0 rfl (AEv.cond (AEv.tmp rfl) (by first | assumption | exact gdAnd (by assumption) (by assumption))) (by kernel_rfl))) <|
        .cons rfl (Q_g rfl rfl (AEv.tmp rfl) (fun hg11 => S_load 1 rfl (AEv.cond (AEv.tmp rfl) (by first | assumption | exact gdAnd (by assumption) (by assumption))) rfl rfl (by kernel_rfl))) <|
        .cons rfl (Q_g rfl rfl (AEv.tmp rfl) (fun hg14 => S_field 0 rfl (AEv.tmp rfl) (by kernel_rfl))) <|
        .cons rfl (Q_g rfl rfl (AEv.tmp rfl) (fun hg17 => S_load 0 rfl (AEv.cond (AEv.tmp rfl) (by first | assumption | exact gdAnd (by assumption) (by assumption))) rfl rfl (by kernel_rfl))) <|
        .cons rfl (Q_g rfl rfl (AEv.tmp rfl) (fun hg20 => S_pcall rfl (AEvs.cons ((AEv.cond (AEv.tmp rfl) (by first | assumption | exact gdAnd (by assumption) (by assumption))).le (Le_own hp)) (AEvs.cons (AEv.cond (AEv.tmp rfl) (by first | assumption | exact gdAnd (by assumption) (by assumption))) AEvs.nil)) (slices_ContainsS_ok ns c.name (by omega)))) <|
        .cons rfl (Q_p rfl (S_and rfl (AEv.tmp rfl) (fun hp23 => (AEv.cond (AEv.tmp rfl) (by first | assumption | exact gdT hp23 | exact gdF hp23 | exact gdAnd (by assumption) (gdT hp23) | exact gdAnd (by assumption) (gdF hp23)))))) <|
        .nil) ?_
    refine AC_cond (AEv.tmp rfl) (fun hb24 => ?_) (fun hb24 => ?_)
    · try simp only [Bool.and_eq_true, Bool.or_eq_true, Bool.not_eq_true', Bool.not_eq_false', Bool.and_eq_false_iff, Bool.or_eq_false_iff, decide_eq_true_eq, decide_eq_false_iff_not, gd] at hb24
      have hk : (erNew (saysV (nameV c.name) 30) [[110, 97, 109, 101]]).isNone = true ∧ c.name ∈ ns := ⟨hb24.1, by simpa using hb24.2⟩
      refine AC_region ?_
      refine AL_p rfl rfl (S_buildSlice (e := 9) 1 rfl (AEvs.cons (AEv.S _) AEvs.nil) rfl (by kernel_rfl) (by kernel_rfl) (by simp [AV.flat, AV.one, AV.cells, Value.oneCell']) (by decide) (by decide) (by decide)) ?_
      refine AL_p rfl rfl (S_pcall rfl (AEvs.cons (AEv.const _) (AEvs.cons (AEv.tmp rfl) AEvs.nil)) (fail_New_ok 7 [[110, 97, 109, 101]] (by simp))) ?_
      refine AL_p rfl rfl (S_assign rfl (AEv.tmp rfl)) ?_
      refine AL_nil ?_
      exact ⟨(), trivial, rfl, .cons rfl (Le.refl _) (.cons rfl (Le.refl _) (.cons rfl (Le.of_eq (by rw [nameE, if_pos hk]; rfl)) .nil))⟩
    · try simp only [Bool.and_eq_true, Bool.or_eq_true, Bool.not_eq_true', Bool.not_eq_false', Bool.and_eq_false_iff, Bool.or_eq_false_iff, decide_eq_true_eq, decide_eq_false_iff_not, gd] at hb24
      have hk : ¬ ((erNew (saysV (nameV c.name) 30) [[110, 97, 109, 101]]).isNone = true ∧ c.name ∈ ns) := fun ⟨h1, h2⟩ => by
        rcases hb24 with h | h
        · rw [h1] at h; cases h
        · first | exact h h2 | (simp at h; exact h h2)
      refine AC_skip ?_
      exact ⟨(), trivial, rfl, .cons rfl (Le.refl _) (.cons rfl (Le.refl _) (.cons rfl (Le.of_eq (by rw [nameE, if_neg hk])) .nil))⟩
  · rintro _ _
    try dsimp only
    refine AC_seq ?_
    refine AC_plan (σ := [(0, 0), (1, 0), (2, 0), (3, 0), (4, 0), (5, 0), (6, 0), (7, 0), (8, 1), (9, 0), (10, 0), (11, 2)]) (by kernel_rfl) [(b1, .cells (ctrL c)), (b, Ob.cells [ownAV p 1 (strsV ns), ownAV q 1 (intsV ps)])] (by kernel_rfl) (fun r hr => List.mem_append_left (ownSt p 9 1 (strsV ns) ++ (ownSt q 3 1 (intsV ps) ++ F)) hr) ?_
    refine AG.f rfl rfl (fun st' hst => Q_p rfl (S_move rfl (AEv.tmp rfl))) ?_
    refine AG.f rfl rfl (fun st' hst => Q_p rfl (S_move rfl (AEv.tmp rfl))) ?_
    refine AG.f rfl rfl (fun st' hst => Q_p rfl (S_nilCheck rfl (AEv.tmp rfl))) ?_
    refine AG.f rfl rfl (fun st' hst => Q_p rfl (S_field 0 rfl (AEv.tmp rfl) (by kernel_rfl))) ?_
    refine AG.f rfl rfl (fun st' hst => Q_p rfl (S_loadM rfl (AEv.tmp rfl) (hst _ (List.mem_of_getElem? (i := 1) rfl)) rfl (by kernel_rfl))) ?_
    refine AG.f rfl rfl (fun st' hst => Q_p rfl (S_field 0 rfl (AEv.tmp rfl) (by kernel_rfl))) ?_
    refine AG.f rfl rfl (fun st' hst => Q_p rfl (S_loadM rfl (AEv.tmp rfl) (hst _ (List.mem_of_getElem? (i := 0) rfl)) rfl (by kernel_rfl))) ?_
    refine AG.f rfl rfl (fun st' hst => Q_p rfl (S_buildSlice (e := 9) 1 rfl (AEvs.cons (AEv.tmp rfl) AEvs.nil) rfl (by kernel_rfl) (by kernel_rfl) (by simp [AV.flat, AV.one, AV.cells, Value.oneCell']) (by decide) (by decide) (by decide))) ?_
    refine AG.s rfl rfl rfl (S_appendOwn (e := 9) (size := 1) (bytes := 16) (p := p) (xs := strsV ns) [_, _] _ rfl (AEv.tmp rfl) (AEv.tmp rfl) rfl hp (by kernel_rfl) (by simp) (fun x hx => by obtain ⟨r, _, rfl⟩ := List.mem_map.1 hx; rfl) (by simp [AV.cells, AV.one, Value.oneCell']) (by simp only [List.length_singleton]; omega) (by simp only [List.length_singleton]; omega)) ?_ ?_
    · rintro _ _ ⟨b8, k8, cap8, hx, rfl, rfl⟩ r hr; exact List.mem_append_left _ hr
    rintro _ _ ⟨b8, k8, cap8, hx, rfl, rfl⟩
    refine AG.f rfl rfl (fun st' hst => Q_p rfl (S_nilCheck rfl (AEv.tmp rfl))) ?_
    refine AG.f rfl rfl (fun st' hst => Q_p rfl (S_field 0 rfl (AEv.tmp rfl) (by kernel_rfl))) ?_
    refine AG.h rfl rfl rfl (S_store 1 rfl (AEv.tmp rfl) (AEv.tmp rfl) rfl (by first | exact Nat.le_of_ble_eq_true rfl | simp) (by first | rfl | exact ownAV_one _ _ _) (by kernel_rfl)) ?_
    rintro _ _ ⟨rfl, rfl⟩
    refine AG.nil ?_
    refine AC_seq ?_
    refine AC_region ?_
    refine AL_p rfl rfl (S_move rfl (AEv.tmp rfl)) ?_
    refine AL_p rfl rfl (S_assign rfl (AEv.tmp rfl)) ?_
    refine AL_nil ?_
    refine AC_ret ?_
    refine ret_tmp ((b, Ob.cells [ownAV (.row b8 k8 cap8) 1 (strsV ns ++ [AV.S c.name]), ownAV q 1 (intsV ps)]) :: (ownSt (.row b8 k8 cap8) 9 1 (strsV ns ++ [AV.S c.name]) ++ (ownSt q 3 1 (intsV ps) ++ F))) rfl rfl (Sub.l (List.Sublist.cons _ (List.Sublist.refl _))) (Conv.refl (Sub.l (List.Sublist.cons _ (List.Sublist.refl _))) _) ⟨.row b8 k8 cap8, by rw [show strsV (ns ++ [c.name]) = strsV ns ++ [AV.S c.name] by simp [strsV]]; exact hx, rfl, by rw [show strsV (ns ++ [c.name]) = strsV ns ++ [AV.S c.name] by simp [strsV]]⟩ (.inl rfl)

set_option maxRecDepth 100000 in
/-- (*provost/spec.seen).port -/
theorem seen_port_ok (b : Nat) (p q : Own) (ns : List (List UInt8)) (ps : List Int) (hp : p.ok (strsV ns)) (hq : q.ok (intsV ps)) (hps : ps.length ≤ 1000) (l : List Int) (hl : l.length ≤ 1000) (n : Int) (F : St) : ACalls Tryd.prog 51 [.ptr b 0, .sl (intsV l), .int .i64 n] ((b, Ob.cells [ownAV p 1 (strsV ns), ownAV q 1 (intsV ps)]) :: (ownSt p 9 1 (strsV ns) ++ (ownSt q 3 1 (intsV ps) ++ F))) (fun x st' => ∃ (q' : Own) (m : Nat), m ≤ l.length ∧ (portE ps l n = none → m = l.length) ∧ q'.ok (intsV (ps ++ l.take m)) ∧ x = erV 40 79 (portE ps l n) ∧ st' = (b, Ob.cells [ownAV p 1 (strsV ns), ownAV q' 1 (intsV (ps ++ l.take m))]) :: (ownSt p 9 1 (strsV ns) ++ (ownSt q' 3 1 (intsV (ps ++ l.take m)) ++ F))) := by
  refine ACalls_of (N := 61) Tryd.func51 (by kernel_rfl) rfl rfl rfl ?_
  have hll : (intsV l).length = l.length := by simp [intsV]
  refine AC_seq ?_
  refine AC_region ?_
  refine AL_p rfl rfl (S_assign rfl (AEv.const _)) ?_
  refine AL_nil ?_
  refine AC_seq ?_
  refine AC_region ?_
  refine AL_p rfl rfl (S_move rfl (AEv.tmp rfl)) ?_
  refine AL_p rfl rfl (S_len (e := 3) rfl (AEv.tmp rfl) (by kernel_rfl)) ?_
  refine AL_p rfl rfl (S_move rfl (AEv.tmp rfl)) ?_
  refine AL_p rfl rfl (S_pcall rfl (AEvs.cons (AEv.S _) (AEvs.cons (AEv.tmp rfl) (AEvs.cons (AEv.const _) (AEvs.cons (AEv.tmp rfl) AEvs.nil)))) (spec_atMost_ok portsN ((intsV l).length : Int) 0 n)) ?_
  refine AL_p rfl rfl (S_assign rfl (AEv.tmp rfl)) ?_
  refine AL_nil ?_
  refine AC_seq ?_
  refine AC_seq ?_
  refine AC_region ?_
  refine AL_p rfl rfl (S_assign rfl (AEv.const _)) ?_
  refine AL_nil ?_
  refine AC_block ?_
  refine AC_loopS (G := Nat × Er × Own) (fun g => g.1 ≤ l.length ∧ (g.2.1 = none → (atMostE portsN (l.length : Int) 0 n) = none ∧ ∀ j, j < g.1 → portAt ps l j = none) ∧ (g.2.1 ≠ none → g.2.1 = portE ps l n) ∧ g.2.2.ok (intsV (ps ++ l.take g.1))) (fun g => [(0, .ptr b 0), (1, .sl (intsV l)), (7, erV 40 79 g.2.1), (8, .int .i64 (g.1 : Int))]) (fun g => (b, Ob.cells [ownAV p 1 (strsV ns), ownAV g.2.2 1 (intsV (ps ++ l.take g.1))]) :: (ownSt p 9 1 (strsV ns) ++ (ownSt g.2.2 3 1 (intsV (ps ++ l.take g.1)) ++ F))) (fun g => l.length - g.1) ((0, (atMostE portsN (l.length : Int) 0 n), q)) (⟨Nat.zero_le _, fun h => ⟨h, fun j hj => absurd hj (Nat.not_lt_zero _)⟩, fun h => (portE_bad h).symm, by simpa using hq⟩) (by simp only [List.take_zero, List.append_nil]; exact Sub.l (List.Sublist.refl _)) ?_ ?_
  · exact (.cons rfl (Le.refl _) (.cons rfl (Le.refl _) (.cons rfl (Le.of_eq (by rw [hll])) (.cons rfl (Le.refl _) .nil))))
  · rintro ⟨i, e, q2⟩ ⟨hi, hno, hyes, hq2⟩
    try dsimp only
    dsimp only at hi hno hyes hq2
    refine AC_seq ?_
    refine AC_seq ?_
    refine AC_region ?_
    refine AL_p rfl rfl (S_move rfl (AEv.tmp rfl)) ?_
    refine AL_p rfl rfl (S_eqlE (er_is 40 79 e) rfl (AEv.tmp rfl) (by kernel_rfl)) ?_
    refine AL_p rfl rfl (S_move rfl (AEv.tmp rfl)) ?_
    refine AL_g rfl rfl (AEv.tmp rfl) rfl (fun hg1 => S_move rfl (AEv.tmp rfl)) ?_
    refine AL_g rfl rfl (AEv.tmp rfl) rfl (fun hg4 => S_move rfl (AEv.tmp rfl)) ?_
    refine AL_g rfl rfl (AEv.tmp rfl) rfl (fun hg7 => S_len (e := 3) rfl (AEv.cond (AEv.tmp rfl) (by first | assumption | exact gdAnd (by assumption) (by assumption))) (by kernel_rfl)) ?_
    refine AL_g rfl rfl (AEv.tmp rfl) rfl (fun hg10 => S_lss rfl (AEv.cond (AEv.tmp rfl) (by first | assumption | exact gdAnd (by assumption) (by assumption))) (AEv.cond (AEv.tmp rfl) (by first | assumption | exact gdAnd (by assumption) (by assumption)))) ?_
    refine AL_p rfl rfl (S_and rfl (AEv.tmp rfl) (fun hp13 => (AEv.cond (AEv.tmp rfl) (by first | assumption | exact gdT hp13 | exact gdF hp13 | exact gdAnd (by assumption) (gdT hp13) | exact gdAnd (by assumption) (gdF hp13))))) ?_
    refine AL_nil ?_
    refine AC_cond (AEv.tmp rfl) (fun hb14 => ?_) (fun hb14 => ?_)
    · try simp only [Bool.and_eq_true, Bool.or_eq_true, Bool.not_eq_true', Bool.not_eq_false', Bool.and_eq_false_iff, Bool.or_eq_false_iff, decide_eq_true_eq, decide_eq_false_iff_not, gd] at hb14
      have hil : i < l.length := by have := hb14.2; omega
      obtain rfl : e = none := by cases e with | none => rfl | some x => simp at hb14
      have hn0 := hno rfl
      have hif : fits (i : Int) := by unfold fits; omega
      have hpl : (intsV (ps ++ l.take i)).length ≤ 2000 := by simp [intsV]; omega
      refine AC_skip ?_
      refine AC_seq ?_
      refine AC_block ?_
      refine AC_seq ?_
      refine AC_draw (by kernel_rfl) (by kernel_rfl) (.cons rfl (Q_p rfl (S_move rfl (AEv.tmp rfl))) <|
          .cons rfl (Q_p rfl (S_pcall rfl (AEvs.cons (AEv.S _) (AEvs.cons (AEv.tmp rfl) AEvs.nil)) (spec_at_ok portsN (by decide) (i : Int) hif))) <|
          .cons rfl (Q_p rfl (S_move rfl (AEv.tmp rfl))) <|
          .cons rfl (Q_p rfl (S_move rfl (AEv.tmp rfl))) <|
          .cons rfl (Q_p rfl (S_elem (e := 3) (c := .int .i64 (l.getD i 0)) (i := (i : Int)) 1 rfl (AEv.tmp rfl) (AEv.tmp rfl) (by kernel_rfl) (by kernel_rfl) (by omega) (by simp [intsV, hil]) rfl)) <|
          .cons rfl (Q_p rfl (S_loadP rfl (AEv.tmp rfl) rfl (by kernel_rfl))) <|
          .cons rfl (Q_p rfl (S_pcall rfl (AEvs.cons (AEv.tmp rfl) (AEvs.cons (AEv.tmp rfl) (AEvs.cons (AEv.const _) (AEvs.cons (AEv.const _) AEvs.nil)))) (spec_within_ok (atT portsN (i : Int)) (l.getD i 0) 1 65535))) <|
          .cons rfl (Q_p rfl (S_assign rfl (AEv.tmp rfl))) <|
          .nil) ?_
      refine AC_join (G := Unit) (fun _ => True) (fun _ => [(0, .ptr b 0), (1, .sl (intsV l)), (7, erV 40 79 (portAt ps l i)), (8, .int .i64 (i : Int))]) (fun _ => (b, Ob.cells [ownAV p 1 (strsV ns), ownAV q2 1 (intsV (ps ++ l.take i))]) :: (ownSt p 9 1 (strsV ns) ++ (ownSt q2 3 1 (intsV (ps ++ l.take i)) ++ F))) ?_ ?_
      · refine AC_seq ?_
        refine AC_draw (by kernel_rfl) (by kernel_rfl) (.cons rfl (Q_p rfl (S_move rfl (AEv.tmp rfl))) <|
            .cons rfl (Q_p rfl (S_eqlE (er_is 40 79 (withinE (atT portsN (i : Int)) (l.getD i 0) 1 65535)) rfl (AEv.tmp rfl) (by kernel_rfl))) <|
            .cons rfl (Q_p rfl (S_move rfl (AEv.tmp rfl))) <|
            .cons rfl (Q_g rfl rfl (AEv.tmp rfl) (fun hg15 => S_move rfl (AEv.tmp rfl))) <|
            .cons rfl (Q_g rfl rfl (AEv.tmp rfl) (fun hg18 => S_nilCheck rfl (AEv.cond (AEv.tmp rfl) (by first | assumption | exact gdAnd (by assumption) (by assumption))))) <|
            .cons rfl (Q_g rfl rfl (AEv.tmp rfl) (fun hg21 => S_field 1 rfl (AEv.cond (AEv.tmp rfl) (by first | assumption | exact gdAnd (by assumption) (by assumption))) (by kernel_rfl))) <|
            .cons rfl (Q_g rfl rfl (AEv.tmp rfl) (fun hg24 => S_load 0 rfl (AEv.cond (AEv.tmp rfl) (by first | assumption | exact gdAnd (by assumption) (by assumption))) rfl rfl (by kernel_rfl))) <|
            .cons rfl (Q_g rfl rfl (AEv.tmp rfl) (fun hg27 => S_move rfl (AEv.tmp rfl))) <|
            .cons rfl (Q_g rfl rfl (AEv.tmp rfl) (fun hg30 => S_move rfl (AEv.tmp rfl))) <|
            .cons rfl (Q_g rfl rfl (AEv.tmp rfl) (fun hg33 => S_elem (e := 3) (c := .int .i64 (l.getD i 0)) (i := (i : Int)) 1 rfl (AEv.cond (AEv.tmp rfl) (by first | assumption | exact gdAnd (by assumption) (by assumption))) (AEv.cond (AEv.tmp rfl) (by first | assumption | exact gdAnd (by assumption) (by assumption))) (by kernel_rfl) (by kernel_rfl) (by omega) (by simp [intsV, hil]) rfl)) <|
            .cons rfl (Q_g rfl rfl (AEv.tmp rfl) (fun hg36 => S_loadP rfl (AEv.cond (AEv.tmp rfl) (by first | assumption | exact gdAnd (by assumption) (by assumption))) rfl (by kernel_rfl))) <|
            .cons rfl (Q_g rfl rfl (AEv.tmp rfl) (fun hg39 => S_pcall rfl (AEvs.cons ((AEv.cond (AEv.tmp rfl) (by first | assumption | exact gdAnd (by assumption) (by assumption))).le (Le_own hq2)) (AEvs.cons (AEv.cond (AEv.tmp rfl) (by first | assumption | exact gdAnd (by assumption) (by assumption))) AEvs.nil)) (slices_ContainsI_ok (ps ++ l.take i) (l.getD i 0) (by simp; omega)))) <|
            .cons rfl (Q_p rfl (S_and rfl (AEv.tmp rfl) (fun hp42 => (AEv.cond (AEv.tmp rfl) (by first | assumption | exact gdT hp42 | exact gdF hp42 | exact gdAnd (by assumption) (gdT hp42) | exact gdAnd (by assumption) (gdF hp42)))))) <|
            .nil) ?_
        refine AC_cond (AEv.tmp rfl) (fun hb43 => ?_) (fun hb43 => ?_)
        · try simp only [Bool.and_eq_true, Bool.or_eq_true, Bool.not_eq_true', Bool.not_eq_false', Bool.and_eq_false_iff, Bool.or_eq_false_iff, decide_eq_true_eq, decide_eq_false_iff_not, gd] at hb43
          have hk : (withinE (atT portsN (i : Int)) (l.getD i 0) 1 65535).isNone = true ∧ l.getD i 0 ∈ (ps ++ l.take i) := ⟨hb43.1, by simpa using hb43.2⟩
          refine AC_region ?_
          refine AL_p rfl rfl (S_move rfl (AEv.tmp rfl)) ?_
          refine AL_p rfl rfl (S_pcall rfl (AEvs.cons (AEv.S _) (AEvs.cons (AEv.tmp rfl) AEvs.nil)) (spec_at_ok portsN (by decide) (i : Int) hif)) ?_
          refine AL_p rfl rfl (S_buildSlice (e := 9) 1 rfl (AEvs.cons (AEv.tmp rfl) AEvs.nil) rfl (by kernel_rfl) (by kernel_rfl) (by simp [AV.flat, AV.one, AV.cells, Value.oneCell']) (by decide) (by decide) (by decide)) ?_
          refine AL_p rfl rfl (S_pcall rfl (AEvs.cons (AEv.const _) (AEvs.cons (AEv.tmp rfl) AEvs.nil)) (fail_New_ok 150 [(atT portsN (i : Int))] (by simp))) ?_
          refine AL_p rfl rfl (S_assign rfl (AEv.tmp rfl)) ?_
          refine AL_nil ?_
          exact ⟨(), trivial, rfl, (.cons rfl (Le.refl _) (.cons rfl (Le.refl _) (.cons rfl (Le.of_eq (by rw [portAt, if_pos hk]; rfl)) (.cons rfl (Le.refl _) .nil))))⟩
        · try simp only [Bool.and_eq_true, Bool.or_eq_true, Bool.not_eq_true', Bool.not_eq_false', Bool.and_eq_false_iff, Bool.or_eq_false_iff, decide_eq_true_eq, decide_eq_false_iff_not, gd] at hb43
          have hk : ¬ ((withinE (atT portsN (i : Int)) (l.getD i 0) 1 65535).isNone = true ∧ l.getD i 0 ∈ (ps ++ l.take i)) := fun ⟨h1, h2⟩ => by
            rcases hb43 with h | h
            · rw [h1] at h; cases h
            · first | exact h h2 | (simp at h; exact h h2)
          refine AC_skip ?_
          exact ⟨(), trivial, rfl, (.cons rfl (Le.refl _) (.cons rfl (Le.refl _) (.cons rfl (Le.of_eq (by rw [portAt, if_neg hk])) (.cons rfl (Le.refl _) .nil))))⟩
      · rintro _ _
        try dsimp only
        refine AC_plan (σ := [(0, 0), (1, 0), (2, 0), (3, 0), (4, 0), (5, 0), (6, 0), (7, 0), (8, 0), (9, 0), (10, 1), (11, 0), (12, 0), (13, 2)]) (by kernel_rfl) [(b, Ob.cells [ownAV p 1 (strsV ns), ownAV q2 1 (intsV (ps ++ l.take i))])] (by kernel_rfl) (fun r hr => List.mem_append_left (ownSt p 9 1 (strsV ns) ++ (ownSt q2 3 1 (intsV (ps ++ l.take i)) ++ F)) hr) ?_
        refine AG.f rfl rfl (fun st' hst => Q_p rfl (S_move rfl (AEv.tmp rfl))) ?_
        refine AG.f rfl rfl (fun st' hst => Q_p rfl (S_move rfl (AEv.tmp rfl))) ?_
        refine AG.f rfl rfl (fun st' hst => Q_p rfl (S_nilCheck rfl (AEv.tmp rfl))) ?_
        refine AG.f rfl rfl (fun st' hst => Q_p rfl (S_field 1 rfl (AEv.tmp rfl) (by kernel_rfl))) ?_
        refine AG.f rfl rfl (fun st' hst => Q_p rfl (S_loadM rfl (AEv.tmp rfl) (hst _ (List.mem_of_getElem? (i := 0) rfl)) rfl (by kernel_rfl))) ?_
        refine AG.f rfl rfl (fun st' hst => Q_p rfl (S_move rfl (AEv.tmp rfl))) ?_
        refine AG.f rfl rfl (fun st' hst => Q_p rfl (S_move rfl (AEv.tmp rfl))) ?_
        refine AG.f rfl rfl (fun st' hst => Q_p rfl (S_elem (e := 3) (c := .int .i64 (l.getD i 0)) (i := (i : Int)) 1 rfl (AEv.tmp rfl) (AEv.tmp rfl) (by kernel_rfl) (by kernel_rfl) (by omega) (by simp [intsV, hil]) rfl)) ?_
        refine AG.f rfl rfl (fun st' hst => Q_p rfl (S_loadP rfl (AEv.tmp rfl) rfl (by kernel_rfl))) ?_
        refine AG.f rfl rfl (fun st' hst => Q_p rfl (S_buildSlice (e := 3) 1 rfl (AEvs.cons (AEv.tmp rfl) AEvs.nil) rfl (by kernel_rfl) (by kernel_rfl) (by simp [AV.flat, AV.one, AV.cells, Value.oneCell']) (by decide) (by decide) (by decide))) ?_
        refine AG.s rfl rfl rfl (S_appendOwn (e := 3) (size := 1) (bytes := 8) (p := q2) (xs := intsV (ps ++ l.take i)) ((b, _) :: ownSt p 9 1 (strsV ns)) F rfl (AEv.tmp rfl) (AEv.tmp rfl) rfl hq2 (by kernel_rfl) (by simp) (fun x hx => by obtain ⟨r, _, rfl⟩ := List.mem_map.1 hx; rfl) (by simp [AV.cells, AV.one, Value.oneCell']) (by simp only [List.length_singleton]; omega) (by simp only [List.length_singleton]; omega)) ?_ ?_
        · rintro _ _ ⟨b8, k8, cap8, hx, rfl, rfl⟩ r hr; exact List.mem_append_left _ (List.mem_append_left _ hr)
        rintro _ _ ⟨b8, k8, cap8, hx, rfl, rfl⟩
        refine AG.f rfl rfl (fun st' hst => Q_p rfl (S_nilCheck rfl (AEv.tmp rfl))) ?_
        refine AG.f rfl rfl (fun st' hst => Q_p rfl (S_field 1 rfl (AEv.tmp rfl) (by kernel_rfl))) ?_
        refine AG.h rfl rfl rfl (S_store 0 rfl (AEv.tmp rfl) (AEv.tmp rfl) rfl (by first | exact Nat.le_of_ble_eq_true rfl | simp) (by first | rfl | exact ownAV_one _ _ _) (by kernel_rfl)) ?_
        rintro _ _ ⟨rfl, rfl⟩
        refine AG.nil ?_
        refine AC_region ?_
        refine AL_p rfl rfl (S_move rfl (AEv.tmp rfl)) ?_
        refine AL_p rfl rfl (S_addI rfl (AEv.tmp rfl) (AEv.const _) (by omega) (by omega)) ?_
        refine AL_p rfl rfl (S_assign rfl (AEv.tmp rfl)) ?_
        refine AL_nil ?_
        have hsn : intsV (ps ++ l.take (i + 1)) = intsV (ps ++ l.take i) ++ [AV.int .i64 (l.getD i 0)] := by
          have hg : l.getD i 0 = l[i] := by rw [List.getD_eq_getElem?_getD, List.getElem?_eq_getElem hil]; rfl
          rw [List.take_succ_eq_append_getElem hil, ← List.append_assoc, hg]
          unfold intsV
          rw [List.map_append]
          rfl
        refine ⟨(i + 1, portAt ps l i, .row b8 k8 cap8), ⟨by dsimp only; omega, fun h => ⟨hn0.1, fun j hj => ?_⟩, fun h => ?_, by dsimp only; rw [hsn]; exact hx⟩, by dsimp only; omega, by dsimp only; rw [hsn]; exact Sub.l (List.Sublist.refl _), (.cons rfl (Le.refl _) (.cons rfl (Le.refl _) (.cons rfl (Le.refl _) (.cons rfl (Le.of_eq (by dsimp only; rw [Int.natCast_add]; rfl)) .nil))))⟩
        · rcases Nat.lt_or_ge j i with h' | h'
          · exact hn0.2 j h'
          · rw [show j = i by omega]; exact h
        · dsimp only at h ⊢
          cases hxx : portAt ps l i with
          | none => exact absurd hxx h
          | some x => rw [portE_good hn0.1, eachE_at hil hxx hn0.2]
    · try simp only [Bool.and_eq_true, Bool.or_eq_true, Bool.not_eq_true', Bool.not_eq_false', Bool.and_eq_false_iff, Bool.or_eq_false_iff, decide_eq_true_eq, decide_eq_false_iff_not, gd] at hb14
      have hend : e = portE ps l n ∧ (portE ps l n = none → i = l.length) := by
        cases he : e with
        | some x => exact ⟨by rw [← he]; exact hyes (by rw [he]; exact fun h => by cases h), fun h => by have := hyes (by rw [he]; exact fun h => by cases h); rw [he, h] at this; cases this⟩
        | none =>
          have h0 := hno he
          rw [he] at hb14
          have hge : l.length ≤ i := by
            rcases hb14 with h | h
            · cases h
            · omega
          exact ⟨by rw [portE_good h0.1, eachE_all fun j hj => h0.2 j (by omega)], fun _ => by omega⟩
      refine AC_exit ?_
      refine AC_seq ?_
      refine AC_region ?_
      refine AL_p rfl rfl (S_move rfl (AEv.tmp rfl)) ?_
      refine AL_p rfl rfl (S_assign rfl (AEv.tmp rfl)) ?_
      refine AL_nil ?_
      refine AC_ret ?_
      refine ret_tmp ((b, Ob.cells [ownAV p 1 (strsV ns), ownAV q2 1 (intsV (ps ++ l.take i))]) :: (ownSt p 9 1 (strsV ns) ++ (ownSt q2 3 1 (intsV (ps ++ l.take i)) ++ F))) rfl rfl (Sub.l (List.Sublist.refl _)) (Conv.refl (Sub.l (List.Sublist.refl _)) _) ⟨q2, i, hi, hend.2, hq2, by rw [hend.1], rfl⟩ (.inl rfl)

end Go.Proofs.YtfdcadnaginnpaaDoor
