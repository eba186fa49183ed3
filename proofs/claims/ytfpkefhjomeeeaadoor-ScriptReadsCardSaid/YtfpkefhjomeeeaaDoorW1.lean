/- A part of the proof: what the program's functions answer.
Conditions: none beyond each theorem's own. -/
import Derived.Test.YtfpkefhjomeeeaaDoorL4
import Derived.Test.YtfpkefhjomeeeaaDoorProg
import Derived.Shelf.Strings.Builder1
import Derived.Shelf.Strings.Builder2
import Derived.Shelf.Strings.OnBuilder
/-
The walks of Go functions in the logic AL: what each of them answers.
Conditions: those of each theorem.
-/
set_option linter.unusedVariables false
set_option linter.unusedSimpArgs false
namespace Go.Proofs.YtfpkefhjomeeeaaDoor
open Go.AL Go.NumSpec

abbrev hv (t : Nat) : Value := .pointer (some ⟨6, t, none⟩)
abbrev ty (t : Nat) : Value := .iface 120 (.agg #[hv t])
abbrev rv (t : Nat) (a : Nat) (fl : Int) : Value := .agg #[hv t, .pointer (some ⟨a, 0, none⟩), .int .u64 fl]
def tabs : List (Nat × List Value) := [(3, marksV), (0, verbsV)]
def tabsE : List (Nat × List Value) := [(1, [ty 42]), (3, marksV), (0, verbsV)]
theorem tab_err : ((1, Ob.konst [ty 42]) : Nat × Ob) ∈ Gs tabsE := by simp [Gs, tabsE]
theorem tab_marks : ((3, Ob.konst marksV) : Nat × Ob) ∈ Gs tabs := by simp [Gs, tabs]
theorem tab_verbs : ((0, Ob.konst verbsV) : Nat × Ob) ∈ Gs tabs := by simp [Gs, tabs]

open Go.Extern Go.Stop
/-! functions without text -/
theorem x23 : ExtOf Tryd.prog 56 (fun args => ReflectliteValue.unpack (args.getD 0 (.tuple #[]))) := ⟨_, Tryd.func56, by kernel_rfl, by kernel_rfl, by kernel_rfl, by kernel_rfl⟩
theorem x24 : ExtOf Tryd.prog 57 (ReflectliteValue.methodAny (ReflectliteValue.valueError "reflectlite.Value.Type" 0) (fun t _ _ _ => ReflectliteType.toType t)) := ⟨_, Tryd.func57, by kernel_rfl, by kernel_rfl, by kernel_rfl, by kernel_rfl⟩
theorem x25 : ExtOf Tryd.prog 58 (ReflectliteValue.method (ReflectliteValue.valueError "reflectlite.Value.IsNil" 0) ReflectliteValue.isNil) := ⟨_, Tryd.func58, by kernel_rfl, by kernel_rfl, by kernel_rfl, by kernel_rfl⟩
theorem x30 : ExtOf Tryd.prog 67 ReflectliteType.typeOf := ⟨_, Tryd.func67, by kernel_rfl, by kernel_rfl, by kernel_rfl, by kernel_rfl⟩
theorem x32 : ExtOf Tryd.prog 68 (ReflectliteValue.method (ReflectliteValue.valueError "reflectlite.Value.Elem" 0) ReflectliteValue.elem) := ⟨_, Tryd.func68, by kernel_rfl, by kernel_rfl, by kernel_rfl, by kernel_rfl⟩
theorem x33 : ExtOf Tryd.prog 69 ReflectliteValue.set := ⟨_, Tryd.func69, by kernel_rfl, by kernel_rfl, by kernel_rfl, by kernel_rfl⟩
theorem x52 : ExtOf Tryd.prog 97 (ReflectliteType.abiMethod fun t => do pure (.int .u8 (← Rtype.kind t))) := ⟨_, Tryd.func97, by kernel_rfl, by kernel_rfl, by kernel_rfl, by kernel_rfl⟩
theorem x63 : ExtOf Tryd.prog 108 (ReflectliteType.relation "AssignableTo" ReflectliteType.assignableTo) := ⟨_, Tryd.func108, by kernel_rfl, by kernel_rfl, by kernel_rfl, by kernel_rfl⟩
theorem x64 : ExtOf Tryd.prog 109 (ReflectliteType.method fun t => do Rtype.noPackHeld "Comparable" t; pure (.bool (← typeInfo t).comparable)) := ⟨_, Tryd.func109, by kernel_rfl, by kernel_rfl, by kernel_rfl, by kernel_rfl⟩
theorem x65 : ExtOf Tryd.prog 110 (ReflectliteType.method ReflectliteType.elem) := ⟨_, Tryd.func110, by kernel_rfl, by kernel_rfl, by kernel_rfl, by kernel_rfl⟩
theorem x66 : ExtOf Tryd.prog 111 (ReflectliteType.relation "Implements" ReflectliteType.implements_) := ⟨_, Tryd.func111, by kernel_rfl, by kernel_rfl, by kernel_rfl, by kernel_rfl⟩

/-! methods -/
theorem mKind (t : Nat) (w : World) : (Go.method (Tryd.prog.types.size + Made.depth) 120 (.agg #[hv t]) "Kind").run Tryd.prog w = .ok (97, hv t) w := by kernel_rfl
theorem mElem (t : Nat) (w : World) : (Go.method (Tryd.prog.types.size + Made.depth) 120 (.agg #[hv t]) "Elem").run Tryd.prog w = .ok (110, .agg #[hv t]) w := by kernel_rfl
theorem mImpl (t : Nat) (w : World) : (Go.method (Tryd.prog.types.size + Made.depth) 120 (.agg #[hv t]) "Implements").run Tryd.prog w = .ok (111, .agg #[hv t]) w := by kernel_rfl
theorem mAssign (t : Nat) (w : World) : (Go.method (Tryd.prog.types.size + Made.depth) 120 (.agg #[hv t]) "AssignableTo").run Tryd.prog w = .ok (108, .agg #[hv t]) w := by kernel_rfl
theorem mComp (t : Nat) (w : World) : (Go.method (Tryd.prog.types.size + Made.depth) 120 (.agg #[hv t]) "Comparable").run Tryd.prog w = .ok (109, .agg #[hv t]) w := by kernel_rfl
theorem mUnwrap (u : Value) (w : World) : (Go.method (Tryd.prog.types.size + Made.depth) 109 u "Unwrap").run Tryd.prog w = .ok (106, u) w := by kernel_rfl

/-! entries that answer plain values -/
abbrev kindE := ReflectliteType.abiMethod fun t => do pure (.int .u8 (← Rtype.kind t))
theorem k48 (w : World) : (kindE #[hv 82]).run Tryd.prog w = .ok (.int .u8 22) w := by kernel_rfl
theorem k52 (w : World) : (kindE #[hv 110]).run Tryd.prog w = .ok (.int .u8 22) w := by kernel_rfl
theorem k27 (w : World) : (kindE #[hv 29]).run Tryd.prog w = .ok (.int .u8 2) w := by kernel_rfl
theorem k49 (w : World) : (kindE #[hv 109]).run Tryd.prog w = .ok (.int .u8 22) w := by kernel_rfl
theorem e48 (w : World) : (ReflectliteType.method ReflectliteType.elem #[.agg #[hv 82]]).run Tryd.prog w = .ok (ty 29) w := by kernel_rfl
theorem e52 (w : World) : (ReflectliteType.method ReflectliteType.elem #[.agg #[hv 110]]).run Tryd.prog w = .ok (ty 109) w := by kernel_rfl
theorem i27 (w : World) : (ReflectliteType.relation "Implements" ReflectliteType.implements_ #[.agg #[hv 29], ty 42]).run Tryd.prog w = .ok (.bool true) w := by kernel_rfl
theorem i49 (w : World) : (ReflectliteType.relation "Implements" ReflectliteType.implements_ #[.agg #[hv 109], ty 42]).run Tryd.prog w = .ok (.bool true) w := by kernel_rfl
theorem a2727 (w : World) : (ReflectliteType.relation "AssignableTo" ReflectliteType.assignableTo #[.agg #[hv 29], ty 29]).run Tryd.prog w = .ok (.bool true) w := by kernel_rfl
theorem a4949 (w : World) : (ReflectliteType.relation "AssignableTo" ReflectliteType.assignableTo #[.agg #[hv 109], ty 109]).run Tryd.prog w = .ok (.bool true) w := by kernel_rfl
theorem a2749 (w : World) : (ReflectliteType.relation "AssignableTo" ReflectliteType.assignableTo #[.agg #[hv 29], ty 109]).run Tryd.prog w = .ok (.bool false) w := by kernel_rfl
theorem a4927 (w : World) : (ReflectliteType.relation "AssignableTo" ReflectliteType.assignableTo #[.agg #[hv 109], ty 29]).run Tryd.prog w = .ok (.bool false) w := by kernel_rfl
theorem t27 (v : Value) (w : World) : (ReflectliteType.typeOf #[.iface 29 v]).run Tryd.prog w = .ok (ty 29) w := by kernel_rfl
theorem t49 (v : Value) (w : World) : (ReflectliteType.typeOf #[.iface 109 v]).run Tryd.prog w = .ok (ty 109) w := by kernel_rfl
theorem c27 (w : World) : (ReflectliteType.method (fun t => do Rtype.noPackHeld "Comparable" t; pure (.bool (← typeInfo t).comparable)) #[.agg #[hv 29]]).run Tryd.prog w = .ok (.bool true) w := by kernel_rfl
theorem y48 (a : Nat) (w : World) : (ReflectliteValue.methodAny (ReflectliteValue.valueError "reflectlite.Value.Type" 0) (fun t _ _ _ => ReflectliteType.toType t) #[rv 82 a 150]).run Tryd.prog w = .ok (ty 82) w := by kernel_rfl
theorem y52 (a : Nat) (w : World) : (ReflectliteValue.methodAny (ReflectliteValue.valueError "reflectlite.Value.Type" 0) (fun t _ _ _ => ReflectliteType.toType t) #[rv 110 a 150]).run Tryd.prog w = .ok (ty 110) w := by kernel_rfl

/-! entries that take or write memory -/
abbrev unp : Array Value → Sem Value := fun args => ReflectliteValue.unpack (args.getD 0 (.tuple #[]))
theorem v48 (b : Nat) (w : World) : (unp #[.iface 82 (.pointer (some ⟨b, 0, none⟩))]).run Tryd.prog w = .ok (rv 82 w.heap.size 150) (w.alloc (.cells #[.pointer (some ⟨b, 0, none⟩)] 82)) := by kernel_rfl
theorem v52 (b : Nat) (w : World) : (unp #[.iface 110 (.pointer (some ⟨b, 0, none⟩))]).run Tryd.prog w = .ok (rv 110 w.heap.size 150) (w.alloc (.cells #[.pointer (some ⟨b, 0, none⟩)] 110)) := by kernel_rfl
theorem v27 (c : Int) (w : World) : (unp #[.iface 29 (.int .i64 c)]).run Tryd.prog w = .ok (rv 29 w.heap.size 130) (w.alloc (.cells #[.int .i64 c] 29)) := by kernel_rfl
theorem v49 (b : Addr) (w : World) : (unp #[.iface 109 (.pointer (some b))]).run Tryd.prog w = .ok (rv 109 w.heap.size 150) (w.alloc (.cells #[.pointer (some b)] 109)) := by kernel_rfl

theorem rlm (z : Sem Value) (f : TypeId → Addr → Nat → Nat → Sem Value) (v : Value) :
    ReflectliteValue.method z f #[v] = (do match ← ReflectliteValue.parts v with | none => z | some (t, a, fl) => f t a fl (fl % 32)) := rfl
theorem p48 (a : Nat) (w : World) : (ReflectliteValue.parts (rv 82 a 150)).run Tryd.prog w = .ok (some (82, ⟨a, 0, none⟩, 150)) w := by kernel_rfl
theorem p52 (a : Nat) (w : World) : (ReflectliteValue.parts (rv 110 a 150)).run Tryd.prog w = .ok (some (110, ⟨a, 0, none⟩, 150)) w := by kernel_rfl
theorem p27 (a : Nat) (w : World) : (ReflectliteValue.parts (rv 29 a 130)).run Tryd.prog w = .ok (some (29, ⟨a, 0, none⟩, 130)) w := by kernel_rfl
theorem p49 (a : Nat) (w : World) : (ReflectliteValue.parts (rv 109 a 150)).run Tryd.prog w = .ok (some (109, ⟨a, 0, none⟩, 150)) w := by kernel_rfl
theorem p27a (a : Nat) (w : World) : (ReflectliteValue.parts (rv 29 a 386)).run Tryd.prog w = .ok (some (29, ⟨a, 0, none⟩, 386)) w := by kernel_rfl
theorem p49a (a : Nat) (w : World) : (ReflectliteValue.parts (rv 109 a 406)).run Tryd.prog w = .ok (some (109, ⟨a, 0, none⟩, 406)) w := by kernel_rfl
abbrev nilE := ReflectliteValue.method (ReflectliteValue.valueError "reflectlite.Value.IsNil" 0) ReflectliteValue.isNil
theorem n48 (a b : Nat) (w : World) (ha : w.cell? ⟨a, 0, none⟩ = some (.pointer (some ⟨b, 0, none⟩))) : (nilE #[rv 82 a 150]).run Tryd.prog w = .ok (.bool false) w := by
  show (ReflectliteValue.method _ _ _).run _ _ = _
  rw [rlm]
  simp only [Sem.run_bind, p48, Result.andThen]
  simp [ReflectliteValue.isNil, loadVar, isAgg, underlying, Tryd.underlying82, ha, Result.andThen]
theorem n52 (a b : Nat) (w : World) (ha : w.cell? ⟨a, 0, none⟩ = some (.pointer (some ⟨b, 0, none⟩))) : (nilE #[rv 110 a 150]).run Tryd.prog w = .ok (.bool false) w := by
  show (ReflectliteValue.method _ _ _).run _ _ = _
  rw [rlm]
  simp only [Sem.run_bind, p52, Result.andThen]
  simp [ReflectliteValue.isNil, loadVar, isAgg, underlying, Tryd.underlying110, ha, Result.andThen]
theorem el48 (w : World) : (Rtype.elem? 82).run Tryd.prog w = .ok (some 29) w := by kernel_rfl
theorem el52 (w : World) : (Rtype.elem? 110).run Tryd.prog w = .ok (some 109) w := by kernel_rfl
theorem mk27 (p : Addr) (w : World) : (ReflectliteValue.mk 29 p ReflectliteValue.flagAddr).run Tryd.prog w = .ok (.agg #[hv 29, .pointer (some p), .int .u64 386]) w := by kernel_rfl
theorem mk49 (p : Addr) (w : World) : (ReflectliteValue.mk 109 p ReflectliteValue.flagAddr).run Tryd.prog w = .ok (.agg #[hv 109, .pointer (some p), .int .u64 406]) w := by kernel_rfl
abbrev elemE := ReflectliteValue.method (ReflectliteValue.valueError "reflectlite.Value.Elem" 0) ReflectliteValue.elem
theorem l48 (a b : Nat) (w : World) (ha : w.cell? ⟨a, 0, none⟩ = some (.pointer (some ⟨b, 0, none⟩))) : (elemE #[rv 82 a 150]).run Tryd.prog w = .ok (rv 29 b 386) w := by
  show (ReflectliteValue.method _ _ _).run _ _ = _
  rw [rlm]
  simp only [Sem.run_bind, p48, Result.andThen]
  simp [ReflectliteValue.elem, loadVar, isAgg, underlying, Tryd.underlying82, ha, Result.andThen, el48, mk27]
theorem l52 (a b : Nat) (w : World) (ha : w.cell? ⟨a, 0, none⟩ = some (.pointer (some ⟨b, 0, none⟩))) : (elemE #[rv 110 a 150]).run Tryd.prog w = .ok (rv 109 b 406) w := by
  show (ReflectliteValue.method _ _ _).run _ _ = _
  rw [rlm]
  simp only [Sem.run_bind, p52, Result.andThen]
  simp [ReflectliteValue.elem, loadVar, isAgg, underlying, Tryd.underlying110, ha, Result.andThen, el52, mk49]
theorem rls (v x : Value) : ReflectliteValue.set #[v, x] = (do
    let (some (dst, a, fl), some (src, b, _)) := (← ReflectliteValue.parts v, ← ReflectliteValue.parts x)
      | unsupported (.noEntry "extern/(internal/reflectlite.Value).Set.zeroValue")
    if fl / ReflectliteValue.flagAddr % 2 == 0 then unsupported (.noEntry "extern/(internal/reflectlite.Value).Set.unaddressable")
    let val ← loadVar src b
    if ← Rtype.directlyAssignable dst src then storeVar dst a val
    else if ← Rtype.implements dst src then
      if (← Rtype.kind src) == 20 then
        match val with
        | .nilIface => unsupported (.noEntry "extern/reflectlite: a nil value of one interface type handed on as a value of another")
        | _ => storeVar dst a val
      else storeVar dst a (.iface src val)
    else panicString ("reflectlite.Set: value of type " ++ (← Rtype.spelt src) ++ " is not assignable to type " ++ (← Rtype.spelt dst))
    pure (.tuple #[])) := rfl
theorem d27 (w : World) : (Rtype.directlyAssignable 29 29).run Tryd.prog w = .ok true w := by kernel_rfl
theorem d49 (w : World) : (Rtype.directlyAssignable 109 109).run Tryd.prog w = .ok true w := by kernel_rfl
theorem s27 (t b : Nat) (u old : Value) (w : World) (hu : u.cells = #[u]) (h1 : u.oneCell' = true) (hb : w.cell? ⟨b, 0, none⟩ = some u) (ht : w.cell? ⟨t, 0, none⟩ = some old) (hf : w.frozen? ⟨t, 0, none⟩ = false) :
    (ReflectliteValue.set #[rv 29 t 386, rv 29 b 130]).run Tryd.prog w = .ok (.tuple #[]) (w.setCell ⟨t, 0, none⟩ u) := by
  rw [rls]
  simp only [Sem.run_bind, p27a, p27, Result.andThen]
  simp [ReflectliteValue.flagAddr, loadVar, isAgg, underlying, Tryd.underlying29, hb, Result.andThen, d27, storeVar, hu, storeCells, Addr.add]
  rw [run_store Tryd.prog w ⟨t, 0, none⟩ _ _ h1]
  simp [ht, hf]
theorem s49 (t b : Nat) (u old : Value) (w : World) (hu : u.cells = #[u]) (h1 : u.oneCell' = true) (hb : w.cell? ⟨b, 0, none⟩ = some u) (ht : w.cell? ⟨t, 0, none⟩ = some old) (hf : w.frozen? ⟨t, 0, none⟩ = false) :
    (ReflectliteValue.set #[rv 109 t 406, rv 109 b 150]).run Tryd.prog w = .ok (.tuple #[]) (w.setCell ⟨t, 0, none⟩ u) := by
  rw [rls]
  simp only [Sem.run_bind, p49a, p49, Result.andThen]
  simp [ReflectliteValue.flagAddr, loadVar, isAgg, underlying, Tryd.underlying109, hb, Result.andThen, d49, storeVar, hu, storeCells, Addr.add]
  rw [run_store Tryd.prog w ⟨t, 0, none⟩ _ _ h1]
  simp [ht, hf]

end Go.Proofs.YtfpkefhjomeeeaaDoor

/-
The walks of Go functions in the logic AL: what each of them answers.
Conditions: those of each theorem.
-/
set_option linter.unusedVariables false
set_option linter.unusedSimpArgs false
namespace Go.Proofs.YtfpkefhjomeeeaaDoor
open Go.AL Go.NumSpec

set_option maxRecDepth 100000 in
/-- provost/num.Add -/
theorem num_Add_ok (a b : Int) (ha : fits a) (hb : fits b) : PCalls Tryd.prog 47 [.int .i64 a, .int .i64 b] (okAV (addV a b)) := by
  intro st
  refine ACalls_of (N := 27) Tryd.func47 (by kernel_rfl) rfl rfl rfl ?_
  have hw := i64w (a + b)
  unfold fits at ha hb
  refine AC_seq ?_
  refine AC_region ?_
  refine AL_p rfl rfl (S_assign rfl (AEv.const _)) ?_
  refine AL_p rfl rfl (S_assign rfl (AEv.const _)) ?_
  refine AL_nil ?_
  refine AC_seq ?_
  refine AC_region ?_
  refine AL_p rfl rfl (S_move rfl (.tmp rfl)) ?_
  refine AL_p rfl rfl (S_move rfl (.tmp rfl)) ?_
  refine AL_p rfl rfl (S_add rfl (.tmp rfl) (.tmp rfl)) ?_
  refine AL_p rfl rfl (S_assign rfl (.tmp rfl)) ?_
  refine AL_nil ?_
  refine AC_seq ?_
  refine AC_seq ?_
  refine AC_region ?_
  refine AL_p rfl rfl (S_move rfl (.tmp rfl)) ?_
  refine AL_p rfl rfl (S_gtr rfl (.tmp rfl) (AEv.const _)) ?_
  refine AL_p rfl rfl (S_move rfl (.tmp rfl)) ?_
  refine AL_g rfl rfl (.tmp rfl) rfl (fun hg1 => S_move rfl (.tmp rfl)) ?_
  refine AL_g rfl rfl (.tmp rfl) rfl (fun hg4 => S_move rfl (.tmp rfl)) ?_
  refine AL_g rfl rfl (.tmp rfl) rfl (fun hg7 => S_lss rfl (AEv.cond (.tmp rfl) (by first | assumption | exact gdAnd (by assumption) (by assumption))) (AEv.cond (.tmp rfl) (by first | assumption | exact gdAnd (by assumption) (by assumption)))) ?_
  refine AL_p rfl rfl (S_and rfl (.tmp rfl) (fun hp10 => (AEv.cond (.tmp rfl) (by first | assumption | exact gdT hp10 | exact gdF hp10 | exact gdAnd (by assumption) (gdT hp10) | exact gdAnd (by assumption) (gdF hp10))))) ?_
  refine AL_p rfl rfl (S_move rfl (.tmp rfl)) ?_
  refine AL_g rfl rfl (.tmp rfl) rfl (fun hg11 => S_move rfl (.tmp rfl)) ?_
  refine AL_g rfl rfl (.tmp rfl) rfl (fun hg14 => S_lss rfl (AEv.cond (.tmp rfl) (by first | assumption | exact gdAnd (by assumption) (by assumption))) (AEv.const _)) ?_
  refine AL_g rfl rfl (.tmp rfl) rfl (fun hg17 => S_move rfl (AEv.cond (.tmp rfl) (by first | assumption | exact gdAnd (by assumption) (by assumption)))) ?_
  refine AL_gg rfl rfl (.tmp rfl) rfl (fun hg20 hg21 hg22 => S_move rfl (.tmp rfl)) ?_
  refine AL_gg rfl rfl (.tmp rfl) rfl (fun hg23 hg24 hg25 => S_move rfl (.tmp rfl)) ?_
  refine AL_gg rfl rfl (.tmp rfl) rfl (fun hg26 hg27 hg28 => S_gtr rfl (AEv.cond (.tmp rfl) (by first | assumption | exact gdAnd (by assumption) (by assumption))) (AEv.cond (.tmp rfl) (by first | assumption | exact gdAnd (by assumption) (by assumption)))) ?_
  refine AL_g rfl rfl (.tmp rfl) rfl (fun hg29 => S_and rfl (AEv.cond (.tmp rfl) (by first | assumption | exact gdAnd (by assumption) (by assumption))) (fun hp32 => (AEv.cond (.tmp rfl) (by first | assumption | exact gdT hp32 | exact gdF hp32 | exact gdAnd (by assumption) (gdT hp32) | exact gdAnd (by assumption) (gdF hp32))))) ?_
  refine AL_p rfl rfl (S_or rfl (.tmp rfl) (fun hp33 => (AEv.cond (.tmp rfl) (by first | assumption | exact gdT hp33 | exact gdF hp33 | exact gdAnd (by assumption) (gdT hp33) | exact gdAnd (by assumption) (gdF hp33))))) ?_
  refine AL_nil ?_
  refine AC_cond (.tmp rfl) (fun hb34 => ?_) (fun hb34 => ?_)
  · try simp only [zA, zO, zN, zM, zP, zQ, zD, zF, gd] at hb34
    refine AC_seq ?_
    refine AC_region ?_
    refine AL_p rfl rfl (S_assign rfl (AEv.const _)) ?_
    refine AL_p rfl rfl (S_assign rfl (AEv.const _)) ?_
    refine AL_nil ?_
    refine AC_ret ?_
    refine ret_tmps (ts := [4, 5]) st rfl (by decide) rfl (Sub.l (List.Sublist.refl _)) (Conv.refl (Sub.l (List.Sublist.refl _)) _) ⟨add_no ha hb (by unfold fits; omega), rfl⟩ (.inl rfl)
  try simp only [zA, zO, zN, zM, zP, zQ, zD, zF, gd] at hb34
  refine AC_skip ?_
  refine AC_seq ?_
  refine AC_region ?_
  refine AL_p rfl rfl (S_move rfl (.tmp rfl)) ?_
  refine AL_p rfl rfl (S_assign rfl (.tmp rfl)) ?_
  refine AL_p rfl rfl (S_assign rfl (AEv.const _)) ?_
  refine AL_nil ?_
  refine AC_ret ?_
  refine ret_tmps (ts := [4, 5]) st rfl (by decide) rfl (Sub.l (List.Sublist.refl _)) (Conv.refl (Sub.l (List.Sublist.refl _)) _) ⟨add_yes (by unfold fits; omega), rfl⟩ (.inl rfl)

set_option maxRecDepth 100000 in
/-- provost/num.Mul -/
theorem num_Mul_ok (a b : Int) (ha : fits a) (hb : fits b) : PCalls Tryd.prog 46 [.int .i64 a, .int .i64 b] (okAV (mulV a b)) := by
  intro st
  refine ACalls_of (N := 36) Tryd.func46 (by kernel_rfl) rfl rfl rfl ?_
  refine AC_seq ?_
  refine AC_region ?_
  refine AL_p rfl rfl (S_assign rfl (AEv.const _)) ?_
  refine AL_p rfl rfl (S_assign rfl (AEv.const _)) ?_
  refine AL_nil ?_
  refine AC_seq ?_
  refine AC_seq ?_
  refine AC_region ?_
  refine AL_p rfl rfl (S_move rfl (.tmp rfl)) ?_
  refine AL_p rfl rfl (S_eql rfl (.tmp rfl) (AEv.const _)) ?_
  refine AL_p rfl rfl (S_move rfl (.tmp rfl)) ?_
  refine AL_g rfl rfl (.tmp rfl) rfl (fun hg1 => S_move rfl (.tmp rfl)) ?_
  refine AL_g rfl rfl (.tmp rfl) rfl (fun hg4 => S_eql rfl (AEv.cond (.tmp rfl) (by first | assumption | exact gdAnd (by assumption) (by assumption))) (AEv.const _)) ?_
  refine AL_p rfl rfl (S_or rfl (.tmp rfl) (fun hp7 => (AEv.cond (.tmp rfl) (by first | assumption | exact gdT hp7 | exact gdF hp7 | exact gdAnd (by assumption) (gdT hp7) | exact gdAnd (by assumption) (gdF hp7))))) ?_
  refine AL_nil ?_
  refine AC_cond (.tmp rfl) (fun hb8 => ?_) (fun hb8 => ?_)
  · try simp only [zA, zO, zN, zM, zP, zQ, zD, zF, gd] at hb8
    refine AC_seq ?_
    refine AC_region ?_
    refine AL_p rfl rfl (S_assign rfl (AEv.const _)) ?_
    refine AL_p rfl rfl (S_assign rfl (AEv.const _)) ?_
    refine AL_nil ?_
    refine AC_ret ?_
    refine ret_tmps (ts := [4, 5]) st rfl (by decide) rfl (Sub.l (List.Sublist.refl _)) (Conv.refl (Sub.l (List.Sublist.refl _)) _) ⟨mul_zero (by omega), rfl⟩ (.inl rfl)
  try simp only [zA, zO, zN, zM, zP, zQ, zD, zF, gd] at hb8
  have hz : b ≠ 0 := by omega
  refine AC_skip ?_
  refine AC_seq ?_
  refine AC_seq ?_
  refine AC_region ?_
  refine AL_p rfl rfl (S_move rfl (.tmp rfl)) ?_
  refine AL_p rfl rfl (S_eql rfl (.tmp rfl) (AEv.const _)) ?_
  refine AL_p rfl rfl (S_move rfl (.tmp rfl)) ?_
  refine AL_g rfl rfl (.tmp rfl) rfl (fun hg9 => S_move rfl (.tmp rfl)) ?_
  refine AL_g rfl rfl (.tmp rfl) rfl (fun hg12 => S_eql rfl (AEv.cond (.tmp rfl) (by first | assumption | exact gdAnd (by assumption) (by assumption))) (AEv.const _)) ?_
  refine AL_p rfl rfl (S_and rfl (.tmp rfl) (fun hp15 => (AEv.cond (.tmp rfl) (by first | assumption | exact gdT hp15 | exact gdF hp15 | exact gdAnd (by assumption) (gdT hp15) | exact gdAnd (by assumption) (gdF hp15))))) ?_
  refine AL_p rfl rfl (S_move rfl (.tmp rfl)) ?_
  refine AL_g rfl rfl (.tmp rfl) rfl (fun hg16 => S_move rfl (.tmp rfl)) ?_
  refine AL_g rfl rfl (.tmp rfl) rfl (fun hg19 => S_eql rfl (AEv.cond (.tmp rfl) (by first | assumption | exact gdAnd (by assumption) (by assumption))) (AEv.const _)) ?_
  refine AL_g rfl rfl (.tmp rfl) rfl (fun hg22 => S_move rfl (AEv.cond (.tmp rfl) (by first | assumption | exact gdAnd (by assumption) (by assumption)))) ?_
  refine AL_gg rfl rfl (.tmp rfl) rfl (fun hg25 hg26 hg27 => S_move rfl (.tmp rfl)) ?_
  refine AL_gg rfl rfl (.tmp rfl) rfl (fun hg28 hg29 hg30 => S_eql rfl (AEv.cond (.tmp rfl) (by first | assumption | exact gdAnd (by assumption) (by assumption))) (AEv.const _)) ?_
  refine AL_g rfl rfl (.tmp rfl) rfl (fun hg31 => S_and rfl (AEv.cond (.tmp rfl) (by first | assumption | exact gdAnd (by assumption) (by assumption))) (fun hp34 => (AEv.cond (.tmp rfl) (by first | assumption | exact gdT hp34 | exact gdF hp34 | exact gdAnd (by assumption) (gdT hp34) | exact gdAnd (by assumption) (gdF hp34))))) ?_
  refine AL_p rfl rfl (S_or rfl (.tmp rfl) (fun hp35 => (AEv.cond (.tmp rfl) (by first | assumption | exact gdT hp35 | exact gdF hp35 | exact gdAnd (by assumption) (gdT hp35) | exact gdAnd (by assumption) (gdF hp35))))) ?_
  refine AL_nil ?_
  refine AC_cond (.tmp rfl) (fun hb36 => ?_) (fun hb36 => ?_)
  · try simp only [zA, zO, zN, zM, zP, zQ, zD, zF, gd] at hb36
    have hne : ¬ fits (a * b) := by
      rintro ⟨_, h2⟩
      rcases hb36 with ⟨rfl, rfl⟩ | ⟨rfl, rfl⟩ <;> omega
    refine AC_seq ?_
    refine AC_region ?_
    refine AL_p rfl rfl (S_assign rfl (AEv.const _)) ?_
    refine AL_p rfl rfl (S_assign rfl (AEv.const _)) ?_
    refine AL_nil ?_
    refine AC_ret ?_
    refine ret_tmps (ts := [4, 5]) st rfl (by decide) rfl (Sub.l (List.Sublist.refl _)) (Conv.refl (Sub.l (List.Sublist.refl _)) _) ⟨mul_no hne, rfl⟩ (.inl rfl)
  try simp only [zA, zO, zN, zM, zP, zQ, zD, zF, gd] at hb36
  have hk := mul_test ha hb hz (by omega)
  refine AC_skip ?_
  refine AC_seq ?_
  refine AC_region ?_
  refine AL_p rfl rfl (S_move rfl (.tmp rfl)) ?_
  refine AL_p rfl rfl (S_move rfl (.tmp rfl)) ?_
  refine AL_p rfl rfl (S_mul rfl (.tmp rfl) (.tmp rfl)) ?_
  refine AL_p rfl rfl (S_assign rfl (.tmp rfl)) ?_
  refine AL_nil ?_
  refine AC_seq ?_
  refine AC_seq ?_
  refine AC_region ?_
  refine AL_p rfl rfl (S_move rfl (.tmp rfl)) ?_
  refine AL_p rfl rfl (S_move rfl (.tmp rfl)) ?_
  refine AL_p rfl rfl (S_quo rfl (.tmp rfl) (.tmp rfl) (by omega)) ?_
  refine AL_p rfl rfl (S_move rfl (.tmp rfl)) ?_
  refine AL_p rfl rfl (S_neq rfl (.tmp rfl) (.tmp rfl)) ?_
  refine AL_nil ?_
  refine AC_cond (.tmp rfl) (fun hb37 => ?_) (fun hb37 => ?_)
  · try simp only [zA, zO, zN, zM, zP, zQ, zD, zF, gd] at hb37
    refine AC_seq ?_
    refine AC_region ?_
    refine AL_p rfl rfl (S_assign rfl (AEv.const _)) ?_
    refine AL_p rfl rfl (S_assign rfl (AEv.const _)) ?_
    refine AL_nil ?_
    refine AC_ret ?_
    refine ret_tmps (ts := [4, 5]) st rfl (by decide) rfl (Sub.l (List.Sublist.refl _)) (Conv.refl (Sub.l (List.Sublist.refl _)) _) ⟨mul_no (by rw [← hk]; assumption), rfl⟩ (.inl rfl)
  try simp only [zA, zO, zN, zM, zP, zQ, zD, zF, gd] at hb37
  refine AC_skip ?_
  refine AC_seq ?_
  refine AC_region ?_
  refine AL_p rfl rfl (S_move rfl (.tmp rfl)) ?_
  refine AL_p rfl rfl (S_assign rfl (.tmp rfl)) ?_
  refine AL_p rfl rfl (S_assign rfl (AEv.const _)) ?_
  refine AL_nil ?_
  refine AC_ret ?_
  refine ret_tmps (ts := [4, 5]) st rfl (by decide) rfl (Sub.l (List.Sublist.refl _)) (Conv.refl (Sub.l (List.Sublist.refl _)) _) ⟨mul_yes (by rw [← hk]; assumption), rfl⟩ (.inl rfl)

set_option maxRecDepth 100000 in
/-- provost/provostref01.size -/
theorem ref_size_ok (a : Int) (ha : fits a) : PCalls Tryd.prog 43 [.int .i64 a] (.int .u64 (a.natAbs : Int)) := by
  intro st
  refine ACalls_of (N := 10) Tryd.func43 (by kernel_rfl) rfl rfl rfl ?_
  have hw1 := u64w a
  have hw2 := u64w (0 - IntKind.u64.wrap a)
  unfold fits at ha
  refine AC_seq ?_
  refine AC_region ?_
  refine AL_p rfl rfl (S_assign rfl (AEv.const _)) ?_
  refine AL_nil ?_
  refine AC_seq ?_
  refine AC_seq ?_
  refine AC_region ?_
  refine AL_p rfl rfl (S_move rfl (.tmp rfl)) ?_
  refine AL_p rfl rfl (S_lss rfl (.tmp rfl) (AEv.const _)) ?_
  refine AL_nil ?_
  refine AC_cond (.tmp rfl) (fun hb1 => ?_) (fun hb1 => ?_)
  · try simp only [zA, zO, zN, zM, zP, zQ, zD, zF, gd] at hb1
    refine AC_seq ?_
    refine AC_region ?_
    refine AL_p rfl rfl (S_move rfl (.tmp rfl)) ?_
    refine AL_p rfl rfl (S_conv (k' := .u64) rfl (.tmp rfl) (by kernel_rfl) (by kernel_rfl)) ?_
    refine AL_p rfl rfl (S_sub rfl (AEv.const _) (.tmp rfl)) ?_
    refine AL_p rfl rfl (S_assign rfl (.tmp rfl)) ?_
    refine AL_nil ?_
    refine AC_ret ?_
    refine ret_tmp st rfl rfl (Sub.l (List.Sublist.refl _)) (Conv.refl (Sub.l (List.Sublist.refl _)) _) ⟨by rw [show IntKind.u64.wrap _ = (a.natAbs : Int) by omega], rfl⟩ (.inl rfl)
  try simp only [zA, zO, zN, zM, zP, zQ, zD, zF, gd] at hb1
  refine AC_skip ?_
  refine AC_seq ?_
  refine AC_region ?_
  refine AL_p rfl rfl (S_move rfl (.tmp rfl)) ?_
  refine AL_p rfl rfl (S_conv (k' := .u64) rfl (.tmp rfl) (by kernel_rfl) (by kernel_rfl)) ?_
  refine AL_p rfl rfl (S_assign rfl (.tmp rfl)) ?_
  refine AL_nil ?_
  refine AC_ret ?_
  refine ret_tmp st rfl rfl (Sub.l (List.Sublist.refl _)) (Conv.refl (Sub.l (List.Sublist.refl _)) _) ⟨by rw [show IntKind.u64.wrap _ = (a.natAbs : Int) by omega], rfl⟩ (.inl rfl)

set_option maxRecDepth 100000 in
/-- provost/num.digits -/
theorem num_digits_ok (n : Nat) (h : n < 18446744073709551616) : PCalls Tryd.prog 51 [.int .u64 n] (.S (digL n)) := by
  intro st
  refine ACalls_of (N := 20) Tryd.func51 (by kernel_rfl) rfl rfl rfl ?_
  have hlen : (digL n).length ≤ 20 := digL_20 h
  refine AC_seq ?_
  refine AC_region ?_
  refine AL_p rfl rfl (S_assign rfl (AEv.S _)) ?_
  refine AL_nil ?_
  refine AC_seq ?_
  refine AC_region ?_
  refine AL_step rfl rfl (S_alloc (List.replicate 20 (.int .u8 0)) rfl (by kernel_rfl)) ?_
  rintro _ _ ⟨b1, rfl, rfl⟩
  refine AL_nil ?_
  refine AC_seq ?_
  refine AC_region ?_
  refine AL_p rfl rfl (S_assign rfl (AEv.const _)) ?_
  refine AL_nil ?_
  refine AC_block ?_
  refine AC_loop (G := Nat × List UInt8) (DigInv n) (fun g => [(0, .int .u64 g.1), (3, .ptr b1 0), (4, .int .i64 ((20 - g.2.length : Nat) : Int))]) (fun g => (b1, .cells (padR g.2)) :: st) (fun g => g.1) ((n, [])) (⟨by simp, h, hlen⟩) rfl ?_ ?_
  · exact (.cons rfl (by first | exact Le.refl _ | exact Le.nils | exact Le.row _ _ _ _ | (exact Le.of_eq (by simp))) (.cons rfl (by first | exact Le.refl _ | exact Le.nils | exact Le.row _ _ _ _ | (exact Le.of_eq (by simp))) (.cons rfl (by first | exact Le.refl _ | exact Le.nils | exact Le.row _ _ _ _ | (exact Le.of_eq (by simp))) .nil)))
  rintro ⟨m, l⟩ hI
  try dsimp only
  have h3 := dig_le hI
  have h2 := hI.lt
  dsimp only at h2
  refine AC_block ?_
  refine AC_seq ?_
  refine AC_region ?_
  refine AL_p rfl rfl (S_move rfl (.tmp rfl)) ?_
  refine AL_p rfl rfl (S_subI rfl (.tmp rfl) (AEv.const _) (by omega) (by omega)) ?_
  refine AL_p rfl rfl (S_assign rfl (.tmp rfl)) ?_
  refine AL_nil ?_
  refine AC_seq ?_
  refine AC_region ?_
  refine AL_p rfl rfl (S_move rfl (.tmp rfl)) ?_
  refine AL_p rfl rfl (S_move rfl (.tmp rfl)) ?_
  refine AL_p rfl rfl (S_remN (n := 10) rfl (.tmp rfl) (AEv.const _) (by omega)) ?_
  refine AL_p rfl rfl (S_conv (k' := .u8) rfl (.tmp rfl) (by kernel_rfl) (by kernel_rfl)) ?_
  refine AL_p rfl rfl (S_add rfl (AEv.const _) (.tmp rfl)) ?_
  refine AL_p rfl rfl (S_elemA (e := 5) (len := 20) 1 rfl (.tmp rfl) (.tmp rfl) (by kernel_rfl) (by kernel_rfl) (by omega) (by omega)) ?_
  refine AL_step rfl rfl (S_store 0 rfl (.tmp rfl) (.tmp rfl) rfl (by rw [padR_len (by omega)]; omega) rfl (by kernel_rfl)) ?_
  rintro _ _ ⟨rfl, rfl⟩
  rw [padR_set (c := UInt8.ofNat (48 + m % 10)) rfl (by rw [wrap_u8 (n := ((m % 10 : Nat) : Int)) (by omega) (by omega), wrap_u8 (by omega) (by omega)]; simp; omega) h3]
  refine AL_nil ?_
  refine AC_seq ?_
  refine AC_region ?_
  refine AL_p rfl rfl (S_move rfl (.tmp rfl)) ?_
  refine AL_p rfl rfl (S_quoN (n := 10) (.inl rfl) rfl (.tmp rfl) (AEv.const _) (by omega) (.inr ⟨rfl, by omega⟩)) ?_
  refine AL_p rfl rfl (S_assign rfl (.tmp rfl)) ?_
  refine AL_nil ?_
  refine AC_seq ?_
  refine AC_region ?_
  refine AL_p rfl rfl (S_move rfl (.tmp rfl)) ?_
  refine AL_p rfl rfl (S_eql rfl (.tmp rfl) (AEv.const _)) ?_
  refine AL_nil ?_
  refine AC_cond (.tmp rfl) (fun hb2 => ?_) (fun hb2 => ?_)
  · try simp only [zA, zO, zN, zM, zP, zQ, zD, zF, gd] at hb2
    have hq : m / 10 = 0 := by omega
    refine AC_seq ?_
    refine AC_region ?_
    refine AL_p rfl rfl (S_move rfl (.tmp rfl)) ?_
    refine AL_p rfl rfl (S_cutA (e := 5) (len := 20) (i := 20 - (l.length + 1)) (j := 20) 1 rfl (.tmp rfl) ⟨_, (AEv.tmp rfl).le (Le.of_eq (by rw [show ((20 - l.length : Nat) : Int) - 1 = ((20 - (l.length + 1) : Nat) : Int) by omega]))⟩ rfl (by kernel_rfl) (by kernel_rfl) (by omega) (by omega) (by omega)) ?_
    refine AL_p rfl rfl (S_bytes (e := 5) (l := UInt8.ofNat (48 + m % 10) :: l) 0 rfl (.tmp rfl) rfl (by have := padR_drop (l := UInt8.ofNat (48 + m % 10) :: l) (by simp; omega); simp only [List.length_cons] at this; rw [show 20 - (20 - (l.length + 1)) = l.length + 1 by omega]; exact this) (by simp; omega) (by kernel_rfl) (by kernel_rfl) (by kernel_rfl)) ?_
    refine AL_p rfl rfl (S_assign rfl (.tmp rfl)) ?_
    refine AL_nil ?_
    refine AC_ret ?_
    refine ret_tmp st rfl rfl (Sub.l (List.Sublist.cons _ (List.Sublist.refl _))) (Conv.refl (Sub.l (List.Sublist.cons _ (List.Sublist.refl _))) _) ⟨by rw [dig_end hI hq], rfl⟩ (.inl rfl)
  try simp only [zA, zO, zN, zM, zP, zQ, zD, zF, gd] at hb2
  have hq : m / 10 ≠ 0 := by omega
  refine AC_skip ?_
  refine ⟨_, dig_next hI hq, by show m / 10 < m; omega, rfl, .cons rfl (Le.refl _) (.cons rfl (Le.refl _) (.cons rfl (Le.of_eq (by simp only [List.length_cons]; rw [show ((20 - l.length : Nat) : Int) - 1 = ((20 - (l.length + 1) : Nat) : Int) by omega])) .nil))⟩

set_option maxRecDepth 100000 in
/-- provost/num.Text -/
theorem num_Text_ok (a : Int) (ha : fits a) : PCalls Tryd.prog 35 [.int .i64 a] (.S (textL a)) := by
  intro st
  refine ACalls_of (N := 13) Tryd.func35 (by kernel_rfl) rfl rfl rfl ?_
  have hw1 := u64w a
  have hw2 := u64w (-IntKind.u64.wrap a)
  unfold fits at ha
  have hlen : (digL a.natAbs).length ≤ 19 := digL_19 (by omega)
  refine AC_seq ?_
  refine AC_region ?_
  refine AL_p rfl rfl (S_assign rfl (AEv.S _)) ?_
  refine AL_nil ?_
  refine AC_seq ?_
  refine AC_seq ?_
  refine AC_region ?_
  refine AL_p rfl rfl (S_move rfl (.tmp rfl)) ?_
  refine AL_p rfl rfl (S_lss rfl (.tmp rfl) (AEv.const _)) ?_
  refine AL_nil ?_
  refine AC_cond (.tmp rfl) (fun hb1 => ?_) (fun hb1 => ?_)
  · try simp only [zA, zO, zN, zM, zP, zQ, zD, zF, gd] at hb1
    refine AC_seq ?_
    refine AC_region ?_
    refine AL_p rfl rfl (S_move rfl (.tmp rfl)) ?_
    refine AL_p rfl rfl (S_conv (k' := .u64) rfl (.tmp rfl) (by kernel_rfl) (by kernel_rfl)) ?_
    refine AL_p rfl rfl (S_neg rfl (.tmp rfl)) ?_
    refine AL_p rfl rfl (S_pcall rfl (AEvs.cons ((AEv.tmp rfl).le (Le.of_eq (by rw [show IntKind.u64.wrap (-IntKind.u64.wrap a) = (a.natAbs : Int) by omega]))) AEvs.nil) (num_digits_ok a.natAbs (by omega))) ?_
    refine AL_p rfl rfl (S_cat rfl (AEv.S _) (.tmp rfl) (by first | omega | (simp; done) | (simp; omega))) ?_
    refine AL_p rfl rfl (S_assign rfl (.tmp rfl)) ?_
    refine AL_nil ?_
    refine AC_ret ?_
    refine ret_tmp st rfl rfl (Sub.l (List.Sublist.refl _)) (Conv.refl (Sub.l (List.Sublist.refl _)) _) ⟨by rw [textL, if_pos (by omega)]; rfl, rfl⟩ (.inl rfl)
  try simp only [zA, zO, zN, zM, zP, zQ, zD, zF, gd] at hb1
  refine AC_skip ?_
  refine AC_seq ?_
  refine AC_region ?_
  refine AL_p rfl rfl (S_move rfl (.tmp rfl)) ?_
  refine AL_p rfl rfl (S_conv (k' := .u64) rfl (.tmp rfl) (by kernel_rfl) (by kernel_rfl)) ?_
  refine AL_p rfl rfl (S_pcall rfl (AEvs.cons ((AEv.tmp rfl).le (Le.of_eq (by rw [show IntKind.u64.wrap a = (a.natAbs : Int) by omega]))) AEvs.nil) (num_digits_ok a.natAbs (by omega))) ?_
  refine AL_p rfl rfl (S_assign rfl (.tmp rfl)) ?_
  refine AL_nil ?_
  refine AC_ret ?_
  refine ret_tmp st rfl rfl (Sub.l (List.Sublist.refl _)) (Conv.refl (Sub.l (List.Sublist.refl _)) _) ⟨by rw [textL, if_neg (by omega)], rfl⟩ (.inl rfl)

set_option maxRecDepth 100000 in
/-- provost/provostref01.Text -/
theorem ref_Text_ok (a : Int) (ha : fits a) : PCalls Tryd.prog 22 [.int .i64 a] (.S (textL a)) := by
  intro st
  refine ACalls_of (N := 35) Tryd.func22 (by kernel_rfl) rfl rfl rfl ?_
  have hlen : (digL a.natAbs).length ≤ 19 := digL_19 (by unfold fits at ha; omega)
  refine AC_seq ?_
  refine AC_region ?_
  refine AL_p rfl rfl (S_assign rfl (AEv.S _)) ?_
  refine AL_nil ?_
  refine AC_seq ?_
  refine AC_region ?_
  refine AL_p rfl rfl (S_assign rfl (AEv.S _)) ?_
  refine AL_nil ?_
  refine AC_seq ?_
  refine AC_region ?_
  refine AL_p rfl rfl (S_move rfl (.tmp rfl)) ?_
  refine AL_p rfl rfl (S_pcall rfl (AEvs.cons (.tmp rfl) AEvs.nil) (ref_size_ok _ (by first | assumption | decide))) ?_
  refine AL_p rfl rfl (S_assign rfl (.tmp rfl)) ?_
  refine AL_nil ?_
  refine AC_seq ?_
  refine AC_seq ?_
  refine AC_region ?_
  refine AL_p rfl rfl (S_assign rfl (AEv.const _)) ?_
  refine AL_nil ?_
  refine AC_block ?_
  refine AC_loop (G := Nat × List UInt8) (TextInv a.natAbs) (fun g => [(0, .int .i64 a), (3, .S g.2), (4, .int .u64 (g.1 : Int)), (5, .int .i64 (g.2.length : Int))]) (fun g => st) (fun g => g.1 + (if g.2 = [] then 1 else 0)) ((a.natAbs, [])) (⟨hlen, by simp, by unfold fits at ha; dsimp only; omega, .inl ⟨rfl, rfl⟩⟩) rfl ?_ ?_
  · exact (.cons rfl (by first | exact Le.refl _ | exact Le.nils | exact Le.row _ _ _ _ | (exact Le.of_eq (by simp))) (.cons rfl (by first | exact Le.refl _ | exact Le.nils | exact Le.row _ _ _ _ | (exact Le.of_eq (by simp))) (.cons rfl (by first | exact Le.refl _ | exact Le.nils | exact Le.row _ _ _ _ | (exact Le.of_eq (by simp))) (.cons rfl (by first | exact Le.refl _ | exact Le.nils | exact Le.row _ _ _ _ | (exact Le.of_eq (by simp))) .nil))))
  rintro ⟨u, s⟩ hI
  try dsimp only
  have hlow := hI.low
  have hlt := hI.lt
  dsimp only at hlow hlt
  refine AC_seq ?_
  refine AC_seq ?_
  refine AC_region ?_
  refine AL_p rfl rfl (S_move rfl (.tmp rfl)) ?_
  refine AL_p rfl rfl (S_eql rfl (.tmp rfl) (AEv.const _)) ?_
  refine AL_p rfl rfl (S_move rfl (.tmp rfl)) ?_
  refine AL_g rfl rfl (.tmp rfl) rfl (fun hg1 => S_move rfl (.tmp rfl)) ?_
  refine AL_g rfl rfl (.tmp rfl) rfl (fun hg4 => S_gtr rfl (AEv.cond (.tmp rfl) (by first | assumption | exact gdAnd (by assumption) (by assumption))) (AEv.const _)) ?_
  refine AL_g rfl rfl (.tmp rfl) rfl (fun hg7 => S_move rfl (AEv.cond (.tmp rfl) (by first | assumption | exact gdAnd (by assumption) (by assumption)))) ?_
  refine AL_gg rfl rfl (.tmp rfl) rfl (fun hg10 hg11 hg12 => S_move rfl (.tmp rfl)) ?_
  refine AL_gg rfl rfl (.tmp rfl) rfl (fun hg13 hg14 hg15 => S_lss rfl (AEv.cond (.tmp rfl) (by first | assumption | exact gdAnd (by assumption) (by assumption))) (AEv.const _)) ?_
  refine AL_g rfl rfl (.tmp rfl) rfl (fun hg16 => S_and rfl (AEv.cond (.tmp rfl) (by first | assumption | exact gdAnd (by assumption) (by assumption))) (fun hp19 => (AEv.cond (.tmp rfl) (by first | assumption | exact gdT hp19 | exact gdF hp19 | exact gdAnd (by assumption) (gdT hp19) | exact gdAnd (by assumption) (gdF hp19))))) ?_
  refine AL_p rfl rfl (S_or rfl (.tmp rfl) (fun hp20 => (AEv.cond (.tmp rfl) (by first | assumption | exact gdT hp20 | exact gdF hp20 | exact gdAnd (by assumption) (gdT hp20) | exact gdAnd (by assumption) (gdF hp20))))) ?_
  refine AL_nil ?_
  refine AC_cond (.tmp rfl) (fun hb21 => ?_) (fun hb21 => ?_)
  · try simp only [zA, zO, zN, zM, zP, zQ, zD, zF, gd] at hb21
    have hs : s = [] ∨ u ≠ 0 := by
      rcases hb21 with h | h
      · exact .inl (List.eq_nil_of_length_eq_zero (by omega))
      · exact .inr (by omega)
    refine AC_skip ?_
    refine AC_seq ?_
    refine AC_block ?_
    refine AC_seq ?_
    refine AC_region ?_
    refine AL_p rfl rfl (S_move rfl (.tmp rfl)) ?_
    refine AL_p rfl rfl (S_remN (n := 10) rfl (.tmp rfl) (AEv.const _) (by omega)) ?_
    refine AL_p rfl rfl (S_add rfl (AEv.const _) (.tmp rfl)) ?_
    refine AL_p rfl rfl (S_conv (k' := .u8) rfl (.tmp rfl) (by kernel_rfl) (by kernel_rfl)) ?_
    refine AL_p rfl rfl (S_buildSlice (e := 5) 1 rfl (AEvs.cons (.tmp rfl) AEvs.nil) rfl (by kernel_rfl) (by kernel_rfl) (by simp [AV.flat, AV.one, AV.cells, Value.oneCell']) (by decide) (by decide) (by decide)) ?_
    refine AL_p rfl rfl (S_bytesSl (e := 5) [UInt8.ofNat (48 + u % 10)] rfl (.tmp rfl) (by simp [bytesAV]; rw [wrap_u64 (by omega) (by omega), wrap_u8 (by omega) (by omega)]; omega) (by kernel_rfl) (by kernel_rfl) (by kernel_rfl)) ?_
    refine AL_p rfl rfl (S_move rfl (.tmp rfl)) ?_
    refine AL_p rfl rfl (S_cat rfl (.tmp rfl) (.tmp rfl) (by first | omega | (simp; done) | (simp; omega))) ?_
    refine AL_p rfl rfl (S_assign rfl (.tmp rfl)) ?_
    refine AL_nil ?_
    refine AC_region ?_
    refine AL_p rfl rfl (S_move rfl (.tmp rfl)) ?_
    refine AL_p rfl rfl (S_quoN (n := 10) (.inl rfl) rfl (.tmp rfl) (AEv.const _) (by omega) (.inr ⟨rfl, by omega⟩)) ?_
    refine AL_p rfl rfl (S_assign rfl (.tmp rfl)) ?_
    refine AL_nil ?_
    refine AC_region ?_
    refine AL_p rfl rfl (S_move rfl (.tmp rfl)) ?_
    refine AL_p rfl rfl (S_addI rfl (.tmp rfl) (AEv.const _) (by omega) (by omega)) ?_
    refine AL_p rfl rfl (S_assign rfl (.tmp rfl)) ?_
    refine AL_nil ?_
    refine ⟨(u / 10, UInt8.ofNat (48 + u % 10) :: s), text_next hI hs, ?_, rfl, .cons rfl (Le.refl _) (.cons rfl (Le.refl _) (.cons rfl (Le.refl _) (.cons rfl (Le.of_eq (by simp)) .nil)))⟩
    show u / 10 + _ < u + _
    rw [if_neg (by simp)]
    rcases hs with rfl | h
    · rw [if_pos rfl]; omega
    · split <;> omega
  try simp only [zA, zO, zN, zM, zP, zQ, zD, zF, gd] at hb21
  have he := text_end hI (by rintro rfl; simp at hb21) (by omega)
  refine AC_exit ?_
  refine AC_seq ?_
  refine AC_seq ?_
  refine AC_region ?_
  refine AL_p rfl rfl (S_move rfl (.tmp rfl)) ?_
  refine AL_p rfl rfl (S_lss rfl (.tmp rfl) (AEv.const _)) ?_
  refine AL_nil ?_
  refine AC_cond (.tmp rfl) (fun hb22 => ?_) (fun hb22 => ?_)
  · try simp only [zA, zO, zN, zM, zP, zQ, zD, zF, gd] at hb22
    refine AC_seq ?_
    refine AC_region ?_
    refine AL_p rfl rfl (S_move rfl (.tmp rfl)) ?_
    refine AL_p rfl rfl (S_cat rfl (AEv.S _) (.tmp rfl) (by first | omega | (simp; done) | (simp; omega))) ?_
    refine AL_p rfl rfl (S_assign rfl (.tmp rfl)) ?_
    refine AL_nil ?_
    refine AC_ret ?_
    refine ret_tmp st rfl rfl (Sub.l (List.Sublist.refl _)) (Conv.refl (Sub.l (List.Sublist.refl _)) _) ⟨by rw [textL, if_pos (by omega), he]; rfl, rfl⟩ (.inl rfl)
  try simp only [zA, zO, zN, zM, zP, zQ, zD, zF, gd] at hb22
  refine AC_skip ?_
  refine AC_seq ?_
  refine AC_region ?_
  refine AL_p rfl rfl (S_move rfl (.tmp rfl)) ?_
  refine AL_p rfl rfl (S_assign rfl (.tmp rfl)) ?_
  refine AL_nil ?_
  refine AC_ret ?_
  refine ret_tmp st rfl rfl (Sub.l (List.Sublist.refl _)) (Conv.refl (Sub.l (List.Sublist.refl _)) _) ⟨by rw [textL, if_neg (by omega), he], rfl⟩ (.inl rfl)

set_option maxRecDepth 100000 in
/-- provost/num.Parse -/
theorem num_Parse_ok (l : List UInt8) (most : Int) : PCalls Tryd.prog 29 [.S l, .int .i64 most] (okAV (parseV l most)) := by
  intro st
  refine ACalls_of (N := 61) Tryd.func29 (by kernel_rfl) rfl rfl rfl ?_
  have ha0 : atL l 0 = ((l.getD 0 0).toNat : Int) := by simp [atL]
  refine AC_seq ?_
  refine AC_region ?_
  refine AL_p rfl rfl (S_assign rfl (AEv.const _)) ?_
  refine AL_p rfl rfl (S_assign rfl (AEv.const _)) ?_
  refine AL_nil ?_
  refine AC_seq ?_
  refine AC_seq ?_
  refine AC_region ?_
  refine AL_p rfl rfl (S_move rfl (.tmp rfl)) ?_
  refine AL_p rfl rfl (S_eqS rfl (.tmp rfl) (AEv.S _)) ?_
  refine AL_p rfl rfl (S_move rfl (.tmp rfl)) ?_
  refine AL_g rfl rfl (.tmp rfl) rfl (fun hg1 => S_move rfl (.tmp rfl)) ?_
  refine AL_g rfl rfl (.tmp rfl) rfl (fun hg4 => S_lenS (ts := #[]) rfl (AEv.cond (.tmp rfl) (by first | assumption | exact gdAnd (by assumption) (by assumption))) (by kernel_rfl)) ?_
  refine AL_g rfl rfl (.tmp rfl) rfl (fun hg7 => S_gtr rfl (AEv.cond (.tmp rfl) (by first | assumption | exact gdAnd (by assumption) (by assumption))) (AEv.const _)) ?_
  refine AL_g rfl rfl (.tmp rfl) rfl (fun hg10 => S_move rfl (AEv.cond (.tmp rfl) (by first | assumption | exact gdAnd (by assumption) (by assumption)))) ?_
  refine AL_gg rfl rfl (.tmp rfl) rfl (fun hg13 hg14 hg15 => S_move rfl (.tmp rfl)) ?_
  refine AL_gg rfl rfl (.tmp rfl) rfl (fun hg16 hg17 hg18 => S_index rfl (AEv.cond (.tmp rfl) (by first | assumption | exact gdAnd (by assumption) (by assumption))) (AEv.const _) (by kernel_rfl) (by (try simp only [gd, Bool.and_eq_true, Bool.or_eq_true, Bool.not_eq_true', Bool.not_eq_false', decide_eq_true_eq, decide_eq_false_iff_not, Bool.or_eq_false_iff, Bool.and_eq_false_iff] at *); omega) (by (try simp only [gd, Bool.and_eq_true, Bool.or_eq_true, Bool.not_eq_true', Bool.not_eq_false', decide_eq_true_eq, decide_eq_false_iff_not, Bool.or_eq_false_iff, Bool.and_eq_false_iff] at *); omega)) ?_
  refine AL_gg rfl rfl (.tmp rfl) rfl (fun hg19 hg20 hg21 => S_eql rfl (AEv.cond (.tmp rfl) (by first | assumption | exact gdAnd (by assumption) (by assumption))) (AEv.const _)) ?_
  refine AL_g rfl rfl (.tmp rfl) rfl (fun hg22 => S_and rfl (AEv.cond (.tmp rfl) (by first | assumption | exact gdAnd (by assumption) (by assumption))) (fun hp25 => (AEv.cond (.tmp rfl) (by first | assumption | exact gdT hp25 | exact gdF hp25 | exact gdAnd (by assumption) (gdT hp25) | exact gdAnd (by assumption) (gdF hp25))))) ?_
  refine AL_p rfl rfl (S_or rfl (.tmp rfl) (fun hp26 => (AEv.cond (.tmp rfl) (by first | assumption | exact gdT hp26 | exact gdF hp26 | exact gdAnd (by assumption) (gdT hp26) | exact gdAnd (by assumption) (gdF hp26))))) ?_
  refine AL_nil ?_
  refine AC_cond (.tmp rfl) (fun hb27 => ?_) (fun hb27 => ?_)
  · try simp only [zA, zO, zN, zM, zP, zQ, zD, zF, gd] at hb27
    have hlead : l = [] ∨ 1 < l.length ∧ (l.getD 0 0).toNat = 48 := by
      rcases hb27 with h | h
      · exact .inl h
      · exact .inr (by omega)
    refine AC_seq ?_
    refine AC_region ?_
    refine AL_p rfl rfl (S_assign rfl (AEv.const _)) ?_
    refine AL_p rfl rfl (S_assign rfl (AEv.const _)) ?_
    refine AL_nil ?_
    refine AC_ret ?_
    refine ret_tmps (ts := [4, 5]) st rfl (by decide) rfl (Sub.l (List.Sublist.refl _)) (Conv.refl (Sub.l (List.Sublist.refl _)) _) ⟨parse_no (fun h => parse_lead hlead h.1), rfl⟩ (.inl rfl)
  try simp only [zA, zO, zN, zM, zP, zQ, zD, zF, gd] at hb27
  have hne : l ≠ [] := hb27.1
  have h1 : ¬ (1 < l.length ∧ (l.getD 0 0).toNat = 48) := by omega
  refine AC_skip ?_
  refine AC_seq ?_
  refine AC_region ?_
  refine AL_p rfl rfl (S_assign rfl (AEv.const _)) ?_
  refine AL_nil ?_
  refine AC_seq ?_
  refine AC_seq ?_
  refine AC_region ?_
  refine AL_p rfl rfl (S_move rfl (.tmp rfl)) ?_
  refine AL_p rfl rfl (S_lenS (ts := #[]) rfl (.tmp rfl) (by kernel_rfl)) ?_
  refine AL_p rfl rfl (S_move rfl (AEv.const _)) ?_
  refine AL_nil ?_
  refine AC_block ?_
  refine AC_loop (G := Nat) (fun k => ParseInv l k ∧ pv (l.take k) ≤ 9223372036854775807) (fun k => [(0, .S l), (1, .int .i64 most), (6, .int .i64 (pv (l.take k) : Int)), (23, .int .i64 (l.length : Int)), (24, .int .i64 (k : Int))]) (fun k => st) (fun k => l.length - k) (0) (⟨⟨by omega, by intro j hj; omega⟩, by simp [pv]⟩) rfl ?_ ?_
  · exact (.cons rfl (by first | exact Le.refl _ | exact Le.nils | exact Le.row _ _ _ _ | (exact Le.of_eq (by simp))) (.cons rfl (by first | exact Le.refl _ | exact Le.nils | exact Le.row _ _ _ _ | (exact Le.of_eq (by simp))) (.cons rfl (by first | exact Le.refl _ | exact Le.nils | exact Le.row _ _ _ _ | (exact Le.of_eq (by simp))) (.cons rfl (by first | exact Le.refl _ | exact Le.nils | exact Le.row _ _ _ _ | (exact Le.of_eq (by simp))) (.cons rfl (by first | exact Le.refl _ | exact Le.nils | exact Le.row _ _ _ _ | (exact Le.of_eq (by simp))) .nil)))))
  rintro k ⟨hI, hp⟩
  try dsimp only
  have ha := atL_nat l k
  have hk19 := pv_few hI.le hne h1 hI.dig hp
  refine AC_seq ?_
  refine AC_region ?_
  refine AL_p rfl rfl (S_lss rfl (.tmp rfl) (.tmp rfl)) ?_
  refine AL_nil ?_
  refine AC_seq ?_
  refine AC_cond (.tmp rfl) (fun hb28 => ?_) (fun hb28 => ?_)
  · try simp only [zA, zO, zN, zM, zP, zQ, zD, zF, gd] at hb28
    have hkl : k < l.length := by omega
    refine AC_skip ?_
    refine AC_seq ?_
    refine AC_block ?_
    refine AC_seq ?_
    refine AC_region ?_
    refine AL_p rfl rfl (S_move rfl (.tmp rfl)) ?_
    refine AL_p rfl rfl (S_assign rfl (.tmp rfl)) ?_
    refine AL_nil ?_
    refine AC_seq ?_
    refine AC_seq ?_
    refine AC_region ?_
    refine AL_p rfl rfl (S_move rfl (.tmp rfl)) ?_
    refine AL_p rfl rfl (S_move rfl (.tmp rfl)) ?_
    refine AL_p rfl rfl (S_index rfl (.tmp rfl) (.tmp rfl) (by kernel_rfl) (by omega) (by omega)) ?_
    refine AL_p rfl rfl (S_lss rfl (.tmp rfl) (AEv.const _)) ?_
    refine AL_p rfl rfl (S_move rfl (.tmp rfl)) ?_
    refine AL_g rfl rfl (.tmp rfl) rfl (fun hg29 => S_move rfl (.tmp rfl)) ?_
    refine AL_g rfl rfl (.tmp rfl) rfl (fun hg32 => S_move rfl (.tmp rfl)) ?_
    refine AL_g rfl rfl (.tmp rfl) rfl (fun hg35 => S_index rfl (AEv.cond (.tmp rfl) (by first | assumption | exact gdAnd (by assumption) (by assumption))) (AEv.cond (.tmp rfl) (by first | assumption | exact gdAnd (by assumption) (by assumption))) (by kernel_rfl) (by (try simp only [gd, Bool.and_eq_true, Bool.or_eq_true, Bool.not_eq_true', Bool.not_eq_false', decide_eq_true_eq, decide_eq_false_iff_not, Bool.or_eq_false_iff, Bool.and_eq_false_iff] at *); omega) (by (try simp only [gd, Bool.and_eq_true, Bool.or_eq_true, Bool.not_eq_true', Bool.not_eq_false', decide_eq_true_eq, decide_eq_false_iff_not, Bool.or_eq_false_iff, Bool.and_eq_false_iff] at *); omega)) ?_
    refine AL_g rfl rfl (.tmp rfl) rfl (fun hg38 => S_gtr rfl (AEv.cond (.tmp rfl) (by first | assumption | exact gdAnd (by assumption) (by assumption))) (AEv.const _)) ?_
    refine AL_p rfl rfl (S_or rfl (.tmp rfl) (fun hp41 => (AEv.cond (.tmp rfl) (by first | assumption | exact gdT hp41 | exact gdF hp41 | exact gdAnd (by assumption) (gdT hp41) | exact gdAnd (by assumption) (gdF hp41))))) ?_
    refine AL_nil ?_
    refine AC_cond (.tmp rfl) (fun hb42 => ?_) (fun hb42 => ?_)
    · try simp only [zA, zO, zN, zM, zP, zQ, zD, zF, gd] at hb42
      refine AC_seq ?_
      refine AC_region ?_
      refine AL_p rfl rfl (S_assign rfl (AEv.const _)) ?_
      refine AL_p rfl rfl (S_assign rfl (AEv.const _)) ?_
      refine AL_nil ?_
      refine AC_ret ?_
      refine ret_tmps (ts := [4, 5]) st rfl (by decide) rfl (Sub.l (List.Sublist.refl _)) (Conv.refl (Sub.l (List.Sublist.refl _)) _) ⟨parse_no (fun h => parse_nodig hkl (by unfold isDig; omega) h.1), rfl⟩ (.inl rfl)
    try simp only [zA, zO, zN, zM, zP, zQ, zD, zF, gd] at hb42
    have hdg : isDig (l.getD k 0) := by unfold isDig; omega
    have hf : fits (pv (l.take k) : Int) := by unfold fits; omega
    refine AC_skip ?_
    refine AC_seq ?_
    refine AC_region ?_
    refine AL_p rfl rfl (S_move rfl (.tmp rfl)) ?_
    refine AL_p rfl rfl (S_pcall rfl (AEvs.cons (.tmp rfl) (AEvs.cons (AEv.const _) AEvs.nil)) (num_Mul_ok _ _ (by first | assumption | decide) (by first | assumption | decide))) ?_
    refine AL_p rfl rfl (S_move rfl (.tmp rfl)) ?_
    refine AL_p rfl rfl (S_extract 0 rfl (.tmp rfl) rfl) ?_
    refine AL_p rfl rfl (S_extract 1 rfl (.tmp rfl) rfl) ?_
    refine AL_p rfl rfl (S_assign rfl (.tmp rfl)) ?_
    refine AL_p rfl rfl (S_assign rfl (.tmp rfl)) ?_
    refine AL_nil ?_
    refine AC_seq ?_
    refine AC_seq ?_
    refine AC_region ?_
    refine AL_p rfl rfl (S_move rfl (.tmp rfl)) ?_
    refine AL_p rfl rfl (S_not rfl (.tmp rfl)) ?_
    refine AL_nil ?_
    refine AC_cond (.tmp rfl) (fun hb43 => ?_) (fun hb43 => ?_)
    · try simp only [zA, zO, zN, zM, zP, zQ, zD, zF, gd] at hb43
      have hno := mulV_bad hb43
      have hq1 := pv_take hkl
      have hq2 := pv_le (l := l) (k + 1)
      unfold fits at hno
      refine AC_seq ?_
      refine AC_region ?_
      refine AL_p rfl rfl (S_assign rfl (AEv.const _)) ?_
      refine AL_p rfl rfl (S_assign rfl (AEv.const _)) ?_
      refine AL_nil ?_
      refine AC_ret ?_
      refine ret_tmps (ts := [4, 5]) st rfl (by decide) rfl (Sub.l (List.Sublist.refl _)) (Conv.refl (Sub.l (List.Sublist.refl _)) _) ⟨parse_much (by omega), rfl⟩ (.inl rfl)
    try simp only [zA, zO, zN, zM, zP, zQ, zD, zF, gd] at hb43
    obtain ⟨hm, hf2⟩ := mulV_ok hb43
    rw [hm]
    try dsimp only
    refine AC_skip ?_
    refine AC_seq ?_
    refine AC_region ?_
    refine AL_p rfl rfl (S_move rfl (.tmp rfl)) ?_
    refine AL_p rfl rfl (S_move rfl (.tmp rfl)) ?_
    refine AL_p rfl rfl (S_move rfl (.tmp rfl)) ?_
    refine AL_p rfl rfl (S_index rfl (.tmp rfl) (.tmp rfl) (by kernel_rfl) (by omega) (by omega)) ?_
    refine AL_p rfl rfl (S_sub rfl (.tmp rfl) (AEv.const _)) ?_
    refine AL_p rfl rfl (S_conv (k' := .i64) rfl (.tmp rfl) (by kernel_rfl) (by kernel_rfl)) ?_
    refine AL_p rfl rfl (S_pcall rfl (AEvs.cons (.tmp rfl) (AEvs.cons ((AEv.tmp rfl).le (Le.of_eq (by rw [ha, parse_digit hdg]))) AEvs.nil)) (num_Add_ok (pv (l.take k) * 10 : Int) ((l.getD k 0).toNat - 48 : Nat) (by first | assumption | exact hf2) (by unfold fits; have := (l.getD k 0).toNat_lt; omega))) ?_
    refine AL_p rfl rfl (S_move rfl (.tmp rfl)) ?_
    refine AL_p rfl rfl (S_extract 0 rfl (.tmp rfl) rfl) ?_
    refine AL_p rfl rfl (S_extract 1 rfl (.tmp rfl) rfl) ?_
    refine AL_p rfl rfl (S_assign rfl (.tmp rfl)) ?_
    refine AL_p rfl rfl (S_assign rfl (.tmp rfl)) ?_
    refine AL_nil ?_
    refine AC_seq ?_
    refine AC_region ?_
    refine AL_p rfl rfl (S_move rfl (.tmp rfl)) ?_
    refine AL_p rfl rfl (S_not rfl (.tmp rfl)) ?_
    refine AL_nil ?_
    refine AC_cond (.tmp rfl) (fun hb44 => ?_) (fun hb44 => ?_)
    · try simp only [zA, zO, zN, zM, zP, zQ, zD, zF, gd] at hb44
      have hno := addV_bad hb44
      have hq1 := pv_take hkl
      have hq2 := pv_le (l := l) (k + 1)
      unfold fits at hno
      refine AC_seq ?_
      refine AC_region ?_
      refine AL_p rfl rfl (S_assign rfl (AEv.const _)) ?_
      refine AL_p rfl rfl (S_assign rfl (AEv.const _)) ?_
      refine AL_nil ?_
      refine AC_ret ?_
      refine ret_tmps (ts := [4, 5]) st rfl (by decide) rfl (Sub.l (List.Sublist.refl _)) (Conv.refl (Sub.l (List.Sublist.refl _)) _) ⟨parse_much (by omega), rfl⟩ (.inl rfl)
    try simp only [zA, zO, zN, zM, zP, zQ, zD, zF, gd] at hb44
    obtain ⟨hm2, hf3⟩ := addV_ok hb44
    rw [hm2]
    try dsimp only
    have hq1 := pv_take hkl
    unfold fits at hf3
    refine AC_skip ?_
    refine AC_region ?_
    refine AL_p rfl rfl (S_addI rfl (.tmp rfl) (AEv.const _) (by omega) (by omega)) ?_
    refine AL_p rfl rfl (S_move rfl (.tmp rfl)) ?_
    refine AL_nil ?_
    refine ⟨k + 1, ⟨hI.next hkl hdg, by omega⟩, by omega, rfl, (.cons rfl (Le.refl _) (.cons rfl (Le.refl _) (.cons rfl (Le.of_eq (congrArg (AV.int .i64) (by omega))) (.cons rfl (Le.refl _) (.cons rfl (Le.of_eq (by simp)) .nil)))))⟩
  try simp only [zA, zO, zN, zM, zP, zQ, zD, zF, gd] at hb28
  have hall := hI.all (by omega)
  have hp2 := pv_all (l := l) (k := k) (by omega)
  refine AC_exit ?_
  refine AC_seq ?_
  refine AC_seq ?_
  refine AC_region ?_
  refine AL_p rfl rfl (S_move rfl (.tmp rfl)) ?_
  refine AL_p rfl rfl (S_move rfl (.tmp rfl)) ?_
  refine AL_p rfl rfl (S_gtr rfl (.tmp rfl) (.tmp rfl)) ?_
  refine AL_nil ?_
  refine AC_cond (.tmp rfl) (fun hb45 => ?_) (fun hb45 => ?_)
  · try simp only [zA, zO, zN, zM, zP, zQ, zD, zF, gd] at hb45
    refine AC_seq ?_
    refine AC_region ?_
    refine AL_p rfl rfl (S_assign rfl (AEv.const _)) ?_
    refine AL_p rfl rfl (S_assign rfl (AEv.const _)) ?_
    refine AL_nil ?_
    refine AC_ret ?_
    refine ret_tmps (ts := [4, 5]) st rfl (by decide) rfl (Sub.l (List.Sublist.refl _)) (Conv.refl (Sub.l (List.Sublist.refl _)) _) ⟨parse_no (by omega), rfl⟩ (.inl rfl)
  try simp only [zA, zO, zN, zM, zP, zQ, zD, zF, gd] at hb45
  refine AC_skip ?_
  refine AC_seq ?_
  refine AC_region ?_
  refine AL_p rfl rfl (S_move rfl (.tmp rfl)) ?_
  refine AL_p rfl rfl (S_assign rfl (.tmp rfl)) ?_
  refine AL_p rfl rfl (S_assign rfl (AEv.const _)) ?_
  refine AL_nil ?_
  refine AC_ret ?_
  refine ret_tmps (ts := [4, 5]) st rfl (by decide) rfl (Sub.l (List.Sublist.refl _)) (Conv.refl (Sub.l (List.Sublist.refl _)) _) ⟨parse_yes (parse_ok hne h1 hall) (by omega) (by omega) (by rw [hp2]), rfl⟩ (.inl rfl)

set_option maxRecDepth 100000 in
/-- provost/provostref01.Parse -/
theorem ref_Parse_ok (l : List UInt8) (most : Int) (hm : fits most) : PCalls Tryd.prog 32 [.S l, .int .i64 most] (okAV (parseV l most)) := by
  intro st
  refine ACalls_of (N := 61) Tryd.func32 (by kernel_rfl) rfl rfl rfl ?_
  refine AC_seq ?_
  refine AC_region ?_
  refine AL_p rfl rfl (S_assign rfl (AEv.const _)) ?_
  refine AL_p rfl rfl (S_assign rfl (AEv.const _)) ?_
  refine AL_nil ?_
  refine AC_seq ?_
  refine AC_seq ?_
  refine AC_region ?_
  refine AL_p rfl rfl (S_move rfl (.tmp rfl)) ?_
  refine AL_p rfl rfl (S_lenS (ts := #[]) rfl (.tmp rfl) (by kernel_rfl)) ?_
  refine AL_p rfl rfl (S_eql rfl (.tmp rfl) (AEv.const _)) ?_
  refine AL_p rfl rfl (S_move rfl (.tmp rfl)) ?_
  refine AL_g rfl rfl (.tmp rfl) rfl (fun hg1 => S_move rfl (.tmp rfl)) ?_
  refine AL_g rfl rfl (.tmp rfl) rfl (fun hg4 => S_lenS (ts := #[]) rfl (AEv.cond (.tmp rfl) (by first | assumption | exact gdAnd (by assumption) (by assumption))) (by kernel_rfl)) ?_
  refine AL_g rfl rfl (.tmp rfl) rfl (fun hg7 => S_gtr rfl (AEv.cond (.tmp rfl) (by first | assumption | exact gdAnd (by assumption) (by assumption))) (AEv.const _)) ?_
  refine AL_p rfl rfl (S_or rfl (.tmp rfl) (fun hp10 => (AEv.cond (.tmp rfl) (by first | assumption | exact gdT hp10 | exact gdF hp10 | exact gdAnd (by assumption) (gdT hp10) | exact gdAnd (by assumption) (gdF hp10))))) ?_
  refine AL_nil ?_
  refine AC_cond (.tmp rfl) (fun hb11 => ?_) (fun hb11 => ?_)
  · try simp only [zA, zO, zN, zM, zP, zQ, zD, zF, gd] at hb11
    refine AC_seq ?_
    refine AC_region ?_
    refine AL_p rfl rfl (S_assign rfl (AEv.const _)) ?_
    refine AL_p rfl rfl (S_assign rfl (AEv.const _)) ?_
    refine AL_nil ?_
    refine AC_ret ?_
    refine ret_tmps (ts := [4, 5]) st rfl (by decide) rfl (Sub.l (List.Sublist.refl _)) (Conv.refl (Sub.l (List.Sublist.refl _)) _) ⟨parse_long (by omega), rfl⟩ (.inl rfl)
  try simp only [zA, zO, zN, zM, zP, zQ, zD, zF, gd] at hb11
  have h19 : l.length ≤ 19 := by omega
  have hne : l ≠ [] := fun h => by rw [h] at hb11; simp at hb11
  refine AC_skip ?_
  refine AC_seq ?_
  refine AC_region ?_
  refine AL_p rfl rfl (S_assign rfl (AEv.const _)) ?_
  refine AL_nil ?_
  refine AC_seq ?_
  refine AC_seq ?_
  refine AC_region ?_
  refine AL_p rfl rfl (S_assign rfl (AEv.const _)) ?_
  refine AL_nil ?_
  refine AC_block ?_
  refine AC_loop (G := Nat) (ParseInv l) (fun k => [(0, .S l), (1, .int .i64 most), (6, .int .u64 (pv (l.take k) : Int)), (7, .int .i64 (k : Int))]) (fun k => st) (fun k => l.length - k) (0) (⟨by omega, by intro j hj; omega⟩) rfl ?_ ?_
  · exact (.cons rfl (by first | exact Le.refl _ | exact Le.nils | exact Le.row _ _ _ _ | (exact Le.of_eq (by simp))) (.cons rfl (by first | exact Le.refl _ | exact Le.nils | exact Le.row _ _ _ _ | (exact Le.of_eq (by simp))) (.cons rfl (by first | exact Le.refl _ | exact Le.nils | exact Le.row _ _ _ _ | (exact Le.of_eq (by simp))) (.cons rfl (by first | exact Le.refl _ | exact Le.nils | exact Le.row _ _ _ _ | (exact Le.of_eq (by simp))) .nil))))
  rintro k hI
  try dsimp only
  have ha := atL_nat l k
  refine AC_seq ?_
  refine AC_seq ?_
  refine AC_region ?_
  refine AL_p rfl rfl (S_move rfl (.tmp rfl)) ?_
  refine AL_p rfl rfl (S_move rfl (.tmp rfl)) ?_
  refine AL_p rfl rfl (S_lenS (ts := #[]) rfl (.tmp rfl) (by kernel_rfl)) ?_
  refine AL_p rfl rfl (S_lss rfl (.tmp rfl) (.tmp rfl)) ?_
  refine AL_nil ?_
  refine AC_cond (.tmp rfl) (fun hb12 => ?_) (fun hb12 => ?_)
  · try simp only [zA, zO, zN, zM, zP, zQ, zD, zF, gd] at hb12
    have hkl : k < l.length := by omega
    refine AC_skip ?_
    refine AC_seq ?_
    refine AC_block ?_
    refine AC_seq ?_
    refine AC_seq ?_
    refine AC_region ?_
    refine AL_p rfl rfl (S_move rfl (.tmp rfl)) ?_
    refine AL_p rfl rfl (S_move rfl (.tmp rfl)) ?_
    refine AL_p rfl rfl (S_index rfl (.tmp rfl) (.tmp rfl) (by kernel_rfl) (by omega) (by omega)) ?_
    refine AL_p rfl rfl (S_lss rfl (.tmp rfl) (AEv.const _)) ?_
    refine AL_p rfl rfl (S_move rfl (.tmp rfl)) ?_
    refine AL_g rfl rfl (.tmp rfl) rfl (fun hg13 => S_move rfl (.tmp rfl)) ?_
    refine AL_g rfl rfl (.tmp rfl) rfl (fun hg16 => S_move rfl (.tmp rfl)) ?_
    refine AL_g rfl rfl (.tmp rfl) rfl (fun hg19 => S_index rfl (AEv.cond (.tmp rfl) (by first | assumption | exact gdAnd (by assumption) (by assumption))) (AEv.cond (.tmp rfl) (by first | assumption | exact gdAnd (by assumption) (by assumption))) (by kernel_rfl) (by (try simp only [gd, Bool.and_eq_true, Bool.or_eq_true, Bool.not_eq_true', Bool.not_eq_false', decide_eq_true_eq, decide_eq_false_iff_not, Bool.or_eq_false_iff, Bool.and_eq_false_iff] at *); omega) (by (try simp only [gd, Bool.and_eq_true, Bool.or_eq_true, Bool.not_eq_true', Bool.not_eq_false', decide_eq_true_eq, decide_eq_false_iff_not, Bool.or_eq_false_iff, Bool.and_eq_false_iff] at *); omega)) ?_
    refine AL_g rfl rfl (.tmp rfl) rfl (fun hg22 => S_gtr rfl (AEv.cond (.tmp rfl) (by first | assumption | exact gdAnd (by assumption) (by assumption))) (AEv.const _)) ?_
    refine AL_p rfl rfl (S_or rfl (.tmp rfl) (fun hp25 => (AEv.cond (.tmp rfl) (by first | assumption | exact gdT hp25 | exact gdF hp25 | exact gdAnd (by assumption) (gdT hp25) | exact gdAnd (by assumption) (gdF hp25))))) ?_
    refine AL_nil ?_
    refine AC_cond (.tmp rfl) (fun hb26 => ?_) (fun hb26 => ?_)
    · try simp only [zA, zO, zN, zM, zP, zQ, zD, zF, gd] at hb26
      refine AC_seq ?_
      refine AC_region ?_
      refine AL_p rfl rfl (S_assign rfl (AEv.const _)) ?_
      refine AL_p rfl rfl (S_assign rfl (AEv.const _)) ?_
      refine AL_nil ?_
      refine AC_ret ?_
      refine ret_tmps (ts := [4, 5]) st rfl (by decide) rfl (Sub.l (List.Sublist.refl _)) (Conv.refl (Sub.l (List.Sublist.refl _)) _) ⟨parse_no (fun h => parse_nodig hkl (by unfold isDig; omega) h.1), rfl⟩ (.inl rfl)
    try simp only [zA, zO, zN, zM, zP, zQ, zD, zF, gd] at hb26
    have hdg : isDig (l.getD k 0) := by unfold isDig; omega
    refine AC_skip ?_
    refine AC_region ?_
    refine AL_p rfl rfl (S_move rfl (.tmp rfl)) ?_
    refine AL_p rfl rfl (S_mul rfl (AEv.const _) (.tmp rfl)) ?_
    refine AL_p rfl rfl (S_move rfl (.tmp rfl)) ?_
    refine AL_p rfl rfl (S_move rfl (.tmp rfl)) ?_
    refine AL_p rfl rfl (S_index rfl (.tmp rfl) (.tmp rfl) (by kernel_rfl) (by omega) (by omega)) ?_
    refine AL_p rfl rfl (S_conv (k' := .u64) rfl (.tmp rfl) (by kernel_rfl) (by kernel_rfl)) ?_
    refine AL_p rfl rfl (S_add rfl (.tmp rfl) (.tmp rfl)) ?_
    refine AL_p rfl rfl (S_sub rfl (.tmp rfl) (AEv.const _)) ?_
    refine AL_p rfl rfl (S_assign rfl (.tmp rfl)) ?_
    refine AL_nil ?_
    refine AC_region ?_
    refine AL_p rfl rfl (S_move rfl (.tmp rfl)) ?_
    refine AL_p rfl rfl (S_addI rfl (.tmp rfl) (AEv.const _) (by omega) (by omega)) ?_
    refine AL_p rfl rfl (S_assign rfl (.tmp rfl)) ?_
    refine AL_nil ?_
    refine ⟨k + 1, hI.next hkl hdg, by omega, rfl, (.cons rfl (Le.refl _) (.cons rfl (Le.refl _) (.cons rfl (Le.of_eq (congrArg (AV.int .u64) (refparse_step hI hkl h19 hdg))) (.cons rfl (Le.of_eq (by simp)) .nil))))⟩
  try simp only [zA, zO, zN, zM, zP, zQ, zD, zF, gd] at hb12
  have hall := hI.all (by omega)
  have hp2 := pv_all (l := l) (k := k) (by omega)
  rw [hp2]
  have hp3 := pv_nineteen hall h19
  refine AC_exit ?_
  refine AC_seq ?_
  refine AC_seq ?_
  refine AC_region ?_
  refine AL_p rfl rfl (S_move rfl (.tmp rfl)) ?_
  refine AL_p rfl rfl (S_gtr rfl (.tmp rfl) (AEv.const _)) ?_
  refine AL_p rfl rfl (S_move rfl (.tmp rfl)) ?_
  refine AL_g rfl rfl (.tmp rfl) rfl (fun hg27 => S_move rfl (.tmp rfl)) ?_
  refine AL_g rfl rfl (.tmp rfl) rfl (fun hg30 => S_conv (k' := .i64) rfl (AEv.cond (.tmp rfl) (by first | assumption | exact gdAnd (by assumption) (by assumption))) (by kernel_rfl) (by kernel_rfl)) ?_
  refine AL_g rfl rfl (.tmp rfl) rfl (fun hg33 => S_pcall rfl (AEvs.cons (AEv.cond (.tmp rfl) (by first | assumption | exact gdAnd (by assumption) (by assumption))) AEvs.nil) (ref_Text_ok _ (by first | assumption | exact wrap_fits _))) ?_
  refine AL_g rfl rfl (.tmp rfl) rfl (fun hg36 => S_move rfl (.tmp rfl)) ?_
  refine AL_g rfl rfl (.tmp rfl) rfl (fun hg39 => S_neS rfl (AEv.cond (.tmp rfl) (by first | assumption | exact gdAnd (by assumption) (by assumption))) (AEv.cond (.tmp rfl) (by first | assumption | exact gdAnd (by assumption) (by assumption)))) ?_
  refine AL_p rfl rfl (S_or rfl (.tmp rfl) (fun hp42 => (AEv.cond (.tmp rfl) (by first | assumption | exact gdT hp42 | exact gdF hp42 | exact gdAnd (by assumption) (gdT hp42) | exact gdAnd (by assumption) (gdF hp42))))) ?_
  refine AL_p rfl rfl (S_move rfl (.tmp rfl)) ?_
  refine AL_g rfl rfl (.tmp rfl) rfl (fun hg43 => S_move rfl (.tmp rfl)) ?_
  refine AL_g rfl rfl (.tmp rfl) rfl (fun hg46 => S_lss rfl (AEv.cond (.tmp rfl) (by first | assumption | exact gdAnd (by assumption) (by assumption))) (AEv.const _)) ?_
  refine AL_p rfl rfl (S_or rfl (.tmp rfl) (fun hp49 => (AEv.cond (.tmp rfl) (by first | assumption | exact gdT hp49 | exact gdF hp49 | exact gdAnd (by assumption) (gdT hp49) | exact gdAnd (by assumption) (gdF hp49))))) ?_
  refine AL_p rfl rfl (S_move rfl (.tmp rfl)) ?_
  refine AL_g rfl rfl (.tmp rfl) rfl (fun hg50 => S_move rfl (.tmp rfl)) ?_
  refine AL_g rfl rfl (.tmp rfl) rfl (fun hg53 => S_move rfl (.tmp rfl)) ?_
  refine AL_g rfl rfl (.tmp rfl) rfl (fun hg56 => S_conv (k' := .u64) rfl (AEv.cond (.tmp rfl) (by first | assumption | exact gdAnd (by assumption) (by assumption))) (by kernel_rfl) (by kernel_rfl)) ?_
  refine AL_g rfl rfl (.tmp rfl) rfl (fun hg59 => S_gtr rfl (AEv.cond (.tmp rfl) (by first | assumption | exact gdAnd (by assumption) (by assumption))) (AEv.cond (.tmp rfl) (by first | assumption | exact gdAnd (by assumption) (by assumption)))) ?_
  refine AL_p rfl rfl (S_or rfl (.tmp rfl) (fun hp62 => (AEv.cond (.tmp rfl) (by first | assumption | exact gdT hp62 | exact gdF hp62 | exact gdAnd (by assumption) (gdT hp62) | exact gdAnd (by assumption) (gdF hp62))))) ?_
  refine AL_nil ?_
  refine AC_cond (.tmp rfl) (fun hb63 => ?_) (fun hb63 => ?_)
  · try simp only [zA, zO, zN, zM, zP, zQ, zD, zF, gd] at hb63
    rw [refparse_test hm] at hb63
    refine AC_seq ?_
    refine AC_region ?_
    refine AL_p rfl rfl (S_assign rfl (AEv.const _)) ?_
    refine AL_p rfl rfl (S_assign rfl (AEv.const _)) ?_
    refine AL_nil ?_
    refine AC_ret ?_
    refine ret_tmps (ts := [4, 5]) st rfl (by decide) rfl (Sub.l (List.Sublist.refl _)) (Conv.refl (Sub.l (List.Sublist.refl _)) _) ⟨parse_no (by assumption), rfl⟩ (.inl rfl)
  try simp only [zA, zO, zN, zM, zP, zQ, zD, zF, gd] at hb63
  have hyes : l = digL (pv l) ∧ (pv l : Int) ≤ 9223372036854775807 ∧ (pv l : Int) ≤ most := Decidable.not_not.1 fun h => by
    rcases (refparse_test hm).2 h with ((h | h) | h) | h
    · exact hb63.1.1.1 h
    · exact h hb63.1.1.2
    · exact hb63.1.2 h
    · exact hb63.2 h
  refine AC_skip ?_
  refine AC_seq ?_
  refine AC_region ?_
  refine AL_p rfl rfl (S_move rfl (.tmp rfl)) ?_
  refine AL_p rfl rfl (S_conv (k' := .i64) rfl (.tmp rfl) (by kernel_rfl) (by kernel_rfl)) ?_
  refine AL_p rfl rfl (S_assign rfl (.tmp rfl)) ?_
  refine AL_p rfl rfl (S_assign rfl (AEv.const _)) ?_
  refine AL_nil ?_
  refine AC_ret ?_
  refine ret_tmps (ts := [4, 5]) st rfl (by decide) rfl (Sub.l (List.Sublist.refl _)) (Conv.refl (Sub.l (List.Sublist.refl _)) _) ⟨parse_yes hyes.1 (by omega) hyes.2.2 (by rw [wrap_i64 (by omega) (by omega)]), rfl⟩ (.inl rfl)

set_option maxRecDepth 100000 in
/-- internal/stringslite.IndexByte -/
theorem lite_IndexByte_ok (s : List UInt8) (c : UInt8) : PCalls Tryd.prog 74 [.S s, .int .u8 (c.toNat : Int)] (.int .i64 (idxV s c)) := by
  intro st
  refine ACalls_of (N := 8) Tryd.func74 (by kernel_rfl) rfl rfl rfl ?_
  refine AC_seq ?_
  refine AC_region ?_
  refine AL_p rfl rfl (S_assign rfl (AEv.const _)) ?_
  refine AL_nil ?_
  refine AC_seq ?_
  refine AC_region ?_
  refine AL_p rfl rfl (S_move rfl (.tmp rfl)) ?_
  refine AL_p rfl rfl (S_move rfl (.tmp rfl)) ?_
  refine AL_p rfl rfl (S_indexByte (s := s) (c := c) rfl (.tmp rfl) (.tmp rfl) Tryd.func81 (by kernel_rfl) (by kernel_rfl) (by kernel_rfl) (by kernel_rfl)) ?_
  refine AL_p rfl rfl (S_assign rfl (.tmp rfl)) ?_
  refine AL_nil ?_
  refine AC_ret ?_
  refine ret_tmp st rfl rfl (Sub.l (List.Sublist.refl _)) (Conv.refl (Sub.l (List.Sublist.refl _)) _) ⟨by first | rfl | (simp; done), rfl⟩ (.inl rfl)

set_option maxRecDepth 100000 in
/-- internal/stringslite.Index -/
theorem lite_Index_ok (s : List UInt8) (c : UInt8) : PCalls Tryd.prog 73 [.S s, .S [c]] (.int .i64 (idxV s c)) := by
  intro st
  refine ACalls_of (N := 143) Tryd.func73 (by kernel_rfl) rfl rfl rfl ?_
  refine AC_seq ?_
  refine AC_region ?_
  refine AL_p rfl rfl (S_assign rfl (AEv.const _)) ?_
  refine AL_nil ?_
  refine AC_seq ?_
  refine AC_region ?_
  refine AL_p rfl rfl (S_move rfl (.tmp rfl)) ?_
  refine AL_p rfl rfl (S_lenS (ts := #[]) rfl (.tmp rfl) (by kernel_rfl)) ?_
  refine AL_p rfl rfl (S_assign rfl (.tmp rfl)) ?_
  refine AL_nil ?_
  refine AC_seq ?_
  refine AC_block ?_
  refine AC_seq ?_
  refine AC_region ?_
  refine AL_p rfl rfl (S_move rfl (.tmp rfl)) ?_
  refine AL_p rfl rfl (S_eql rfl (.tmp rfl) (AEv.const _)) ?_
  refine AL_p rfl rfl (S_move rfl (.tmp rfl)) ?_
  refine AL_g rfl rfl (.tmp rfl) rfl (fun hg1 => S_move rfl (.tmp rfl)) ?_
  refine AL_g rfl rfl (.tmp rfl) rfl (fun hg4 => S_move rfl (.tmp rfl)) ?_
  refine AL_g rfl rfl (.tmp rfl) rfl (fun hg7 => S_eqS rfl (AEv.cond (.tmp rfl) (by first | assumption | exact gdAnd (by assumption) (by assumption))) (AEv.cond (.tmp rfl) (by first | assumption | exact gdAnd (by assumption) (by assumption)))) ?_
  refine AL_p rfl rfl (S_or rfl (.tmp rfl) (fun hp10 => (AEv.cond (.tmp rfl) (by first | assumption | exact gdT hp10 | exact gdF hp10 | exact gdAnd (by assumption) (gdT hp10) | exact gdAnd (by assumption) (gdF hp10))))) ?_
  refine AL_p rfl rfl (S_assign rfl (.tmp rfl)) ?_
  refine AL_nil ?_
  refine AC_cond (.tmp rfl) (fun hb11 => ?_) (fun hb11 => ?_)
  · try simp only [zA, zO, zN, zM, zP, zQ, zD, zF, gd] at hb11
    have hs : s = [c] := by
      have : [c] = s := by simpa using hb11
      exact this.symm
    subst hs
    refine AC_seq ?_
    refine AC_region ?_
    refine AL_p rfl rfl (S_assign rfl (AEv.const _)) ?_
    refine AL_nil ?_
    refine AC_ret ?_
    refine ret_tmp st rfl rfl (Sub.l (List.Sublist.refl _)) (Conv.refl (Sub.l (List.Sublist.refl _)) _) ⟨by simp [idxV], rfl⟩ (.inl rfl)
  try simp only [zA, zO, zN, zM, zP, zQ, zD, zF, gd] at hb11
  refine AC_seq ?_
  refine AC_region ?_
  refine AL_p rfl rfl (S_move rfl (.tmp rfl)) ?_
  refine AL_p rfl rfl (S_eql rfl (.tmp rfl) (AEv.const _)) ?_
  refine AL_p rfl rfl (S_assign rfl (.tmp rfl)) ?_
  refine AL_nil ?_
  refine AC_cond (.tmp rfl) (fun hb12 => ?_) (fun hb12 => ?_)
  · try simp only [zA, zO, zN, zM, zP, zQ, zD, zF, gd] at hb12
    refine AC_seq ?_
    refine AC_region ?_
    refine AL_p rfl rfl (S_move rfl (.tmp rfl)) ?_
    refine AL_p rfl rfl (S_move rfl (.tmp rfl)) ?_
    refine AL_p rfl rfl (S_index rfl (.tmp rfl) (AEv.const _) (by kernel_rfl) (by omega) (by omega)) ?_
    refine AL_p rfl rfl (S_pcall rfl (AEvs.cons (.tmp rfl) (AEvs.cons (y := .int .u8 (c.toNat : Int)) (.tmp rfl) AEvs.nil)) (lite_IndexByte_ok s c)) ?_
    refine AL_p rfl rfl (S_assign rfl (.tmp rfl)) ?_
    refine AL_nil ?_
    refine AC_ret ?_
    refine ret_tmp st rfl rfl (Sub.l (List.Sublist.refl _)) (Conv.refl (Sub.l (List.Sublist.refl _)) _) ⟨rfl, rfl⟩ (.inl rfl)
  simp at hb12; done

set_option maxRecDepth 100000 in
/-- provost/text.of -/
theorem text_of_ok (c : UInt8) : GCalls Tryd.prog tabs 75 [.int .u8 (c.toNat : Int)] (.int .i64 (ofV c)) := by
  intro st hG
  refine ACalls_of (N := 42) Tryd.func75 (by kernel_rfl) rfl rfl rfl ?_
  have hn := c.toNat_lt
  refine AC_seq ?_
  refine AC_region ?_
  refine AL_p rfl rfl (S_assign rfl (AEv.const _)) ?_
  refine AL_nil ?_
  refine AC_seq ?_
  refine AC_region ?_
  refine AL_p rfl rfl (S_assign rfl (AEv.const _)) ?_
  refine AL_nil ?_
  refine AC_seq ?_
  refine AC_block ?_
  refine AC_seq ?_
  refine AC_block ?_
  refine AC_seq ?_
  refine AC_block ?_
  refine AC_seq ?_
  refine AC_block ?_
  refine AC_seq ?_
  refine AC_seq ?_
  refine AC_seq ?_
  refine AC_seq ?_
  refine AC_region ?_
  refine AL_p rfl rfl (S_move rfl (.tmp rfl)) ?_
  refine AL_p rfl rfl (S_geq rfl (.tmp rfl) (AEv.const _)) ?_
  refine AL_p rfl rfl (S_move rfl (.tmp rfl)) ?_
  refine AL_g rfl rfl (.tmp rfl) rfl (fun hg1 => S_move rfl (.tmp rfl)) ?_
  refine AL_g rfl rfl (.tmp rfl) rfl (fun hg4 => S_leq rfl (AEv.cond (.tmp rfl) (by first | assumption | exact gdAnd (by assumption) (by assumption))) (AEv.const _)) ?_
  refine AL_p rfl rfl (S_and rfl (.tmp rfl) (fun hp7 => (AEv.cond (.tmp rfl) (by first | assumption | exact gdT hp7 | exact gdF hp7 | exact gdAnd (by assumption) (gdT hp7) | exact gdAnd (by assumption) (gdF hp7))))) ?_
  refine AL_p rfl rfl (S_assign rfl (.tmp rfl)) ?_
  refine AL_nil ?_
  refine AC_cond (.tmp rfl) (fun hb8 => ?_) (fun hb8 => ?_)
  · try simp only [zA, zO, zN, zM, zP, zQ, zD, zF, gd] at hb8
    refine AC_skip ?_
    refine AC_cond (.tmp rfl) (fun hb9 => ?_) (fun hb9 => ?_)
    · try simp only [zA, zO, zN, zM, zP, zQ, zD, zF, gd] at hb9
      have ho : ofV c = 7 := by rw [ofV, if_pos (by omega)]
      refine AC_exit ?_
      refine AC_region ?_
      refine AL_p rfl rfl (S_move rfl (.tmp rfl)) ?_
      refine AL_p rfl rfl (S_bits rfl (by simp) (.tmp rfl) (AEv.const _)) ?_
      refine AL_p rfl rfl (S_assign rfl (.tmp rfl)) ?_
      refine AL_nil ?_
      refine AC_seq ?_
      refine AC_region ?_
      refine AL_p rfl rfl (S_move rfl (.tmp rfl)) ?_
      refine AL_p rfl rfl (S_bits rfl (by simp) (.tmp rfl) (AEv.const _)) ?_
      refine AL_p rfl rfl (S_assign rfl (.tmp rfl)) ?_
      refine AL_nil ?_
      refine AC_exit ?_
      refine AC_seq ?_
      refine AC_region ?_
      refine AL_p rfl rfl (S_move rfl (.tmp rfl)) ?_
      refine AL_p rfl rfl (S_assign rfl (.tmp rfl)) ?_
      refine AL_nil ?_
      refine AC_ret ?_
      refine ret_tmp st rfl rfl (Sub.l (List.Sublist.refl _)) (Conv.refl (Sub.l (List.Sublist.refl _)) _) ⟨by rw [ho] <;> rfl, rfl⟩ (.inl rfl)
    exfalso; simp at hb9; omega
  try simp only [zA, zO, zN, zM, zP, zQ, zD, zF, gd] at hb8
  refine AC_region ?_
  refine AL_p rfl rfl (S_move rfl (.tmp rfl)) ?_
  refine AL_p rfl rfl (S_geq rfl (.tmp rfl) (AEv.const _)) ?_
  refine AL_p rfl rfl (S_move rfl (.tmp rfl)) ?_
  refine AL_g rfl rfl (.tmp rfl) rfl (fun hg10 => S_move rfl (.tmp rfl)) ?_
  refine AL_g rfl rfl (.tmp rfl) rfl (fun hg13 => S_leq rfl (AEv.cond (.tmp rfl) (by first | assumption | exact gdAnd (by assumption) (by assumption))) (AEv.const _)) ?_
  refine AL_p rfl rfl (S_and rfl (.tmp rfl) (fun hp16 => (AEv.cond (.tmp rfl) (by first | assumption | exact gdT hp16 | exact gdF hp16 | exact gdAnd (by assumption) (gdT hp16) | exact gdAnd (by assumption) (gdF hp16))))) ?_
  refine AL_p rfl rfl (S_assign rfl (.tmp rfl)) ?_
  refine AL_nil ?_
  refine AC_cond (.tmp rfl) (fun hb17 => ?_) (fun hb17 => ?_)
  · try simp only [zA, zO, zN, zM, zP, zQ, zD, zF, gd] at hb17
    have ho : ofV c = 7 := by rw [ofV, if_pos (by omega)]
    refine AC_exit ?_
    refine AC_region ?_
    refine AL_p rfl rfl (S_move rfl (.tmp rfl)) ?_
    refine AL_p rfl rfl (S_bits rfl (by simp) (.tmp rfl) (AEv.const _)) ?_
    refine AL_p rfl rfl (S_assign rfl (.tmp rfl)) ?_
    refine AL_nil ?_
    refine AC_seq ?_
    refine AC_region ?_
    refine AL_p rfl rfl (S_move rfl (.tmp rfl)) ?_
    refine AL_p rfl rfl (S_bits rfl (by simp) (.tmp rfl) (AEv.const _)) ?_
    refine AL_p rfl rfl (S_assign rfl (.tmp rfl)) ?_
    refine AL_nil ?_
    refine AC_exit ?_
    refine AC_seq ?_
    refine AC_region ?_
    refine AL_p rfl rfl (S_move rfl (.tmp rfl)) ?_
    refine AL_p rfl rfl (S_assign rfl (.tmp rfl)) ?_
    refine AL_nil ?_
    refine AC_ret ?_
    refine ret_tmp st rfl rfl (Sub.l (List.Sublist.refl _)) (Conv.refl (Sub.l (List.Sublist.refl _)) _) ⟨by rw [ho] <;> rfl, rfl⟩ (.inl rfl)
  try simp only [zA, zO, zN, zM, zP, zQ, zD, zF, gd] at hb17
  refine AC_skip ?_
  refine AC_seq ?_
  refine AC_seq ?_
  refine AC_region ?_
  refine AL_p rfl rfl (S_move rfl (.tmp rfl)) ?_
  refine AL_p rfl rfl (S_geq rfl (.tmp rfl) (AEv.const _)) ?_
  refine AL_p rfl rfl (S_move rfl (.tmp rfl)) ?_
  refine AL_g rfl rfl (.tmp rfl) rfl (fun hg18 => S_move rfl (.tmp rfl)) ?_
  refine AL_g rfl rfl (.tmp rfl) rfl (fun hg21 => S_leq rfl (AEv.cond (.tmp rfl) (by first | assumption | exact gdAnd (by assumption) (by assumption))) (AEv.const _)) ?_
  refine AL_p rfl rfl (S_and rfl (.tmp rfl) (fun hp24 => (AEv.cond (.tmp rfl) (by first | assumption | exact gdT hp24 | exact gdF hp24 | exact gdAnd (by assumption) (gdT hp24) | exact gdAnd (by assumption) (gdF hp24))))) ?_
  refine AL_p rfl rfl (S_assign rfl (.tmp rfl)) ?_
  refine AL_nil ?_
  refine AC_cond (.tmp rfl) (fun hb25 => ?_) (fun hb25 => ?_)
  · try simp only [zA, zO, zN, zM, zP, zQ, zD, zF, gd] at hb25
    have ho : ofV c = 4 := by rw [ofV, if_neg (by omega), if_pos (by omega)]
    refine AC_exit ?_
    refine AC_seq ?_
    refine AC_region ?_
    refine AL_p rfl rfl (S_move rfl (.tmp rfl)) ?_
    refine AL_p rfl rfl (S_bits rfl (by simp) (.tmp rfl) (AEv.const _)) ?_
    refine AL_p rfl rfl (S_assign rfl (.tmp rfl)) ?_
    refine AL_nil ?_
    refine AC_exit ?_
    refine AC_seq ?_
    refine AC_region ?_
    refine AL_p rfl rfl (S_move rfl (.tmp rfl)) ?_
    refine AL_p rfl rfl (S_assign rfl (.tmp rfl)) ?_
    refine AL_nil ?_
    refine AC_ret ?_
    refine ret_tmp st rfl rfl (Sub.l (List.Sublist.refl _)) (Conv.refl (Sub.l (List.Sublist.refl _)) _) ⟨by rw [ho] <;> rfl, rfl⟩ (.inl rfl)
  try simp only [zA, zO, zN, zM, zP, zQ, zD, zF, gd] at hb25
  have hw : IntKind.u8.wrap ((c.toNat : Int) - 32) = (((c.toNat : Int) - 32) % 256) := by simp [IntKind.wrap, IntKind.bits, IntKind.signed]
  have hw2 : IntKind.i64.wrap (IntKind.u8.wrap ((c.toNat : Int) - 32)) = (((c.toNat : Int) - 32) % 256) := by rw [hw]; exact wrap_i64 (by omega) (by omega)
  refine AC_skip ?_
  refine AC_seq ?_
  refine AC_region ?_
  refine AL_p rfl rfl (S_move rfl (.tmp rfl)) ?_
  refine AL_p rfl rfl (S_geq rfl (.tmp rfl) (AEv.const _)) ?_
  refine AL_p rfl rfl (S_move rfl (.tmp rfl)) ?_
  refine AL_g rfl rfl (.tmp rfl) rfl (fun hg26 => S_move rfl (.tmp rfl)) ?_
  refine AL_g rfl rfl (.tmp rfl) rfl (fun hg29 => S_sub rfl (AEv.cond (.tmp rfl) (by first | assumption | exact gdAnd (by assumption) (by assumption))) (AEv.const _)) ?_
  refine AL_g rfl rfl (.tmp rfl) rfl (fun hg32 => S_conv (k' := .i64) rfl (AEv.cond (.tmp rfl) (by first | assumption | exact gdAnd (by assumption) (by assumption))) (by kernel_rfl) (by kernel_rfl)) ?_
  refine AL_g rfl rfl (.tmp rfl) rfl (fun hg35 => S_lss rfl (AEv.cond (.tmp rfl) (by first | assumption | exact gdAnd (by assumption) (by assumption))) (AEv.const _)) ?_
  refine AL_p rfl rfl (S_and rfl (.tmp rfl) (fun hp38 => (AEv.cond (.tmp rfl) (by first | assumption | exact gdT hp38 | exact gdF hp38 | exact gdAnd (by assumption) (gdT hp38) | exact gdAnd (by assumption) (gdF hp38))))) ?_
  refine AL_p rfl rfl (S_assign rfl (.tmp rfl)) ?_
  refine AL_nil ?_
  refine AC_cond (.tmp rfl) (fun hb39 => ?_) (fun hb39 => ?_)
  · try simp only [zA, zO, zN, zM, zP, zQ, zD, zF, gd] at hb39
    have ho : ofV c = marksI.getD (c.toNat - 32) 0 := by rw [ofV, if_neg (by omega), if_neg (by omega), if_pos (by omega)]
    have hsub : 0 + (IntKind.u8.wrap ((c.toNat : Int) - 32)).toNat * 1 = c.toNat - 32 := by omega
    refine AC_exit ?_
    refine AC_seq ?_
    refine AC_region ?_
    refine AL_p rfl rfl (S_move rfl (.tmp rfl)) ?_
    refine AL_p rfl rfl (S_sub rfl (.tmp rfl) (AEv.const _)) ?_
    refine AL_p rfl rfl (S_elemA (e := 3) (len := 64) 1 rfl (AEv.global _) (.tmp rfl) (by kernel_rfl) (by kernel_rfl) (by omega) (by omega)) ?_
    refine AL_p rfl rfl (S_loadK (vs := marksV) (u := .int .i64 (marksI.getD (c.toNat - 32) 0)) rfl (.tmp rfl) (hG _ tab_marks) (by rw [hsub]; exact marks_at (by omega)) (by kernel_rfl)) ?_
    refine AL_p rfl rfl (S_assign rfl (.tmp rfl)) ?_
    refine AL_nil ?_
    refine AC_exit ?_
    refine AC_seq ?_
    refine AC_region ?_
    refine AL_p rfl rfl (S_move rfl (.tmp rfl)) ?_
    refine AL_p rfl rfl (S_assign rfl (.tmp rfl)) ?_
    refine AL_nil ?_
    refine AC_ret ?_
    refine ret_tmp st rfl rfl (Sub.l (List.Sublist.refl _)) (Conv.refl (Sub.l (List.Sublist.refl _)) _) ⟨by rw [ho] <;> rfl, rfl⟩ (.inl rfl)
  try simp only [zA, zO, zN, zM, zP, zQ, zD, zF, gd] at hb39
  have ho : ofV c = 0 := by rw [ofV, if_neg (by omega), if_neg (by omega), if_neg (by omega)]
  refine AC_skip ?_
  refine AC_exit ?_
  refine AC_seq ?_
  refine AC_region ?_
  refine AL_p rfl rfl (S_move rfl (.tmp rfl)) ?_
  refine AL_p rfl rfl (S_assign rfl (.tmp rfl)) ?_
  refine AL_nil ?_
  refine AC_ret ?_
  refine ret_tmp st rfl rfl (Sub.l (List.Sublist.refl _)) (Conv.refl (Sub.l (List.Sublist.refl _)) _) ⟨by rw [ho] <;> rfl, rfl⟩ (.inl rfl)

set_option maxRecDepth 100000 in
/-- provost/text.all -/
theorem text_all_ok (s : List UInt8) (w : Int) (hw : w = 1 ∨ w = 2 ∨ w = 4) (hs : s.length ≤ 9223372036854775806) : GCalls Tryd.prog tabs 64 [.S s, .int .i64 w] (.bool (s.all (inC w))) := by
  intro st hG
  refine ACalls_of (N := 19) Tryd.func64 (by kernel_rfl) rfl rfl rfl ?_
  refine AC_seq ?_
  refine AC_region ?_
  refine AL_p rfl rfl (S_assign rfl (AEv.const _)) ?_
  refine AL_nil ?_
  refine AC_seq ?_
  refine AC_seq ?_
  refine AC_region ?_
  refine AL_p rfl rfl (S_move rfl (.tmp rfl)) ?_
  refine AL_p rfl rfl (S_lenS (ts := #[]) rfl (.tmp rfl) (by kernel_rfl)) ?_
  refine AL_p rfl rfl (S_move rfl (AEv.const _)) ?_
  refine AL_nil ?_
  refine AC_block ?_
  refine AC_loop (G := Nat) (fun i => i ≤ s.length ∧ (s.take i).all (inC w) = true) (fun i => [(0, .S s), (1, .int .i64 w), (7, .int .i64 (s.length : Int)), (8, .int .i64 (i : Int))]) (fun i => st) (fun i => s.length - i) (0) (⟨by simp, by simp⟩) rfl ?_ ?_
  · exact (.cons rfl (by first | exact Le.refl _ | exact Le.nils | exact Le.row _ _ _ _ | (exact Le.of_eq (by simp))) (.cons rfl (by first | exact Le.refl _ | exact Le.nils | exact Le.row _ _ _ _ | (exact Le.of_eq (by simp))) (.cons rfl (by first | exact Le.refl _ | exact Le.nils | exact Le.row _ _ _ _ | (exact Le.of_eq (by simp))) (.cons rfl (by first | exact Le.refl _ | exact Le.nils | exact Le.row _ _ _ _ | (exact Le.of_eq (by simp))) .nil))))
  rintro i ⟨hi, hall⟩
  try dsimp only
  refine AC_seq ?_
  refine AC_region ?_
  refine AL_p rfl rfl (S_lss rfl (.tmp rfl) (.tmp rfl)) ?_
  refine AL_nil ?_
  refine AC_seq ?_
  refine AC_cond (.tmp rfl) (fun hb1 => ?_) (fun hb1 => ?_)
  · try simp only [zA, zO, zN, zM, zP, zQ, zD, zF, gd] at hb1
    have hil : i < s.length := by omega
    refine AC_skip ?_
    refine AC_seq ?_
    refine AC_block ?_
    refine AC_seq ?_
    refine AC_region ?_
    refine AL_p rfl rfl (S_move rfl (.tmp rfl)) ?_
    refine AL_p rfl rfl (S_assign rfl (.tmp rfl)) ?_
    refine AL_nil ?_
    refine AC_seq ?_
    refine AC_region ?_
    refine AL_p rfl rfl (S_move rfl (.tmp rfl)) ?_
    refine AL_p rfl rfl (S_move rfl (.tmp rfl)) ?_
    refine AL_p rfl rfl (S_index rfl (.tmp rfl) (.tmp rfl) (by kernel_rfl) (by omega) (by omega)) ?_
    refine AL_p rfl rfl (S_gcall rfl (AEvs.cons (y := .int .u8 ((s[i]'hil).toNat : Int)) ((AEv.tmp rfl).le (Le.of_eq (by rw [atL_get hil]))) AEvs.nil) (text_of_ok (s[i]'hil) _ hG)) ?_
    refine AL_p rfl rfl (S_move rfl (.tmp rfl)) ?_
    refine AL_p rfl rfl (S_bits rfl (by simp) (.tmp rfl) (.tmp rfl)) ?_
    refine AL_p rfl rfl ((S_eql rfl (.tmp rfl) (AEv.const _)).ofV (congrArg _ (of_bits (s[i]'hil) hw))) ?_
    refine AL_nil ?_
    refine AC_cond (.tmp rfl) (fun hb2 => ?_) (fun hb2 => ?_)
    · try simp only [zA, zO, zN, zM, zP, zQ, zD, zF, gd] at hb2
      have hin : inC w (s[i]'hil) = false := by simpa using hb2
      have ha : s.all (inC w) = false := List.all_eq_false.2 ⟨s[i], List.getElem_mem hil, by rw [hin]; simp⟩
      refine AC_seq ?_
      refine AC_region ?_
      refine AL_p rfl rfl (S_assign rfl (AEv.const _)) ?_
      refine AL_nil ?_
      refine AC_ret ?_
      refine ret_tmp st rfl rfl (Sub.l (List.Sublist.refl _)) (Conv.refl (Sub.l (List.Sublist.refl _)) _) ⟨by rw [ha], rfl⟩ (.inl rfl)
    try simp only [zA, zO, zN, zM, zP, zQ, zD, zF, gd] at hb2
    have hin : inC w (s[i]'hil) = true := by simpa using hb2
    refine AC_skip ?_
    refine AC_region ?_
    refine AL_p rfl rfl (S_addI rfl (.tmp rfl) (AEv.const _) (by omega) (by omega)) ?_
    refine AL_p rfl rfl (S_move rfl (.tmp rfl)) ?_
    refine AL_nil ?_
    refine ⟨i + 1, ⟨by omega, by rw [all_take_succ hil, hall, hin]; rfl⟩, by omega, rfl, .cons rfl (Le.refl _) (.cons rfl (Le.refl _) (.cons rfl (Le.refl _) (.cons rfl (Le.of_eq (by rw [Int.natCast_add]; rfl)) .nil)))⟩
  try simp only [zA, zO, zN, zM, zP, zQ, zD, zF, gd] at hb1
  have ha : s.all (inC w) = true := by
    rw [List.take_of_length_le (by omega)] at hall
    exact hall
  refine AC_exit ?_
  refine AC_seq ?_
  refine AC_region ?_
  refine AL_p rfl rfl (S_assign rfl (AEv.const _)) ?_
  refine AL_nil ?_
  refine AC_ret ?_
  refine ret_tmp st rfl rfl (Sub.l (List.Sublist.refl _)) (Conv.refl (Sub.l (List.Sublist.refl _)) _) ⟨by rw [ha], rfl⟩ (.inl rfl)

set_option maxRecDepth 100000 in
/-- provost/text.name -/
theorem text_name_ok (s : List UInt8) : GCalls Tryd.prog tabs 50 [.S s] (.bool (nameV s)) := by
  intro st hG
  refine ACalls_of (N := 27) Tryd.func50 (by kernel_rfl) rfl rfl rfl ?_
  have hpos : ∀ h : ¬ s = [], 0 < s.length := fun h => List.length_pos_iff.2 h
  refine AC_seq ?_
  refine AC_region ?_
  refine AL_p rfl rfl (S_assign rfl (AEv.const _)) ?_
  refine AL_nil ?_
  refine AC_seq ?_
  refine AC_region ?_
  refine AL_p rfl rfl (S_move rfl (.tmp rfl)) ?_
  refine AL_p rfl rfl (S_neS rfl (.tmp rfl) (AEv.S _)) ?_
  refine AL_p rfl rfl (S_move rfl (.tmp rfl)) ?_
  refine AL_g rfl rfl (.tmp rfl) rfl (fun hg1 => S_move rfl (.tmp rfl)) ?_
  refine AL_g rfl rfl (.tmp rfl) rfl (fun hg4 => S_lenS (ts := #[]) rfl (AEv.cond (.tmp rfl) (by first | assumption | exact gdAnd (by assumption) (by assumption))) (by kernel_rfl)) ?_
  refine AL_g rfl rfl (.tmp rfl) rfl (fun hg7 => S_leq rfl (AEv.cond (.tmp rfl) (by first | assumption | exact gdAnd (by assumption) (by assumption))) (AEv.const _)) ?_
  refine AL_p rfl rfl (S_and rfl (.tmp rfl) (fun hp10 => (AEv.cond (.tmp rfl) (by first | assumption | exact gdT hp10 | exact gdF hp10 | exact gdAnd (by assumption) (gdT hp10) | exact gdAnd (by assumption) (gdF hp10))))) ?_
  refine AL_p rfl rfl (S_move rfl (.tmp rfl)) ?_
  refine AL_g rfl rfl (.tmp rfl) rfl (fun hg11 => S_move rfl (.tmp rfl)) ?_
  refine AL_g rfl rfl (.tmp rfl) rfl (fun hg14 => S_gcall rfl (AEvs.cons (AEv.cond (.tmp rfl) (by first | assumption | exact gdAnd (by assumption) (by assumption))) (AEvs.cons (AEv.const _) AEvs.nil)) (text_all_ok s 1 (.inl rfl) (by simp only [gd, Bool.and_eq_true, decide_eq_true_eq] at *; omega) _ hG)) ?_
  refine AL_p rfl rfl (S_and rfl (.tmp rfl) (fun hp17 => (AEv.cond (.tmp rfl) (by first | assumption | exact gdT hp17 | exact gdF hp17 | exact gdAnd (by assumption) (gdT hp17) | exact gdAnd (by assumption) (gdF hp17))))) ?_
  refine AL_p rfl rfl (S_move rfl (.tmp rfl)) ?_
  refine AL_g rfl rfl (.tmp rfl) rfl (fun hg18 => S_move rfl (.tmp rfl)) ?_
  refine AL_g rfl rfl (.tmp rfl) rfl (fun hg21 => S_index rfl (AEv.cond (.tmp rfl) (by first | assumption | exact gdAnd (by assumption) (by assumption))) (AEv.const _) (by kernel_rfl) (by omega) (by simp only [gd, Bool.and_eq_true, Bool.not_eq_true', decide_eq_false_iff_not, decide_eq_true_eq] at *; have hp : 0 < s.length := List.length_pos_iff.2 (by first | assumption | (simp_all; done)); omega)) ?_
  refine AL_g rfl rfl (.tmp rfl) rfl (fun hg24 => S_neq rfl (AEv.cond (.tmp rfl) (by first | assumption | exact gdAnd (by assumption) (by assumption))) (AEv.const _)) ?_
  refine AL_p rfl rfl (S_and rfl (.tmp rfl) (fun hp27 => (AEv.cond (.tmp rfl) (by first | assumption | exact gdT hp27 | exact gdF hp27 | exact gdAnd (by assumption) (gdT hp27) | exact gdAnd (by assumption) (gdF hp27))))) ?_
  refine AL_p rfl rfl (S_move rfl (.tmp rfl)) ?_
  refine AL_g rfl rfl (.tmp rfl) rfl (fun hg28 => S_move rfl (.tmp rfl)) ?_
  refine AL_g rfl rfl (.tmp rfl) rfl (fun hg31 => S_move rfl (.tmp rfl)) ?_
  refine AL_g rfl rfl (.tmp rfl) rfl (fun hg34 => S_lenS (ts := #[]) rfl (AEv.cond (.tmp rfl) (by first | assumption | exact gdAnd (by assumption) (by assumption))) (by kernel_rfl)) ?_
  refine AL_g rfl rfl (.tmp rfl) rfl (fun hg37 => S_subI rfl (AEv.cond (.tmp rfl) (by first | assumption | exact gdAnd (by assumption) (by assumption))) (AEv.const _) (by (try simp only [gd, Bool.and_eq_true, Bool.or_eq_true, Bool.not_eq_true', Bool.not_eq_false', decide_eq_true_eq, decide_eq_false_iff_not, Bool.or_eq_false_iff, Bool.and_eq_false_iff] at *); omega) (by (try simp only [gd, Bool.and_eq_true, Bool.or_eq_true, Bool.not_eq_true', Bool.not_eq_false', decide_eq_true_eq, decide_eq_false_iff_not, Bool.or_eq_false_iff, Bool.and_eq_false_iff] at *); omega)) ?_
  refine AL_g rfl rfl (.tmp rfl) rfl (fun hg40 => S_index rfl (AEv.cond (.tmp rfl) (by first | assumption | exact gdAnd (by assumption) (by assumption))) (AEv.cond (.tmp rfl) (by first | assumption | exact gdAnd (by assumption) (by assumption))) (by kernel_rfl) (by simp only [gd, Bool.and_eq_true, Bool.not_eq_true', decide_eq_false_iff_not, decide_eq_true_eq] at *; have hp : 0 < s.length := List.length_pos_iff.2 (by first | assumption | (simp_all; done)); omega) (by omega)) ?_
  refine AL_g rfl rfl (.tmp rfl) rfl (fun hg43 => S_neq rfl (AEv.cond (.tmp rfl) (by first | assumption | exact gdAnd (by assumption) (by assumption))) (AEv.const _)) ?_
  refine AL_p rfl rfl (S_and rfl (.tmp rfl) (fun hp46 => (AEv.cond (.tmp rfl) (by first | assumption | exact gdT hp46 | exact gdF hp46 | exact gdAnd (by assumption) (gdT hp46) | exact gdAnd (by assumption) (gdF hp46))))) ?_
  refine AL_p rfl rfl (S_assign rfl (.tmp rfl)) ?_
  refine AL_nil ?_
  refine AC_ret ?_
  refine ret_tmp st rfl rfl (Sub.l (List.Sublist.refl _)) (Conv.refl (Sub.l (List.Sublist.refl _)) _) ⟨rfl, rfl⟩ (.inl rfl)

set_option maxRecDepth 100000 in
/-- provost/text.says -/
theorem text_says_ok (b : Bool) (c : Int) : PCalls Tryd.prog 49 [.bool b, .int .i64 c] (.int .i64 (saysV b c)) := by
  intro st
  refine ACalls_of (N := 7) Tryd.func49 (by kernel_rfl) rfl rfl rfl ?_
  refine AC_seq ?_
  refine AC_region ?_
  refine AL_p rfl rfl (S_assign rfl (AEv.const _)) ?_
  refine AL_nil ?_
  refine AC_seq ?_
  refine AC_seq ?_
  refine AC_region ?_
  refine AL_p rfl rfl (S_move rfl (.tmp rfl)) ?_
  refine AL_nil ?_
  refine AC_cond (.tmp rfl) (fun hb1 => ?_) (fun hb1 => ?_)
  · try simp only [zA, zO, zN, zM, zP, zQ, zD, zF, gd] at hb1
    have hb : b = true := hb1
    refine AC_seq ?_
    refine AC_region ?_
    refine AL_p rfl rfl (S_assign rfl (AEv.const _)) ?_
    refine AL_nil ?_
    refine AC_ret ?_
    refine ret_tmp st rfl rfl (Sub.l (List.Sublist.refl _)) (Conv.refl (Sub.l (List.Sublist.refl _)) _) ⟨by rw [saysV, if_pos (by assumption)], rfl⟩ (.inl rfl)
  try simp only [zA, zO, zN, zM, zP, zQ, zD, zF, gd] at hb1
  have hb : b = false := hb1
  refine AC_skip ?_
  refine AC_seq ?_
  refine AC_region ?_
  refine AL_p rfl rfl (S_move rfl (.tmp rfl)) ?_
  refine AL_p rfl rfl (S_assign rfl (.tmp rfl)) ?_
  refine AL_nil ?_
  refine AC_ret ?_
  refine ret_tmp st rfl rfl (Sub.l (List.Sublist.refl _)) (Conv.refl (Sub.l (List.Sublist.refl _)) _) ⟨by rw [saysV, if_neg (by simp_all)], rfl⟩ (.inl rfl)

set_option maxRecDepth 100000 in
/-- provost/text.Name -/
theorem text_Name_ok (s : List UInt8) : GCalls Tryd.prog tabs 34 [.S s] (.int .i64 (saysV (nameV s) 30)) := by
  intro st hG
  refine ACalls_of (N := 6) Tryd.func34 (by kernel_rfl) rfl rfl rfl ?_
  refine AC_seq ?_
  refine AC_region ?_
  refine AL_p rfl rfl (S_assign rfl (AEv.const _)) ?_
  refine AL_nil ?_
  refine AC_seq ?_
  refine AC_region ?_
  refine AL_p rfl rfl (S_move rfl (.tmp rfl)) ?_
  refine AL_p rfl rfl (S_gcall rfl (AEvs.cons (.tmp rfl) AEvs.nil) ((text_name_ok _) _ (fun p hp => by first | exact hG p hp | (simp [hG p hp]; done)))) ?_
  refine AL_p rfl rfl (S_pcall rfl (AEvs.cons (.tmp rfl) (AEvs.cons (AEv.const _) AEvs.nil)) (text_says_ok _ _)) ?_
  refine AL_p rfl rfl (S_assign rfl (.tmp rfl)) ?_
  refine AL_nil ?_
  refine AC_ret ?_
  refine ret_tmp st rfl rfl (Sub.l (List.Sublist.refl _)) (Conv.refl (Sub.l (List.Sublist.refl _)) _) ⟨rfl, rfl⟩ (.inl rfl)

set_option maxRecDepth 100000 in
/-- provost/provostref03.small -/
theorem ref_small_ok (c : UInt8) : PCalls Tryd.prog 44 [.int .u8 (c.toNat : Int)] (.bool (smallB c)) := by
  intro st
  refine ACalls_of (N := 17) Tryd.func44 (by kernel_rfl) rfl rfl rfl ?_
  refine AC_seq ?_
  refine AC_region ?_
  refine AL_p rfl rfl (S_assign rfl (AEv.const _)) ?_
  refine AL_nil ?_
  refine AC_seq ?_
  refine AC_region ?_
  refine AL_p rfl rfl (S_move rfl (.tmp rfl)) ?_
  refine AL_p rfl rfl (S_geq rfl (.tmp rfl) (AEv.const _)) ?_
  refine AL_p rfl rfl (S_move rfl (.tmp rfl)) ?_
  refine AL_g rfl rfl (.tmp rfl) rfl (fun hg1 => S_move rfl (.tmp rfl)) ?_
  refine AL_g rfl rfl (.tmp rfl) rfl (fun hg4 => S_leq rfl (AEv.cond (.tmp rfl) (by first | assumption | exact gdAnd (by assumption) (by assumption))) (AEv.const _)) ?_
  refine AL_p rfl rfl (S_and rfl (.tmp rfl) (fun hp7 => (AEv.cond (.tmp rfl) (by first | assumption | exact gdT hp7 | exact gdF hp7 | exact gdAnd (by assumption) (gdT hp7) | exact gdAnd (by assumption) (gdF hp7))))) ?_
  refine AL_p rfl rfl (S_move rfl (.tmp rfl)) ?_
  refine AL_g rfl rfl (.tmp rfl) rfl (fun hg8 => S_move rfl (.tmp rfl)) ?_
  refine AL_g rfl rfl (.tmp rfl) rfl (fun hg11 => S_geq rfl (AEv.cond (.tmp rfl) (by first | assumption | exact gdAnd (by assumption) (by assumption))) (AEv.const _)) ?_
  refine AL_g rfl rfl (.tmp rfl) rfl (fun hg14 => S_move rfl (AEv.cond (.tmp rfl) (by first | assumption | exact gdAnd (by assumption) (by assumption)))) ?_
  refine AL_gg rfl rfl (.tmp rfl) rfl (fun hg17 hg18 hg19 => S_move rfl (.tmp rfl)) ?_
  refine AL_gg rfl rfl (.tmp rfl) rfl (fun hg20 hg21 hg22 => S_leq rfl (AEv.cond (.tmp rfl) (by first | assumption | exact gdAnd (by assumption) (by assumption))) (AEv.const _)) ?_
  refine AL_g rfl rfl (.tmp rfl) rfl (fun hg23 => S_and rfl (AEv.cond (.tmp rfl) (by first | assumption | exact gdAnd (by assumption) (by assumption))) (fun hp26 => (AEv.cond (.tmp rfl) (by first | assumption | exact gdT hp26 | exact gdF hp26 | exact gdAnd (by assumption) (gdT hp26) | exact gdAnd (by assumption) (gdF hp26))))) ?_
  refine AL_p rfl rfl (S_or rfl (.tmp rfl) (fun hp27 => (AEv.cond (.tmp rfl) (by first | assumption | exact gdT hp27 | exact gdF hp27 | exact gdAnd (by assumption) (gdT hp27) | exact gdAnd (by assumption) (gdF hp27))))) ?_
  refine AL_p rfl rfl (S_assign rfl (.tmp rfl)) ?_
  refine AL_nil ?_
  refine AC_ret ?_
  refine ret_tmp st rfl rfl (Sub.l (List.Sublist.refl _)) (Conv.refl (Sub.l (List.Sublist.refl _)) _) ⟨congrArg AV.bool (by unfold smallB; rw [Bool.eq_iff_iff]; simp only [Bool.or_eq_true, Bool.and_eq_true, decide_eq_true_eq]; omega), rfl⟩ (.inl rfl)

set_option maxRecDepth 100000 in
/-- provost/provostref03.Name -/
theorem ref03_Name_ok (s : List UInt8) (hs : s.length ≤ 1000000) : PCalls Tryd.prog 24 [.S s] (.bool (nameV s)) := by
  intro st
  refine ACalls_of (N := 42) Tryd.func24 (by kernel_rfl) rfl rfl rfl ?_
  refine AC_seq ?_
  refine AC_region ?_
  refine AL_p rfl rfl (S_assign rfl (AEv.const _)) ?_
  refine AL_nil ?_
  refine AC_seq ?_
  refine AC_seq ?_
  refine AC_region ?_
  refine AL_p rfl rfl (S_move rfl (.tmp rfl)) ?_
  refine AL_p rfl rfl (S_lenS (ts := #[]) rfl (.tmp rfl) (by kernel_rfl)) ?_
  refine AL_p rfl rfl (S_lss rfl (.tmp rfl) (AEv.const _)) ?_
  refine AL_p rfl rfl (S_move rfl (.tmp rfl)) ?_
  refine AL_g rfl rfl (.tmp rfl) rfl (fun hg1 => S_move rfl (.tmp rfl)) ?_
  refine AL_g rfl rfl (.tmp rfl) rfl (fun hg4 => S_lenS (ts := #[]) rfl (AEv.cond (.tmp rfl) (by first | assumption | exact gdAnd (by assumption) (by assumption))) (by kernel_rfl)) ?_
  refine AL_g rfl rfl (.tmp rfl) rfl (fun hg7 => S_gtr rfl (AEv.cond (.tmp rfl) (by first | assumption | exact gdAnd (by assumption) (by assumption))) (AEv.const _)) ?_
  refine AL_p rfl rfl (S_or rfl (.tmp rfl) (fun hp10 => (AEv.cond (.tmp rfl) (by first | assumption | exact gdT hp10 | exact gdF hp10 | exact gdAnd (by assumption) (gdT hp10) | exact gdAnd (by assumption) (gdF hp10))))) ?_
  refine AL_p rfl rfl (S_move rfl (.tmp rfl)) ?_
  refine AL_g rfl rfl (.tmp rfl) rfl (fun hg11 => S_move rfl (.tmp rfl)) ?_
  refine AL_g rfl rfl (.tmp rfl) rfl (fun hg14 => S_index rfl (AEv.cond (.tmp rfl) (by first | assumption | exact gdAnd (by assumption) (by assumption))) (AEv.const _) (by kernel_rfl) (by (try simp only [gd, Bool.and_eq_true, Bool.or_eq_true, Bool.not_eq_true', Bool.not_eq_false', decide_eq_true_eq, decide_eq_false_iff_not, Bool.or_eq_false_iff, Bool.and_eq_false_iff] at *); omega) (by (try simp only [gd, Bool.and_eq_true, Bool.or_eq_true, Bool.not_eq_true', Bool.not_eq_false', decide_eq_true_eq, decide_eq_false_iff_not, Bool.or_eq_false_iff, Bool.and_eq_false_iff] at *); omega)) ?_
  refine AL_g rfl rfl (.tmp rfl) rfl (fun hg17 => S_eql rfl (AEv.cond (.tmp rfl) (by first | assumption | exact gdAnd (by assumption) (by assumption))) (AEv.const _)) ?_
  refine AL_p rfl rfl (S_or rfl (.tmp rfl) (fun hp20 => (AEv.cond (.tmp rfl) (by first | assumption | exact gdT hp20 | exact gdF hp20 | exact gdAnd (by assumption) (gdT hp20) | exact gdAnd (by assumption) (gdF hp20))))) ?_
  refine AL_p rfl rfl (S_move rfl (.tmp rfl)) ?_
  refine AL_g rfl rfl (.tmp rfl) rfl (fun hg21 => S_move rfl (.tmp rfl)) ?_
  refine AL_g rfl rfl (.tmp rfl) rfl (fun hg24 => S_move rfl (.tmp rfl)) ?_
  refine AL_g rfl rfl (.tmp rfl) rfl (fun hg27 => S_lenS (ts := #[]) rfl (AEv.cond (.tmp rfl) (by first | assumption | exact gdAnd (by assumption) (by assumption))) (by kernel_rfl)) ?_
  refine AL_g rfl rfl (.tmp rfl) rfl (fun hg30 => S_subI rfl (AEv.cond (.tmp rfl) (by first | assumption | exact gdAnd (by assumption) (by assumption))) (AEv.const _) (by (try simp only [gd, Bool.and_eq_true, Bool.or_eq_true, Bool.not_eq_true', Bool.not_eq_false', decide_eq_true_eq, decide_eq_false_iff_not, Bool.or_eq_false_iff, Bool.and_eq_false_iff] at *); omega) (by (try simp only [gd, Bool.and_eq_true, Bool.or_eq_true, Bool.not_eq_true', Bool.not_eq_false', decide_eq_true_eq, decide_eq_false_iff_not, Bool.or_eq_false_iff, Bool.and_eq_false_iff] at *); omega)) ?_
  refine AL_g rfl rfl (.tmp rfl) rfl (fun hg33 => S_index rfl (AEv.cond (.tmp rfl) (by first | assumption | exact gdAnd (by assumption) (by assumption))) (AEv.cond (.tmp rfl) (by first | assumption | exact gdAnd (by assumption) (by assumption))) (by kernel_rfl) (by (try simp only [gd, Bool.and_eq_true, Bool.or_eq_true, Bool.not_eq_true', Bool.not_eq_false', decide_eq_true_eq, decide_eq_false_iff_not, Bool.or_eq_false_iff, Bool.and_eq_false_iff] at *); omega) (by (try simp only [gd, Bool.and_eq_true, Bool.or_eq_true, Bool.not_eq_true', Bool.not_eq_false', decide_eq_true_eq, decide_eq_false_iff_not, Bool.or_eq_false_iff, Bool.and_eq_false_iff] at *); omega)) ?_
  refine AL_g rfl rfl (.tmp rfl) rfl (fun hg36 => S_eql rfl (AEv.cond (.tmp rfl) (by first | assumption | exact gdAnd (by assumption) (by assumption))) (AEv.const _)) ?_
  refine AL_p rfl rfl (S_or rfl (.tmp rfl) (fun hp39 => (AEv.cond (.tmp rfl) (by first | assumption | exact gdT hp39 | exact gdF hp39 | exact gdAnd (by assumption) (gdT hp39) | exact gdAnd (by assumption) (gdF hp39))))) ?_
  refine AL_nil ?_
  refine AC_cond (.tmp rfl) (fun hb40 => ?_) (fun hb40 => ?_)
  · try simp only [zA, zO, zN, zM, zP, zQ, zD, zF, gd] at hb40
    have hn := name_no (s := s) hb40
    refine AC_seq ?_
    refine AC_region ?_
    refine AL_p rfl rfl (S_assign rfl (AEv.const _)) ?_
    refine AL_nil ?_
    refine AC_ret ?_
    refine ret_tmp st rfl rfl (Sub.l (List.Sublist.refl _)) (Conv.refl (Sub.l (List.Sublist.refl _)) _) ⟨by rw [hn], rfl⟩ (.inl rfl)
  try simp only [zA, zO, zN, zM, zP, zQ, zD, zF, gd] at hb40
  have hn := name_all (s := s) (by omega)
  refine AC_skip ?_
  refine AC_seq ?_
  refine AC_seq ?_
  refine AC_region ?_
  refine AL_p rfl rfl (S_assign rfl (AEv.const _)) ?_
  refine AL_nil ?_
  refine AC_block ?_
  refine AC_loop (G := Nat) (fun i => i ≤ s.length ∧ (s.take i).all (inC 1) = true) (fun i => [(0, .S s), (3, .int .i64 (i : Int))]) (fun i => st) (fun i => s.length - i) (0) (⟨by simp, by simp⟩) rfl ?_ ?_
  · exact (.cons rfl (by first | exact Le.refl _ | exact Le.nils | exact Le.row _ _ _ _ | (exact Le.of_eq (by simp))) (.cons rfl (by first | exact Le.refl _ | exact Le.nils | exact Le.row _ _ _ _ | (exact Le.of_eq (by simp))) .nil))
  rintro i ⟨hi, hall⟩
  try dsimp only
  refine AC_seq ?_
  refine AC_seq ?_
  refine AC_region ?_
  refine AL_p rfl rfl (S_move rfl (.tmp rfl)) ?_
  refine AL_p rfl rfl (S_move rfl (.tmp rfl)) ?_
  refine AL_p rfl rfl (S_lenS (ts := #[]) rfl (.tmp rfl) (by kernel_rfl)) ?_
  refine AL_p rfl rfl (S_lss rfl (.tmp rfl) (.tmp rfl)) ?_
  refine AL_nil ?_
  refine AC_cond (.tmp rfl) (fun hb41 => ?_) (fun hb41 => ?_)
  · try simp only [zA, zO, zN, zM, zP, zQ, zD, zF, gd] at hb41
    have hil : i < s.length := by omega
    refine AC_skip ?_
    refine AC_seq ?_
    refine AC_block ?_
    refine AC_seq ?_
    refine AC_region ?_
    refine AL_p rfl rfl (S_move rfl (.tmp rfl)) ?_
    refine AL_p rfl rfl (S_move rfl (.tmp rfl)) ?_
    refine AL_p rfl rfl ((S_index rfl (.tmp rfl) (.tmp rfl) (by kernel_rfl) (by omega) (by omega)).ofV (congrArg _ (atL_get hil))) ?_
    refine AL_p rfl rfl (S_pcall rfl (AEvs.cons (y := .int .u8 ((s[i]'hil).toNat : Int)) (.tmp rfl) AEvs.nil) (ref_small_ok (s[i]'hil))) ?_
    refine AL_p rfl rfl (S_not rfl (.tmp rfl)) ?_
    refine AL_p rfl rfl (S_move rfl (.tmp rfl)) ?_
    refine AL_g rfl rfl (.tmp rfl) rfl (fun hg42 => S_move rfl (.tmp rfl)) ?_
    refine AL_g rfl rfl (.tmp rfl) rfl (fun hg45 => S_move rfl (.tmp rfl)) ?_
    refine AL_g rfl rfl (.tmp rfl) rfl (fun hg48 => (S_index rfl (AEv.cond (.tmp rfl) (by first | assumption | exact gdAnd (by assumption) (by assumption))) (AEv.cond (.tmp rfl) (by first | assumption | exact gdAnd (by assumption) (by assumption))) (by kernel_rfl) (by omega) (by omega)).ofV (congrArg _ (atL_get hil))) ?_
    refine AL_g rfl rfl (.tmp rfl) rfl (fun hg51 => S_neq rfl (AEv.cond (.tmp rfl) (by first | assumption | exact gdAnd (by assumption) (by assumption))) (AEv.const _)) ?_
    refine AL_p rfl rfl (S_and rfl (.tmp rfl) (fun hp54 => (AEv.cond (.tmp rfl) (by first | assumption | exact gdT hp54 | exact gdF hp54 | exact gdAnd (by assumption) (gdT hp54) | exact gdAnd (by assumption) (gdF hp54))))) ?_
    refine AL_nil ?_
    refine AC_cond (.tmp rfl) (fun hb55 => ?_) (fun hb55 => ?_)
    · try simp only [zA, zO, zN, zM, zP, zQ, zD, zF, gd] at hb55
      have hin : inC 1 (s[i]'hil) = false := by rw [inC1, hb55.1, show decide (((s[i]'hil).toNat : Int) = 45) = false by simpa using hb55.2]; rfl
      have ha : s.all (inC 1) = false := List.all_eq_false.2 ⟨s[i], List.getElem_mem hil, by rw [hin]; simp⟩
      refine AC_seq ?_
      refine AC_region ?_
      refine AL_p rfl rfl (S_assign rfl (AEv.const _)) ?_
      refine AL_nil ?_
      refine AC_ret ?_
      refine ret_tmp st rfl rfl (Sub.l (List.Sublist.refl _)) (Conv.refl (Sub.l (List.Sublist.refl _)) _) ⟨by rw [hn, ha], rfl⟩ (.inl rfl)
    try simp only [zA, zO, zN, zM, zP, zQ, zD, zF, gd] at hb55
    have hin : inC 1 (s[i]'hil) = true := by
      rw [inC1]
      rcases hb55 with h | h
      · rw [h]; rfl
      · rw [show decide (((s[i]'hil).toNat : Int) = 45) = true by simpa using h]; simp
    refine AC_skip ?_
    refine AC_region ?_
    refine AL_p rfl rfl (S_move rfl (.tmp rfl)) ?_
    refine AL_p rfl rfl (S_addI rfl (.tmp rfl) (AEv.const _) (by omega) (by omega)) ?_
    refine AL_p rfl rfl (S_assign rfl (.tmp rfl)) ?_
    refine AL_nil ?_
    refine ⟨i + 1, ⟨by omega, by rw [all_take_succ hil, hall, hin]; rfl⟩, by omega, rfl, .cons rfl (Le.refl _) (.cons rfl (Le.of_eq (by rw [Int.natCast_add]; rfl)) .nil)⟩
  try simp only [zA, zO, zN, zM, zP, zQ, zD, zF, gd] at hb41
  have ha : s.all (inC 1) = true := by rw [List.take_of_length_le (by omega)] at hall; exact hall
  refine AC_exit ?_
  refine AC_seq ?_
  refine AC_region ?_
  refine AL_p rfl rfl (S_assign rfl (AEv.const _)) ?_
  refine AL_nil ?_
  refine AC_ret ?_
  refine ret_tmp st rfl rfl (Sub.l (List.Sublist.refl _)) (Conv.refl (Sub.l (List.Sublist.refl _)) _) ⟨by rw [hn, ha], rfl⟩ (.inl rfl)

end Go.Proofs.YtfpkefhjomeeeaaDoor

/-
The walks of Go functions in the logic AL: what each of them answers.
Conditions: those of each theorem.
-/
set_option linter.unusedVariables false
set_option linter.unusedSimpArgs false
namespace Go.Proofs.YtfpkefhjomeeeaaDoor
open Go.AL Go.NumSpec

set_option maxRecDepth 100000 in
/-- (*provost/fail.step).Unwrap -/
theorem step_Unwrap_ok (p : List UInt8) (x : AV) : PCalls Tryd.prog 106 [.ip [.S p, x]] (x) := by
  intro st
  refine ACalls_of (N := 7) Tryd.func106 (by kernel_rfl) rfl rfl rfl ?_
  refine AC_seq ?_
  refine AC_region ?_
  refine AL_p rfl rfl (S_assign rfl (AEv.const _)) ?_
  refine AL_nil ?_
  refine AC_seq ?_
  refine AC_region ?_
  refine AL_p rfl rfl (S_move rfl (.tmp rfl)) ?_
  refine AL_p rfl rfl (S_nilCheckP rfl (.tmp rfl)) ?_
  refine AL_p rfl rfl (S_fieldP 1 rfl (.tmp rfl) (by kernel_rfl)) ?_
  refine AL_p rfl rfl (S_loadP rfl (.tmp rfl) rfl (by kernel_rfl)) ?_
  refine AL_p rfl rfl (S_assign rfl (.tmp rfl)) ?_
  refine AL_nil ?_
  refine AC_ret ?_
  refine ret_tmp st rfl rfl (Sub.l (List.Sublist.refl _)) (Conv.refl (Sub.l (List.Sublist.refl _)) _) ⟨by first | rfl | (simp; done), rfl⟩ (.inl rfl)

set_option maxRecDepth 100000 in
/-- provost/fail.In -/
theorem fail_In_ok (e : Er) (p : List UInt8) : PCalls Tryd.prog 54 [erV 29 109 e, .S p] (erV 29 109 (erIn e p)) := by
  intro st
  refine ACalls_of (N := 12) Tryd.func54 (by kernel_rfl) rfl rfl rfl ?_
  refine AC_seq ?_
  refine AC_region ?_
  refine AL_p rfl rfl (S_assign rfl (AEv.const _)) ?_
  refine AL_nil ?_
  refine AC_seq ?_
  refine AC_seq ?_
  refine AC_region ?_
  refine AL_p rfl rfl (S_move rfl (.tmp rfl)) ?_
  refine AL_p rfl rfl (S_eqlE (er_is 29 109 e) rfl (.tmp rfl) (by kernel_rfl)) ?_
  refine AL_nil ?_
  refine AC_cond (.tmp rfl) (fun hb1 => ?_) (fun hb1 => ?_)
  · try simp only [zA, zO, zN, zM, zP, zQ, zD, zF, gd] at hb1
    obtain rfl : e = none := by cases e with | none => rfl | some x => simp at hb1
    refine AC_seq ?_
    refine AC_region ?_
    refine AL_p rfl rfl (S_assign rfl (AEv.const _)) ?_
    refine AL_nil ?_
    refine AC_ret ?_
    refine ret_tmp st rfl rfl (Sub.l (List.Sublist.refl _)) (Conv.refl (Sub.l (List.Sublist.refl _)) _) ⟨rfl, rfl⟩ (.inl rfl)
  try simp only [zA, zO, zN, zM, zP, zQ, zD, zF, gd] at hb1
  obtain ⟨⟨c, ps⟩, rfl⟩ : ∃ x, e = some x := by cases e with | none => simp at hb1 | some x => exact ⟨x, rfl⟩
  obtain ⟨T9, z, hz⟩ := chain_ifc 29 109 c ps
  have hR : erV 29 109 (erIn (some (c, ps)) p) = .ifc 109 (.ip [.S p, .ifc T9 z]) := by
    show AV.ifc 109 _ = _
    rw [hz]
  have he : erV 29 109 (some (c, ps)) = .ifc T9 z := hz
  rw [hR]
  simp only [he]
  refine AC_skip ?_
  refine AC_seq ?_
  refine AC_region ?_
  refine AL_p rfl rfl (S_move rfl (.tmp rfl)) ?_
  refine AL_p rfl rfl (S_move rfl (.tmp rfl)) ?_
  refine AL_p rfl rfl (S_build (t := 112) (pl := [(0, 1), (1, 1)]) (zs := [.string ⟨#[]⟩, .nilIface]) rfl (AEvs.cons (.tmp rfl) (AEvs.cons (.tmp rfl) AEvs.nil)) (by kernel_rfl) rfl) ?_
  refine AL_step rfl rfl (S_box rfl (.tmp rfl)) ?_
  rintro _ _ ⟨b2, rfl, rfl⟩
  refine AL_p rfl rfl (S_ifc (T2 := 0) rfl (.tmp rfl) (by kernel_rfl)) ?_
  refine AL_p rfl rfl (S_assign rfl (.tmp rfl)) ?_
  refine AL_nil ?_
  refine AC_ret ?_
  refine ret_tmp st rfl rfl (Sub.l (List.Sublist.cons _ (List.Sublist.refl _))) (Conv.ifc (Conv.ipT (Sub.l (List.Sublist.cons _ (List.Sublist.refl _))) List.mem_cons_self (fun hn o ho => absurd (List.mem_map_of_mem (f := Prod.fst) ho) (by simp only [List.map_cons, List.nodup_cons] at hn; exact hn.1)))) ⟨rfl, rfl⟩ (.inl rfl)

set_option maxRecDepth 100000 in
/-- provost/fail.New -/
theorem fail_New_ok (c : Int) (ps : List (List UInt8)) (hl : ps.length ≤ 9223372036854775807) : PCalls Tryd.prog 38 [.int .i64 c, .sl (strsV ps)] (erV 29 109 (erNew c ps)) := by
  intro st
  refine ACalls_of (N := 25) Tryd.func38 (by kernel_rfl) rfl rfl rfl ?_
  have hpl := strsV_len ps
  refine AC_seq ?_
  refine AC_region ?_
  refine AL_p rfl rfl (S_assign rfl (AEv.const _)) ?_
  refine AL_nil ?_
  refine AC_seq ?_
  refine AC_seq ?_
  refine AC_region ?_
  refine AL_p rfl rfl (S_move rfl (.tmp rfl)) ?_
  refine AL_p rfl rfl (S_eql rfl (.tmp rfl) (AEv.const _)) ?_
  refine AL_nil ?_
  refine AC_cond (.tmp rfl) (fun hb1 => ?_) (fun hb1 => ?_)
  · try simp only [zA, zO, zN, zM, zP, zQ, zD, zF, gd] at hb1
    have hc0 : c = 0 := by omega
    refine AC_seq ?_
    refine AC_region ?_
    refine AL_p rfl rfl (S_assign rfl (AEv.const _)) ?_
    refine AL_nil ?_
    refine AC_ret ?_
    refine ret_tmp st rfl rfl (Sub.l (List.Sublist.refl _)) (Conv.refl (Sub.l (List.Sublist.refl _)) _) ⟨by rw [erNew_none hc0]; rfl, rfl⟩ (.inl rfl)
  try simp only [zA, zO, zN, zM, zP, zQ, zD, zF, gd] at hb1
  have hc0 : c ≠ 0 := by omega
  refine AC_skip ?_
  refine AC_seq ?_
  refine AC_region ?_
  refine AL_p rfl rfl (S_move rfl (.tmp rfl)) ?_
  refine AL_p rfl rfl (S_ifc (T2 := 0) rfl (.tmp rfl) (by kernel_rfl)) ?_
  refine AL_p rfl rfl (S_assign rfl (.tmp rfl)) ?_
  refine AL_nil ?_
  refine AC_seq ?_
  refine AC_seq ?_
  refine AC_region ?_
  refine AL_p rfl rfl (S_move rfl (.tmp rfl)) ?_
  refine AL_p rfl rfl (S_len (e := 9) rfl (.tmp rfl) (by kernel_rfl)) ?_
  refine AL_p rfl rfl (S_subI rfl (.tmp rfl) (AEv.const _) (by omega) (by omega)) ?_
  refine AL_p rfl rfl (S_assign rfl (.tmp rfl)) ?_
  refine AL_nil ?_
  refine AC_block ?_
  refine AC_loop (G := Nat) (fun n => n ≤ ps.length) (fun n => [(1, .sl (strsV ps)), (5, erV 29 109 (some (c, ps.drop n))), (6, .int .i64 ((n : Int) - 1))]) (fun n => st) (fun n => n) (ps.length) (Nat.le_refl _) rfl ?_ ?_
  · exact .cons rfl (Le.refl _) (.cons rfl (Le.of_eq (by rw [List.drop_length]; rfl)) (.cons rfl (Le.of_eq (by rw [hpl])) .nil))
  rintro n hn
  try dsimp only
  refine AC_seq ?_
  refine AC_seq ?_
  refine AC_region ?_
  refine AL_p rfl rfl (S_move rfl (.tmp rfl)) ?_
  refine AL_p rfl rfl (S_geq rfl (.tmp rfl) (AEv.const _)) ?_
  refine AL_nil ?_
  refine AC_cond (.tmp rfl) (fun hb2 => ?_) (fun hb2 => ?_)
  · try simp only [zA, zO, zN, zM, zP, zQ, zD, zF, gd] at hb2
    obtain ⟨k, rfl⟩ : ∃ k, n = k + 1 := ⟨n - 1, by omega⟩
    have hil : k < ps.length := by omega
    refine AC_skip ?_
    refine AC_seq ?_
    refine AC_block ?_
    refine AC_region ?_
    refine AL_p rfl rfl (S_move rfl (.tmp rfl)) ?_
    refine AL_p rfl rfl (S_move rfl (.tmp rfl)) ?_
    refine AL_p rfl rfl (S_move rfl (.tmp rfl)) ?_
    refine AL_p rfl rfl (S_elem (e := 9) (c := .S (ps[k]'hil)) (i := ((k + 1 : Nat) : Int) - 1) 1 rfl (.tmp rfl) (.tmp rfl) (by kernel_rfl) (by kernel_rfl) (by omega) (by simp [strsV, hil]) rfl) ?_
    refine AL_p rfl rfl (S_loadP rfl (.tmp rfl) rfl (by kernel_rfl)) ?_
    refine AL_p rfl rfl (S_pcall rfl (AEvs.cons (.tmp rfl) (AEvs.cons (.tmp rfl) AEvs.nil)) (fail_In_ok (some (c, ps.drop (k + 1))) (ps[k]'hil))) ?_
    refine AL_p rfl rfl (S_assign rfl (.tmp rfl)) ?_
    refine AL_nil ?_
    refine AC_region ?_
    refine AL_p rfl rfl (S_move rfl (.tmp rfl)) ?_
    refine AL_p rfl rfl (S_subI rfl (.tmp rfl) (AEv.const _) (by omega) (by omega)) ?_
    refine AL_p rfl rfl (S_assign rfl (.tmp rfl)) ?_
    refine AL_nil ?_
    refine ⟨k, by omega, by omega, rfl, .cons rfl (Le.refl _) (.cons rfl (Le.of_eq (by rw [List.drop_eq_getElem_cons hil]; rfl)) (.cons rfl (Le.of_eq (by rw [show ((k + 1 : Nat) : Int) - 1 - 1 = (k : Int) - 1 by omega])) .nil))⟩
  try simp only [zA, zO, zN, zM, zP, zQ, zD, zF, gd] at hb2
  obtain rfl : n = 0 := by omega
  refine AC_exit ?_
  refine AC_seq ?_
  refine AC_region ?_
  refine AL_p rfl rfl (S_move rfl (.tmp rfl)) ?_
  refine AL_p rfl rfl (S_assign rfl (.tmp rfl)) ?_
  refine AL_nil ?_
  refine AC_ret ?_
  refine ret_tmp st rfl rfl (Sub.l (List.Sublist.refl _)) (Conv.refl (Sub.l (List.Sublist.refl _)) _) ⟨by rw [erNew_some hc0]; rfl, rfl⟩ (.inl rfl)

end Go.Proofs.YtfpkefhjomeeeaaDoor

/- The kit's shelf at this seat (lay-shelf, lay-plain), up to strings.Join. -/
namespace Go.Proofs
open Go.Shelf
def Tryd.lays169_ren : Go.Shelf.Ren := ⟨fun | 169 => 40 | n => n, fun | 70 => 75 | 9 => 9 | 0 => 0 | 72 => 77 | 37 => 70 | 127 => 96 | 3 => 3 | 5 => 5 | n => n, fun | n => n⟩
theorem Tryd.lays169 : Go.Proofs.Lays.n169 Tryd.prog Tryd.lays169_ren := {
  mixed := by kernel_rfl
  f169 := Tryd.func40.trans (congrArg some (by kernel_rfl))
  t0 := Tryd.underlying0
  a0 := Tryd.isAgg0
  z0 := Tryd.sizeOf0
  v0 := Tryd.zeroValue0
  t3 := Tryd.underlying3
  a3 := Tryd.isAgg3
  z3 := Tryd.sizeOf3
  v3 := Tryd.zeroValue3
  t9 := Tryd.underlying9
  a9 := Tryd.isAgg9
  z9 := Tryd.sizeOf9
  v9 := Tryd.zeroValue9
  t37 := Tryd.underlying70
  a37 := Tryd.isAgg70
  z37 := Tryd.sizeOf70
  v37 := Tryd.zeroValue70
  t70 := Tryd.underlying75
  a70 := Tryd.isAgg75
  z70 := Tryd.sizeOf75
  v70 := Tryd.zeroValue75
  t72 := Tryd.underlying77
  a72 := Tryd.isAgg77
  z72 := Tryd.sizeOf77
  v72 := Tryd.zeroValue77
  t127 := Tryd.underlying96
  a127 := Tryd.isAgg96
  z127 := Tryd.sizeOf96
  v127 := Tryd.zeroValue96 }
theorem Tryd.Builder_Extra_169 : Builder.Extra Tryd.prog Tryd.lays169_ren := {
  sizeBuilder := by kernel_rfl
  liesBuilder := by kernel_rfl
  t5 := Tryd.underlying5
  a5 := Tryd.isAgg5
  z5 := Tryd.sizeOf5
  v5 := Tryd.zeroValue5
  infoByte := by kernel_rfl
  cellsByte := by kernel_rfl
  sizeByte := by kernel_rfl
  neB5 := by decide }
open Go.RowKit in
/-- (*strings.Builder).String: "String returns the accumulated string.": OF A BUILDER THAT HOLDS AT LEAST ONE BYTE. ✋ THE MODEL FREEZES THOSE BYTES IN THE BUFFER (unsafe.String): a later write INTO them ends the model's run without an answer; a later append BEHIND them goes on. The statement's order of evaluation is drawn: one draw. (LAID: no walk: one application.) -/
theorem Tryd.Builder_String (B b : Nat) (l : List UInt8) (w : World) (h : Lib.IsBuilder 77 5 B b (Lib.byteCells l) w) (h0 : l ≠ []) :
    Calls Tryd.prog 40 #[.pointer (some ⟨b, 0, none⟩)] w fun e w' => e = .returned (.string ⟨l.toArray⟩) ∧ Below B w w' := Any.Builder_String Tryd.lays169 Tryd.Builder_Extra_169 B b l w h h0
open Go.RowKit in
/-- (*strings.Builder).String OF A BUILDER THAT HOLDS NO BYTE: the empty string. (Its buffer is nil, or a row of which it has taken nothing yet; where that row has NO capacity the model lays one new block for unsafe.SliceData's 'some address'.) One draw. (LAID: no walk: one application.) -/
theorem Tryd.Builder_String_empty (B b : Nat) (w : World) (h : Lib.IsBuilder 77 5 B b [] w) (hBw : B ≤ w.heap.size) :
    Calls Tryd.prog 40 #[.pointer (some ⟨b, 0, none⟩)] w fun e w' => e = .returned (.string ⟨#[]⟩) ∧ Below B w w' := Any.Builder_String_empty Tryd.lays169 Tryd.Builder_Extra_169 B b w h hBw
open Go.RowKit in
/-- (*strings.Builder).String: "String returns the accumulated string.": WHATEVER THE BUILDER HOLDS. (LAID: no walk: one application.) -/
theorem Tryd.Builder_String_any (B b : Nat) (l : List UInt8) (w : World) (h : Lib.IsBuilder 77 5 B b (Lib.byteCells l) w) (hBw : B ≤ w.heap.size) :
    Calls Tryd.prog 40 #[.pointer (some ⟨b, 0, none⟩)] w fun e w' => e = .returned (.string ⟨l.toArray⟩) ∧ Below B w w' := Any.Builder_String_any Tryd.lays169 Tryd.Builder_Extra_169 B b l w h hBw
def Tryd.lays241_ren : Go.Shelf.Ren := ⟨fun | 241 => 65 | 277 => 76 | n => n, fun | 70 => 75 | 3 => 3 | 0 => 0 | 72 => 77 | 37 => 70 | 5 => 5 | n => n, fun | n => n⟩
theorem Tryd.lays241 : Go.Proofs.Lays.n241 Tryd.prog Tryd.lays241_ren := {
  mixed := by kernel_rfl
  f241 := Tryd.func65.trans (congrArg some (by kernel_rfl))
  f277 := Tryd.func76.trans (congrArg some (by kernel_rfl))
  t0 := Tryd.underlying0
  a0 := Tryd.isAgg0
  z0 := Tryd.sizeOf0
  v0 := Tryd.zeroValue0
  t3 := Tryd.underlying3
  a3 := Tryd.isAgg3
  z3 := Tryd.sizeOf3
  v3 := Tryd.zeroValue3
  t37 := Tryd.underlying70
  a37 := Tryd.isAgg70
  z37 := Tryd.sizeOf70
  v37 := Tryd.zeroValue70
  t70 := Tryd.underlying75
  a70 := Tryd.isAgg75
  z70 := Tryd.sizeOf75
  v70 := Tryd.zeroValue75
  t72 := Tryd.underlying77
  a72 := Tryd.isAgg77
  z72 := Tryd.sizeOf77
  v72 := Tryd.zeroValue77 }
theorem Tryd.Builder_Extra_241 : Builder.Extra Tryd.prog Tryd.lays241_ren := {
  sizeBuilder := by kernel_rfl
  liesBuilder := by kernel_rfl
  t5 := Tryd.underlying5
  a5 := Tryd.isAgg5
  z5 := Tryd.sizeOf5
  v5 := Tryd.zeroValue5
  infoByte := by kernel_rfl
  cellsByte := by kernel_rfl
  sizeByte := by kernel_rfl
  neB5 := by decide }
open Go.RowKit in
/-- (*strings.Builder).grow (no doc but "grow copies the buffer to a new, larger buffer so that there are at least n bytes of capacity beyond len(b.buf)."): AT A BUILDER WITHOUT A BUFFER: a new row of whatever bytes for its buffer, none of them its own yet. Three draws. (LAID: no walk: one application.) -/
theorem Tryd.Builder_grow_fresh (B b n : Nat) (w : World) (hB : B ≤ b) (hbk : w.heap[b]? = some (.cells #[.pointer (some ⟨b, 0, none⟩), .slice none 0 0] 77 (0, 0))) (hBw : B ≤ w.heap.size) (hn : n ≤ 281474976710656) :
    Calls Tryd.prog 65 #[.pointer (some ⟨b, 0, none⟩), .int .i64 n] w fun e w' => e = .returned (.tuple #[]) ∧ (Lib.BuilderAt 77 5 B b (.pointer (some ⟨b, 0, none⟩)) [] w' ∧ Below B w w') := Any.Builder_grow_fresh Tryd.lays241 Tryd.Builder_Extra_241 B b n w hB hbk hBw hn
def Tryd.lays165_ren : Go.Shelf.Ren := ⟨fun | 165 => 53 | 240 => 55 | 241 => 65 | 276 => 66 | 277 => 76 | n => n, fun | 70 => 75 | 3 => 3 | 0 => 0 | 4 => 4 | 9 => 9 | 20 => 20 | 72 => 77 | 37 => 70 | 164 => 97 | 5 => 5 | n => n, fun | n => n⟩
theorem Tryd.lays165 : Go.Proofs.Lays.n165 Tryd.prog Tryd.lays165_ren := {
  mixed := by kernel_rfl
  f165 := Tryd.func53.trans (congrArg some (by kernel_rfl))
  f240 := Tryd.func55.trans (congrArg some (by kernel_rfl))
  f241 := Tryd.func65.trans (congrArg some (by kernel_rfl))
  f276 := Tryd.func66.trans (congrArg some (by kernel_rfl))
  f277 := Tryd.func76.trans (congrArg some (by kernel_rfl))
  t0 := Tryd.underlying0
  a0 := Tryd.isAgg0
  z0 := Tryd.sizeOf0
  v0 := Tryd.zeroValue0
  t3 := Tryd.underlying3
  a3 := Tryd.isAgg3
  z3 := Tryd.sizeOf3
  v3 := Tryd.zeroValue3
  t4 := Tryd.underlying4
  a4 := Tryd.isAgg4
  z4 := Tryd.sizeOf4
  v4 := Tryd.zeroValue4
  t9 := Tryd.underlying9
  a9 := Tryd.isAgg9
  z9 := Tryd.sizeOf9
  v9 := Tryd.zeroValue9
  t20 := Tryd.underlying20
  a20 := Tryd.isAgg20
  z20 := Tryd.sizeOf20
  v20 := Tryd.zeroValue20
  t37 := Tryd.underlying70
  a37 := Tryd.isAgg70
  z37 := Tryd.sizeOf70
  v37 := Tryd.zeroValue70
  t70 := Tryd.underlying75
  a70 := Tryd.isAgg75
  z70 := Tryd.sizeOf75
  v70 := Tryd.zeroValue75
  t72 := Tryd.underlying77
  a72 := Tryd.isAgg77
  z72 := Tryd.sizeOf77
  v72 := Tryd.zeroValue77
  t164 := Tryd.underlying97
  a164 := Tryd.isAgg97
  z164 := Tryd.sizeOf97
  v164 := Tryd.zeroValue97 }
theorem Tryd.Builder_Extra_165 : Builder.Extra Tryd.prog Tryd.lays165_ren := {
  sizeBuilder := by kernel_rfl
  liesBuilder := by kernel_rfl
  t5 := Tryd.underlying5
  a5 := Tryd.isAgg5
  z5 := Tryd.sizeOf5
  v5 := Tryd.zeroValue5
  infoByte := by kernel_rfl
  cellsByte := by kernel_rfl
  sizeByte := by kernel_rfl
  neB5 := by decide }
open Go.RowKit in
/-- (*strings.Builder).Grow AT A BUILDER THAT HAS NOT BEEN WRITTEN ('var b strings.Builder; b.Grow(n)'): "Grow grows b's capacity, if necessary, to guarantee space for another n bytes.": it holds no byte behind it as before it. (LAID: no walk: one application.) -/
theorem Tryd.Builder_Grow_fresh (B b n : Nat) (w : World) (hB : B ≤ b) (hbk : w.heap[b]? = some (.cells #[.pointer none, .slice none 0 0] 77 (0, 0))) (hBw : B ≤ w.heap.size) (hn : n ≤ 281474976710656) :
    Calls Tryd.prog 53 #[.pointer (some ⟨b, 0, none⟩), .int .i64 n] w fun e w' => e = .returned (.tuple #[]) ∧ (Lib.BuilderAt 77 5 B b (.pointer (some ⟨b, 0, none⟩)) [] w' ∧ Below B w w') := Any.Builder_Grow_fresh Tryd.lays165 Tryd.Builder_Extra_165 B b n w hB hbk hBw hn
def Tryd.lays156_ren : Go.Shelf.Ren := ⟨fun | 156 => 37 | 165 => 53 | 166 => 39 | 169 => 40 | 240 => 55 | 241 => 65 | 276 => 66 | 277 => 76 | n => n, fun | 31 => 56 | 9 => 9 | 3 => 3 | 4 => 4 | 0 => 0 | 20 => 20 | 72 => 77 | 76 => 78 | 70 => 75 | 37 => 70 | 75 => 42 | 127 => 96 | 164 => 97 | 5 => 5 | 80 => 80 | n => n, fun | n => n⟩
theorem Tryd.lays156 : Go.Proofs.Lays.n156 Tryd.prog Tryd.lays156_ren := {
  mixed := by kernel_rfl
  f156 := Tryd.func37.trans (congrArg some (by kernel_rfl))
  f165 := Tryd.func53.trans (congrArg some (by kernel_rfl))
  f166 := Tryd.func39.trans (congrArg some (by kernel_rfl))
  f169 := Tryd.func40.trans (congrArg some (by kernel_rfl))
  f240 := Tryd.func55.trans (congrArg some (by kernel_rfl))
  f241 := Tryd.func65.trans (congrArg some (by kernel_rfl))
  f276 := Tryd.func66.trans (congrArg some (by kernel_rfl))
  f277 := Tryd.func76.trans (congrArg some (by kernel_rfl))
  t0 := Tryd.underlying0
  a0 := Tryd.isAgg0
  z0 := Tryd.sizeOf0
  v0 := Tryd.zeroValue0
  t3 := Tryd.underlying3
  a3 := Tryd.isAgg3
  z3 := Tryd.sizeOf3
  v3 := Tryd.zeroValue3
  t4 := Tryd.underlying4
  a4 := Tryd.isAgg4
  z4 := Tryd.sizeOf4
  v4 := Tryd.zeroValue4
  t9 := Tryd.underlying9
  a9 := Tryd.isAgg9
  z9 := Tryd.sizeOf9
  v9 := Tryd.zeroValue9
  t20 := Tryd.underlying20
  a20 := Tryd.isAgg20
  z20 := Tryd.sizeOf20
  v20 := Tryd.zeroValue20
  t31 := Tryd.underlying56
  a31 := Tryd.isAgg56
  z31 := Tryd.sizeOf56
  v31 := Tryd.zeroValue56
  t37 := Tryd.underlying70
  a37 := Tryd.isAgg70
  z37 := Tryd.sizeOf70
  v37 := Tryd.zeroValue70
  t70 := Tryd.underlying75
  a70 := Tryd.isAgg75
  z70 := Tryd.sizeOf75
  v70 := Tryd.zeroValue75
  t72 := Tryd.underlying77
  a72 := Tryd.isAgg77
  z72 := Tryd.sizeOf77
  v72 := Tryd.zeroValue77
  t75 := Tryd.underlying42
  a75 := Tryd.isAgg42
  z75 := Tryd.sizeOf42
  v75 := Tryd.zeroValue42
  t76 := Tryd.underlying78
  a76 := Tryd.isAgg78
  z76 := Tryd.sizeOf78
  v76 := Tryd.zeroValue78
  t127 := Tryd.underlying96
  a127 := Tryd.isAgg96
  z127 := Tryd.sizeOf96
  v127 := Tryd.zeroValue96
  t164 := Tryd.underlying97
  a164 := Tryd.isAgg97
  z164 := Tryd.sizeOf97
  v164 := Tryd.zeroValue97 }
theorem Tryd.Builder_Extra_156 : Builder.Extra Tryd.prog Tryd.lays156_ren := {
  sizeBuilder := by kernel_rfl
  liesBuilder := by kernel_rfl
  t5 := Tryd.underlying5
  a5 := Tryd.isAgg5
  z5 := Tryd.sizeOf5
  v5 := Tryd.zeroValue5
  infoByte := by kernel_rfl
  cellsByte := by kernel_rfl
  sizeByte := by kernel_rfl
  neB5 := by decide }
open Go.RowKit in
/-- No element: the empty string; the world is as it was. (Whatever the slice's address and capacity: a nil slice too.) (LAID: no walk: one application.) -/
theorem Tryd.strings_Join_none (a : Option Addr) (c : Nat) (sep : ByteArray) (w : World) :
    Calls Tryd.prog 37 #[.slice a 0 c, .string sep] w fun e w' => e = .returned (.string ⟨#[]⟩) ∧ w' = w := Any.strings_Join_none Tryd.lays156 Tryd.Builder_Extra_156 a c sep w
open Go.RowKit in
/-- strings.Join: "Join concatenates the elements of its first argument to create a single string. The separator string sep is placed between elements in the resulting string.": HOWEVER MANY ELEMENTS. Below the heap's end the world is as it was. (LAID: no walk: one application.) -/
theorem Tryd.strings_Join (bk o c : Nat) (xs : List ByteArray) (sep : ByteArray) (w : World) (hcells : ∀ (j : Nat) x, xs[j]? = some x → w.cell? ⟨bk, o + j, none⟩ = some (.string x)) (hbk : bk < w.heap.size) (hN : xs.length ≤ 140737488355328) (hcap : xs.length ≤ c) (hlen : (Lib.join (xs.map (·.data.toList)) sep.data.toList).length ≤ 140737488355328) :
    Calls Tryd.prog 37 #[.slice (some ⟨bk, o, none⟩) xs.length c, .string sep] w fun e w' => e = .returned (.string ⟨(Lib.join (xs.map (·.data.toList)) sep.data.toList).toArray⟩) ∧ Below w.heap.size w w' := Any.strings_Join Tryd.lays156 Tryd.Builder_Extra_156 bk o c xs sep w hcells hbk hN hcap hlen
end Go.Proofs

/-
The walks of Go functions in the logic AL: what each of them answers.
Conditions: those of each theorem.
-/
set_option linter.unusedVariables false
set_option linter.unusedSimpArgs false
namespace Go.Proofs.YtfpkefhjomeeeaaDoor
open Go.AL Go.NumSpec

set_option maxRecDepth 100000 in
set_option maxHeartbeats 4000000 in
/-- errors.as -/
theorem errors_as_code (c : Int) (ps : List (List UInt8)) (a b : Nat) (Y : AV) (F : St) : ACalls Tryd.prog 59 [chainV 29 109 c ps, .ifc 82 (.ptr b 0), rvAV (hv 82) a (.int .u64 150), .lit (ty 29)] ([(a, Ob.cells [.ptr b 0]), (b, Ob.cells [Y])] ++ F) (fun x st' => ∃ foot', (x = .bool true ∧ foot' = [(a, Ob.cells [.ptr b 0]), (b, Ob.cells [.int .i64 c])]) ∧ st' = foot' ++ F) := by
  refine ACalls_of (N := 62) Tryd.func59 (by kernel_rfl) rfl rfl rfl ?_
  refine AC_seq ?_
  refine AC_region ?_
  refine AL_step rfl rfl (S_box rfl (.tmp rfl)) ?_
  rintro _ _ ⟨b1, rfl, rfl⟩
  refine AL_p rfl rfl (S_assign rfl (AEv.const _)) ?_
  refine AL_nil ?_
  refine AC_block ?_
  refine AC_loop (G := List (List UInt8)) (fun g => True) (fun g => [(0, chainV 29 109 c g), (1, .ifc 82 (.ptr b 0)), (3, .lit (ty 29)), (6, .ptr b1 0)]) (fun g => ((b1, .cells [.lit (hv 82), .ptr a 0, .lit (.int .u64 150)]) :: ([(a, Ob.cells [.ptr b 0]), (b, Ob.cells [Y])] ++ F))) (fun g => g.length) (ps) (trivial) rfl ?_ ?_
  · exact (.cons rfl (Le.refl _) (.cons rfl (Le.refl _) (.cons rfl (Le.refl _) (.cons rfl (Le.refl _) .nil))))
  rintro g _
  try dsimp only
  refine AC_block ?_
  refine AC_seq ?_
  refine AC_seq ?_
  refine AC_region ?_
  refine AL_p rfl rfl (S_move rfl (.tmp rfl)) ?_
  refine AL_p rfl rfl ((show PStep _ _ _ _ _ (.lit (ty (typV 29 109 g))) from by cases g with | nil => exact S_typeOf rfl (.tmp rfl) x30 t27 | cons p0 ps0 => exact S_typeOf rfl (.tmp rfl) x30 t49)) ?_
  refine AL_p rfl rfl (S_move rfl (.tmp rfl)) ?_
  refine AL_p rfl rfl ((show PStep _ _ _ _ _ (.bool g.isEmpty) from by cases g with | nil => exact (by simp only [typV]; exact S_invL (ys := [.tmp 18]) (vals := [ty 29]) rfl (.tmp rfl) (AEvs.cons (.tmp rfl) AEvs.nil) (mAssign 29) x63 a2727) | cons p0 ps0 => exact (by simp only [typV]; exact S_invL (ys := [.tmp 18]) (vals := [ty 29]) rfl (.tmp rfl) (AEvs.cons (.tmp rfl) AEvs.nil) (mAssign 109) x63 a4927))) ?_
  refine AL_nil ?_
  refine AC_cond (.tmp rfl) (fun hb2 => ?_) (fun hb2 => ?_)
  · try simp only [zA, zO, zN, zM, zP, zQ, zD, zF, gd] at hb2
    obtain rfl : g = [] := by cases g with | nil => rfl | cons p1 ps1 => simp at hb2
    refine AC_seq ?_
    refine AC_region ?_
    refine AL_p rfl rfl (S_loadN (m := 3) 0 rfl (.tmp rfl) rfl (by kernel_rfl) (by first | exact Nat.le_of_ble_eq_true rfl | (simp; omega) | simp)) ?_
    refine AL_p rfl rfl (S_elemV rfl (.tmp rfl) (List.mem_cons_of_mem _ List.mem_cons_self) x32 (l48 a b)) ?_
    refine AL_p rfl rfl (S_move rfl (.tmp rfl)) ?_
    refine AL_step rfl rfl (S_valueOf rfl (.tmp rfl) x23 (fun w u hu => by rw [hu.lit_inv]; exact v27 c w)) ?_
    rintro _ _ ⟨d, rfl, rfl⟩
    refine AL_step rfl rfl (S_setV (n := 3) rfl (.tmp rfl) (.tmp rfl) rfl List.mem_cons_self x33 (fun w u old hu h1 h2 h3 => by rw [hu.lit_inv] at h1 ⊢; exact s27 b d _ old w (by simp [Value.cells]) rfl h1 h2 h3)) ?_
    rintro _ _ ⟨rfl, rfl⟩
    refine AL_nil ?_
    refine AC_seq ?_
    refine AC_region ?_
    refine AL_p rfl rfl (S_assign rfl (AEv.const _)) ?_
    refine AL_nil ?_
    refine AC_ret ?_
    refine ret_tmp ([(a, Ob.cells [.ptr b 0]), (b, Ob.cells [.int .i64 c])] ++ F) rfl rfl (Sub.l (List.Sublist.cons _ (List.Sublist.cons _ (List.Sublist.refl _)))) (Conv.refl (Sub.l (List.Sublist.cons _ (List.Sublist.cons _ (List.Sublist.refl _)))) _) ⟨_, ⟨rfl, rfl⟩, rfl⟩ (.inl rfl)
  try simp only [zA, zO, zN, zM, zP, zQ, zD, zF, gd] at hb2
  obtain ⟨p1, ps1, rfl⟩ : ∃ p1 ps1, g = p1 :: ps1 := by cases g with | nil => simp at hb2 | cons p1 ps1 => exact ⟨p1, ps1, rfl⟩
  refine AC_skip ?_
  refine AC_seq ?_
  refine AC_seq ?_
  refine AC_region ?_
  refine AL_p rfl rfl (S_move rfl (.tmp rfl)) ?_
  refine AL_p rfl rfl (S_assertNo (X := 0) rfl (.tmp rfl) Tryd.underlying125 (by kernel_rfl) (by kernel_rfl)) ?_
  refine AL_p rfl rfl (S_move rfl (.tmp rfl)) ?_
  refine AL_p rfl rfl (S_extract 0 rfl (.tmp rfl) rfl) ?_
  refine AL_p rfl rfl (S_extract 1 rfl (.tmp rfl) rfl) ?_
  refine AL_p rfl rfl (S_assign rfl (.tmp rfl)) ?_
  refine AL_p rfl rfl (S_assign rfl (.tmp rfl)) ?_
  refine AL_nil ?_
  refine AC_seq ?_
  refine AC_region ?_
  refine AL_p rfl rfl (S_move rfl (.tmp rfl)) ?_
  refine AL_p rfl rfl (S_move rfl (.tmp rfl)) ?_
  refine AL_g rfl rfl (.tmp rfl) rfl (fun hg3 => S_move rfl (.tmp rfl)) ?_
  refine AL_g rfl rfl (.tmp rfl) rfl (fun hg6 => S_move rfl (.tmp rfl)) ?_
  refine AL_g rfl rfl (.tmp rfl) rfl (fun hg9 => (show PStep _ _ _ _ _ (.bool false) from absurd (show gd false true = true by assumption) (by decide))) ?_
  refine AL_p rfl rfl (S_and rfl (.tmp rfl) (fun hp12 => (AEv.cond (.tmp rfl) (by first | assumption | exact gdT hp12 | exact gdF hp12 | exact gdAnd (by assumption) (gdT hp12) | exact gdAnd (by assumption) (gdF hp12))))) ?_
  refine AL_nil ?_
  refine AC_cond (.tmp rfl) (fun hb13 => ?_) (fun hb13 => ?_)
  · simp at hb13; done
  try simp only [zA, zO, zN, zM, zP, zQ, zD, zF, gd] at hb13
  refine AC_skip ?_
  refine AC_seq ?_
  refine AC_region ?_
  refine AL_p rfl rfl (S_move rfl (.tmp rfl)) ?_
  refine AL_nil ?_
  refine AC_block ?_
  refine AC_seq ?_
  refine AC_region ?_
  refine AL_p rfl rfl (S_assertYes rfl (.tmp rfl) Tryd.underlying128 (by kernel_rfl)) ?_
  refine AL_p rfl rfl (S_extract 1 rfl (.tmp rfl) rfl) ?_
  refine AL_p rfl rfl (S_extract 0 rfl (.tmp rfl) rfl) ?_
  refine AL_nil ?_
  refine AC_cond (.tmp rfl) (fun hb14 => ?_) (fun hb14 => ?_)
  · try simp only [zA, zO, zN, zM, zP, zQ, zD, zF, gd] at hb14
    refine AC_seq ?_
    refine AC_region ?_
    refine AL_p rfl rfl (S_assign rfl (.tmp rfl)) ?_
    refine AL_nil ?_
    refine AC_seq ?_
    refine AC_region ?_
    refine AL_p rfl rfl (S_move rfl (.tmp rfl)) ?_
    refine AL_step rfl rfl (S_invC rfl (.tmp rfl) mUnwrap (step_Unwrap_ok _ _ _)) ?_
    rintro _ _ ⟨rfl, rfl⟩
    refine AL_p rfl rfl (S_assign rfl (.tmp rfl)) ?_
    refine AL_nil ?_
    refine AC_seq ?_
    refine AC_region ?_
    refine AL_p rfl rfl (S_move rfl (.tmp rfl)) ?_
    refine AL_p rfl rfl (S_eqlE (chain_is 29 109 c ps1) rfl (.tmp rfl) (by kernel_rfl)) ?_
    refine AL_nil ?_
    refine AC_cond (.tmp rfl) (fun hb15 => ?_) (fun hb15 => ?_)
    · simp at hb15; done
    try simp only [zA, zO, zN, zM, zP, zQ, zD, zF, gd] at hb15
    refine AC_skip ?_
    refine ⟨ps1, trivial, by simp, rfl, (.cons rfl (Le.refl _) (.cons rfl (Le.refl _) (.cons rfl (Le.refl _) (.cons rfl (Le.refl _) .nil))))⟩
  simp at hb14; done

set_option maxRecDepth 100000 in
set_option maxHeartbeats 4000000 in
/-- errors.As -/
theorem errors_As_code (c : Int) (ps : List (List UInt8)) (b : Nat) (Y : AV) (F : St) (hF : (1, Ob.konst [ty 42]) ∈ F) : ACalls Tryd.prog 41 [chainV 29 109 c ps, .ifc 82 (.ptr b 0)] ([(b, .cells [Y])] ++ F) (fun x st' => ∃ foot', (x = .bool true ∧ foot' = [(b, .cells [.int .i64 c])]) ∧ st' = foot' ++ F) := by
  refine ACalls_of (N := 42) Tryd.func41 (by kernel_rfl) rfl rfl rfl ?_
  refine AC_seq ?_
  refine AC_region ?_
  refine AL_p rfl rfl (S_assign rfl (AEv.const _)) ?_
  refine AL_nil ?_
  refine AC_seq ?_
  refine AC_seq ?_
  refine AC_region ?_
  refine AL_p rfl rfl (S_move rfl (.tmp rfl)) ?_
  refine AL_p rfl rfl (S_eqlE (chain_is 29 109 c ps) rfl (.tmp rfl) (by kernel_rfl)) ?_
  refine AL_nil ?_
  refine AC_cond (.tmp rfl) (fun hb1 => ?_) (fun hb1 => ?_)
  · simp at hb1; done
  try simp only [zA, zO, zN, zM, zP, zQ, zD, zF, gd] at hb1
  refine AC_skip ?_
  refine AC_seq ?_
  refine AC_seq ?_
  refine AC_region ?_
  refine AL_p rfl rfl (S_move rfl (.tmp rfl)) ?_
  refine AL_p rfl rfl (S_eqlE (ifc_is 82 (.ptr b 0)) rfl (.tmp rfl) (by kernel_rfl)) ?_
  refine AL_nil ?_
  refine AC_cond (.tmp rfl) (fun hb2 => ?_) (fun hb2 => ?_)
  · simp at hb2; done
  try simp only [zA, zO, zN, zM, zP, zQ, zD, zF, gd] at hb2
  refine AC_skip ?_
  refine AC_seq ?_
  refine AC_region ?_
  refine AL_p rfl rfl (S_move rfl (.tmp rfl)) ?_
  refine AL_step rfl rfl (S_valueOf rfl (.tmp rfl) x23 (fun w u hu => by rw [hu.lit_inv]; exact v48 b w)) ?_
  rintro _ _ ⟨a, rfl, rfl⟩
  refine AL_step rfl rfl (S_alloc [.pointer none, .pointer none, .int .u64 0] rfl (by kernel_rfl)) ?_
  rintro _ _ ⟨b3, rfl, rfl⟩
  refine AL_step rfl rfl (S_storeN 0 rfl (.tmp rfl) (.tmp rfl) rfl (by first | exact Nat.le_of_ble_eq_true rfl | (simp; omega) | simp) (by first | rfl | simp [AV.one, Value.oneCell']) (by kernel_rfl)) ?_
  rintro _ _ ⟨rfl, rfl⟩
  refine AL_nil ?_
  refine AC_seq ?_
  refine AC_region ?_
  refine AL_p rfl rfl (S_loadN (m := 3) 0 rfl (.tmp rfl) rfl (by kernel_rfl) (by first | exact Nat.le_of_ble_eq_true rfl | (simp; omega) | simp)) ?_
  refine AL_p rfl rfl (S_rvP rfl (.tmp rfl) x24 (y48 a)) ?_
  refine AL_p rfl rfl (S_assign rfl (.tmp rfl)) ?_
  refine AL_nil ?_
  refine AC_seq ?_
  refine AC_seq ?_
  refine AC_region ?_
  refine AL_p rfl rfl (S_move rfl (.tmp rfl)) ?_
  refine AL_p rfl rfl (S_invL (ys := []) (vals := []) rfl (.tmp rfl) AEvs.nil (mKind 82) x52 k48) ?_
  refine AL_p rfl rfl (S_neq rfl (.tmp rfl) (AEv.const _)) ?_
  refine AL_p rfl rfl (S_move rfl (.tmp rfl)) ?_
  refine AL_gTp rfl rfl (.tmp rfl) rfl rfl (S_loadN (m := 3) 0 rfl (.tmp rfl) rfl (by kernel_rfl) (by first | exact Nat.le_of_ble_eq_true rfl | (simp; omega) | simp)) ?_
  refine AL_gTp rfl rfl (.tmp rfl) rfl rfl (S_isNilV rfl (.tmp rfl) (List.mem_cons_of_mem _ List.mem_cons_self) x25 (n48 a b)) ?_
  refine AL_p rfl rfl (S_or rfl (.tmp rfl) (fun hp4 => (.tmp rfl))) ?_
  refine AL_nil ?_
  refine AC_cond (.tmp rfl) (fun hb5 => ?_) (fun hb5 => ?_)
  · simp at hb5; done
  try simp only [zA, zO, zN, zM, zP, zQ, zD, zF, gd] at hb5
  refine AC_skip ?_
  refine AC_seq ?_
  refine AC_region ?_
  refine AL_p rfl rfl (S_move rfl (.tmp rfl)) ?_
  refine AL_p rfl rfl (S_invL (ys := []) (vals := []) rfl (.tmp rfl) AEvs.nil (mElem 82) x65 e48) ?_
  refine AL_p rfl rfl (S_assign rfl (.tmp rfl)) ?_
  refine AL_nil ?_
  refine AC_seq ?_
  refine AC_seq ?_
  refine AC_region ?_
  refine AL_p rfl rfl (S_move rfl (.tmp rfl)) ?_
  refine AL_p rfl rfl (S_invL (ys := []) (vals := []) rfl (.tmp rfl) AEvs.nil (mKind 29) x52 k27) ?_
  refine AL_p rfl rfl (S_neq rfl (.tmp rfl) (AEv.const _)) ?_
  refine AL_p rfl rfl (S_move rfl (.tmp rfl)) ?_
  refine AL_gTp rfl rfl (.tmp rfl) rfl rfl (S_move rfl (.tmp rfl)) ?_
  refine AL_gTp rfl rfl (.tmp rfl) rfl rfl (S_loadK rfl (AEv.global _) (List.mem_cons_of_mem _ (List.mem_cons_of_mem _ (List.mem_cons_of_mem _ hF))) rfl (by kernel_rfl)) ?_
  refine AL_gTp rfl rfl (.tmp rfl) rfl rfl (S_invL (ys := [.tmp 32]) (vals := [ty 42]) rfl (.tmp rfl) (AEvs.cons (.tmp rfl) AEvs.nil) (mImpl 29) x66 i27) ?_
  refine AL_gTp rfl rfl (.tmp rfl) rfl rfl (S_not rfl (.tmp rfl)) ?_
  refine AL_p rfl rfl (S_and rfl (.tmp rfl) (fun hp6 => (.tmp rfl))) ?_
  refine AL_nil ?_
  refine AC_cond (.tmp rfl) (fun hb7 => ?_) (fun hb7 => ?_)
  · simp at hb7; done
  try simp only [zA, zO, zN, zM, zP, zQ, zD, zF, gd] at hb7
  refine AC_skip ?_
  refine AC_seq ?_
  refine AC_region ?_
  refine AL_p rfl rfl (S_move rfl (.tmp rfl)) ?_
  refine AL_p rfl rfl (S_move rfl (.tmp rfl)) ?_
  refine AL_p rfl rfl (S_loadN (m := 3) 0 rfl (.tmp rfl) rfl (by kernel_rfl) (by first | exact Nat.le_of_ble_eq_true rfl | (simp; omega) | simp)) ?_
  refine AL_p rfl rfl (S_move rfl (.tmp rfl)) ?_
  refine AL_step rfl rfl (S_call rfl (AEvs.cons (.tmp rfl) (AEvs.cons (.tmp rfl) (AEvs.cons (.tmp rfl) (AEvs.cons (.tmp rfl) AEvs.nil)))) (ACalls.pre (foot := [(a, Ob.cells [.ptr b 0]), (b, Ob.cells [Y])]) (K := fun x foot' => x = .bool true ∧ foot' = [(a, Ob.cells [.ptr b 0]), (b, Ob.cells [.int .i64 c])]) (errors_as_code c ps a b Y) [(_, _)] F)) ?_
  rintro _ _ ⟨_, ⟨rfl, rfl⟩, rfl⟩
  refine AL_p rfl rfl (S_assign rfl (.tmp rfl)) ?_
  refine AL_nil ?_
  refine AC_ret ?_
  refine ret_tmp ([(b, Ob.cells [.int .i64 c])] ++ F) rfl rfl (Sub.l (List.Sublist.cons _ (List.Sublist.cons _ (List.Sublist.refl _)))) (Conv.refl (Sub.l (List.Sublist.cons _ (List.Sublist.cons _ (List.Sublist.refl _)))) _) ⟨_, ⟨rfl, rfl⟩, rfl⟩ (.inl rfl)

set_option maxRecDepth 100000 in
set_option maxHeartbeats 4000000 in
/-- errors.as -/
theorem errors_as_step (c : Int) (ps : List (List UInt8)) (a b : Nat) (Y : AV) (F : St) : ACalls Tryd.prog 59 [chainV 29 109 c ps, .ifc 110 (.ptr b 0), rvAV (hv 110) a (.int .u64 150), .lit (ty 109)] ([(a, Ob.cells [.ptr b 0]), (b, Ob.cells [Y])] ++ F) (fun x st' => ∃ foot', (x = .bool (!ps.isEmpty) ∧ foot' = [(a, Ob.cells [.ptr b 0]), (b, Ob.cells [stepV 29 109 (some (c, ps)) Y])]) ∧ st' = foot' ++ F) := by
  refine ACalls_of (N := 62) Tryd.func59 (by kernel_rfl) rfl rfl rfl ?_
  refine AC_seq ?_
  refine AC_region ?_
  refine AL_step rfl rfl (S_box rfl (.tmp rfl)) ?_
  rintro _ _ ⟨b1, rfl, rfl⟩
  refine AL_p rfl rfl (S_assign rfl (AEv.const _)) ?_
  refine AL_nil ?_
  refine AC_block ?_
  refine AC_loop (G := List (List UInt8)) (fun g => g = ps) (fun g => [(0, chainV 29 109 c g), (1, .ifc 110 (.ptr b 0)), (3, .lit (ty 109)), (6, .ptr b1 0)]) (fun g => ((b1, .cells [.lit (hv 110), .ptr a 0, .lit (.int .u64 150)]) :: ([(a, Ob.cells [.ptr b 0]), (b, Ob.cells [Y])] ++ F))) (fun g => g.length) (ps) (rfl) rfl ?_ ?_
  · exact (.cons rfl (Le.refl _) (.cons rfl (Le.refl _) (.cons rfl (Le.refl _) (.cons rfl (Le.refl _) .nil))))
  rintro g hg
  try dsimp only
  subst hg
  refine AC_block ?_
  refine AC_seq ?_
  refine AC_seq ?_
  refine AC_region ?_
  refine AL_p rfl rfl (S_move rfl (.tmp rfl)) ?_
  refine AL_p rfl rfl ((show PStep _ _ _ _ _ (.lit (ty (typV 29 109 g))) from by cases g with | nil => exact S_typeOf rfl (.tmp rfl) x30 t27 | cons p0 ps0 => exact S_typeOf rfl (.tmp rfl) x30 t49)) ?_
  refine AL_p rfl rfl (S_move rfl (.tmp rfl)) ?_
  refine AL_p rfl rfl ((show PStep _ _ _ _ _ (.bool (!g.isEmpty)) from by cases g with | nil => exact (by simp only [typV]; exact S_invL (ys := [.tmp 18]) (vals := [ty 109]) rfl (.tmp rfl) (AEvs.cons (.tmp rfl) AEvs.nil) (mAssign 29) x63 a2749) | cons p0 ps0 => exact (by simp only [typV]; exact S_invL (ys := [.tmp 18]) (vals := [ty 109]) rfl (.tmp rfl) (AEvs.cons (.tmp rfl) AEvs.nil) (mAssign 109) x63 a4949))) ?_
  refine AL_nil ?_
  refine AC_cond (.tmp rfl) (fun hb2 => ?_) (fun hb2 => ?_)
  · try simp only [zA, zO, zN, zM, zP, zQ, zD, zF, gd] at hb2
    obtain ⟨p1, ps1, rfl⟩ : ∃ p1 ps1, g = p1 :: ps1 := by cases g with | nil => simp at hb2 | cons p1 ps1 => exact ⟨p1, ps1, rfl⟩
    refine AC_seq ?_
    refine AC_region ?_
    refine AL_p rfl rfl (S_loadN (m := 3) 0 rfl (.tmp rfl) rfl (by kernel_rfl) (by first | exact Nat.le_of_ble_eq_true rfl | (simp; omega) | simp)) ?_
    refine AL_p rfl rfl (S_elemV rfl (.tmp rfl) (List.mem_cons_of_mem _ List.mem_cons_self) x32 (l52 a b)) ?_
    refine AL_p rfl rfl (S_move rfl (.tmp rfl)) ?_
    refine AL_step rfl rfl (S_valueOf rfl (.tmp rfl) x23 (fun w u hu => by obtain ⟨b', off, f, rfl, _⟩ := ip_inv hu; exact v49 _ w)) ?_
    rintro _ _ ⟨d, rfl, rfl⟩
    refine AL_step rfl rfl (S_setV (n := 3) rfl (.tmp rfl) (.tmp rfl) rfl List.mem_cons_self x33 (fun w u old hu h1 h2 h3 => by obtain ⟨b', off, f, rfl, _⟩ := ip_inv hu; exact s49 b d _ old w (by simp [Value.cells]) rfl h1 h2 h3)) ?_
    rintro _ _ ⟨rfl, rfl⟩
    refine AL_nil ?_
    refine AC_seq ?_
    refine AC_region ?_
    refine AL_p rfl rfl (S_assign rfl (AEv.const _)) ?_
    refine AL_nil ?_
    refine AC_ret ?_
    refine ret_tmp ([(a, Ob.cells [.ptr b 0]), (b, Ob.cells [.ip [.S p1, chainV 29 109 c ps1]])] ++ F) rfl rfl (Sub.l (List.Sublist.cons _ (List.Sublist.cons _ (List.Sublist.refl _)))) (Conv.refl (Sub.l (List.Sublist.cons _ (List.Sublist.cons _ (List.Sublist.refl _)))) _) ⟨_, ⟨rfl, rfl⟩, rfl⟩ (.inl rfl)
  try simp only [zA, zO, zN, zM, zP, zQ, zD, zF, gd] at hb2
  obtain rfl : g = [] := by cases g with | nil => rfl | cons p1 ps1 => simp at hb2
  refine AC_skip ?_
  refine AC_seq ?_
  refine AC_seq ?_
  refine AC_region ?_
  refine AL_p rfl rfl (S_move rfl (.tmp rfl)) ?_
  refine AL_p rfl rfl (S_assertNo (X := 0) rfl (.tmp rfl) Tryd.underlying125 (by kernel_rfl) (by kernel_rfl)) ?_
  refine AL_p rfl rfl (S_move rfl (.tmp rfl)) ?_
  refine AL_p rfl rfl (S_extract 0 rfl (.tmp rfl) rfl) ?_
  refine AL_p rfl rfl (S_extract 1 rfl (.tmp rfl) rfl) ?_
  refine AL_p rfl rfl (S_assign rfl (.tmp rfl)) ?_
  refine AL_p rfl rfl (S_assign rfl (.tmp rfl)) ?_
  refine AL_nil ?_
  refine AC_seq ?_
  refine AC_region ?_
  refine AL_p rfl rfl (S_move rfl (.tmp rfl)) ?_
  refine AL_p rfl rfl (S_move rfl (.tmp rfl)) ?_
  refine AL_g rfl rfl (.tmp rfl) rfl (fun hg3 => S_move rfl (.tmp rfl)) ?_
  refine AL_g rfl rfl (.tmp rfl) rfl (fun hg6 => S_move rfl (.tmp rfl)) ?_
  refine AL_g rfl rfl (.tmp rfl) rfl (fun hg9 => (show PStep _ _ _ _ _ (.bool false) from absurd (show gd false true = true by assumption) (by decide))) ?_
  refine AL_p rfl rfl (S_and rfl (.tmp rfl) (fun hp12 => (AEv.cond (.tmp rfl) (by first | assumption | exact gdT hp12 | exact gdF hp12 | exact gdAnd (by assumption) (gdT hp12) | exact gdAnd (by assumption) (gdF hp12))))) ?_
  refine AL_nil ?_
  refine AC_cond (.tmp rfl) (fun hb13 => ?_) (fun hb13 => ?_)
  · simp at hb13; done
  try simp only [zA, zO, zN, zM, zP, zQ, zD, zF, gd] at hb13
  refine AC_skip ?_
  refine AC_seq ?_
  refine AC_region ?_
  refine AL_p rfl rfl (S_move rfl (.tmp rfl)) ?_
  refine AL_nil ?_
  refine AC_block ?_
  refine AC_seq ?_
  refine AC_region ?_
  refine AL_p rfl rfl (S_assertNo (X := 0) rfl (.tmp rfl) Tryd.underlying128 (by kernel_rfl) (by kernel_rfl)) ?_
  refine AL_p rfl rfl (S_extract 1 rfl (.tmp rfl) rfl) ?_
  refine AL_p rfl rfl (S_extract 0 rfl (.tmp rfl) rfl) ?_
  refine AL_nil ?_
  refine AC_cond (.tmp rfl) (fun hb14 => ?_) (fun hb14 => ?_)
  · simp at hb14; done
  try simp only [zA, zO, zN, zM, zP, zQ, zD, zF, gd] at hb14
  refine AC_seq ?_
  refine AC_region ?_
  refine AL_p rfl rfl (S_assertNo (X := 0) rfl (.tmp rfl) Tryd.underlying130 (by kernel_rfl) (by kernel_rfl)) ?_
  refine AL_p rfl rfl (S_extract 1 rfl (.tmp rfl) rfl) ?_
  refine AL_p rfl rfl (S_extract 0 rfl (.tmp rfl) rfl) ?_
  refine AL_nil ?_
  refine AC_cond (.tmp rfl) (fun hb15 => ?_) (fun hb15 => ?_)
  · simp at hb15; done
  try simp only [zA, zO, zN, zM, zP, zQ, zD, zF, gd] at hb15
  refine AC_seq ?_
  refine AC_region ?_
  refine AL_p rfl rfl (S_assign rfl (.tmp rfl)) ?_
  refine AL_nil ?_
  refine AC_seq ?_
  refine AC_region ?_
  refine AL_p rfl rfl (S_assign rfl (AEv.const _)) ?_
  refine AL_nil ?_
  refine AC_ret ?_
  refine ret_tmp ([(a, Ob.cells [.ptr b 0]), (b, Ob.cells [Y])] ++ F) rfl rfl (Sub.l (List.Sublist.cons _ (List.Sublist.refl _))) (Conv.refl (Sub.l (List.Sublist.cons _ (List.Sublist.refl _))) _) ⟨_, ⟨rfl, rfl⟩, rfl⟩ (.inl rfl)

set_option maxRecDepth 100000 in
set_option maxHeartbeats 4000000 in
/-- errors.As -/
theorem errors_As_step (e : Er) (b : Nat) (Y : AV) (F : St) (hF : (1, Ob.konst [ty 42]) ∈ F) : ACalls Tryd.prog 41 [erV 29 109 e, .ifc 110 (.ptr b 0)] ([(b, .cells [Y])] ++ F) (fun x st' => ∃ foot', (x = .bool (stepB e) ∧ foot' = [(b, .cells [stepV 29 109 e Y])]) ∧ st' = foot' ++ F) := by
  refine ACalls_of (N := 42) Tryd.func41 (by kernel_rfl) rfl rfl rfl ?_
  refine AC_seq ?_
  refine AC_region ?_
  refine AL_p rfl rfl (S_assign rfl (AEv.const _)) ?_
  refine AL_nil ?_
  refine AC_seq ?_
  refine AC_seq ?_
  refine AC_region ?_
  refine AL_p rfl rfl (S_move rfl (.tmp rfl)) ?_
  refine AL_p rfl rfl (S_eqlE (er_is 29 109 e) rfl (.tmp rfl) (by kernel_rfl)) ?_
  refine AL_nil ?_
  refine AC_cond (.tmp rfl) (fun hb1 => ?_) (fun hb1 => ?_)
  · try simp only [zA, zO, zN, zM, zP, zQ, zD, zF, gd] at hb1
    obtain rfl : e = none := by cases e with | none => rfl | some x => simp at hb1
    refine AC_seq ?_
    refine AC_region ?_
    refine AL_p rfl rfl (S_assign rfl (AEv.const _)) ?_
    refine AL_nil ?_
    refine AC_ret ?_
    refine ret_tmp ([(b, Ob.cells [Y])] ++ F) rfl rfl (Sub.l (List.Sublist.refl _)) (Conv.refl (Sub.l (List.Sublist.refl _)) _) ⟨_, ⟨rfl, rfl⟩, rfl⟩ (.inl rfl)
  try simp only [zA, zO, zN, zM, zP, zQ, zD, zF, gd] at hb1
  obtain ⟨⟨c, ps⟩, rfl⟩ : ∃ x, e = some x := by cases e with | none => simp at hb1 | some x => exact ⟨x, rfl⟩
  refine AC_skip ?_
  refine AC_seq ?_
  refine AC_seq ?_
  refine AC_region ?_
  refine AL_p rfl rfl (S_move rfl (.tmp rfl)) ?_
  refine AL_p rfl rfl (S_eqlE (ifc_is 110 (.ptr b 0)) rfl (.tmp rfl) (by kernel_rfl)) ?_
  refine AL_nil ?_
  refine AC_cond (.tmp rfl) (fun hb2 => ?_) (fun hb2 => ?_)
  · simp at hb2; done
  try simp only [zA, zO, zN, zM, zP, zQ, zD, zF, gd] at hb2
  refine AC_skip ?_
  refine AC_seq ?_
  refine AC_region ?_
  refine AL_p rfl rfl (S_move rfl (.tmp rfl)) ?_
  refine AL_step rfl rfl (S_valueOf rfl (.tmp rfl) x23 (fun w u hu => by rw [hu.lit_inv]; exact v52 b w)) ?_
  rintro _ _ ⟨a, rfl, rfl⟩
  refine AL_step rfl rfl (S_alloc [.pointer none, .pointer none, .int .u64 0] rfl (by kernel_rfl)) ?_
  rintro _ _ ⟨b3, rfl, rfl⟩
  refine AL_step rfl rfl (S_storeN 0 rfl (.tmp rfl) (.tmp rfl) rfl (by first | exact Nat.le_of_ble_eq_true rfl | (simp; omega) | simp) (by first | rfl | simp [AV.one, Value.oneCell']) (by kernel_rfl)) ?_
  rintro _ _ ⟨rfl, rfl⟩
  refine AL_nil ?_
  refine AC_seq ?_
  refine AC_region ?_
  refine AL_p rfl rfl (S_loadN (m := 3) 0 rfl (.tmp rfl) rfl (by kernel_rfl) (by first | exact Nat.le_of_ble_eq_true rfl | (simp; omega) | simp)) ?_
  refine AL_p rfl rfl (S_rvP rfl (.tmp rfl) x24 (y52 a)) ?_
  refine AL_p rfl rfl (S_assign rfl (.tmp rfl)) ?_
  refine AL_nil ?_
  refine AC_seq ?_
  refine AC_seq ?_
  refine AC_region ?_
  refine AL_p rfl rfl (S_move rfl (.tmp rfl)) ?_
  refine AL_p rfl rfl (S_invL (ys := []) (vals := []) rfl (.tmp rfl) AEvs.nil (mKind 110) x52 k52) ?_
  refine AL_p rfl rfl (S_neq rfl (.tmp rfl) (AEv.const _)) ?_
  refine AL_p rfl rfl (S_move rfl (.tmp rfl)) ?_
  refine AL_gTp rfl rfl (.tmp rfl) rfl rfl (S_loadN (m := 3) 0 rfl (.tmp rfl) rfl (by kernel_rfl) (by first | exact Nat.le_of_ble_eq_true rfl | (simp; omega) | simp)) ?_
  refine AL_gTp rfl rfl (.tmp rfl) rfl rfl (S_isNilV rfl (.tmp rfl) (List.mem_cons_of_mem _ List.mem_cons_self) x25 (n52 a b)) ?_
  refine AL_p rfl rfl (S_or rfl (.tmp rfl) (fun hp4 => (.tmp rfl))) ?_
  refine AL_nil ?_
  refine AC_cond (.tmp rfl) (fun hb5 => ?_) (fun hb5 => ?_)
  · simp at hb5; done
  try simp only [zA, zO, zN, zM, zP, zQ, zD, zF, gd] at hb5
  refine AC_skip ?_
  refine AC_seq ?_
  refine AC_region ?_
  refine AL_p rfl rfl (S_move rfl (.tmp rfl)) ?_
  refine AL_p rfl rfl (S_invL (ys := []) (vals := []) rfl (.tmp rfl) AEvs.nil (mElem 110) x65 e52) ?_
  refine AL_p rfl rfl (S_assign rfl (.tmp rfl)) ?_
  refine AL_nil ?_
  refine AC_seq ?_
  refine AC_seq ?_
  refine AC_region ?_
  refine AL_p rfl rfl (S_move rfl (.tmp rfl)) ?_
  refine AL_p rfl rfl (S_invL (ys := []) (vals := []) rfl (.tmp rfl) AEvs.nil (mKind 109) x52 k49) ?_
  refine AL_p rfl rfl (S_neq rfl (.tmp rfl) (AEv.const _)) ?_
  refine AL_p rfl rfl (S_move rfl (.tmp rfl)) ?_
  refine AL_gTp rfl rfl (.tmp rfl) rfl rfl (S_move rfl (.tmp rfl)) ?_
  refine AL_gTp rfl rfl (.tmp rfl) rfl rfl (S_loadK rfl (AEv.global _) (List.mem_cons_of_mem _ (List.mem_cons_of_mem _ (List.mem_cons_of_mem _ hF))) rfl (by kernel_rfl)) ?_
  refine AL_gTp rfl rfl (.tmp rfl) rfl rfl (S_invL (ys := [.tmp 32]) (vals := [ty 42]) rfl (.tmp rfl) (AEvs.cons (.tmp rfl) AEvs.nil) (mImpl 109) x66 i49) ?_
  refine AL_gTp rfl rfl (.tmp rfl) rfl rfl (S_not rfl (.tmp rfl)) ?_
  refine AL_p rfl rfl (S_and rfl (.tmp rfl) (fun hp6 => (.tmp rfl))) ?_
  refine AL_nil ?_
  refine AC_cond (.tmp rfl) (fun hb7 => ?_) (fun hb7 => ?_)
  · simp at hb7; done
  try simp only [zA, zO, zN, zM, zP, zQ, zD, zF, gd] at hb7
  refine AC_skip ?_
  refine AC_seq ?_
  refine AC_region ?_
  refine AL_p rfl rfl (S_move rfl (.tmp rfl)) ?_
  refine AL_p rfl rfl (S_move rfl (.tmp rfl)) ?_
  refine AL_p rfl rfl (S_loadN (m := 3) 0 rfl (.tmp rfl) rfl (by kernel_rfl) (by first | exact Nat.le_of_ble_eq_true rfl | (simp; omega) | simp)) ?_
  refine AL_p rfl rfl (S_move rfl (.tmp rfl)) ?_
  refine AL_step rfl rfl (S_call rfl (AEvs.cons (.tmp rfl) (AEvs.cons (.tmp rfl) (AEvs.cons (.tmp rfl) (AEvs.cons (.tmp rfl) AEvs.nil)))) (ACalls.pre (foot := [(a, Ob.cells [.ptr b 0]), (b, Ob.cells [Y])]) (K := fun x foot' => x = .bool (!ps.isEmpty) ∧ foot' = [(a, Ob.cells [.ptr b 0]), (b, Ob.cells [stepV 29 109 (some (c, ps)) Y])]) (errors_as_step c ps a b Y) [(_, _)] F)) ?_
  rintro _ _ ⟨_, ⟨rfl, rfl⟩, rfl⟩
  refine AL_p rfl rfl (S_assign rfl (.tmp rfl)) ?_
  refine AL_nil ?_
  refine AC_ret ?_
  refine ret_tmp ([(b, Ob.cells [stepV 29 109 (some (c, ps)) Y])] ++ F) rfl rfl (Sub.l (List.Sublist.cons _ (List.Sublist.cons _ (List.Sublist.refl _)))) (Conv.refl (Sub.l (List.Sublist.cons _ (List.Sublist.cons _ (List.Sublist.refl _)))) _) ⟨_, ⟨by cases ps <;> rfl, rfl⟩, rfl⟩ (.inl rfl)

set_option maxRecDepth 100000 in
/-- provost/fail.Code -/
theorem fail_Code_ok (e : Er) : GCalls Tryd.prog tabsE 20 [erV 29 109 e] (.int .i64 (erCode e)) := by
  intro st hG
  refine ACalls_of (N := 10) Tryd.func20 (by kernel_rfl) rfl rfl rfl ?_
  refine AC_seq ?_
  refine AC_region ?_
  refine AL_p rfl rfl (S_assign rfl (AEv.const _)) ?_
  refine AL_nil ?_
  refine AC_seq ?_
  refine AC_seq ?_
  refine AC_region ?_
  refine AL_p rfl rfl (S_move rfl (.tmp rfl)) ?_
  refine AL_p rfl rfl (S_eqlE (er_is 29 109 e) rfl (.tmp rfl) (by kernel_rfl)) ?_
  refine AL_nil ?_
  refine AC_cond (.tmp rfl) (fun hb1 => ?_) (fun hb1 => ?_)
  · try simp only [zA, zO, zN, zM, zP, zQ, zD, zF, gd] at hb1
    obtain rfl : e = none := by cases e with | none => rfl | some x => simp at hb1
    refine AC_seq ?_
    refine AC_region ?_
    refine AL_p rfl rfl (S_assign rfl (AEv.const _)) ?_
    refine AL_nil ?_
    refine AC_ret ?_
    refine ret_tmp st rfl rfl (Sub.l (List.Sublist.refl _)) (Conv.refl (Sub.l (List.Sublist.refl _)) _) ⟨rfl, rfl⟩ (.inl rfl)
  try simp only [zA, zO, zN, zM, zP, zQ, zD, zF, gd] at hb1
  obtain ⟨⟨c, ps⟩, rfl⟩ : ∃ x, e = some x := by cases e with | none => simp at hb1 | some x => exact ⟨x, rfl⟩
  refine AC_skip ?_
  refine AC_seq ?_
  refine AC_region ?_
  refine AL_step rfl rfl (S_alloc [.int .i64 0] rfl (by kernel_rfl)) ?_
  rintro _ _ ⟨b2, rfl, rfl⟩
  refine AL_nil ?_
  refine AC_seq ?_
  refine AC_seq ?_
  refine AC_region ?_
  refine AL_p rfl rfl (S_move rfl (.tmp rfl)) ?_
  refine AL_p rfl rfl (S_ifc (T2 := 0) rfl (.tmp rfl) (by kernel_rfl)) ?_
  refine AL_step rfl rfl (S_call rfl (AEvs.cons (.tmp rfl) (AEvs.cons (.tmp rfl) AEvs.nil)) (errors_As_code c ps _ _ st (hG _ tab_err))) ?_
  rintro _ _ ⟨_, ⟨rfl, rfl⟩, rfl⟩
  refine AL_nil ?_
  refine AC_cond (.tmp rfl) (fun hb3 => ?_) (fun hb3 => ?_)
  · try simp only [zA, zO, zN, zM, zP, zQ, zD, zF, gd] at hb3
    refine AC_seq ?_
    refine AC_region ?_
    refine AL_p rfl rfl (S_load 0 rfl (.tmp rfl) rfl rfl (by kernel_rfl)) ?_
    refine AL_p rfl rfl (S_assign rfl (.tmp rfl)) ?_
    refine AL_nil ?_
    refine AC_ret ?_
    refine ret_tmp st rfl rfl (Sub.l (List.Sublist.cons _ (List.Sublist.refl _))) (Conv.refl (Sub.l (List.Sublist.cons _ (List.Sublist.refl _))) _) ⟨rfl, rfl⟩ (.inl rfl)
  simp at hb3; done

set_option maxRecDepth 100000 in
/-- provost/fail.Path -/
theorem fail_Path_ok (e : Er) (he : (erPath e).length ≤ 1000000) : GCalls Tryd.prog tabsE 42 [erV 29 109 e] (.sl (strsV (erPath e))) := by
  intro st hG
  refine ACalls_of (N := 20) Tryd.func42 (by kernel_rfl) rfl rfl rfl ?_
  refine AC_seq ?_
  refine AC_region ?_
  refine AL_p rfl rfl (S_assign rfl (AEv.const _)) ?_
  refine AL_nil ?_
  refine AC_seq ?_
  refine AC_region ?_
  refine AL_p rfl rfl (S_assign rfl (AEv.const _)) ?_
  refine AL_nil ?_
  refine AC_seq ?_
  refine AC_region ?_
  refine AL_step rfl rfl (S_alloc [.pointer none] rfl (by kernel_rfl)) ?_
  rintro _ _ ⟨b1, rfl, rfl⟩
  refine AL_nil ?_
  refine AC_seq ?_
  refine AC_block ?_
  refine AC_loop (G := Er × List (List UInt8) × Own × AV) (fun g => erPath e = g.2.1 ++ erPath g.1 ∧ g.2.2.1.ok (strsV g.2.1)) (fun g => [(0, erV 29 109 g.1), (3, ownAV g.2.2.1 1 (strsV g.2.1)), (4, .ptr b1 0)]) (fun g => (b1, .cells [g.2.2.2]) :: (ownSt g.2.2.1 9 1 (strsV g.2.1) ++ st)) (fun g => (erPath g.1).length) ((e, [], .nil, .lit (.pointer none))) (⟨rfl, rfl⟩) rfl ?_ ?_
  · exact .cons rfl (Le.refl _) (.cons rfl (Le.refl _) (.cons rfl (Le.refl _) .nil))
  rintro ⟨e1, done, p, Y⟩ ⟨hpath, hp⟩
  try dsimp only
  dsimp only at hpath hp
  refine AC_seq ?_
  refine AC_seq ?_
  refine AC_region ?_
  refine AL_p rfl rfl (S_move rfl (.tmp rfl)) ?_
  refine AL_p rfl rfl (S_ifc (T2 := 0) rfl (.tmp rfl) (by kernel_rfl)) ?_
  refine AL_step rfl rfl (S_call rfl (AEvs.cons (.tmp rfl) (AEvs.cons (.tmp rfl) AEvs.nil)) (errors_As_step e1 b1 Y (ownSt p 9 1 (strsV done) ++ st) (List.mem_append_right _ (hG _ tab_err)))) ?_
  rintro _ _ ⟨_, ⟨rfl, rfl⟩, rfl⟩
  refine AL_nil ?_
  refine AC_cond (.tmp rfl) (fun hb2 => ?_) (fun hb2 => ?_)
  · try simp only [zA, zO, zN, zM, zP, zQ, zD, zF, gd] at hb2
    obtain ⟨c1, p1, ps1, rfl⟩ : ∃ c1 p1 ps1, e1 = some (c1, p1 :: ps1) := by
      rcases e1 with _ | ⟨c1, _ | ⟨p1, ps1⟩⟩
      · simp [stepB] at hb2
      · simp [stepB] at hb2
      · exact ⟨c1, p1, ps1, rfl⟩
    have hlen : (strsV done).length = done.length := strsV_len done
    have hle := congrArg List.length hpath
    rw [List.length_append] at hle
    have hsd : strsV (done ++ [p1]) = strsV done ++ [.S p1] := by simp [strsV]
    refine AC_skip ?_
    refine AC_block ?_
    refine AC_seq ?_
    refine AC_region ?_
    refine AL_p rfl rfl (S_move rfl (.tmp rfl)) ?_
    refine AL_p rfl rfl (S_load 0 rfl (.tmp rfl) rfl rfl (by kernel_rfl)) ?_
    refine AL_p rfl rfl (S_nilCheckP rfl (.tmp rfl)) ?_
    refine AL_p rfl rfl (S_fieldP 0 rfl (.tmp rfl) (by kernel_rfl)) ?_
    refine AL_p rfl rfl (S_loadP rfl (.tmp rfl) rfl (by kernel_rfl)) ?_
    refine AL_p rfl rfl (S_buildSlice (e := 9) 1 rfl (AEvs.cons (.tmp rfl) AEvs.nil) rfl (by kernel_rfl) (by kernel_rfl) (by simp [AV.flat, AV.one, AV.cells, Value.oneCell']) (by decide) (by decide) (by decide)) ?_
    refine AL_step rfl rfl (S_appendOwn (e := 9) (size := 1) (bytes := 16) (p := p) (xs := strsV done) [_] st rfl (.tmp rfl) (.tmp rfl) rfl hp (by kernel_rfl) (by simp) (fun x hx => by obtain ⟨q, _, rfl⟩ := List.mem_map.1 hx; rfl) (by simp [AV.cells, AV.one, Value.oneCell']) (by simp only [List.length_singleton]; omega) (by simp only [List.length_singleton]; omega)) ?_
    rintro _ _ ⟨b9, k9, cap9, hc9, rfl, rfl⟩
    refine AL_p rfl rfl (S_assign rfl (.tmp rfl)) ?_
    refine AL_nil ?_
    refine AC_region ?_
    refine AL_p rfl rfl (S_load 0 rfl (.tmp rfl) rfl rfl (by kernel_rfl)) ?_
    refine AL_p rfl rfl (S_nilCheckP rfl (.tmp rfl)) ?_
    refine AL_p rfl rfl (S_fieldP 1 rfl (.tmp rfl) (by kernel_rfl)) ?_
    refine AL_p rfl rfl (S_loadP rfl (.tmp rfl) rfl (by kernel_rfl)) ?_
    refine AL_p rfl rfl (S_assign rfl (.tmp rfl)) ?_
    refine AL_nil ?_
    refine ⟨(some (c1, ps1), done ++ [p1], .row b9 k9 cap9, _), ⟨by dsimp only; rw [hpath]; simp [erPath], by dsimp only; rw [hsd]; exact hc9⟩, by simp [erPath], by dsimp only; rw [hsd]; rfl, .cons rfl (Le.refl _) (.cons rfl (Le.of_eq (by dsimp only; rw [hsd])) (.cons rfl (Le.refl _) .nil))⟩
  try simp only [zA, zO, zN, zM, zP, zQ, zD, zF, gd] at hb2
  have hend : erPath e1 = [] := by
    rcases e1 with _ | ⟨c1, _ | ⟨p1, ps1⟩⟩
    · rfl
    · rfl
    · simp [stepB] at hb2
  rw [hend, List.append_nil] at hpath
  refine AC_exit ?_
  refine AC_seq ?_
  refine AC_region ?_
  refine AL_p rfl rfl (S_move rfl (.tmp rfl)) ?_
  refine AL_p rfl rfl (S_assign rfl (.tmp rfl)) ?_
  refine AL_nil ?_
  refine AC_ret ?_
  refine ret_tmp st rfl rfl (Sub.l (List.Sublist.cons _ (List.sublist_append_right _ _))) (Conv.le (Sub.l (List.Sublist.cons _ (List.sublist_append_right _ _))) (Le_own hp)) ⟨by rw [hpath], rfl⟩ (.inl rfl)

theorem join_ok (ls : List (List UInt8)) (sep : List UInt8) (hN : ls.length ≤ 140737488355328) (hlen : (Lib.join ls sep).length ≤ 140737488355328) : PCalls Tryd.prog 37 [.sl (ls.map fun l => .S l), .S sep] (.S (Lib.join ls sep)) :=
  PCalls_join ⟨Tryd.f37, _, Tryd.func37, by kernel_rfl, rfl⟩ Tryd.strings_Join_none Tryd.strings_Join ls sep hN hlen

set_option maxRecDepth 100000 in
/-- provost/fail.Text -/
theorem fail_Text_ok (e : Er) (he : (erPath e).length ≤ 1000000) (hj : (Lib.join (erPath e) [46]).length ≤ 140737488355328) : GCalls Tryd.prog tabsE 21 [erV 29 109 e] (.S (Lib.join (erPath e) [46])) := by
  intro st hG
  refine ACalls_of (N := 6) Tryd.func21 (by kernel_rfl) rfl rfl rfl ?_
  refine AC_seq ?_
  refine AC_region ?_
  refine AL_p rfl rfl (S_assign rfl (AEv.S _)) ?_
  refine AL_nil ?_
  refine AC_seq ?_
  refine AC_region ?_
  refine AL_p rfl rfl (S_move rfl (.tmp rfl)) ?_
  refine AL_p rfl rfl (S_gcall rfl (AEvs.cons (.tmp rfl) AEvs.nil) ((fail_Path_ok e he) _ (fun p hp => by first | exact hG p hp | (simp [hG p hp]; done)))) ?_
  refine AL_p rfl rfl (S_pcall rfl (AEvs.cons (.tmp rfl) (AEvs.cons (AEv.S _) AEvs.nil)) (join_ok (erPath e) [46] (by omega) hj)) ?_
  refine AL_p rfl rfl (S_assign rfl (.tmp rfl)) ?_
  refine AL_nil ?_
  refine AC_ret ?_
  refine ret_tmp st rfl rfl (Sub.l (List.Sublist.refl _)) (Conv.refl (Sub.l (List.Sublist.refl _)) _) ⟨by first | rfl | (simp; done), rfl⟩ (.inl rfl)

end Go.Proofs.YtfpkefhjomeeeaaDoor

/-
The walks of Go functions in the logic AL: what each of them answers.
Conditions: those of each theorem.
-/
set_option linter.unusedVariables false
set_option linter.unusedSimpArgs false
namespace Go.Proofs.YtfpkefhjomeeeaaDoor
open Go.AL Go.NumSpec

theorem x_count : ExtOf Tryd.prog 72 Extern.BytealgCount.count := ⟨_, Tryd.func72, by kernel_rfl, by kernel_rfl, by kernel_rfl, by kernel_rfl⟩

set_option maxRecDepth 100000 in
/-- strings.Index -/
theorem strings_Index_ok (s : List UInt8) (c : UInt8) : PCalls Tryd.prog 62 [.S s, .S [c]] (.int .i64 (idxV s c)) := by
  intro st
  refine ACalls_of (N := 8) Tryd.func62 (by kernel_rfl) rfl rfl rfl ?_
  refine AC_seq ?_
  refine AC_region ?_
  refine AL_p rfl rfl (S_assign rfl (AEv.const _)) ?_
  refine AL_nil ?_
  refine AC_seq ?_
  refine AC_region ?_
  refine AL_p rfl rfl (S_move rfl (.tmp rfl)) ?_
  refine AL_p rfl rfl (S_move rfl (.tmp rfl)) ?_
  refine AL_p rfl rfl (S_pcall rfl (AEvs.cons (.tmp rfl) (AEvs.cons (.tmp rfl) AEvs.nil)) (lite_Index_ok s c)) ?_
  refine AL_p rfl rfl (S_assign rfl (.tmp rfl)) ?_
  refine AL_nil ?_
  refine AC_ret ?_
  refine ret_tmp st rfl rfl (Sub.l (List.Sublist.refl _)) (Conv.refl (Sub.l (List.Sublist.refl _)) _) ⟨rfl, rfl⟩ (.inl rfl)

set_option maxRecDepth 100000 in
/-- strings.Count -/
theorem strings_Count_ok (s : List UInt8) (c : UInt8) : PCalls Tryd.prog 61 [.S s, .S [c]] (.int .i64 ((s.count c : Nat) : Int)) := by
  intro st
  refine ACalls_of (N := 34) Tryd.func61 (by kernel_rfl) rfl rfl rfl ?_
  refine AC_seq ?_
  refine AC_region ?_
  refine AL_p rfl rfl (S_assign rfl (AEv.const _)) ?_
  refine AL_nil ?_
  refine AC_seq ?_
  refine AC_seq ?_
  refine AC_region ?_
  refine AL_p rfl rfl (S_move rfl (.tmp rfl)) ?_
  refine AL_p rfl rfl (S_lenS (ts := #[]) rfl (.tmp rfl) (by kernel_rfl)) ?_
  refine AL_p rfl rfl (S_eql rfl (.tmp rfl) (AEv.const _)) ?_
  refine AL_nil ?_
  refine AC_cond (.tmp rfl) (fun hb1 => ?_) (fun hb1 => ?_)
  · simp at hb1; done
  try simp only [zA, zO, zN, zM, zP, zQ, zD, zF, gd] at hb1
  refine AC_skip ?_
  refine AC_seq ?_
  refine AC_seq ?_
  refine AC_region ?_
  refine AL_p rfl rfl (S_move rfl (.tmp rfl)) ?_
  refine AL_p rfl rfl (S_lenS (ts := #[]) rfl (.tmp rfl) (by kernel_rfl)) ?_
  refine AL_p rfl rfl (S_eql rfl (.tmp rfl) (AEv.const _)) ?_
  refine AL_nil ?_
  refine AC_cond (.tmp rfl) (fun hb2 => ?_) (fun hb2 => ?_)
  · try simp only [zA, zO, zN, zM, zP, zQ, zD, zF, gd] at hb2
    refine AC_seq ?_
    refine AC_region ?_
    refine AL_p rfl rfl (S_move rfl (.tmp rfl)) ?_
    refine AL_p rfl rfl (S_move rfl (.tmp rfl)) ?_
    refine AL_p rfl rfl (S_index rfl (.tmp rfl) (AEv.const _) (by kernel_rfl) (by omega) (by omega)) ?_
    refine AL_p rfl rfl (S_extL (vals := [.string ⟨s.toArray⟩, .int .u8 (c.toNat : Int)]) rfl (AEvs.cons (.tmp rfl) (AEvs.cons (.tmp rfl) AEvs.nil)) x_count (fun w => run_count w)) ?_
    refine AL_p rfl rfl (S_assign rfl (.tmp rfl)) ?_
    refine AL_nil ?_
    refine AC_ret ?_
    refine ret_tmp st rfl rfl (Sub.l (List.Sublist.refl _)) (Conv.refl (Sub.l (List.Sublist.refl _)) _) ⟨rfl, rfl⟩ (.inl rfl)
  simp at hb2; done

set_option maxRecDepth 100000 in
/-- strings.genSplit -/
theorem strings_genSplit_ok (s : List UInt8) (c : UInt8) (hs : s.length ≤ 1000000) : PCalls Tryd.prog 45 [.S s, .S [c], .int .i64 0, .int .i64 (-1)] (.sl (strsV (partsB c s))) := by
  intro st
  refine ACalls_of (N := 66) Tryd.func45 (by kernel_rfl) rfl rfl rfl ?_
  have hcl : s.count c ≤ s.length := List.count_le_length
  have hc1 : ([c] : List UInt8).length = 1 := rfl
  refine AC_seq ?_
  refine AC_region ?_
  refine AL_p rfl rfl (S_assign rfl (AEv.const _)) ?_
  refine AL_nil ?_
  refine AC_seq ?_
  refine AC_seq ?_
  refine AC_region ?_
  refine AL_p rfl rfl (S_move rfl (.tmp rfl)) ?_
  refine AL_p rfl rfl (S_eql rfl (.tmp rfl) (AEv.const _)) ?_
  refine AL_nil ?_
  refine AC_cond (.tmp rfl) (fun hb1 => ?_) (fun hb1 => ?_)
  · simp at hb1; done
  try simp only [zA, zO, zN, zM, zP, zQ, zD, zF, gd] at hb1
  refine AC_skip ?_
  refine AC_seq ?_
  refine AC_seq ?_
  refine AC_region ?_
  refine AL_p rfl rfl (S_move rfl (.tmp rfl)) ?_
  refine AL_p rfl rfl (S_eqS rfl (.tmp rfl) (AEv.S _)) ?_
  refine AL_nil ?_
  refine AC_cond (.tmp rfl) (fun hb2 => ?_) (fun hb2 => ?_)
  · simp at hb2; done
  try simp only [zA, zO, zN, zM, zP, zQ, zD, zF, gd] at hb2
  refine AC_skip ?_
  refine AC_joinK (G := Unit) [(0, _), (1, _), (2, _), (8, _)] (fun _ => True) (fun _ => [(3, .int .i64 (((s.count c + 1) : Nat) : Int))]) (fun _ => st) (.cons rfl (Le.refl _) (.cons rfl (Le.refl _) (.cons rfl (Le.refl _) (.cons rfl (Le.refl _) .nil)))) ?_ ?_
  · refine AC_seq ?_
    refine AC_region ?_
    refine AL_p rfl rfl (S_move rfl (.tmp rfl)) ?_
    refine AL_p rfl rfl (S_lss rfl (.tmp rfl) (AEv.const _)) ?_
    refine AL_nil ?_
    refine AC_cond (.tmp rfl) (fun hb3 => ?_) (fun hb3 => ?_)
    · try simp only [zA, zO, zN, zM, zP, zQ, zD, zF, gd] at hb3
      refine AC_region ?_
      refine AL_p rfl rfl (S_move rfl (.tmp rfl)) ?_
      refine AL_p rfl rfl (S_move rfl (.tmp rfl)) ?_
      refine AL_p rfl rfl (S_pcall rfl (AEvs.cons (.tmp rfl) (AEvs.cons (.tmp rfl) AEvs.nil)) (strings_Count_ok s c)) ?_
      refine AL_p rfl rfl (S_addI rfl (.tmp rfl) (AEv.const _) (by omega) (by omega)) ?_
      refine AL_p rfl rfl (S_assign rfl (.tmp rfl)) ?_
      refine AL_nil ?_
      exact ⟨(), trivial, Sub.l (List.Sublist.refl _), (.cons rfl (by first | exact Le.refl _ | exact Le.nils | exact Le.row _ _ _ _ | exact Le.of_eq (by first | rfl | (simp; done) | (push_cast; rfl) | (simp; omega))) .nil), (.cons rfl (Le.refl _) (.cons rfl (Le.refl _) (.cons rfl (Le.refl _) (.cons rfl (Le.refl _) .nil))))⟩
    simp at hb3; done
  rintro _ _
  try dsimp only
  simp only [List.cons_append, List.nil_append]
  refine AC_seq ?_
  refine AC_region ?_
  refine AL_p rfl rfl (S_move rfl (.tmp rfl)) ?_
  refine AL_p rfl rfl (S_move rfl (.tmp rfl)) ?_
  refine AL_p rfl rfl (S_lenS (ts := #[]) rfl (.tmp rfl) (by kernel_rfl)) ?_
  refine AL_p rfl rfl (S_addI rfl (.tmp rfl) (AEv.const _) (by omega) (by omega)) ?_
  refine AL_p rfl rfl ((S_min rfl (.tmp rfl) (.tmp rfl)).ofV (V' := .int .i64 (((s.count c + 1) : Nat) : Int)) (congrArg (AV.int .i64) (by omega))) ?_
  refine AL_p rfl rfl (S_assign rfl (.tmp rfl)) ?_
  refine AL_nil ?_
  refine AC_seq ?_
  refine AC_region ?_
  refine AL_p rfl rfl (S_move rfl (.tmp rfl)) ?_
  refine AL_step rfl rfl (S_make1 (e := 9) (bytes := 16) (n := (s.count c + 1)) (z := .string ⟨#[]⟩) rfl (.tmp rfl) (by kernel_rfl) (by kernel_rfl) rfl (by omega) (by omega)) ?_
  rintro _ _ ⟨b9, rfl, rfl⟩
  refine AL_p rfl rfl (S_assign rfl (.tmp rfl)) ?_
  refine AL_nil ?_
  refine AC_seq ?_
  refine AC_region ?_
  refine AL_p rfl rfl (S_move rfl (.tmp rfl)) ?_
  refine AL_p rfl rfl (S_subI rfl (.tmp rfl) (AEv.const _) (by omega) (by omega)) ?_
  refine AL_p rfl rfl (S_assign rfl (.tmp rfl)) ?_
  refine AL_nil ?_
  refine AC_seq ?_
  refine AC_region ?_
  refine AL_p rfl rfl (S_assign rfl (AEv.const _)) ?_
  refine AL_nil ?_
  refine AC_seq ?_
  refine AC_block ?_
  refine AC_loopK (G := List (List UInt8) × List UInt8) [(1, _), (2, _), (3, _), (8, _), (9, _)] (fun g => partsB c s = g.1 ++ partsB c g.2 ∧ g.2.length ≤ s.length) (fun g => [(0, .S g.2), (10, .int .i64 ((g.1.length : Nat) : Int))]) (fun g => (b9, .cells (filling (s.count c + 1) g.1)) :: st) (fun g => g.2.length) (([], s)) (⟨rfl, Nat.le_refl _⟩) (by rw [filling_zero]; exact Sub.l (List.Sublist.refl _)) (.cons rfl (Le.refl _) (.cons rfl (Le.refl _) (.cons rfl (Le.refl _) (.cons rfl (Le.refl _) (.cons rfl (Le.refl _) .nil))))) (.cons rfl (by first | exact Le.refl _ | exact Le.nils | exact Le.row _ _ _ _ | exact Le.of_eq (by first | rfl | (simp; done) | (push_cast; rfl) | (simp; omega))) (.cons rfl (by first | exact Le.refl _ | exact Le.nils | exact Le.row _ _ _ _ | exact Le.of_eq (by first | rfl | (simp; done) | (push_cast; rfl) | (simp; omega))) .nil)) ?_
  rintro ⟨d, r⟩ ⟨hsp, hrl⟩
  try dsimp only
  simp only [List.cons_append, List.nil_append]
  dsimp only at hsp hrl
  refine AC_seq ?_
  refine AC_seq ?_
  refine AC_region ?_
  refine AL_p rfl rfl (S_move rfl (.tmp rfl)) ?_
  refine AL_p rfl rfl (S_move rfl (.tmp rfl)) ?_
  refine AL_p rfl rfl (S_lss rfl (.tmp rfl) (.tmp rfl)) ?_
  refine AL_nil ?_
  refine AC_cond (.tmp rfl) (fun hb4 => ?_) (fun hb4 => ?_)
  · try simp only [zA, zO, zN, zM, zP, zQ, zD, zF, gd] at hb4
    have hdl : d.length < s.count c := by omega
    refine AC_skip ?_
    refine AC_block ?_
    refine AC_seq ?_
    refine AC_region ?_
    refine AL_p rfl rfl (S_move rfl (.tmp rfl)) ?_
    refine AL_p rfl rfl (S_move rfl (.tmp rfl)) ?_
    refine AL_p rfl rfl (S_pcall rfl (AEvs.cons (.tmp rfl) (AEvs.cons (.tmp rfl) AEvs.nil)) (strings_Index_ok r c)) ?_
    refine AL_p rfl rfl (S_assign rfl (.tmp rfl)) ?_
    refine AL_nil ?_
    refine AC_seq ?_
    refine AC_seq ?_
    refine AC_region ?_
    refine AL_p rfl rfl (S_move rfl (.tmp rfl)) ?_
    refine AL_p rfl rfl (S_lss rfl (.tmp rfl) (AEv.const _)) ?_
    refine AL_nil ?_
    refine AC_cond (.tmp rfl) (fun hb5 => ?_) (fun hb5 => ?_)
    · try simp only [zA, zO, zN, zM, zP, zQ, zD, zF, gd] at hb5
      have hno : c ∉ r := idxV_neg.1 hb5
      have hd : d.length = s.count c := by
        have h1 := parts_count c s
        rw [hsp, List.length_append, split_none hno] at h1
        simp only [List.length_cons, List.length_nil] at h1
        omega
      rw [split_none hno] at hsp
      refine AC_exit ?_
      refine AC_seq ?_
      refine AC_region ?_
      refine AL_p rfl rfl (S_move rfl (.tmp rfl)) ?_
      refine AL_p rfl rfl (S_move rfl (.tmp rfl)) ?_
      refine AL_p rfl rfl (S_move rfl (.tmp rfl)) ?_
      refine AL_p rfl rfl (S_elemO (e := 9) 1 rfl (.tmp rfl) (.tmp rfl) (by kernel_rfl) (by kernel_rfl) (by omega) (by omega)) ?_
      refine AL_step rfl rfl (S_store (c := .S r) 0 rfl (.tmp rfl) (.tmp rfl) rfl (by rw [filling_len (by omega)]; omega) rfl (by kernel_rfl)) ?_
      rintro _ _ ⟨rfl, rfl⟩
      refine AL_nil ?_
      refine AC_seq ?_
      refine AC_region ?_
      refine AL_p rfl rfl (S_move rfl (.tmp rfl)) ?_
      refine AL_p rfl rfl (S_move rfl (.tmp rfl)) ?_
      refine AL_p rfl rfl (S_addI rfl (.tmp rfl) (AEv.const _) (by omega) (by omega)) ?_
      refine AL_p rfl rfl (S_cutOH (e := 9) (j := d.length + 1) 1 rfl (.tmp rfl) ((AEv.tmp rfl).le (Le.of_eq (congrArg (AV.int _) (by omega)))) (by kernel_rfl) (by kernel_rfl) (by omega)) ?_
      refine AL_p rfl rfl (S_assign rfl (.tmp rfl)) ?_
      refine AL_nil ?_
      refine AC_ret ?_
      refine ret_tmp st rfl rfl (Sub.l (List.Sublist.cons _ (List.Sublist.refl _))) (y := .sl (strsV (d ++ [r]))) ?_ ⟨by rw [hsp], rfl⟩ (.inl rfl)
      refine Conv.nd fun hnd => ?_
      have hfl : (filling (s.count c + 1) d).set (0 + ((d.length : Nat) : Int).toNat * 1) (.S r) = vec1C (s.count c + 1) (strsV (d ++ [r])) := by rw [filling_set (by omega), filling_full (by simp [hd])]
      have hv := Conv.vec1 (st := (b9, Ob.cells (vec1C (s.count c + 1) (strsV (d ++ [r])))) :: st) (st' := st) (b := b9) (cap := (s.count c + 1)) (xs := strsV (d ++ [r])) (Sub.l (List.Sublist.cons _ (List.Sublist.refl _))) (by simp [strsV, hd]) (fun x hx => by obtain ⟨y, _, rfl⟩ := List.mem_map.1 hx; rfl) List.mem_cons_self (fun o ho => by
        simp only [List.set_cons_zero, List.map_cons, List.nodup_cons] at hnd
        exact hnd.1 (List.mem_map_of_mem (f := Prod.fst) ho))
      rw [← hfl] at hv
      rw [show d.length + 1 = (strsV (d ++ [r])).length by simp [strsV]]
      exact hv
    try simp only [zA, zO, zN, zM, zP, zQ, zD, zF, gd] at hb5
    have hin : c ∈ r := Classical.byContradiction fun h => hb5 (idxV_neg.2 h)
    have hix := idxV_hit hin
    have hlt := head_lt hin
    refine AC_skip ?_
    refine AC_seq ?_
    refine AC_region ?_
    refine AL_p rfl rfl (S_move rfl (.tmp rfl)) ?_
    refine AL_p rfl rfl (S_move rfl (.tmp rfl)) ?_
    refine AL_p rfl rfl (S_move rfl (.tmp rfl)) ?_
    refine AL_p rfl rfl (S_move rfl (.tmp rfl)) ?_
    refine AL_p rfl rfl (S_move rfl (.tmp rfl)) ?_
    refine AL_p rfl rfl (S_addI rfl (.tmp rfl) (.tmp rfl) (by omega) (by omega)) ?_
    refine AL_p rfl rfl ((S_sliceH rfl (.tmp rfl) (.tmp rfl) (by kernel_rfl) (by omega) (by omega)).ofV (V' := .S (headB c r)) (congrArg AV.S (by rw [show (idxV r c + 0).toNat = (headB c r).length by rw [idxV_hit hin]; omega]; exact take_head))) ?_
    refine AL_p rfl rfl (S_elemO (e := 9) 1 rfl (.tmp rfl) (.tmp rfl) (by kernel_rfl) (by kernel_rfl) (by omega) (by omega)) ?_
    refine AL_step rfl rfl (S_store (c := .S (headB c r)) 0 rfl (.tmp rfl) (.tmp rfl) rfl (by rw [filling_len (by omega)]; omega) rfl (by kernel_rfl)) ?_
    rintro _ _ ⟨rfl, rfl⟩
    refine AL_nil ?_
    refine AC_seq ?_
    refine AC_region ?_
    refine AL_p rfl rfl (S_move rfl (.tmp rfl)) ?_
    refine AL_p rfl rfl (S_move rfl (.tmp rfl)) ?_
    refine AL_p rfl rfl (S_move rfl (.tmp rfl)) ?_
    refine AL_p rfl rfl (S_lenS (ts := #[]) rfl (.tmp rfl) (by kernel_rfl)) ?_
    refine AL_p rfl rfl (S_addI rfl (.tmp rfl) (.tmp rfl) (by omega) (by omega)) ?_
    refine AL_p rfl rfl ((S_sliceL rfl (.tmp rfl) (.tmp rfl) (by kernel_rfl) (by simp; omega) (by simp; omega)).ofV (V' := .S (restB c r)) (congrArg AV.S (by rw [show (idxV r c + ((([c] : List UInt8).length : Nat) : Int)).toNat = (headB c r).length + 1 by rw [idxV_hit hin]; simp]))) ?_
    refine AL_p rfl rfl (S_assign rfl (.tmp rfl)) ?_
    refine AL_nil ?_
    refine AC_region ?_
    refine AL_p rfl rfl (S_move rfl (.tmp rfl)) ?_
    refine AL_p rfl rfl (S_addI rfl (.tmp rfl) (AEv.const _) (by omega) (by omega)) ?_
    refine AL_p rfl rfl (S_assign rfl (.tmp rfl)) ?_
    refine AL_nil ?_
    rw [split_hit hin] at hsp
    have hlt := head_lt hin
    refine ⟨(d ++ [headB c r], restB c r), ⟨by dsimp only; rw [hsp]; simp, by dsimp only; rw [List.length_drop]; omega⟩, by dsimp only; rw [List.length_drop]; omega, ?_, (.cons rfl (Le.of_eq (congrArg AV.S (by simp [restB]))) (.cons rfl (Le.of_eq (congrArg (AV.int .i64) (by simp))) .nil)), (.cons rfl (Le.refl _) (.cons rfl (Le.refl _) (.cons rfl (Le.refl _) (.cons rfl (Le.refl _) (.cons rfl (Le.refl _) .nil)))))⟩
    dsimp only
    rw [← filling_set (by omega)]
    exact Sub.l (List.Sublist.refl _)
  try simp only [zA, zO, zN, zM, zP, zQ, zD, zF, gd] at hb4
  have hno : c ∉ r := by
    have h1 := parts_count c s
    have h2 := parts_count c r
    rw [hsp, List.length_append] at h1
    exact count_none (by omega)
  have hd : d.length = s.count c := by
    have h1 := parts_count c s
    rw [hsp, List.length_append, split_none hno] at h1
    simp only [List.length_cons, List.length_nil] at h1
    omega
  rw [split_none hno] at hsp
  refine AC_exit ?_
  refine AC_seq ?_
  refine AC_region ?_
  refine AL_p rfl rfl (S_move rfl (.tmp rfl)) ?_
  refine AL_p rfl rfl (S_move rfl (.tmp rfl)) ?_
  refine AL_p rfl rfl (S_move rfl (.tmp rfl)) ?_
  refine AL_p rfl rfl (S_elemO (e := 9) 1 rfl (.tmp rfl) (.tmp rfl) (by kernel_rfl) (by kernel_rfl) (by omega) (by omega)) ?_
  refine AL_step rfl rfl (S_store (c := .S r) 0 rfl (.tmp rfl) (.tmp rfl) rfl (by rw [filling_len (by omega)]; omega) rfl (by kernel_rfl)) ?_
  rintro _ _ ⟨rfl, rfl⟩
  refine AL_nil ?_
  refine AC_seq ?_
  refine AC_region ?_
  refine AL_p rfl rfl (S_move rfl (.tmp rfl)) ?_
  refine AL_p rfl rfl (S_move rfl (.tmp rfl)) ?_
  refine AL_p rfl rfl (S_addI rfl (.tmp rfl) (AEv.const _) (by omega) (by omega)) ?_
  refine AL_p rfl rfl (S_cutOH (e := 9) (j := d.length + 1) 1 rfl (.tmp rfl) ((AEv.tmp rfl).le (Le.of_eq (congrArg (AV.int _) (by omega)))) (by kernel_rfl) (by kernel_rfl) (by omega)) ?_
  refine AL_p rfl rfl (S_assign rfl (.tmp rfl)) ?_
  refine AL_nil ?_
  refine AC_ret ?_
  refine ret_tmp st rfl rfl (Sub.l (List.Sublist.cons _ (List.Sublist.refl _))) (y := .sl (strsV (d ++ [r]))) ?_ ⟨by rw [hsp], rfl⟩ (.inl rfl)
  refine Conv.nd fun hnd => ?_
  have hfl : (filling (s.count c + 1) d).set (0 + ((d.length : Nat) : Int).toNat * 1) (.S r) = vec1C (s.count c + 1) (strsV (d ++ [r])) := by rw [filling_set (by omega), filling_full (by simp [hd])]
  have hv := Conv.vec1 (st := (b9, Ob.cells (vec1C (s.count c + 1) (strsV (d ++ [r])))) :: st) (st' := st) (b := b9) (cap := (s.count c + 1)) (xs := strsV (d ++ [r])) (Sub.l (List.Sublist.cons _ (List.Sublist.refl _))) (by simp [strsV, hd]) (fun x hx => by obtain ⟨y, _, rfl⟩ := List.mem_map.1 hx; rfl) List.mem_cons_self (fun o ho => by
    simp only [List.set_cons_zero, List.map_cons, List.nodup_cons] at hnd
    exact hnd.1 (List.mem_map_of_mem (f := Prod.fst) ho))
  rw [← hfl] at hv
  rw [show d.length + 1 = (strsV (d ++ [r])).length by simp [strsV]]
  exact hv

set_option maxRecDepth 100000 in
/-- strings.Split -/
theorem strings_Split_ok (s : List UInt8) (c : UInt8) (hs : s.length ≤ 1000000) : PCalls Tryd.prog 27 [.S s, .S [c]] (.sl (strsV (partsB c s))) := by
  intro st
  refine ACalls_of (N := 8) Tryd.func27 (by kernel_rfl) rfl rfl rfl ?_
  refine AC_seq ?_
  refine AC_region ?_
  refine AL_p rfl rfl (S_assign rfl (AEv.const _)) ?_
  refine AL_nil ?_
  refine AC_seq ?_
  refine AC_region ?_
  refine AL_p rfl rfl (S_move rfl (.tmp rfl)) ?_
  refine AL_p rfl rfl (S_move rfl (.tmp rfl)) ?_
  refine AL_p rfl rfl (S_pcall rfl (AEvs.cons (.tmp rfl) (AEvs.cons (.tmp rfl) (AEvs.cons (AEv.const _) (AEvs.cons (AEv.const _) AEvs.nil)))) (strings_genSplit_ok s c hs)) ?_
  refine AL_p rfl rfl (S_assign rfl (.tmp rfl)) ?_
  refine AL_nil ?_
  refine AC_ret ?_
  refine ret_tmp st rfl rfl (Sub.l (List.Sublist.refl _)) (Conv.refl (Sub.l (List.Sublist.refl _)) _) ⟨rfl, rfl⟩ (.inl rfl)

end Go.Proofs.YtfpkefhjomeeeaaDoor

/-
The walks of Go functions in the logic AL: what each of them answers.
Conditions: those of each theorem.
-/
set_option linter.unusedVariables false
set_option linter.unusedSimpArgs false
namespace Go.Proofs.YtfpkefhjomeeeaaDoor
open Go.AL Go.NumSpec

set_option maxRecDepth 100000 in
/-- (*strings.Builder).copyCheck -/
theorem copyCheck_fresh (b T m : Nat) (cs : List AV) (hm : 0 < m) (hl : liesAt Tryd.prog Tryd.prog.depth T (m / Tryd.prog.cellsOf T) 0 77 1 = true) (F : St) : ACalls Tryd.prog 55 [.ptr b 0] ((b, .cells (.nilB b T m :: cs)) :: F) (fun x st' => x = .tup [] ∧ st' = (b, .cells (.ptr b 0 :: cs)) :: F) := by
  refine ACalls_of (N := 20) Tryd.func55 (by kernel_rfl) rfl rfl rfl ?_
  refine AC_seq ?_
  refine AC_region ?_
  refine AL_p rfl rfl (S_move rfl (.tmp rfl)) ?_
  refine AL_p rfl rfl (S_nilCheck rfl (.tmp rfl)) ?_
  refine AL_p rfl rfl (S_field 0 rfl (.tmp rfl) (by kernel_rfl)) ?_
  refine AL_p rfl rfl (S_load 0 rfl (.tmp rfl) rfl rfl (by kernel_rfl)) ?_
  refine AL_p rfl rfl (S_eqlPtr rfl ((AEv.tmp rfl).le (Le.nilB _ _ _)) (AEv.const _) (by kernel_rfl)) ?_
  refine AL_nil ?_
  refine AC_cond (.tmp rfl) (fun hb1 => ?_) (fun hb1 => ?_)
  · try simp only [zA, zO, zN, zM, zP, zQ, zD, zF, gd] at hb1
    refine AC_region ?_
    refine AL_p rfl rfl (S_move rfl (.tmp rfl)) ?_
    refine AL_p rfl rfl (S_move rfl (.tmp rfl)) ?_
    refine AL_p rfl rfl (S_toUnsafe (t := 77) (k := 0) 0 rfl (.tmp rfl) rfl rfl (by kernel_rfl) (by kernel_rfl) (by kernel_rfl) hm) ?_
    refine AL_p rfl rfl (S_noEscape rfl (.tmp rfl) Tryd.func66 (by kernel_rfl) (by kernel_rfl) (by kernel_rfl) (by kernel_rfl)) ?_
    refine AL_p rfl rfl (S_fromUnsafe (t := 77) (k := 0) 0 rfl (.tmp rfl) rfl rfl (by kernel_rfl) (by kernel_rfl) (by kernel_rfl) hl) ?_
    refine AL_p rfl rfl (S_nilCheck rfl (.tmp rfl)) ?_
    refine AL_p rfl rfl (S_field 0 rfl (.tmp rfl) (by kernel_rfl)) ?_
    refine AL_step rfl rfl (S_store 0 rfl (.tmp rfl) (.tmp rfl) rfl (by first | exact Nat.le_of_ble_eq_true rfl | simp) rfl (by kernel_rfl)) ?_
    rintro _ _ ⟨rfl, rfl⟩
    refine AL_nil ?_
    refine ret_none ((b, .cells (.ptr b 0 :: cs)) :: F) rfl (Sub.l (List.Sublist.refl _)) ⟨rfl, rfl⟩ (.inr rfl)
  simp at hb1; done

set_option maxRecDepth 100000 in
/-- (*strings.Builder).copyCheck -/
theorem copyCheck_used (b : Nat) (cs : List AV) (F : St) : ACalls Tryd.prog 55 [.ptr b 0] ((b, .cells (.ptr b 0 :: cs)) :: F) (fun x st' => x = .tup [] ∧ st' = (b, .cells (.ptr b 0 :: cs)) :: F) := by
  refine ACalls_of (N := 20) Tryd.func55 (by kernel_rfl) rfl rfl rfl ?_
  refine AC_seq ?_
  refine AC_region ?_
  refine AL_p rfl rfl (S_move rfl (.tmp rfl)) ?_
  refine AL_p rfl rfl (S_nilCheck rfl (.tmp rfl)) ?_
  refine AL_p rfl rfl (S_field 0 rfl (.tmp rfl) (by kernel_rfl)) ?_
  refine AL_p rfl rfl (S_load 0 rfl (.tmp rfl) rfl rfl (by kernel_rfl)) ?_
  refine AL_p rfl rfl (S_eqlNil rfl (.tmp rfl) (AEv.const _) (by kernel_rfl)) ?_
  refine AL_nil ?_
  refine AC_cond (.tmp rfl) (fun hb1 => ?_) (fun hb1 => ?_)
  · simp at hb1; done
  try simp only [zA, zO, zN, zM, zP, zQ, zD, zF, gd] at hb1
  refine AC_seq ?_
  refine AC_region ?_
  refine AL_p rfl rfl (S_move rfl (.tmp rfl)) ?_
  refine AL_p rfl rfl (S_nilCheck rfl (.tmp rfl)) ?_
  refine AL_p rfl rfl (S_field 0 rfl (.tmp rfl) (by kernel_rfl)) ?_
  refine AL_p rfl rfl (S_load 0 rfl (.tmp rfl) rfl rfl (by kernel_rfl)) ?_
  refine AL_p rfl rfl (S_move rfl (.tmp rfl)) ?_
  refine AL_p rfl rfl (S_neqPtr rfl (.tmp rfl) (.tmp rfl) (by kernel_rfl)) ?_
  refine AL_nil ?_
  refine AC_cond (.tmp rfl) (fun hb2 => ?_) (fun hb2 => ?_)
  · simp at hb2; done
  try simp only [zA, zO, zN, zM, zP, zQ, zD, zF, gd] at hb2
  refine AC_skip ?_
  refine ret_none ((b, .cells (.ptr b 0 :: cs)) :: F) rfl (Sub.l (List.Sublist.refl _)) ⟨rfl, rfl⟩ (.inr rfl)

theorem copyCheck_ok (u : Bool) (b T m : Nat) (cs : List AV) (hm : 0 < m) (hl : liesAt Tryd.prog Tryd.prog.depth T (m / Tryd.prog.cellsOf T) 0 77 1 = true) (F : St) : ACalls Tryd.prog 55 [.ptr b 0] ((b, .cells (addrB u b T m :: cs)) :: F) (fun x st' => x = .tup [] ∧ st' = (b, .cells (.ptr b 0 :: cs)) :: F) := by
  cases u
  · exact copyCheck_fresh b T m cs hm hl F
  · exact copyCheck_used b cs F

set_option maxRecDepth 100000 in
/-- (*strings.Builder).WriteString -/
theorem WriteString_ok (b : Nat) (u : Bool) (q : Buf) (l s : List UInt8) (T m : Nat) (post : List AV) (hq : q.ok l) (hlen : l.length + s.length ≤ 140737488355328) (hm : 0 < m) (hl : liesAt Tryd.prog Tryd.prog.depth T (m / Tryd.prog.cellsOf T) 0 77 1 = true) (F : St) : ACalls Tryd.prog 39 [.ptr b 0, .S s] (((b, .cells (addrB u b T m :: bufAV q (l) :: post)) :: bufSt q 5 (l)) ++ F) (fun x st' => ∃ foot', (∃ q' : Buf, q'.ok (l ++ s) ∧ x = .tup [.int .i64 (s.length : Int), .nili] ∧ foot' = (b, .cells (.ptr b 0 :: bufAV q' (l ++ s) :: post)) :: bufSt q' 5 (l ++ s)) ∧ st' = foot' ++ F) := by
  refine ACalls_of (N := 19) Tryd.func39 (by kernel_rfl) rfl rfl rfl ?_
  refine AC_seq ?_
  refine AC_region ?_
  refine AL_p rfl rfl (S_assign rfl (AEv.const _)) ?_
  refine AL_p rfl rfl (S_assign rfl (AEv.const _)) ?_
  refine AL_nil ?_
  refine AC_seq ?_
  refine AC_region ?_
  refine AL_p rfl rfl (S_move rfl (.tmp rfl)) ?_
  refine AL_step rfl rfl (S_call rfl (AEvs.cons (.tmp rfl) AEvs.nil) (copyCheck_ok u b T m _ hm hl _)) ?_
  rintro _ _ ⟨rfl, rfl⟩
  refine AL_nil ?_
  refine AC_seq ?_
  refine AC_region ?_
  refine AL_p rfl rfl (S_move rfl (.tmp rfl)) ?_
  refine AL_p rfl rfl (S_move rfl (.tmp rfl)) ?_
  refine AL_p rfl rfl (S_nilCheck rfl (.tmp rfl)) ?_
  refine AL_p rfl rfl (S_field 1 rfl (.tmp rfl) (by kernel_rfl)) ?_
  refine AL_p rfl rfl (S_load 0 rfl (.tmp rfl) rfl rfl (by kernel_rfl)) ?_
  refine AL_p rfl rfl (S_move rfl (.tmp rfl)) ?_
  refine AL_step rfl rfl (S_appendStr (q := q) (l := l) (s := s) (e := 5) [(b, _)] F rfl (.tmp rfl) (.tmp rfl) rfl hq (by kernel_rfl) (by kernel_rfl) hlen) ?_
  rintro _ _ ⟨q2, hq2, rfl, rfl⟩
  refine AL_p rfl rfl (S_nilCheck rfl (.tmp rfl)) ?_
  refine AL_p rfl rfl (S_field 1 rfl (.tmp rfl) (by kernel_rfl)) ?_
  refine AL_step rfl rfl (S_store 0 rfl (.tmp rfl) (.tmp rfl) rfl (by first | exact Nat.le_of_ble_eq_true rfl | simp) (bufAV_one _ _) (by kernel_rfl)) ?_
  rintro _ _ ⟨rfl, rfl⟩
  refine AL_nil ?_
  refine AC_seq ?_
  refine AC_region ?_
  refine AL_p rfl rfl (S_move rfl (.tmp rfl)) ?_
  refine AL_p rfl rfl (S_lenS (ts := #[]) rfl (.tmp rfl) (by kernel_rfl)) ?_
  refine AL_p rfl rfl (S_assign rfl (.tmp rfl)) ?_
  refine AL_p rfl rfl (S_assign rfl (AEv.const _)) ?_
  refine AL_nil ?_
  refine AC_ret ?_
  refine ret_tmps (ts := [4, 5]) (((b, .cells (.ptr b 0 :: bufAV q2 (l ++ s) :: post)) :: bufSt q2 5 (l ++ s)) ++ F) rfl (by decide) rfl (Sub.l (List.Sublist.refl _)) (Conv.refl (Sub.l (List.Sublist.refl _)) _) ⟨_, ⟨q2, hq2, rfl, rfl⟩, rfl⟩ (.inl rfl)

set_option maxRecDepth 100000 in
/-- (*strings.Builder).String -/
theorem String_ok (b : Nat) (q : Buf) (l : List UInt8) (a : AV) (post : List AV) (hq : q.ok l) (F : St) : ACalls Tryd.prog 40 [.ptr b 0] (((b, .cells (a :: bufAV q (l) :: post)) :: bufSt q 5 (l)) ++ F) (fun x st' => ∃ foot', (x = .S l ∧ foot' = [(b, .cells (a :: bufAV q l :: post))]) ∧ st' = foot' ++ F) := by
  refine ACalls_of (N := 14) Tryd.func40 (by kernel_rfl) rfl rfl rfl ?_
  refine AC_seq ?_
  refine AC_region ?_
  refine AL_p rfl rfl (S_assign rfl (AEv.S _)) ?_
  refine AL_nil ?_
  refine AC_seq ?_
  refine AC_plan (σ := [(0, 0), (1, 0), (2, 0), (3, 0), (4, 0), (5, 0), (6, 0), (7, 0), (8, 0), (9, 0), (10, 2), (11, 0)]) (by kernel_rfl) _ (by kernel_rfl) (fun _ h => h) ?_
  refine AG.f rfl rfl (fun st' hst => Q_p rfl (S_move rfl (.tmp rfl))) ?_
  refine AG.f rfl rfl (fun st' hst => Q_p rfl (S_nilCheck rfl (.tmp rfl))) ?_
  refine AG.f rfl rfl (fun st' hst => Q_p rfl (S_field 1 rfl (.tmp rfl) (by kernel_rfl))) ?_
  refine AG.f rfl rfl (fun st' hst => Q_p rfl (S_loadM rfl (.tmp rfl) (hst _ (List.mem_of_getElem? (i := 0) rfl)) rfl (by kernel_rfl))) ?_
  refine AG.f rfl rfl (fun st' hst => Q_p rfl (S_unsafeData rfl (.tmp rfl) hq)) ?_
  refine AG.f rfl rfl (fun st' hst => Q_p rfl (S_move rfl (.tmp rfl))) ?_
  refine AG.f rfl rfl (fun st' hst => Q_p rfl (S_nilCheck rfl (.tmp rfl))) ?_
  refine AG.f rfl rfl (fun st' hst => Q_p rfl (S_field 1 rfl (.tmp rfl) (by kernel_rfl))) ?_
  refine AG.f rfl rfl (fun st' hst => Q_p rfl (S_loadM rfl (.tmp rfl) (hst _ (List.mem_of_getElem? (i := 0) rfl)) rfl (by kernel_rfl))) ?_
  refine AG.f rfl rfl (fun st' hst => Q_p rfl (S_len (e := 5) rfl ((AEv.tmp rfl).le (Le_buf hq)) (by kernel_rfl))) ?_
  refine AG.h rfl rfl rfl (S_unsafeString (q := q) (l := l) (e := 5) (n := 0) (k := 1) [(b, _)] F rfl (.tmp rfl) ((AEv.tmp rfl).le (Le.of_eq (by rw [bytesV_len]))) rfl rfl rfl hq (by kernel_rfl) (by kernel_rfl)) ?_
  rintro _ _ ⟨rfl, rfl⟩
  refine AG.f rfl rfl (fun st' hst => Q_p rfl (S_assign rfl (.tmp rfl))) ?_
  refine AG.nil ?_
  refine AC_ret ?_
  refine ret_tmp ([(b, Ob.cells (a :: bufAV q l :: post))] ++ F) rfl rfl (Sub.l (List.Sublist.refl _)) (Conv.refl (Sub.l (List.Sublist.refl _)) _) ⟨_, ⟨rfl, rfl⟩, rfl⟩ (.inl rfl)

end Go.Proofs.YtfpkefhjomeeeaaDoor

/-
The walks of Go functions in the logic AL: what each of them answers.
Conditions: those of each theorem.
-/
set_option linter.unusedVariables false
set_option linter.unusedSimpArgs false
namespace Go.Proofs.YtfpkefhjomeeeaaDoor
open Go.AL Go.NumSpec

set_option maxRecDepth 100000 in
/-- (*strings.Builder).WriteByte -/
theorem WriteByte_ok (b : Nat) (u : Bool) (q : Buf) (l : List UInt8) (c : UInt8) (T m : Nat) (post : List AV) (hq : q.ok l) (hlen : l.length + 1 ≤ 140737488355328) (hm : 0 < m) (hl : liesAt Tryd.prog Tryd.prog.depth T (m / Tryd.prog.cellsOf T) 0 77 1 = true) (F : St) : ACalls Tryd.prog 52 [.ptr b 0, byteV c] (((b, .cells (addrB u b T m :: bufAV q (l) :: post)) :: bufSt q 5 (l)) ++ F) (fun x st' => ∃ foot', (∃ q' : Buf, q'.ok (l ++ [c]) ∧ x = .nili ∧ foot' = (b, .cells (.ptr b 0 :: bufAV q' (l ++ [c]) :: post)) :: bufSt q' 5 (l ++ [c])) ∧ st' = foot' ++ F) := by
  refine ACalls_of (N := 17) Tryd.func52 (by kernel_rfl) rfl rfl rfl ?_
  refine AC_seq ?_
  refine AC_region ?_
  refine AL_p rfl rfl (S_assign rfl (AEv.const _)) ?_
  refine AL_nil ?_
  refine AC_seq ?_
  refine AC_region ?_
  refine AL_p rfl rfl (S_move rfl (.tmp rfl)) ?_
  refine AL_step rfl rfl (S_call rfl (AEvs.cons (.tmp rfl) AEvs.nil) (copyCheck_ok u b T m _ hm hl _)) ?_
  rintro _ _ ⟨rfl, rfl⟩
  refine AL_nil ?_
  refine AC_seq ?_
  refine AC_region ?_
  refine AL_p rfl rfl (S_move rfl (.tmp rfl)) ?_
  refine AL_p rfl rfl (S_move rfl (.tmp rfl)) ?_
  refine AL_p rfl rfl (S_nilCheck rfl (.tmp rfl)) ?_
  refine AL_p rfl rfl (S_field 1 rfl (.tmp rfl) (by kernel_rfl)) ?_
  refine AL_p rfl rfl (S_load 0 rfl (.tmp rfl) rfl rfl (by kernel_rfl)) ?_
  refine AL_p rfl rfl (S_move rfl (.tmp rfl)) ?_
  refine AL_p rfl rfl (S_buildSlice (e := 5) 1 rfl (AEvs.cons (.tmp rfl) AEvs.nil) rfl (by kernel_rfl) (by kernel_rfl) (by simp [AV.flat, AV.one, AV.cells, Value.oneCell']) (by decide) (by decide) (by decide)) ?_
  refine AL_step rfl rfl (S_appendByte (q := q) (l := l) (c := c) (e := 5) [(b, _)] F rfl (.tmp rfl) (.tmp rfl) rfl hq (by kernel_rfl) hlen) ?_
  rintro _ _ ⟨q2, hq2, rfl, rfl⟩
  refine AL_p rfl rfl (S_nilCheck rfl (.tmp rfl)) ?_
  refine AL_p rfl rfl (S_field 1 rfl (.tmp rfl) (by kernel_rfl)) ?_
  refine AL_step rfl rfl (S_store 0 rfl (.tmp rfl) (.tmp rfl) rfl (by first | exact Nat.le_of_ble_eq_true rfl | simp) (bufAV_one _ _) (by kernel_rfl)) ?_
  rintro _ _ ⟨rfl, rfl⟩
  refine AL_nil ?_
  refine AC_seq ?_
  refine AC_region ?_
  refine AL_p rfl rfl (S_assign rfl (AEv.const _)) ?_
  refine AL_nil ?_
  refine AC_ret ?_
  refine ret_tmp (((b, .cells (.ptr b 0 :: bufAV q2 (l ++ [c]) :: post)) :: bufSt q2 5 (l ++ [c])) ++ F) rfl rfl (Sub.l (List.Sublist.refl _)) (Conv.refl (Sub.l (List.Sublist.refl _)) _) ⟨_, ⟨q2, hq2, rfl, rfl⟩, rfl⟩ (.inl rfl)

end Go.Proofs.YtfpkefhjomeeeaaDoor

/-
The walks of Go functions in the logic AL: what each of them answers.
Conditions: those of each theorem.
-/
set_option linter.unusedVariables false
set_option linter.unusedSimpArgs false
namespace Go.Proofs.YtfpkefhjomeeeaaDoor
open Go.AL Go.NumSpec

set_option maxRecDepth 100000 in
/-- provost/script.Right -/
theorem scr_Right_ok (e : Ent) (hn : e.n.length ≤ 1000000) : GCalls Tryd.prog tabs 12 [entAV e] (.bool (rightB e)) := by
  intro st hG
  refine ACalls_of (N := 63) Tryd.func12 (by kernel_rfl) rfl rfl rfl ?_
  refine AC_seq ?_
  refine AC_region ?_
  refine AL_step rfl rfl (S_box rfl (.tmp rfl)) ?_
  rintro _ _ ⟨b1, rfl, rfl⟩
  refine AL_p rfl rfl (S_assign rfl (AEv.const _)) ?_
  refine AL_nil ?_
  refine AC_seq ?_
  refine AC_seq ?_
  refine AC_draw (by kernel_rfl) (by kernel_rfl) (.cons rfl (Q_p rfl (S_field 0 rfl (.tmp rfl) (by kernel_rfl))) <|
      .cons rfl (Q_p rfl (S_load 0 rfl (.tmp rfl) rfl rfl (by kernel_rfl))) <|
      .cons rfl (Q_p rfl (S_lss rfl (.tmp rfl) (AEv.const _))) <|
      .cons rfl (Q_p rfl (S_move rfl (.tmp rfl))) <|
      .cons rfl (Q_g rfl rfl (.tmp rfl) (fun hg2 => S_field 0 rfl (.tmp rfl) (by kernel_rfl))) <|
      .cons rfl (Q_g rfl rfl (.tmp rfl) (fun hg5 => S_load 0 rfl (AEv.cond (.tmp rfl) (by first | assumption | exact gdAnd (by assumption) (by assumption))) rfl rfl (by kernel_rfl))) <|
      .cons rfl (Q_g rfl rfl (.tmp rfl) (fun hg8 => S_geq rfl (AEv.cond (.tmp rfl) (by first | assumption | exact gdAnd (by assumption) (by assumption))) (AEv.const _))) <|
      .cons rfl (Q_p rfl (S_or rfl (.tmp rfl) (fun hp11 => (AEv.cond (.tmp rfl) (by first | assumption | exact gdT hp11 | exact gdF hp11 | exact gdAnd (by assumption) (gdT hp11) | exact gdAnd (by assumption) (gdF hp11)))))) <|
      .cons rfl (Q_p rfl (S_move rfl (.tmp rfl))) <|
      .cons rfl (Q_g rfl rfl (.tmp rfl) (fun hg12 => S_field 1 rfl (.tmp rfl) (by kernel_rfl))) <|
      .cons rfl (Q_g rfl rfl (.tmp rfl) (fun hg15 => S_load 0 rfl (AEv.cond (.tmp rfl) (by first | assumption | exact gdAnd (by assumption) (by assumption))) rfl rfl (by kernel_rfl))) <|
      .cons rfl (Q_g rfl rfl (.tmp rfl) (fun hg18 => by first | exact S_lenM (e := 3) rfl (AEv.cond (.tmp rfl) (by first | assumption | exact gdAnd (by assumption) (by assumption))) (by kernel_rfl) | exact S_len (e := 3) rfl (AEv.cond (.tmp rfl) (by first | assumption | exact gdAnd (by assumption) (by assumption))) (by kernel_rfl))) <|
      .cons rfl (Q_g rfl rfl (.tmp rfl) (fun hg21 => S_field 0 rfl (.tmp rfl) (by kernel_rfl))) <|
      .cons rfl (Q_g rfl rfl (.tmp rfl) (fun hg24 => S_load 0 rfl (AEv.cond (.tmp rfl) (by first | assumption | exact gdAnd (by assumption) (by assumption))) rfl rfl (by kernel_rfl))) <|
      .cons rfl (Q_g rfl rfl (.tmp rfl) (fun hg27 => S_elemA (e := 62) (len := 24) (i := e.verb) 3 rfl (AEv.global _) (AEv.cond (.tmp rfl) (by first | assumption | exact gdAnd (by assumption) (by assumption))) (by kernel_rfl) (by kernel_rfl) (by (try simp only [gd, Bool.and_eq_true, Bool.or_eq_true, Bool.not_eq_true', Bool.not_eq_false', decide_eq_true_eq, decide_eq_false_iff_not, Bool.or_eq_false_iff, Bool.and_eq_false_iff] at *); omega) (by (try simp only [gd, Bool.and_eq_true, Bool.or_eq_true, Bool.not_eq_true', Bool.not_eq_false', decide_eq_true_eq, decide_eq_false_iff_not, Bool.or_eq_false_iff, Bool.and_eq_false_iff] at *); omega))) <|
      .cons rfl (Q_g rfl rfl (.tmp rfl) (fun hg30 => S_field 1 rfl (AEv.cond (.tmp rfl) (by first | assumption | exact gdAnd (by assumption) (by assumption))) (by kernel_rfl))) <|
      .cons rfl (Q_g rfl rfl (.tmp rfl) (fun hg33 => S_loadK (vs := verbsV) (u := .int .i64 (verbA e.verb.toNat).2.1) rfl (AEv.cond (.tmp rfl) (by first | assumption | exact gdAnd (by assumption) (by assumption))) (List.mem_cons_of_mem _ (hG _ tab_verbs)) (verbs_num (by (try simp only [gd, Bool.and_eq_true, Bool.or_eq_true, Bool.not_eq_true', Bool.not_eq_false', decide_eq_true_eq, decide_eq_false_iff_not, Bool.or_eq_false_iff, Bool.and_eq_false_iff] at *); omega) (by (try simp only [gd, Bool.and_eq_true, Bool.or_eq_true, Bool.not_eq_true', Bool.not_eq_false', decide_eq_true_eq, decide_eq_false_iff_not, Bool.or_eq_false_iff, Bool.and_eq_false_iff] at *); omega)) (by kernel_rfl))) <|
      .cons rfl (Q_g rfl rfl (.tmp rfl) (fun hg36 => S_neq rfl (AEv.cond (.tmp rfl) (by first | assumption | exact gdAnd (by assumption) (by assumption))) (AEv.cond (.tmp rfl) (by first | assumption | exact gdAnd (by assumption) (by assumption))))) <|
      .cons rfl (Q_p rfl (S_or rfl (.tmp rfl) (fun hp39 => (AEv.cond (.tmp rfl) (by first | assumption | exact gdT hp39 | exact gdF hp39 | exact gdAnd (by assumption) (gdT hp39) | exact gdAnd (by assumption) (gdF hp39)))))) <|
      .nil) ?_
  refine AC_cond (.tmp rfl) (fun hb40 => ?_) (fun hb40 => ?_)
  · try simp only [zA, zO, zN, zM, zP, zQ, zD, zF, gd] at hb40
    have hx := right_no (e := e) (by omega)
    refine AC_seq ?_
    refine AC_region ?_
    refine AL_p rfl rfl (S_assign rfl (AEv.const _)) ?_
    refine AL_nil ?_
    refine AC_ret ?_
    refine ret_tmp st rfl rfl (Sub.l (List.sublist_cons_self _ _)) (Conv.refl (Sub.l (List.sublist_cons_self _ _)) _) ⟨by rw [hx], rfl⟩ (.inl rfl)
  try simp only [zA, zO, zN, zM, zP, zQ, zD, zF, gd] at hb40
  have hv1 : 1 ≤ e.verb := by omega
  have hv2 : e.verb < 24 := by omega
  have hv3 : (e.n.length : Int) = (verbA e.verb.toNat).2.1 := by omega
  refine AC_skip ?_
  refine AC_seq ?_
  refine AC_seq ?_
  refine AC_region ?_
  refine AL_p rfl rfl (S_field 1 rfl (.tmp rfl) (by kernel_rfl)) ?_
  refine AL_p rfl rfl (S_load 0 rfl (.tmp rfl) rfl rfl (by kernel_rfl)) ?_
  refine AL_p rfl rfl (by first | exact S_lenM (e := 3) rfl (.tmp rfl) (by kernel_rfl) | exact S_len (e := 3) rfl (.tmp rfl) (by kernel_rfl)) ?_
  refine AL_p rfl rfl (S_move rfl (AEv.const _)) ?_
  refine AL_nil ?_
  refine AC_block ?_
  refine AC_loopK (G := Nat) [(1, _), (25, _), (26, _)] (fun g => g ≤ e.n.length ∧ ∀ j (hj : j < e.n.length), j < g → 0 ≤ e.n[j] ∧ e.n[j] ≤ 1073741824) (fun g => [(27, .int .i64 (g : Int))]) (fun g => (b1, .cells (entL e)) :: st) (fun g => e.n.length - g) (0) (⟨Nat.zero_le _, fun j _ h => absurd h (Nat.not_lt_zero _)⟩) (Sub.l (List.Sublist.refl _)) (.cons rfl (Le.refl _) (.cons rfl (Le.refl _) (.cons rfl (Le.refl _) .nil))) (.cons rfl (by first | exact Le.refl _ | exact Le.nils | exact Le.row _ _ _ _ | exact Le.of_eq (by first | rfl | (simp; done) | (push_cast; rfl) | (simp; omega))) .nil) ?_
  rintro i ⟨hi, hall⟩
  try dsimp only
  simp only [List.cons_append, List.nil_append]
  refine AC_seq ?_
  refine AC_region ?_
  refine AL_p rfl rfl (S_lss rfl (.tmp rfl) (.tmp rfl)) ?_
  refine AL_nil ?_
  refine AC_seq ?_
  refine AC_cond (.tmp rfl) (fun hb41 => ?_) (fun hb41 => ?_)
  · try simp only [zA, zO, zN, zM, zP, zQ, zD, zF, gd] at hb41
    have hil : i < e.n.length := by omega
    refine AC_skip ?_
    refine AC_seq ?_
    refine AC_block ?_
    refine AC_seq ?_
    refine AC_region ?_
    refine AL_p rfl rfl (S_elemN (e := 3) 1 rfl (.tmp rfl) (.tmp rfl) (by kernel_rfl) (by kernel_rfl) (by omega) (fun _ => rfl)) ?_
    refine AL_p rfl rfl (S_loadP rfl (.tmp rfl) rfl (by kernel_rfl)) ?_
    refine AL_p rfl rfl (S_assign rfl (.tmp rfl)) ?_
    refine AL_nil ?_
    refine AC_seq ?_
    refine AC_region ?_
    refine AL_p rfl rfl (S_move rfl (.tmp rfl)) ?_
    refine AL_p rfl rfl (S_lss rfl (.tmp rfl) (AEv.const _)) ?_
    refine AL_p rfl rfl (S_move rfl (.tmp rfl)) ?_
    refine AL_g rfl rfl (.tmp rfl) rfl (fun hg42 => S_move rfl (.tmp rfl)) ?_
    refine AL_g rfl rfl (.tmp rfl) rfl (fun hg45 => S_gtr rfl (AEv.cond (.tmp rfl) (by first | assumption | exact gdAnd (by assumption) (by assumption))) (AEv.const _)) ?_
    refine AL_p rfl rfl (S_or rfl (.tmp rfl) (fun hp48 => (AEv.cond (.tmp rfl) (by first | assumption | exact gdT hp48 | exact gdF hp48 | exact gdAnd (by assumption) (gdT hp48) | exact gdAnd (by assumption) (gdF hp48))))) ?_
    refine AL_nil ?_
    refine AC_cond (.tmp rfl) (fun hb49 => ?_) (fun hb49 => ?_)
    · try simp only [zA, zO, zN, zM, zP, zQ, zD, zF, gd] at hb49
      have hx := right_num hil (by omega)
      refine AC_seq ?_
      refine AC_region ?_
      refine AL_p rfl rfl (S_assign rfl (AEv.const _)) ?_
      refine AL_nil ?_
      refine AC_ret ?_
      refine ret_tmp st rfl rfl (Sub.l (List.sublist_cons_self _ _)) (Conv.refl (Sub.l (List.sublist_cons_self _ _)) _) ⟨by rw [hx], rfl⟩ (.inl rfl)
    try simp only [zA, zO, zN, zM, zP, zQ, zD, zF, gd] at hb49
    have hin : 0 ≤ e.n[i] ∧ e.n[i] ≤ 1073741824 := by omega
    refine AC_skip ?_
    refine AC_region ?_
    refine AL_p rfl rfl (S_addI rfl (.tmp rfl) (AEv.const _) (by omega) (by omega)) ?_
    refine AL_p rfl rfl (S_move rfl (.tmp rfl)) ?_
    refine AL_nil ?_
    exact ⟨i + 1, ⟨by omega, fun j hj h => by
      rcases Nat.lt_or_ge j i with h9 | h9
      · exact hall j hj h9
      · have e9 : j = i := by omega
        subst e9; exact hin⟩, by omega, (Sub.l (List.Sublist.refl _)), (.cons rfl (by first | exact Le.refl _ | exact Le.nils | exact Le.row _ _ _ _ | exact Le.of_eq (by first | rfl | (simp; done) | (push_cast; rfl) | (simp; omega))) .nil), (.cons rfl (Le.refl _) (.cons rfl (Le.refl _) (.cons rfl (Le.refl _) .nil)))⟩
  try simp only [zA, zO, zN, zM, zP, zQ, zD, zF, gd] at hb41
  have hx := right_yes hv1 hv2 hv3 fun j hj => hall j hj (by omega)
  refine AC_exit ?_
  refine AC_seq ?_
  refine AC_seq ?_
  refine AC_region ?_
  refine AL_p rfl rfl (S_field 0 rfl (.tmp rfl) (by kernel_rfl)) ?_
  refine AL_p rfl rfl (S_load 0 rfl (.tmp rfl) rfl rfl (by kernel_rfl)) ?_
  refine AL_p rfl rfl (S_elemA (e := 62) (len := 24) (i := e.verb) 3 rfl (AEv.global _) (.tmp rfl) (by kernel_rfl) (by kernel_rfl) (by omega) (by omega)) ?_
  refine AL_p rfl rfl (S_field 2 rfl (.tmp rfl) (by kernel_rfl)) ?_
  refine AL_p rfl rfl (S_loadK (vs := verbsV) (u := .int .i64 (verbA e.verb.toNat).2.2) rfl (.tmp rfl) (List.mem_cons_of_mem _ (hG _ tab_verbs)) (verbs_data (by omega) (by omega)) (by kernel_rfl)) ?_
  refine AL_nil ?_
  refine AC_block ?_
  refine AC_seq ?_
  refine AC_region ?_
  refine AL_p rfl rfl (S_eql rfl (.tmp rfl) (AEv.const _)) ?_
  refine AL_p rfl rfl (S_assign rfl (.tmp rfl)) ?_
  refine AL_nil ?_
  refine AC_cond (.tmp rfl) (fun hb50 => ?_) (fun hb50 => ?_)
  · try simp only [zA, zO, zN, zM, zP, zQ, zD, zF, gd] at hb50
    have hk : (verbA e.verb.toNat).2.2 = 1 := hb50
    rw [dataB, if_pos hk] at hx
    refine AC_seq ?_
    refine AC_region ?_
    refine AL_p rfl rfl (S_field 2 rfl (.tmp rfl) (by kernel_rfl)) ?_
    refine AL_p rfl rfl (S_load 0 rfl (.tmp rfl) rfl rfl (by kernel_rfl)) ?_
    refine AL_p rfl rfl (S_neS rfl (.tmp rfl) (AEv.S _)) ?_
    refine AL_p rfl rfl (S_move rfl (.tmp rfl)) ?_
    refine AL_g rfl rfl (.tmp rfl) rfl (fun hg51 => S_field 2 rfl (.tmp rfl) (by kernel_rfl)) ?_
    refine AL_g rfl rfl (.tmp rfl) rfl (fun hg54 => S_load 0 rfl (AEv.cond (.tmp rfl) (by first | assumption | exact gdAnd (by assumption) (by assumption))) rfl rfl (by kernel_rfl)) ?_
    refine AL_g rfl rfl (.tmp rfl) rfl (fun hg57 => S_lenS (ts := #[]) rfl (AEv.cond (.tmp rfl) (by first | assumption | exact gdAnd (by assumption) (by assumption))) (by kernel_rfl)) ?_
    refine AL_g rfl rfl (.tmp rfl) rfl (fun hg60 => S_leq rfl (AEv.cond (.tmp rfl) (by first | assumption | exact gdAnd (by assumption) (by assumption))) (AEv.const _)) ?_
    refine AL_p rfl rfl (S_and rfl (.tmp rfl) (fun hp63 => (AEv.cond (.tmp rfl) (by first | assumption | exact gdT hp63 | exact gdF hp63 | exact gdAnd (by assumption) (gdT hp63) | exact gdAnd (by assumption) (gdF hp63))))) ?_
    refine AL_p rfl rfl (S_assign rfl (.tmp rfl)) ?_
    refine AL_nil ?_
    refine AC_ret ?_
    refine ret_tmp st rfl rfl (Sub.l (List.sublist_cons_self _ _)) (Conv.refl (Sub.l (List.sublist_cons_self _ _)) _) ⟨congrArg AV.bool (by rw [hx]; simp), rfl⟩ (.inl rfl)
  try simp only [zA, zO, zN, zM, zP, zQ, zD, zF, gd] at hb50
  have hk1 : ¬ (verbA e.verb.toNat).2.2 = 1 := hb50
  refine AC_seq ?_
  refine AC_region ?_
  refine AL_p rfl rfl (S_eql rfl (.tmp rfl) (AEv.const _)) ?_
  refine AL_p rfl rfl (S_assign rfl (.tmp rfl)) ?_
  refine AL_nil ?_
  refine AC_cond (.tmp rfl) (fun hb64 => ?_) (fun hb64 => ?_)
  · try simp only [zA, zO, zN, zM, zP, zQ, zD, zF, gd] at hb64
    have hk : (verbA e.verb.toNat).2.2 = 2 := hb64
    rw [dataB, if_neg hk1, if_pos hk] at hx
    refine AC_seq ?_
    refine AC_region ?_
    refine AL_p rfl rfl (S_field 2 rfl (.tmp rfl) (by kernel_rfl)) ?_
    refine AL_p rfl rfl (S_load 0 rfl (.tmp rfl) rfl rfl (by kernel_rfl)) ?_
    refine AL_p rfl rfl (S_gcall rfl (AEvs.cons (.tmp rfl) AEvs.nil) ((text_Name_ok e.data) _ (fun p hp => by first | exact hG p hp | exact List.mem_cons_of_mem _ (hG p hp)))) ?_
    refine AL_p rfl rfl (S_eql rfl (.tmp rfl) (AEv.const _)) ?_
    refine AL_p rfl rfl (S_assign rfl (.tmp rfl)) ?_
    refine AL_nil ?_
    refine AC_ret ?_
    refine ret_tmp st rfl rfl (Sub.l (List.sublist_cons_self _ _)) (Conv.refl (Sub.l (List.sublist_cons_self _ _)) _) ⟨congrArg AV.bool (by rw [hx]; simp [saysV]), rfl⟩ (.inl rfl)
  try simp only [zA, zO, zN, zM, zP, zQ, zD, zF, gd] at hb64
  have hk2 : ¬ (verbA e.verb.toNat).2.2 = 2 := hb64
  rw [dataB, if_neg hk1, if_neg hk2] at hx
  refine AC_skip ?_
  refine AC_seq ?_
  refine AC_region ?_
  refine AL_p rfl rfl (S_field 2 rfl (.tmp rfl) (by kernel_rfl)) ?_
  refine AL_p rfl rfl (S_load 0 rfl (.tmp rfl) rfl rfl (by kernel_rfl)) ?_
  refine AL_p rfl rfl (S_eqS rfl (.tmp rfl) (AEv.S _)) ?_
  refine AL_p rfl rfl (S_assign rfl (.tmp rfl)) ?_
  refine AL_nil ?_
  refine AC_ret ?_
  refine ret_tmp st rfl rfl (Sub.l (List.sublist_cons_self _ _)) (Conv.refl (Sub.l (List.sublist_cons_self _ _)) _) ⟨congrArg AV.bool (by rw [hx]), rfl⟩ (.inl rfl)

end Go.Proofs.YtfpkefhjomeeeaaDoor

/-
The walks of Go functions in the logic AL: what each of them answers.
Conditions: those of each theorem.
-/
set_option linter.unusedVariables false
set_option linter.unusedSimpArgs false
namespace Go.Proofs.YtfpkefhjomeeeaaDoor
open Go.AL Go.NumSpec

set_option maxRecDepth 100000 in
/-- provost/provostref45.numbers -/
theorem ref45_numbers_ok : PCalls Tryd.prog 23 [] (.sl (intsV numbersI)) := by
  intro st
  refine ACalls_of (N := 2) Tryd.func23 (by kernel_rfl) rfl rfl rfl ?_
  refine AC_seq ?_
  refine AC_region ?_
  refine AL_p rfl rfl (S_assign rfl (AEv.const _)) ?_
  refine AL_nil ?_
  refine AC_seq ?_
  refine AC_region ?_
  refine AL_p rfl rfl (S_buildSlice (e := 3) 1 rfl (AEvs.cons (AEv.const _) (AEvs.cons (AEv.const _) (AEvs.cons (AEv.const _) (AEvs.cons (AEv.const _) (AEvs.cons (AEv.const _) (AEvs.cons (AEv.const _) (AEvs.cons (AEv.const _) (AEvs.cons (AEv.const _) (AEvs.cons (AEv.const _) (AEvs.cons (AEv.const _) (AEvs.cons (AEv.const _) (AEvs.cons (AEv.const _) (AEvs.cons (AEv.const _) (AEvs.cons (AEv.const _) (AEvs.cons (AEv.const _) (AEvs.cons (AEv.const _) (AEvs.cons (AEv.const _) (AEvs.cons (AEv.const _) (AEvs.cons (AEv.const _) (AEvs.cons (AEv.const _) (AEvs.cons (AEv.const _) (AEvs.cons (AEv.const _) (AEvs.cons (AEv.const _) (AEvs.cons (AEv.const _) AEvs.nil)))))))))))))))))))))))) rfl (by kernel_rfl) (by kernel_rfl) (by intro y hy; simp only [List.mem_cons, List.not_mem_nil, or_false] at hy; rcases hy with rfl | rfl | rfl | rfl | rfl | rfl | rfl | rfl | rfl | rfl | rfl | rfl | rfl | rfl | rfl | rfl | rfl | rfl | rfl | rfl | rfl | rfl | rfl | rfl <;> exact ⟨rfl, rfl⟩) (by decide) (by decide) (by decide)) ?_
  refine AL_p rfl rfl (S_assign rfl (.tmp rfl)) ?_
  refine AL_nil ?_
  refine AC_ret ?_
  refine ret_tmp st rfl rfl (Sub.l (List.Sublist.refl _)) (Conv.refl (Sub.l (List.Sublist.refl _)) _) ⟨rfl, rfl⟩ (.inl rfl)

set_option maxRecDepth 100000 in
/-- provost/provostref45.Right -/
theorem ref45_Right_ok (e : Ent) (hn : e.n.length ≤ 1000000) (hd : e.data.length ≤ 1000000) : PCalls Tryd.prog 8 [entAV e] (.bool (rightB e)) := by
  intro st
  refine ACalls_of (N := 71) Tryd.func8 (by kernel_rfl) rfl rfl rfl ?_
  refine AC_seq ?_
  refine AC_region ?_
  refine AL_step rfl rfl (S_box rfl (.tmp rfl)) ?_
  rintro _ _ ⟨b1, rfl, rfl⟩
  refine AL_p rfl rfl (S_assign rfl (AEv.const _)) ?_
  refine AL_nil ?_
  refine AC_seq ?_
  refine AC_seq ?_
  refine AC_draw (by kernel_rfl) (by kernel_rfl) (.cons rfl (Q_p rfl (S_field 0 rfl (.tmp rfl) (by kernel_rfl))) <|
      .cons rfl (Q_p rfl (S_load 0 rfl (.tmp rfl) rfl rfl (by kernel_rfl))) <|
      .cons rfl (Q_p rfl (S_lss rfl (.tmp rfl) (AEv.const _))) <|
      .cons rfl (Q_p rfl (S_move rfl (.tmp rfl))) <|
      .cons rfl (Q_g rfl rfl (.tmp rfl) (fun hg2 => S_field 0 rfl (.tmp rfl) (by kernel_rfl))) <|
      .cons rfl (Q_g rfl rfl (.tmp rfl) (fun hg5 => S_load 0 rfl (AEv.cond (.tmp rfl) (by first | assumption | exact gdAnd (by assumption) (by assumption))) rfl rfl (by kernel_rfl))) <|
      .cons rfl (Q_g rfl rfl (.tmp rfl) (fun hg8 => S_gtr rfl (AEv.cond (.tmp rfl) (by first | assumption | exact gdAnd (by assumption) (by assumption))) (AEv.const _))) <|
      .cons rfl (Q_p rfl (S_or rfl (.tmp rfl) (fun hp11 => (AEv.cond (.tmp rfl) (by first | assumption | exact gdT hp11 | exact gdF hp11 | exact gdAnd (by assumption) (gdT hp11) | exact gdAnd (by assumption) (gdF hp11)))))) <|
      .cons rfl (Q_p rfl (S_move rfl (.tmp rfl))) <|
      .cons rfl (Q_g rfl rfl (.tmp rfl) (fun hg12 => S_field 1 rfl (.tmp rfl) (by kernel_rfl))) <|
      .cons rfl (Q_g rfl rfl (.tmp rfl) (fun hg15 => S_load 0 rfl (AEv.cond (.tmp rfl) (by first | assumption | exact gdAnd (by assumption) (by assumption))) rfl rfl (by kernel_rfl))) <|
      .cons rfl (Q_g rfl rfl (.tmp rfl) (fun hg18 => by first | exact S_lenM (e := 3) rfl (AEv.cond (.tmp rfl) (by first | assumption | exact gdAnd (by assumption) (by assumption))) (by kernel_rfl) | exact S_len (e := 3) rfl (AEv.cond (.tmp rfl) (by first | assumption | exact gdAnd (by assumption) (by assumption))) (by kernel_rfl))) <|
      .cons rfl (Q_g rfl rfl (.tmp rfl) (fun hg21 => S_pcall rfl AEvs.nil (ref45_numbers_ok))) <|
      .cons rfl (Q_g rfl rfl (.tmp rfl) (fun hg24 => S_field 0 rfl (.tmp rfl) (by kernel_rfl))) <|
      .cons rfl (Q_g rfl rfl (.tmp rfl) (fun hg27 => S_load 0 rfl (AEv.cond (.tmp rfl) (by first | assumption | exact gdAnd (by assumption) (by assumption))) rfl rfl (by kernel_rfl))) <|
      .cons rfl (Q_g rfl rfl (.tmp rfl) (fun hg30 => S_elemD (e := 3) (i := e.verb.toNat) (f := (fun n : Int => AV.int .i64 n)) (l := numbersI) (0 : Int) 1 rfl (AEv.cond (.tmp rfl) (by first | assumption | exact gdAnd (by assumption) (by assumption))) ((AEv.cond (.tmp rfl) (by first | assumption | exact gdAnd (by assumption) (by assumption))).le (Le.of_eq (congrArg (AV.int _) (by (try simp only [gd, Bool.and_eq_true, Bool.or_eq_true, Bool.not_eq_true', Bool.not_eq_false', decide_eq_true_eq, decide_eq_false_iff_not, Bool.or_eq_false_iff, Bool.and_eq_false_iff] at *); omega)))) (by kernel_rfl) (by kernel_rfl) (by rw [numbers_len]; (try simp only [gd, Bool.and_eq_true, Bool.or_eq_true, Bool.not_eq_true', Bool.not_eq_false', decide_eq_true_eq, decide_eq_false_iff_not, Bool.or_eq_false_iff, Bool.and_eq_false_iff] at *); omega) (fun _ => rfl))) <|
      .cons rfl (Q_g rfl rfl (.tmp rfl) (fun hg33 => S_loadP rfl (AEv.cond (.tmp rfl) (by first | assumption | exact gdAnd (by assumption) (by assumption))) rfl (by kernel_rfl))) <|
      .cons rfl (Q_g rfl rfl (.tmp rfl) (fun hg36 => S_neq rfl (AEv.cond (.tmp rfl) (by first | assumption | exact gdAnd (by assumption) (by assumption))) (AEv.cond (.tmp rfl) (by first | assumption | exact gdAnd (by assumption) (by assumption))))) <|
      .cons rfl (Q_p rfl (S_or rfl (.tmp rfl) (fun hp39 => (AEv.cond (.tmp rfl) (by first | assumption | exact gdT hp39 | exact gdF hp39 | exact gdAnd (by assumption) (gdT hp39) | exact gdAnd (by assumption) (gdF hp39)))))) <|
      .nil) ?_
  refine AC_cond (.tmp rfl) (fun hb40 => ?_) (fun hb40 => ?_)
  · try simp only [zA, zO, zN, zM, zP, zQ, zD, zF, gd] at hb40
    have hx := right_no (e := e) (by rw [numbers_at] at hb40; omega)
    refine AC_seq ?_
    refine AC_region ?_
    refine AL_p rfl rfl (S_assign rfl (AEv.const _)) ?_
    refine AL_nil ?_
    refine AC_ret ?_
    refine ret_tmp st rfl rfl (Sub.l (List.sublist_cons_self _ _)) (Conv.refl (Sub.l (List.sublist_cons_self _ _)) _) ⟨by rw [hx], rfl⟩ (.inl rfl)
  try simp only [zA, zO, zN, zM, zP, zQ, zD, zF, gd] at hb40
  rw [numbers_at] at hb40
  have hv1 : 1 ≤ e.verb := by omega
  have hv2 : e.verb < 24 := by omega
  have hv3 : (e.n.length : Int) = (verbA e.verb.toNat).2.1 := by omega
  refine AC_skip ?_
  refine AC_seq ?_
  refine AC_seq ?_
  refine AC_region ?_
  refine AL_p rfl rfl (S_assign rfl (AEv.const _)) ?_
  refine AL_nil ?_
  refine AC_block ?_
  refine AC_loopK (G := Nat) [(1, _)] (fun g => g ≤ e.n.length ∧ ∀ j (hj : j < e.n.length), j < g → 0 ≤ e.n[j] ∧ e.n[j] ≤ 1073741824) (fun g => [(3, .int .i64 (g : Int))]) (fun g => (b1, .cells (entL e)) :: st) (fun g => e.n.length - g) (0) (⟨Nat.zero_le _, fun j _ h => absurd h (Nat.not_lt_zero _)⟩) (Sub.l (List.Sublist.refl _)) (.cons rfl (Le.refl _) .nil) (.cons rfl (by first | exact Le.refl _ | exact Le.nils | exact Le.row _ _ _ _ | exact Le.of_eq (by first | rfl | (simp; done) | (push_cast; rfl) | (simp; omega))) .nil) ?_
  rintro i ⟨hi, hall⟩
  try dsimp only
  simp only [List.cons_append, List.nil_append]
  refine AC_seq ?_
  refine AC_seq ?_
  refine AC_region ?_
  refine AL_p rfl rfl (S_move rfl (.tmp rfl)) ?_
  refine AL_p rfl rfl (S_field 1 rfl (.tmp rfl) (by kernel_rfl)) ?_
  refine AL_p rfl rfl (S_load 0 rfl (.tmp rfl) rfl rfl (by kernel_rfl)) ?_
  refine AL_p rfl rfl (by first | exact S_lenM (e := 3) rfl (.tmp rfl) (by kernel_rfl) | exact S_len (e := 3) rfl (.tmp rfl) (by kernel_rfl)) ?_
  refine AL_p rfl rfl (S_lss rfl (.tmp rfl) (.tmp rfl)) ?_
  refine AL_nil ?_
  refine AC_cond (.tmp rfl) (fun hb41 => ?_) (fun hb41 => ?_)
  · try simp only [zA, zO, zN, zM, zP, zQ, zD, zF, gd] at hb41
    have hil : i < e.n.length := by omega
    have hgd : e.n.getD i 0 = (e.n[i]'hil) := by rw [List.getD_eq_getElem?_getD, List.getElem?_eq_getElem hil]; rfl
    refine AC_skip ?_
    refine AC_seq ?_
    refine AC_block ?_
    refine AC_seq ?_
    refine AC_region ?_
    refine AL_p rfl rfl (S_field 1 rfl (.tmp rfl) (by kernel_rfl)) ?_
    refine AL_p rfl rfl (S_load 0 rfl (.tmp rfl) rfl rfl (by kernel_rfl)) ?_
    refine AL_p rfl rfl (S_move rfl (.tmp rfl)) ?_
    refine AL_p rfl rfl (S_elemN (e := 3) 1 rfl (.tmp rfl) (.tmp rfl) (by kernel_rfl) (by kernel_rfl) (by omega) (fun _ => rfl)) ?_
    refine AL_p rfl rfl (S_loadP rfl (.tmp rfl) rfl (by kernel_rfl)) ?_
    refine AL_p rfl rfl (S_lss rfl (.tmp rfl) (AEv.const _)) ?_
    refine AL_p rfl rfl (S_move rfl (.tmp rfl)) ?_
    refine AL_g rfl rfl (.tmp rfl) rfl (fun hg42 => S_field 1 rfl (.tmp rfl) (by kernel_rfl)) ?_
    refine AL_g rfl rfl (.tmp rfl) rfl (fun hg45 => S_load 0 rfl (AEv.cond (.tmp rfl) (by first | assumption | exact gdAnd (by assumption) (by assumption))) rfl rfl (by kernel_rfl)) ?_
    refine AL_g rfl rfl (.tmp rfl) rfl (fun hg48 => S_move rfl (.tmp rfl)) ?_
    refine AL_g rfl rfl (.tmp rfl) rfl (fun hg51 => S_elemD (e := 3) (0 : Int) 1 rfl (AEv.cond (.tmp rfl) (by first | assumption | exact gdAnd (by assumption) (by assumption))) (AEv.cond (.tmp rfl) (by first | assumption | exact gdAnd (by assumption) (by assumption))) (by kernel_rfl) (by kernel_rfl) (by (try simp only [gd, Bool.and_eq_true, Bool.or_eq_true, Bool.not_eq_true', Bool.not_eq_false', decide_eq_true_eq, decide_eq_false_iff_not, Bool.or_eq_false_iff, Bool.and_eq_false_iff] at *); omega) (fun _ => rfl)) ?_
    refine AL_g rfl rfl (.tmp rfl) rfl (fun hg54 => S_loadP rfl (AEv.cond (.tmp rfl) (by first | assumption | exact gdAnd (by assumption) (by assumption))) rfl (by kernel_rfl)) ?_
    refine AL_g rfl rfl (.tmp rfl) rfl (fun hg57 => S_gtr rfl (AEv.cond (.tmp rfl) (by first | assumption | exact gdAnd (by assumption) (by assumption))) (AEv.const _)) ?_
    refine AL_p rfl rfl (S_or rfl (.tmp rfl) (fun hp60 => (AEv.cond (.tmp rfl) (by first | assumption | exact gdT hp60 | exact gdF hp60 | exact gdAnd (by assumption) (gdT hp60) | exact gdAnd (by assumption) (gdF hp60))))) ?_
    refine AL_nil ?_
    refine AC_cond (.tmp rfl) (fun hb61 => ?_) (fun hb61 => ?_)
    · try simp only [zA, zO, zN, zM, zP, zQ, zD, zF, gd] at hb61
      rw [hgd] at hb61
      have hx := right_num hil (by omega)
      refine AC_seq ?_
      refine AC_region ?_
      refine AL_p rfl rfl (S_assign rfl (AEv.const _)) ?_
      refine AL_nil ?_
      refine AC_ret ?_
      refine ret_tmp st rfl rfl (Sub.l (List.sublist_cons_self _ _)) (Conv.refl (Sub.l (List.sublist_cons_self _ _)) _) ⟨by rw [hx], rfl⟩ (.inl rfl)
    try simp only [zA, zO, zN, zM, zP, zQ, zD, zF, gd] at hb61
    rw [hgd] at hb61
    have hin : 0 ≤ e.n[i] ∧ e.n[i] ≤ 1073741824 := by omega
    refine AC_skip ?_
    refine AC_region ?_
    refine AL_p rfl rfl (S_move rfl (.tmp rfl)) ?_
    refine AL_p rfl rfl (S_addI rfl (.tmp rfl) (AEv.const _) (by omega) (by omega)) ?_
    refine AL_p rfl rfl (S_assign rfl (.tmp rfl)) ?_
    refine AL_nil ?_
    exact ⟨i + 1, ⟨by omega, fun j hj h => by
      rcases Nat.lt_or_ge j i with h9 | h9
      · exact hall j hj h9
      · have e9 : j = i := by omega
        subst e9; exact hin⟩, by omega, (Sub.l (List.Sublist.refl _)), (.cons rfl (by first | exact Le.refl _ | exact Le.nils | exact Le.row _ _ _ _ | exact Le.of_eq (by first | rfl | (simp; done) | (push_cast; rfl) | (simp; omega))) .nil), (.cons rfl (Le.refl _) .nil)⟩
  try simp only [zA, zO, zN, zM, zP, zQ, zD, zF, gd] at hb41
  have hx := right_yes hv1 hv2 hv3 fun j hj => hall j hj (by omega)
  refine AC_exit ?_
  refine AC_seq ?_
  refine AC_seq ?_
  refine AC_region ?_
  refine AL_p rfl rfl (S_field 0 rfl (.tmp rfl) (by kernel_rfl)) ?_
  refine AL_p rfl rfl (S_load 0 rfl (.tmp rfl) rfl rfl (by kernel_rfl)) ?_
  refine AL_p rfl rfl (S_eql rfl (.tmp rfl) (AEv.const _)) ?_
  refine AL_nil ?_
  refine AC_cond (.tmp rfl) (fun hb62 => ?_) (fun hb62 => ?_)
  · try simp only [zA, zO, zN, zM, zP, zQ, zD, zF, gd] at hb62
    rw [dataB, if_pos ((kind_hex hv1 hv2).2 hb62)] at hx
    refine AC_seq ?_
    refine AC_region ?_
    refine AL_p rfl rfl (S_field 2 rfl (.tmp rfl) (by kernel_rfl)) ?_
    refine AL_p rfl rfl (S_load 0 rfl (.tmp rfl) rfl rfl (by kernel_rfl)) ?_
    refine AL_p rfl rfl (S_lenS (ts := #[]) rfl (.tmp rfl) (by kernel_rfl)) ?_
    refine AL_p rfl rfl (S_geq rfl (.tmp rfl) (AEv.const _)) ?_
    refine AL_p rfl rfl (S_move rfl (.tmp rfl)) ?_
    refine AL_g rfl rfl (.tmp rfl) rfl (fun hg63 => S_field 2 rfl (.tmp rfl) (by kernel_rfl)) ?_
    refine AL_g rfl rfl (.tmp rfl) rfl (fun hg66 => S_load 0 rfl (AEv.cond (.tmp rfl) (by first | assumption | exact gdAnd (by assumption) (by assumption))) rfl rfl (by kernel_rfl)) ?_
    refine AL_g rfl rfl (.tmp rfl) rfl (fun hg69 => S_lenS (ts := #[]) rfl (AEv.cond (.tmp rfl) (by first | assumption | exact gdAnd (by assumption) (by assumption))) (by kernel_rfl)) ?_
    refine AL_g rfl rfl (.tmp rfl) rfl (fun hg72 => S_leq rfl (AEv.cond (.tmp rfl) (by first | assumption | exact gdAnd (by assumption) (by assumption))) (AEv.const _)) ?_
    refine AL_p rfl rfl (S_and rfl (.tmp rfl) (fun hp75 => (AEv.cond (.tmp rfl) (by first | assumption | exact gdT hp75 | exact gdF hp75 | exact gdAnd (by assumption) (gdT hp75) | exact gdAnd (by assumption) (gdF hp75))))) ?_
    refine AL_p rfl rfl (S_assign rfl (.tmp rfl)) ?_
    refine AL_nil ?_
    refine AC_ret ?_
    refine ret_tmp st rfl rfl (Sub.l (List.sublist_cons_self _ _)) (Conv.refl (Sub.l (List.sublist_cons_self _ _)) _) ⟨congrArg AV.bool (by rw [hx]; first | exact hex_len | (simpa using hex_len)), rfl⟩ (.inl rfl)
  try simp only [zA, zO, zN, zM, zP, zQ, zD, zF, gd] at hb62
  have hk1 : ¬ (verbA e.verb.toNat).2.2 = 1 := fun h => hb62 ((kind_hex hv1 hv2).1 h)
  refine AC_skip ?_
  refine AC_seq ?_
  refine AC_seq ?_
  refine AC_region ?_
  refine AL_p rfl rfl (S_field 0 rfl (.tmp rfl) (by kernel_rfl)) ?_
  refine AL_p rfl rfl (S_load 0 rfl (.tmp rfl) rfl rfl (by kernel_rfl)) ?_
  refine AL_p rfl rfl (S_eql rfl (.tmp rfl) (AEv.const _)) ?_
  refine AL_p rfl rfl (S_move rfl (.tmp rfl)) ?_
  refine AL_g rfl rfl (.tmp rfl) rfl (fun hg76 => S_field 0 rfl (.tmp rfl) (by kernel_rfl)) ?_
  refine AL_g rfl rfl (.tmp rfl) rfl (fun hg79 => S_load 0 rfl (AEv.cond (.tmp rfl) (by first | assumption | exact gdAnd (by assumption) (by assumption))) rfl rfl (by kernel_rfl)) ?_
  refine AL_g rfl rfl (.tmp rfl) rfl (fun hg82 => S_eql rfl (AEv.cond (.tmp rfl) (by first | assumption | exact gdAnd (by assumption) (by assumption))) (AEv.const _)) ?_
  refine AL_p rfl rfl (S_or rfl (.tmp rfl) (fun hp85 => (AEv.cond (.tmp rfl) (by first | assumption | exact gdT hp85 | exact gdF hp85 | exact gdAnd (by assumption) (gdT hp85) | exact gdAnd (by assumption) (gdF hp85))))) ?_
  refine AL_nil ?_
  refine AC_cond (.tmp rfl) (fun hb86 => ?_) (fun hb86 => ?_)
  · try simp only [zA, zO, zN, zM, zP, zQ, zD, zF, gd] at hb86
    rw [dataB, if_neg hk1, if_pos ((kind_name hv1 hv2).2 hb86)] at hx
    refine AC_seq ?_
    refine AC_region ?_
    refine AL_p rfl rfl (S_field 2 rfl (.tmp rfl) (by kernel_rfl)) ?_
    refine AL_p rfl rfl (S_load 0 rfl (.tmp rfl) rfl rfl (by kernel_rfl)) ?_
    refine AL_p rfl rfl (S_pcall rfl (AEvs.cons (.tmp rfl) AEvs.nil) (ref03_Name_ok e.data hd)) ?_
    refine AL_p rfl rfl (S_assign rfl (.tmp rfl)) ?_
    refine AL_nil ?_
    refine AC_ret ?_
    refine ret_tmp st rfl rfl (Sub.l (List.sublist_cons_self _ _)) (Conv.refl (Sub.l (List.sublist_cons_self _ _)) _) ⟨congrArg AV.bool (by rw [hx]), rfl⟩ (.inl rfl)
  try simp only [zA, zO, zN, zM, zP, zQ, zD, zF, gd] at hb86
  rw [dataB, if_neg hk1, if_neg fun h => by have := (kind_name hv1 hv2).1 h; omega] at hx
  refine AC_skip ?_
  refine AC_seq ?_
  refine AC_region ?_
  refine AL_p rfl rfl (S_field 2 rfl (.tmp rfl) (by kernel_rfl)) ?_
  refine AL_p rfl rfl (S_load 0 rfl (.tmp rfl) rfl rfl (by kernel_rfl)) ?_
  refine AL_p rfl rfl (S_eqS rfl (.tmp rfl) (AEv.S _)) ?_
  refine AL_p rfl rfl (S_assign rfl (.tmp rfl)) ?_
  refine AL_nil ?_
  refine AC_ret ?_
  refine ret_tmp st rfl rfl (Sub.l (List.sublist_cons_self _ _)) (Conv.refl (Sub.l (List.sublist_cons_self _ _)) _) ⟨congrArg AV.bool (by rw [hx]), rfl⟩ (.inl rfl)

end Go.Proofs.YtfpkefhjomeeeaaDoor
