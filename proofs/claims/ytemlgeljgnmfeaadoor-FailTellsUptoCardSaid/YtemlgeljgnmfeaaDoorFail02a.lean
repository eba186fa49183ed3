/-
Closed facts of this program: what the model's entries for internal/reflectlite answer at its types; the error values of package fail as abstract values.
Conditions: none.
-/
import Derived.Test.YtemlgeljgnmfeaaDoorProg
import Derived.Test.YtemlgeljgnmfeaaDoorAlErr
import Derived.Test.YtemlgeljgnmfeaaDoorAlRow
set_option linter.unusedVariables false
set_option linter.unusedSimpArgs false
namespace Go.Proofs.YtemlgeljgnmfeaaDoor
open Go.AL Go.NumSpec Go.Extern Go.RowKit Go.Stop

abbrev hv (t : Nat) : Value := .pointer (some ⟨2, t, none⟩)
abbrev ty (t : Nat) : Value := .iface 78 (.agg #[hv t])
abbrev rv (t : Nat) (a : Nat) (fl : Int) : Value := .agg #[hv t, .pointer (some ⟨a, 0, none⟩), .int .u64 fl]
abbrev tabs : List (Nat × List Value) := [(0, [ty 24])]

/-! functions without text -/
theorem x23 : ExtOf Tryd.prog 23 (fun args => ReflectliteValue.unpack (args.getD 0 (.tuple #[]))) := ⟨_, Tryd.func23, by kernel_rfl, by kernel_rfl, by kernel_rfl, by kernel_rfl⟩
theorem x24 : ExtOf Tryd.prog 24 (ReflectliteValue.methodAny (ReflectliteValue.valueError "reflectlite.Value.Type" 0) (fun t _ _ _ => ReflectliteType.toType t)) := ⟨_, Tryd.func24, by kernel_rfl, by kernel_rfl, by kernel_rfl, by kernel_rfl⟩
theorem x25 : ExtOf Tryd.prog 25 (ReflectliteValue.method (ReflectliteValue.valueError "reflectlite.Value.IsNil" 0) ReflectliteValue.isNil) := ⟨_, Tryd.func25, by kernel_rfl, by kernel_rfl, by kernel_rfl, by kernel_rfl⟩
theorem x30 : ExtOf Tryd.prog 30 ReflectliteType.typeOf := ⟨_, Tryd.func30, by kernel_rfl, by kernel_rfl, by kernel_rfl, by kernel_rfl⟩
theorem x32 : ExtOf Tryd.prog 32 (ReflectliteValue.method (ReflectliteValue.valueError "reflectlite.Value.Elem" 0) ReflectliteValue.elem) := ⟨_, Tryd.func32, by kernel_rfl, by kernel_rfl, by kernel_rfl, by kernel_rfl⟩
theorem x33 : ExtOf Tryd.prog 33 ReflectliteValue.set := ⟨_, Tryd.func33, by kernel_rfl, by kernel_rfl, by kernel_rfl, by kernel_rfl⟩
theorem x52 : ExtOf Tryd.prog 52 (ReflectliteType.abiMethod fun t => do pure (.int .u8 (← Rtype.kind t))) := ⟨_, Tryd.func52, by kernel_rfl, by kernel_rfl, by kernel_rfl, by kernel_rfl⟩
theorem x63 : ExtOf Tryd.prog 63 (ReflectliteType.relation "AssignableTo" ReflectliteType.assignableTo) := ⟨_, Tryd.func63, by kernel_rfl, by kernel_rfl, by kernel_rfl, by kernel_rfl⟩
theorem x64 : ExtOf Tryd.prog 64 (ReflectliteType.method fun t => do Rtype.noPackHeld "Comparable" t; pure (.bool (← typeInfo t).comparable)) := ⟨_, Tryd.func64, by kernel_rfl, by kernel_rfl, by kernel_rfl, by kernel_rfl⟩
theorem x65 : ExtOf Tryd.prog 65 (ReflectliteType.method ReflectliteType.elem) := ⟨_, Tryd.func65, by kernel_rfl, by kernel_rfl, by kernel_rfl, by kernel_rfl⟩
theorem x66 : ExtOf Tryd.prog 66 (ReflectliteType.relation "Implements" ReflectliteType.implements_) := ⟨_, Tryd.func66, by kernel_rfl, by kernel_rfl, by kernel_rfl, by kernel_rfl⟩

/-! methods -/
theorem mKind (t : Nat) (w : World) : (Go.method (Tryd.prog.types.size + Made.depth) 78 (.agg #[hv t]) "Kind").run Tryd.prog w = .ok (52, hv t) w := by kernel_rfl
theorem mElem (t : Nat) (w : World) : (Go.method (Tryd.prog.types.size + Made.depth) 78 (.agg #[hv t]) "Elem").run Tryd.prog w = .ok (65, .agg #[hv t]) w := by kernel_rfl
theorem mImpl (t : Nat) (w : World) : (Go.method (Tryd.prog.types.size + Made.depth) 78 (.agg #[hv t]) "Implements").run Tryd.prog w = .ok (66, .agg #[hv t]) w := by kernel_rfl
theorem mAssign (t : Nat) (w : World) : (Go.method (Tryd.prog.types.size + Made.depth) 78 (.agg #[hv t]) "AssignableTo").run Tryd.prog w = .ok (63, .agg #[hv t]) w := by kernel_rfl
theorem mComp (t : Nat) (w : World) : (Go.method (Tryd.prog.types.size + Made.depth) 78 (.agg #[hv t]) "Comparable").run Tryd.prog w = .ok (64, .agg #[hv t]) w := by kernel_rfl
theorem mUnwrap (u : Value) (w : World) : (Go.method (Tryd.prog.types.size + Made.depth) 49 u "Unwrap").run Tryd.prog w = .ok (57, u) w := by kernel_rfl

/-! entries that answer plain values -/
abbrev kindE := ReflectliteType.abiMethod fun t => do pure (.int .u8 (← Rtype.kind t))
theorem k48 (w : World) : (kindE #[hv 48]).run Tryd.prog w = .ok (.int .u8 22) w := by kernel_rfl
theorem k52 (w : World) : (kindE #[hv 52]).run Tryd.prog w = .ok (.int .u8 22) w := by kernel_rfl
theorem k27 (w : World) : (kindE #[hv 27]).run Tryd.prog w = .ok (.int .u8 2) w := by kernel_rfl
theorem k49 (w : World) : (kindE #[hv 49]).run Tryd.prog w = .ok (.int .u8 22) w := by kernel_rfl
theorem e48 (w : World) : (ReflectliteType.method ReflectliteType.elem #[.agg #[hv 48]]).run Tryd.prog w = .ok (ty 27) w := by kernel_rfl
theorem e52 (w : World) : (ReflectliteType.method ReflectliteType.elem #[.agg #[hv 52]]).run Tryd.prog w = .ok (ty 49) w := by kernel_rfl
theorem i27 (w : World) : (ReflectliteType.relation "Implements" ReflectliteType.implements_ #[.agg #[hv 27], ty 24]).run Tryd.prog w = .ok (.bool true) w := by kernel_rfl
theorem i49 (w : World) : (ReflectliteType.relation "Implements" ReflectliteType.implements_ #[.agg #[hv 49], ty 24]).run Tryd.prog w = .ok (.bool true) w := by kernel_rfl
theorem a2727 (w : World) : (ReflectliteType.relation "AssignableTo" ReflectliteType.assignableTo #[.agg #[hv 27], ty 27]).run Tryd.prog w = .ok (.bool true) w := by kernel_rfl
theorem a4949 (w : World) : (ReflectliteType.relation "AssignableTo" ReflectliteType.assignableTo #[.agg #[hv 49], ty 49]).run Tryd.prog w = .ok (.bool true) w := by kernel_rfl
theorem a2749 (w : World) : (ReflectliteType.relation "AssignableTo" ReflectliteType.assignableTo #[.agg #[hv 27], ty 49]).run Tryd.prog w = .ok (.bool false) w := by kernel_rfl
theorem a4927 (w : World) : (ReflectliteType.relation "AssignableTo" ReflectliteType.assignableTo #[.agg #[hv 49], ty 27]).run Tryd.prog w = .ok (.bool false) w := by kernel_rfl
theorem t27 (v : Value) (w : World) : (ReflectliteType.typeOf #[.iface 27 v]).run Tryd.prog w = .ok (ty 27) w := by kernel_rfl
theorem t49 (v : Value) (w : World) : (ReflectliteType.typeOf #[.iface 49 v]).run Tryd.prog w = .ok (ty 49) w := by kernel_rfl
theorem c27 (w : World) : (ReflectliteType.method (fun t => do Rtype.noPackHeld "Comparable" t; pure (.bool (← typeInfo t).comparable)) #[.agg #[hv 27]]).run Tryd.prog w = .ok (.bool true) w := by kernel_rfl
theorem y48 (a : Nat) (w : World) : (ReflectliteValue.methodAny (ReflectliteValue.valueError "reflectlite.Value.Type" 0) (fun t _ _ _ => ReflectliteType.toType t) #[rv 48 a 150]).run Tryd.prog w = .ok (ty 48) w := by kernel_rfl
theorem y52 (a : Nat) (w : World) : (ReflectliteValue.methodAny (ReflectliteValue.valueError "reflectlite.Value.Type" 0) (fun t _ _ _ => ReflectliteType.toType t) #[rv 52 a 150]).run Tryd.prog w = .ok (ty 52) w := by kernel_rfl

/-! entries that take or write memory -/
abbrev unp : Array Value → Sem Value := fun args => ReflectliteValue.unpack (args.getD 0 (.tuple #[]))
theorem v48 (b : Nat) (w : World) : (unp #[.iface 48 (.pointer (some ⟨b, 0, none⟩))]).run Tryd.prog w = .ok (rv 48 w.heap.size 150) (w.alloc (.cells #[.pointer (some ⟨b, 0, none⟩)] 48)) := by kernel_rfl
theorem v52 (b : Nat) (w : World) : (unp #[.iface 52 (.pointer (some ⟨b, 0, none⟩))]).run Tryd.prog w = .ok (rv 52 w.heap.size 150) (w.alloc (.cells #[.pointer (some ⟨b, 0, none⟩)] 52)) := by kernel_rfl
theorem v27 (c : Int) (w : World) : (unp #[.iface 27 (.int .i64 c)]).run Tryd.prog w = .ok (rv 27 w.heap.size 130) (w.alloc (.cells #[.int .i64 c] 27)) := by kernel_rfl
theorem v49 (b : Addr) (w : World) : (unp #[.iface 49 (.pointer (some b))]).run Tryd.prog w = .ok (rv 49 w.heap.size 150) (w.alloc (.cells #[.pointer (some b)] 49)) := by kernel_rfl

theorem rlm (z : Sem Value) (f : TypeId → Addr → Nat → Nat → Sem Value) (v : Value) :
    ReflectliteValue.method z f #[v] = (do match ← ReflectliteValue.parts v with | none => z | some (t, a, fl) => f t a fl (fl % 32)) := rfl
theorem p48 (a : Nat) (w : World) : (ReflectliteValue.parts (rv 48 a 150)).run Tryd.prog w = .ok (some (48, ⟨a, 0, none⟩, 150)) w := by kernel_rfl
theorem p52 (a : Nat) (w : World) : (ReflectliteValue.parts (rv 52 a 150)).run Tryd.prog w = .ok (some (52, ⟨a, 0, none⟩, 150)) w := by kernel_rfl
theorem p27 (a : Nat) (w : World) : (ReflectliteValue.parts (rv 27 a 130)).run Tryd.prog w = .ok (some (27, ⟨a, 0, none⟩, 130)) w := by kernel_rfl
theorem p49 (a : Nat) (w : World) : (ReflectliteValue.parts (rv 49 a 150)).run Tryd.prog w = .ok (some (49, ⟨a, 0, none⟩, 150)) w := by kernel_rfl
theorem p27a (a : Nat) (w : World) : (ReflectliteValue.parts (rv 27 a 386)).run Tryd.prog w = .ok (some (27, ⟨a, 0, none⟩, 386)) w := by kernel_rfl
theorem p49a (a : Nat) (w : World) : (ReflectliteValue.parts (rv 49 a 406)).run Tryd.prog w = .ok (some (49, ⟨a, 0, none⟩, 406)) w := by kernel_rfl
abbrev nilE := ReflectliteValue.method (ReflectliteValue.valueError "reflectlite.Value.IsNil" 0) ReflectliteValue.isNil
theorem n48 (a b : Nat) (w : World) (ha : w.cell? ⟨a, 0, none⟩ = some (.pointer (some ⟨b, 0, none⟩))) : (nilE #[rv 48 a 150]).run Tryd.prog w = .ok (.bool false) w := by
  show (ReflectliteValue.method _ _ _).run _ _ = _
  rw [rlm]
  simp only [Sem.run_bind, p48, Result.andThen]
  simp [ReflectliteValue.isNil, loadVar, isAgg, underlying, Tryd.underlying48, ha, Result.andThen]
theorem n52 (a b : Nat) (w : World) (ha : w.cell? ⟨a, 0, none⟩ = some (.pointer (some ⟨b, 0, none⟩))) : (nilE #[rv 52 a 150]).run Tryd.prog w = .ok (.bool false) w := by
  show (ReflectliteValue.method _ _ _).run _ _ = _
  rw [rlm]
  simp only [Sem.run_bind, p52, Result.andThen]
  simp [ReflectliteValue.isNil, loadVar, isAgg, underlying, Tryd.underlying52, ha, Result.andThen]
theorem el48 (w : World) : (Rtype.elem? 48).run Tryd.prog w = .ok (some 27) w := by kernel_rfl
theorem el52 (w : World) : (Rtype.elem? 52).run Tryd.prog w = .ok (some 49) w := by kernel_rfl
theorem mk27 (p : Addr) (w : World) : (ReflectliteValue.mk 27 p ReflectliteValue.flagAddr).run Tryd.prog w = .ok (.agg #[hv 27, .pointer (some p), .int .u64 386]) w := by kernel_rfl
theorem mk49 (p : Addr) (w : World) : (ReflectliteValue.mk 49 p ReflectliteValue.flagAddr).run Tryd.prog w = .ok (.agg #[hv 49, .pointer (some p), .int .u64 406]) w := by kernel_rfl
abbrev elemE := ReflectliteValue.method (ReflectliteValue.valueError "reflectlite.Value.Elem" 0) ReflectliteValue.elem
theorem l48 (a b : Nat) (w : World) (ha : w.cell? ⟨a, 0, none⟩ = some (.pointer (some ⟨b, 0, none⟩))) : (elemE #[rv 48 a 150]).run Tryd.prog w = .ok (rv 27 b 386) w := by
  show (ReflectliteValue.method _ _ _).run _ _ = _
  rw [rlm]
  simp only [Sem.run_bind, p48, Result.andThen]
  simp [ReflectliteValue.elem, loadVar, isAgg, underlying, Tryd.underlying48, ha, Result.andThen, el48, mk27]
theorem l52 (a b : Nat) (w : World) (ha : w.cell? ⟨a, 0, none⟩ = some (.pointer (some ⟨b, 0, none⟩))) : (elemE #[rv 52 a 150]).run Tryd.prog w = .ok (rv 49 b 406) w := by
  show (ReflectliteValue.method _ _ _).run _ _ = _
  rw [rlm]
  simp only [Sem.run_bind, p52, Result.andThen]
  simp [ReflectliteValue.elem, loadVar, isAgg, underlying, Tryd.underlying52, ha, Result.andThen, el52, mk49]
theorem rls (v x : Value) : ReflectliteValue.set #[v, x] = (do
    let (some (dst, a, fl), some (src, b, _)) := (← ReflectliteValue.parts v, ← ReflectliteValue.parts x)
      | unsupported (.noEntry "extern/(internal/reflectlite.Value).Set.zeroValue")
    if fl / ReflectliteValue.flagAddr % 2 == 0 then unsupported (.noEntry "extern/(internal/reflectlite.Value).Set.unaddressable")
    let val ← loadVar src b
    if ← Rtype.directlyAssignable dst src then storeVar dst a val
    else if ← Rtype.implements dst src then
      if (← Rtype.kind src) == 20 then
        match val with
        | .nilIface => unsupported (.noEntry "extern/reflectlite: a nil value of one interface type handed on as a value of another")
        | _ => storeVar dst a val
      else storeVar dst a (.iface src val)
    else panicString ("reflectlite.Set: value of type " ++ (← Rtype.spelt src) ++ " is not assignable to type " ++ (← Rtype.spelt dst))
    pure (.tuple #[])) := rfl
theorem d27 (w : World) : (Rtype.directlyAssignable 27 27).run Tryd.prog w = .ok true w := by kernel_rfl
theorem d49 (w : World) : (Rtype.directlyAssignable 49 49).run Tryd.prog w = .ok true w := by kernel_rfl
theorem s27 (t b : Nat) (u old : Value) (w : World) (hu : u.cells = #[u]) (h1 : u.oneCell' = true) (hb : w.cell? ⟨b, 0, none⟩ = some u) (ht : w.cell? ⟨t, 0, none⟩ = some old) (hf : w.frozen? ⟨t, 0, none⟩ = false) :
    (ReflectliteValue.set #[rv 27 t 386, rv 27 b 130]).run Tryd.prog w = .ok (.tuple #[]) (w.setCell ⟨t, 0, none⟩ u) := by
  rw [rls]
  simp only [Sem.run_bind, p27a, p27, Result.andThen]
  simp [ReflectliteValue.flagAddr, loadVar, isAgg, underlying, Tryd.underlying27, hb, Result.andThen, d27, storeVar, hu, storeCells, Addr.add]
  rw [run_store Tryd.prog w ⟨t, 0, none⟩ _ _ h1]
  simp [ht, hf]
theorem s49 (t b : Nat) (u old : Value) (w : World) (hu : u.cells = #[u]) (h1 : u.oneCell' = true) (hb : w.cell? ⟨b, 0, none⟩ = some u) (ht : w.cell? ⟨t, 0, none⟩ = some old) (hf : w.frozen? ⟨t, 0, none⟩ = false) :
    (ReflectliteValue.set #[rv 49 t 406, rv 49 b 150]).run Tryd.prog w = .ok (.tuple #[]) (w.setCell ⟨t, 0, none⟩ u) := by
  rw [rls]
  simp only [Sem.run_bind, p49a, p49, Result.andThen]
  simp [ReflectliteValue.flagAddr, loadVar, isAgg, underlying, Tryd.underlying49, hb, Result.andThen, d49, storeVar, hu, storeCells, Addr.add]
  rw [run_store Tryd.prog w ⟨t, 0, none⟩ _ _ h1]
  simp [ht, hf]
end Go.Proofs.YtemlgeljgnmfeaaDoor
