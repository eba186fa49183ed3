/- A part of the proof: what the program's functions answer.
Conditions: none beyond each theorem's own. -/
import Derived.Test.YtfdcadnaginnpaaGreatDoorL3
import Derived.Test.YtfdcadnaginnpaaGreatDoorProg
import Derived.Shelf.Strings.Builder1
import Derived.Shelf.Strings.Builder2
import Derived.Shelf.Strings.OnBuilder
import Derived.Ground.Names2Prog
import Derived.Ground.SlgnProg
set_option linter.unusedVariables false
set_option linter.unusedSimpArgs false
namespace Go.Proofs.YtfdcadnaginnpaaGreatDoor
open Go.AL Go.NumSpec

abbrev hv (t : Nat) : Value := .pointer (some ⟨3, t, none⟩)
abbrev ty (t : Nat) : Value := .iface 133 (.agg #[hv t])
abbrev rv (t : Nat) (a : Nat) (fl : Int) : Value := .agg #[hv t, .pointer (some ⟨a, 0, none⟩), .int .u64 fl]
def tabs : List (Nat × List Value) := [(0, [ty 29]), (1, marksV)]
theorem tab_err : ((0, Ob.konst [ty 29]) : Nat × Ob) ∈ Gs tabs := by simp [Gs, tabs]
theorem tab_marks : ((1, Ob.konst marksV) : Nat × Ob) ∈ Gs tabs := by simp [Gs, tabs]

open Go.Extern Go.Stop
/-! functions without text -/
theorem x23 : ExtOf Tryz.prog 63 (fun args => ReflectliteValue.unpack (args.getD 0 (.tuple #[]))) := ⟨_, Tryz.func63, by kernel_rfl, by kernel_rfl, by kernel_rfl, by kernel_rfl⟩
theorem x24 : ExtOf Tryz.prog 64 (ReflectliteValue.methodAny (ReflectliteValue.valueError "reflectlite.Value.Type" 0) (fun t _ _ _ => ReflectliteType.toType t)) := ⟨_, Tryz.func64, by kernel_rfl, by kernel_rfl, by kernel_rfl, by kernel_rfl⟩
theorem x25 : ExtOf Tryz.prog 65 (ReflectliteValue.method (ReflectliteValue.valueError "reflectlite.Value.IsNil" 0) ReflectliteValue.isNil) := ⟨_, Tryz.func65, by kernel_rfl, by kernel_rfl, by kernel_rfl, by kernel_rfl⟩
theorem x30 : ExtOf Tryz.prog 88 ReflectliteType.typeOf := ⟨_, Tryz.func88, by kernel_rfl, by kernel_rfl, by kernel_rfl, by kernel_rfl⟩
theorem x32 : ExtOf Tryz.prog 89 (ReflectliteValue.method (ReflectliteValue.valueError "reflectlite.Value.Elem" 0) ReflectliteValue.elem) := ⟨_, Tryz.func89, by kernel_rfl, by kernel_rfl, by kernel_rfl, by kernel_rfl⟩
theorem x33 : ExtOf Tryz.prog 90 ReflectliteValue.set := ⟨_, Tryz.func90, by kernel_rfl, by kernel_rfl, by kernel_rfl, by kernel_rfl⟩
theorem x52 : ExtOf Tryz.prog 128 (ReflectliteType.abiMethod fun t => do pure (.int .u8 (← Rtype.kind t))) := ⟨_, Tryz.func128, by kernel_rfl, by kernel_rfl, by kernel_rfl, by kernel_rfl⟩
theorem x63 : ExtOf Tryz.prog 139 (ReflectliteType.relation "AssignableTo" ReflectliteType.assignableTo) := ⟨_, Tryz.func139, by kernel_rfl, by kernel_rfl, by kernel_rfl, by kernel_rfl⟩
theorem x65 : ExtOf Tryz.prog 141 (ReflectliteType.method ReflectliteType.elem) := ⟨_, Tryz.func141, by kernel_rfl, by kernel_rfl, by kernel_rfl, by kernel_rfl⟩
theorem x66 : ExtOf Tryz.prog 142 (ReflectliteType.relation "Implements" ReflectliteType.implements_) := ⟨_, Tryz.func142, by kernel_rfl, by kernel_rfl, by kernel_rfl, by kernel_rfl⟩

/-! methods -/
theorem mKind (t : Nat) (w : World) : (Go.method (Tryz.prog.types.size + Made.depth) 133 (.agg #[hv t]) "Kind").run Tryz.prog w = .ok (128, hv t) w := by kernel_rfl
theorem mElem (t : Nat) (w : World) : (Go.method (Tryz.prog.types.size + Made.depth) 133 (.agg #[hv t]) "Elem").run Tryz.prog w = .ok (141, .agg #[hv t]) w := by kernel_rfl
theorem mImpl (t : Nat) (w : World) : (Go.method (Tryz.prog.types.size + Made.depth) 133 (.agg #[hv t]) "Implements").run Tryz.prog w = .ok (142, .agg #[hv t]) w := by kernel_rfl
theorem mAssign (t : Nat) (w : World) : (Go.method (Tryz.prog.types.size + Made.depth) 133 (.agg #[hv t]) "AssignableTo").run Tryz.prog w = .ok (139, .agg #[hv t]) w := by kernel_rfl
theorem mUnwrap (u : Value) (w : World) : (Go.method (Tryz.prog.types.size + Made.depth) 116 u "Unwrap").run Tryz.prog w = .ok (137, u) w := by kernel_rfl

/-! entries that answer plain values -/
abbrev kindE := ReflectliteType.abiMethod fun t => do pure (.int .u8 (← Rtype.kind t))
theorem k48 (w : World) : (kindE #[hv 72]).run Tryz.prog w = .ok (.int .u8 22) w := by kernel_rfl
theorem k52 (w : World) : (kindE #[hv 117]).run Tryz.prog w = .ok (.int .u8 22) w := by kernel_rfl
theorem k27 (w : World) : (kindE #[hv 33]).run Tryz.prog w = .ok (.int .u8 2) w := by kernel_rfl
theorem k49 (w : World) : (kindE #[hv 116]).run Tryz.prog w = .ok (.int .u8 22) w := by kernel_rfl
theorem e48 (w : World) : (ReflectliteType.method ReflectliteType.elem #[.agg #[hv 72]]).run Tryz.prog w = .ok (ty 33) w := by kernel_rfl
theorem e52 (w : World) : (ReflectliteType.method ReflectliteType.elem #[.agg #[hv 117]]).run Tryz.prog w = .ok (ty 116) w := by kernel_rfl
theorem i27 (w : World) : (ReflectliteType.relation "Implements" ReflectliteType.implements_ #[.agg #[hv 33], ty 29]).run Tryz.prog w = .ok (.bool true) w := by kernel_rfl
theorem i49 (w : World) : (ReflectliteType.relation "Implements" ReflectliteType.implements_ #[.agg #[hv 116], ty 29]).run Tryz.prog w = .ok (.bool true) w := by kernel_rfl
theorem a2727 (w : World) : (ReflectliteType.relation "AssignableTo" ReflectliteType.assignableTo #[.agg #[hv 33], ty 33]).run Tryz.prog w = .ok (.bool true) w := by kernel_rfl
theorem a4949 (w : World) : (ReflectliteType.relation "AssignableTo" ReflectliteType.assignableTo #[.agg #[hv 116], ty 116]).run Tryz.prog w = .ok (.bool true) w := by kernel_rfl
theorem a2749 (w : World) : (ReflectliteType.relation "AssignableTo" ReflectliteType.assignableTo #[.agg #[hv 33], ty 116]).run Tryz.prog w = .ok (.bool false) w := by kernel_rfl
theorem a4927 (w : World) : (ReflectliteType.relation "AssignableTo" ReflectliteType.assignableTo #[.agg #[hv 116], ty 33]).run Tryz.prog w = .ok (.bool false) w := by kernel_rfl
theorem t27 (v : Value) (w : World) : (ReflectliteType.typeOf #[.iface 33 v]).run Tryz.prog w = .ok (ty 33) w := by kernel_rfl
theorem t49 (v : Value) (w : World) : (ReflectliteType.typeOf #[.iface 116 v]).run Tryz.prog w = .ok (ty 116) w := by kernel_rfl
theorem y48 (a : Nat) (w : World) : (ReflectliteValue.methodAny (ReflectliteValue.valueError "reflectlite.Value.Type" 0) (fun t _ _ _ => ReflectliteType.toType t) #[rv 72 a 150]).run Tryz.prog w = .ok (ty 72) w := by kernel_rfl
theorem y52 (a : Nat) (w : World) : (ReflectliteValue.methodAny (ReflectliteValue.valueError "reflectlite.Value.Type" 0) (fun t _ _ _ => ReflectliteType.toType t) #[rv 117 a 150]).run Tryz.prog w = .ok (ty 117) w := by kernel_rfl

/-! entries that take or write memory -/
abbrev unp : Array Value → Sem Value := fun args => ReflectliteValue.unpack (args.getD 0 (.tuple #[]))
theorem v48 (b : Nat) (w : World) : (unp #[.iface 72 (.pointer (some ⟨b, 0, none⟩))]).run Tryz.prog w = .ok (rv 72 w.heap.size 150) (w.alloc (.cells #[.pointer (some ⟨b, 0, none⟩)] 72)) := by kernel_rfl
theorem v52 (b : Nat) (w : World) : (unp #[.iface 117 (.pointer (some ⟨b, 0, none⟩))]).run Tryz.prog w = .ok (rv 117 w.heap.size 150) (w.alloc (.cells #[.pointer (some ⟨b, 0, none⟩)] 117)) := by kernel_rfl
theorem v27 (c : Int) (w : World) : (unp #[.iface 33 (.int .i64 c)]).run Tryz.prog w = .ok (rv 33 w.heap.size 130) (w.alloc (.cells #[.int .i64 c] 33)) := by kernel_rfl
theorem v49 (b : Addr) (w : World) : (unp #[.iface 116 (.pointer (some b))]).run Tryz.prog w = .ok (rv 116 w.heap.size 150) (w.alloc (.cells #[.pointer (some b)] 116)) := by kernel_rfl

theorem rlm (z : Sem Value) (f : TypeId → Addr → Nat → Nat → Sem Value) (v : Value) :
    ReflectliteValue.method z f #[v] = (do match ← ReflectliteValue.parts v with | none => z | some (t, a, fl) => f t a fl (fl % 32)) := rfl
theorem p48 (a : Nat) (w : World) : (ReflectliteValue.parts (rv 72 a 150)).run Tryz.prog w = .ok (some (72, ⟨a, 0, none⟩, 150)) w := by kernel_rfl
theorem p52 (a : Nat) (w : World) : (ReflectliteValue.parts (rv 117 a 150)).run Tryz.prog w = .ok (some (117, ⟨a, 0, none⟩, 150)) w := by kernel_rfl
theorem p27 (a : Nat) (w : World) : (ReflectliteValue.parts (rv 33 a 130)).run Tryz.prog w = .ok (some (33, ⟨a, 0, none⟩, 130)) w := by kernel_rfl
theorem p49 (a : Nat) (w : World) : (ReflectliteValue.parts (rv 116 a 150)).run Tryz.prog w = .ok (some (116, ⟨a, 0, none⟩, 150)) w := by kernel_rfl
theorem p27a (a : Nat) (w : World) : (ReflectliteValue.parts (rv 33 a 386)).run Tryz.prog w = .ok (some (33, ⟨a, 0, none⟩, 386)) w := by kernel_rfl
theorem p49a (a : Nat) (w : World) : (ReflectliteValue.parts (rv 116 a 406)).run Tryz.prog w = .ok (some (116, ⟨a, 0, none⟩, 406)) w := by kernel_rfl
abbrev nilE := ReflectliteValue.method (ReflectliteValue.valueError "reflectlite.Value.IsNil" 0) ReflectliteValue.isNil
theorem n48 (a b : Nat) (w : World) (ha : w.cell? ⟨a, 0, none⟩ = some (.pointer (some ⟨b, 0, none⟩))) : (nilE #[rv 72 a 150]).run Tryz.prog w = .ok (.bool false) w := by
  show (ReflectliteValue.method _ _ _).run _ _ = _
  rw [rlm]
  simp only [Sem.run_bind, p48, Result.andThen]
  simp [ReflectliteValue.isNil, loadVar, isAgg, underlying, Tryz.underlying72, ha, Result.andThen]
theorem n52 (a b : Nat) (w : World) (ha : w.cell? ⟨a, 0, none⟩ = some (.pointer (some ⟨b, 0, none⟩))) : (nilE #[rv 117 a 150]).run Tryz.prog w = .ok (.bool false) w := by
  show (ReflectliteValue.method _ _ _).run _ _ = _
  rw [rlm]
  simp only [Sem.run_bind, p52, Result.andThen]
  simp [ReflectliteValue.isNil, loadVar, isAgg, underlying, Tryz.underlying117, ha, Result.andThen]
theorem el48 (w : World) : (Rtype.elem? 72).run Tryz.prog w = .ok (some 33) w := by kernel_rfl
theorem el52 (w : World) : (Rtype.elem? 117).run Tryz.prog w = .ok (some 116) w := by kernel_rfl
theorem mk27 (p : Addr) (w : World) : (ReflectliteValue.mk 33 p ReflectliteValue.flagAddr).run Tryz.prog w = .ok (.agg #[hv 33, .pointer (some p), .int .u64 386]) w := by kernel_rfl
theorem mk49 (p : Addr) (w : World) : (ReflectliteValue.mk 116 p ReflectliteValue.flagAddr).run Tryz.prog w = .ok (.agg #[hv 116, .pointer (some p), .int .u64 406]) w := by kernel_rfl
abbrev elemE := ReflectliteValue.method (ReflectliteValue.valueError "reflectlite.Value.Elem" 0) ReflectliteValue.elem
theorem l48 (a b : Nat) (w : World) (ha : w.cell? ⟨a, 0, none⟩ = some (.pointer (some ⟨b, 0, none⟩))) : (elemE #[rv 72 a 150]).run Tryz.prog w = .ok (rv 33 b 386) w := by
  show (ReflectliteValue.method _ _ _).run _ _ = _
  rw [rlm]
  simp only [Sem.run_bind, p48, Result.andThen]
  simp [ReflectliteValue.elem, loadVar, isAgg, underlying, Tryz.underlying72, ha, Result.andThen, el48, mk27]
theorem l52 (a b : Nat) (w : World) (ha : w.cell? ⟨a, 0, none⟩ = some (.pointer (some ⟨b, 0, none⟩))) : (elemE #[rv 117 a 150]).run Tryz.prog w = .ok (rv 116 b 406) w := by
  show (ReflectliteValue.method _ _ _).run _ _ = _
  rw [rlm]
  simp only [Sem.run_bind, p52, Result.andThen]
  simp [ReflectliteValue.elem, loadVar, isAgg, underlying, Tryz.underlying117, ha, Result.andThen, el52, mk49]
theorem rls (v x : Value) : ReflectliteValue.set #[v, x] = (do
    let (some (dst, a, fl), some (src, b, _)) := (← ReflectliteValue.parts v, ← ReflectliteValue.parts x)
      | unsupported (.noEntry "extern/(internal/reflectlite.Value).Set.zeroValue")
    if fl / ReflectliteValue.flagAddr % 2 == 0 then unsupported (.noEntry "extern/(internal/reflectlite.Value).Set.unaddressable")
    let val ← loadVar src b
    if ← Rtype.directlyAssignable dst src then storeVar dst a val
    else if ← Rtype.implements dst src then
      if (← Rtype.kind src) == 20 then
        match val with
        | .nilIface => unsupported (.noEntry "extern/reflectlite: a nil value of one interface type handed on as a value of another")
        | _ => storeVar dst a val
      else storeVar dst a (.iface src val)
    else panicString ("reflectlite.Set: value of type " ++ (← Rtype.spelt src) ++ " is not assignable to type " ++ (← Rtype.spelt dst))
    pure (.tuple #[])) := rfl
theorem d27 (w : World) : (Rtype.directlyAssignable 33 33).run Tryz.prog w = .ok true w := by kernel_rfl
theorem d49 (w : World) : (Rtype.directlyAssignable 116 116).run Tryz.prog w = .ok true w := by kernel_rfl
theorem s27 (t b : Nat) (u old : Value) (w : World) (hu : u.cells = #[u]) (h1 : u.oneCell' = true) (hb : w.cell? ⟨b, 0, none⟩ = some u) (ht : w.cell? ⟨t, 0, none⟩ = some old) (hf : w.frozen? ⟨t, 0, none⟩ = false) :
    (ReflectliteValue.set #[rv 33 t 386, rv 33 b 130]).run Tryz.prog w = .ok (.tuple #[]) (w.setCell ⟨t, 0, none⟩ u) := by
  rw [rls]
  simp only [Sem.run_bind, p27a, p27, Result.andThen]
  simp [ReflectliteValue.flagAddr, loadVar, isAgg, underlying, Tryz.underlying33, hb, Result.andThen, d27, storeVar, hu, storeCells, Addr.add]
  rw [run_store Tryz.prog w ⟨t, 0, none⟩ _ _ h1]
  simp [ht, hf]
theorem s49 (t b : Nat) (u old : Value) (w : World) (hu : u.cells = #[u]) (h1 : u.oneCell' = true) (hb : w.cell? ⟨b, 0, none⟩ = some u) (ht : w.cell? ⟨t, 0, none⟩ = some old) (hf : w.frozen? ⟨t, 0, none⟩ = false) :
    (ReflectliteValue.set #[rv 116 t 406, rv 116 b 150]).run Tryz.prog w = .ok (.tuple #[]) (w.setCell ⟨t, 0, none⟩ u) := by
  rw [rls]
  simp only [Sem.run_bind, p49a, p49, Result.andThen]
  simp [ReflectliteValue.flagAddr, loadVar, isAgg, underlying, Tryz.underlying116, hb, Result.andThen, d49, storeVar, hu, storeCells, Addr.add]
  rw [run_store Tryz.prog w ⟨t, 0, none⟩ _ _ h1]
  simp [ht, hf]

end Go.Proofs.YtfdcadnaginnpaaGreatDoor

set_option maxRecDepth 100000
namespace Go.Proofs.YtfdcadnaginnpaaGreatDoor
open Go.AL Go.NumSpec
theorem num_digits_ok (n : Nat) (h : n < 18446744073709551616) : PCalls Tryz.prog 94 [.int .u64 n] (.S (digL n)) := by
 intro st
 refine co 20 Tryz.func94 ?_
 have hlen : (digL n).length ≤ 20 := digL_20 h
 refine AC_seq (AC_region ?_)
 refine p_ (S_assign rfl (AEv.S _)) ?_
 refine AL_nil (AC_seq (AC_region ?_))
 refine s_ (S_alloc (List.replicate 20 (.int .u8 0)) rfl (by kernel_rfl)) ?_
 rintro _ _ ⟨b1, rfl, rfl⟩
 refine AL_nil (AC_seq (AC_region ?_))
 refine ac rfl rfl rfl ?_
 refine AL_nil ?_
 refine AC_block ?_
 refine AC_loop (G := Nat × List UInt8) (DigInv n) (fun g => [(0, .int .u64 g.1), (3, .ptr b1 0), (4, .int .i64 ((20 - g.2.length : Nat) : Int))]) (fun g => (b1, .cells (padR g.2)) :: st) (fun g => g.1) ((n, [])) (⟨by simp, h, hlen⟩) rfl ?_ ?_
 ·exact (.cons rfl (by first | exact Le.refl _ | exact Le.nils | exact Le.row _ _ _ _ | (exact Le.of_eq (by simp))) (.cons rfl (by first | exact Le.refl _ | exact Le.nils | exact Le.row _ _ _ _ | (exact Le.of_eq (by simp))) (.cons rfl (by first | exact Le.refl _ | exact Le.nils | exact Le.row _ _ _ _ | (exact Le.of_eq (by simp))) .nil)))
 rintro ⟨m, l⟩ hI
 try dsimp only
 have h3 := dig_le hI
 have h2 := hI.lt
 dsimp only at h2
 refine AC_block ?_
 refine AC_seq (AC_region ?_)
 refine mv rfl rfl rfl rfl ?_
 refine p_ (S_subI rfl (.tmp rfl) (AEv.const _) (by omega) (by omega)) ?_
 refine as_ rfl rfl rfl rfl ?_
 refine AL_nil (AC_seq (AC_region ?_))
 refine mv rfl rfl rfl rfl ?_
 refine mv rfl rfl rfl rfl ?_
 refine p_ (S_remN (n := 10) rfl (.tmp rfl) (AEv.const _) (by omega)) ?_
 refine p_ (S_conv (k' := .u8) rfl (.tmp rfl) (by kernel_rfl) (by kernel_rfl)) ?_
 refine p_ (S_add rfl (AEv.const _) (.tmp rfl)) ?_
 refine p_ (S_elemA (e := 5) (len := 20) 1 rfl (.tmp rfl) (.tmp rfl) (by kernel_rfl) (by kernel_rfl) (by omega) (by omega)) ?_
 refine s_ (S_store 0 rfl (.tmp rfl) (.tmp rfl) rfl (by rw [padR_len (by omega)]; omega) rfl (by kernel_rfl)) ?_
 rintro _ _ ⟨rfl, rfl⟩
 rw [padR_set (c := UInt8.ofNat (48 + m % 10)) rfl (by rw [wrap_u8 (n := ((m % 10 : Nat) : Int)) (by omega) (by omega), wrap_u8 (by omega) (by omega)]; simp; omega) h3]
 refine AL_nil (AC_seq (AC_region ?_))
 refine mv rfl rfl rfl rfl ?_
 refine p_ (S_quoN (n := 10) (.inl rfl) rfl (.tmp rfl) (AEv.const _) (by omega) (.inr ⟨rfl, by omega⟩)) ?_
 refine as_ rfl rfl rfl rfl ?_
 refine AL_nil (AC_seq (AC_region ?_))
 refine mv rfl rfl rfl rfl ?_
 refine p_ (S_eql rfl (.tmp rfl) (AEv.const _)) ?_
 refine AL_nil ?_
 refine AC_cond (.tmp rfl) (fun hb2 => ?_) (fun hb2 => ?_)
 ·try simp only [zA,zO,zN,zM,zP,zQ,zD,zF,gd] at hb2
  have hq : m / 10 = 0 := by omega
  refine AC_seq (AC_region ?_)
  refine mv rfl rfl rfl rfl ?_
  refine p_ (S_cutA (e := 5) (len := 20) (i := 20 - (l.length + 1)) (j := 20) 1 rfl (.tmp rfl) ⟨_, (AEv.tmp rfl).le (Le.of_eq (by rw [show ((20 - l.length : Nat) : Int) - 1 = ((20 - (l.length + 1) : Nat) : Int) by omega]))⟩ rfl (by kernel_rfl) (by kernel_rfl) (by omega) (by omega) (by omega)) ?_
  refine p_ (S_bytes (e := 5) (l := UInt8.ofNat (48 + m % 10) :: l) 0 rfl (.tmp rfl) rfl (by have := padR_drop (l := UInt8.ofNat (48 + m % 10) :: l) (by simp; omega); simp only [List.length_cons] at this; rw [show 20 - (20 - (l.length + 1)) = l.length + 1 by omega]; exact this) (by simp; omega) (by kernel_rfl) (by kernel_rfl) (by kernel_rfl)) ?_
  refine as_ rfl rfl rfl rfl ?_
  refine AL_nil (AC_ret ?_)
  refine ret_tmp st rfl rfl (Sub.l (List.Sublist.cons _ (List.Sublist.refl _))) (Conv.refl (Sub.l (List.Sublist.cons _ (List.Sublist.refl _))) _) ⟨by rw [dig_end hI hq], rfl⟩ (.inl rfl)
 try simp only [zA,zO,zN,zM,zP,zQ,zD,zF,gd] at hb2
 have hq : m / 10 ≠ 0 := by omega
 refine AC_skip ?_
 refine ⟨_, dig_next hI hq, by show m / 10 < m; omega, rfl, .cons rfl (Le.refl _) (.cons rfl (Le.refl _) (.cons rfl (Le.of_eq (by simp only [List.length_cons]; rw [show ((20 - l.length : Nat) : Int) - 1 = ((20 - (l.length + 1) : Nat) : Int) by omega])) .nil))⟩
theorem num_Text_ok (a : Int) (ha : fits a) : PCalls Tryz.prog 77 [.int .i64 a] (.S (textL a)) := by
 intro st
 refine co 13 Tryz.func77 ?_
 have hw1 := u64w a
 have hw2 := u64w (-IntKind.u64.wrap a)
 unfold fits at ha
 have hlen : (digL a.natAbs).length ≤ 19 := digL_19 (by omega)
 refine AC_seq (AC_region ?_)
 refine p_ (S_assign rfl (AEv.S _)) ?_
 refine AL_nil ?_
 refine AC_seq ?_
 refine AC_seq (AC_region ?_)
 refine mv rfl rfl rfl rfl ?_
 refine p_ (S_lss rfl (.tmp rfl) (AEv.const _)) ?_
 refine AL_nil ?_
 refine AC_cond (.tmp rfl) (fun hb1 => ?_) (fun hb1 => ?_)
 ·try simp only [zA,zO,zN,zM,zP,zQ,zD,zF,gd] at hb1
  refine AC_seq (AC_region ?_)
  refine mv rfl rfl rfl rfl ?_
  refine p_ (S_conv (k' := .u64) rfl (.tmp rfl) (by kernel_rfl) (by kernel_rfl)) ?_
  refine p_ (S_neg rfl (.tmp rfl)) ?_
  refine p_ (S_pcall rfl (AEvs.cons ((AEv.tmp rfl).le (Le.of_eq (by rw [show IntKind.u64.wrap (-IntKind.u64.wrap a) = (a.natAbs : Int) by omega]))) AEvs.nil) (num_digits_ok a.natAbs (by omega))) ?_
  refine p_ (S_cat rfl (AEv.S _) (.tmp rfl) (by first | omega | (simp; done) | (simp; omega))) ?_
  refine as_ rfl rfl rfl rfl ?_
  refine AL_nil (AC_ret ?_)
  refine ret_tmp st rfl rfl (Sub.l (List.Sublist.refl _)) (Conv.refl (Sub.l (List.Sublist.refl _)) _) ⟨by rw [textL, if_pos (by omega)]; rfl, rfl⟩ (.inl rfl)
 try simp only [zA,zO,zN,zM,zP,zQ,zD,zF,gd] at hb1
 refine AC_skip ?_
 refine AC_seq (AC_region ?_)
 refine mv rfl rfl rfl rfl ?_
 refine p_ (S_conv (k' := .u64) rfl (.tmp rfl) (by kernel_rfl) (by kernel_rfl)) ?_
 refine p_ (S_pcall rfl (AEvs.cons ((AEv.tmp rfl).le (Le.of_eq (by rw [show IntKind.u64.wrap a = (a.natAbs : Int) by omega]))) AEvs.nil) (num_digits_ok a.natAbs (by omega))) ?_
 refine as_ rfl rfl rfl rfl ?_
 refine AL_nil (AC_ret ?_)
 refine ret_tmp st rfl rfl (Sub.l (List.Sublist.refl _)) (Conv.refl (Sub.l (List.Sublist.refl _)) _) ⟨by rw [textL, if_neg (by omega)], rfl⟩ (.inl rfl)
theorem lite_IndexByte_ok (s : List UInt8) (c : UInt8) : PCalls Tryz.prog 108 [.S s, .int .u8 (c.toNat : Int)] (.int .i64 (idxV s c)) := by
 intro st
 refine co 8 Tryz.func108 ?_
 refine AC_seq (AC_region ?_)
 refine ac rfl rfl rfl ?_
 refine AL_nil (AC_seq (AC_region ?_))
 refine mv rfl rfl rfl rfl ?_
 refine mv rfl rfl rfl rfl ?_
 refine p_ (S_indexByte (s := s) (c := c) rfl (.tmp rfl) (.tmp rfl) Tryz.func112 (by kernel_rfl) (by kernel_rfl) (by kernel_rfl) (by kernel_rfl)) ?_
 refine as_ rfl rfl rfl rfl ?_
 refine AL_nil (AC_ret ?_)
 refine ret_tmp st rfl rfl (Sub.l (List.Sublist.refl _)) (Conv.refl (Sub.l (List.Sublist.refl _)) _) ⟨by first | rfl | (simp; done), rfl⟩ (.inl rfl)
theorem lite_Index_ok (s : List UInt8) (c : UInt8) : PCalls Tryz.prog 107 [.S s, .S [c]] (.int .i64 (idxV s c)) := by
 intro st
 refine co 143 Tryz.func107 ?_
 refine AC_seq (AC_region ?_)
 refine ac rfl rfl rfl ?_
 refine AL_nil (AC_seq (AC_region ?_))
 refine mv rfl rfl rfl rfl ?_
 refine p_ (S_lenS (ts := #[]) rfl (.tmp rfl) (by kernel_rfl)) ?_
 refine as_ rfl rfl rfl rfl ?_
 refine AL_nil ?_
 refine AC_seq ?_
 refine AC_block ?_
 refine AC_seq (AC_region ?_)
 refine mv rfl rfl rfl rfl ?_
 refine p_ (S_eql rfl (.tmp rfl) (AEv.const _)) ?_
 refine mv rfl rfl rfl rfl ?_
 refine g_ (fun _ => mA) ?_
 refine g_ (fun _ => mA) ?_
 refine g_ (fun _ => S_eqS rfl (AEv.cd (.tmp rfl)) (AEv.cd (.tmp rfl))) ?_
 refine p_ (S_or rfl (.tmp rfl) (fun hp10 => (AEv.cd (.tmp rfl)))) ?_
 refine as_ rfl rfl rfl rfl ?_
 refine AL_nil ?_
 refine AC_cond (.tmp rfl) (fun hb11 => ?_) (fun hb11 => ?_)
 ·try simp only [zA,zO,zN,zM,zP,zQ,zD,zF,gd] at hb11
  have hs : s = [c] := by
   have : [c] = s := by simpa using hb11
   exact this.symm
  subst hs
  refine AC_seq (AC_region ?_)
  refine ac rfl rfl rfl ?_
  refine AL_nil (AC_ret ?_)
  refine ret_tmp st rfl rfl (Sub.l (List.Sublist.refl _)) (Conv.refl (Sub.l (List.Sublist.refl _)) _) ⟨by simp [idxV], rfl⟩ (.inl rfl)
 try simp only [zA,zO,zN,zM,zP,zQ,zD,zF,gd] at hb11
 refine AC_seq (AC_region ?_)
 refine mv rfl rfl rfl rfl ?_
 refine p_ (S_eql rfl (.tmp rfl) (AEv.const _)) ?_
 refine as_ rfl rfl rfl rfl ?_
 refine AL_nil ?_
 refine AC_cond (.tmp rfl) (fun hb12 => ?_) (fun hb12 => ?_)
 ·try simp only [zA,zO,zN,zM,zP,zQ,zD,zF,gd] at hb12
  refine AC_seq (AC_region ?_)
  refine mv rfl rfl rfl rfl ?_
  refine mv rfl rfl rfl rfl ?_
  refine p_ (S_index rfl (.tmp rfl) (AEv.const _) (by kernel_rfl) (by omega) (by omega)) ?_
  refine p_ (S_pcall rfl (AEvs.cons (.tmp rfl) (AEvs.cons (y := .int .u8 (c.toNat : Int)) (.tmp rfl) AEvs.nil)) (lite_IndexByte_ok s c)) ?_
  refine as_ rfl rfl rfl rfl ?_
  refine AL_nil (AC_ret ?_)
  refine ret_tmp st rfl rfl (Sub.l (List.Sublist.refl _)) (Conv.refl (Sub.l (List.Sublist.refl _)) _) ⟨rfl, rfl⟩ (.inl rfl)
 simp at hb12; done
theorem lite_Cut_ok (s : List UInt8) (c : UInt8) (hs : s.length ≤ 9223372036854775806) : PCalls Tryz.prog 104 [.S s, .S [c]] (.tup [.S (cutV c s).1, .S (cutV c s).2.1, .bool (cutV c s).2.2]) := by
 intro st
 refine co 23 Tryz.func104 ?_
 have hi : idxV s c = if c ∈ s then ((s.takeWhile (fun x => x != c)).length : Int) else -1 := rfl
 have hone : ([c] : List UInt8).length = 1 := rfl
 refine AC_seq (AC_region ?_)
 refine p_ (S_assign rfl (AEv.S _)) ?_
 refine p_ (S_assign rfl (AEv.S _)) ?_
 refine ac rfl rfl rfl ?_
 refine AL_nil ?_
 refine AC_seq ?_
 refine AC_seq (AC_region ?_)
 refine mv rfl rfl rfl rfl ?_
 refine mv rfl rfl rfl rfl ?_
 refine p_ (S_pcall rfl (AEvs.cons (.tmp rfl) (AEvs.cons (.tmp rfl) AEvs.nil)) (lite_Index_ok s c)) ?_
 refine as_ rfl rfl rfl rfl ?_
 refine AL_nil (AC_seq (AC_region ?_))
 refine mv rfl rfl rfl rfl ?_
 refine p_ (S_geq rfl (.tmp rfl) (AEv.const _)) ?_
 refine AL_nil ?_
 refine AC_cond (.tmp rfl) (fun hb1 => ?_) (fun hb1 => ?_)
 ·try simp only [zA,zO,zN,zM,zP,zQ,zD,zF,gd] at hb1
  have hm : c ∈ s := Decidable.byContradiction fun h => by rw [if_neg h] at hi; omega
  rw [if_pos hm] at hi
  have hlt := (tw_lt hm).1
  have hcv : cutV c s = (s.takeWhile (fun x => x != c), s.drop ((s.takeWhile (fun x => x != c)).length + 1), true) := by rw [cutV, if_pos hm]
  rw [hcv]
  refine AC_seq ?_
  refine AC_draw (by kernel_rfl) (by kernel_rfl) (.cons rfl (Q_p rfl (S_move rfl (.tmp rfl))) <|
    .cons rfl (Q_p rfl (S_move rfl (.tmp rfl))) <|
    .cons rfl (Q_p rfl (S_sliceH rfl (.tmp rfl) (.tmp rfl) (by kernel_rfl) (by omega) (by omega))) <|
    .cons rfl (Q_p rfl (S_move rfl (.tmp rfl))) <|
    .cons rfl (Q_p rfl (S_move rfl (.tmp rfl))) <|
    .cons rfl (Q_p rfl (S_move rfl (.tmp rfl))) <|
    .cons rfl (Q_p rfl (S_lenS (ts := #[]) rfl (.tmp rfl) (by kernel_rfl))) <|
    .cons rfl (Q_p rfl (S_addI rfl (.tmp rfl) (.tmp rfl) (by omega) (by omega))) <|
    .cons rfl (Q_p rfl (S_sliceL rfl (.tmp rfl) (.tmp rfl) (by kernel_rfl) (by omega) (by omega))) <|
    .cons rfl (Q_p rfl (S_assign rfl (.tmp rfl))) <|
    .cons rfl (Q_p rfl (S_assign rfl (.tmp rfl))) <|
    .cons rfl (Q_p rfl (S_assign rfl (AEv.const _))) <|
    .nil) ?_
  refine AC_ret ?_
  refine ret_tmps (ts := [4, 5, 6]) st rfl (by decide) rfl (Sub.l (List.Sublist.refl _)) (Conv.refl (Sub.l (List.Sublist.refl _)) _) ⟨(show AV.tup [.S (s.take (idxV s c).toNat), .S (s.drop (idxV s c + (([c] : List UInt8).length : Int)).toNat), .bool true] = _ from by rw [hi]; simp only [List.length_singleton, Int.toNat_natCast]; rw [tw_take, show ((List.takeWhile (fun x => x != c) s).length : Int) + ((1 : Nat) : Int) = (((List.takeWhile (fun x => x != c) s).length + 1 : Nat) : Int) by omega, Int.toNat_natCast]), rfl⟩ (.inl rfl)
 try simp only [zA,zO,zN,zM,zP,zQ,zD,zF,gd] at hb1
 have hm : c ∉ s := fun h => by rw [if_pos h] at hi; omega
 have hcv : cutV c s = (s, [], false) := by rw [cutV, if_neg hm]
 rw [hcv]
 refine AC_skip ?_
 refine AC_seq (AC_region ?_)
 refine mv rfl rfl rfl rfl ?_
 refine as_ rfl rfl rfl rfl ?_
 refine p_ (S_assign rfl (AEv.S _)) ?_
 refine ac rfl rfl rfl ?_
 refine AL_nil (AC_ret ?_)
 refine ret_tmps (ts := [4, 5, 6]) st rfl (by decide) rfl (Sub.l (List.Sublist.refl _)) (Conv.refl (Sub.l (List.Sublist.refl _)) _) ⟨rfl, rfl⟩ (.inl rfl)
theorem strings_Cut_ok (s : List UInt8) (c : UInt8) (hs : s.length ≤ 9223372036854775806) : PCalls Tryz.prog 95 [.S s, .S [c]] (.tup [.S (cutV c s).1, .S (cutV c s).2.1, .bool (cutV c s).2.2]) := by
 intro st
 refine co 13 Tryz.func95 ?_
 refine AC_seq (AC_region ?_)
 refine p_ (S_assign rfl (AEv.S _)) ?_
 refine p_ (S_assign rfl (AEv.S _)) ?_
 refine ac rfl rfl rfl ?_
 refine AL_nil (AC_seq (AC_region ?_))
 refine mv rfl rfl rfl rfl ?_
 refine mv rfl rfl rfl rfl ?_
 refine p_ (S_pcall rfl (AEvs.cons (.tmp rfl) (AEvs.cons (.tmp rfl) AEvs.nil)) (lite_Cut_ok s c hs)) ?_
 refine ex 0 ?_
 refine ex 1 ?_
 refine ex 2 ?_
 refine as_ rfl rfl rfl rfl ?_
 refine as_ rfl rfl rfl rfl ?_
 refine as_ rfl rfl rfl rfl ?_
 refine AL_nil (AC_ret ?_)
 refine ret_tmps (ts := [4, 5, 6]) st rfl (by decide) rfl (Sub.l (List.Sublist.refl _)) (Conv.refl (Sub.l (List.Sublist.refl _)) _) ⟨rfl, rfl⟩ (.inl rfl)
theorem text_of_ok (c : UInt8) : GCalls Tryz.prog tabs 98 [.int .u8 (c.toNat : Int)] (.int .i64 (ofV c)) := by
 intro st hG
 refine co 42 Tryz.func98 ?_
 have hn := c.toNat_lt
 refine AC_seq (AC_region ?_)
 refine ac rfl rfl rfl ?_
 refine AL_nil (AC_seq (AC_region ?_))
 refine ac rfl rfl rfl ?_
 refine AL_nil ?_
 refine AC_seq ?_
 refine AC_block ?_
 refine AC_seq ?_
 refine AC_block ?_
 refine AC_seq ?_
 refine AC_block ?_
 refine AC_seq ?_
 refine AC_block ?_
 refine AC_seq ?_
 refine AC_seq ?_
 refine AC_seq ?_
 refine AC_seq (AC_region ?_)
 refine mv rfl rfl rfl rfl ?_
 refine p_ (S_geq rfl (.tmp rfl) (AEv.const _)) ?_
 refine mv rfl rfl rfl rfl ?_
 refine g_ (fun _ => mA) ?_
 refine g_ (fun _ => S_leq rfl (AEv.cd (.tmp rfl)) (AEv.const _)) ?_
 refine an ?_
 refine as_ rfl rfl rfl rfl ?_
 refine AL_nil ?_
 refine AC_cond (.tmp rfl) (fun hb8 => ?_) (fun hb8 => ?_)
 ·try simp only [zA,zO,zN,zM,zP,zQ,zD,zF,gd] at hb8
  refine AC_skip ?_
  refine AC_cond (.tmp rfl) (fun hb9 => ?_) (fun hb9 => ?_)
  ·try simp only [zA,zO,zN,zM,zP,zQ,zD,zF,gd] at hb9
   have ho : ofV c = 7 := by rw [ofV, if_pos (by omega)]
   refine AC_exit ?_
   refine AC_region ?_
   refine mv rfl rfl rfl rfl ?_
   refine p_ (S_bits rfl (by simp) (.tmp rfl) (AEv.const _)) ?_
   refine as_ rfl rfl rfl rfl ?_
   refine AL_nil (AC_seq (AC_region ?_))
   refine mv rfl rfl rfl rfl ?_
   refine p_ (S_bits rfl (by simp) (.tmp rfl) (AEv.const _)) ?_
   refine as_ rfl rfl rfl rfl ?_
   refine AL_nil (AC_exit ?_)
   refine AC_seq (AC_region ?_)
   refine mv rfl rfl rfl rfl ?_
   refine as_ rfl rfl rfl rfl ?_
   refine AL_nil (AC_ret ?_)
   refine ret_tmp st rfl rfl (Sub.l (List.Sublist.refl _)) (Conv.refl (Sub.l (List.Sublist.refl _)) _) ⟨by rw [ho] <;> rfl, rfl⟩ (.inl rfl)
  exfalso; simp at hb9; omega
 try simp only [zA,zO,zN,zM,zP,zQ,zD,zF,gd] at hb8
 refine AC_region ?_
 refine mv rfl rfl rfl rfl ?_
 refine p_ (S_geq rfl (.tmp rfl) (AEv.const _)) ?_
 refine mv rfl rfl rfl rfl ?_
 refine g_ (fun _ => mA) ?_
 refine g_ (fun _ => S_leq rfl (AEv.cd (.tmp rfl)) (AEv.const _)) ?_
 refine an ?_
 refine as_ rfl rfl rfl rfl ?_
 refine AL_nil ?_
 refine AC_cond (.tmp rfl) (fun hb17 => ?_) (fun hb17 => ?_)
 ·try simp only [zA,zO,zN,zM,zP,zQ,zD,zF,gd] at hb17
  have ho : ofV c = 7 := by rw [ofV, if_pos (by omega)]
  refine AC_exit ?_
  refine AC_region ?_
  refine mv rfl rfl rfl rfl ?_
  refine p_ (S_bits rfl (by simp) (.tmp rfl) (AEv.const _)) ?_
  refine as_ rfl rfl rfl rfl ?_
  refine AL_nil (AC_seq (AC_region ?_))
  refine mv rfl rfl rfl rfl ?_
  refine p_ (S_bits rfl (by simp) (.tmp rfl) (AEv.const _)) ?_
  refine as_ rfl rfl rfl rfl ?_
  refine AL_nil (AC_exit ?_)
  refine AC_seq (AC_region ?_)
  refine mv rfl rfl rfl rfl ?_
  refine as_ rfl rfl rfl rfl ?_
  refine AL_nil (AC_ret ?_)
  refine ret_tmp st rfl rfl (Sub.l (List.Sublist.refl _)) (Conv.refl (Sub.l (List.Sublist.refl _)) _) ⟨by rw [ho] <;> rfl, rfl⟩ (.inl rfl)
 try simp only [zA,zO,zN,zM,zP,zQ,zD,zF,gd] at hb17
 refine AC_skip ?_
 refine AC_seq ?_
 refine AC_seq (AC_region ?_)
 refine mv rfl rfl rfl rfl ?_
 refine p_ (S_geq rfl (.tmp rfl) (AEv.const _)) ?_
 refine mv rfl rfl rfl rfl ?_
 refine g_ (fun _ => mA) ?_
 refine g_ (fun _ => S_leq rfl (AEv.cd (.tmp rfl)) (AEv.const _)) ?_
 refine an ?_
 refine as_ rfl rfl rfl rfl ?_
 refine AL_nil ?_
 refine AC_cond (.tmp rfl) (fun hb25 => ?_) (fun hb25 => ?_)
 ·try simp only [zA,zO,zN,zM,zP,zQ,zD,zF,gd] at hb25
  have ho : ofV c = 4 := by rw [ofV, if_neg (by omega), if_pos (by omega)]
  refine AC_exit ?_
  refine AC_seq (AC_region ?_)
  refine mv rfl rfl rfl rfl ?_
  refine p_ (S_bits rfl (by simp) (.tmp rfl) (AEv.const _)) ?_
  refine as_ rfl rfl rfl rfl ?_
  refine AL_nil (AC_exit ?_)
  refine AC_seq (AC_region ?_)
  refine mv rfl rfl rfl rfl ?_
  refine as_ rfl rfl rfl rfl ?_
  refine AL_nil (AC_ret ?_)
  refine ret_tmp st rfl rfl (Sub.l (List.Sublist.refl _)) (Conv.refl (Sub.l (List.Sublist.refl _)) _) ⟨by rw [ho] <;> rfl, rfl⟩ (.inl rfl)
 try simp only [zA,zO,zN,zM,zP,zQ,zD,zF,gd] at hb25
 have hw : IntKind.u8.wrap ((c.toNat : Int) - 32) = (((c.toNat : Int) - 32) % 256) := by simp [IntKind.wrap, IntKind.bits, IntKind.signed]
 have hw2 : IntKind.i64.wrap (IntKind.u8.wrap ((c.toNat : Int) - 32)) = (((c.toNat : Int) - 32) % 256) := by rw [hw]; exact wrap_i64 (by omega) (by omega)
 refine AC_skip ?_
 refine AC_seq (AC_region ?_)
 refine mv rfl rfl rfl rfl ?_
 refine p_ (S_geq rfl (.tmp rfl) (AEv.const _)) ?_
 refine mv rfl rfl rfl rfl ?_
 refine g_ (fun _ => mA) ?_
 refine g_ (fun _ => S_sub rfl (AEv.cd (.tmp rfl)) (AEv.const _)) ?_
 refine g_ (fun _ => S_conv (k' := .i64) rfl (AEv.cd (.tmp rfl)) (by kernel_rfl) (by kernel_rfl)) ?_
 refine g_ (fun _ => S_lss rfl (AEv.cd (.tmp rfl)) (AEv.const _)) ?_
 refine an ?_
 refine as_ rfl rfl rfl rfl ?_
 refine AL_nil ?_
 refine AC_cond (.tmp rfl) (fun hb39 => ?_) (fun hb39 => ?_)
 ·try simp only [zA,zO,zN,zM,zP,zQ,zD,zF,gd] at hb39
  have ho : ofV c = marksI.getD (c.toNat - 32) 0 := by rw [ofV, if_neg (by omega), if_neg (by omega), if_pos (by omega)]
  have hsub : 0 + (IntKind.u8.wrap ((c.toNat : Int) - 32)).toNat * 1 = c.toNat - 32 := by omega
  refine AC_exit ?_
  refine AC_seq (AC_region ?_)
  refine mv rfl rfl rfl rfl ?_
  refine p_ (S_sub rfl (.tmp rfl) (AEv.const _)) ?_
  refine p_ (S_elemA (e := 3) (len := 64) 1 rfl (AEv.global _) (.tmp rfl) (by kernel_rfl) (by kernel_rfl) (by omega) (by omega)) ?_
  refine p_ (S_loadK (vs := marksV) (u := .int .i64 (marksI.getD (c.toNat - 32) 0)) rfl (.tmp rfl) (hG _ tab_marks) (by rw [hsub]; exact marks_at (by omega)) (by kernel_rfl)) ?_
  refine as_ rfl rfl rfl rfl ?_
  refine AL_nil (AC_exit ?_)
  refine AC_seq (AC_region ?_)
  refine mv rfl rfl rfl rfl ?_
  refine as_ rfl rfl rfl rfl ?_
  refine AL_nil (AC_ret ?_)
  refine ret_tmp st rfl rfl (Sub.l (List.Sublist.refl _)) (Conv.refl (Sub.l (List.Sublist.refl _)) _) ⟨by rw [ho] <;> rfl, rfl⟩ (.inl rfl)
 try simp only [zA,zO,zN,zM,zP,zQ,zD,zF,gd] at hb39
 have ho : ofV c = 0 := by rw [ofV, if_neg (by omega), if_neg (by omega), if_neg (by omega)]
 refine AC_skip ?_
 refine AC_exit ?_
 refine AC_seq (AC_region ?_)
 refine mv rfl rfl rfl rfl ?_
 refine as_ rfl rfl rfl rfl ?_
 refine AL_nil (AC_ret ?_)
 refine ret_tmp st rfl rfl (Sub.l (List.Sublist.refl _)) (Conv.refl (Sub.l (List.Sublist.refl _)) _) ⟨by rw [ho] <;> rfl, rfl⟩ (.inl rfl)
theorem text_all_ok (s : List UInt8) (w : Int) (hw : w = 1 ∨ w = 2 ∨ w = 4) (hs : s.length ≤ 9223372036854775806) : GCalls Tryz.prog tabs 79 [.S s, .int .i64 w] (.bool (s.all (inC w))) := by
 intro st hG
 refine co 19 Tryz.func79 ?_
 refine AC_seq (AC_region ?_)
 refine ac rfl rfl rfl ?_
 refine AL_nil ?_
 refine AC_seq ?_
 refine AC_seq (AC_region ?_)
 refine mv rfl rfl rfl rfl ?_
 refine p_ (S_lenS (ts := #[]) rfl (.tmp rfl) (by kernel_rfl)) ?_
 refine p_ (S_move rfl (AEv.const _)) ?_
 refine AL_nil ?_
 refine AC_block ?_
 refine AC_loop (G := Nat) (fun i => i ≤ s.length ∧ (s.take i).all (inC w) = true) (fun i => [(0, .S s), (1, .int .i64 w), (7, .int .i64 (s.length : Int)), (8, .int .i64 (i : Int))]) (fun i => st) (fun i => s.length - i) (0) (⟨by simp, by simp⟩) rfl ?_ ?_
 ·exact (.cons rfl (by first | exact Le.refl _ | exact Le.nils | exact Le.row _ _ _ _ | (exact Le.of_eq (by simp))) (.cons rfl (by first | exact Le.refl _ | exact Le.nils | exact Le.row _ _ _ _ | (exact Le.of_eq (by simp))) (.cons rfl (by first | exact Le.refl _ | exact Le.nils | exact Le.row _ _ _ _ | (exact Le.of_eq (by simp))) (.cons rfl (by first | exact Le.refl _ | exact Le.nils | exact Le.row _ _ _ _ | (exact Le.of_eq (by simp))) .nil))))
 rintro i ⟨hi, hall⟩
 try dsimp only
 refine AC_seq (AC_region ?_)
 refine p_ (S_lss rfl (.tmp rfl) (.tmp rfl)) ?_
 refine AL_nil ?_
 refine AC_seq ?_
 refine AC_cond (.tmp rfl) (fun hb1 => ?_) (fun hb1 => ?_)
 ·try simp only [zA,zO,zN,zM,zP,zQ,zD,zF,gd] at hb1
  have hil : i < s.length := by omega
  refine AC_skip ?_
  refine AC_seq ?_
  refine AC_block ?_
  refine AC_seq (AC_region ?_)
  refine mv rfl rfl rfl rfl ?_
  refine as_ rfl rfl rfl rfl ?_
  refine AL_nil (AC_seq (AC_region ?_))
  refine mv rfl rfl rfl rfl ?_
  refine mv rfl rfl rfl rfl ?_
  refine p_ (S_index rfl (.tmp rfl) (.tmp rfl) (by kernel_rfl) (by omega) (by omega)) ?_
  refine p_ (S_gcall rfl (AEvs.cons (y := .int .u8 ((s[i]'hil).toNat : Int)) ((AEv.tmp rfl).le (Le.of_eq (by rw [atL_get hil]))) AEvs.nil) (text_of_ok (s[i]'hil) _ hG)) ?_
  refine mv rfl rfl rfl rfl ?_
  refine p_ (S_bits rfl (by simp) (.tmp rfl) (.tmp rfl)) ?_
  refine p_ ((S_eql rfl (.tmp rfl) (AEv.const _)).ofV (congrArg _ (of_bits (s[i]'hil) hw))) ?_
  refine AL_nil ?_
  refine AC_cond (.tmp rfl) (fun hb2 => ?_) (fun hb2 => ?_)
  ·try simp only [zA,zO,zN,zM,zP,zQ,zD,zF,gd] at hb2
   have hin : inC w (s[i]'hil) = false := by simpa using hb2
   have ha : s.all (inC w) = false := List.all_eq_false.2 ⟨s[i], List.getElem_mem hil, by rw [hin]; simp⟩
   refine AC_seq (AC_region ?_)
   refine ac rfl rfl rfl ?_
   refine AL_nil (AC_ret ?_)
   refine ret_tmp st rfl rfl (Sub.l (List.Sublist.refl _)) (Conv.refl (Sub.l (List.Sublist.refl _)) _) ⟨by rw [ha], rfl⟩ (.inl rfl)
  try simp only [zA,zO,zN,zM,zP,zQ,zD,zF,gd] at hb2
  have hin : inC w (s[i]'hil) = true := by simpa using hb2
  refine AC_skip ?_
  refine AC_region ?_
  refine p_ (S_addI rfl (.tmp rfl) (AEv.const _) (by omega) (by omega)) ?_
  refine mv rfl rfl rfl rfl ?_
  refine AL_nil ?_
  refine ⟨i + 1, ⟨by omega, by rw [all_take_succ hil, hall, hin]; rfl⟩, by omega, rfl, .cons rfl (Le.refl _) (.cons rfl (Le.refl _) (.cons rfl (Le.refl _) (.cons rfl (Le.of_eq (by rw [Int.natCast_add]; rfl)) .nil)))⟩
 try simp only [zA,zO,zN,zM,zP,zQ,zD,zF,gd] at hb1
 have ha : s.all (inC w) = true := by
  rw [List.take_of_length_le (by omega)] at hall
  exact hall
 refine AC_exit ?_
 refine AC_seq (AC_region ?_)
 refine ac rfl rfl rfl ?_
 refine AL_nil (AC_ret ?_)
 refine ret_tmp st rfl rfl (Sub.l (List.Sublist.refl _)) (Conv.refl (Sub.l (List.Sublist.refl _)) _) ⟨by rw [ha], rfl⟩ (.inl rfl)
theorem text_name_ok (s : List UInt8) : GCalls Tryz.prog tabs 55 [.S s] (.bool (nameV s)) := by
 intro st hG
 refine co 27 Tryz.func55 ?_
 have hpos : ∀ h : ¬ s = [], 0 < s.length := fun h => List.length_pos_iff.2 h
 refine AC_seq (AC_region ?_)
 refine ac rfl rfl rfl ?_
 refine AL_nil (AC_seq (AC_region ?_))
 refine mv rfl rfl rfl rfl ?_
 refine p_ (S_neS rfl (.tmp rfl) (AEv.S _)) ?_
 refine mv rfl rfl rfl rfl ?_
 refine g_ (fun _ => mA) ?_
 refine g_ (fun _ => S_lenS (ts := #[]) rfl (AEv.cd (.tmp rfl)) (by kernel_rfl)) ?_
 refine g_ (fun _ => S_leq rfl (AEv.cd (.tmp rfl)) (AEv.const _)) ?_
 refine an ?_
 refine mv rfl rfl rfl rfl ?_
 refine g_ (fun _ => mA) ?_
 refine g_ (fun _ => S_gcall rfl (AEvs.cons (AEv.cd (.tmp rfl)) (AEvs.cons (AEv.const _) AEvs.nil)) (text_all_ok s 1 (.inl rfl) (by simp only [gd, Bool.and_eq_true, decide_eq_true_eq] at *; omega) _ hG)) ?_
 refine an ?_
 refine mv rfl rfl rfl rfl ?_
 refine g_ (fun _ => mA) ?_
 refine g_ (fun _ => S_index rfl (AEv.cd (.tmp rfl)) (AEv.const _) (by kernel_rfl) (by omega) (by simp only [gd, Bool.and_eq_true, Bool.not_eq_true', decide_eq_false_iff_not, decide_eq_true_eq] at *; have hp : 0 < s.length := List.length_pos_iff.2 (by first | assumption | (simp_all; done)); omega)) ?_
 refine g_ (fun _ => S_neq rfl (AEv.cd (.tmp rfl)) (AEv.const _)) ?_
 refine an ?_
 refine mv rfl rfl rfl rfl ?_
 refine g_ (fun _ => mA) ?_
 refine g_ (fun _ => mA) ?_
 refine g_ (fun _ => S_lenS (ts := #[]) rfl (AEv.cd (.tmp rfl)) (by kernel_rfl)) ?_
 refine g_ (fun _ => S_subI rfl (AEv.cd (.tmp rfl)) (AEv.const _) (by (try simp only [gd, Bool.and_eq_true, Bool.or_eq_true, Bool.not_eq_true', Bool.not_eq_false', decide_eq_true_eq, decide_eq_false_iff_not, Bool.or_eq_false_iff, Bool.and_eq_false_iff] at *); omega) (by (try simp only [gd, Bool.and_eq_true, Bool.or_eq_true, Bool.not_eq_true', Bool.not_eq_false', decide_eq_true_eq, decide_eq_false_iff_not, Bool.or_eq_false_iff, Bool.and_eq_false_iff] at *); omega)) ?_
 refine g_ (fun _ => S_index rfl (AEv.cd (.tmp rfl)) (AEv.cd (.tmp rfl)) (by kernel_rfl) (by simp only [gd, Bool.and_eq_true, Bool.not_eq_true', decide_eq_false_iff_not, decide_eq_true_eq] at *; have hp : 0 < s.length := List.length_pos_iff.2 (by first | assumption | (simp_all; done)); omega) (by omega)) ?_
 refine g_ (fun _ => S_neq rfl (AEv.cd (.tmp rfl)) (AEv.const _)) ?_
 refine an ?_
 refine as_ rfl rfl rfl rfl ?_
 refine AL_nil (AC_ret ?_)
 refine ret_tmp st rfl rfl (Sub.l (List.Sublist.refl _)) (Conv.refl (Sub.l (List.Sublist.refl _)) _) ⟨rfl, rfl⟩ (.inl rfl)
theorem text_names_ok (s : List UInt8) (k : Nat) (hk : k ≤ 100) (hs : s.length ≤ 9223372036854775806) : GCalls Tryz.prog tabs 93 [.S s, .int .i64 (k : Int)] (.bool (namesR k s)) := by
 intro st hG
 refine co 24 Tryz.func93 ?_
 refine AC_seq (AC_region ?_)
 refine ac rfl rfl rfl ?_
 refine AL_nil ?_
 refine AC_seq ?_
 refine AC_seq (AC_region ?_)
 refine mv rfl rfl rfl rfl ?_
 refine p_ (S_move rfl (AEv.const _)) ?_
 refine AL_nil ?_
 refine AC_block ?_
 refine AC_loop (G := Nat × List UInt8) (fun g => g.1 ≤ k ∧ namesR k s = namesR (k - g.1) g.2 ∧ g.2.length ≤ s.length) (fun g => [(0, .S g.2), (8, .int .i64 (k : Int)), (9, .int .i64 (g.1 : Int))]) (fun g => st) (fun g => k - g.1) ((0, s)) (⟨by simp, by simp, by simp⟩) rfl ?_ ?_
 ·exact (.cons rfl (by first | exact Le.refl _ | exact Le.nils | exact Le.row _ _ _ _ | (exact Le.of_eq (by simp))) (.cons rfl (by first | exact Le.refl _ | exact Le.nils | exact Le.row _ _ _ _ | (exact Le.of_eq (by simp))) (.cons rfl (by first | exact Le.refl _ | exact Le.nils | exact Le.row _ _ _ _ | (exact Le.of_eq (by simp))) .nil)))
 rintro ⟨j, t⟩ ⟨hj, hR, htl⟩
 try dsimp only
 dsimp only at hj hR htl
 refine AC_seq (AC_region ?_)
 refine p_ (S_lss rfl (.tmp rfl) (.tmp rfl)) ?_
 refine AL_nil ?_
 refine AC_seq ?_
 refine AC_cond (.tmp rfl) (fun hb1 => ?_) (fun hb1 => ?_)
 ·try simp only [zA,zO,zN,zM,zP,zQ,zD,zF,gd] at hb1
  have hstep : namesR (k - j) t = if nameV (cutV 47 t).1 = true then (if (cutV 47 t).2.2 = true then namesR (k - j - 1) (cutV 47 t).2.1 else true) else false := by
   rw [show k - j = (k - j - 1) + 1 by omega]; rfl
  have hcl : (cutV 47 t).1.length ≤ t.length := cutV_le 47 t
  refine AC_skip ?_
  refine AC_seq ?_
  refine AC_block ?_
  refine AC_seq (AC_region ?_)
  refine mv rfl rfl rfl rfl ?_
  refine p_ (S_pcall rfl (AEvs.cons (.tmp rfl) (AEvs.cons (AEv.S _) AEvs.nil)) (strings_Cut_ok t 47 (by omega))) ?_
  refine mv rfl rfl rfl rfl ?_
  refine ex 0 ?_
  refine ex 1 ?_
  refine ex 2 ?_
  refine as_ rfl rfl rfl rfl ?_
  refine as_ rfl rfl rfl rfl ?_
  refine as_ rfl rfl rfl rfl ?_
  refine AL_nil ?_
  refine AC_seq ?_
  refine AC_seq (AC_region ?_)
  refine mv rfl rfl rfl rfl ?_
  refine p_ (S_gcall rfl (AEvs.cons (.tmp rfl) AEvs.nil) (text_name_ok (cutV 47 t).1 _ hG)) ?_
  refine p_ (S_not rfl (.tmp rfl)) ?_
  refine AL_nil ?_
  refine AC_cond (.tmp rfl) (fun hb2 => ?_) (fun hb2 => ?_)
  ·try simp only [zA,zO,zN,zM,zP,zQ,zD,zF,gd] at hb2
   have hname : ¬ nameV (cutV 47 t).1 = true := by simpa using hb2
   refine AC_seq (AC_region ?_)
   refine ac rfl rfl rfl ?_
   refine AL_nil (AC_ret ?_)
   refine ret_tmp st rfl rfl (Sub.l (List.Sublist.refl _)) (Conv.refl (Sub.l (List.Sublist.refl _)) _) ⟨by rw [hR, hstep, if_neg hname], rfl⟩ (.inl rfl)
  try simp only [zA,zO,zN,zM,zP,zQ,zD,zF,gd] at hb2
  have hname : nameV (cutV 47 t).1 = true := by simpa using hb2
  refine AC_skip ?_
  refine AC_seq ?_
  refine AC_seq (AC_region ?_)
  refine mv rfl rfl rfl rfl ?_
  refine p_ (S_not rfl (.tmp rfl)) ?_
  refine AL_nil ?_
  refine AC_cond (.tmp rfl) (fun hb3 => ?_) (fun hb3 => ?_)
  ·try simp only [zA,zO,zN,zM,zP,zQ,zD,zF,gd] at hb3
   have hmore : ¬ (cutV 47 t).2.2 = true := by simpa using hb3
   refine AC_seq (AC_region ?_)
   refine ac rfl rfl rfl ?_
   refine AL_nil (AC_ret ?_)
   refine ret_tmp st rfl rfl (Sub.l (List.Sublist.refl _)) (Conv.refl (Sub.l (List.Sublist.refl _)) _) ⟨by rw [hR, hstep, if_pos hname, if_neg hmore], rfl⟩ (.inl rfl)
  try simp only [zA,zO,zN,zM,zP,zQ,zD,zF,gd] at hb3
  have hmore : (cutV 47 t).2.2 = true := by simpa using hb3
  refine AC_skip ?_
  refine AC_region ?_
  refine mv rfl rfl rfl rfl ?_
  refine as_ rfl rfl rfl rfl ?_
  refine AL_nil ?_
  refine AC_region ?_
  refine p_ (S_addI rfl (.tmp rfl) (AEv.const _) (by omega) (by omega)) ?_
  refine mv rfl rfl rfl rfl ?_
  refine AL_nil ?_
  refine ⟨(j + 1, (cutV 47 t).2.1), ⟨by dsimp only; omega, by dsimp only; rw [hR, hstep, if_pos hname, if_pos hmore, show k - (j + 1) = k - j - 1 by omega], by have := cutV_len hmore; dsimp only; omega⟩, by dsimp only; omega, rfl, .cons rfl (Le.refl _) (.cons rfl (Le.refl _) (.cons rfl (Le.of_eq (by rw [Int.natCast_add]; rfl)) .nil))⟩
 try simp only [zA,zO,zN,zM,zP,zQ,zD,zF,gd] at hb1
 have hkj : k - j = 0 := by omega
 refine AC_exit ?_
 refine AC_seq (AC_region ?_)
 refine ac rfl rfl rfl ?_
 refine AL_nil (AC_ret ?_)
 refine ret_tmp st rfl rfl (Sub.l (List.Sublist.refl _)) (Conv.refl (Sub.l (List.Sublist.refl _)) _) ⟨by rw [hR, hkj]; rfl, rfl⟩ (.inl rfl)
theorem text_says_ok (b : Bool) (c : Int) : PCalls Tryz.prog 54 [.bool b, .int .i64 c] (.int .i64 (saysV b c)) := by
 intro st
 refine co 7 Tryz.func54 ?_
 refine AC_seq (AC_region ?_)
 refine ac rfl rfl rfl ?_
 refine AL_nil ?_
 refine AC_seq ?_
 refine AC_seq (AC_region ?_)
 refine mv rfl rfl rfl rfl ?_
 refine AL_nil ?_
 refine AC_cond (.tmp rfl) (fun hb1 => ?_) (fun hb1 => ?_)
 ·try simp only [zA,zO,zN,zM,zP,zQ,zD,zF,gd] at hb1
  have hb : b = true := hb1
  refine AC_seq (AC_region ?_)
  refine ac rfl rfl rfl ?_
  refine AL_nil (AC_ret ?_)
  refine ret_tmp st rfl rfl (Sub.l (List.Sublist.refl _)) (Conv.refl (Sub.l (List.Sublist.refl _)) _) ⟨by rw [saysV, if_pos (by assumption)], rfl⟩ (.inl rfl)
 try simp only [zA,zO,zN,zM,zP,zQ,zD,zF,gd] at hb1
 have hb : b = false := hb1
 refine AC_skip ?_
 refine AC_seq (AC_region ?_)
 refine mv rfl rfl rfl rfl ?_
 refine as_ rfl rfl rfl rfl ?_
 refine AL_nil (AC_ret ?_)
 refine ret_tmp st rfl rfl (Sub.l (List.Sublist.refl _)) (Conv.refl (Sub.l (List.Sublist.refl _)) _) ⟨by rw [saysV, if_neg (by simp_all)], rfl⟩ (.inl rfl)
theorem text_Name_ok (s : List UInt8) : GCalls Tryz.prog tabs 29 [.S s] (.int .i64 (saysV (nameV s) 30)) := by
 intro st hG
 refine co 6 Tryz.func29 ?_
 refine AC_seq (AC_region ?_)
 refine ac rfl rfl rfl ?_
 refine AL_nil (AC_seq (AC_region ?_))
 refine mv rfl rfl rfl rfl ?_
 refine p_ (S_gcall rfl (AEvs.cons (.tmp rfl) AEvs.nil) ((text_name_ok _) _ (fun p hp => by first | exact hG p hp | (simp [hG p hp]; done)))) ?_
 refine p_ (S_pcall rfl (AEvs.cons (.tmp rfl) (AEvs.cons (AEv.const _) AEvs.nil)) (text_says_ok _ _)) ?_
 refine as_ rfl rfl rfl rfl ?_
 refine AL_nil (AC_ret ?_)
 refine ret_tmp st rfl rfl (Sub.l (List.Sublist.refl _)) (Conv.refl (Sub.l (List.Sublist.refl _)) _) ⟨rfl, rfl⟩ (.inl rfl)
theorem text_Key_ok (s : List UInt8) (hs : s.length ≤ 9223372036854775806) : GCalls Tryz.prog tabs 70 [.S s] (.int .i64 (saysV (namesR 2 s) 31)) := by
 intro st hG
 refine co 6 Tryz.func70 ?_
 refine AC_seq (AC_region ?_)
 refine ac rfl rfl rfl ?_
 refine AL_nil (AC_seq (AC_region ?_))
 refine mv rfl rfl rfl rfl ?_
 refine p_ (S_gcall rfl (AEvs.cons (.tmp rfl) (AEvs.cons (AEv.const _) AEvs.nil)) (text_names_ok s 2 (by decide) hs _ hG)) ?_
 refine p_ (S_pcall rfl (AEvs.cons (.tmp rfl) (AEvs.cons (AEv.const _) AEvs.nil)) (text_says_ok _ _)) ?_
 refine as_ rfl rfl rfl rfl ?_
 refine AL_nil (AC_ret ?_)
 refine ret_tmp st rfl rfl (Sub.l (List.Sublist.refl _)) (Conv.refl (Sub.l (List.Sublist.refl _)) _) ⟨rfl, rfl⟩ (.inl rfl)
theorem text_Val_ok (s : List UInt8) (hs : s.length ≤ 9223372036854775806) : GCalls Tryz.prog tabs 71 [.S s] (.int .i64 (saysV (valV s) 32)) := by
 intro st hG
 refine co 11 Tryz.func71 ?_
 refine AC_seq (AC_region ?_)
 refine ac rfl rfl rfl ?_
 refine AL_nil (AC_seq (AC_region ?_))
 refine mv rfl rfl rfl rfl ?_
 refine p_ (S_lenS (ts := #[]) rfl (.tmp rfl) (by kernel_rfl)) ?_
 refine p_ (S_leq rfl (.tmp rfl) (AEv.const _)) ?_
 refine mv rfl rfl rfl rfl ?_
 refine g_ (fun _ => mA) ?_
 refine g_ (fun _ => S_gcall rfl (AEvs.cons (AEv.cd (.tmp rfl)) (AEvs.cons (AEv.const _) AEvs.nil)) ((text_all_ok _ _ (by first | exact .inl rfl | exact .inr (.inl rfl) | exact .inr (.inr rfl)) (by omega)) _ (fun p hp => by first | exact hG p hp | (simp [hG p hp]; done)))) ?_
 refine an ?_
 refine p_ (S_pcall rfl (AEvs.cons (.tmp rfl) (AEvs.cons (AEv.const _) AEvs.nil)) (text_says_ok _ _)) ?_
 refine as_ rfl rfl rfl rfl ?_
 refine AL_nil (AC_ret ?_)
 refine ret_tmp st rfl rfl (Sub.l (List.Sublist.refl _)) (Conv.refl (Sub.l (List.Sublist.refl _)) _) ⟨rfl, rfl⟩ (.inl rfl)
theorem text_repo_ok (s : List UInt8) (hs : s.length ≤ 9223372036854775806) : GCalls Tryz.prog tabs 96 [.S s] (.bool (repoV s)) := by
 intro st hG
 refine co 10 Tryz.func96 ?_
 refine AC_seq (AC_region ?_)
 refine ac rfl rfl rfl ?_
 refine AL_nil (AC_seq (AC_region ?_))
 refine mv rfl rfl rfl rfl ?_
 refine p_ (S_lenS (ts := #[]) rfl (.tmp rfl) (by kernel_rfl)) ?_
 refine p_ (S_leq rfl (.tmp rfl) (AEv.const _)) ?_
 refine mv rfl rfl rfl rfl ?_
 refine g_ (fun _ => mA) ?_
 refine g_ (fun _ => S_gcall rfl (AEvs.cons (AEv.cd (.tmp rfl)) (AEvs.cons (AEv.const _) AEvs.nil)) (text_names_ok s 24 (by decide) hs _ hG)) ?_
 refine an ?_
 refine as_ rfl rfl rfl rfl ?_
 refine AL_nil (AC_ret ?_)
 refine ret_tmp st rfl rfl (Sub.l (List.Sublist.refl _)) (Conv.refl (Sub.l (List.Sublist.refl _)) _) ⟨rfl, rfl⟩ (.inl rfl)
theorem text_tag_ok (s : List UInt8) (hs : s.length ≤ 9223372036854775806) : GCalls Tryz.prog tabs 97 [.S s] (.bool (tagV s)) := by
 intro st hG
 refine co 14 Tryz.func97 ?_
 refine AC_seq (AC_region ?_)
 refine ac rfl rfl rfl ?_
 refine AL_nil (AC_seq (AC_region ?_))
 refine mv rfl rfl rfl rfl ?_
 refine p_ (S_neS rfl (.tmp rfl) (AEv.S _)) ?_
 refine mv rfl rfl rfl rfl ?_
 refine g_ (fun _ => mA) ?_
 refine g_ (fun _ => S_lenS (ts := #[]) rfl (AEv.cd (.tmp rfl)) (by kernel_rfl)) ?_
 refine g_ (fun _ => S_leq rfl (AEv.cd (.tmp rfl)) (AEv.const _)) ?_
 refine an ?_
 refine mv rfl rfl rfl rfl ?_
 refine g_ (fun _ => mA) ?_
 refine g_ (fun _ => S_gcall rfl (AEvs.cons (AEv.cd (.tmp rfl)) (AEvs.cons (AEv.const _) AEvs.nil)) ((text_all_ok _ _ (by first | exact .inl rfl | exact .inr (.inl rfl) | exact .inr (.inr rfl)) (by omega)) _ (fun p hp => by first | exact hG p hp | (simp [hG p hp]; done)))) ?_
 refine an ?_
 refine as_ rfl rfl rfl rfl ?_
 refine AL_nil (AC_ret ?_)
 refine ret_tmp st rfl rfl (Sub.l (List.Sublist.refl _)) (Conv.refl (Sub.l (List.Sublist.refl _)) _) ⟨rfl, rfl⟩ (.inl rfl)
theorem text_parts_ok (s : List UInt8) (hs : s.length ≤ 9223372036854775806) : GCalls Tryz.prog tabs 78 [.S s] (.tup [.S (tparts s).1, .S (tparts s).2.1, .bool (tparts s).2.2]) := by
 intro st hG
 refine co 28 Tryz.func78 ?_
 have hcl := cutV_le 58 s
 have hcl2 := cutV_le2 58 s
 refine AC_seq (AC_region ?_)
 refine p_ (S_assign rfl (AEv.S _)) ?_
 refine p_ (S_assign rfl (AEv.S _)) ?_
 refine ac rfl rfl rfl ?_
 refine AL_nil (AC_seq (AC_region ?_))
 refine mv rfl rfl rfl rfl ?_
 refine p_ (S_pcall rfl (AEvs.cons (.tmp rfl) (AEvs.cons (AEv.S _) AEvs.nil)) (strings_Cut_ok s 58 hs)) ?_
 refine mv rfl rfl rfl rfl ?_
 refine ex 0 ?_
 refine ex 1 ?_
 refine ex 2 ?_
 refine as_ rfl rfl rfl rfl ?_
 refine as_ rfl rfl rfl rfl ?_
 refine as_ rfl rfl rfl rfl ?_
 refine AL_nil ?_
 refine AC_seq ?_
 refine AC_seq (AC_region ?_)
 refine mv rfl rfl rfl rfl ?_
 refine p_ (S_not rfl (.tmp rfl)) ?_
 refine mv rfl rfl rfl rfl ?_
 refine g_ (fun _ => mA) ?_
 refine g_ (fun _ => S_gcall rfl (AEvs.cons (AEv.cd (.tmp rfl)) AEvs.nil) ((text_repo_ok _ (by omega)) _ (fun p hp => by first | exact hG p hp | (simp [hG p hp]; done)))) ?_
 refine g_ (fun _ => S_not rfl (AEv.cd (.tmp rfl))) ?_
 refine p_ (S_or rfl (.tmp rfl) (fun hp10 => (AEv.cd (.tmp rfl)))) ?_
 refine mv rfl rfl rfl rfl ?_
 refine g_ (fun _ => mA) ?_
 refine g_ (fun _ => S_gcall rfl (AEvs.cons (AEv.cd (.tmp rfl)) AEvs.nil) ((text_tag_ok _ (by omega)) _ (fun p hp => by first | exact hG p hp | (simp [hG p hp]; done)))) ?_
 refine g_ (fun _ => S_not rfl (AEv.cd (.tmp rfl))) ?_
 refine p_ (S_or rfl (.tmp rfl) (fun hp20 => (AEv.cd (.tmp rfl)))) ?_
 refine AL_nil ?_
 refine AC_cond (.tmp rfl) (fun hb21 => ?_) (fun hb21 => ?_)
 ·try simp only [zA,zO,zN,zM,zP,zQ,zD,zF,gd] at hb21
  have ht := tparts_no (s := s) (fun h => by rw [h.1, h.2.1, h.2.2] at hb21; simp at hb21)
  refine AC_seq (AC_region ?_)
  refine p_ (S_assign rfl (AEv.S _)) ?_
  refine p_ (S_assign rfl (AEv.S _)) ?_
  refine ac rfl rfl rfl ?_
  refine AL_nil (AC_ret ?_)
  refine ret_tmps (ts := [2, 3, 4]) st rfl (by decide) rfl (Sub.l (List.Sublist.refl _)) (Conv.refl (Sub.l (List.Sublist.refl _)) _) ⟨(show AV.tup [.S [], .S [], .bool false] = _ from by rw [ht]), rfl⟩ (.inl rfl)
 try simp only [zA,zO,zN,zM,zP,zQ,zD,zF,gd] at hb21
 have hc3 : (cutV 58 s).2.2 = true ∧ repoV (cutV 58 s).1 = true ∧ tagV (cutV 58 s).2.1 = true := by
  cases h1 : (cutV 58 s).2.2 <;> cases h2 : repoV (cutV 58 s).1 <;> cases h3 : tagV (cutV 58 s).2.1 <;> simp_all
 have ht : tparts s = ((cutV 58 s).1, (cutV 58 s).2.1, true) := by rw [tparts, if_pos hc3]
 refine AC_skip ?_
 refine AC_seq (AC_region ?_)
 refine mv rfl rfl rfl rfl ?_
 refine mv rfl rfl rfl rfl ?_
 refine as_ rfl rfl rfl rfl ?_
 refine as_ rfl rfl rfl rfl ?_
 refine ac rfl rfl rfl ?_
 refine AL_nil (AC_ret ?_)
 refine ret_tmps (ts := [2, 3, 4]) st rfl (by decide) rfl (Sub.l (List.Sublist.refl _)) (Conv.refl (Sub.l (List.Sublist.refl _)) _) ⟨(show AV.tup [.S (cutV 58 s).1, .S (cutV 58 s).2.1, .bool true] = _ from by rw [ht]), rfl⟩ (.inl rfl)
theorem text_Image_ok (s : List UInt8) (hs : s.length ≤ 9223372036854775806) : GCalls Tryz.prog tabs 81 [.S s] (.int .i64 (saysV (tparts s).2.2 33)) := by
 intro st hG
 refine co 14 Tryz.func81 ?_
 refine AC_seq (AC_region ?_)
 refine ac rfl rfl rfl ?_
 refine AL_nil (AC_seq (AC_region ?_))
 refine mv rfl rfl rfl rfl ?_
 refine p_ (S_gcall rfl (AEvs.cons (.tmp rfl) AEvs.nil) ((text_parts_ok _ (by omega)) _ (fun p hp => by first | exact hG p hp | (simp [hG p hp]; done)))) ?_
 refine mv rfl rfl rfl rfl ?_
 refine ex 0 ?_
 refine ex 1 ?_
 refine ex 2 ?_
 refine as_ rfl rfl rfl rfl ?_
 refine as_ rfl rfl rfl rfl ?_
 refine as_ rfl rfl rfl rfl ?_
 refine AL_nil (AC_seq (AC_region ?_))
 refine mv rfl rfl rfl rfl ?_
 refine p_ (S_pcall rfl (AEvs.cons (.tmp rfl) (AEvs.cons (AEv.const _) AEvs.nil)) (text_says_ok _ _)) ?_
 refine as_ rfl rfl rfl rfl ?_
 refine AL_nil (AC_ret ?_)
 refine ret_tmp st rfl rfl (Sub.l (List.Sublist.refl _)) (Conv.refl (Sub.l (List.Sublist.refl _)) _) ⟨rfl, rfl⟩ (.inl rfl)
theorem text_Same_ok (a b : List UInt8) (ha : a.length ≤ 9223372036854775806) (hb : b.length ≤ 9223372036854775806) : GCalls Tryz.prog tabs 52 [.S a, .S b] (.bool (sameV a b)) := by
 intro st hG
 refine co 32 Tryz.func52 ?_
 refine AC_seq (AC_region ?_)
 refine ac rfl rfl rfl ?_
 refine AL_nil (AC_seq (AC_region ?_))
 refine mv rfl rfl rfl rfl ?_
 refine p_ (S_gcall rfl (AEvs.cons (.tmp rfl) AEvs.nil) ((text_parts_ok _ (by omega)) _ (fun p hp => by first | exact hG p hp | (simp [hG p hp]; done)))) ?_
 refine mv rfl rfl rfl rfl ?_
 refine ex 0 ?_
 refine ex 1 ?_
 refine ex 2 ?_
 refine as_ rfl rfl rfl rfl ?_
 refine as_ rfl rfl rfl rfl ?_
 refine as_ rfl rfl rfl rfl ?_
 refine AL_nil (AC_seq (AC_region ?_))
 refine mv rfl rfl rfl rfl ?_
 refine p_ (S_gcall rfl (AEvs.cons (.tmp rfl) AEvs.nil) ((text_parts_ok _ (by omega)) _ (fun p hp => by first | exact hG p hp | (simp [hG p hp]; done)))) ?_
 refine mv rfl rfl rfl rfl ?_
 refine ex 0 ?_
 refine ex 1 ?_
 refine ex 2 ?_
 refine as_ rfl rfl rfl rfl ?_
 refine as_ rfl rfl rfl rfl ?_
 refine as_ rfl rfl rfl rfl ?_
 refine AL_nil (AC_seq (AC_region ?_))
 refine mv rfl rfl rfl rfl ?_
 refine mv rfl rfl rfl rfl ?_
 refine g_ (fun _ => mA) ?_
 refine an ?_
 refine mv rfl rfl rfl rfl ?_
 refine g_ (fun _ => mA) ?_
 refine g_ (fun _ => mA) ?_
 refine g_ (fun _ => S_eqS rfl (AEv.cd (.tmp rfl)) (AEv.cd (.tmp rfl))) ?_
 refine an ?_
 refine as_ rfl rfl rfl rfl ?_
 refine AL_nil (AC_ret ?_)
 refine ret_tmp st rfl rfl (Sub.l (List.Sublist.refl _)) (Conv.refl (Sub.l (List.Sublist.refl _)) _) ⟨rfl, rfl⟩ (.inl rfl)
end Go.Proofs.YtfdcadnaginnpaaGreatDoor

set_option maxRecDepth 100000
namespace Go.Proofs.YtfdcadnaginnpaaGreatDoor
open Go.AL Go.NumSpec
theorem step_Unwrap_ok (p : List UInt8) (x : AV) : PCalls Tryz.prog 137 [.ip [.S p, x]] (x) := by
 intro st
 refine co 7 Tryz.func137 ?_
 refine AC_seq (AC_region ?_)
 refine ac rfl rfl rfl ?_
 refine AL_nil (AC_seq (AC_region ?_))
 refine mv rfl rfl rfl rfl ?_
 refine p_ (S_nilCheckP rfl (.tmp rfl)) ?_
 refine p_ (S_fieldP 1 rfl (.tmp rfl) (by kernel_rfl)) ?_
 refine p_ (S_loadP rfl (.tmp rfl) rfl (by kernel_rfl)) ?_
 refine as_ rfl rfl rfl rfl ?_
 refine AL_nil (AC_ret ?_)
 refine ret_tmp st rfl rfl (Sub.l (List.Sublist.refl _)) (Conv.refl (Sub.l (List.Sublist.refl _)) _) ⟨by first | rfl | (simp; done), rfl⟩ (.inl rfl)
theorem fail_In_ok (e : Er) (p : List UInt8) : PCalls Tryz.prog 53 [erV 33 116 e, .S p] (erV 33 116 (erIn e p)) := by
 intro st
 refine co 12 Tryz.func53 ?_
 refine AC_seq (AC_region ?_)
 refine ac rfl rfl rfl ?_
 refine AL_nil ?_
 refine AC_seq ?_
 refine AC_seq (AC_region ?_)
 refine mv rfl rfl rfl rfl ?_
 refine p_ (S_eqlE (er_is 33 116 e) rfl (.tmp rfl) (by kernel_rfl)) ?_
 refine AL_nil ?_
 refine AC_cond (.tmp rfl) (fun hb1 => ?_) (fun hb1 => ?_)
 ·try simp only [zA,zO,zN,zM,zP,zQ,zD,zF,gd] at hb1
  obtain rfl : e = none := by cases e with | none => rfl | some x => simp at hb1
  refine AC_seq (AC_region ?_)
  refine ac rfl rfl rfl ?_
  refine AL_nil (AC_ret ?_)
  refine ret_tmp st rfl rfl (Sub.l (List.Sublist.refl _)) (Conv.refl (Sub.l (List.Sublist.refl _)) _) ⟨rfl, rfl⟩ (.inl rfl)
 try simp only [zA,zO,zN,zM,zP,zQ,zD,zF,gd] at hb1
 obtain ⟨⟨c, ps⟩, rfl⟩ : ∃ x, e = some x := by cases e with | none => simp at hb1 | some x => exact ⟨x, rfl⟩
 obtain ⟨T9, z, hz⟩ := chain_ifc 33 116 c ps
 have hR : erV 33 116 (erIn (some (c, ps)) p) = .ifc 116 (.ip [.S p, .ifc T9 z]) := by
  show AV.ifc 116 _ = _
  rw [hz]
 have he : erV 33 116 (some (c, ps)) = .ifc T9 z := hz
 rw [hR]
 simp only [he]
 refine AC_skip ?_
 refine AC_seq (AC_region ?_)
 refine mv rfl rfl rfl rfl ?_
 refine mv rfl rfl rfl rfl ?_
 refine p_ (S_build (t := 119) (pl := [(0, 1), (1, 1)]) (zs := [.string ⟨#[]⟩, .nilIface]) rfl (AEvs.cons (.tmp rfl) (AEvs.cons (.tmp rfl) AEvs.nil)) (by kernel_rfl) rfl) ?_
 refine s_ (S_box rfl (.tmp rfl)) ?_
 rintro _ _ ⟨b2, rfl, rfl⟩
 refine p_ (S_ifc (T2 := 0) rfl (.tmp rfl) (by kernel_rfl)) ?_
 refine as_ rfl rfl rfl rfl ?_
 refine AL_nil (AC_ret ?_)
 refine ret_tmp st rfl rfl (Sub.l (List.Sublist.cons _ (List.Sublist.refl _))) (Conv.ifc (Conv.ipT (Sub.l (List.Sublist.cons _ (List.Sublist.refl _))) List.mem_cons_self (fun hn o ho => absurd (List.mem_map_of_mem (f := Prod.fst) ho) (by simp only [List.map_cons, List.nodup_cons] at hn; exact hn.1)))) ⟨rfl, rfl⟩ (.inl rfl)
theorem fail_First_ok (es : List Er) (hes : es.length ≤ 9223372036854775807) : PCalls Tryz.prog 27 [.sl (ersV 33 116 es)] (erV 33 116 (firstE es)) := by
 intro st
 refine co 15 Tryz.func27 ?_
 have hel : (ersV 33 116 es).length = es.length := by simp [ersV]
 refine AC_seq (AC_region ?_)
 refine ac rfl rfl rfl ?_
 refine AL_nil ?_
 refine AC_seq ?_
 refine AC_seq (AC_region ?_)
 refine mv rfl rfl rfl rfl ?_
 refine p_ (S_len (e := 29) rfl (.tmp rfl) (by kernel_rfl)) ?_
 refine p_ (S_move rfl (AEv.const _)) ?_
 refine AL_nil ?_
 refine AC_block ?_
 refine AC_loop (G := Nat) (fun i => i ≤ es.length ∧ firstE es = firstE (es.drop i)) (fun i => [(5, .sl (ersV 33 116 es)), (6, .int .i64 ((ersV 33 116 es).length : Int)), (7, .int .i64 (i : Int))]) (fun i => st) (fun i => es.length - i) (0) (⟨by simp, rfl⟩) rfl ?_ ?_
 ·exact .cons rfl (Le.refl _) (.cons rfl (Le.refl _) (.cons rfl (Le.refl _) .nil))
 rintro i ⟨hi, hf⟩
 try dsimp only
 refine AC_seq (AC_region ?_)
 refine p_ (S_lss rfl (.tmp rfl) (.tmp rfl)) ?_
 refine AL_nil ?_
 refine AC_seq ?_
 refine AC_cond (.tmp rfl) (fun hb1 => ?_) (fun hb1 => ?_)
 ·try simp only [zA,zO,zN,zM,zP,zQ,zD,zF,gd] at hb1
  have hil : i < es.length := by omega
  refine AC_skip ?_
  refine AC_seq ?_
  refine AC_block ?_
  refine AC_seq (AC_region ?_)
  refine p_ ((S_elem (e := 29) (c := erV 33 116 (es[i]'hil)) (i := (i : Int)) 1 rfl (.tmp rfl) (.tmp rfl) (by kernel_rfl) (by kernel_rfl) (by omega) (by simp [ersV, hil]) (by rw [er_cells]; rfl)).ofV (congrArg AV.ip (er_cells _ _ _))) ?_
  refine p_ (S_loadP rfl (.tmp rfl) rfl (by kernel_rfl)) ?_
  refine as_ rfl rfl rfl rfl ?_
  refine AL_nil (AC_seq (AC_region ?_))
  refine mv rfl rfl rfl rfl ?_
  refine p_ (S_neqE (er_is 33 116 (es[i]'hil)) rfl (.tmp rfl) (by kernel_rfl)) ?_
  refine AL_nil ?_
  refine AC_cond (.tmp rfl) (fun hb2 => ?_) (fun hb2 => ?_)
  ·try simp only [zA,zO,zN,zM,zP,zQ,zD,zF,gd] at hb2
   obtain ⟨x, hin⟩ : ∃ x, es[i]'hil = some x := by cases h : es[i]'hil with | none => rw [h] at hb2; simp at hb2 | some x => exact ⟨x, rfl⟩
   refine AC_seq (AC_region ?_)
   refine mv rfl rfl rfl rfl ?_
   refine as_ rfl rfl rfl rfl ?_
   refine AL_nil (AC_ret ?_)
   refine ret_tmp st rfl rfl (Sub.l (List.Sublist.refl _)) (Conv.refl (Sub.l (List.Sublist.refl _)) _) ⟨by rw [hf, first_some hil hin, hin], rfl⟩ (.inl rfl)
  try simp only [zA,zO,zN,zM,zP,zQ,zD,zF,gd] at hb2
  have hin : es[i]'hil = none := by cases h : es[i]'hil with | none => rfl | some x => rw [h] at hb2; simp at hb2
  refine AC_skip ?_
  refine AC_region ?_
  refine p_ (S_addI rfl (.tmp rfl) (AEv.const _) (by omega) (by omega)) ?_
  refine mv rfl rfl rfl rfl ?_
  refine AL_nil ?_
  refine ⟨i + 1, ⟨by omega, by rw [hf, first_none hil hin]⟩, by omega, rfl, .cons rfl (Le.refl _) (.cons rfl (Le.refl _) (.cons rfl (Le.of_eq (by rw [Int.natCast_add]; rfl)) .nil))⟩
 try simp only [zA,zO,zN,zM,zP,zQ,zD,zF,gd] at hb1
 have hi2 : es.drop i = [] := List.drop_of_length_le (by omega)
 refine AC_exit ?_
 refine AC_seq (AC_region ?_)
 refine ac rfl rfl rfl ?_
 refine AL_nil (AC_ret ?_)
 refine ret_tmp st rfl rfl (Sub.l (List.Sublist.refl _)) (Conv.refl (Sub.l (List.Sublist.refl _)) _) ⟨by rw [hf, hi2]; rfl, rfl⟩ (.inl rfl)
theorem fail_New_ok (c : Int) (ps : List (List UInt8)) (hl : ps.length ≤ 9223372036854775807) : PCalls Tryz.prog 28 [.int .i64 c, .sl (strsV ps)] (erV 33 116 (erNew c ps)) := by
 intro st
 refine co 25 Tryz.func28 ?_
 have hpl := strsV_len ps
 refine AC_seq (AC_region ?_)
 refine ac rfl rfl rfl ?_
 refine AL_nil ?_
 refine AC_seq ?_
 refine AC_seq (AC_region ?_)
 refine mv rfl rfl rfl rfl ?_
 refine p_ (S_eql rfl (.tmp rfl) (AEv.const _)) ?_
 refine AL_nil ?_
 refine AC_cond (.tmp rfl) (fun hb1 => ?_) (fun hb1 => ?_)
 ·try simp only [zA,zO,zN,zM,zP,zQ,zD,zF,gd] at hb1
  have hc0 : c = 0 := by omega
  refine AC_seq (AC_region ?_)
  refine ac rfl rfl rfl ?_
  refine AL_nil (AC_ret ?_)
  refine ret_tmp st rfl rfl (Sub.l (List.Sublist.refl _)) (Conv.refl (Sub.l (List.Sublist.refl _)) _) ⟨by rw [erNew_none hc0]; rfl, rfl⟩ (.inl rfl)
 try simp only [zA,zO,zN,zM,zP,zQ,zD,zF,gd] at hb1
 have hc0 : c ≠ 0 := by omega
 refine AC_skip ?_
 refine AC_seq (AC_region ?_)
 refine mv rfl rfl rfl rfl ?_
 refine p_ (S_ifc (T2 := 0) rfl (.tmp rfl) (by kernel_rfl)) ?_
 refine as_ rfl rfl rfl rfl ?_
 refine AL_nil ?_
 refine AC_seq ?_
 refine AC_seq (AC_region ?_)
 refine mv rfl rfl rfl rfl ?_
 refine p_ (S_len (e := 9) rfl (.tmp rfl) (by kernel_rfl)) ?_
 refine p_ (S_subI rfl (.tmp rfl) (AEv.const _) (by omega) (by omega)) ?_
 refine as_ rfl rfl rfl rfl ?_
 refine AL_nil ?_
 refine AC_block ?_
 refine AC_loop (G := Nat) (fun n => n ≤ ps.length) (fun n => [(1, .sl (strsV ps)), (5, erV 33 116 (some (c, ps.drop n))), (6, .int .i64 ((n : Int) - 1))]) (fun n => st) (fun n => n) (ps.length) (Nat.le_refl _) rfl ?_ ?_
 ·exact .cons rfl (Le.refl _) (.cons rfl (Le.of_eq (by rw [List.drop_length]; rfl)) (.cons rfl (Le.of_eq (by rw [hpl])) .nil))
 rintro n hn
 try dsimp only
 refine AC_seq ?_
 refine AC_seq (AC_region ?_)
 refine mv rfl rfl rfl rfl ?_
 refine p_ (S_geq rfl (.tmp rfl) (AEv.const _)) ?_
 refine AL_nil ?_
 refine AC_cond (.tmp rfl) (fun hb2 => ?_) (fun hb2 => ?_)
 ·try simp only [zA,zO,zN,zM,zP,zQ,zD,zF,gd] at hb2
  obtain ⟨k, rfl⟩ : ∃ k, n = k + 1 := ⟨n - 1, by omega⟩
  have hil : k < ps.length := by omega
  refine AC_skip ?_
  refine AC_seq ?_
  refine AC_block ?_
  refine AC_region ?_
  refine mv rfl rfl rfl rfl ?_
  refine mv rfl rfl rfl rfl ?_
  refine mv rfl rfl rfl rfl ?_
  refine p_ (S_elem (e := 9) (c := .S (ps[k]'hil)) (i := ((k + 1 : Nat) : Int) - 1) 1 rfl (.tmp rfl) (.tmp rfl) (by kernel_rfl) (by kernel_rfl) (by omega) (by simp [strsV, hil]) rfl) ?_
  refine p_ (S_loadP rfl (.tmp rfl) rfl (by kernel_rfl)) ?_
  refine p_ (S_pcall rfl (AEvs.cons (.tmp rfl) (AEvs.cons (.tmp rfl) AEvs.nil)) (fail_In_ok (some (c, ps.drop (k + 1))) (ps[k]'hil))) ?_
  refine as_ rfl rfl rfl rfl ?_
  refine AL_nil ?_
  refine AC_region ?_
  refine mv rfl rfl rfl rfl ?_
  refine p_ (S_subI rfl (.tmp rfl) (AEv.const _) (by omega) (by omega)) ?_
  refine as_ rfl rfl rfl rfl ?_
  refine AL_nil ?_
  refine ⟨k, by omega, by omega, rfl, .cons rfl (Le.refl _) (.cons rfl (Le.of_eq (by rw [List.drop_eq_getElem_cons hil]; rfl)) (.cons rfl (Le.of_eq (by rw [show ((k + 1 : Nat) : Int) - 1 - 1 = (k : Int) - 1 by omega])) .nil))⟩
 try simp only [zA,zO,zN,zM,zP,zQ,zD,zF,gd] at hb2
 obtain rfl : n = 0 := by omega
 refine AC_exit ?_
 refine AC_seq (AC_region ?_)
 refine mv rfl rfl rfl rfl ?_
 refine as_ rfl rfl rfl rfl ?_
 refine AL_nil (AC_ret ?_)
 refine ret_tmp st rfl rfl (Sub.l (List.Sublist.refl _)) (Conv.refl (Sub.l (List.Sublist.refl _)) _) ⟨by rw [erNew_some hc0]; rfl, rfl⟩ (.inl rfl)
end Go.Proofs.YtfdcadnaginnpaaGreatDoor

namespace Go.Proofs
open Go.Shelf
open Go.RowKit in
open Go.RowKit in
open Go.RowKit in
open Go.RowKit in
open Go.RowKit in
def Tryz.lays156_ren : Go.Shelf.Ren := ⟨fun | 156 => 37 | 165 => 67 | 166 => 68 | 169 => 69 | 240 => 91 | 241 => 92 | 276 => 102 | 277 => 103 | n => n, fun | 31 => 64 | 9 => 9 | 3 => 3 | 4 => 4 | 0 => 0 | 20 => 20 | 72 => 111 | 76 => 113 | 70 => 108 | 37 => 109 | 75 => 29 | 127 => 145 | 164 => 96 | 5 => 5 | 80 => 115 | n => n, fun | n => n⟩
theorem Tryz.lays156 : Go.Proofs.Lays.n156 Tryz.prog Tryz.lays156_ren := {
  mixed := by kernel_rfl
  f156 := Tryz.func37.trans (congrArg some (by kernel_rfl))
  f165 := Tryz.func67.trans (congrArg some (by kernel_rfl))
  f166 := Tryz.func68.trans (congrArg some (by kernel_rfl))
  f169 := Tryz.func69.trans (congrArg some (by kernel_rfl))
  f240 := Tryz.func91.trans (congrArg some (by kernel_rfl))
  f241 := Tryz.func92.trans (congrArg some (by kernel_rfl))
  f276 := Tryz.func102.trans (congrArg some (by kernel_rfl))
  f277 := Tryz.func103.trans (congrArg some (by kernel_rfl))
  t0 := Tryz.underlying0
  a0 := Tryz.isAgg0
  z0 := Tryz.sizeOf0
  v0 := Tryz.zeroValue0
  t3 := Tryz.underlying3
  a3 := Tryz.isAgg3
  z3 := Tryz.sizeOf3
  v3 := Tryz.zeroValue3
  t4 := Tryz.underlying4
  a4 := Tryz.isAgg4
  z4 := Tryz.sizeOf4
  v4 := Tryz.zeroValue4
  t9 := Tryz.underlying9
  a9 := Tryz.isAgg9
  z9 := Tryz.sizeOf9
  v9 := Tryz.zeroValue9
  t20 := Tryz.underlying20
  a20 := Tryz.isAgg20
  z20 := Tryz.sizeOf20
  v20 := Tryz.zeroValue20
  t31 := Tryz.underlying64
  a31 := Tryz.isAgg64
  z31 := Tryz.sizeOf64
  v31 := Tryz.zeroValue64
  t37 := Tryz.underlying109
  a37 := Tryz.isAgg109
  z37 := Tryz.sizeOf109
  v37 := Tryz.zeroValue109
  t70 := Tryz.underlying108
  a70 := Tryz.isAgg108
  z70 := Tryz.sizeOf108
  v70 := Tryz.zeroValue108
  t72 := Tryz.underlying111
  a72 := Tryz.isAgg111
  z72 := Tryz.sizeOf111
  v72 := Tryz.zeroValue111
  t75 := Tryz.underlying29
  a75 := Tryz.isAgg29
  z75 := Tryz.sizeOf29
  v75 := Tryz.zeroValue29
  t76 := Tryz.underlying113
  a76 := Tryz.isAgg113
  z76 := Tryz.sizeOf113
  v76 := Tryz.zeroValue113
  t127 := Tryz.underlying145
  a127 := Tryz.isAgg145
  z127 := Tryz.sizeOf145
  v127 := Tryz.zeroValue145
  t164 := Tryz.underlying96
  a164 := Tryz.isAgg96
  z164 := Tryz.sizeOf96
  v164 := Tryz.zeroValue96 }
theorem Tryz.Builder_Extra_156 : Builder.Extra Tryz.prog Tryz.lays156_ren := {
  sizeBuilder := by kernel_rfl
  liesBuilder := by kernel_rfl
  t5 := Tryz.underlying5
  a5 := Tryz.isAgg5
  z5 := Tryz.sizeOf5
  v5 := Tryz.zeroValue5
  infoByte := by kernel_rfl
  cellsByte := by kernel_rfl
  sizeByte := by kernel_rfl
  neB5 := by decide }
open Go.RowKit in
/-- No element: the empty string; the world is as it was. (Whatever the slice's address and capacity: a nil slice too.) (LAID: no walk: one application.) -/
theorem Tryz.strings_Join_none (a : Option Addr) (c : Nat) (sep : ByteArray) (w : World) :
    Calls Tryz.prog 37 #[.slice a 0 c, .string sep] w fun e w' => e = .returned (.string ⟨#[]⟩) ∧ w' = w := Any.strings_Join_none Tryz.lays156 Tryz.Builder_Extra_156 a c sep w
open Go.RowKit in
/-- strings.Join: "Join concatenates the elements of its first argument to create a single string. The separator string sep is placed between elements in the resulting string.": HOWEVER MANY ELEMENTS. Below the heap's end the world is as it was. (LAID: no walk: one application.) -/
theorem Tryz.strings_Join (bk o c : Nat) (xs : List ByteArray) (sep : ByteArray) (w : World) (hcells : ∀ (j : Nat) x, xs[j]? = some x → w.cell? ⟨bk, o + j, none⟩ = some (.string x)) (hbk : bk < w.heap.size) (hN : xs.length ≤ 140737488355328) (hcap : xs.length ≤ c) (hlen : (Lib.join (xs.map (·.data.toList)) sep.data.toList).length ≤ 140737488355328) :
    Calls Tryz.prog 37 #[.slice (some ⟨bk, o, none⟩) xs.length c, .string sep] w fun e w' => e = .returned (.string ⟨(Lib.join (xs.map (·.data.toList)) sep.data.toList).toArray⟩) ∧ Below w.heap.size w w' := Any.strings_Join Tryz.lays156 Tryz.Builder_Extra_156 bk o c xs sep w hcells hbk hN hcap hlen
end Go.Proofs

set_option maxRecDepth 100000
namespace Go.Proofs.YtfdcadnaginnpaaGreatDoor
open Go.AL Go.NumSpec
set_option maxHeartbeats 4000000 in
theorem errors_as_code (c : Int) (ps : List (List UInt8)) (a b : Nat) (Y : AV) (F : St) : ACalls Tryz.prog 66 [chainV 33 116 c ps, .ifc 72 (.ptr b 0), rvAV (hv 72) a (.int .u64 150), .lit (ty 33)] ([(a, Ob.cells [.ptr b 0]), (b, Ob.cells [Y])] ++ F) (fun x st' => ∃ foot', (x = .bool true ∧ foot' = [(a, Ob.cells [.ptr b 0]), (b, Ob.cells [.int .i64 c])]) ∧ st' = foot' ++ F) := by
 refine co 62 Tryz.func66 ?_
 refine AC_seq (AC_region ?_)
 refine s_ (S_box rfl (.tmp rfl)) ?_
 rintro _ _ ⟨b1, rfl, rfl⟩
 refine ac rfl rfl rfl ?_
 refine AL_nil ?_
 refine AC_block ?_
 refine AC_loop (G := List (List UInt8)) (fun g => True) (fun g => [(0, chainV 33 116 c g), (1, .ifc 72 (.ptr b 0)), (3, .lit (ty 33)), (6, .ptr b1 0)]) (fun g => ((b1, .cells [.lit (hv 72), .ptr a 0, .lit (.int .u64 150)]) :: ([(a, Ob.cells [.ptr b 0]), (b, Ob.cells [Y])] ++ F))) (fun g => g.length) (ps) (trivial) rfl ?_ ?_
 ·exact (.cons rfl (Le.refl _) (.cons rfl (Le.refl _) (.cons rfl (Le.refl _) (.cons rfl (Le.refl _) .nil))))
 rintro g _
 try dsimp only
 refine AC_block ?_
 refine AC_seq ?_
 refine AC_seq (AC_region ?_)
 refine mv rfl rfl rfl rfl ?_
 refine p_ ((show PStep _ _ _ _ _ (.lit (ty (typV 33 116 g))) from by cases g with | nil => exact S_typeOf rfl (.tmp rfl) x30 t27 | cons p0 ps0 => exact S_typeOf rfl (.tmp rfl) x30 t49)) ?_
 refine mv rfl rfl rfl rfl ?_
 refine p_ ((show PStep _ _ _ _ _ (.bool g.isEmpty) from by cases g with | nil => exact (by simp only [typV]; exact S_invL (ys := [.tmp 18]) (vals := [ty 33]) rfl (.tmp rfl) (AEvs.cons (.tmp rfl) AEvs.nil) (mAssign 33) x63 a2727) | cons p0 ps0 => exact (by simp only [typV]; exact S_invL (ys := [.tmp 18]) (vals := [ty 33]) rfl (.tmp rfl) (AEvs.cons (.tmp rfl) AEvs.nil) (mAssign 116) x63 a4927))) ?_
 refine AL_nil ?_
 refine AC_cond (.tmp rfl) (fun hb2 => ?_) (fun hb2 => ?_)
 ·try simp only [zA,zO,zN,zM,zP,zQ,zD,zF,gd] at hb2
  obtain rfl : g = [] := by cases g with | nil => rfl | cons p1 ps1 => simp at hb2
  refine AC_seq (AC_region ?_)
  refine ldN 3 0 ?_
  refine p_ (S_elemV rfl (.tmp rfl) (List.mem_cons_of_mem _ List.mem_cons_self) x32 (l48 a b)) ?_
  refine mv rfl rfl rfl rfl ?_
  refine s_ (S_valueOf rfl (.tmp rfl) x23 (fun w u hu => by rw [hu.lit_inv]; exact v27 c w)) ?_
  rintro _ _ ⟨d, rfl, rfl⟩
  refine s_ (S_setV (n := 3) rfl (.tmp rfl) (.tmp rfl) rfl List.mem_cons_self x33 (fun w u old hu h1 h2 h3 => by rw [hu.lit_inv] at h1 ⊢; exact s27 b d _ old w (by simp [Value.cells]) rfl h1 h2 h3)) ?_
  rintro _ _ ⟨rfl, rfl⟩
  refine AL_nil (AC_seq (AC_region ?_))
  refine ac rfl rfl rfl ?_
  refine AL_nil (AC_ret ?_)
  refine ret_tmp ([(a, Ob.cells [.ptr b 0]), (b, Ob.cells [.int .i64 c])] ++ F) rfl rfl (Sub.l (List.Sublist.cons _ (List.Sublist.cons _ (List.Sublist.refl _)))) (Conv.refl (Sub.l (List.Sublist.cons _ (List.Sublist.cons _ (List.Sublist.refl _)))) _) ⟨_, ⟨rfl, rfl⟩, rfl⟩ (.inl rfl)
 try simp only [zA,zO,zN,zM,zP,zQ,zD,zF,gd] at hb2
 obtain ⟨p1, ps1, rfl⟩ : ∃ p1 ps1, g = p1 :: ps1 := by cases g with | nil => simp at hb2 | cons p1 ps1 => exact ⟨p1, ps1, rfl⟩
 refine AC_skip ?_
 refine AC_seq ?_
 refine AC_seq (AC_region ?_)
 refine mv rfl rfl rfl rfl ?_
 refine p_ (S_assertNo (X := 0) rfl (.tmp rfl) Tryz.underlying138 (by kernel_rfl) (by kernel_rfl)) ?_
 refine mv rfl rfl rfl rfl ?_
 refine ex 0 ?_
 refine ex 1 ?_
 refine as_ rfl rfl rfl rfl ?_
 refine as_ rfl rfl rfl rfl ?_
 refine AL_nil (AC_seq (AC_region ?_))
 refine mv rfl rfl rfl rfl ?_
 refine mv rfl rfl rfl rfl ?_
 refine g_ (fun _ => mA) ?_
 refine g_ (fun _ => mA) ?_
 refine g_ (fun _ => (show PStep _ _ _ _ _ (.bool false) from absurd (show gd false true = true by assumption) (by decide))) ?_
 refine an ?_
 refine AL_nil ?_
 refine AC_cond (.tmp rfl) (fun hb13 => ?_) (fun hb13 => ?_)
 ·simp at hb13; done
 try simp only [zA,zO,zN,zM,zP,zQ,zD,zF,gd] at hb13
 refine AC_skip ?_
 refine AC_seq (AC_region ?_)
 refine mv rfl rfl rfl rfl ?_
 refine AL_nil ?_
 refine AC_block ?_
 refine AC_seq (AC_region ?_)
 refine p_ (S_assertYes rfl (.tmp rfl) Tryz.underlying141 (by kernel_rfl)) ?_
 refine ex 1 ?_
 refine ex 0 ?_
 refine AL_nil ?_
 refine AC_cond (.tmp rfl) (fun hb14 => ?_) (fun hb14 => ?_)
 ·try simp only [zA,zO,zN,zM,zP,zQ,zD,zF,gd] at hb14
  refine AC_seq (AC_region ?_)
  refine as_ rfl rfl rfl rfl ?_
  refine AL_nil (AC_seq (AC_region ?_))
  refine mv rfl rfl rfl rfl ?_
  refine s_ (S_invC rfl (.tmp rfl) mUnwrap (step_Unwrap_ok _ _ _)) ?_
  rintro _ _ ⟨rfl, rfl⟩
  refine as_ rfl rfl rfl rfl ?_
  refine AL_nil (AC_seq (AC_region ?_))
  refine mv rfl rfl rfl rfl ?_
  refine p_ (S_eqlE (chain_is 33 116 c ps1) rfl (.tmp rfl) (by kernel_rfl)) ?_
  refine AL_nil ?_
  refine AC_cond (.tmp rfl) (fun hb15 => ?_) (fun hb15 => ?_)
  ·simp at hb15; done
  try simp only [zA,zO,zN,zM,zP,zQ,zD,zF,gd] at hb15
  refine AC_skip ?_
  refine ⟨ps1, trivial, by simp, rfl, (.cons rfl (Le.refl _) (.cons rfl (Le.refl _) (.cons rfl (Le.refl _) (.cons rfl (Le.refl _) .nil))))⟩
 simp at hb14; done
set_option maxHeartbeats 4000000 in
theorem errors_As_code (c : Int) (ps : List (List UInt8)) (b : Nat) (Y : AV) (F : St) (hF : (0, Ob.konst [ty 29]) ∈ F) : ACalls Tryz.prog 36 [chainV 33 116 c ps, .ifc 72 (.ptr b 0)] ([(b, .cells [Y])] ++ F) (fun x st' => ∃ foot', (x = .bool true ∧ foot' = [(b, .cells [.int .i64 c])]) ∧ st' = foot' ++ F) := by
 refine co 42 Tryz.func36 ?_
 refine AC_seq (AC_region ?_)
 refine ac rfl rfl rfl ?_
 refine AL_nil ?_
 refine AC_seq ?_
 refine AC_seq (AC_region ?_)
 refine mv rfl rfl rfl rfl ?_
 refine p_ (S_eqlE (chain_is 33 116 c ps) rfl (.tmp rfl) (by kernel_rfl)) ?_
 refine AL_nil ?_
 refine AC_cond (.tmp rfl) (fun hb1 => ?_) (fun hb1 => ?_)
 ·simp at hb1; done
 try simp only [zA,zO,zN,zM,zP,zQ,zD,zF,gd] at hb1
 refine AC_skip ?_
 refine AC_seq ?_
 refine AC_seq (AC_region ?_)
 refine mv rfl rfl rfl rfl ?_
 refine p_ (S_eqlE (ifc_is 72 (.ptr b 0)) rfl (.tmp rfl) (by kernel_rfl)) ?_
 refine AL_nil ?_
 refine AC_cond (.tmp rfl) (fun hb2 => ?_) (fun hb2 => ?_)
 ·simp at hb2; done
 try simp only [zA,zO,zN,zM,zP,zQ,zD,zF,gd] at hb2
 refine AC_skip ?_
 refine AC_seq (AC_region ?_)
 refine mv rfl rfl rfl rfl ?_
 refine s_ (S_valueOf rfl (.tmp rfl) x23 (fun w u hu => by rw [hu.lit_inv]; exact v48 b w)) ?_
 rintro _ _ ⟨a, rfl, rfl⟩
 refine s_ (S_alloc [.pointer none, .pointer none, .int .u64 0] rfl (by kernel_rfl)) ?_
 rintro _ _ ⟨b3, rfl, rfl⟩
 refine stN 0 ?_
 refine AL_nil (AC_seq (AC_region ?_))
 refine ldN 3 0 ?_
 refine p_ (S_rvP rfl (.tmp rfl) x24 (y48 a)) ?_
 refine as_ rfl rfl rfl rfl ?_
 refine AL_nil ?_
 refine AC_seq ?_
 refine AC_seq (AC_region ?_)
 refine mv rfl rfl rfl rfl ?_
 refine p_ (S_invL (ys := []) (vals := []) rfl (.tmp rfl) AEvs.nil (mKind 72) x52 k48) ?_
 refine p_ (S_neq rfl (.tmp rfl) (AEv.const _)) ?_
 refine mv rfl rfl rfl rfl ?_
 refine AL_gTp rfl rfl (.tmp rfl) rfl rfl (S_loadN (m := 3) 0 rfl (.tmp rfl) rfl (by kernel_rfl) (by first | exact Nat.le_of_ble_eq_true rfl | (simp; omega) | simp)) ?_
 refine AL_gTp rfl rfl (.tmp rfl) rfl rfl (S_isNilV rfl (.tmp rfl) (List.mem_cons_of_mem _ List.mem_cons_self) x25 (n48 a b)) ?_
 refine p_ (S_or rfl (.tmp rfl) (fun hp4 => (.tmp rfl))) ?_
 refine AL_nil ?_
 refine AC_cond (.tmp rfl) (fun hb5 => ?_) (fun hb5 => ?_)
 ·simp at hb5; done
 try simp only [zA,zO,zN,zM,zP,zQ,zD,zF,gd] at hb5
 refine AC_skip ?_
 refine AC_seq (AC_region ?_)
 refine mv rfl rfl rfl rfl ?_
 refine p_ (S_invL (ys := []) (vals := []) rfl (.tmp rfl) AEvs.nil (mElem 72) x65 e48) ?_
 refine as_ rfl rfl rfl rfl ?_
 refine AL_nil ?_
 refine AC_seq ?_
 refine AC_seq (AC_region ?_)
 refine mv rfl rfl rfl rfl ?_
 refine p_ (S_invL (ys := []) (vals := []) rfl (.tmp rfl) AEvs.nil (mKind 33) x52 k27) ?_
 refine p_ (S_neq rfl (.tmp rfl) (AEv.const _)) ?_
 refine mv rfl rfl rfl rfl ?_
 refine AL_gTp rfl rfl (.tmp rfl) rfl rfl (S_move rfl (.tmp rfl)) ?_
 refine AL_gTp rfl rfl (.tmp rfl) rfl rfl (S_loadK rfl (AEv.global _) (List.mem_cons_of_mem _ (List.mem_cons_of_mem _ (List.mem_cons_of_mem _ hF))) rfl (by kernel_rfl)) ?_
 refine AL_gTp rfl rfl (.tmp rfl) rfl rfl (S_invL (ys := [.tmp 32]) (vals := [ty 29]) rfl (.tmp rfl) (AEvs.cons (.tmp rfl) AEvs.nil) (mImpl 33) x66 i27) ?_
 refine AL_gTp rfl rfl (.tmp rfl) rfl rfl (S_not rfl (.tmp rfl)) ?_
 refine p_ (S_and rfl (.tmp rfl) (fun hp6 => (.tmp rfl))) ?_
 refine AL_nil ?_
 refine AC_cond (.tmp rfl) (fun hb7 => ?_) (fun hb7 => ?_)
 ·simp at hb7; done
 try simp only [zA,zO,zN,zM,zP,zQ,zD,zF,gd] at hb7
 refine AC_skip ?_
 refine AC_seq (AC_region ?_)
 refine mv rfl rfl rfl rfl ?_
 refine mv rfl rfl rfl rfl ?_
 refine ldN 3 0 ?_
 refine mv rfl rfl rfl rfl ?_
 refine s_ (S_call rfl (AEvs.cons (.tmp rfl) (AEvs.cons (.tmp rfl) (AEvs.cons (.tmp rfl) (AEvs.cons (.tmp rfl) AEvs.nil)))) (ACalls.pre (foot := [(a, Ob.cells [.ptr b 0]), (b, Ob.cells [Y])]) (K := fun x foot' => x = .bool true ∧ foot' = [(a, Ob.cells [.ptr b 0]), (b, Ob.cells [.int .i64 c])]) (errors_as_code c ps a b Y) [(_, _)] F)) ?_
 rintro _ _ ⟨_, ⟨rfl, rfl⟩, rfl⟩
 refine as_ rfl rfl rfl rfl ?_
 refine AL_nil (AC_ret ?_)
 refine ret_tmp ([(b, Ob.cells [.int .i64 c])] ++ F) rfl rfl (Sub.l (List.Sublist.cons _ (List.Sublist.cons _ (List.Sublist.refl _)))) (Conv.refl (Sub.l (List.Sublist.cons _ (List.Sublist.cons _ (List.Sublist.refl _)))) _) ⟨_, ⟨rfl, rfl⟩, rfl⟩ (.inl rfl)
set_option maxHeartbeats 4000000 in
theorem errors_as_step (c : Int) (ps : List (List UInt8)) (a b : Nat) (Y : AV) (F : St) : ACalls Tryz.prog 66 [chainV 33 116 c ps, .ifc 117 (.ptr b 0), rvAV (hv 117) a (.int .u64 150), .lit (ty 116)] ([(a, Ob.cells [.ptr b 0]), (b, Ob.cells [Y])] ++ F) (fun x st' => ∃ foot', (x = .bool (!ps.isEmpty) ∧ foot' = [(a, Ob.cells [.ptr b 0]), (b, Ob.cells [stepV 33 116 (some (c, ps)) Y])]) ∧ st' = foot' ++ F) := by
 refine co 62 Tryz.func66 ?_
 refine AC_seq (AC_region ?_)
 refine s_ (S_box rfl (.tmp rfl)) ?_
 rintro _ _ ⟨b1, rfl, rfl⟩
 refine ac rfl rfl rfl ?_
 refine AL_nil ?_
 refine AC_block ?_
 refine AC_loop (G := List (List UInt8)) (fun g => g = ps) (fun g => [(0, chainV 33 116 c g), (1, .ifc 117 (.ptr b 0)), (3, .lit (ty 116)), (6, .ptr b1 0)]) (fun g => ((b1, .cells [.lit (hv 117), .ptr a 0, .lit (.int .u64 150)]) :: ([(a, Ob.cells [.ptr b 0]), (b, Ob.cells [Y])] ++ F))) (fun g => g.length) (ps) (rfl) rfl ?_ ?_
 ·exact (.cons rfl (Le.refl _) (.cons rfl (Le.refl _) (.cons rfl (Le.refl _) (.cons rfl (Le.refl _) .nil))))
 rintro g hg
 try dsimp only
 subst hg
 refine AC_block ?_
 refine AC_seq ?_
 refine AC_seq (AC_region ?_)
 refine mv rfl rfl rfl rfl ?_
 refine p_ ((show PStep _ _ _ _ _ (.lit (ty (typV 33 116 g))) from by cases g with | nil => exact S_typeOf rfl (.tmp rfl) x30 t27 | cons p0 ps0 => exact S_typeOf rfl (.tmp rfl) x30 t49)) ?_
 refine mv rfl rfl rfl rfl ?_
 refine p_ ((show PStep _ _ _ _ _ (.bool (!g.isEmpty)) from by cases g with | nil => exact (by simp only [typV]; exact S_invL (ys := [.tmp 18]) (vals := [ty 116]) rfl (.tmp rfl) (AEvs.cons (.tmp rfl) AEvs.nil) (mAssign 33) x63 a2749) | cons p0 ps0 => exact (by simp only [typV]; exact S_invL (ys := [.tmp 18]) (vals := [ty 116]) rfl (.tmp rfl) (AEvs.cons (.tmp rfl) AEvs.nil) (mAssign 116) x63 a4949))) ?_
 refine AL_nil ?_
 refine AC_cond (.tmp rfl) (fun hb2 => ?_) (fun hb2 => ?_)
 ·try simp only [zA,zO,zN,zM,zP,zQ,zD,zF,gd] at hb2
  obtain ⟨p1, ps1, rfl⟩ : ∃ p1 ps1, g = p1 :: ps1 := by cases g with | nil => simp at hb2 | cons p1 ps1 => exact ⟨p1, ps1, rfl⟩
  refine AC_seq (AC_region ?_)
  refine ldN 3 0 ?_
  refine p_ (S_elemV rfl (.tmp rfl) (List.mem_cons_of_mem _ List.mem_cons_self) x32 (l52 a b)) ?_
  refine mv rfl rfl rfl rfl ?_
  refine s_ (S_valueOf rfl (.tmp rfl) x23 (fun w u hu => by obtain ⟨b', off, f, rfl, _⟩ := ip_inv hu; exact v49 _ w)) ?_
  rintro _ _ ⟨d, rfl, rfl⟩
  refine s_ (S_setV (n := 3) rfl (.tmp rfl) (.tmp rfl) rfl List.mem_cons_self x33 (fun w u old hu h1 h2 h3 => by obtain ⟨b', off, f, rfl, _⟩ := ip_inv hu; exact s49 b d _ old w (by simp [Value.cells]) rfl h1 h2 h3)) ?_
  rintro _ _ ⟨rfl, rfl⟩
  refine AL_nil (AC_seq (AC_region ?_))
  refine ac rfl rfl rfl ?_
  refine AL_nil (AC_ret ?_)
  refine ret_tmp ([(a, Ob.cells [.ptr b 0]), (b, Ob.cells [.ip [.S p1, chainV 33 116 c ps1]])] ++ F) rfl rfl (Sub.l (List.Sublist.cons _ (List.Sublist.cons _ (List.Sublist.refl _)))) (Conv.refl (Sub.l (List.Sublist.cons _ (List.Sublist.cons _ (List.Sublist.refl _)))) _) ⟨_, ⟨rfl, rfl⟩, rfl⟩ (.inl rfl)
 try simp only [zA,zO,zN,zM,zP,zQ,zD,zF,gd] at hb2
 obtain rfl : g = [] := by cases g with | nil => rfl | cons p1 ps1 => simp at hb2
 refine AC_skip ?_
 refine AC_seq ?_
 refine AC_seq (AC_region ?_)
 refine mv rfl rfl rfl rfl ?_
 refine p_ (S_assertNo (X := 0) rfl (.tmp rfl) Tryz.underlying138 (by kernel_rfl) (by kernel_rfl)) ?_
 refine mv rfl rfl rfl rfl ?_
 refine ex 0 ?_
 refine ex 1 ?_
 refine as_ rfl rfl rfl rfl ?_
 refine as_ rfl rfl rfl rfl ?_
 refine AL_nil (AC_seq (AC_region ?_))
 refine mv rfl rfl rfl rfl ?_
 refine mv rfl rfl rfl rfl ?_
 refine g_ (fun _ => mA) ?_
 refine g_ (fun _ => mA) ?_
 refine g_ (fun _ => (show PStep _ _ _ _ _ (.bool false) from absurd (show gd false true = true by assumption) (by decide))) ?_
 refine an ?_
 refine AL_nil ?_
 refine AC_cond (.tmp rfl) (fun hb13 => ?_) (fun hb13 => ?_)
 ·simp at hb13; done
 try simp only [zA,zO,zN,zM,zP,zQ,zD,zF,gd] at hb13
 refine AC_skip ?_
 refine AC_seq (AC_region ?_)
 refine mv rfl rfl rfl rfl ?_
 refine AL_nil ?_
 refine AC_block ?_
 refine AC_seq (AC_region ?_)
 refine p_ (S_assertNo (X := 0) rfl (.tmp rfl) Tryz.underlying141 (by kernel_rfl) (by kernel_rfl)) ?_
 refine ex 1 ?_
 refine ex 0 ?_
 refine AL_nil ?_
 refine AC_cond (.tmp rfl) (fun hb14 => ?_) (fun hb14 => ?_)
 ·simp at hb14; done
 try simp only [zA,zO,zN,zM,zP,zQ,zD,zF,gd] at hb14
 refine AC_seq (AC_region ?_)
 refine p_ (S_assertNo (X := 0) rfl (.tmp rfl) Tryz.underlying143 (by kernel_rfl) (by kernel_rfl)) ?_
 refine ex 1 ?_
 refine ex 0 ?_
 refine AL_nil ?_
 refine AC_cond (.tmp rfl) (fun hb15 => ?_) (fun hb15 => ?_)
 ·simp at hb15; done
 try simp only [zA,zO,zN,zM,zP,zQ,zD,zF,gd] at hb15
 refine AC_seq (AC_region ?_)
 refine as_ rfl rfl rfl rfl ?_
 refine AL_nil (AC_seq (AC_region ?_))
 refine ac rfl rfl rfl ?_
 refine AL_nil (AC_ret ?_)
 refine ret_tmp ([(a, Ob.cells [.ptr b 0]), (b, Ob.cells [Y])] ++ F) rfl rfl (Sub.l (List.Sublist.cons _ (List.Sublist.refl _))) (Conv.refl (Sub.l (List.Sublist.cons _ (List.Sublist.refl _))) _) ⟨_, ⟨rfl, rfl⟩, rfl⟩ (.inl rfl)
set_option maxHeartbeats 4000000 in
theorem errors_As_step (e : Er) (b : Nat) (Y : AV) (F : St) (hF : (0, Ob.konst [ty 29]) ∈ F) : ACalls Tryz.prog 36 [erV 33 116 e, .ifc 117 (.ptr b 0)] ([(b, .cells [Y])] ++ F) (fun x st' => ∃ foot', (x = .bool (stepB e) ∧ foot' = [(b, .cells [stepV 33 116 e Y])]) ∧ st' = foot' ++ F) := by
 refine co 42 Tryz.func36 ?_
 refine AC_seq (AC_region ?_)
 refine ac rfl rfl rfl ?_
 refine AL_nil ?_
 refine AC_seq ?_
 refine AC_seq (AC_region ?_)
 refine mv rfl rfl rfl rfl ?_
 refine p_ (S_eqlE (er_is 33 116 e) rfl (.tmp rfl) (by kernel_rfl)) ?_
 refine AL_nil ?_
 refine AC_cond (.tmp rfl) (fun hb1 => ?_) (fun hb1 => ?_)
 ·try simp only [zA,zO,zN,zM,zP,zQ,zD,zF,gd] at hb1
  obtain rfl : e = none := by cases e with | none => rfl | some x => simp at hb1
  refine AC_seq (AC_region ?_)
  refine ac rfl rfl rfl ?_
  refine AL_nil (AC_ret ?_)
  refine ret_tmp ([(b, Ob.cells [Y])] ++ F) rfl rfl (Sub.l (List.Sublist.refl _)) (Conv.refl (Sub.l (List.Sublist.refl _)) _) ⟨_, ⟨rfl, rfl⟩, rfl⟩ (.inl rfl)
 try simp only [zA,zO,zN,zM,zP,zQ,zD,zF,gd] at hb1
 obtain ⟨⟨c, ps⟩, rfl⟩ : ∃ x, e = some x := by cases e with | none => simp at hb1 | some x => exact ⟨x, rfl⟩
 refine AC_skip ?_
 refine AC_seq ?_
 refine AC_seq (AC_region ?_)
 refine mv rfl rfl rfl rfl ?_
 refine p_ (S_eqlE (ifc_is 117 (.ptr b 0)) rfl (.tmp rfl) (by kernel_rfl)) ?_
 refine AL_nil ?_
 refine AC_cond (.tmp rfl) (fun hb2 => ?_) (fun hb2 => ?_)
 ·simp at hb2; done
 try simp only [zA,zO,zN,zM,zP,zQ,zD,zF,gd] at hb2
 refine AC_skip ?_
 refine AC_seq (AC_region ?_)
 refine mv rfl rfl rfl rfl ?_
 refine s_ (S_valueOf rfl (.tmp rfl) x23 (fun w u hu => by rw [hu.lit_inv]; exact v52 b w)) ?_
 rintro _ _ ⟨a, rfl, rfl⟩
 refine s_ (S_alloc [.pointer none, .pointer none, .int .u64 0] rfl (by kernel_rfl)) ?_
 rintro _ _ ⟨b3, rfl, rfl⟩
 refine stN 0 ?_
 refine AL_nil (AC_seq (AC_region ?_))
 refine ldN 3 0 ?_
 refine p_ (S_rvP rfl (.tmp rfl) x24 (y52 a)) ?_
 refine as_ rfl rfl rfl rfl ?_
 refine AL_nil ?_
 refine AC_seq ?_
 refine AC_seq (AC_region ?_)
 refine mv rfl rfl rfl rfl ?_
 refine p_ (S_invL (ys := []) (vals := []) rfl (.tmp rfl) AEvs.nil (mKind 117) x52 k52) ?_
 refine p_ (S_neq rfl (.tmp rfl) (AEv.const _)) ?_
 refine mv rfl rfl rfl rfl ?_
 refine AL_gTp rfl rfl (.tmp rfl) rfl rfl (S_loadN (m := 3) 0 rfl (.tmp rfl) rfl (by kernel_rfl) (by first | exact Nat.le_of_ble_eq_true rfl | (simp; omega) | simp)) ?_
 refine AL_gTp rfl rfl (.tmp rfl) rfl rfl (S_isNilV rfl (.tmp rfl) (List.mem_cons_of_mem _ List.mem_cons_self) x25 (n52 a b)) ?_
 refine p_ (S_or rfl (.tmp rfl) (fun hp4 => (.tmp rfl))) ?_
 refine AL_nil ?_
 refine AC_cond (.tmp rfl) (fun hb5 => ?_) (fun hb5 => ?_)
 ·simp at hb5; done
 try simp only [zA,zO,zN,zM,zP,zQ,zD,zF,gd] at hb5
 refine AC_skip ?_
 refine AC_seq (AC_region ?_)
 refine mv rfl rfl rfl rfl ?_
 refine p_ (S_invL (ys := []) (vals := []) rfl (.tmp rfl) AEvs.nil (mElem 117) x65 e52) ?_
 refine as_ rfl rfl rfl rfl ?_
 refine AL_nil ?_
 refine AC_seq ?_
 refine AC_seq (AC_region ?_)
 refine mv rfl rfl rfl rfl ?_
 refine p_ (S_invL (ys := []) (vals := []) rfl (.tmp rfl) AEvs.nil (mKind 116) x52 k49) ?_
 refine p_ (S_neq rfl (.tmp rfl) (AEv.const _)) ?_
 refine mv rfl rfl rfl rfl ?_
 refine AL_gTp rfl rfl (.tmp rfl) rfl rfl (S_move rfl (.tmp rfl)) ?_
 refine AL_gTp rfl rfl (.tmp rfl) rfl rfl (S_loadK rfl (AEv.global _) (List.mem_cons_of_mem _ (List.mem_cons_of_mem _ (List.mem_cons_of_mem _ hF))) rfl (by kernel_rfl)) ?_
 refine AL_gTp rfl rfl (.tmp rfl) rfl rfl (S_invL (ys := [.tmp 32]) (vals := [ty 29]) rfl (.tmp rfl) (AEvs.cons (.tmp rfl) AEvs.nil) (mImpl 116) x66 i49) ?_
 refine AL_gTp rfl rfl (.tmp rfl) rfl rfl (S_not rfl (.tmp rfl)) ?_
 refine p_ (S_and rfl (.tmp rfl) (fun hp6 => (.tmp rfl))) ?_
 refine AL_nil ?_
 refine AC_cond (.tmp rfl) (fun hb7 => ?_) (fun hb7 => ?_)
 ·simp at hb7; done
 try simp only [zA,zO,zN,zM,zP,zQ,zD,zF,gd] at hb7
 refine AC_skip ?_
 refine AC_seq (AC_region ?_)
 refine mv rfl rfl rfl rfl ?_
 refine mv rfl rfl rfl rfl ?_
 refine ldN 3 0 ?_
 refine mv rfl rfl rfl rfl ?_
 refine s_ (S_call rfl (AEvs.cons (.tmp rfl) (AEvs.cons (.tmp rfl) (AEvs.cons (.tmp rfl) (AEvs.cons (.tmp rfl) AEvs.nil)))) (ACalls.pre (foot := [(a, Ob.cells [.ptr b 0]), (b, Ob.cells [Y])]) (K := fun x foot' => x = .bool (!ps.isEmpty) ∧ foot' = [(a, Ob.cells [.ptr b 0]), (b, Ob.cells [stepV 33 116 (some (c, ps)) Y])]) (errors_as_step c ps a b Y) [(_, _)] F)) ?_
 rintro _ _ ⟨_, ⟨rfl, rfl⟩, rfl⟩
 refine as_ rfl rfl rfl rfl ?_
 refine AL_nil (AC_ret ?_)
 refine ret_tmp ([(b, Ob.cells [stepV 33 116 (some (c, ps)) Y])] ++ F) rfl rfl (Sub.l (List.Sublist.cons _ (List.Sublist.cons _ (List.Sublist.refl _)))) (Conv.refl (Sub.l (List.Sublist.cons _ (List.Sublist.cons _ (List.Sublist.refl _)))) _) ⟨_, ⟨by cases ps <;> rfl, rfl⟩, rfl⟩ (.inl rfl)
theorem fail_Code_ok (e : Er) : GCalls Tryz.prog tabs 11 [erV 33 116 e] (.int .i64 (erCode e)) := by
 intro st hG
 refine co 10 Tryz.func11 ?_
 refine AC_seq (AC_region ?_)
 refine ac rfl rfl rfl ?_
 refine AL_nil ?_
 refine AC_seq ?_
 refine AC_seq (AC_region ?_)
 refine mv rfl rfl rfl rfl ?_
 refine p_ (S_eqlE (er_is 33 116 e) rfl (.tmp rfl) (by kernel_rfl)) ?_
 refine AL_nil ?_
 refine AC_cond (.tmp rfl) (fun hb1 => ?_) (fun hb1 => ?_)
 ·try simp only [zA,zO,zN,zM,zP,zQ,zD,zF,gd] at hb1
  obtain rfl : e = none := by cases e with | none => rfl | some x => simp at hb1
  refine AC_seq (AC_region ?_)
  refine ac rfl rfl rfl ?_
  refine AL_nil (AC_ret ?_)
  refine ret_tmp st rfl rfl (Sub.l (List.Sublist.refl _)) (Conv.refl (Sub.l (List.Sublist.refl _)) _) ⟨rfl, rfl⟩ (.inl rfl)
 try simp only [zA,zO,zN,zM,zP,zQ,zD,zF,gd] at hb1
 obtain ⟨⟨c, ps⟩, rfl⟩ : ∃ x, e = some x := by cases e with | none => simp at hb1 | some x => exact ⟨x, rfl⟩
 refine AC_skip ?_
 refine AC_seq (AC_region ?_)
 refine s_ (S_alloc [.int .i64 0] rfl (by kernel_rfl)) ?_
 rintro _ _ ⟨b2, rfl, rfl⟩
 refine AL_nil ?_
 refine AC_seq ?_
 refine AC_seq (AC_region ?_)
 refine mv rfl rfl rfl rfl ?_
 refine p_ (S_ifc (T2 := 0) rfl (.tmp rfl) (by kernel_rfl)) ?_
 refine s_ (S_call rfl (AEvs.cons (.tmp rfl) (AEvs.cons (.tmp rfl) AEvs.nil)) (errors_As_code c ps _ _ st (hG _ tab_err))) ?_
 rintro _ _ ⟨_, ⟨rfl, rfl⟩, rfl⟩
 refine AL_nil ?_
 refine AC_cond (.tmp rfl) (fun hb3 => ?_) (fun hb3 => ?_)
 ·try simp only [zA,zO,zN,zM,zP,zQ,zD,zF,gd] at hb3
  refine AC_seq (AC_region ?_)
  refine ld 0 ?_
  refine as_ rfl rfl rfl rfl ?_
  refine AL_nil (AC_ret ?_)
  refine ret_tmp st rfl rfl (Sub.l (List.Sublist.cons _ (List.Sublist.refl _))) (Conv.refl (Sub.l (List.Sublist.cons _ (List.Sublist.refl _))) _) ⟨rfl, rfl⟩ (.inl rfl)
 simp at hb3; done
theorem fail_Path_ok (e : Er) (he : (erPath e).length ≤ 1000000) : GCalls Tryz.prog tabs 38 [erV 33 116 e] (.sl (strsV (erPath e))) := by
 intro st hG
 refine co 20 Tryz.func38 ?_
 refine AC_seq (AC_region ?_)
 refine ac rfl rfl rfl ?_
 refine AL_nil (AC_seq (AC_region ?_))
 refine ac rfl rfl rfl ?_
 refine AL_nil (AC_seq (AC_region ?_))
 refine s_ (S_alloc [.pointer none] rfl (by kernel_rfl)) ?_
 rintro _ _ ⟨b1, rfl, rfl⟩
 refine AL_nil ?_
 refine AC_seq ?_
 refine AC_block ?_
 refine AC_loop (G := Er × List (List UInt8) × Own × AV) (fun g => erPath e = g.2.1 ++ erPath g.1 ∧ g.2.2.1.ok (strsV g.2.1)) (fun g => [(0, erV 33 116 g.1), (3, ownAV g.2.2.1 1 (strsV g.2.1)), (4, .ptr b1 0)]) (fun g => (b1, .cells [g.2.2.2]) :: (ownSt g.2.2.1 9 1 (strsV g.2.1) ++ st)) (fun g => (erPath g.1).length) ((e, [], .nil, .lit (.pointer none))) (⟨rfl, rfl⟩) rfl ?_ ?_
 ·exact .cons rfl (Le.refl _) (.cons rfl (Le.refl _) (.cons rfl (Le.refl _) .nil))
 rintro ⟨e1, done, p, Y⟩ ⟨hpath, hp⟩
 try dsimp only
 dsimp only at hpath hp
 refine AC_seq ?_
 refine AC_seq (AC_region ?_)
 refine mv rfl rfl rfl rfl ?_
 refine p_ (S_ifc (T2 := 0) rfl (.tmp rfl) (by kernel_rfl)) ?_
 refine s_ (S_call rfl (AEvs.cons (.tmp rfl) (AEvs.cons (.tmp rfl) AEvs.nil)) (errors_As_step e1 b1 Y (ownSt p 9 1 (strsV done) ++ st) (List.mem_append_right _ (hG _ tab_err)))) ?_
 rintro _ _ ⟨_, ⟨rfl, rfl⟩, rfl⟩
 refine AL_nil ?_
 refine AC_cond (.tmp rfl) (fun hb2 => ?_) (fun hb2 => ?_)
 ·try simp only [zA,zO,zN,zM,zP,zQ,zD,zF,gd] at hb2
  obtain ⟨c1, p1, ps1, rfl⟩ : ∃ c1 p1 ps1, e1 = some (c1, p1 :: ps1) := by
   rcases e1 with _ | ⟨c1, _ | ⟨p1, ps1⟩⟩
   ·simp [stepB] at hb2
   ·simp [stepB] at hb2
   ·exact ⟨c1, p1, ps1, rfl⟩
  have hlen : (strsV done).length = done.length := strsV_len done
  have hle := congrArg List.length hpath
  rw [List.length_append] at hle
  have hsd : strsV (done ++ [p1]) = strsV done ++ [.S p1] := by simp [strsV]
  refine AC_skip ?_
  refine AC_block ?_
  refine AC_seq (AC_region ?_)
  refine mv rfl rfl rfl rfl ?_
  refine ld 0 ?_
  refine p_ (S_nilCheckP rfl (.tmp rfl)) ?_
  refine p_ (S_fieldP 0 rfl (.tmp rfl) (by kernel_rfl)) ?_
  refine p_ (S_loadP rfl (.tmp rfl) rfl (by kernel_rfl)) ?_
  refine p_ (S_buildSlice (e := 9) 1 rfl (AEvs.cons (.tmp rfl) AEvs.nil) rfl (by kernel_rfl) (by kernel_rfl) (by simp [AV.flat, AV.one, AV.cells, Value.oneCell']) (by decide) (by decide) (by decide)) ?_
  refine s_ (S_appendOwn (e := 9) (size := 1) (bytes := 16) (p := p) (xs := strsV done) [_] st rfl (.tmp rfl) (.tmp rfl) rfl hp (by kernel_rfl) (by simp) (fun x hx => by obtain ⟨q, _, rfl⟩ := List.mem_map.1 hx; rfl) (by simp [AV.cells, AV.one, Value.oneCell']) (by simp only [List.length_singleton]; omega) (by simp only [List.length_singleton]; omega)) ?_
  rintro _ _ ⟨b9, k9, cap9, hc9, rfl, rfl⟩
  refine as_ rfl rfl rfl rfl ?_
  refine AL_nil ?_
  refine AC_region ?_
  refine ld 0 ?_
  refine p_ (S_nilCheckP rfl (.tmp rfl)) ?_
  refine p_ (S_fieldP 1 rfl (.tmp rfl) (by kernel_rfl)) ?_
  refine p_ (S_loadP rfl (.tmp rfl) rfl (by kernel_rfl)) ?_
  refine as_ rfl rfl rfl rfl ?_
  refine AL_nil ?_
  refine ⟨(some (c1, ps1), done ++ [p1], .row b9 k9 cap9, _), ⟨by dsimp only; rw [hpath]; simp [erPath], by dsimp only; rw [hsd]; exact hc9⟩, by simp [erPath], by dsimp only; rw [hsd]; rfl, .cons rfl (Le.refl _) (.cons rfl (Le.of_eq (by dsimp only; rw [hsd])) (.cons rfl (Le.refl _) .nil))⟩
 try simp only [zA,zO,zN,zM,zP,zQ,zD,zF,gd] at hb2
 have hend : erPath e1 = [] := by
  rcases e1 with _ | ⟨c1, _ | ⟨p1, ps1⟩⟩
  ·rfl
  ·rfl
  ·simp [stepB] at hb2
 rw [hend, List.append_nil] at hpath
 refine AC_exit ?_
 refine AC_seq (AC_region ?_)
 refine mv rfl rfl rfl rfl ?_
 refine as_ rfl rfl rfl rfl ?_
 refine AL_nil (AC_ret ?_)
 refine ret_tmp st rfl rfl (Sub.l (List.Sublist.cons _ (List.sublist_append_right _ _))) (Conv.le (Sub.l (List.Sublist.cons _ (List.sublist_append_right _ _))) (Le_own hp)) ⟨by rw [hpath], rfl⟩ (.inl rfl)
theorem join_ok (ls : List (List UInt8)) (sep : List UInt8) (hN : ls.length ≤ 140737488355328) (hlen : (Lib.join ls sep).length ≤ 140737488355328) : PCalls Tryz.prog 37 [.sl (ls.map fun l => .S l), .S sep] (.S (Lib.join ls sep)) :=
 PCalls_join ⟨Tryz.f37, _, Tryz.func37, by kernel_rfl, rfl⟩ Tryz.strings_Join_none Tryz.strings_Join ls sep hN hlen
theorem fail_Text_ok (e : Er) (he : (erPath e).length ≤ 1000000) (hj : (Lib.join (erPath e) [46]).length ≤ 140737488355328) : GCalls Tryz.prog tabs 12 [erV 33 116 e] (.S (Lib.join (erPath e) [46])) := by
 intro st hG
 refine co 6 Tryz.func12 ?_
 refine AC_seq (AC_region ?_)
 refine p_ (S_assign rfl (AEv.S _)) ?_
 refine AL_nil (AC_seq (AC_region ?_))
 refine mv rfl rfl rfl rfl ?_
 refine p_ (S_gcall rfl (AEvs.cons (.tmp rfl) AEvs.nil) ((fail_Path_ok e he) _ (fun p hp => by first | exact hG p hp | (simp [hG p hp]; done)))) ?_
 refine p_ (S_pcall rfl (AEvs.cons (.tmp rfl) (AEvs.cons (AEv.S _) AEvs.nil)) (join_ok (erPath e) [46] (by omega) hj)) ?_
 refine as_ rfl rfl rfl rfl ?_
 refine AL_nil (AC_ret ?_)
 refine ret_tmp st rfl rfl (Sub.l (List.Sublist.refl _)) (Conv.refl (Sub.l (List.Sublist.refl _)) _) ⟨by first | rfl | (simp; done), rfl⟩ (.inl rfl)
end Go.Proofs.YtfdcadnaginnpaaGreatDoor

set_option maxRecDepth 100000
namespace Go.Proofs.YtfdcadnaginnpaaGreatDoor
open Go.AL Go.NumSpec
theorem spec_within_ok (name : List UInt8) (n lo hi : Int) : PCalls Tryz.prog 32 [.S name, .int .i64 n, .int .i64 lo, .int .i64 hi] (erV 33 116 (withinE name n lo hi)) := by
 intro st
 refine co 20 Tryz.func32 ?_
 refine AC_seq (AC_region ?_)
 refine ac rfl rfl rfl ?_
 refine AL_nil ?_
 refine AC_seq ?_
 refine AC_seq (AC_region ?_)
 refine mv rfl rfl rfl rfl ?_
 refine mv rfl rfl rfl rfl ?_
 refine p_ (S_lss rfl (.tmp rfl) (.tmp rfl)) ?_
 refine mv rfl rfl rfl rfl ?_
 refine g_ (fun _ => mA) ?_
 refine g_ (fun _ => mA) ?_
 refine g_ (fun _ => S_gtr rfl (AEv.cd (.tmp rfl)) (AEv.cd (.tmp rfl))) ?_
 refine p_ (S_or rfl (.tmp rfl) (fun hp10 => (AEv.cd (.tmp rfl)))) ?_
 refine AL_nil ?_
 refine AC_cond (.tmp rfl) (fun hb11 => ?_) (fun hb11 => ?_)
 ·try simp only [zA,zO,zN,zM,zP,zQ,zD,zF,gd] at hb11
  refine AC_seq (AC_region ?_)
  refine mv rfl rfl rfl rfl ?_
  refine p_ (S_buildSlice (e := 9) 1 rfl (AEvs.cons (.tmp rfl) AEvs.nil) rfl (by kernel_rfl) (by kernel_rfl) (by simp [AV.flat, AV.one, AV.cells, Value.oneCell']) (by decide) (by decide) (by decide)) ?_
  refine p_ (S_pcall rfl (AEvs.cons (AEv.const _) (AEvs.cons (.tmp rfl) AEvs.nil)) (fail_New_ok 1 [name] (by simp))) ?_
  refine as_ rfl rfl rfl rfl ?_
  refine AL_nil (AC_ret ?_)
  refine ret_tmp st rfl rfl (Sub.l (List.Sublist.refl _)) (Conv.refl (Sub.l (List.Sublist.refl _)) _) ⟨by rw [withinE, if_pos (by omega)]; rfl, rfl⟩ (.inl rfl)
 try simp only [zA,zO,zN,zM,zP,zQ,zD,zF,gd] at hb11
 refine AC_skip ?_
 refine AC_seq (AC_region ?_)
 refine ac rfl rfl rfl ?_
 refine AL_nil (AC_ret ?_)
 refine ret_tmp st rfl rfl (Sub.l (List.Sublist.refl _)) (Conv.refl (Sub.l (List.Sublist.refl _)) _) ⟨by rw [withinE, if_neg (by omega)]; rfl, rfl⟩ (.inl rfl)
theorem spec_atMost_ok (name : List UInt8) (n lo hi : Int) : PCalls Tryz.prog 30 [.S name, .int .i64 n, .int .i64 lo, .int .i64 hi] (erV 33 116 (atMostE name n lo hi)) := by
 intro st
 refine co 20 Tryz.func30 ?_
 refine AC_seq (AC_region ?_)
 refine ac rfl rfl rfl ?_
 refine AL_nil ?_
 refine AC_seq ?_
 refine AC_seq (AC_region ?_)
 refine mv rfl rfl rfl rfl ?_
 refine mv rfl rfl rfl rfl ?_
 refine p_ (S_lss rfl (.tmp rfl) (.tmp rfl)) ?_
 refine mv rfl rfl rfl rfl ?_
 refine g_ (fun _ => mA) ?_
 refine g_ (fun _ => mA) ?_
 refine g_ (fun _ => S_gtr rfl (AEv.cd (.tmp rfl)) (AEv.cd (.tmp rfl))) ?_
 refine p_ (S_or rfl (.tmp rfl) (fun hp10 => (AEv.cd (.tmp rfl)))) ?_
 refine AL_nil ?_
 refine AC_cond (.tmp rfl) (fun hb11 => ?_) (fun hb11 => ?_)
 ·try simp only [zA,zO,zN,zM,zP,zQ,zD,zF,gd] at hb11
  refine AC_seq (AC_region ?_)
  refine mv rfl rfl rfl rfl ?_
  refine p_ (S_buildSlice (e := 9) 1 rfl (AEvs.cons (.tmp rfl) AEvs.nil) rfl (by kernel_rfl) (by kernel_rfl) (by simp [AV.flat, AV.one, AV.cells, Value.oneCell']) (by decide) (by decide) (by decide)) ?_
  refine p_ (S_pcall rfl (AEvs.cons (AEv.const _) (AEvs.cons (.tmp rfl) AEvs.nil)) (fail_New_ok 2 [name] (by simp))) ?_
  refine as_ rfl rfl rfl rfl ?_
  refine AL_nil (AC_ret ?_)
  refine ret_tmp st rfl rfl (Sub.l (List.Sublist.refl _)) (Conv.refl (Sub.l (List.Sublist.refl _)) _) ⟨by rw [atMostE, if_pos (by omega)]; rfl, rfl⟩ (.inl rfl)
 try simp only [zA,zO,zN,zM,zP,zQ,zD,zF,gd] at hb11
 refine AC_skip ?_
 refine AC_seq (AC_region ?_)
 refine ac rfl rfl rfl ?_
 refine AL_nil (AC_ret ?_)
 refine ret_tmp st rfl rfl (Sub.l (List.Sublist.refl _)) (Conv.refl (Sub.l (List.Sublist.refl _)) _) ⟨by rw [atMostE, if_neg (by omega)]; rfl, rfl⟩ (.inl rfl)
theorem spec_most_ok (name : List UInt8) (n lo : Int) : PCalls Tryz.prog 100 [.S name, .int .i64 n, .int .i64 lo] (erV 33 116 (mostE name n lo)) := by
 intro st
 refine co 13 Tryz.func100 ?_
 refine AC_seq (AC_region ?_)
 refine ac rfl rfl rfl ?_
 refine AL_nil ?_
 refine AC_seq ?_
 refine AC_seq (AC_region ?_)
 refine mv rfl rfl rfl rfl ?_
 refine p_ (S_eql rfl (.tmp rfl) (AEv.const _)) ?_
 refine AL_nil ?_
 refine AC_cond (.tmp rfl) (fun hb1 => ?_) (fun hb1 => ?_)
 ·try simp only [zA,zO,zN,zM,zP,zQ,zD,zF,gd] at hb1
  refine AC_seq (AC_region ?_)
  refine ac rfl rfl rfl ?_
  refine AL_nil (AC_ret ?_)
  refine ret_tmp st rfl rfl (Sub.l (List.Sublist.refl _)) (Conv.refl (Sub.l (List.Sublist.refl _)) _) ⟨by rw [mostE, if_pos (by omega)]; rfl, rfl⟩ (.inl rfl)
 try simp only [zA,zO,zN,zM,zP,zQ,zD,zF,gd] at hb1
 refine AC_skip ?_
 refine AC_seq (AC_region ?_)
 refine mv rfl rfl rfl rfl ?_
 refine mv rfl rfl rfl rfl ?_
 refine mv rfl rfl rfl rfl ?_
 refine p_ (S_pcall rfl (AEvs.cons (.tmp rfl) (AEvs.cons (.tmp rfl) (AEvs.cons (.tmp rfl) (AEvs.cons (AEv.const _) AEvs.nil)))) (spec_within_ok _ _ _ _)) ?_
 refine as_ rfl rfl rfl rfl ?_
 refine AL_nil (AC_ret ?_)
 refine ret_tmp st rfl rfl (Sub.l (List.Sublist.refl _)) (Conv.refl (Sub.l (List.Sublist.refl _)) _) ⟨by rw [mostE, if_neg (by omega)], rfl⟩ (.inl rfl)
theorem spec_at_ok (name : List UInt8) (hn : name.length ≤ 1000000) (i : Int) (hi : fits i) : PCalls Tryz.prog 51 [.S name, .int .i64 i] (.S (atT name i)) := by
 intro st
 refine co 11 Tryz.func51 ?_
 have ht := textL_len hi
 refine AC_seq (AC_region ?_)
 refine p_ (S_assign rfl (AEv.S _)) ?_
 refine AL_nil (AC_seq (AC_region ?_))
 refine mv rfl rfl rfl rfl ?_
 refine p_ (S_cat rfl (.tmp rfl) (AEv.S _) (by first | omega | (simp only [List.length_append, List.length_singleton]; omega))) ?_
 refine mv rfl rfl rfl rfl ?_
 refine p_ (S_pcall rfl (AEvs.cons (.tmp rfl) AEvs.nil) (num_Text_ok i hi)) ?_
 refine p_ (S_cat rfl (.tmp rfl) (.tmp rfl) (by first | omega | (simp only [List.length_append, List.length_singleton]; omega))) ?_
 refine p_ (S_cat rfl (.tmp rfl) (AEv.S _) (by first | omega | (simp only [List.length_append, List.length_singleton]; omega))) ?_
 refine as_ rfl rfl rfl rfl ?_
 refine AL_nil (AC_ret ?_)
 refine ret_tmp st rfl rfl (Sub.l (List.Sublist.refl _)) (Conv.refl (Sub.l (List.Sublist.refl _)) _) ⟨rfl, rfl⟩ (.inl rfl)
theorem spec_req_ok (r : Int × Int × Int) : PCalls Tryz.prog 82 [resAV r] (erV 33 116 (reqE r)) := by
 intro st
 refine co 15 Tryz.func82 ?_
 refine AC_seq (AC_region ?_)
 refine s_ (S_box rfl (.tmp rfl)) ?_
 rintro _ _ ⟨b1, rfl, rfl⟩
 refine ac rfl rfl rfl ?_
 refine AL_nil ?_
 refine AC_seq ?_
 refine AC_draw (by kernel_rfl) (by kernel_rfl) (.cons rfl (Q_p rfl (S_field 0 rfl (.tmp rfl) (by kernel_rfl))) <|
   .cons rfl (Q_p rfl (S_load 0 rfl (.tmp rfl) rfl rfl (by kernel_rfl))) <|
   .cons rfl (Q_p rfl (S_pcall rfl (AEvs.cons (AEv.S _) (AEvs.cons (.tmp rfl) (AEvs.cons (AEv.const _) (AEvs.cons (AEv.const _) AEvs.nil)))) (spec_within_ok _ _ _ _))) <|
   .cons rfl (Q_p rfl (S_field 1 rfl (.tmp rfl) (by kernel_rfl))) <|
   .cons rfl (Q_p rfl (S_load 0 rfl (.tmp rfl) rfl rfl (by kernel_rfl))) <|
   .cons rfl (Q_p rfl (S_pcall rfl (AEvs.cons (AEv.S _) (AEvs.cons (.tmp rfl) (AEvs.cons (AEv.const _) (AEvs.cons (AEv.const _) AEvs.nil)))) (spec_within_ok _ _ _ _))) <|
   .cons rfl (Q_p rfl (S_field 2 rfl (.tmp rfl) (by kernel_rfl))) <|
   .cons rfl (Q_p rfl (S_load 0 rfl (.tmp rfl) rfl rfl (by kernel_rfl))) <|
   .cons rfl (Q_p rfl (S_pcall rfl (AEvs.cons (AEv.S _) (AEvs.cons (.tmp rfl) (AEvs.cons (AEv.const _) (AEvs.cons (AEv.const _) AEvs.nil)))) (spec_within_ok _ _ _ _))) <|
   .cons rfl (Q_p rfl (S_buildSlice (e := 29) 1 rfl (AEvs.cons (.tmp rfl) (AEvs.cons (.tmp rfl) (AEvs.cons (.tmp rfl) AEvs.nil))) rfl (by kernel_rfl) (by kernel_rfl) (by intro y hy; simp only [List.mem_cons, List.not_mem_nil, or_false] at hy; rcases hy with rfl | rfl | rfl <;> exact ⟨er_flat _ _ _, by rw [er_cells]; rfl⟩) (by decide) (by decide) (by decide))) <|
   .cons rfl (Q_p rfl (S_pcall rfl (AEvs.cons (.tmp rfl) AEvs.nil) (fail_First_ok [withinE [99, 112, 117] r.1 0 1099511627776, withinE [109, 101, 109] r.2.1 0 1099511627776, withinE [112, 105, 100, 115] r.2.2 0 1099511627776] (by simp)))) <|
   .cons rfl (Q_p rfl (S_pcall rfl (AEvs.cons (.tmp rfl) (AEvs.cons (AEv.S _) AEvs.nil)) (fail_In_ok (firstE [withinE [99, 112, 117] r.1 0 1099511627776, withinE [109, 101, 109] r.2.1 0 1099511627776, withinE [112, 105, 100, 115] r.2.2 0 1099511627776]) [114, 101, 113]))) <|
   .cons rfl (Q_p rfl (S_assign rfl (.tmp rfl))) <|
   .nil) ?_
 refine AC_ret ?_
 refine ret_tmp st rfl rfl (Sub.l (List.Sublist.cons _ (List.Sublist.refl _))) (Conv.refl (Sub.l (List.Sublist.cons _ (List.Sublist.refl _))) _) ⟨rfl, rfl⟩ (.inl rfl)
theorem spec_lim_ok (l r : Int × Int × Int) : PCalls Tryz.prog 83 [resAV l, resAV r] (erV 33 116 (limE l r)) := by
 intro st
 refine co 23 Tryz.func83 ?_
 refine AC_seq (AC_region ?_)
 refine s_ (S_box rfl (.tmp rfl)) ?_
 rintro _ _ ⟨b1, rfl, rfl⟩
 refine s_ (S_box rfl (.tmp rfl)) ?_
 rintro _ _ ⟨b2, rfl, rfl⟩
 refine ac rfl rfl rfl ?_
 refine AL_nil ?_
 refine AC_seq ?_
 refine AC_draw (by kernel_rfl) (by kernel_rfl) (.cons rfl (Q_p rfl (S_field 0 rfl (.tmp rfl) (by kernel_rfl))) <|
   .cons rfl (Q_p rfl (S_load 1 rfl (.tmp rfl) rfl rfl (by kernel_rfl))) <|
   .cons rfl (Q_p rfl (S_field 0 rfl (.tmp rfl) (by kernel_rfl))) <|
   .cons rfl (Q_p rfl (S_load 0 rfl (.tmp rfl) rfl rfl (by kernel_rfl))) <|
   .cons rfl (Q_p rfl (S_pcall rfl (AEvs.cons (AEv.S _) (AEvs.cons (.tmp rfl) (AEvs.cons (.tmp rfl) AEvs.nil))) (spec_most_ok _ _ _))) <|
   .cons rfl (Q_p rfl (S_field 1 rfl (.tmp rfl) (by kernel_rfl))) <|
   .cons rfl (Q_p rfl (S_load 1 rfl (.tmp rfl) rfl rfl (by kernel_rfl))) <|
   .cons rfl (Q_p rfl (S_field 1 rfl (.tmp rfl) (by kernel_rfl))) <|
   .cons rfl (Q_p rfl (S_load 0 rfl (.tmp rfl) rfl rfl (by kernel_rfl))) <|
   .cons rfl (Q_p rfl (S_pcall rfl (AEvs.cons (AEv.S _) (AEvs.cons (.tmp rfl) (AEvs.cons (.tmp rfl) AEvs.nil))) (spec_most_ok _ _ _))) <|
   .cons rfl (Q_p rfl (S_field 2 rfl (.tmp rfl) (by kernel_rfl))) <|
   .cons rfl (Q_p rfl (S_load 1 rfl (.tmp rfl) rfl rfl (by kernel_rfl))) <|
   .cons rfl (Q_p rfl (S_field 2 rfl (.tmp rfl) (by kernel_rfl))) <|
   .cons rfl (Q_p rfl (S_load 0 rfl (.tmp rfl) rfl rfl (by kernel_rfl))) <|
   .cons rfl (Q_p rfl (S_pcall rfl (AEvs.cons (AEv.S _) (AEvs.cons (.tmp rfl) (AEvs.cons (.tmp rfl) AEvs.nil))) (spec_most_ok _ _ _))) <|
   .cons rfl (Q_p rfl (S_buildSlice (e := 29) 1 rfl (AEvs.cons (.tmp rfl) (AEvs.cons (.tmp rfl) (AEvs.cons (.tmp rfl) AEvs.nil))) rfl (by kernel_rfl) (by kernel_rfl) (by intro y hy; simp only [List.mem_cons, List.not_mem_nil, or_false] at hy; rcases hy with rfl | rfl | rfl <;> exact ⟨er_flat _ _ _, by rw [er_cells]; rfl⟩) (by decide) (by decide) (by decide))) <|
   .cons rfl (Q_p rfl (S_pcall rfl (AEvs.cons (.tmp rfl) AEvs.nil) (fail_First_ok [mostE [99, 112, 117] l.1 r.1, mostE [109, 101, 109] l.2.1 r.2.1, mostE [112, 105, 100, 115] l.2.2 r.2.2] (by simp)))) <|
   .cons rfl (Q_p rfl (S_pcall rfl (AEvs.cons (.tmp rfl) (AEvs.cons (AEv.S _) AEvs.nil)) (fail_In_ok (firstE [mostE [99, 112, 117] l.1 r.1, mostE [109, 101, 109] l.2.1 r.2.1, mostE [112, 105, 100, 115] l.2.2 r.2.2]) [108, 105, 109]))) <|
   .cons rfl (Q_p rfl (S_assign rfl (.tmp rfl))) <|
   .nil) ?_
 refine AC_ret ?_
 refine ret_tmp st rfl rfl (Sub.l (List.Sublist.cons _ (List.Sublist.cons _ (List.Sublist.refl _)))) (Conv.refl (Sub.l (List.Sublist.cons _ (List.Sublist.cons _ (List.Sublist.refl _)))) _) ⟨rfl, rfl⟩ (.inl rfl)
theorem spec_probe_ok (p : Int × Int) (every : Int) : PCalls Tryz.prog 85 [probeAV p, .int .i64 every] (erV 33 116 (probeE p every)) := by
 intro st
 refine co 22 Tryz.func85 ?_
 refine AC_seq (AC_region ?_)
 refine s_ (S_box rfl (.tmp rfl)) ?_
 rintro _ _ ⟨b1, rfl, rfl⟩
 refine ac rfl rfl rfl ?_
 refine AL_nil (AC_seq (AC_region ?_))
 refine ac rfl rfl rfl ?_
 refine ac rfl rfl rfl ?_
 refine AL_nil ?_
 refine AC_join (G := Unit) (fun _ => True) (fun _ => [(1, .int .i64 every), (2, .ptr b1 0), (5, .int .i64 (if p.1 = 0 then 0 else 1)), (6, .int .i64 (if p.1 = 0 then 0 else 10))]) (fun _ => (b1, .cells [.int .i64 p.1, .int .i64 p.2]) :: st) ?_ ?_
 ·refine AC_seq (AC_region ?_)
  refine fl 0 ?_
  refine ld 0 ?_
  refine p_ (S_eql rfl (.tmp rfl) (AEv.const _)) ?_
  refine AL_nil ?_
  refine AC_cond (.tmp rfl) (fun hb2 => ?_) (fun hb2 => ?_)
  ·try simp only [zA,zO,zN,zM,zP,zQ,zD,zF,gd] at hb2
   have hp0 : p.1 = 0 := by omega
   refine AC_region ?_
   refine ac rfl rfl rfl ?_
   refine ac rfl rfl rfl ?_
   refine AL_nil ?_
   exact ⟨(), trivial, rfl, .cons rfl (Le.refl _) (.cons rfl (Le.refl _) (.cons rfl (Le.of_eq (by rw [if_pos hp0])) (.cons rfl (Le.of_eq (by rw [if_pos hp0])) .nil)))⟩
  try simp only [zA,zO,zN,zM,zP,zQ,zD,zF,gd] at hb2
  have hp0 : ¬ p.1 = 0 := by omega
  refine AC_skip ?_
  exact ⟨(), trivial, rfl, .cons rfl (Le.refl _) (.cons rfl (Le.refl _) (.cons rfl (Le.of_eq (by rw [if_neg hp0])) (.cons rfl (Le.of_eq (by rw [if_neg hp0])) .nil)))⟩
 rintro _ _
 try dsimp only
 refine AC_seq ?_
 refine AC_draw (by kernel_rfl) (by kernel_rfl) (.cons rfl (Q_p rfl (S_field 0 rfl (.tmp rfl) (by kernel_rfl))) <|
   .cons rfl (Q_p rfl (S_load 0 rfl (.tmp rfl) rfl rfl (by kernel_rfl))) <|
   .cons rfl (Q_p rfl (S_move rfl (.tmp rfl))) <|
   .cons rfl (Q_p rfl (S_pcall rfl (AEvs.cons (AEv.S _) (AEvs.cons (.tmp rfl) (AEvs.cons (AEv.const _) (AEvs.cons (.tmp rfl) AEvs.nil)))) (spec_within_ok _ _ _ _))) <|
   .cons rfl (Q_p rfl (S_field 1 rfl (.tmp rfl) (by kernel_rfl))) <|
   .cons rfl (Q_p rfl (S_load 0 rfl (.tmp rfl) rfl rfl (by kernel_rfl))) <|
   .cons rfl (Q_p rfl (S_move rfl (.tmp rfl))) <|
   .cons rfl (Q_p rfl (S_move rfl (.tmp rfl))) <|
   .cons rfl (Q_p rfl (S_pcall rfl (AEvs.cons (AEv.S _) (AEvs.cons (.tmp rfl) (AEvs.cons (.tmp rfl) (AEvs.cons (.tmp rfl) AEvs.nil)))) (spec_within_ok [102, 97, 105, 108, 115] p.2 (if p.1 = 0 then 0 else 1) (if p.1 = 0 then 0 else 10)))) <|
   .cons rfl (Q_p rfl (S_buildSlice (e := 29) 1 rfl (AEvs.cons (.tmp rfl) (AEvs.cons (.tmp rfl) AEvs.nil)) rfl (by kernel_rfl) (by kernel_rfl) (by intro y hy; simp only [List.mem_cons, List.not_mem_nil, or_false] at hy; rcases hy with rfl | rfl <;> exact ⟨er_flat _ _ _, by rw [er_cells]; rfl⟩) (by decide) (by decide) (by decide))) <|
   .cons rfl (Q_p rfl (S_pcall rfl (AEvs.cons (.tmp rfl) AEvs.nil) (fail_First_ok [withinE [101, 118, 101, 114, 121] p.1 0 every, withinE [102, 97, 105, 108, 115] p.2 (if p.1 = 0 then 0 else 1) (if p.1 = 0 then 0 else 10)] (by simp)))) <|
   .cons rfl (Q_p rfl (S_pcall rfl (AEvs.cons (.tmp rfl) (AEvs.cons (AEv.S _) AEvs.nil)) (fail_In_ok (firstE [withinE [101, 118, 101, 114, 121] p.1 0 every, withinE [102, 97, 105, 108, 115] p.2 (if p.1 = 0 then 0 else 1) (if p.1 = 0 then 0 else 10)]) [112, 114, 111, 98, 101]))) <|
   .cons rfl (Q_p rfl (S_assign rfl (.tmp rfl))) <|
   .nil) ?_
 refine AC_ret ?_
 refine ret_tmp st rfl rfl (Sub.l (List.Sublist.cons _ (List.Sublist.refl _))) (Conv.refl (Sub.l (List.Sublist.cons _ (List.Sublist.refl _))) _) ⟨rfl, rfl⟩ (.inl rfl)
theorem slices_IndexS_ok (l : List (List UInt8)) (s : List UInt8) (hl : l.length ≤ 1000000) : PCalls Tryz.prog 105 [.sl (strsV l), .S s] (.int .i64 (idxG l s)) := by
 intro st
 refine co 19 Tryz.func105 ?_
 have hll : (strsV l).length = l.length := by simp [strsV]
 refine AC_seq (AC_region ?_)
 refine ac rfl rfl rfl ?_
 refine AL_nil ?_
 refine AC_seq ?_
 refine AC_seq (AC_region ?_)
 refine mv rfl rfl rfl rfl ?_
 refine p_ (S_len (e := 9) rfl (.tmp rfl) (by kernel_rfl)) ?_
 refine p_ (S_move rfl (AEv.const _)) ?_
 refine AL_nil ?_
 refine AC_block ?_
 refine AC_loop (G := Nat) (fun i => i ≤ l.length ∧ ∀ j (hj : j < i) (hj2 : j < l.length), l[j] ≠ s) (fun i => [(0, .sl (strsV l)), (1, .S s), (7, .int .i64 ((strsV l).length : Int)), (8, .int .i64 (i : Int))]) (fun i => st) (fun i => l.length - i) (0) (⟨Nat.zero_le _, fun j hj => absurd hj (Nat.not_lt_zero _)⟩) rfl ?_ ?_
 ·exact .cons rfl (Le.refl _) (.cons rfl (Le.refl _) (.cons rfl (Le.refl _) (.cons rfl (Le.refl _) .nil)))
 rintro i ⟨hi, hno⟩
 try dsimp only
 refine AC_seq (AC_region ?_)
 refine p_ (S_lss rfl (.tmp rfl) (.tmp rfl)) ?_
 refine AL_nil ?_
 refine AC_seq ?_
 refine AC_cond (.tmp rfl) (fun hb1 => ?_) (fun hb1 => ?_)
 ·try simp only [zA,zO,zN,zM,zP,zQ,zD,zF,gd] at hb1
  have hil : i < l.length := by omega
  refine AC_skip ?_
  refine AC_seq ?_
  refine AC_block ?_
  refine AC_seq (AC_region ?_)
  refine mv rfl rfl rfl rfl ?_
  refine as_ rfl rfl rfl rfl ?_
  refine AL_nil (AC_seq (AC_region ?_))
  refine mv rfl rfl rfl rfl ?_
  refine mv rfl rfl rfl rfl ?_
  refine mv rfl rfl rfl rfl ?_
  refine p_ (S_elem (e := 9) (c := .S (l[i]'hil)) (i := (i : Int)) 1 rfl (.tmp rfl) (.tmp rfl) (by kernel_rfl) (by kernel_rfl) (by omega) (by simp [strsV, hil]) rfl) ?_
  refine p_ (S_loadP rfl (.tmp rfl) rfl (by kernel_rfl)) ?_
  refine p_ (S_eqS rfl (.tmp rfl) (.tmp rfl)) ?_
  refine AL_nil ?_
  refine AC_cond (.tmp rfl) (fun hb2 => ?_) (fun hb2 => ?_)
  ·try simp only [zA,zO,zN,zM,zP,zQ,zD,zF,gd] at hb2
   have he : l[i]'hil = s := (by first | exact hb2.symm | omega)
   refine AC_seq (AC_region ?_)
   refine mv rfl rfl rfl rfl ?_
   refine as_ rfl rfl rfl rfl ?_
   refine AL_nil (AC_ret ?_)
   refine ret_tmp st rfl rfl (Sub.l (List.Sublist.refl _)) (Conv.refl (Sub.l (List.Sublist.refl _)) _) ⟨by rw [idxG_hit hil he fun j hj => hno j hj (by omega)], rfl⟩ (.inl rfl)
  try simp only [zA,zO,zN,zM,zP,zQ,zD,zF,gd] at hb2
  have hne : ¬ s = l[i]'hil := (by first | exact hb2 | omega)
  refine AC_skip ?_
  refine AC_region ?_
  refine p_ (S_addI rfl (.tmp rfl) (AEv.const _) (by omega) (by omega)) ?_
  refine mv rfl rfl rfl rfl ?_
  refine AL_nil ?_
  refine ⟨i + 1, ⟨by omega, fun j hj hj2 => ?_⟩, by omega, rfl, .cons rfl (Le.refl _) (.cons rfl (Le.refl _) (.cons rfl (Le.refl _) (.cons rfl (Le.of_eq (by rw [Int.natCast_add]; rfl)) .nil)))⟩
  rcases Nat.lt_or_ge j i with h | h
  ·exact hno j h hj2
  ·have : j = i := by omega
   subst this
   exact fun e => hne e.symm
 try simp only [zA,zO,zN,zM,zP,zQ,zD,zF,gd] at hb1
 refine AC_exit ?_
 refine AC_seq (AC_region ?_)
 refine ac rfl rfl rfl ?_
 refine AL_nil (AC_ret ?_)
 refine ret_tmp st rfl rfl (Sub.l (List.Sublist.refl _)) (Conv.refl (Sub.l (List.Sublist.refl _)) _) ⟨by rw [idxG_none fun j hj => hno j (by omega) hj], rfl⟩ (.inl rfl)
theorem slices_ContainsS_ok (l : List (List UInt8)) (s : List UInt8) (hl : l.length ≤ 1000000) : PCalls Tryz.prog 99 [.sl (strsV l), .S s] (.bool (decide (s ∈ l))) := by
 intro st
 refine co 9 Tryz.func99 ?_
 refine AC_seq (AC_region ?_)
 refine ac rfl rfl rfl ?_
 refine AL_nil (AC_seq (AC_region ?_))
 refine mv rfl rfl rfl rfl ?_
 refine mv rfl rfl rfl rfl ?_
 refine p_ (S_pcall rfl (AEvs.cons (.tmp rfl) (AEvs.cons (.tmp rfl) AEvs.nil)) (slices_IndexS_ok l s hl)) ?_
 refine p_ (S_geq rfl (.tmp rfl) (AEv.const _)) ?_
 refine as_ rfl rfl rfl rfl ?_
 refine AL_nil (AC_ret ?_)
 refine ret_tmp st rfl rfl (Sub.l (List.Sublist.refl _)) (Conv.refl (Sub.l (List.Sublist.refl _)) _) ⟨by rw [show decide (s ∈ l) = decide (0 ≤ idxG l s) from decide_eq_decide.2 (idxG_mem s l).symm], rfl⟩ (.inl rfl)
theorem slices_IndexI_ok (l : List Int) (s : Int) (hl : l.length ≤ 1000000) : PCalls Tryz.prog 106 [.sl (intsV l), .int .i64 s] (.int .i64 (idxG l s)) := by
 intro st
 refine co 19 Tryz.func106 ?_
 have hll : (intsV l).length = l.length := by simp [intsV]
 refine AC_seq (AC_region ?_)
 refine ac rfl rfl rfl ?_
 refine AL_nil ?_
 refine AC_seq ?_
 refine AC_seq (AC_region ?_)
 refine mv rfl rfl rfl rfl ?_
 refine p_ (S_len (e := 3) rfl (.tmp rfl) (by kernel_rfl)) ?_
 refine p_ (S_move rfl (AEv.const _)) ?_
 refine AL_nil ?_
 refine AC_block ?_
 refine AC_loop (G := Nat) (fun i => i ≤ l.length ∧ ∀ j (hj : j < i) (hj2 : j < l.length), l[j] ≠ s) (fun i => [(0, .sl (intsV l)), (1, .int .i64 s), (7, .int .i64 ((intsV l).length : Int)), (8, .int .i64 (i : Int))]) (fun i => st) (fun i => l.length - i) (0) (⟨Nat.zero_le _, fun j hj => absurd hj (Nat.not_lt_zero _)⟩) rfl ?_ ?_
 ·exact .cons rfl (Le.refl _) (.cons rfl (Le.refl _) (.cons rfl (Le.refl _) (.cons rfl (Le.refl _) .nil)))
 rintro i ⟨hi, hno⟩
 try dsimp only
 refine AC_seq (AC_region ?_)
 refine p_ (S_lss rfl (.tmp rfl) (.tmp rfl)) ?_
 refine AL_nil ?_
 refine AC_seq ?_
 refine AC_cond (.tmp rfl) (fun hb1 => ?_) (fun hb1 => ?_)
 ·try simp only [zA,zO,zN,zM,zP,zQ,zD,zF,gd] at hb1
  have hil : i < l.length := by omega
  refine AC_skip ?_
  refine AC_seq ?_
  refine AC_block ?_
  refine AC_seq (AC_region ?_)
  refine mv rfl rfl rfl rfl ?_
  refine as_ rfl rfl rfl rfl ?_
  refine AL_nil (AC_seq (AC_region ?_))
  refine mv rfl rfl rfl rfl ?_
  refine mv rfl rfl rfl rfl ?_
  refine mv rfl rfl rfl rfl ?_
  refine p_ (S_elem (e := 3) (c := .int .i64 (l[i]'hil)) (i := (i : Int)) 1 rfl (.tmp rfl) (.tmp rfl) (by kernel_rfl) (by kernel_rfl) (by omega) (by simp [intsV, hil]) rfl) ?_
  refine p_ (S_loadP rfl (.tmp rfl) rfl (by kernel_rfl)) ?_
  refine p_ (S_eql rfl (.tmp rfl) (.tmp rfl)) ?_
  refine AL_nil ?_
  refine AC_cond (.tmp rfl) (fun hb2 => ?_) (fun hb2 => ?_)
  ·try simp only [zA,zO,zN,zM,zP,zQ,zD,zF,gd] at hb2
   have he : l[i]'hil = s := (by first | exact hb2.symm | omega)
   refine AC_seq (AC_region ?_)
   refine mv rfl rfl rfl rfl ?_
   refine as_ rfl rfl rfl rfl ?_
   refine AL_nil (AC_ret ?_)
   refine ret_tmp st rfl rfl (Sub.l (List.Sublist.refl _)) (Conv.refl (Sub.l (List.Sublist.refl _)) _) ⟨by rw [idxG_hit hil he fun j hj => hno j hj (by omega)], rfl⟩ (.inl rfl)
  try simp only [zA,zO,zN,zM,zP,zQ,zD,zF,gd] at hb2
  have hne : ¬ s = l[i]'hil := (by first | exact hb2 | omega)
  refine AC_skip ?_
  refine AC_region ?_
  refine p_ (S_addI rfl (.tmp rfl) (AEv.const _) (by omega) (by omega)) ?_
  refine mv rfl rfl rfl rfl ?_
  refine AL_nil ?_
  refine ⟨i + 1, ⟨by omega, fun j hj hj2 => ?_⟩, by omega, rfl, .cons rfl (Le.refl _) (.cons rfl (Le.refl _) (.cons rfl (Le.refl _) (.cons rfl (Le.of_eq (by rw [Int.natCast_add]; rfl)) .nil)))⟩
  rcases Nat.lt_or_ge j i with h | h
  ·exact hno j h hj2
  ·have : j = i := by omega
   subst this
   exact fun e => hne e.symm
 try simp only [zA,zO,zN,zM,zP,zQ,zD,zF,gd] at hb1
 refine AC_exit ?_
 refine AC_seq (AC_region ?_)
 refine ac rfl rfl rfl ?_
 refine AL_nil (AC_ret ?_)
 refine ret_tmp st rfl rfl (Sub.l (List.Sublist.refl _)) (Conv.refl (Sub.l (List.Sublist.refl _)) _) ⟨by rw [idxG_none fun j hj => hno j (by omega) hj], rfl⟩ (.inl rfl)
theorem slices_ContainsI_ok (l : List Int) (s : Int) (hl : l.length ≤ 1000000) : PCalls Tryz.prog 101 [.sl (intsV l), .int .i64 s] (.bool (decide (s ∈ l))) := by
 intro st
 refine co 9 Tryz.func101 ?_
 refine AC_seq (AC_region ?_)
 refine ac rfl rfl rfl ?_
 refine AL_nil (AC_seq (AC_region ?_))
 refine mv rfl rfl rfl rfl ?_
 refine mv rfl rfl rfl rfl ?_
 refine p_ (S_pcall rfl (AEvs.cons (.tmp rfl) (AEvs.cons (.tmp rfl) AEvs.nil)) (slices_IndexI_ok l s hl)) ?_
 refine p_ (S_geq rfl (.tmp rfl) (AEv.const _)) ?_
 refine as_ rfl rfl rfl rfl ?_
 refine AL_nil (AC_ret ?_)
 refine ret_tmp st rfl rfl (Sub.l (List.Sublist.refl _)) (Conv.refl (Sub.l (List.Sublist.refl _)) _) ⟨by rw [show decide (s ∈ l) = decide (0 ≤ idxG l s) from decide_eq_decide.2 (idxG_mem s l).symm], rfl⟩ (.inl rfl)
theorem spec_label_ok (name : List UInt8) (hn : name.length ≤ 1000000) (l : List Lab) (hl : l.length ≤ 1000000) (hls : ∀ x ∈ l, x.1.length ≤ 1000000 ∧ x.2.length ≤ 1000000) (i : Nat) (hi : i < l.length) : GCalls Tryz.prog tabs 39 [.S name, .sl (labsV l), .int .i64 (i : Int)] (erV 33 116 (labelE name l i)) := by
 intro st hG
 refine co 49 Tryz.func39 ?_
 have hll : (labsV l).length = l.length := by simp [labsV]
 have hat : ∀ j, j < l.length → (labsV l)[j]? = some (labAV (l.getD j ([], []))) := fun j hj => by simp [labsV, hj]
 have hmem := hls (l.getD i ([], [])) (by rw [List.getD_eq_getElem?_getD, List.getElem?_eq_getElem hi]; exact List.getElem_mem hi)
 have hif : fits (i : Int) := by unfold fits; omega
 refine AC_seq (AC_region ?_)
 refine ac rfl rfl rfl ?_
 refine AL_nil (AC_seq (AC_region ?_))
 refine mv rfl rfl rfl rfl ?_
 refine mv rfl rfl rfl rfl ?_
 refine p_ (S_elem (e := 56) (c := labAV (l.getD i ([], []))) (i := (i : Int)) 2 rfl (.tmp rfl) (.tmp rfl) (by kernel_rfl) (by kernel_rfl) (by omega) (hat _ (by omega)) rfl) ?_
 refine p_ (S_loadPN (m := 2) rfl (.tmp rfl) (by kernel_rfl) (by first | exact Nat.le_of_ble_eq_true rfl | (simp; omega) | simp)) ?_
 refine s_ (S_alloc [.string ⟨#[]⟩, .string ⟨#[]⟩] rfl (by kernel_rfl)) ?_
 rintro _ _ ⟨b1, rfl, rfl⟩
 refine stN 0 ?_
 refine AL_nil (AC_seq (AC_region ?_))
 refine fl 0 ?_
 refine ld 0 ?_
 refine p_ (S_gcall rfl (AEvs.cons (.tmp rfl) AEvs.nil) ((text_Key_ok (l.getD i ([], [])).1 (by omega)) _ (fun p hp => by first | exact hG p hp | (simp [hG p hp]; done)))) ?_
 refine p_ (S_buildSlice (e := 9) 1 rfl (AEvs.cons (AEv.S _) AEvs.nil) rfl (by kernel_rfl) (by kernel_rfl) (by simp [AV.flat, AV.one, AV.cells, Value.oneCell']) (by decide) (by decide) (by decide)) ?_
 refine p_ (S_pcall rfl (AEvs.cons (.tmp rfl) (AEvs.cons (.tmp rfl) AEvs.nil)) (fail_New_ok (saysV (namesR 2 (l.getD i ([], [])).1) 31) [[107, 101, 121]] (by simp))) ?_
 refine as_ rfl rfl rfl rfl ?_
 refine AL_nil ?_
 refine AC_join (G := Unit) (fun _ => True) (fun _ => [(0, .S name), (1, .sl (labsV l)), (2, .int .i64 (i : Int)), (7, .ptr b1 0), (8, erV 33 116 (keyE l i))]) (fun _ => (b1, .cells [.S (l.getD i ([], [])).1, .S (l.getD i ([], [])).2]) :: st) ?_ ?_
 ·refine AC_seq ?_
  refine AC_draw (by kernel_rfl) (by kernel_rfl) (.cons rfl (Q_p rfl (S_move rfl (.tmp rfl))) <|
    .cons rfl (Q_p rfl (S_eqlE (er_is 33 116 (erNew (saysV (namesR 2 (l.getD i ([], [])).1) 31) [[107, 101, 121]])) rfl (.tmp rfl) (by kernel_rfl))) <|
    .cons rfl (Q_p rfl (S_move rfl (.tmp rfl))) <|
    .cons rfl (Q_g rfl rfl (.tmp rfl) (fun hg2 => S_move rfl (.tmp rfl))) <|
    .cons rfl (Q_g rfl rfl (.tmp rfl) (fun hg5 => S_gtr rfl (AEv.cd (.tmp rfl)) (AEv.const _))) <|
    .cons rfl (Q_p rfl (S_and rfl (.tmp rfl) (fun hp8 => (AEv.cd (.tmp rfl))))) <|
    .cons rfl (Q_p rfl (S_move rfl (.tmp rfl))) <|
    .cons rfl (Q_g rfl rfl (.tmp rfl) (fun hg9 => S_field 0 rfl (.tmp rfl) (by kernel_rfl))) <|
    .cons rfl (Q_g rfl rfl (.tmp rfl) (fun hg12 => S_load 0 rfl (AEv.cd (.tmp rfl)) rfl rfl (by kernel_rfl))) <|
    .cons rfl (Q_g rfl rfl (.tmp rfl) (fun hg15 => S_move rfl (.tmp rfl))) <|
    .cons rfl (Q_g rfl rfl (.tmp rfl) (fun hg18 => S_move rfl (.tmp rfl))) <|
    .cons rfl (Q_g rfl rfl (.tmp rfl) (fun hg21 => S_subI rfl (AEv.cd (.tmp rfl)) (AEv.const _) (by (try simp only [gd, Bool.and_eq_true, Bool.or_eq_true, Bool.not_eq_true', Bool.not_eq_false', decide_eq_true_eq, decide_eq_false_iff_not, Bool.or_eq_false_iff, Bool.and_eq_false_iff] at *); omega) (by (try simp only [gd, Bool.and_eq_true, Bool.or_eq_true, Bool.not_eq_true', Bool.not_eq_false', decide_eq_true_eq, decide_eq_false_iff_not, Bool.or_eq_false_iff, Bool.and_eq_false_iff] at *); omega))) <|
    .cons rfl (Q_g rfl rfl (.tmp rfl) (fun hg24 => S_elem (e := 56) (c := labAV (l.getD (i - 1) ([], []))) (i := (i : Int) - 1) 2 rfl (AEv.cd (.tmp rfl)) (AEv.cd (.tmp rfl)) (by kernel_rfl) (by kernel_rfl) (by simp only [gd, Bool.and_eq_true, decide_eq_true_eq] at *; omega) (by rw [show ((i : Int) - 1).toNat = i - 1 by omega]; exact hat _ (by omega)) rfl)) <|
    .cons rfl (Q_g rfl rfl (.tmp rfl) (fun hg27 => S_fieldP 0 rfl (AEv.cd (.tmp rfl)) (by kernel_rfl))) <|
    .cons rfl (Q_g rfl rfl (.tmp rfl) (fun hg30 => S_loadP rfl (AEv.cd (.tmp rfl)) rfl (by kernel_rfl))) <|
    .cons rfl (Q_g rfl rfl (.tmp rfl) (fun hg33 => S_leS rfl (AEv.cd (.tmp rfl)) (AEv.cd (.tmp rfl)))) <|
    .cons rfl (Q_p rfl (S_and rfl (.tmp rfl) (fun hp36 => (AEv.cd (.tmp rfl))))) <|
    .nil) ?_
  refine AC_cond (.tmp rfl) (fun hb37 => ?_) (fun hb37 => ?_)
  ·try simp only [zA,zO,zN,zM,zP,zQ,zD,zF,gd] at hb37
   have hk : (erNew (saysV (namesR 2 (l.getD i ([], [])).1) 31) [[107, 101, 121]]).isNone = true ∧ 0 < i ∧ (Op.bytesLess (l.getD i ([], [])).1 (l.getD (i - 1) ([], [])).1 || decide ((l.getD i ([], [])).1 = (l.getD (i - 1) ([], [])).1)) = true := ⟨hb37.1.1, by have := hb37.1.2; omega, by simpa using hb37.2⟩
   refine AC_region ?_
   refine p_ (S_buildSlice (e := 9) 1 rfl (AEvs.cons (AEv.S _) AEvs.nil) rfl (by kernel_rfl) (by kernel_rfl) (by simp [AV.flat, AV.one, AV.cells, Value.oneCell']) (by decide) (by decide) (by decide)) ?_
   refine p_ (S_pcall rfl (AEvs.cons (AEv.const _) (AEvs.cons (.tmp rfl) AEvs.nil)) (fail_New_ok 4 [[107, 101, 121]] (by simp))) ?_
   refine as_ rfl rfl rfl rfl ?_
   refine AL_nil ?_
   exact ⟨(), trivial, rfl, .cons rfl (Le.refl _) (.cons rfl (Le.refl _) (.cons rfl (Le.refl _) (.cons rfl (Le.refl _) (.cons rfl (Le.of_eq (by rw [keyE, if_pos hk]; rfl)) .nil))))⟩
  try simp only [zA,zO,zN,zM,zP,zQ,zD,zF,gd] at hb37
  have hk : ¬ ((erNew (saysV (namesR 2 (l.getD i ([], [])).1) 31) [[107, 101, 121]]).isNone = true ∧ 0 < i ∧ (Op.bytesLess (l.getD i ([], [])).1 (l.getD (i - 1) ([], [])).1 || decide ((l.getD i ([], [])).1 = (l.getD (i - 1) ([], [])).1)) = true) := fun ⟨h1, h2, h3⟩ => by
   rcases hb37 with (h | h) | h
   ·rw [h1] at h; cases h
   ·omega
   ·simp at h h3; rcases h3 with h3 | h3
    ·rw [h.1] at h3; cases h3
    ·exact h.2 h3
  refine AC_skip ?_
  exact ⟨(), trivial, rfl, .cons rfl (Le.refl _) (.cons rfl (Le.refl _) (.cons rfl (Le.refl _) (.cons rfl (Le.refl _) (.cons rfl (Le.of_eq (by rw [keyE, if_neg hk])) .nil))))⟩
 rintro _ _
 try dsimp only
 refine AC_seq (AC_region ?_)
 refine mv rfl rfl rfl rfl ?_
 refine fl 1 ?_
 refine ld 0 ?_
 refine p_ (S_gcall rfl (AEvs.cons (.tmp rfl) AEvs.nil) ((text_Val_ok (l.getD i ([], [])).2 (by omega)) _ (fun p hp => by first | exact hG p hp | (simp [hG p hp]; done)))) ?_
 refine p_ (S_buildSlice (e := 9) 1 rfl (AEvs.cons (AEv.S _) AEvs.nil) rfl (by kernel_rfl) (by kernel_rfl) (by simp [AV.flat, AV.one, AV.cells, Value.oneCell']) (by decide) (by decide) (by decide)) ?_
 refine p_ (S_pcall rfl (AEvs.cons (.tmp rfl) (AEvs.cons (.tmp rfl) AEvs.nil)) (fail_New_ok (saysV (valV (l.getD i ([], [])).2) 32) [[118, 97, 108]] (by simp))) ?_
 refine p_ (S_buildSlice (e := 29) 1 rfl (AEvs.cons (.tmp rfl) (AEvs.cons (.tmp rfl) AEvs.nil)) rfl (by kernel_rfl) (by kernel_rfl) (by intro y hy; simp only [List.mem_cons, List.not_mem_nil, or_false] at hy; rcases hy with rfl | rfl <;> exact ⟨er_flat _ _ _, by rw [er_cells]; rfl⟩) (by decide) (by decide) (by decide)) ?_
 refine p_ (S_pcall rfl (AEvs.cons (.tmp rfl) AEvs.nil) (fail_First_ok [keyE l i, (erNew (saysV (valV (l.getD i ([], [])).2) 32) [[118, 97, 108]])] (by simp))) ?_
 refine mv rfl rfl rfl rfl ?_
 refine mv rfl rfl rfl rfl ?_
 refine p_ (S_pcall rfl (AEvs.cons (.tmp rfl) (AEvs.cons (.tmp rfl) AEvs.nil)) (spec_at_ok name hn (i : Int) hif)) ?_
 refine p_ (S_pcall rfl (AEvs.cons (.tmp rfl) (AEvs.cons (.tmp rfl) AEvs.nil)) (fail_In_ok (firstE [keyE l i, (erNew (saysV (valV (l.getD i ([], [])).2) 32) [[118, 97, 108]])]) (atT name (i : Int)))) ?_
 refine as_ rfl rfl rfl rfl ?_
 refine AL_nil (AC_ret ?_)
 refine ret_tmp st rfl rfl (Sub.l (List.Sublist.cons _ (List.Sublist.refl _))) (Conv.refl (Sub.l (List.Sublist.cons _ (List.Sublist.refl _))) _) ⟨rfl, rfl⟩ (.inl rfl)
end Go.Proofs.YtfdcadnaginnpaaGreatDoor

set_option maxRecDepth 100000
namespace Go.Proofs.YtfdcadnaginnpaaGreatDoor
open Go.AL Go.NumSpec
theorem spec_Labels_ok (name : List UInt8) (hn : name.length ≤ 1000000) (l : List Lab) (hl : l.length ≤ 1000000) (hls : ∀ x ∈ l, x.1.length ≤ 1000000 ∧ x.2.length ≤ 1000000) : GCalls Tryz.prog tabs 13 [.S name, .sl (labsV l)] (erV 33 116 (labelsE name l)) := by
 intro st hG
 refine co 26 Tryz.func13 ?_
 have hll : (labsV l).length = l.length := by simp [labsV]
 refine AC_seq (AC_region ?_)
 refine ac rfl rfl rfl ?_
 refine AL_nil (AC_seq (AC_region ?_))
 refine mv rfl rfl rfl rfl ?_
 refine mv rfl rfl rfl rfl ?_
 refine p_ (S_len (e := 56) rfl (.tmp rfl) (by kernel_rfl)) ?_
 refine p_ (S_pcall rfl (AEvs.cons (.tmp rfl) (AEvs.cons (.tmp rfl) (AEvs.cons (AEv.const _) (AEvs.cons (AEv.const _) AEvs.nil)))) (spec_atMost_ok name ((labsV l).length : Int) 0 4)) ?_
 refine as_ rfl rfl rfl rfl ?_
 refine AL_nil ?_
 refine AC_seq ?_
 refine AC_seq (AC_region ?_)
 refine ac rfl rfl rfl ?_
 refine AL_nil ?_
 refine AC_block ?_
 refine AC_loop (G := Nat × Er) (fun g => g.1 ≤ l.length ∧ (g.2 = none → (atMostE name (l.length : Int) 0 4) = none ∧ ∀ j, j < g.1 → labelE name l j = none) ∧ (g.2 ≠ none → g.2 = labelsE name l)) (fun g => [(0, .S name), (1, .sl (labsV l)), (5, erV 33 116 g.2), (6, .int .i64 (g.1 : Int))]) (fun g => st) (fun g => l.length - g.1) ((0, (atMostE name (l.length : Int) 0 4))) (⟨Nat.zero_le _, fun h => ⟨h, fun j hj => absurd hj (Nat.not_lt_zero _)⟩, fun h => (labelsE_bad h).symm⟩) rfl ?_ ?_
 ·exact .cons rfl (Le.refl _) (.cons rfl (Le.refl _) (.cons rfl (Le.of_eq (by rw [hll])) (.cons rfl (Le.refl _) .nil)))
 rintro ⟨i, e⟩ ⟨hi, hno, hyes⟩
 try dsimp only
 dsimp only at hi hno hyes
 refine AC_seq ?_
 refine AC_seq (AC_region ?_)
 refine mv rfl rfl rfl rfl ?_
 refine p_ (S_eqlE (er_is 33 116 e) rfl (.tmp rfl) (by kernel_rfl)) ?_
 refine mv rfl rfl rfl rfl ?_
 refine g_ (fun _ => mA) ?_
 refine g_ (fun _ => mA) ?_
 refine g_ (fun _ => S_len (e := 56) rfl (AEv.cd (.tmp rfl)) (by kernel_rfl)) ?_
 refine g_ (fun _ => S_lss rfl (AEv.cd (.tmp rfl)) (AEv.cd (.tmp rfl))) ?_
 refine an ?_
 refine AL_nil ?_
 refine AC_cond (.tmp rfl) (fun hb14 => ?_) (fun hb14 => ?_)
 ·try simp only [zA,zO,zN,zM,zP,zQ,zD,zF,gd] at hb14
  have hil : i < l.length := by have := hb14.2; omega
  obtain rfl : e = none := by cases e with | none => rfl | some x => simp at hb14
  have hn0 := hno rfl
  refine AC_skip ?_
  refine AC_seq ?_
  refine AC_block ?_
  refine AC_region ?_
  refine mv rfl rfl rfl rfl ?_
  refine mv rfl rfl rfl rfl ?_
  refine mv rfl rfl rfl rfl ?_
  refine p_ (S_gcall rfl (AEvs.cons (.tmp rfl) (AEvs.cons (.tmp rfl) (AEvs.cons (.tmp rfl) AEvs.nil))) ((spec_label_ok name hn l hl hls i hil) _ (fun p hp => by first | exact hG p hp | (simp [hG p hp]; done)))) ?_
  refine as_ rfl rfl rfl rfl ?_
  refine AL_nil ?_
  refine AC_region ?_
  refine mv rfl rfl rfl rfl ?_
  refine p_ (S_addI rfl (.tmp rfl) (AEv.const _) (by omega) (by omega)) ?_
  refine as_ rfl rfl rfl rfl ?_
  refine AL_nil ?_
  refine ⟨(i + 1, labelE name l i), ⟨by dsimp only; omega, fun h => ⟨hn0.1, fun j hj => ?_⟩, fun h => ?_⟩, by dsimp only; omega, rfl, .cons rfl (Le.refl _) (.cons rfl (Le.refl _) (.cons rfl (Le.refl _) (.cons rfl (Le.of_eq (by dsimp only; rw [Int.natCast_add]; rfl)) .nil)))⟩
  ·rcases Nat.lt_or_ge j i with h' | h'
   ·exact hn0.2 j h'
   ·rw [show j = i by omega]; exact h
  ·dsimp only at h ⊢
   cases hx : labelE name l i with
   | none => exact absurd hx h
   | some x => rw [labelsE_good hn0.1, eachE_at hil hx hn0.2]
 try simp only [zA,zO,zN,zM,zP,zQ,zD,zF,gd] at hb14
 have hend : e = labelsE name l := by
  cases he : e with
  | some x => rw [← he]; exact hyes (by rw [he]; exact fun h => by cases h)
  | none =>
   have h0 := hno he
   rw [he] at hb14
   rw [labelsE_good h0.1, eachE_all fun j hj => h0.2 j (by
    rcases hb14 with h | h
    ·cases h
    ·omega)]
 refine AC_exit ?_
 refine AC_seq (AC_region ?_)
 refine mv rfl rfl rfl rfl ?_
 refine as_ rfl rfl rfl rfl ?_
 refine AL_nil (AC_ret ?_)
 refine ret_tmp st rfl rfl (Sub.l (List.Sublist.refl _)) (Conv.refl (Sub.l (List.Sublist.refl _)) _) ⟨by rw [hend], rfl⟩ (.inl rfl)
theorem seen_name_ok (b : Nat) (p q : Own) (ns : List (List UInt8)) (ps : List Int) (hp : p.ok (strsV ns)) (hq : q.ok (intsV ps)) (hns : ns.length ≤ 1000) (c : Ctr) (F : St) (hG : ∀ r, r ∈ Gs tabs → r ∈ F) : ACalls Tryz.prog 80 [.ptr b 0, ctrAV c] ((b, Ob.cells [ownAV p 1 (strsV ns), ownAV q 1 (intsV ps)]) :: (ownSt p 9 1 (strsV ns) ++ (ownSt q 3 1 (intsV ps) ++ F))) (fun x st' => ∃ p' : Own, p'.ok (strsV (ns ++ [c.name])) ∧ x = erV 33 116 (nameE ns c.name) ∧ st' = (b, Ob.cells [ownAV p' 1 (strsV (ns ++ [c.name])), ownAV q 1 (intsV ps)]) :: (ownSt p' 9 1 (strsV (ns ++ [c.name])) ++ (ownSt q 3 1 (intsV ps) ++ F))) := by
 refine co 36 Tryz.func80 ?_
 have hnl := strsV_len ns
 refine AC_seq (AC_region ?_)
 refine s_ (S_box rfl (.tmp rfl)) ?_
 rintro _ _ ⟨b1, rfl, rfl⟩
 refine ac rfl rfl rfl ?_
 refine AL_nil (AC_seq (AC_region ?_))
 refine fl 0 ?_
 refine ld 0 ?_
 refine p_ (S_gcall rfl (AEvs.cons (.tmp rfl) AEvs.nil) ((text_Name_ok c.name) _ (fun r hr => List.mem_cons_of_mem _ (List.mem_cons_of_mem _ (List.mem_append_right _ (List.mem_append_right _ (hG r hr))))))) ?_
 refine p_ (S_buildSlice (e := 9) 1 rfl (AEvs.cons (AEv.S _) AEvs.nil) rfl (by kernel_rfl) (by kernel_rfl) (by simp [AV.flat, AV.one, AV.cells, Value.oneCell']) (by decide) (by decide) (by decide)) ?_
 refine p_ (S_pcall rfl (AEvs.cons (.tmp rfl) (AEvs.cons (.tmp rfl) AEvs.nil)) (fail_New_ok (saysV (nameV c.name) 30) [[110, 97, 109, 101]] (by simp))) ?_
 refine as_ rfl rfl rfl rfl ?_
 refine AL_nil ?_
 refine AC_join (G := Unit) (fun _ => True) (fun _ => [(0, .ptr b 0), (3, .ptr b1 0), (5, erV 33 116 (nameE ns c.name))]) (fun _ => (b1, Ob.cells (ctrL c)) :: ((b, Ob.cells [ownAV p 1 (strsV ns), ownAV q 1 (intsV ps)]) :: (ownSt p 9 1 (strsV ns) ++ (ownSt q 3 1 (intsV ps) ++ F)))) ?_ ?_
 ·refine AC_seq ?_
  refine AC_draw (by kernel_rfl) (by kernel_rfl) (.cons rfl (Q_p rfl (S_move rfl (.tmp rfl))) <|
    .cons rfl (Q_p rfl (S_eqlE (er_is 33 116 (erNew (saysV (nameV c.name) 30) [[110, 97, 109, 101]])) rfl (.tmp rfl) (by kernel_rfl))) <|
    .cons rfl (Q_p rfl (S_move rfl (.tmp rfl))) <|
    .cons rfl (Q_g rfl rfl (.tmp rfl) (fun hg2 => S_move rfl (.tmp rfl))) <|
    .cons rfl (Q_g rfl rfl (.tmp rfl) (fun hg5 => S_nilCheck rfl (AEv.cd (.tmp rfl)))) <|
    .cons rfl (Q_g rfl rfl (.tmp rfl) (fun hg8 => S_field 0 rfl (AEv.cd (.tmp rfl)) (by kernel_rfl))) <|
    .cons rfl (Q_g rfl rfl (.tmp rfl) (fun hg11 => S_load 1 rfl (AEv.cd (.tmp rfl)) rfl rfl (by kernel_rfl))) <|
    .cons rfl (Q_g rfl rfl (.tmp rfl) (fun hg14 => S_field 0 rfl (.tmp rfl) (by kernel_rfl))) <|
    .cons rfl (Q_g rfl rfl (.tmp rfl) (fun hg17 => S_load 0 rfl (AEv.cd (.tmp rfl)) rfl rfl (by kernel_rfl))) <|
    .cons rfl (Q_g rfl rfl (.tmp rfl) (fun hg20 => S_pcall rfl (AEvs.cons ((AEv.cd (.tmp rfl)).le (Le_own hp)) (AEvs.cons (AEv.cd (.tmp rfl)) AEvs.nil)) (slices_ContainsS_ok ns c.name (by omega)))) <|
    .cons rfl (Q_p rfl (S_and rfl (.tmp rfl) (fun hp23 => (AEv.cd (.tmp rfl))))) <|
    .nil) ?_
  refine AC_cond (.tmp rfl) (fun hb24 => ?_) (fun hb24 => ?_)
  ·try simp only [zA,zO,zN,zM,zP,zQ,zD,zF,gd] at hb24
   have hk : (erNew (saysV (nameV c.name) 30) [[110, 97, 109, 101]]).isNone = true ∧ c.name ∈ ns := ⟨hb24.1, by simpa using hb24.2⟩
   refine AC_region ?_
   refine p_ (S_buildSlice (e := 9) 1 rfl (AEvs.cons (AEv.S _) AEvs.nil) rfl (by kernel_rfl) (by kernel_rfl) (by simp [AV.flat, AV.one, AV.cells, Value.oneCell']) (by decide) (by decide) (by decide)) ?_
   refine p_ (S_pcall rfl (AEvs.cons (AEv.const _) (AEvs.cons (.tmp rfl) AEvs.nil)) (fail_New_ok 7 [[110, 97, 109, 101]] (by simp))) ?_
   refine as_ rfl rfl rfl rfl ?_
   refine AL_nil ?_
   exact ⟨(), trivial, rfl, .cons rfl (Le.refl _) (.cons rfl (Le.refl _) (.cons rfl (Le.of_eq (by rw [nameE, if_pos hk]; rfl)) .nil))⟩
  try simp only [zA,zO,zN,zM,zP,zQ,zD,zF,gd] at hb24
  have hk : ¬ ((erNew (saysV (nameV c.name) 30) [[110, 97, 109, 101]]).isNone = true ∧ c.name ∈ ns) := fun ⟨h1, h2⟩ => by
   rcases hb24 with h | h
   ·rw [h1] at h; cases h
   ·first | exact h h2 | (simp at h; exact h h2)
  refine AC_skip ?_
  exact ⟨(), trivial, rfl, .cons rfl (Le.refl _) (.cons rfl (Le.refl _) (.cons rfl (Le.of_eq (by rw [nameE, if_neg hk])) .nil))⟩
 rintro _ _
 try dsimp only
 refine AC_seq ?_
 refine AC_plan (σ := [(0, 0), (1, 0), (2, 0), (3, 0), (4, 0), (5, 0), (6, 0), (7, 0), (8, 1), (9, 0), (10, 0), (11, 2)]) (by kernel_rfl) [(b1, .cells (ctrL c)), (b, Ob.cells [ownAV p 1 (strsV ns), ownAV q 1 (intsV ps)])] (by kernel_rfl) (fun r hr => List.mem_append_left (ownSt p 9 1 (strsV ns) ++ (ownSt q 3 1 (intsV ps) ++ F)) hr) ?_
 refine AG.f rfl rfl (fun st' hst => Q_p rfl (S_move rfl (.tmp rfl))) ?_
 refine AG.f rfl rfl (fun st' hst => Q_p rfl (S_move rfl (.tmp rfl))) ?_
 refine AG.f rfl rfl (fun st' hst => Q_p rfl (S_nilCheck rfl (.tmp rfl))) ?_
 refine AG.f rfl rfl (fun st' hst => Q_p rfl (S_field 0 rfl (.tmp rfl) (by kernel_rfl))) ?_
 refine AG.f rfl rfl (fun st' hst => Q_p rfl (S_loadM rfl (.tmp rfl) (hst _ (List.mem_of_getElem? (i := 1) rfl)) rfl (by kernel_rfl))) ?_
 refine AG.f rfl rfl (fun st' hst => Q_p rfl (S_field 0 rfl (.tmp rfl) (by kernel_rfl))) ?_
 refine AG.f rfl rfl (fun st' hst => Q_p rfl (S_loadM rfl (.tmp rfl) (hst _ (List.mem_of_getElem? (i := 0) rfl)) rfl (by kernel_rfl))) ?_
 refine AG.f rfl rfl (fun st' hst => Q_p rfl (S_buildSlice (e := 9) 1 rfl (AEvs.cons (.tmp rfl) AEvs.nil) rfl (by kernel_rfl) (by kernel_rfl) (by simp [AV.flat, AV.one, AV.cells, Value.oneCell']) (by decide) (by decide) (by decide))) ?_
 refine AG.s rfl rfl rfl (S_appendOwn (e := 9) (size := 1) (bytes := 16) (p := p) (xs := strsV ns) [_, _] _ rfl (.tmp rfl) (.tmp rfl) rfl hp (by kernel_rfl) (by simp) (fun x hx => by obtain ⟨r, _, rfl⟩ := List.mem_map.1 hx; rfl) (by simp [AV.cells, AV.one, Value.oneCell']) (by simp only [List.length_singleton]; omega) (by simp only [List.length_singleton]; omega)) ?_ ?_
 ·rintro _ _ ⟨b8, k8, cap8, hx, rfl, rfl⟩ r hr; exact List.mem_append_left _ hr
 rintro _ _ ⟨b8, k8, cap8, hx, rfl, rfl⟩
 refine AG.f rfl rfl (fun st' hst => Q_p rfl (S_nilCheck rfl (.tmp rfl))) ?_
 refine AG.f rfl rfl (fun st' hst => Q_p rfl (S_field 0 rfl (.tmp rfl) (by kernel_rfl))) ?_
 refine AG.h rfl rfl rfl (S_store 1 rfl (.tmp rfl) (.tmp rfl) rfl (by first | exact Nat.le_of_ble_eq_true rfl | simp) (by first | rfl | exact ownAV_one _ _ _) (by kernel_rfl)) ?_
 rintro _ _ ⟨rfl, rfl⟩
 refine AG.nil ?_
 refine AC_seq (AC_region ?_)
 refine mv rfl rfl rfl rfl ?_
 refine as_ rfl rfl rfl rfl ?_
 refine AL_nil (AC_ret ?_)
 refine ret_tmp ((b, Ob.cells [ownAV (.row b8 k8 cap8) 1 (strsV ns ++ [AV.S c.name]), ownAV q 1 (intsV ps)]) :: (ownSt (.row b8 k8 cap8) 9 1 (strsV ns ++ [AV.S c.name]) ++ (ownSt q 3 1 (intsV ps) ++ F))) rfl rfl (Sub.l (List.Sublist.cons _ (List.Sublist.refl _))) (Conv.refl (Sub.l (List.Sublist.cons _ (List.Sublist.refl _))) _) ⟨.row b8 k8 cap8, by rw [show strsV (ns ++ [c.name]) = strsV ns ++ [AV.S c.name] by simp [strsV]]; exact hx, rfl, by rw [show strsV (ns ++ [c.name]) = strsV ns ++ [AV.S c.name] by simp [strsV]]⟩ (.inl rfl)
theorem seen_port_ok (b : Nat) (p q : Own) (ns : List (List UInt8)) (ps : List Int) (hp : p.ok (strsV ns)) (hq : q.ok (intsV ps)) (hps : ps.length ≤ 1000) (l : List Int) (hl : l.length ≤ 1000) (n : Int) (F : St) : ACalls Tryz.prog 84 [.ptr b 0, .sl (intsV l), .int .i64 n] ((b, Ob.cells [ownAV p 1 (strsV ns), ownAV q 1 (intsV ps)]) :: (ownSt p 9 1 (strsV ns) ++ (ownSt q 3 1 (intsV ps) ++ F))) (fun x st' => ∃ (q' : Own) (m : Nat), m ≤ l.length ∧ (portE ps l n = none → m = l.length) ∧ q'.ok (intsV (ps ++ l.take m)) ∧ x = erV 33 116 (portE ps l n) ∧ st' = (b, Ob.cells [ownAV p 1 (strsV ns), ownAV q' 1 (intsV (ps ++ l.take m))]) :: (ownSt p 9 1 (strsV ns) ++ (ownSt q' 3 1 (intsV (ps ++ l.take m)) ++ F))) := by
 refine co 61 Tryz.func84 ?_
 have hll : (intsV l).length = l.length := by simp [intsV]
 refine AC_seq (AC_region ?_)
 refine ac rfl rfl rfl ?_
 refine AL_nil (AC_seq (AC_region ?_))
 refine mv rfl rfl rfl rfl ?_
 refine p_ (S_len (e := 3) rfl (.tmp rfl) (by kernel_rfl)) ?_
 refine mv rfl rfl rfl rfl ?_
 refine p_ (S_pcall rfl (AEvs.cons (AEv.S _) (AEvs.cons (.tmp rfl) (AEvs.cons (AEv.const _) (AEvs.cons (.tmp rfl) AEvs.nil)))) (spec_atMost_ok portsN ((intsV l).length : Int) 0 n)) ?_
 refine as_ rfl rfl rfl rfl ?_
 refine AL_nil ?_
 refine AC_seq ?_
 refine AC_seq (AC_region ?_)
 refine ac rfl rfl rfl ?_
 refine AL_nil ?_
 refine AC_block ?_
 refine AC_loopS (G := Nat × Er × Own) (fun g => g.1 ≤ l.length ∧ (g.2.1 = none → (atMostE portsN (l.length : Int) 0 n) = none ∧ ∀ j, j < g.1 → portAt ps l j = none) ∧ (g.2.1 ≠ none → g.2.1 = portE ps l n) ∧ g.2.2.ok (intsV (ps ++ l.take g.1))) (fun g => [(0, .ptr b 0), (1, .sl (intsV l)), (7, erV 33 116 g.2.1), (8, .int .i64 (g.1 : Int))]) (fun g => (b, Ob.cells [ownAV p 1 (strsV ns), ownAV g.2.2 1 (intsV (ps ++ l.take g.1))]) :: (ownSt p 9 1 (strsV ns) ++ (ownSt g.2.2 3 1 (intsV (ps ++ l.take g.1)) ++ F))) (fun g => l.length - g.1) ((0, (atMostE portsN (l.length : Int) 0 n), q)) (⟨Nat.zero_le _, fun h => ⟨h, fun j hj => absurd hj (Nat.not_lt_zero _)⟩, fun h => (portE_bad h).symm, by simpa using hq⟩) (by simp only [List.take_zero, List.append_nil]; exact Sub.l (List.Sublist.refl _)) ?_ ?_
 ·exact (.cons rfl (Le.refl _) (.cons rfl (Le.refl _) (.cons rfl (Le.of_eq (by rw [hll])) (.cons rfl (Le.refl _) .nil))))
 rintro ⟨i, e, q2⟩ ⟨hi, hno, hyes, hq2⟩
 try dsimp only
 dsimp only at hi hno hyes hq2
 refine AC_seq ?_
 refine AC_seq (AC_region ?_)
 refine mv rfl rfl rfl rfl ?_
 refine p_ (S_eqlE (er_is 33 116 e) rfl (.tmp rfl) (by kernel_rfl)) ?_
 refine mv rfl rfl rfl rfl ?_
 refine g_ (fun _ => mA) ?_
 refine g_ (fun _ => mA) ?_
 refine g_ (fun _ => S_len (e := 3) rfl (AEv.cd (.tmp rfl)) (by kernel_rfl)) ?_
 refine g_ (fun _ => S_lss rfl (AEv.cd (.tmp rfl)) (AEv.cd (.tmp rfl))) ?_
 refine an ?_
 refine AL_nil ?_
 refine AC_cond (.tmp rfl) (fun hb14 => ?_) (fun hb14 => ?_)
 ·try simp only [zA,zO,zN,zM,zP,zQ,zD,zF,gd] at hb14
  have hil : i < l.length := by have := hb14.2; omega
  obtain rfl : e = none := by cases e with | none => rfl | some x => simp at hb14
  have hn0 := hno rfl
  have hif : fits (i : Int) := by unfold fits; omega
  have hpl : (intsV (ps ++ l.take i)).length ≤ 2000 := by simp [intsV]; omega
  refine AC_skip ?_
  refine AC_seq ?_
  refine AC_block ?_
  refine AC_seq ?_
  refine AC_draw (by kernel_rfl) (by kernel_rfl) (.cons rfl (Q_p rfl (S_move rfl (.tmp rfl))) <|
    .cons rfl (Q_p rfl (S_pcall rfl (AEvs.cons (AEv.S _) (AEvs.cons (.tmp rfl) AEvs.nil)) (spec_at_ok portsN (by decide) (i : Int) hif))) <|
    .cons rfl (Q_p rfl (S_move rfl (.tmp rfl))) <|
    .cons rfl (Q_p rfl (S_move rfl (.tmp rfl))) <|
    .cons rfl (Q_p rfl (S_elem (e := 3) (c := .int .i64 (l.getD i 0)) (i := (i : Int)) 1 rfl (.tmp rfl) (.tmp rfl) (by kernel_rfl) (by kernel_rfl) (by omega) (by simp [intsV, hil]) rfl)) <|
    .cons rfl (Q_p rfl (S_loadP rfl (.tmp rfl) rfl (by kernel_rfl))) <|
    .cons rfl (Q_p rfl (S_pcall rfl (AEvs.cons (.tmp rfl) (AEvs.cons (.tmp rfl) (AEvs.cons (AEv.const _) (AEvs.cons (AEv.const _) AEvs.nil)))) (spec_within_ok (atT portsN (i : Int)) (l.getD i 0) 1 65535))) <|
    .cons rfl (Q_p rfl (S_assign rfl (.tmp rfl))) <|
    .nil) ?_
  refine AC_join (G := Unit) (fun _ => True) (fun _ => [(0, .ptr b 0), (1, .sl (intsV l)), (7, erV 33 116 (portAt ps l i)), (8, .int .i64 (i : Int))]) (fun _ => (b, Ob.cells [ownAV p 1 (strsV ns), ownAV q2 1 (intsV (ps ++ l.take i))]) :: (ownSt p 9 1 (strsV ns) ++ (ownSt q2 3 1 (intsV (ps ++ l.take i)) ++ F))) ?_ ?_
  ·refine AC_seq ?_
   refine AC_draw (by kernel_rfl) (by kernel_rfl) (.cons rfl (Q_p rfl (S_move rfl (.tmp rfl))) <|
     .cons rfl (Q_p rfl (S_eqlE (er_is 33 116 (withinE (atT portsN (i : Int)) (l.getD i 0) 1 65535)) rfl (.tmp rfl) (by kernel_rfl))) <|
     .cons rfl (Q_p rfl (S_move rfl (.tmp rfl))) <|
     .cons rfl (Q_g rfl rfl (.tmp rfl) (fun hg15 => S_move rfl (.tmp rfl))) <|
     .cons rfl (Q_g rfl rfl (.tmp rfl) (fun hg18 => S_nilCheck rfl (AEv.cd (.tmp rfl)))) <|
     .cons rfl (Q_g rfl rfl (.tmp rfl) (fun hg21 => S_field 1 rfl (AEv.cd (.tmp rfl)) (by kernel_rfl))) <|
     .cons rfl (Q_g rfl rfl (.tmp rfl) (fun hg24 => S_load 0 rfl (AEv.cd (.tmp rfl)) rfl rfl (by kernel_rfl))) <|
     .cons rfl (Q_g rfl rfl (.tmp rfl) (fun hg27 => S_move rfl (.tmp rfl))) <|
     .cons rfl (Q_g rfl rfl (.tmp rfl) (fun hg30 => S_move rfl (.tmp rfl))) <|
     .cons rfl (Q_g rfl rfl (.tmp rfl) (fun hg33 => S_elem (e := 3) (c := .int .i64 (l.getD i 0)) (i := (i : Int)) 1 rfl (AEv.cd (.tmp rfl)) (AEv.cd (.tmp rfl)) (by kernel_rfl) (by kernel_rfl) (by omega) (by simp [intsV, hil]) rfl)) <|
     .cons rfl (Q_g rfl rfl (.tmp rfl) (fun hg36 => S_loadP rfl (AEv.cd (.tmp rfl)) rfl (by kernel_rfl))) <|
     .cons rfl (Q_g rfl rfl (.tmp rfl) (fun hg39 => S_pcall rfl (AEvs.cons ((AEv.cd (.tmp rfl)).le (Le_own hq2)) (AEvs.cons (AEv.cd (.tmp rfl)) AEvs.nil)) (slices_ContainsI_ok (ps ++ l.take i) (l.getD i 0) (by simp; omega)))) <|
     .cons rfl (Q_p rfl (S_and rfl (.tmp rfl) (fun hp42 => (AEv.cd (.tmp rfl))))) <|
     .nil) ?_
   refine AC_cond (.tmp rfl) (fun hb43 => ?_) (fun hb43 => ?_)
   ·try simp only [zA,zO,zN,zM,zP,zQ,zD,zF,gd] at hb43
    have hk : (withinE (atT portsN (i : Int)) (l.getD i 0) 1 65535).isNone = true ∧ l.getD i 0 ∈ (ps ++ l.take i) := ⟨hb43.1, by simpa using hb43.2⟩
    refine AC_region ?_
    refine mv rfl rfl rfl rfl ?_
    refine p_ (S_pcall rfl (AEvs.cons (AEv.S _) (AEvs.cons (.tmp rfl) AEvs.nil)) (spec_at_ok portsN (by decide) (i : Int) hif)) ?_
    refine p_ (S_buildSlice (e := 9) 1 rfl (AEvs.cons (.tmp rfl) AEvs.nil) rfl (by kernel_rfl) (by kernel_rfl) (by simp [AV.flat, AV.one, AV.cells, Value.oneCell']) (by decide) (by decide) (by decide)) ?_
    refine p_ (S_pcall rfl (AEvs.cons (AEv.const _) (AEvs.cons (.tmp rfl) AEvs.nil)) (fail_New_ok 150 [(atT portsN (i : Int))] (by simp))) ?_
    refine as_ rfl rfl rfl rfl ?_
    refine AL_nil ?_
    exact ⟨(), trivial, rfl, (.cons rfl (Le.refl _) (.cons rfl (Le.refl _) (.cons rfl (Le.of_eq (by rw [portAt, if_pos hk]; rfl)) (.cons rfl (Le.refl _) .nil))))⟩
   try simp only [zA,zO,zN,zM,zP,zQ,zD,zF,gd] at hb43
   have hk : ¬ ((withinE (atT portsN (i : Int)) (l.getD i 0) 1 65535).isNone = true ∧ l.getD i 0 ∈ (ps ++ l.take i)) := fun ⟨h1, h2⟩ => by
    rcases hb43 with h | h
    ·rw [h1] at h; cases h
    ·first | exact h h2 | (simp at h; exact h h2)
   refine AC_skip ?_
   exact ⟨(), trivial, rfl, (.cons rfl (Le.refl _) (.cons rfl (Le.refl _) (.cons rfl (Le.of_eq (by rw [portAt, if_neg hk])) (.cons rfl (Le.refl _) .nil))))⟩
  rintro _ _
  try dsimp only
  refine AC_plan (σ := [(0, 0), (1, 0), (2, 0), (3, 0), (4, 0), (5, 0), (6, 0), (7, 0), (8, 0), (9, 0), (10, 1), (11, 0), (12, 0), (13, 2)]) (by kernel_rfl) [(b, Ob.cells [ownAV p 1 (strsV ns), ownAV q2 1 (intsV (ps ++ l.take i))])] (by kernel_rfl) (fun r hr => List.mem_append_left (ownSt p 9 1 (strsV ns) ++ (ownSt q2 3 1 (intsV (ps ++ l.take i)) ++ F)) hr) ?_
  refine AG.f rfl rfl (fun st' hst => Q_p rfl (S_move rfl (.tmp rfl))) ?_
  refine AG.f rfl rfl (fun st' hst => Q_p rfl (S_move rfl (.tmp rfl))) ?_
  refine AG.f rfl rfl (fun st' hst => Q_p rfl (S_nilCheck rfl (.tmp rfl))) ?_
  refine AG.f rfl rfl (fun st' hst => Q_p rfl (S_field 1 rfl (.tmp rfl) (by kernel_rfl))) ?_
  refine AG.f rfl rfl (fun st' hst => Q_p rfl (S_loadM rfl (.tmp rfl) (hst _ (List.mem_of_getElem? (i := 0) rfl)) rfl (by kernel_rfl))) ?_
  refine AG.f rfl rfl (fun st' hst => Q_p rfl (S_move rfl (.tmp rfl))) ?_
  refine AG.f rfl rfl (fun st' hst => Q_p rfl (S_move rfl (.tmp rfl))) ?_
  refine AG.f rfl rfl (fun st' hst => Q_p rfl (S_elem (e := 3) (c := .int .i64 (l.getD i 0)) (i := (i : Int)) 1 rfl (.tmp rfl) (.tmp rfl) (by kernel_rfl) (by kernel_rfl) (by omega) (by simp [intsV, hil]) rfl)) ?_
  refine AG.f rfl rfl (fun st' hst => Q_p rfl (S_loadP rfl (.tmp rfl) rfl (by kernel_rfl))) ?_
  refine AG.f rfl rfl (fun st' hst => Q_p rfl (S_buildSlice (e := 3) 1 rfl (AEvs.cons (.tmp rfl) AEvs.nil) rfl (by kernel_rfl) (by kernel_rfl) (by simp [AV.flat, AV.one, AV.cells, Value.oneCell']) (by decide) (by decide) (by decide))) ?_
  refine AG.s rfl rfl rfl (S_appendOwn (e := 3) (size := 1) (bytes := 8) (p := q2) (xs := intsV (ps ++ l.take i)) ((b, _) :: ownSt p 9 1 (strsV ns)) F rfl (.tmp rfl) (.tmp rfl) rfl hq2 (by kernel_rfl) (by simp) (fun x hx => by obtain ⟨r, _, rfl⟩ := List.mem_map.1 hx; rfl) (by simp [AV.cells, AV.one, Value.oneCell']) (by simp only [List.length_singleton]; omega) (by simp only [List.length_singleton]; omega)) ?_ ?_
  ·rintro _ _ ⟨b8, k8, cap8, hx, rfl, rfl⟩ r hr; exact List.mem_append_left _ (List.mem_append_left _ hr)
  rintro _ _ ⟨b8, k8, cap8, hx, rfl, rfl⟩
  refine AG.f rfl rfl (fun st' hst => Q_p rfl (S_nilCheck rfl (.tmp rfl))) ?_
  refine AG.f rfl rfl (fun st' hst => Q_p rfl (S_field 1 rfl (.tmp rfl) (by kernel_rfl))) ?_
  refine AG.h rfl rfl rfl (S_store 0 rfl (.tmp rfl) (.tmp rfl) rfl (by first | exact Nat.le_of_ble_eq_true rfl | simp) (by first | rfl | exact ownAV_one _ _ _) (by kernel_rfl)) ?_
  rintro _ _ ⟨rfl, rfl⟩
  refine AG.nil ?_
  refine AC_region ?_
  refine mv rfl rfl rfl rfl ?_
  refine p_ (S_addI rfl (.tmp rfl) (AEv.const _) (by omega) (by omega)) ?_
  refine as_ rfl rfl rfl rfl ?_
  refine AL_nil ?_
  have hsn : intsV (ps ++ l.take (i + 1)) = intsV (ps ++ l.take i) ++ [AV.int .i64 (l.getD i 0)] := by
   have hg : l.getD i 0 = l[i] := by rw [List.getD_eq_getElem?_getD, List.getElem?_eq_getElem hil]; rfl
   rw [List.take_succ_eq_append_getElem hil, ← List.append_assoc, hg]
   unfold intsV
   rw [List.map_append]
   rfl
  refine ⟨(i + 1, portAt ps l i, .row b8 k8 cap8), ⟨by dsimp only; omega, fun h => ⟨hn0.1, fun j hj => ?_⟩, fun h => ?_, by dsimp only; rw [hsn]; exact hx⟩, by dsimp only; omega, by dsimp only; rw [hsn]; exact Sub.l (List.Sublist.refl _), (.cons rfl (Le.refl _) (.cons rfl (Le.refl _) (.cons rfl (Le.refl _) (.cons rfl (Le.of_eq (by dsimp only; rw [Int.natCast_add]; rfl)) .nil))))⟩
  ·rcases Nat.lt_or_ge j i with h' | h'
   ·exact hn0.2 j h'
   ·rw [show j = i by omega]; exact h
  ·dsimp only at h ⊢
   cases hxx : portAt ps l i with
   | none => exact absurd hxx h
   | some x => rw [portE_good hn0.1, eachE_at hil hxx hn0.2]
 try simp only [zA,zO,zN,zM,zP,zQ,zD,zF,gd] at hb14
 have hend : e = portE ps l n ∧ (portE ps l n = none → i = l.length) := by
  cases he : e with
  | some x => exact ⟨by rw [← he]; exact hyes (by rw [he]; exact fun h => by cases h), fun h => by have := hyes (by rw [he]; exact fun h => by cases h); rw [he, h] at this; cases this⟩
  | none =>
   have h0 := hno he
   rw [he] at hb14
   have hge : l.length ≤ i := by
    rcases hb14 with h | h
    ·cases h
    ·omega
   exact ⟨by rw [portE_good h0.1, eachE_all fun j hj => h0.2 j (by omega)], fun _ => by omega⟩
 refine AC_exit ?_
 refine AC_seq (AC_region ?_)
 refine mv rfl rfl rfl rfl ?_
 refine as_ rfl rfl rfl rfl ?_
 refine AL_nil (AC_ret ?_)
 refine ret_tmp ((b, Ob.cells [ownAV p 1 (strsV ns), ownAV q2 1 (intsV (ps ++ l.take i))]) :: (ownSt p 9 1 (strsV ns) ++ (ownSt q2 3 1 (intsV (ps ++ l.take i)) ++ F))) rfl rfl (Sub.l (List.Sublist.refl _)) (Conv.refl (Sub.l (List.Sublist.refl _)) _) ⟨q2, i, hi, hend.2, hq2, by rw [hend.1], rfl⟩ (.inl rfl)
end Go.Proofs.YtfdcadnaginnpaaGreatDoor

set_option maxRecDepth 100000
namespace Go.Proofs.YtfdcadnaginnpaaGreatDoor
open Go.AL Go.NumSpec
theorem book_lightContainers_ok (l : List Ctr) (hl : l.length ≤ 1000) : PCalls Tryz.prog 25 [.sl (ctrsV l)] (.bool (l.all lightC)) := by
 intro st
 refine co 35 Tryz.func25 ?_
 have hll : (ctrsV l).length = l.length := by simp [ctrsV]
 refine AC_seq (AC_region ?_)
 refine ac rfl rfl rfl ?_
 refine AL_nil ?_
 refine AC_seq ?_
 refine AC_seq (AC_region ?_)
 refine ac rfl rfl rfl ?_
 refine AL_nil ?_
 refine AC_block ?_
 refine AC_loop (G := Nat) (fun i => i ≤ l.length ∧ (l.take i).all lightC = true) (fun i => [(0, .sl (ctrsV l)), (3, .int .i64 (i : Int))]) (fun i => st) (fun i => l.length - i) (0) (⟨Nat.zero_le _, by simp⟩) rfl ?_ ?_
 ·exact .cons rfl (Le.refl _) (.cons rfl (Le.refl _) .nil)
 rintro i ⟨hi, hall⟩
 try dsimp only
 refine AC_seq ?_
 refine AC_seq (AC_region ?_)
 refine mv rfl rfl rfl rfl ?_
 refine mv rfl rfl rfl rfl ?_
 refine p_ (S_len (e := 52) rfl (.tmp rfl) (by kernel_rfl)) ?_
 refine p_ (S_lss rfl (.tmp rfl) (.tmp rfl)) ?_
 refine AL_nil ?_
 refine AC_cond (.tmp rfl) (fun hb1 => ?_) (fun hb1 => ?_)
 ·try simp only [zA,zO,zN,zM,zP,zQ,zD,zF,gd] at hb1
  have hil : i < l.length := by omega
  have hpl := intsV_len (l[i]'hil).ports
  refine AC_skip ?_
  refine AC_seq ?_
  refine AC_block ?_
  refine AC_seq (AC_region ?_)
  refine mv rfl rfl rfl rfl ?_
  refine mv rfl rfl rfl rfl ?_
  refine p_ (S_elem (e := 52) (c := ctrAV (l[i]'hil)) (i := (i : Int)) 11 rfl (.tmp rfl) (.tmp rfl) (by kernel_rfl) (by kernel_rfl) (by omega) (by simp [ctrsV, hil]) rfl) ?_
  refine p_ (S_fieldP 0 rfl (.tmp rfl) (by kernel_rfl)) ?_
  refine p_ (S_loadP rfl (.tmp rfl) rfl (by kernel_rfl)) ?_
  refine p_ (S_lenS (ts := #[]) rfl (.tmp rfl) (by kernel_rfl)) ?_
  refine p_ (S_gtr rfl (.tmp rfl) (AEv.const _)) ?_
  refine mv rfl rfl rfl rfl ?_
  refine g_ (fun _ => mA) ?_
  refine g_ (fun _ => mA) ?_
  refine g_ (fun _ => S_elem (e := 52) (c := ctrAV (l[i]'hil)) (i := (i : Int)) 11 rfl (AEv.cd (.tmp rfl)) (AEv.cd (.tmp rfl)) (by kernel_rfl) (by kernel_rfl) (by omega) (by simp [ctrsV, hil]) rfl) ?_
  refine g_ (fun _ => S_fieldP 1 rfl (AEv.cd (.tmp rfl)) (by kernel_rfl)) ?_
  refine g_ (fun _ => S_loadP rfl (AEv.cd (.tmp rfl)) rfl (by kernel_rfl)) ?_
  refine g_ (fun _ => S_lenS (ts := #[]) rfl (AEv.cd (.tmp rfl)) (by kernel_rfl)) ?_
  refine g_ (fun _ => S_gtr rfl (AEv.cd (.tmp rfl)) (AEv.const _)) ?_
  refine p_ (S_or rfl (.tmp rfl) (fun hp23 => (AEv.cd (.tmp rfl)))) ?_
  refine mv rfl rfl rfl rfl ?_
  refine g_ (fun _ => mA) ?_
  refine g_ (fun _ => mA) ?_
  refine g_ (fun _ => S_elem (e := 52) (c := ctrAV (l[i]'hil)) (i := (i : Int)) 11 rfl (AEv.cd (.tmp rfl)) (AEv.cd (.tmp rfl)) (by kernel_rfl) (by kernel_rfl) (by omega) (by simp [ctrsV, hil]) rfl) ?_
  refine g_ (fun _ => S_fieldP 8 rfl (AEv.cd (.tmp rfl)) (by kernel_rfl)) ?_
  refine g_ (fun _ => S_loadP rfl (AEv.cd (.tmp rfl)) rfl (by kernel_rfl)) ?_
  refine g_ (fun _ => S_len (e := 3) rfl (AEv.cd (.tmp rfl)) (by kernel_rfl)) ?_
  refine g_ (fun _ => S_gtr rfl (AEv.cd (.tmp rfl)) (AEv.const _)) ?_
  refine p_ (S_or rfl (.tmp rfl) (fun hp45 => (AEv.cd (.tmp rfl)))) ?_
  refine AL_nil ?_
  refine AC_cond (.tmp rfl) (fun hb46 => ?_) (fun hb46 => ?_)
  ·try simp only [zA,zO,zN,zM,zP,zQ,zD,zF,gd] at hb46
   have hc : lightC (l[i]'hil) = false := by unfold lightC; rw [decide_eq_false_iff_not]; omega
   have hf : l.all lightC = false := List.all_eq_false.2 ⟨_, List.getElem_mem hil, by rw [hc]; simp⟩
   refine AC_seq (AC_region ?_)
   refine ac rfl rfl rfl ?_
   refine AL_nil (AC_ret ?_)
   refine ret_tmp st rfl rfl (Sub.l (List.Sublist.refl _)) (Conv.refl (Sub.l (List.Sublist.refl _)) _) ⟨by rw [hf], rfl⟩ (.inl rfl)
  try simp only [zA,zO,zN,zM,zP,zQ,zD,zF,gd] at hb46
  have hc : lightC (l[i]'hil) = true := by unfold lightC; rw [decide_eq_true_eq]; omega
  refine AC_skip ?_
  refine AC_region ?_
  refine mv rfl rfl rfl rfl ?_
  refine p_ (S_addI rfl (.tmp rfl) (AEv.const _) (by omega) (by omega)) ?_
  refine as_ rfl rfl rfl rfl ?_
  refine AL_nil ?_
  refine ⟨i + 1, ⟨by omega, by rw [List.take_succ_eq_append_getElem hil, List.all_append, hall]; simp [hc]⟩, by omega, rfl, .cons rfl (Le.refl _) (.cons rfl (Le.of_eq (by rw [Int.natCast_add]; rfl)) .nil)⟩
 try simp only [zA,zO,zN,zM,zP,zQ,zD,zF,gd] at hb1
 have ht : l.all lightC = true := by rw [List.take_of_length_le (by omega)] at hall; exact hall
 refine AC_exit ?_
 refine AC_seq (AC_region ?_)
 refine ac rfl rfl rfl ?_
 refine AL_nil (AC_ret ?_)
 refine ret_tmp st rfl rfl (Sub.l (List.Sublist.refl _)) (Conv.refl (Sub.l (List.Sublist.refl _)) _) ⟨by rw [ht], rfl⟩ (.inl rfl)
theorem book_LightSpec_ok (s : Spc) : PCalls Tryz.prog 7 [spcAV s] (.bool (lightS s)) := by
 intro st
 refine co 61 Tryz.func7 ?_
 have h1 : (labsV s.labels).length = s.labels.length := by simp [labsV]
 have h2 : (ctrsV s.init).length = s.init.length := by simp [ctrsV]
 have h3 : (ctrsV s.main).length = s.main.length := by simp [ctrsV]
 refine AC_seq (AC_region ?_)
 refine s_ (S_box rfl (.tmp rfl)) ?_
 rintro _ _ ⟨b1, rfl, rfl⟩
 refine ac rfl rfl rfl ?_
 refine AL_nil (AC_seq (AC_region ?_))
 refine fl 0 ?_
 refine ld 0 ?_
 refine p_ (S_lenS (ts := #[]) rfl (.tmp rfl) (by kernel_rfl)) ?_
 refine as_ rfl rfl rfl rfl ?_
 refine AL_nil ?_
 refine AC_seq ?_
 refine AC_seq (AC_region ?_)
 refine mv rfl rfl rfl rfl ?_
 refine p_ (S_gtr rfl (.tmp rfl) (AEv.const _)) ?_
 refine mv rfl rfl rfl rfl ?_
 refine g_ (fun _ => fA 1) ?_
 refine g_ (fun _ => lA 0) ?_
 refine g_ (fun _ => S_len (e := 56) rfl (AEv.cd (.tmp rfl)) (by kernel_rfl)) ?_
 refine g_ (fun _ => S_gtr rfl (AEv.cd (.tmp rfl)) (AEv.const _)) ?_
 refine p_ (S_or rfl (.tmp rfl) (fun hp14 => (AEv.cd (.tmp rfl)))) ?_
 refine mv rfl rfl rfl rfl ?_
 refine g_ (fun _ => fA 2) ?_
 refine g_ (fun _ => lA 0) ?_
 refine g_ (fun _ => S_len (e := 52) rfl (AEv.cd (.tmp rfl)) (by kernel_rfl)) ?_
 refine g_ (fun _ => S_gtr rfl (AEv.cd (.tmp rfl)) (AEv.const _)) ?_
 refine p_ (S_or rfl (.tmp rfl) (fun hp27 => (AEv.cd (.tmp rfl)))) ?_
 refine mv rfl rfl rfl rfl ?_
 refine g_ (fun _ => fA 3) ?_
 refine g_ (fun _ => lA 0) ?_
 refine g_ (fun _ => S_len (e := 52) rfl (AEv.cd (.tmp rfl)) (by kernel_rfl)) ?_
 refine g_ (fun _ => S_gtr rfl (AEv.cd (.tmp rfl)) (AEv.const _)) ?_
 refine p_ (S_or rfl (.tmp rfl) (fun hp40 => (AEv.cd (.tmp rfl)))) ?_
 refine AL_nil ?_
 refine AC_cond (.tmp rfl) (fun hb41 => ?_) (fun hb41 => ?_)
 ·try simp only [zA,zO,zN,zM,zP,zQ,zD,zF,gd] at hb41
  have hf : lightS s = false := by
   unfold lightS
   rw [show decide (s.name.length ≤ 100 ∧ s.labels.length ≤ 10 ∧ s.init.length ≤ 8 ∧ s.main.length ≤ 8) = false from decide_eq_false (by omega)]
   rfl
  refine AC_seq (AC_region ?_)
  refine ac rfl rfl rfl ?_
  refine AL_nil (AC_ret ?_)
  refine ret_tmp st rfl rfl (Sub.l (List.Sublist.cons _ (List.Sublist.refl _))) (Conv.refl (Sub.l (List.Sublist.cons _ (List.Sublist.refl _))) _) ⟨by rw [hf], rfl⟩ (.inl rfl)
 try simp only [zA,zO,zN,zM,zP,zQ,zD,zF,gd] at hb41
 have hb : s.name.length ≤ 100 ∧ s.labels.length ≤ 10 ∧ s.init.length ≤ 8 ∧ s.main.length ≤ 8 := by omega
 refine AC_skip ?_
 refine AC_seq ?_
 refine AC_seq (AC_region ?_)
 refine ac rfl rfl rfl ?_
 refine AL_nil ?_
 refine AC_block ?_
 refine AC_loop (G := Nat) (fun i => i ≤ s.labels.length ∧ (s.labels.take i).all lightL = true) (fun i => [(1, .ptr b1 0), (4, .int .i64 (i : Int))]) (fun i => (b1, .cells (spcL s)) :: st) (fun i => s.labels.length - i) (0) (⟨Nat.zero_le _, by simp⟩) rfl ?_ ?_
 ·exact .cons rfl (Le.refl _) (.cons rfl (Le.refl _) .nil)
 rintro i ⟨hi, hall⟩
 try dsimp only
 refine AC_seq ?_
 refine AC_seq (AC_region ?_)
 refine mv rfl rfl rfl rfl ?_
 refine fl 1 ?_
 refine ld 0 ?_
 refine p_ (S_len (e := 56) rfl (.tmp rfl) (by kernel_rfl)) ?_
 refine p_ (S_lss rfl (.tmp rfl) (.tmp rfl)) ?_
 refine AL_nil ?_
 refine AC_cond (.tmp rfl) (fun hb42 => ?_) (fun hb42 => ?_)
 ·try simp only [zA,zO,zN,zM,zP,zQ,zD,zF,gd] at hb42
  have hil : i < s.labels.length := by omega
  refine AC_skip ?_
  refine AC_seq ?_
  refine AC_block ?_
  refine AC_seq (AC_region ?_)
  refine fl 1 ?_
  refine ld 0 ?_
  refine mv rfl rfl rfl rfl ?_
  refine p_ (S_elem (e := 56) (c := labAV (s.labels[i]'hil)) (i := (i : Int)) 2 rfl (.tmp rfl) (.tmp rfl) (by kernel_rfl) (by kernel_rfl) (by omega) (by simp [labsV, hil]) rfl) ?_
  refine p_ (S_fieldP 0 rfl (.tmp rfl) (by kernel_rfl)) ?_
  refine p_ (S_loadP rfl (.tmp rfl) rfl (by kernel_rfl)) ?_
  refine p_ (S_lenS (ts := #[]) rfl (.tmp rfl) (by kernel_rfl)) ?_
  refine p_ (S_gtr rfl (.tmp rfl) (AEv.const _)) ?_
  refine mv rfl rfl rfl rfl ?_
  refine g_ (fun _ => fA 1) ?_
  refine g_ (fun _ => lA 0) ?_
  refine g_ (fun _ => mA) ?_
  refine g_ (fun _ => S_elem (e := 56) (c := labAV (s.labels[i]'hil)) (i := (i : Int)) 2 rfl (AEv.cd (.tmp rfl)) (AEv.cd (.tmp rfl)) (by kernel_rfl) (by kernel_rfl) (by omega) (by simp [labsV, hil]) rfl) ?_
  refine g_ (fun _ => S_fieldP 1 rfl (AEv.cd (.tmp rfl)) (by kernel_rfl)) ?_
  refine g_ (fun _ => S_loadP rfl (AEv.cd (.tmp rfl)) rfl (by kernel_rfl)) ?_
  refine g_ (fun _ => S_lenS (ts := #[]) rfl (AEv.cd (.tmp rfl)) (by kernel_rfl)) ?_
  refine g_ (fun _ => S_gtr rfl (AEv.cd (.tmp rfl)) (AEv.const _)) ?_
  refine p_ (S_or rfl (.tmp rfl) (fun hp67 => (AEv.cd (.tmp rfl)))) ?_
  refine AL_nil ?_
  refine AC_cond (.tmp rfl) (fun hb68 => ?_) (fun hb68 => ?_)
  ·try simp only [zA,zO,zN,zM,zP,zQ,zD,zF,gd] at hb68
   have hc : lightL (s.labels[i]'hil) = false := by unfold lightL; rw [decide_eq_false_iff_not]; omega
   have hf : lightS s = false := by
    unfold lightS
    rw [show s.labels.all lightL = false from List.all_eq_false.2 ⟨_, List.getElem_mem hil, by rw [hc]; simp⟩]
    simp
   refine AC_seq (AC_region ?_)
   refine ac rfl rfl rfl ?_
   refine AL_nil (AC_ret ?_)
   refine ret_tmp st rfl rfl (Sub.l (List.Sublist.cons _ (List.Sublist.refl _))) (Conv.refl (Sub.l (List.Sublist.cons _ (List.Sublist.refl _))) _) ⟨by rw [hf], rfl⟩ (.inl rfl)
  try simp only [zA,zO,zN,zM,zP,zQ,zD,zF,gd] at hb68
  have hc : lightL (s.labels[i]'hil) = true := by unfold lightL; rw [decide_eq_true_eq]; omega
  refine AC_skip ?_
  refine AC_region ?_
  refine mv rfl rfl rfl rfl ?_
  refine p_ (S_addI rfl (.tmp rfl) (AEv.const _) (by omega) (by omega)) ?_
  refine as_ rfl rfl rfl rfl ?_
  refine AL_nil ?_
  refine ⟨i + 1, ⟨by omega, by rw [List.take_succ_eq_append_getElem hil, List.all_append, hall]; simp [hc]⟩, by omega, rfl, .cons rfl (Le.refl _) (.cons rfl (Le.of_eq (by rw [Int.natCast_add]; rfl)) .nil)⟩
 try simp only [zA,zO,zN,zM,zP,zQ,zD,zF,gd] at hb42
 have ht : lightS s = (s.init.all lightC && s.main.all lightC) := by
  rw [List.take_of_length_le (by omega)] at hall
  unfold lightS
  rw [decide_eq_true hb, hall]
  simp
 refine AC_exit ?_
 refine AC_seq (AC_region ?_)
 refine fl 2 ?_
 refine ld 0 ?_
 refine p_ (S_pcall rfl (AEvs.cons (.tmp rfl) AEvs.nil) (book_lightContainers_ok s.init (by omega))) ?_
 refine mv rfl rfl rfl rfl ?_
 refine g_ (fun _ => fA 3) ?_
 refine g_ (fun _ => lA 0) ?_
 refine g_ (fun _ => S_pcall rfl (AEvs.cons (AEv.cd (.tmp rfl)) AEvs.nil) (book_lightContainers_ok s.main (by omega))) ?_
 refine an ?_
 refine as_ rfl rfl rfl rfl ?_
 refine AL_nil (AC_ret ?_)
 refine ret_tmp st rfl rfl (Sub.l (List.Sublist.cons _ (List.Sublist.refl _))) (Conv.refl (Sub.l (List.Sublist.cons _ (List.Sublist.refl _))) _) ⟨by rw [ht], rfl⟩ (.inl rfl)
theorem seen_name_f (b : Nat) (p q : Own) (ns : List (List UInt8)) (ps : List Int) (hp : p.ok (strsV ns)) (hq : q.ok (intsV ps)) (hns : ns.length ≤ 1000) (c : Ctr) (F : St) (hG : ∀ r, r ∈ Gs tabs → r ∈ F) : ACalls Tryz.prog 80 [.ptr b 0, ctrAV c] (seenSt 9 3 b p q ns ps ++ F) fun x st' => ∃ foot', (∃ p' : Own, p'.ok (strsV (ns ++ [c.name])) ∧ x = erV 33 116 (nameE ns c.name) ∧ foot' = seenSt 9 3 b p' q (ns ++ [c.name]) ps) ∧ st' = foot' ++ F := by
 unfold seenSt
 simp only [List.cons_append, List.append_assoc]
 exact (seen_name_ok b p q ns ps hp hq hns c F hG).mono fun x st' ⟨p', h1, h2, h3⟩ => ⟨_, ⟨p', h1, h2, rfl⟩, by rw [h3]; simp only [List.cons_append, List.append_assoc]⟩
theorem seen_port_f (b : Nat) (p q : Own) (ns : List (List UInt8)) (ps : List Int) (hp : p.ok (strsV ns)) (hq : q.ok (intsV ps)) (hps : ps.length ≤ 1000) (l : List Int) (hl : l.length ≤ 1000) (n : Int) (F : St) : ACalls Tryz.prog 84 [.ptr b 0, .sl (intsV l), .int .i64 n] (seenSt 9 3 b p q ns ps ++ F) fun x st' => ∃ foot', (∃ (q' : Own) (m : Nat), m ≤ (l).length ∧ (portE ps (l) (n) = none → m = (l).length) ∧ q'.ok (intsV (ps ++ (l).take m)) ∧ x = erV 33 116 (portE ps (l) (n)) ∧ foot' = seenSt 9 3 b p q' ns (ps ++ (l).take m)) ∧ st' = foot' ++ F := by
 unfold seenSt
 simp only [List.cons_append, List.append_assoc]
 exact (seen_port_ok b p q ns ps hp hq hps l hl n F).mono fun x st' ⟨q', m, h1, h2, h3, h4, h5⟩ => ⟨_, ⟨q', m, h1, h2, h3, h4, rfl⟩, by rw [h5]; simp only [List.cons_append, List.append_assoc]⟩
theorem seen_container_ok (b : Nat) (p q : Own) (ns : List (List UInt8)) (ps : List Int) (hp : p.ok (strsV ns)) (hq : q.ok (intsV ps)) (hns : ns.length ≤ 1000) (hps : ps.length ≤ 1000) (c : Ctr) (himg : c.image.length ≤ 1000000) (hpo : c.ports.length ≤ 1000) (ports every : Int) (F : St) (hG : ∀ r, r ∈ Gs tabs → r ∈ F) : ACalls Tryz.prog 56 [.ptr b 0, ctrAV c, .int .i64 ports, .int .i64 every] (seenSt 9 3 b p q ns ps ++ F) (fun x st' => ∃ foot', (∃ (p' q' : Own) (m : Nat), m ≤ c.ports.length ∧ (portE ps c.ports ports = none → m = c.ports.length) ∧ p'.ok (strsV (ns ++ [c.name])) ∧ q'.ok (intsV (ps ++ c.ports.take m)) ∧ x = erV 33 116 (ctrE ns ps c ports every) ∧ foot' = seenSt 9 3 b p' q' (ns ++ [c.name]) (ps ++ c.ports.take m)) ∧ st' = foot' ++ F) := by
 refine co 36 Tryz.func56 ?_
 refine AC_seq (AC_region ?_)
 refine s_ (S_box rfl (.tmp rfl)) ?_
 rintro _ _ ⟨b1, rfl, rfl⟩
 refine ac rfl rfl rfl ?_
 refine AL_nil ?_
 refine AC_seq ?_
 refine AC_plan (σ := [(0, 0), (1, 0), (3, 0), (4, 0), (6, 0), (8, 0), (9, 0), (11, 0), (12, 0), (13, 0), (14, 0), (16, 0), (17, 0), (18, 0), (19, 0), (21, 0), (22, 0), (23, 0), (2, 1), (5, 0), (7, 0), (10, 0), (15, 0), (20, 1), (24, 0), (25, 0), (26, 0), (27, 0)]) (by kernel_rfl) ((b1, .cells (ctrL c)) :: Gs tabs) (by kernel_rfl) (fun r hr => by rcases List.mem_cons.1 hr with rfl | hr2; exact List.mem_cons_self; exact List.mem_cons_of_mem _ (List.mem_append_right _ (hG r hr2))) ?_
 refine AG.f rfl rfl (fun st' hst => Q_p rfl (S_move rfl (.tmp rfl))) ?_
 refine AG.f rfl rfl (fun st' hst => Q_p rfl (S_loadNM (m := 11) rfl (.tmp rfl) (hst _ (List.mem_of_getElem? (i := 0) rfl)) (by kernel_rfl) (by first | exact Nat.le_of_ble_eq_true rfl | (simp; omega) | simp))) ?_
 refine AG.f rfl rfl (fun st' hst => Q_p rfl (S_field 1 rfl (.tmp rfl) (by kernel_rfl))) ?_
 refine AG.f rfl rfl (fun st' hst => Q_p rfl (S_loadM rfl (.tmp rfl) (hst _ (List.mem_of_getElem? (i := 0) rfl)) rfl (by kernel_rfl))) ?_
 refine AG.f rfl rfl (fun st' hst => Q_p rfl (S_buildSlice (e := 9) 1 rfl (AEvs.cons (AEv.S _) AEvs.nil) rfl (by kernel_rfl) (by kernel_rfl) (by simp [AV.flat, AV.one, AV.cells, Value.oneCell']) (by decide) (by decide) (by decide))) ?_
 refine AG.f rfl rfl (fun st' hst => Q_p rfl (S_field 2 rfl (.tmp rfl) (by kernel_rfl))) ?_
 refine AG.f rfl rfl (fun st' hst => Q_p rfl (S_loadNM (m := 3) rfl (.tmp rfl) (hst _ (List.mem_of_getElem? (i := 0) rfl)) (by kernel_rfl) (by first | exact Nat.le_of_ble_eq_true rfl | (simp; omega) | simp))) ?_
 refine AG.f rfl rfl (fun st' hst => Q_p rfl (S_field 5 rfl (.tmp rfl) (by kernel_rfl))) ?_
 refine AG.f rfl rfl (fun st' hst => Q_p rfl (S_loadNM (m := 3) rfl (.tmp rfl) (hst _ (List.mem_of_getElem? (i := 0) rfl)) (by kernel_rfl) (by first | exact Nat.le_of_ble_eq_true rfl | (simp; omega) | simp))) ?_
 refine AG.f rfl rfl (fun st' hst => Q_p rfl (S_field 2 rfl (.tmp rfl) (by kernel_rfl))) ?_
 refine AG.f rfl rfl (fun st' hst => Q_p rfl (S_loadNM (m := 3) rfl (.tmp rfl) (hst _ (List.mem_of_getElem? (i := 0) rfl)) (by kernel_rfl) (by first | exact Nat.le_of_ble_eq_true rfl | (simp; omega) | simp))) ?_
 refine AG.f rfl rfl (fun st' hst => Q_p rfl (S_move rfl (.tmp rfl))) ?_
 refine AG.f rfl rfl (fun st' hst => Q_p rfl (S_field 8 rfl (.tmp rfl) (by kernel_rfl))) ?_
 refine AG.f rfl rfl (fun st' hst => Q_p rfl (S_loadM rfl (.tmp rfl) (hst _ (List.mem_of_getElem? (i := 0) rfl)) rfl (by kernel_rfl))) ?_
 refine AG.f rfl rfl (fun st' hst => Q_p rfl (S_move rfl (.tmp rfl))) ?_
 refine AG.f rfl rfl (fun st' hst => Q_p rfl (S_field 9 rfl (.tmp rfl) (by kernel_rfl))) ?_
 refine AG.f rfl rfl (fun st' hst => Q_p rfl (S_loadNM (m := 2) rfl (.tmp rfl) (hst _ (List.mem_of_getElem? (i := 0) rfl)) (by kernel_rfl) (by first | exact Nat.le_of_ble_eq_true rfl | (simp; omega) | simp))) ?_
 refine AG.f rfl rfl (fun st' hst => Q_p rfl (S_move rfl (.tmp rfl))) ?_
 refine AG.s rfl rfl rfl (S_call rfl (AEvs.cons (.tmp rfl) (AEvs.cons (y := ctrAV c) (.tmp rfl) AEvs.nil)) (ACalls.preP (G := fun F => ∀ r, r ∈ Gs tabs → r ∈ F) (fun pre F h r hr => List.mem_append_right _ (h r hr)) (foot := seenSt 9 3 b p q ns ps) (K := fun x foot' => ∃ p' : Own, p'.ok (strsV (ns ++ [c.name])) ∧ x = erV 33 116 (nameE ns c.name) ∧ foot' = seenSt 9 3 b p' q (ns ++ [c.name]) ps) (fun F hF => seen_name_f b p q ns ps hp hq hns c F hF) [(b1, Ob.cells (ctrL c))] F hG)) ?_ ?_
 ·rintro _ _ ⟨_, ⟨p2, hp2, rfl, rfl⟩, rfl⟩ r hr; exact (List.mem_cons.1 hr).elim (fun h => h ▸ List.mem_append_left _ List.mem_cons_self) (fun h => List.mem_append_right _ (List.mem_append_right _ (hG r h)))
 rintro _ _ ⟨_, ⟨p2, hp2, rfl, rfl⟩, rfl⟩
 refine AG.f rfl rfl (fun st' hst => Q_p rfl (S_gcall rfl (AEvs.cons (.tmp rfl) AEvs.nil) ((text_Image_ok c.image (by omega)) _ (fun r hr => hst r (List.mem_cons_of_mem _ hr))))) ?_
 refine AG.f rfl rfl (fun st' hst => Q_p rfl (S_pcall rfl (AEvs.cons (.tmp rfl) (AEvs.cons (.tmp rfl) AEvs.nil)) (fail_New_ok (saysV (tparts c.image).2.2 33) [[105, 109, 97, 103, 101]] (by simp)))) ?_
 refine AG.f rfl rfl (fun st' hst => Q_p rfl (S_pcall rfl (AEvs.cons (y := resAV c.req) (.tmp rfl) AEvs.nil) (spec_req_ok c.req))) ?_
 refine AG.f rfl rfl (fun st' hst => Q_p rfl (S_pcall rfl (AEvs.cons (y := resAV c.lim) (.tmp rfl) (AEvs.cons (y := resAV c.req) (.tmp rfl) AEvs.nil)) (spec_lim_ok c.lim c.req))) ?_
 refine AG.s rfl rfl rfl (S_call rfl (AEvs.cons (.tmp rfl) (AEvs.cons (.tmp rfl) (AEvs.cons (.tmp rfl) AEvs.nil))) (ACalls.pre (foot := seenSt 9 3 b p2 q (ns ++ [c.name]) ps) (K := fun x foot' => ∃ (q' : Own) (m : Nat), m ≤ (c.ports).length ∧ (portE ps (c.ports) (ports) = none → m = (c.ports).length) ∧ q'.ok (intsV (ps ++ (c.ports).take m)) ∧ x = erV 33 116 (portE ps (c.ports) (ports)) ∧ foot' = seenSt 9 3 b p2 q' (ns ++ [c.name]) (ps ++ (c.ports).take m)) (fun F => seen_port_f b p2 q (ns ++ [c.name]) ps hp2 hq hps c.ports hpo ports F) [(b1, Ob.cells (ctrL c))] F)) ?_ ?_
 ·rintro _ _ ⟨_, ⟨q2, m, hm, hm2, hq2, rfl, rfl⟩, rfl⟩ r hr; exact (List.mem_cons.1 hr).elim (fun h => h ▸ List.mem_append_left _ List.mem_cons_self) (fun h => List.mem_append_right _ (List.mem_append_right _ (hG r h)))
 rintro _ _ ⟨_, ⟨q2, m, hm, hm2, hq2, rfl, rfl⟩, rfl⟩
 refine AG.f rfl rfl (fun st' hst => Q_p rfl (S_pcall rfl (AEvs.cons (y := probeAV c.probe) (.tmp rfl) (AEvs.cons (.tmp rfl) AEvs.nil)) (spec_probe_ok c.probe every))) ?_
 refine AG.f rfl rfl (fun st' hst => Q_p rfl (S_buildSlice (e := 29) 1 rfl (AEvs.cons (.tmp rfl) (AEvs.cons (.tmp rfl) (AEvs.cons (.tmp rfl) (AEvs.cons (.tmp rfl) (AEvs.cons (.tmp rfl) (AEvs.cons (.tmp rfl) AEvs.nil)))))) rfl (by kernel_rfl) (by kernel_rfl) (by intro y hy; simp only [List.mem_cons, List.not_mem_nil, or_false] at hy; rcases hy with rfl | rfl | rfl | rfl | rfl | rfl <;> exact ⟨er_flat _ _ _, by rw [er_cells]; rfl⟩) (by decide) (by decide) (by decide))) ?_
 refine AG.f rfl rfl (fun st' hst => Q_p rfl (S_pcall rfl (AEvs.cons (.tmp rfl) AEvs.nil) (fail_First_ok [nameE ns c.name, erNew (saysV (tparts c.image).2.2 33) [[105, 109, 97, 103, 101]], reqE c.req, limE c.lim c.req, portE ps c.ports ports, probeE c.probe every] (by simp)))) ?_
 refine AG.f rfl rfl (fun st' hst => Q_p rfl (S_assign rfl (.tmp rfl))) ?_
 refine AG.nil ?_
 refine AC_ret ?_
 refine ret_tmp (seenSt 9 3 b p2 q2 (ns ++ [c.name]) (ps ++ c.ports.take m) ++ F) rfl rfl (Sub.l (List.Sublist.cons _ (List.Sublist.refl _))) (Conv.refl (Sub.l (List.Sublist.cons _ (List.Sublist.refl _))) _) ⟨_, ⟨p2, q2, m, hm, hm2, hp2, hq2, rfl, rfl⟩, rfl⟩ (.inl rfl)
theorem seen_containers_ok (b : Nat) (p q : Own) (name : List UInt8) (hn : name.length ≤ 1000000) (ns : List (List UInt8)) (ps : List Int) (hp : p.ok (strsV ns)) (hq : q.ok (intsV ps)) (hns : ns.length ≤ 100) (hps : ps.length ≤ 100) (l : List Ctr) (hl : l.length ≤ 8) (hc : ∀ c ∈ l, lightC c = true) (ports every : Int) (F : St) (hG : ∀ r, r ∈ Gs tabs → r ∈ F) : ACalls Tryz.prog 31 [.ptr b 0, .S name, .sl (ctrsV l), .int .i64 ports, .int .i64 every] (seenSt 9 3 b p q ns ps ++ F) (fun x st' => ∃ foot', (∃ (p' q' : Own) (ns' : List (List UInt8)) (ps' : List Int), p'.ok (strsV ns') ∧ q'.ok (intsV ps') ∧ (ctrsE name ns ps l ports every = none → ns' = namesTo ns l l.length ∧ ps' = portsTo ps l l.length) ∧ x = erV 33 116 (ctrsE name ns ps l ports every) ∧ foot' = seenSt 9 3 b p' q' ns' ps') ∧ st' = foot' ++ F) := by
 refine co 34 Tryz.func31 ?_
 have hll : (ctrsV l).length = l.length := by simp [ctrsV]
 have hpo : ∀ c ∈ l, c.ports.length ≤ 10 := fun c h => (of_decide_eq_true (hc c h)).2.2
 refine AC_seq (AC_region ?_)
 refine ac rfl rfl rfl ?_
 refine AL_nil ?_
 refine AC_seq ?_
 refine AC_seq (AC_region ?_)
 refine mv rfl rfl rfl rfl ?_
 refine p_ (S_len (e := 52) rfl (.tmp rfl) (by kernel_rfl)) ?_
 refine p_ (S_move rfl (AEv.const _)) ?_
 refine AL_nil ?_
 refine AC_block ?_
 refine AC_loopS (G := Nat × Own × Own) (fun g => g.1 ≤ l.length ∧ (∀ j, j < g.1 → ctrAt ns ps l ports every j = none) ∧ g.2.1.ok (strsV (namesTo ns l g.1)) ∧ g.2.2.ok (intsV (portsTo ps l g.1))) (fun g => [(0, .ptr b 0), (1, .S name), (3, .int .i64 ports), (4, .int .i64 every), (14, .sl (ctrsV l)), (15, .int .i64 ((ctrsV l).length : Int)), (16, .int .i64 (g.1 : Int))]) (fun g => (seenSt 9 3 b g.2.1 g.2.2 (namesTo ns l g.1) (portsTo ps l g.1) ++ F)) (fun g => l.length - g.1) ((0, p, q)) (⟨Nat.zero_le _, fun j hj => absurd hj (Nat.not_lt_zero _), by simpa [namesTo] using hp, by simpa [portsTo] using hq⟩) (by simp only [namesTo, portsTo, List.take_zero, List.map_nil, List.flatMap_nil, List.append_nil]; exact Sub.l (List.Sublist.refl _)) ?_ ?_
 ·exact (.cons rfl (Le.refl _) (.cons rfl (Le.refl _) (.cons rfl (Le.refl _) (.cons rfl (Le.refl _) (.cons rfl (Le.refl _) (.cons rfl (Le.refl _) (.cons rfl (Le.refl _) .nil)))))))
 rintro ⟨i, p1, q1⟩ ⟨hi, hno, hp1, hq1⟩
 try dsimp only
 dsimp only at hi hno hp1 hq1
 refine AC_seq (AC_region ?_)
 refine p_ (S_lss rfl (.tmp rfl) (.tmp rfl)) ?_
 refine AL_nil ?_
 refine AC_seq ?_
 refine AC_cond (.tmp rfl) (fun hb1 => ?_) (fun hb1 => ?_)
 ·try simp only [zA,zO,zN,zM,zP,zQ,zD,zF,gd] at hb1
  have hil : i < l.length := by omega
  have hif : fits (i : Int) := by unfold fits; omega
  have hb1 := namesTo_le (i := i) hl hns
  have hb2 := portsTo_le (i := i) hpo hl hps
  obtain ⟨k1, k2, k3⟩ := of_decide_eq_true (hc _ (List.getElem_mem hil))
  refine AC_skip ?_
  refine AC_seq ?_
  refine AC_block ?_
  refine AC_seq (AC_region ?_)
  refine mv rfl rfl rfl rfl ?_
  refine p_ (S_elem (e := 52) (c := ctrAV (l[i]'hil)) (i := (i : Int)) 11 rfl (.tmp rfl) (.tmp rfl) (by kernel_rfl) (by kernel_rfl) (by omega) (by simp [ctrsV, hil]) rfl) ?_
  refine p_ (S_loadPN (m := 11) rfl (.tmp rfl) (by kernel_rfl) (by first | exact Nat.le_of_ble_eq_true rfl | (simp; omega) | simp)) ?_
  refine s_ (S_alloc [.string ⟨#[]⟩, .string ⟨#[]⟩, .int .i64 0, .int .i64 0, .int .i64 0, .int .i64 0, .int .i64 0, .int .i64 0, .slice none 0 0, .int .i64 0, .int .i64 0] rfl (by kernel_rfl)) ?_
  rintro _ _ ⟨b2, rfl, rfl⟩
  refine as_ rfl rfl rfl rfl ?_
  refine stN 0 ?_
  refine AL_nil (AC_seq (AC_region ?_))
  refine mv rfl rfl rfl rfl ?_
  refine ldN 11 0 ?_
  refine mv rfl rfl rfl rfl ?_
  refine mv rfl rfl rfl rfl ?_
  refine s_ (S_call rfl (AEvs.cons (.tmp rfl) (AEvs.cons (y := ctrAV (l[i]'hil)) (.tmp rfl) (AEvs.cons (.tmp rfl) (AEvs.cons (.tmp rfl) AEvs.nil)))) (ACalls.preP (G := fun F => ∀ r, r ∈ Gs tabs → r ∈ F) (fun pre F h r hr => List.mem_append_right _ (h r hr)) (foot := seenSt 9 3 b p1 q1 (namesTo ns l i) (portsTo ps l i)) (K := fun x foot' => ∃ (p' q' : Own) (m : Nat), m ≤ ((l[i]'hil)).ports.length ∧ (portE (portsTo ps l i) ((l[i]'hil)).ports ports = none → m = ((l[i]'hil)).ports.length) ∧ p'.ok (strsV ((namesTo ns l i) ++ [((l[i]'hil)).name])) ∧ q'.ok (intsV ((portsTo ps l i) ++ ((l[i]'hil)).ports.take m)) ∧ x = erV 33 116 (ctrE (namesTo ns l i) (portsTo ps l i) (l[i]'hil) ports every) ∧ foot' = seenSt 9 3 b p' q' ((namesTo ns l i) ++ [((l[i]'hil)).name]) ((portsTo ps l i) ++ ((l[i]'hil)).ports.take m)) (fun F hF => seen_container_ok b p1 q1 (namesTo ns l i) (portsTo ps l i) hp1 hq1 (by omega) (by omega) (l[i]'hil) (by omega) (by omega) ports every F hF) [(_, _)] F hG)) ?_
  rintro _ _ ⟨_, ⟨p2, q2, m, hm, hm2, hp2, hq2, rfl, rfl⟩, rfl⟩
  refine as_ rfl rfl rfl rfl ?_
  refine AL_nil (AC_seq (AC_region ?_))
  refine mv rfl rfl rfl rfl ?_
  refine p_ (S_neqE (er_is 33 116 (ctrE (namesTo ns l i) (portsTo ps l i) (l[i]'hil) ports every)) rfl (.tmp rfl) (by kernel_rfl)) ?_
  refine AL_nil ?_
  refine AC_cond (.tmp rfl) (fun hb3 => ?_) (fun hb3 => ?_)
  ·try simp only [zA,zO,zN,zM,zP,zQ,zD,zF,gd] at hb3
   obtain ⟨y, hy⟩ : ∃ y, (ctrE (namesTo ns l i) (portsTo ps l i) (l[i]'hil) ports every) = some y := by cases h : (ctrE (namesTo ns l i) (portsTo ps l i) (l[i]'hil) ports every) with | none => rw [h] at hb3; simp at hb3 | some y => exact ⟨y, rfl⟩
   have hend : ctrsE name ns ps l ports every = erIn (some y) (atT name (i : Int)) := eachE_at hil (by rw [ctrAt_at hil, hy]; rfl) (fun j hj => by rw [hno j hj]; rfl)
   refine AC_seq (AC_region ?_)
   refine mv rfl rfl rfl rfl ?_
   refine mv rfl rfl rfl rfl ?_
   refine mv rfl rfl rfl rfl ?_
   refine p_ (S_pcall rfl (AEvs.cons (.tmp rfl) (AEvs.cons (.tmp rfl) AEvs.nil)) (spec_at_ok name hn (i : Int) hif)) ?_
   refine p_ (S_pcall rfl (AEvs.cons (.tmp rfl) (AEvs.cons (.tmp rfl) AEvs.nil)) (fail_In_ok (ctrE (namesTo ns l i) (portsTo ps l i) (l[i]'hil) ports every) (atT name (i : Int)))) ?_
   refine as_ rfl rfl rfl rfl ?_
   refine AL_nil (AC_ret ?_)
   refine ret_tmp (seenSt 9 3 b p2 q2 ((namesTo ns l i) ++ [((l[i]'hil)).name]) ((portsTo ps l i) ++ ((l[i]'hil)).ports.take m) ++ F) rfl rfl (Sub.l (List.Sublist.cons _ (List.Sublist.refl _))) (Conv.refl (Sub.l (List.Sublist.cons _ (List.Sublist.refl _))) _) ⟨_, ⟨p2, q2, _, _, hp2, hq2, (fun h => by rw [hend] at h; cases h), by rw [hend, hy], rfl⟩, rfl⟩ (.inl rfl)
  try simp only [zA,zO,zN,zM,zP,zQ,zD,zF,gd] at hb3
  have hnone : (ctrE (namesTo ns l i) (portsTo ps l i) (l[i]'hil) ports every) = none := by cases h : (ctrE (namesTo ns l i) (portsTo ps l i) (l[i]'hil) ports every) with | none => rfl | some y => rw [h] at hb3; simp at hb3
  obtain rfl := hm2 (ctrE_port hnone)
  rw [List.take_length] at hq2 ⊢
  refine AC_skip ?_
  refine AC_region ?_
  refine p_ (S_addI rfl (.tmp rfl) (AEv.const _) (by omega) (by omega)) ?_
  refine mv rfl rfl rfl rfl ?_
  refine AL_nil ?_
  refine ⟨(i + 1, p2, q2), ⟨by dsimp only; omega, fun j hj => ?_, by dsimp only; rw [namesTo_next hil]; exact hp2, by dsimp only; rw [portsTo_next hil]; exact hq2⟩, by dsimp only; omega, by dsimp only; rw [namesTo_next hil, portsTo_next hil]; exact Sub.l (List.Sublist.cons _ (List.Sublist.refl _)), (.cons rfl (Le.refl _) (.cons rfl (Le.refl _) (.cons rfl (Le.refl _) (.cons rfl (Le.refl _) (.cons rfl (Le.refl _) (.cons rfl (Le.refl _) (.cons rfl (Le.of_eq (by dsimp only; rw [Int.natCast_add]; rfl)) .nil)))))))⟩
  rcases Nat.lt_or_ge j i with h' | h'
  ·exact hno j h'
  ·rw [show j = i by omega, ctrAt_at hil]; exact hnone
 try simp only [zA,zO,zN,zM,zP,zQ,zD,zF,gd] at hb1
 obtain rfl : i = l.length := by omega
 have hend : ctrsE name ns ps l ports every = none := eachE_all fun j hj => by rw [hno j hj]; rfl
 refine AC_exit ?_
 refine AC_seq (AC_region ?_)
 refine ac rfl rfl rfl ?_
 refine AL_nil (AC_ret ?_)
 refine ret_tmp (seenSt 9 3 b p1 q1 (namesTo ns l l.length) (portsTo ps l l.length) ++ F) rfl rfl (Sub.l (List.Sublist.refl _)) (Conv.refl (Sub.l (List.Sublist.refl _)) _) ⟨_, ⟨p1, q1, _, _, hp1, hq1, fun _ => ⟨rfl, rfl⟩, by rw [hend]; rfl, rfl⟩, rfl⟩ (.inl rfl)
theorem spec_Check_ok (s : Spc) (hs : lightS s = true) : GCalls Tryz.prog tabs 9 [spcAV s] (erV 33 116 (checkE s)) := by
 intro st hG
 refine co 52 Tryz.func9 ?_
 obtain ⟨h1, h2, h3, h4, h5, h6, h7⟩ := lightS_out hs
 refine AC_seq (AC_region ?_)
 refine s_ (S_box rfl (.tmp rfl)) ?_
 rintro _ _ ⟨b1, rfl, rfl⟩
 refine ac rfl rfl rfl ?_
 refine AL_nil ?_
 refine AC_seq ?_
 refine AC_draw (by kernel_rfl) (by kernel_rfl) (.cons rfl (Q_p rfl (S_field 0 rfl (.tmp rfl) (by kernel_rfl))) <|
   .cons rfl (Q_p rfl (S_load 0 rfl (.tmp rfl) rfl rfl (by kernel_rfl))) <|
   .cons rfl (Q_p rfl (S_gcall rfl (AEvs.cons (.tmp rfl) AEvs.nil) ((text_Name_ok s.name) _ (fun p hp => by first | exact hG p hp | (simp [hG p hp]; done))))) <|
   .cons rfl (Q_p rfl (S_buildSlice (e := 9) 1 rfl (AEvs.cons (AEv.S _) AEvs.nil) rfl (by kernel_rfl) (by kernel_rfl) (by intro y hy; simp only [List.mem_cons, List.not_mem_nil, or_false] at hy; rcases hy with rfl <;> exact ⟨rfl, rfl⟩) (by decide) (by decide) (by decide))) <|
   .cons rfl (Q_p rfl (S_pcall rfl (AEvs.cons (.tmp rfl) (AEvs.cons (.tmp rfl) AEvs.nil)) (fail_New_ok (saysV (nameV s.name) 30) [nameN] (by simp)))) <|
   .cons rfl (Q_p rfl (S_field 1 rfl (.tmp rfl) (by kernel_rfl))) <|
   .cons rfl (Q_p rfl (S_load 0 rfl (.tmp rfl) rfl rfl (by kernel_rfl))) <|
   .cons rfl (Q_p rfl (S_gcall rfl (AEvs.cons (AEv.S _) (AEvs.cons (.tmp rfl) AEvs.nil)) ((spec_Labels_ok labelsN (by decide) s.labels (by omega) h5) _ (fun p hp => by first | exact hG p hp | (simp [hG p hp]; done))))) <|
   .cons rfl (Q_p rfl (S_field 2 rfl (.tmp rfl) (by kernel_rfl))) <|
   .cons rfl (Q_p rfl (S_load 0 rfl (.tmp rfl) rfl rfl (by kernel_rfl))) <|
   .cons rfl (Q_p rfl (by first | exact S_lenM (e := 52) rfl (.tmp rfl) (by kernel_rfl) | exact S_len (e := 52) rfl (.tmp rfl) (by kernel_rfl))) <|
   .cons rfl (Q_p rfl (S_pcall rfl (AEvs.cons (AEv.S _) (AEvs.cons (.tmp rfl) (AEvs.cons (AEv.const _) (AEvs.cons (AEv.const _) AEvs.nil)))) (spec_atMost_ok initN (s.init.length : Int) 0 3))) <|
   .cons rfl (Q_p rfl (S_buildSlice (e := 29) 1 rfl (AEvs.cons (.tmp rfl) (AEvs.cons (.tmp rfl) (AEvs.cons (.tmp rfl) AEvs.nil))) rfl (by kernel_rfl) (by kernel_rfl) (by intro y hy; simp only [List.mem_cons, List.not_mem_nil, or_false] at hy; rcases hy with rfl | rfl | rfl <;> exact ⟨er_flat _ _ _, by rw [er_cells]; rfl⟩) (by decide) (by decide) (by decide))) <|
   .cons rfl (Q_p rfl (S_pcall rfl (AEvs.cons (.tmp rfl) AEvs.nil) (fail_First_ok (check1 s) (by simp)))) <|
   .cons rfl (Q_p rfl (S_assign rfl (.tmp rfl))) <|
   .nil) ?_
 refine AC_seq ?_
 refine AC_seq (AC_region ?_)
 refine mv rfl rfl rfl rfl ?_
 refine p_ (S_neqE (er_is 33 116 (firstE (check1 s))) rfl (.tmp rfl) (by kernel_rfl)) ?_
 refine AL_nil ?_
 refine AC_cond (.tmp rfl) (fun hb2 => ?_) (fun hb2 => ?_)
 ·try simp only [zA,zO,zN,zM,zP,zQ,zD,zF,gd] at hb2
  obtain ⟨x, hx⟩ : ∃ x, firstE (check1 s) = some x := by cases h : firstE (check1 s) with | none => rw [h] at hb2; simp at hb2 | some y => exact ⟨y, rfl⟩
  refine AC_seq (AC_region ?_)
  refine mv rfl rfl rfl rfl ?_
  refine as_ rfl rfl rfl rfl ?_
  refine AL_nil (AC_ret ?_)
  refine ret_tmp st rfl rfl (Sub.l (List.Sublist.cons _ (List.Sublist.refl _))) (Conv.refl (Sub.l (List.Sublist.cons _ (List.Sublist.refl _))) _) ⟨by rw [check_bad1 hx, hx], rfl⟩ (.inl rfl)
 try simp only [zA,zO,zN,zM,zP,zQ,zD,zF,gd] at hb2
 have hn1 : firstE (check1 s) = none := by cases h : firstE (check1 s) with | none => rfl | some y => rw [h] at hb2; simp at hb2
 refine AC_skip ?_
 refine AC_seq (AC_region ?_)
 refine p_ (S_build (t := 66) (pl := [(0, 1), (1, 1)]) (zs := [.slice none 0 0, .slice none 0 0]) rfl AEvs.nil (by kernel_rfl) rfl) ?_
 refine s_ (S_box rfl (.tmp rfl)) ?_
 rintro _ _ ⟨b3, rfl, rfl⟩
 refine as_ rfl rfl rfl rfl ?_
 refine AL_nil ?_
 refine AC_seq ?_
 have hB : ∀ r, r ∈ ((b1, Ob.cells (spcL s)) :: Gs tabs) → r ∈ ((b1, Ob.cells (spcL s)) :: st) := fun r hr => by
  rcases List.mem_cons.1 hr with rfl | h
  ·exact List.mem_cons_self
  ·exact List.mem_cons_of_mem _ (hG r h)
 have hG1 : ∀ r, r ∈ Gs tabs → r ∈ ((b1, Ob.cells (spcL s)) :: st) := fun r hr => List.mem_cons_of_mem _ (hG r hr)
 refine AC_plan (σ := [(0, 0), (1, 0), (2, 0), (4, 0), (5, 0), (6, 0), (3, 1), (7, 0), (8, 0), (9, 0), (10, 0)]) (by kernel_rfl) ((b1, Ob.cells (spcL s)) :: Gs tabs) (by kernel_rfl) (fun r hr => List.mem_cons_of_mem _ (hB r hr)) ?_
 refine AG.f rfl rfl (fun st' hst => Q_p rfl (S_move rfl (.tmp rfl))) ?_
 refine AG.f rfl rfl (fun st' hst => Q_p rfl (S_field 2 rfl (.tmp rfl) (by kernel_rfl))) ?_
 refine AG.f rfl rfl (fun st' hst => Q_p rfl (S_loadM rfl (.tmp rfl) (hst _ (List.mem_of_getElem? (i := 0) rfl)) rfl (by kernel_rfl))) ?_
 refine AG.f rfl rfl (fun st' hst => Q_p rfl (S_field 3 rfl (.tmp rfl) (by kernel_rfl))) ?_
 refine AG.f rfl rfl (fun st' hst => Q_p rfl (S_loadM rfl (.tmp rfl) (hst _ (List.mem_of_getElem? (i := 0) rfl)) rfl (by kernel_rfl))) ?_
 refine AG.f rfl rfl (fun st' hst => Q_p rfl (by first | exact S_lenM (e := 52) rfl (.tmp rfl) (by kernel_rfl) | exact S_len (e := 52) rfl (.tmp rfl) (by kernel_rfl))) ?_
 refine AG.s rfl rfl rfl (S_call (K := fun x st' => ∃ foot', (∃ (p' q' : Own) (ns' : List (List UInt8)) (ps' : List Int), p'.ok (strsV ns') ∧ q'.ok (intsV ps') ∧ (ctrsE initN [] [] s.init 0 0 = none → ns' = namesTo [] s.init (s.init).length ∧ ps' = portsTo [] s.init (s.init).length) ∧ x = erV 33 116 (ctrsE initN [] [] s.init 0 0) ∧ foot' = seenSt 9 3 b3 p' q' ns' ps') ∧ st' = foot' ++ ((b1, Ob.cells (spcL s)) :: st)) rfl (AEvs.cons (.tmp rfl) (AEvs.cons (AEv.S _) (AEvs.cons (.tmp rfl) (AEvs.cons (AEv.const _) (AEvs.cons (AEv.const _) AEvs.nil))))) (seen_containers_ok b3 .nil .nil initN (by decide) [] [] rfl rfl (by first | decide | omega) (by first | decide | omega) s.init (by omega) h6 0 0 ((b1, Ob.cells (spcL s)) :: st) hG1)) ?_ ?_
 ·rintro _ _ ⟨_, ⟨p2, q2, n2, m2, hp2, hq2, hn2, rfl, rfl⟩, rfl⟩ r hr; exact List.mem_append_right _ (hB r hr)
 rintro _ _ ⟨_, ⟨p2, q2, n2, m2, hp2, hq2, hn2, rfl, rfl⟩, rfl⟩
 refine AG.f rfl rfl (fun st' hst => Q_p rfl (S_pcall rfl (AEvs.cons (AEv.S _) (AEvs.cons (.tmp rfl) (AEvs.cons (AEv.const _) (AEvs.cons (AEv.const _) AEvs.nil)))) (spec_atMost_ok mainN (s.main.length : Int) 1 4))) ?_
 refine AG.f rfl rfl (fun st' hst => Q_p rfl (S_buildSlice (e := 29) 1 rfl (AEvs.cons (.tmp rfl) (AEvs.cons (.tmp rfl) AEvs.nil)) rfl (by kernel_rfl) (by kernel_rfl) (by intro y hy; simp only [List.mem_cons, List.not_mem_nil, or_false] at hy; rcases hy with rfl | rfl <;> exact ⟨er_flat _ _ _, by rw [er_cells]; rfl⟩) (by decide) (by decide) (by decide))) ?_
 refine AG.f rfl rfl (fun st' hst => Q_p rfl (S_pcall rfl (AEvs.cons (.tmp rfl) AEvs.nil) (fail_First_ok (check2 s) (by simp)))) ?_
 refine AG.f rfl rfl (fun st' hst => Q_p rfl (S_assign rfl (.tmp rfl))) ?_
 refine AG.nil ?_
 refine AC_seq ?_
 refine AC_seq (AC_region ?_)
 refine mv rfl rfl rfl rfl ?_
 refine p_ (S_neqE (er_is 33 116 (firstE (check2 s))) rfl (.tmp rfl) (by kernel_rfl)) ?_
 refine AL_nil ?_
 refine AC_cond (.tmp rfl) (fun hb4 => ?_) (fun hb4 => ?_)
 ·try simp only [zA,zO,zN,zM,zP,zQ,zD,zF,gd] at hb4
  obtain ⟨x, hx⟩ : ∃ x, firstE (check2 s) = some x := by cases h : firstE (check2 s) with | none => rw [h] at hb4; simp at hb4 | some y => exact ⟨y, rfl⟩
  refine AC_seq (AC_region ?_)
  refine mv rfl rfl rfl rfl ?_
  refine as_ rfl rfl rfl rfl ?_
  refine AL_nil (AC_ret ?_)
  refine ret_tmp st rfl rfl (Sub.l (List.sublist_append_of_sublist_right (List.Sublist.cons _ (List.Sublist.refl _)))) (Conv.refl (Sub.l (List.sublist_append_of_sublist_right (List.Sublist.cons _ (List.Sublist.refl _)))) _) ⟨by rw [check_bad2 hn1 hx, hx], rfl⟩ (.inl rfl)
 try simp only [zA,zO,zN,zM,zP,zQ,zD,zF,gd] at hb4
 have hn2_ : firstE (check2 s) = none := by cases h : firstE (check2 s) with | none => rfl | some y => rw [h] at hb4; simp at hb4
 obtain ⟨rfl, rfl⟩ := hn2 (firstE_none hn2_ _ List.mem_cons_self)
 obtain ⟨hb1, hb2⟩ := check_seen hn1 h6
 refine AC_skip ?_
 refine AC_seq ?_
 refine AC_plan (σ := [(0, 0), (1, 0), (2, 0), (4, 0), (5, 0), (7, 0), (8, 0), (10, 0), (11, 0), (3, 1), (6, 0), (9, 0), (12, 0), (13, 0), (14, 0), (15, 0)]) (by kernel_rfl) ((b1, Ob.cells (spcL s)) :: Gs tabs) (by kernel_rfl) (fun r hr => List.mem_append_right _ (hB r hr)) ?_
 refine AG.f rfl rfl (fun st' hst => Q_p rfl (S_move rfl (.tmp rfl))) ?_
 refine AG.f rfl rfl (fun st' hst => Q_p rfl (S_field 3 rfl (.tmp rfl) (by kernel_rfl))) ?_
 refine AG.f rfl rfl (fun st' hst => Q_p rfl (S_loadM rfl (.tmp rfl) (hst _ (List.mem_of_getElem? (i := 0) rfl)) rfl (by kernel_rfl))) ?_
 refine AG.f rfl rfl (fun st' hst => Q_p rfl (S_field 4 rfl (.tmp rfl) (by kernel_rfl))) ?_
 refine AG.f rfl rfl (fun st' hst => Q_p rfl (S_loadM rfl (.tmp rfl) (hst _ (List.mem_of_getElem? (i := 0) rfl)) rfl (by kernel_rfl))) ?_
 refine AG.f rfl rfl (fun st' hst => Q_p rfl (S_field 5 rfl (.tmp rfl) (by kernel_rfl))) ?_
 refine AG.f rfl rfl (fun st' hst => Q_p rfl (S_loadM rfl (.tmp rfl) (hst _ (List.mem_of_getElem? (i := 0) rfl)) rfl (by kernel_rfl))) ?_
 refine AG.f rfl rfl (fun st' hst => Q_p rfl (S_field 6 rfl (.tmp rfl) (by kernel_rfl))) ?_
 refine AG.f rfl rfl (fun st' hst => Q_p rfl (S_loadM rfl (.tmp rfl) (hst _ (List.mem_of_getElem? (i := 0) rfl)) rfl (by kernel_rfl))) ?_
 refine AG.s rfl rfl rfl (S_call (K := fun x st' => ∃ foot', (∃ (p' q' : Own) (ns' : List (List UInt8)) (ps' : List Int), p'.ok (strsV ns') ∧ q'.ok (intsV ps') ∧ (ctrsE mainN (namesTo [] s.init s.init.length) (portsTo [] s.init s.init.length) s.main 3 1000 = none → ns' = namesTo (namesTo [] s.init s.init.length) s.main (s.main).length ∧ ps' = portsTo (portsTo [] s.init s.init.length) s.main (s.main).length) ∧ x = erV 33 116 (ctrsE mainN (namesTo [] s.init s.init.length) (portsTo [] s.init s.init.length) s.main 3 1000) ∧ foot' = seenSt 9 3 b3 p' q' ns' ps') ∧ st' = foot' ++ ((b1, Ob.cells (spcL s)) :: st)) rfl (AEvs.cons (.tmp rfl) (AEvs.cons (AEv.S _) (AEvs.cons (.tmp rfl) (AEvs.cons (AEv.const _) (AEvs.cons (AEv.const _) AEvs.nil))))) (seen_containers_ok b3 p2 q2 mainN (by decide) (namesTo [] s.init s.init.length) (portsTo [] s.init s.init.length) hp2 hq2 (by first | decide | omega) (by first | decide | omega) s.main (by omega) h7 3 1000 ((b1, Ob.cells (spcL s)) :: st) hG1)) ?_ ?_
 ·rintro _ _ ⟨_, ⟨p2, q2, n2, m2, hp2, hq2, hn2, rfl, rfl⟩, rfl⟩ r hr; exact List.mem_append_right _ (hB r hr)
 rintro _ _ ⟨_, ⟨p2, q2, n2, m2, hp2, hq2, hn2, rfl, rfl⟩, rfl⟩
 refine AG.f rfl rfl (fun st' hst => Q_p rfl (S_pcall rfl (AEvs.cons (AEv.S _) (AEvs.cons (.tmp rfl) (AEvs.cons (AEv.const _) (AEvs.cons (AEv.const _) AEvs.nil)))) (spec_within_ok [114, 101, 115, 116, 97, 114, 116] s.restart 1 3))) ?_
 refine AG.f rfl rfl (fun st' hst => Q_p rfl (S_pcall rfl (AEvs.cons (AEv.S _) (AEvs.cons (.tmp rfl) (AEvs.cons (AEv.const _) (AEvs.cons (AEv.const _) AEvs.nil)))) (spec_within_ok [103, 114, 97, 99, 101] s.grace 0 1000))) ?_
 refine AG.f rfl rfl (fun st' hst => Q_p rfl (S_pcall rfl (AEvs.cons (AEv.S _) (AEvs.cons (.tmp rfl) (AEvs.cons (AEv.const _) (AEvs.cons (AEv.const _) AEvs.nil)))) (spec_within_ok [112, 114, 105, 111] s.prio 0 10))) ?_
 refine AG.f rfl rfl (fun st' hst => Q_p rfl (S_buildSlice (e := 29) 1 rfl (AEvs.cons (.tmp rfl) (AEvs.cons (.tmp rfl) (AEvs.cons (.tmp rfl) (AEvs.cons (.tmp rfl) AEvs.nil)))) rfl (by kernel_rfl) (by kernel_rfl) (by intro y hy; simp only [List.mem_cons, List.not_mem_nil, or_false] at hy; rcases hy with rfl | rfl | rfl | rfl <;> exact ⟨er_flat _ _ _, by rw [er_cells]; rfl⟩) (by decide) (by decide) (by decide))) ?_
 refine AG.f rfl rfl (fun st' hst => Q_p rfl (S_pcall rfl (AEvs.cons (.tmp rfl) AEvs.nil) (fail_First_ok (check3 s) (by simp)))) ?_
 refine AG.f rfl rfl (fun st' hst => Q_p rfl (S_assign rfl (.tmp rfl))) ?_
 refine AG.nil ?_
 refine AC_ret ?_
 refine ret_tmp st rfl rfl (Sub.l (List.sublist_append_of_sublist_right (List.Sublist.cons _ (List.Sublist.refl _)))) (Conv.refl (Sub.l (List.sublist_append_of_sublist_right (List.Sublist.cons _ (List.Sublist.refl _)))) _) ⟨by rw [check_good hn1 hn2_], rfl⟩ (.inl rfl)
end Go.Proofs.YtfdcadnaginnpaaGreatDoor
