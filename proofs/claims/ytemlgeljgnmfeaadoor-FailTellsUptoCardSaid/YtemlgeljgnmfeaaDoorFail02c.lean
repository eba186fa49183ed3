/-
The walks of Go functions in the logic AL: what each of them answers.
Conditions: those of each theorem.
-/
import Derived.Test.YtemlgeljgnmfeaaDoorFail02b
set_option linter.unusedVariables false
set_option linter.unusedSimpArgs false
namespace Go.Proofs.YtemlgeljgnmfeaaDoor
open Go.AL Go.NumSpec

set_option maxRecDepth 100000 in
set_option maxHeartbeats 4000000 in
/-- errors.as -/
theorem errors_as_code (c : Int) (ps : List (List UInt8)) (a b : Nat) (Y : AV) (F : St) : ACalls Tryd.prog 26 [chainV 27 49 c ps, .ifc 48 (.ptr b 0), rvAV (hv 48) a (.int .u64 150), .lit (ty 27)] ([(a, Ob.cells [.ptr b 0]), (b, Ob.cells [Y])] ++ F) (fun x st' => ∃ foot', (x = .bool true ∧ foot' = [(a, Ob.cells [.ptr b 0]), (b, Ob.cells [.int .i64 c])]) ∧ st' = foot' ++ F) := by
  refine ACalls_of (N := 62) Tryd.func26 (by kernel_rfl) rfl rfl rfl ?_
  refine AC_seq ?_
  refine AC_region ?_
  refine AL_step rfl rfl (S_box rfl (AEv.tmp rfl)) ?_
  rintro _ _ ⟨b1, rfl, rfl⟩
  refine AL_p rfl rfl (S_assign rfl (AEv.const _)) ?_
  refine AL_nil ?_
  refine AC_block ?_
  refine AC_loop (G := List (List UInt8)) (fun g => True) (fun g => [(0, chainV 27 49 c g), (1, .ifc 48 (.ptr b 0)), (3, .lit (ty 27)), (6, .ptr b1 0)]) (fun g => ((b1, .cells [.lit (hv 48), .ptr a 0, .lit (.int .u64 150)]) :: ([(a, Ob.cells [.ptr b 0]), (b, Ob.cells [Y])] ++ F))) (fun g => g.length) (ps) (trivial) rfl ?_ ?_
  · exact (.cons rfl (Le.refl _) (.cons rfl (Le.refl _) (.cons rfl (Le.refl _) (.cons rfl (Le.refl _) .nil))))
  · rintro g _
    try dsimp only
    refine AC_block ?_
    refine AC_seq ?_
    refine AC_seq ?_
    refine AC_region ?_
    refine AL_p rfl rfl (S_move rfl (AEv.tmp rfl)) ?_
    refine AL_p rfl rfl ((show PStep _ _ _ _ _ (.lit (ty (typV 27 49 g))) from by cases g with | nil => exact S_typeOf rfl (AEv.tmp rfl) x30 t27 | cons p0 ps0 => exact S_typeOf rfl (AEv.tmp rfl) x30 t49)) ?_
    refine AL_p rfl rfl (S_move rfl (AEv.tmp rfl)) ?_
    refine AL_p rfl rfl ((show PStep _ _ _ _ _ (.bool g.isEmpty) from by cases g with | nil => exact (by simp only [typV]; exact S_invL (ys := [.tmp 18]) (vals := [ty 27]) rfl (AEv.tmp rfl) (AEvs.cons (AEv.tmp rfl) AEvs.nil) (mAssign 27) x63 a2727) | cons p0 ps0 => exact (by simp only [typV]; exact S_invL (ys := [.tmp 18]) (vals := [ty 27]) rfl (AEv.tmp rfl) (AEvs.cons (AEv.tmp rfl) AEvs.nil) (mAssign 49) x63 a4927))) ?_
    refine AL_nil ?_
    refine AC_cond (AEv.tmp rfl) (fun hb2 => ?_) (fun hb2 => ?_)
    · try simp only [Bool.and_eq_true, Bool.or_eq_true, Bool.not_eq_true', Bool.not_eq_false', Bool.and_eq_false_iff, Bool.or_eq_false_iff, decide_eq_true_eq, decide_eq_false_iff_not, gd] at hb2
      obtain rfl : g = [] := by cases g with | nil => rfl | cons p1 ps1 => simp at hb2
      refine AC_seq ?_
      refine AC_region ?_
      refine AL_p rfl rfl (S_loadN (m := 3) 0 rfl (AEv.tmp rfl) rfl (by kernel_rfl) (by first | exact Nat.le_of_ble_eq_true rfl | (simp; omega) | simp)) ?_
      refine AL_p rfl rfl (S_elemV rfl (AEv.tmp rfl) (List.mem_cons_of_mem _ List.mem_cons_self) x32 (l48 a b)) ?_
      refine AL_p rfl rfl (S_move rfl (AEv.tmp rfl)) ?_
      refine AL_step rfl rfl (S_valueOf rfl (AEv.tmp rfl) x23 (fun w u hu => by rw [hu.lit_inv]; exact v27 c w)) ?_
      rintro _ _ ⟨d, rfl, rfl⟩
      refine AL_step rfl rfl (S_setV (n := 3) rfl (AEv.tmp rfl) (AEv.tmp rfl) rfl List.mem_cons_self x33 (fun w u old hu h1 h2 h3 => by rw [hu.lit_inv] at h1 ⊢; exact s27 b d _ old w (by simp [Value.cells]) rfl h1 h2 h3)) ?_
      rintro _ _ ⟨rfl, rfl⟩
      refine AL_nil ?_
      refine AC_seq ?_
      refine AC_region ?_
      refine AL_p rfl rfl (S_assign rfl (AEv.const _)) ?_
      refine AL_nil ?_
      refine AC_ret ?_
      refine ret_tmp ([(a, Ob.cells [.ptr b 0]), (b, Ob.cells [.int .i64 c])] ++ F) rfl rfl (Sub.l (List.Sublist.cons _ (List.Sublist.cons _ (List.Sublist.refl _)))) (Conv.refl (Sub.l (List.Sublist.cons _ (List.Sublist.cons _ (List.Sublist.refl _)))) _) ⟨_, ⟨rfl, rfl⟩, rfl⟩ (.inl rfl)
    · try simp only [Bool.and_eq_true, Bool.or_eq_true, Bool.not_eq_true', Bool.not_eq_false', Bool.and_eq_false_iff, Bool.or_eq_false_iff, decide_eq_true_eq, decide_eq_false_iff_not, gd] at hb2
      obtain ⟨p1, ps1, rfl⟩ : ∃ p1 ps1, g = p1 :: ps1 := by cases g with | nil => simp at hb2 | cons p1 ps1 => exact ⟨p1, ps1, rfl⟩
      refine AC_skip ?_
      refine AC_seq ?_
      refine AC_seq ?_
      refine AC_region ?_
      refine AL_p rfl rfl (S_move rfl (AEv.tmp rfl)) ?_
      refine AL_p rfl rfl (S_assertNo (X := 0) rfl (AEv.tmp rfl) Tryd.underlying82 (by kernel_rfl) (by kernel_rfl)) ?_
      refine AL_p rfl rfl (S_move rfl (AEv.tmp rfl)) ?_
      refine AL_p rfl rfl (S_extract 0 rfl (AEv.tmp rfl) rfl) ?_
      refine AL_p rfl rfl (S_extract 1 rfl (AEv.tmp rfl) rfl) ?_
      refine AL_p rfl rfl (S_assign rfl (AEv.tmp rfl)) ?_
      refine AL_p rfl rfl (S_assign rfl (AEv.tmp rfl)) ?_
      refine AL_nil ?_
      refine AC_seq ?_
      refine AC_region ?_
      refine AL_p rfl rfl (S_move rfl (AEv.tmp rfl)) ?_
      refine AL_p rfl rfl (S_move rfl (AEv.tmp rfl)) ?_
      refine AL_g rfl rfl (AEv.tmp rfl) rfl (fun hg3 => S_move rfl (AEv.tmp rfl)) ?_
      refine AL_g rfl rfl (AEv.tmp rfl) rfl (fun hg6 => S_move rfl (AEv.tmp rfl)) ?_
      refine AL_g rfl rfl (AEv.tmp rfl) rfl (fun hg9 => (show PStep _ _ _ _ _ (.bool false) from absurd (show gd false true = true by assumption) (by decide))) ?_
      refine AL_p rfl rfl (S_and rfl (AEv.tmp rfl) (fun hp12 => (AEv.cond (AEv.tmp rfl) (by first | assumption | exact gdT hp12 | exact gdF hp12 | exact gdAnd (by assumption) (gdT hp12) | exact gdAnd (by assumption) (gdF hp12))))) ?_
      refine AL_nil ?_
      refine AC_cond (AEv.tmp rfl) (fun hb13 => ?_) (fun hb13 => ?_)
      · simp at hb13; done
      · try simp only [Bool.and_eq_true, Bool.or_eq_true, Bool.not_eq_true', Bool.not_eq_false', Bool.and_eq_false_iff, Bool.or_eq_false_iff, decide_eq_true_eq, decide_eq_false_iff_not, gd] at hb13
        refine AC_skip ?_
        refine AC_seq ?_
        refine AC_region ?_
        refine AL_p rfl rfl (S_move rfl (AEv.tmp rfl)) ?_
        refine AL_nil ?_
        refine AC_block ?_
        refine AC_seq ?_
        refine AC_region ?_
        refine AL_p rfl rfl (S_assertYes rfl (AEv.tmp rfl) Tryd.underlying85 (by kernel_rfl)) ?_
        refine AL_p rfl rfl (S_extract 1 rfl (AEv.tmp rfl) rfl) ?_
        refine AL_p rfl rfl (S_extract 0 rfl (AEv.tmp rfl) rfl) ?_
        refine AL_nil ?_
        refine AC_cond (AEv.tmp rfl) (fun hb14 => ?_) (fun hb14 => ?_)
        · try simp only [Bool.and_eq_true, Bool.or_eq_true, Bool.not_eq_true', Bool.not_eq_false', Bool.and_eq_false_iff, Bool.or_eq_false_iff, decide_eq_true_eq, decide_eq_false_iff_not, gd] at hb14
          refine AC_seq ?_
          refine AC_region ?_
          refine AL_p rfl rfl (S_assign rfl (AEv.tmp rfl)) ?_
          refine AL_nil ?_
          refine AC_seq ?_
          refine AC_region ?_
          refine AL_p rfl rfl (S_move rfl (AEv.tmp rfl)) ?_
          refine AL_step rfl rfl (S_invC rfl (AEv.tmp rfl) mUnwrap (step_Unwrap_ok _ _ _)) ?_
          rintro _ _ ⟨rfl, rfl⟩
          refine AL_p rfl rfl (S_assign rfl (AEv.tmp rfl)) ?_
          refine AL_nil ?_
          refine AC_seq ?_
          refine AC_region ?_
          refine AL_p rfl rfl (S_move rfl (AEv.tmp rfl)) ?_
          refine AL_p rfl rfl (S_eqlE (chain_is 27 49 c ps1) rfl (AEv.tmp rfl) (by kernel_rfl)) ?_
          refine AL_nil ?_
          refine AC_cond (AEv.tmp rfl) (fun hb15 => ?_) (fun hb15 => ?_)
          · simp at hb15; done
          · try simp only [Bool.and_eq_true, Bool.or_eq_true, Bool.not_eq_true', Bool.not_eq_false', Bool.and_eq_false_iff, Bool.or_eq_false_iff, decide_eq_true_eq, decide_eq_false_iff_not, gd] at hb15
            refine AC_skip ?_
            refine ⟨ps1, trivial, by simp, rfl, (.cons rfl (Le.refl _) (.cons rfl (Le.refl _) (.cons rfl (Le.refl _) (.cons rfl (Le.refl _) .nil))))⟩
        · simp at hb14; done

set_option maxRecDepth 100000 in
/-- errors.As -/
theorem errors_As_code (c : Int) (ps : List (List UInt8)) (b : Nat) (Y : AV) (F : St) (hF : (0, Ob.konst [ty 24]) ∈ F) : ACalls Tryd.prog 20 [chainV 27 49 c ps, .ifc 48 (.ptr b 0)] ([(b, .cells [Y])] ++ F) (fun x st' => ∃ foot', (x = .bool true ∧ foot' = [(b, .cells [.int .i64 c])]) ∧ st' = foot' ++ F) := by
  refine ACalls_of (N := 42) Tryd.func20 (by kernel_rfl) rfl rfl rfl ?_
  refine AC_seq ?_
  refine AC_region ?_
  refine AL_p rfl rfl (S_assign rfl (AEv.const _)) ?_
  refine AL_nil ?_
  refine AC_seq ?_
  refine AC_seq ?_
  refine AC_region ?_
  refine AL_p rfl rfl (S_move rfl (AEv.tmp rfl)) ?_
  refine AL_p rfl rfl (S_eqlE (chain_is 27 49 c ps) rfl (AEv.tmp rfl) (by kernel_rfl)) ?_
  refine AL_nil ?_
  refine AC_cond (AEv.tmp rfl) (fun hb1 => ?_) (fun hb1 => ?_)
  · simp at hb1; done
  · try simp only [Bool.and_eq_true, Bool.or_eq_true, Bool.not_eq_true', Bool.not_eq_false', Bool.and_eq_false_iff, Bool.or_eq_false_iff, decide_eq_true_eq, decide_eq_false_iff_not, gd] at hb1
    refine AC_skip ?_
    refine AC_seq ?_
    refine AC_seq ?_
    refine AC_region ?_
    refine AL_p rfl rfl (S_move rfl (AEv.tmp rfl)) ?_
    refine AL_p rfl rfl (S_eqlE (ifc_is 48 (.ptr b 0)) rfl (AEv.tmp rfl) (by kernel_rfl)) ?_
    refine AL_nil ?_
    refine AC_cond (AEv.tmp rfl) (fun hb2 => ?_) (fun hb2 => ?_)
    · simp at hb2; done
    · try simp only [Bool.and_eq_true, Bool.or_eq_true, Bool.not_eq_true', Bool.not_eq_false', Bool.and_eq_false_iff, Bool.or_eq_false_iff, decide_eq_true_eq, decide_eq_false_iff_not, gd] at hb2
      refine AC_skip ?_
      refine AC_seq ?_
      refine AC_region ?_
      refine AL_p rfl rfl (S_move rfl (AEv.tmp rfl)) ?_
      refine AL_step rfl rfl (S_valueOf rfl (AEv.tmp rfl) x23 (fun w u hu => by rw [hu.lit_inv]; exact v48 b w)) ?_
      rintro _ _ ⟨a, rfl, rfl⟩
      refine AL_step rfl rfl (S_alloc [.pointer none, .pointer none, .int .u64 0] rfl (by kernel_rfl)) ?_
      rintro _ _ ⟨b3, rfl, rfl⟩
      refine AL_step rfl rfl (S_storeN 0 rfl (AEv.tmp rfl) (AEv.tmp rfl) rfl (by first | exact Nat.le_of_ble_eq_true rfl | (simp; omega) | simp) (by first | rfl | simp [AV.one, Value.oneCell']) (by kernel_rfl)) ?_
      rintro _ _ ⟨rfl, rfl⟩
      refine AL_nil ?_
      refine AC_seq ?_
      refine AC_region ?_
      refine AL_p rfl rfl (S_loadN (m := 3) 0 rfl (AEv.tmp rfl) rfl (by kernel_rfl) (by first | exact Nat.le_of_ble_eq_true rfl | (simp; omega) | simp)) ?_
      refine AL_p rfl rfl (S_rvP rfl (AEv.tmp rfl) x24 (y48 a)) ?_
      refine AL_p rfl rfl (S_assign rfl (AEv.tmp rfl)) ?_
      refine AL_nil ?_
      refine AC_seq ?_
      refine AC_seq ?_
      refine AC_region ?_
      refine AL_p rfl rfl (S_move rfl (AEv.tmp rfl)) ?_
      refine AL_p rfl rfl (S_invL (ys := []) (vals := []) rfl (AEv.tmp rfl) AEvs.nil (mKind 48) x52 k48) ?_
      refine AL_p rfl rfl (S_neq rfl (AEv.tmp rfl) (AEv.const _)) ?_
      refine AL_p rfl rfl (S_move rfl (AEv.tmp rfl)) ?_
      refine AL_gTp rfl rfl (AEv.tmp rfl) rfl rfl (S_loadN (m := 3) 0 rfl (AEv.tmp rfl) rfl (by kernel_rfl) (by first | exact Nat.le_of_ble_eq_true rfl | (simp; omega) | simp)) ?_
      refine AL_gTp rfl rfl (AEv.tmp rfl) rfl rfl (S_isNilV rfl (AEv.tmp rfl) (List.mem_cons_of_mem _ List.mem_cons_self) x25 (n48 a b)) ?_
      refine AL_p rfl rfl (S_or rfl (AEv.tmp rfl) (fun hp4 => (AEv.tmp rfl))) ?_
      refine AL_nil ?_
      refine AC_cond (AEv.tmp rfl) (fun hb5 => ?_) (fun hb5 => ?_)
      · simp at hb5; done
      · try simp only [Bool.and_eq_true, Bool.or_eq_true, Bool.not_eq_true', Bool.not_eq_false', Bool.and_eq_false_iff, Bool.or_eq_false_iff, decide_eq_true_eq, decide_eq_false_iff_not, gd] at hb5
        refine AC_skip ?_
        refine AC_seq ?_
        refine AC_region ?_
        refine AL_p rfl rfl (S_move rfl (AEv.tmp rfl)) ?_
        refine AL_p rfl rfl (S_invL (ys := []) (vals := []) rfl (AEv.tmp rfl) AEvs.nil (mElem 48) x65 e48) ?_
        refine AL_p rfl rfl (S_assign rfl (AEv.tmp rfl)) ?_
        refine AL_nil ?_
        refine AC_seq ?_
        refine AC_seq ?_
        refine AC_region ?_
        refine AL_p rfl rfl (S_move rfl (AEv.tmp rfl)) ?_
        refine AL_p rfl rfl (S_invL (ys := []) (vals := []) rfl (AEv.tmp rfl) AEvs.nil (mKind 27) x52 k27) ?_
        refine AL_p rfl rfl (S_neq rfl (AEv.tmp rfl) (AEv.const _)) ?_
        refine AL_p rfl rfl (S_move rfl (AEv.tmp rfl)) ?_
        refine AL_gTp rfl rfl (AEv.tmp rfl) rfl rfl (S_move rfl (AEv.tmp rfl)) ?_
        refine AL_gTp rfl rfl (AEv.tmp rfl) rfl rfl (S_loadK rfl (AEv.global _) (List.mem_cons_of_mem _ (List.mem_cons_of_mem _ (List.mem_cons_of_mem _ hF))) rfl (by kernel_rfl)) ?_
        refine AL_gTp rfl rfl (AEv.tmp rfl) rfl rfl (S_invL (ys := [.tmp 32]) (vals := [ty 24]) rfl (AEv.tmp rfl) (AEvs.cons (AEv.tmp rfl) AEvs.nil) (mImpl 27) x66 i27) ?_
        refine AL_gTp rfl rfl (AEv.tmp rfl) rfl rfl (S_not rfl (AEv.tmp rfl)) ?_
        refine AL_p rfl rfl (S_and rfl (AEv.tmp rfl) (fun hp6 => (AEv.tmp rfl))) ?_
        refine AL_nil ?_
        refine AC_cond (AEv.tmp rfl) (fun hb7 => ?_) (fun hb7 => ?_)
        · simp at hb7; done
        · try simp only [Bool.and_eq_true, Bool.or_eq_true, Bool.not_eq_true', Bool.not_eq_false', Bool.and_eq_false_iff, Bool.or_eq_false_iff, decide_eq_true_eq, decide_eq_false_iff_not, gd] at hb7
          refine AC_skip ?_
          refine AC_seq ?_
          refine AC_region ?_
          refine AL_p rfl rfl (S_move rfl (AEv.tmp rfl)) ?_
          refine AL_p rfl rfl (S_move rfl (AEv.tmp rfl)) ?_
          refine AL_p rfl rfl (S_loadN (m := 3) 0 rfl (AEv.tmp rfl) rfl (by kernel_rfl) (by first | exact Nat.le_of_ble_eq_true rfl | (simp; omega) | simp)) ?_
          refine AL_p rfl rfl (S_move rfl (AEv.tmp rfl)) ?_
          refine AL_step rfl rfl (S_call rfl (AEvs.cons (AEv.tmp rfl) (AEvs.cons (AEv.tmp rfl) (AEvs.cons (AEv.tmp rfl) (AEvs.cons (AEv.tmp rfl) AEvs.nil)))) (ACalls.pre (foot := [(a, Ob.cells [.ptr b 0]), (b, Ob.cells [Y])]) (K := fun x foot' => x = .bool true ∧ foot' = [(a, Ob.cells [.ptr b 0]), (b, Ob.cells [.int .i64 c])]) (errors_as_code c ps a b Y) [(_, _)] F)) ?_
          rintro _ _ ⟨_, ⟨rfl, rfl⟩, rfl⟩
          refine AL_p rfl rfl (S_assign rfl (AEv.tmp rfl)) ?_
          refine AL_nil ?_
          refine AC_ret ?_
          refine ret_tmp ([(b, Ob.cells [.int .i64 c])] ++ F) rfl rfl (Sub.l (List.Sublist.cons _ (List.Sublist.cons _ (List.Sublist.refl _)))) (Conv.refl (Sub.l (List.Sublist.cons _ (List.Sublist.cons _ (List.Sublist.refl _)))) _) ⟨_, ⟨rfl, rfl⟩, rfl⟩ (.inl rfl)

set_option maxRecDepth 100000 in
set_option maxHeartbeats 4000000 in
/-- errors.as -/
theorem errors_as_step (c : Int) (ps : List (List UInt8)) (a b : Nat) (Y : AV) (F : St) : ACalls Tryd.prog 26 [chainV 27 49 c ps, .ifc 52 (.ptr b 0), rvAV (hv 52) a (.int .u64 150), .lit (ty 49)] ([(a, Ob.cells [.ptr b 0]), (b, Ob.cells [Y])] ++ F) (fun x st' => ∃ foot', (x = .bool (!ps.isEmpty) ∧ foot' = [(a, Ob.cells [.ptr b 0]), (b, Ob.cells [stepV 27 49 (some (c, ps)) Y])]) ∧ st' = foot' ++ F) := by
  refine ACalls_of (N := 62) Tryd.func26 (by kernel_rfl) rfl rfl rfl ?_
  refine AC_seq ?_
  refine AC_region ?_
  refine AL_step rfl rfl (S_box rfl (AEv.tmp rfl)) ?_
  rintro _ _ ⟨b1, rfl, rfl⟩
  refine AL_p rfl rfl (S_assign rfl (AEv.const _)) ?_
  refine AL_nil ?_
  refine AC_block ?_
  refine AC_loop (G := List (List UInt8)) (fun g => g = ps) (fun g => [(0, chainV 27 49 c g), (1, .ifc 52 (.ptr b 0)), (3, .lit (ty 49)), (6, .ptr b1 0)]) (fun g => ((b1, .cells [.lit (hv 52), .ptr a 0, .lit (.int .u64 150)]) :: ([(a, Ob.cells [.ptr b 0]), (b, Ob.cells [Y])] ++ F))) (fun g => g.length) (ps) (rfl) rfl ?_ ?_
  · exact (.cons rfl (Le.refl _) (.cons rfl (Le.refl _) (.cons rfl (Le.refl _) (.cons rfl (Le.refl _) .nil))))
  · rintro g hg
    try dsimp only
    subst hg
    refine AC_block ?_
    refine AC_seq ?_
    refine AC_seq ?_
    refine AC_region ?_
    refine AL_p rfl rfl (S_move rfl (AEv.tmp rfl)) ?_
    refine AL_p rfl rfl ((show PStep _ _ _ _ _ (.lit (ty (typV 27 49 g))) from by cases g with | nil => exact S_typeOf rfl (AEv.tmp rfl) x30 t27 | cons p0 ps0 => exact S_typeOf rfl (AEv.tmp rfl) x30 t49)) ?_
    refine AL_p rfl rfl (S_move rfl (AEv.tmp rfl)) ?_
    refine AL_p rfl rfl ((show PStep _ _ _ _ _ (.bool (!g.isEmpty)) from by cases g with | nil => exact (by simp only [typV]; exact S_invL (ys := [.tmp 18]) (vals := [ty 49]) rfl (AEv.tmp rfl) (AEvs.cons (AEv.tmp rfl) AEvs.nil) (mAssign 27) x63 a2749) | cons p0 ps0 => exact (by simp only [typV]; exact S_invL (ys := [.tmp 18]) (vals := [ty 49]) rfl (AEv.tmp rfl) (AEvs.cons (AEv.tmp rfl) AEvs.nil) (mAssign 49) x63 a4949))) ?_
    refine AL_nil ?_
    refine AC_cond (AEv.tmp rfl) (fun hb2 => ?_) (fun hb2 => ?_)
    · try simp only [Bool.and_eq_true, Bool.or_eq_true, Bool.not_eq_true', Bool.not_eq_false', Bool.and_eq_false_iff, Bool.or_eq_false_iff, decide_eq_true_eq, decide_eq_false_iff_not, gd] at hb2
      obtain ⟨p1, ps1, rfl⟩ : ∃ p1 ps1, g = p1 :: ps1 := by cases g with | nil => simp at hb2 | cons p1 ps1 => exact ⟨p1, ps1, rfl⟩
      refine AC_seq ?_
      refine AC_region ?_
      refine AL_p rfl rfl (S_loadN (m := 3) 0 rfl (AEv.tmp rfl) rfl (by kernel_rfl) (by first | exact Nat.le_of_ble_eq_true rfl | (simp; omega) | simp)) ?_
      refine AL_p rfl rfl (S_elemV rfl (AEv.tmp rfl) (List.mem_cons_of_mem _ List.mem_cons_self) x32 (l52 a b)) ?_
      refine AL_p rfl rfl (S_move rfl (AEv.tmp rfl)) ?_
      refine AL_step rfl rfl (S_valueOf rfl (AEv.tmp rfl) x23 (fun w u hu => by obtain ⟨b', off, f, rfl, _⟩ := ip_inv hu; exact v49 _ w)) ?_
      rintro _ _ ⟨d, rfl, rfl⟩
      refine AL_step rfl rfl (S_setV (n := 3) rfl (AEv.tmp rfl) (AEv.tmp rfl) rfl List.mem_cons_self x33 (fun w u old hu h1 h2 h3 => by obtain ⟨b', off, f, rfl, _⟩ := ip_inv hu; exact s49 b d _ old w (by simp [Value.cells]) rfl h1 h2 h3)) ?_
      rintro _ _ ⟨rfl, rfl⟩
      refine AL_nil ?_
      refine AC_seq ?_
      refine AC_region ?_
      refine AL_p rfl rfl (S_assign rfl (AEv.const _)) ?_
      refine AL_nil ?_
      refine AC_ret ?_
      refine ret_tmp ([(a, Ob.cells [.ptr b 0]), (b, Ob.cells [.ip [.S p1, chainV 27 49 c ps1]])] ++ F) rfl rfl (Sub.l (List.Sublist.cons _ (List.Sublist.cons _ (List.Sublist.refl _)))) (Conv.refl (Sub.l (List.Sublist.cons _ (List.Sublist.cons _ (List.Sublist.refl _)))) _) ⟨_, ⟨rfl, rfl⟩, rfl⟩ (.inl rfl)
    · try simp only [Bool.and_eq_true, Bool.or_eq_true, Bool.not_eq_true', Bool.not_eq_false', Bool.and_eq_false_iff, Bool.or_eq_false_iff, decide_eq_true_eq, decide_eq_false_iff_not, gd] at hb2
      obtain rfl : g = [] := by cases g with | nil => rfl | cons p1 ps1 => simp at hb2
      refine AC_skip ?_
      refine AC_seq ?_
      refine AC_seq ?_
      refine AC_region ?_
      refine AL_p rfl rfl (S_move rfl (AEv.tmp rfl)) ?_
      refine AL_p rfl rfl (S_assertNo (X := 0) rfl (AEv.tmp rfl) Tryd.underlying82 (by kernel_rfl) (by kernel_rfl)) ?_
      refine AL_p rfl rfl (S_move rfl (AEv.tmp rfl)) ?_
      refine AL_p rfl rfl (S_extract 0 rfl (AEv.tmp rfl) rfl) ?_
      refine AL_p rfl rfl (S_extract 1 rfl (AEv.tmp rfl) rfl) ?_
      refine AL_p rfl rfl (S_assign rfl (AEv.tmp rfl)) ?_
      refine AL_p rfl rfl (S_assign rfl (AEv.tmp rfl)) ?_
      refine AL_nil ?_
      refine AC_seq ?_
      refine AC_region ?_
      refine AL_p rfl rfl (S_move rfl (AEv.tmp rfl)) ?_
      refine AL_p rfl rfl (S_move rfl (AEv.tmp rfl)) ?_
      refine AL_g rfl rfl (AEv.tmp rfl) rfl (fun hg3 => S_move rfl (AEv.tmp rfl)) ?_
      refine AL_g rfl rfl (AEv.tmp rfl) rfl (fun hg6 => S_move rfl (AEv.tmp rfl)) ?_
      refine AL_g rfl rfl (AEv.tmp rfl) rfl (fun hg9 => (show PStep _ _ _ _ _ (.bool false) from absurd (show gd false true = true by assumption) (by decide))) ?_
      refine AL_p rfl rfl (S_and rfl (AEv.tmp rfl) (fun hp12 => (AEv.cond (AEv.tmp rfl) (by first | assumption | exact gdT hp12 | exact gdF hp12 | exact gdAnd (by assumption) (gdT hp12) | exact gdAnd (by assumption) (gdF hp12))))) ?_
      refine AL_nil ?_
      refine AC_cond (AEv.tmp rfl) (fun hb13 => ?_) (fun hb13 => ?_)
      · simp at hb13; done
      · try simp only [Bool.and_eq_true, Bool.or_eq_true, Bool.not_eq_true', Bool.not_eq_false', Bool.and_eq_false_iff, Bool.or_eq_false_iff, decide_eq_true_eq, decide_eq_false_iff_not, gd] at hb13
        refine AC_skip ?_
        refine AC_seq ?_
        refine AC_region ?_
        refine AL_p rfl rfl (S_move rfl (AEv.tmp rfl)) ?_
        refine AL_nil ?_
        refine AC_block ?_
        refine AC_seq ?_
        refine AC_region ?_
        refine AL_p rfl rfl (S_assertNo (X := 0) rfl (AEv.tmp rfl) Tryd.underlying85 (by kernel_rfl) (by kernel_rfl)) ?_
        refine AL_p rfl rfl (S_extract 1 rfl (AEv.tmp rfl) rfl) ?_
        refine AL_p rfl rfl (S_extract 0 rfl (AEv.tmp rfl) rfl) ?_
        refine AL_nil ?_
        refine AC_cond (AEv.tmp rfl) (fun hb14 => ?_) (fun hb14 => ?_)
        · simp at hb14; done
        · try simp only [Bool.and_eq_true, Bool.or_eq_true, Bool.not_eq_true', Bool.not_eq_false', Bool.and_eq_false_iff, Bool.or_eq_false_iff, decide_eq_true_eq, decide_eq_false_iff_not, gd] at hb14
          refine AC_seq ?_
          refine AC_region ?_
          refine AL_p rfl rfl (S_assertNo (X := 0) rfl (AEv.tmp rfl) Tryd.underlying87 (by kernel_rfl) (by kernel_rfl)) ?_
          refine AL_p rfl rfl (S_extract 1 rfl (AEv.tmp rfl) rfl) ?_
          refine AL_p rfl rfl (S_extract 0 rfl (AEv.tmp rfl) rfl) ?_
          refine AL_nil ?_
          refine AC_cond (AEv.tmp rfl) (fun hb15 => ?_) (fun hb15 => ?_)
          · simp at hb15; done
          · try simp only [Bool.and_eq_true, Bool.or_eq_true, Bool.not_eq_true', Bool.not_eq_false', Bool.and_eq_false_iff, Bool.or_eq_false_iff, decide_eq_true_eq, decide_eq_false_iff_not, gd] at hb15
            refine AC_seq ?_
            refine AC_region ?_
            refine AL_p rfl rfl (S_assign rfl (AEv.tmp rfl)) ?_
            refine AL_nil ?_
            refine AC_seq ?_
            refine AC_region ?_
            refine AL_p rfl rfl (S_assign rfl (AEv.const _)) ?_
            refine AL_nil ?_
            refine AC_ret ?_
            refine ret_tmp ([(a, Ob.cells [.ptr b 0]), (b, Ob.cells [Y])] ++ F) rfl rfl (Sub.l (List.Sublist.cons _ (List.Sublist.refl _))) (Conv.refl (Sub.l (List.Sublist.cons _ (List.Sublist.refl _))) _) ⟨_, ⟨rfl, rfl⟩, rfl⟩ (.inl rfl)

set_option maxRecDepth 100000 in
/-- errors.As -/
theorem errors_As_step (e : Er) (b : Nat) (Y : AV) (F : St) (hF : (0, Ob.konst [ty 24]) ∈ F) : ACalls Tryd.prog 20 [erV 27 49 e, .ifc 52 (.ptr b 0)] ([(b, .cells [Y])] ++ F) (fun x st' => ∃ foot', (x = .bool (stepB e) ∧ foot' = [(b, .cells [stepV 27 49 e Y])]) ∧ st' = foot' ++ F) := by
  refine ACalls_of (N := 42) Tryd.func20 (by kernel_rfl) rfl rfl rfl ?_
  refine AC_seq ?_
  refine AC_region ?_
  refine AL_p rfl rfl (S_assign rfl (AEv.const _)) ?_
  refine AL_nil ?_
  refine AC_seq ?_
  refine AC_seq ?_
  refine AC_region ?_
  refine AL_p rfl rfl (S_move rfl (AEv.tmp rfl)) ?_
  refine AL_p rfl rfl (S_eqlE (er_is 27 49 e) rfl (AEv.tmp rfl) (by kernel_rfl)) ?_
  refine AL_nil ?_
  refine AC_cond (AEv.tmp rfl) (fun hb1 => ?_) (fun hb1 => ?_)
  · try simp only [Bool.and_eq_true, Bool.or_eq_true, Bool.not_eq_true', Bool.not_eq_false', Bool.and_eq_false_iff, Bool.or_eq_false_iff, decide_eq_true_eq, decide_eq_false_iff_not, gd] at hb1
    obtain rfl : e = none := by cases e with | none => rfl | some x => simp at hb1
    refine AC_seq ?_
    refine AC_region ?_
    refine AL_p rfl rfl (S_assign rfl (AEv.const _)) ?_
    refine AL_nil ?_
    refine AC_ret ?_
    refine ret_tmp ([(b, Ob.cells [Y])] ++ F) rfl rfl (Sub.l (List.Sublist.refl _)) (Conv.refl (Sub.l (List.Sublist.refl _)) _) ⟨_, ⟨rfl, rfl⟩, rfl⟩ (.inl rfl)
  · try simp only [Bool.and_eq_true, Bool.or_eq_true, Bool.not_eq_true', Bool.not_eq_false', Bool.and_eq_false_iff, Bool.or_eq_false_iff, decide_eq_true_eq, decide_eq_false_iff_not, gd] at hb1
    obtain ⟨⟨c, ps⟩, rfl⟩ : ∃ x, e = some x := by cases e with | none => simp at hb1 | some x => exact ⟨x, rfl⟩
    refine AC_skip ?_
    refine AC_seq ?_
    refine AC_seq ?_
    refine AC_region ?_
    refine AL_p rfl rfl (S_move rfl (AEv.tmp rfl)) ?_
    refine AL_p rfl rfl (S_eqlE (ifc_is 52 (.ptr b 0)) rfl (AEv.tmp rfl) (by kernel_rfl)) ?_
    refine AL_nil ?_
    refine AC_cond (AEv.tmp rfl) (fun hb2 => ?_) (fun hb2 => ?_)
    · simp at hb2; done
    · try simp only [Bool.and_eq_true, Bool.or_eq_true, Bool.not_eq_true', Bool.not_eq_false', Bool.and_eq_false_iff, Bool.or_eq_false_iff, decide_eq_true_eq, decide_eq_false_iff_not, gd] at hb2
      refine AC_skip ?_
      refine AC_seq ?_
      refine AC_region ?_
      refine AL_p rfl rfl (S_move rfl (AEv.tmp rfl)) ?_
      refine AL_step rfl rfl (S_valueOf rfl (AEv.tmp rfl) x23 (fun w u hu => by rw [hu.lit_inv]; exact v52 b w)) ?_
      rintro _ _ ⟨a, rfl, rfl⟩
      refine AL_step rfl rfl (S_alloc [.pointer none, .pointer none, .int .u64 0] rfl (by kernel_rfl)) ?_
      rintro _ _ ⟨b3, rfl, rfl⟩
      refine AL_step rfl rfl (S_storeN 0 rfl (AEv.tmp rfl) (AEv.tmp rfl) rfl (by first | exact Nat.le_of_ble_eq_true rfl | (simp; omega) | simp) (by first | rfl | simp [AV.one, Value.oneCell']) (by kernel_rfl)) ?_
      rintro _ _ ⟨rfl, rfl⟩
      refine AL_nil ?_
      refine AC_seq ?_
      refine AC_region ?_
      refine AL_p rfl rfl (S_loadN (m := 3) 0 rfl (AEv.tmp rfl) rfl (by kernel_rfl) (by first | exact Nat.le_of_ble_eq_true rfl | (simp; omega) | simp)) ?_
      refine AL_p rfl rfl (S_rvP rfl (AEv.tmp rfl) x24 (y52 a)) ?_
      refine AL_p rfl rfl (S_assign rfl (AEv.tmp rfl)) ?_
      refine AL_nil ?_
      refine AC_seq ?_
      refine AC_seq ?_
      refine AC_region ?_
      refine AL_p rfl rfl (S_move rfl (AEv.tmp rfl)) ?_
      refine AL_p rfl rfl (S_invL (ys := []) (vals := []) rfl (AEv.tmp rfl) AEvs.nil (mKind 52) x52 k52) ?_
      refine AL_p rfl rfl (S_neq rfl (AEv.tmp rfl) (AEv.const _)) ?_
      refine AL_p rfl rfl (S_move rfl (AEv.tmp rfl)) ?_
      refine AL_gTp rfl rfl (AEv.tmp rfl) rfl rfl (S_loadN (m := 3) 0 rfl (AEv.tmp rfl) rfl (by kernel_rfl) (by first | exact Nat.le_of_ble_eq_true rfl | (simp; omega) | simp)) ?_
      refine AL_gTp rfl rfl (AEv.tmp rfl) rfl rfl (S_isNilV rfl (AEv.tmp rfl) (List.mem_cons_of_mem _ List.mem_cons_self) x25 (n52 a b)) ?_
      refine AL_p rfl rfl (S_or rfl (AEv.tmp rfl) (fun hp4 => (AEv.tmp rfl))) ?_
      refine AL_nil ?_
      refine AC_cond (AEv.tmp rfl) (fun hb5 => ?_) (fun hb5 => ?_)
      · simp at hb5; done
      · try simp only [Bool.and_eq_true, Bool.or_eq_true, Bool.not_eq_true', Bool.not_eq_false', Bool.and_eq_false_iff, Bool.or_eq_false_iff, decide_eq_true_eq, decide_eq_false_iff_not, gd] at hb5
        refine AC_skip ?_
        refine AC_seq ?_
        refine AC_region ?_
        refine AL_p rfl rfl (S_move rfl (AEv.tmp rfl)) ?_
        refine AL_p rfl rfl (S_invL (ys := []) (vals := []) rfl (AEv.tmp rfl) AEvs.nil (mElem 52) x65 e52) ?_
        refine AL_p rfl rfl (S_assign rfl (AEv.tmp rfl)) ?_
        refine AL_nil ?_
        refine AC_seq ?_
        refine AC_seq ?_
        refine AC_region ?_
        refine AL_p rfl rfl (S_move rfl (AEv.tmp rfl)) ?_
        refine AL_p rfl rfl (S_invL (ys := []) (vals := []) rfl (AEv.tmp rfl) AEvs.nil (mKind 49) x52 k49) ?_
        refine AL_p rfl rfl (S_neq rfl (AEv.tmp rfl) (AEv.const _)) ?_
        refine AL_p rfl rfl (S_move rfl (AEv.tmp rfl)) ?_
        refine AL_gTp rfl rfl (AEv.tmp rfl) rfl rfl (S_move rfl (AEv.tmp rfl)) ?_
        refine AL_gTp rfl rfl (AEv.tmp rfl) rfl rfl (S_loadK rfl (AEv.global _) (List.mem_cons_of_mem _ (List.mem_cons_of_mem _ (List.mem_cons_of_mem _ hF))) rfl (by kernel_rfl)) ?_
        refine AL_gTp rfl rfl (AEv.tmp rfl) rfl rfl (S_invL (ys := [.tmp 32]) (vals := [ty 24]) rfl (AEv.tmp rfl) (AEvs.cons (AEv.tmp rfl) AEvs.nil) (mImpl 49) x66 i49) ?_
        refine AL_gTp rfl rfl (AEv.tmp rfl) rfl rfl (S_not rfl (AEv.tmp rfl)) ?_
        refine AL_p rfl rfl (S_and rfl (AEv.tmp rfl) (fun hp6 => (AEv.tmp rfl))) ?_
        refine AL_nil ?_
        refine AC_cond (AEv.tmp rfl) (fun hb7 => ?_) (fun hb7 => ?_)
        · simp at hb7; done
        · try simp only [Bool.and_eq_true, Bool.or_eq_true, Bool.not_eq_true', Bool.not_eq_false', Bool.and_eq_false_iff, Bool.or_eq_false_iff, decide_eq_true_eq, decide_eq_false_iff_not, gd] at hb7
          refine AC_skip ?_
          refine AC_seq ?_
          refine AC_region ?_
          refine AL_p rfl rfl (S_move rfl (AEv.tmp rfl)) ?_
          refine AL_p rfl rfl (S_move rfl (AEv.tmp rfl)) ?_
          refine AL_p rfl rfl (S_loadN (m := 3) 0 rfl (AEv.tmp rfl) rfl (by kernel_rfl) (by first | exact Nat.le_of_ble_eq_true rfl | (simp; omega) | simp)) ?_
          refine AL_p rfl rfl (S_move rfl (AEv.tmp rfl)) ?_
          refine AL_step rfl rfl (S_call rfl (AEvs.cons (AEv.tmp rfl) (AEvs.cons (AEv.tmp rfl) (AEvs.cons (AEv.tmp rfl) (AEvs.cons (AEv.tmp rfl) AEvs.nil)))) (ACalls.pre (foot := [(a, Ob.cells [.ptr b 0]), (b, Ob.cells [Y])]) (K := fun x foot' => x = .bool (!ps.isEmpty) ∧ foot' = [(a, Ob.cells [.ptr b 0]), (b, Ob.cells [stepV 27 49 (some (c, ps)) Y])]) (errors_as_step c ps a b Y) [(_, _)] F)) ?_
          rintro _ _ ⟨_, ⟨rfl, rfl⟩, rfl⟩
          refine AL_p rfl rfl (S_assign rfl (AEv.tmp rfl)) ?_
          refine AL_nil ?_
          refine AC_ret ?_
          refine ret_tmp ([(b, Ob.cells [stepV 27 49 (some (c, ps)) Y])] ++ F) rfl rfl (Sub.l (List.Sublist.cons _ (List.Sublist.cons _ (List.Sublist.refl _)))) (Conv.refl (Sub.l (List.Sublist.cons _ (List.Sublist.cons _ (List.Sublist.refl _)))) _) ⟨_, ⟨by cases ps <;> rfl, rfl⟩, rfl⟩ (.inl rfl)

set_option maxRecDepth 100000 in
/-- provost/fail.Code -/
theorem fail_Code_ok (e : Er) : GCalls Tryd.prog tabs 9 [erV 27 49 e] (.int .i64 (erCode e)) := by
  intro st hG
  refine ACalls_of (N := 10) Tryd.func9 (by kernel_rfl) rfl rfl rfl ?_
  refine AC_seq ?_
  refine AC_region ?_
  refine AL_p rfl rfl (S_assign rfl (AEv.const _)) ?_
  refine AL_nil ?_
  refine AC_seq ?_
  refine AC_seq ?_
  refine AC_region ?_
  refine AL_p rfl rfl (S_move rfl (AEv.tmp rfl)) ?_
  refine AL_p rfl rfl (S_eqlE (er_is 27 49 e) rfl (AEv.tmp rfl) (by kernel_rfl)) ?_
  refine AL_nil ?_
  refine AC_cond (AEv.tmp rfl) (fun hb1 => ?_) (fun hb1 => ?_)
  · try simp only [Bool.and_eq_true, Bool.or_eq_true, Bool.not_eq_true', Bool.not_eq_false', Bool.and_eq_false_iff, Bool.or_eq_false_iff, decide_eq_true_eq, decide_eq_false_iff_not, gd] at hb1
    obtain rfl : e = none := by cases e with | none => rfl | some x => simp at hb1
    refine AC_seq ?_
    refine AC_region ?_
    refine AL_p rfl rfl (S_assign rfl (AEv.const _)) ?_
    refine AL_nil ?_
    refine AC_ret ?_
    refine ret_tmp st rfl rfl (Sub.l (List.Sublist.refl _)) (Conv.refl (Sub.l (List.Sublist.refl _)) _) ⟨rfl, rfl⟩ (.inl rfl)
  · try simp only [Bool.and_eq_true, Bool.or_eq_true, Bool.not_eq_true', Bool.not_eq_false', Bool.and_eq_false_iff, Bool.or_eq_false_iff, decide_eq_true_eq, decide_eq_false_iff_not, gd] at hb1
    obtain ⟨⟨c, ps⟩, rfl⟩ : ∃ x, e = some x := by cases e with | none => simp at hb1 | some x => exact ⟨x, rfl⟩
    refine AC_skip ?_
    refine AC_seq ?_
    refine AC_region ?_
    refine AL_step rfl rfl (S_alloc [.int .i64 0] rfl (by kernel_rfl)) ?_
    rintro _ _ ⟨b2, rfl, rfl⟩
    refine AL_nil ?_
    refine AC_seq ?_
    refine AC_seq ?_
    refine AC_region ?_
    refine AL_p rfl rfl (S_move rfl (AEv.tmp rfl)) ?_
    refine AL_p rfl rfl (S_ifc (T2 := 0) rfl (AEv.tmp rfl) (by kernel_rfl)) ?_
    refine AL_step rfl rfl (S_call rfl (AEvs.cons (AEv.tmp rfl) (AEvs.cons (AEv.tmp rfl) AEvs.nil)) (errors_As_code c ps _ _ st (hG (0, .konst [ty 24]) List.mem_cons_self))) ?_
    rintro _ _ ⟨_, ⟨rfl, rfl⟩, rfl⟩
    refine AL_nil ?_
    refine AC_cond (AEv.tmp rfl) (fun hb3 => ?_) (fun hb3 => ?_)
    · try simp only [Bool.and_eq_true, Bool.or_eq_true, Bool.not_eq_true', Bool.not_eq_false', Bool.and_eq_false_iff, Bool.or_eq_false_iff, decide_eq_true_eq, decide_eq_false_iff_not, gd] at hb3
      refine AC_seq ?_
      refine AC_region ?_
      refine AL_p rfl rfl (S_load 0 rfl (AEv.tmp rfl) rfl rfl (by kernel_rfl)) ?_
      refine AL_p rfl rfl (S_assign rfl (AEv.tmp rfl)) ?_
      refine AL_nil ?_
      refine AC_ret ?_
      refine ret_tmp st rfl rfl (Sub.l (List.Sublist.cons _ (List.Sublist.refl _))) (Conv.refl (Sub.l (List.Sublist.cons _ (List.Sublist.refl _))) _) ⟨rfl, rfl⟩ (.inl rfl)
    · simp at hb3; done

set_option maxRecDepth 100000 in
/-- provost/fail.Path -/
theorem fail_Path_ok (e : Er) (he : (erPath e).length ≤ 1000000) : GCalls Tryd.prog tabs 13 [erV 27 49 e] (.sl (strsV (erPath e))) := by
  intro st hG
  refine ACalls_of (N := 20) Tryd.func13 (by kernel_rfl) rfl rfl rfl ?_
  refine AC_seq ?_
  refine AC_region ?_
  refine AL_p rfl rfl (S_assign rfl (AEv.const _)) ?_
  refine AL_nil ?_
  refine AC_seq ?_
  refine AC_region ?_
  refine AL_p rfl rfl (S_assign rfl (AEv.const _)) ?_
  refine AL_nil ?_
  refine AC_seq ?_
  refine AC_region ?_
  refine AL_step rfl rfl (S_alloc [.pointer none] rfl (by kernel_rfl)) ?_
  rintro _ _ ⟨b1, rfl, rfl⟩
  refine AL_nil ?_
  refine AC_seq ?_
  refine AC_block ?_
  refine AC_loop (G := Er × List (List UInt8) × Own × AV) (fun g => erPath e = g.2.1 ++ erPath g.1 ∧ g.2.2.1.ok (strsV g.2.1)) (fun g => [(0, erV 27 49 g.1), (3, ownAV g.2.2.1 1 (strsV g.2.1)), (4, .ptr b1 0)]) (fun g => (b1, .cells [g.2.2.2]) :: (ownSt g.2.2.1 9 1 (strsV g.2.1) ++ st)) (fun g => (erPath g.1).length) ((e, [], .nil, .lit (.pointer none))) (⟨rfl, rfl⟩) rfl ?_ ?_
  · exact .cons rfl (Le.refl _) (.cons rfl (Le.refl _) (.cons rfl (Le.refl _) .nil))
  · rintro ⟨e1, done, p, Y⟩ ⟨hpath, hp⟩
    try dsimp only
    dsimp only at hpath hp
    refine AC_seq ?_
    refine AC_seq ?_
    refine AC_region ?_
    refine AL_p rfl rfl (S_move rfl (AEv.tmp rfl)) ?_
    refine AL_p rfl rfl (S_ifc (T2 := 0) rfl (AEv.tmp rfl) (by kernel_rfl)) ?_
    refine AL_step rfl rfl (S_call rfl (AEvs.cons (AEv.tmp rfl) (AEvs.cons (AEv.tmp rfl) AEvs.nil)) (errors_As_step e1 b1 Y (ownSt p 9 1 (strsV done) ++ st) (List.mem_append_right _ (hG (0, .konst [ty 24]) List.mem_cons_self)))) ?_
    rintro _ _ ⟨_, ⟨rfl, rfl⟩, rfl⟩
    refine AL_nil ?_
    refine AC_cond (AEv.tmp rfl) (fun hb2 => ?_) (fun hb2 => ?_)
    · try simp only [Bool.and_eq_true, Bool.or_eq_true, Bool.not_eq_true', Bool.not_eq_false', Bool.and_eq_false_iff, Bool.or_eq_false_iff, decide_eq_true_eq, decide_eq_false_iff_not, gd] at hb2
      obtain ⟨c1, p1, ps1, rfl⟩ : ∃ c1 p1 ps1, e1 = some (c1, p1 :: ps1) := by
        rcases e1 with _ | ⟨c1, _ | ⟨p1, ps1⟩⟩
        · simp [stepB] at hb2
        · simp [stepB] at hb2
        · exact ⟨c1, p1, ps1, rfl⟩
      have hlen : (strsV done).length = done.length := strsV_len done
      have hle := congrArg List.length hpath
      rw [List.length_append] at hle
      have hsd : strsV (done ++ [p1]) = strsV done ++ [.S p1] := by simp [strsV]
      refine AC_skip ?_
      refine AC_block ?_
      refine AC_seq ?_
      refine AC_region ?_
      refine AL_p rfl rfl (S_move rfl (AEv.tmp rfl)) ?_
      refine AL_p rfl rfl (S_load 0 rfl (AEv.tmp rfl) rfl rfl (by kernel_rfl)) ?_
      refine AL_p rfl rfl (S_nilCheckP rfl (AEv.tmp rfl)) ?_
      refine AL_p rfl rfl (S_fieldP 0 rfl (AEv.tmp rfl) (by kernel_rfl)) ?_
      refine AL_p rfl rfl (S_loadP rfl (AEv.tmp rfl) rfl (by kernel_rfl)) ?_
      refine AL_p rfl rfl (S_buildSlice (e := 9) 1 rfl (AEvs.cons (AEv.tmp rfl) AEvs.nil) rfl (by kernel_rfl) (by kernel_rfl) (by simp [AV.flat, AV.one, AV.cells, Value.oneCell']) (by decide) (by decide) (by decide)) ?_
      refine AL_step rfl rfl (S_appendOwn (e := 9) (size := 1) (bytes := 16) (p := p) (xs := strsV done) [_] st rfl (AEv.tmp rfl) (AEv.tmp rfl) rfl hp (by kernel_rfl) (by simp) (fun x hx => by obtain ⟨q, _, rfl⟩ := List.mem_map.1 hx; rfl) (by simp [AV.cells, AV.one, Value.oneCell']) (by simp only [List.length_singleton]; omega) (by simp only [List.length_singleton]; omega)) ?_
      rintro _ _ ⟨b9, k9, cap9, hc9, rfl, rfl⟩
      refine AL_p rfl rfl (S_assign rfl (AEv.tmp rfl)) ?_
      refine AL_nil ?_
      refine AC_region ?_
      refine AL_p rfl rfl (S_load 0 rfl (AEv.tmp rfl) rfl rfl (by kernel_rfl)) ?_
      refine AL_p rfl rfl (S_nilCheckP rfl (AEv.tmp rfl)) ?_
      refine AL_p rfl rfl (S_fieldP 1 rfl (AEv.tmp rfl) (by kernel_rfl)) ?_
      refine AL_p rfl rfl (S_loadP rfl (AEv.tmp rfl) rfl (by kernel_rfl)) ?_
      refine AL_p rfl rfl (S_assign rfl (AEv.tmp rfl)) ?_
      refine AL_nil ?_
      refine ⟨(some (c1, ps1), done ++ [p1], .row b9 k9 cap9, _), ⟨by dsimp only; rw [hpath]; simp [erPath], by dsimp only; rw [hsd]; exact hc9⟩, by simp [erPath], by dsimp only; rw [hsd]; rfl, .cons rfl (Le.refl _) (.cons rfl (Le.of_eq (by dsimp only; rw [hsd])) (.cons rfl (Le.refl _) .nil))⟩
    · try simp only [Bool.and_eq_true, Bool.or_eq_true, Bool.not_eq_true', Bool.not_eq_false', Bool.and_eq_false_iff, Bool.or_eq_false_iff, decide_eq_true_eq, decide_eq_false_iff_not, gd] at hb2
      have hend : erPath e1 = [] := by
        rcases e1 with _ | ⟨c1, _ | ⟨p1, ps1⟩⟩
        · rfl
        · rfl
        · simp [stepB] at hb2
      rw [hend, List.append_nil] at hpath
      refine AC_exit ?_
      refine AC_seq ?_
      refine AC_region ?_
      refine AL_p rfl rfl (S_move rfl (AEv.tmp rfl)) ?_
      refine AL_p rfl rfl (S_assign rfl (AEv.tmp rfl)) ?_
      refine AL_nil ?_
      refine AC_ret ?_
      refine ret_tmp st rfl rfl (Sub.l (List.Sublist.cons _ (List.sublist_append_right _ _))) (Conv.le (Sub.l (List.Sublist.cons _ (List.sublist_append_right _ _))) (Le_own hp)) ⟨by rw [hpath], rfl⟩ (.inl rfl)

end Go.Proofs.YtemlgeljgnmfeaaDoor
