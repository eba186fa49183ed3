/-
The walks of Go functions in the logic AL: what each of them answers.
Conditions: those of each theorem.
-/
import Derived.Test.YtnjlecejhnoicaaDoorCov14h
set_option linter.unusedVariables false
set_option linter.unusedSimpArgs false
namespace Go.Proofs.YtnjlecejhnoicaaDoor
open Go.AL Go.NumSpec

set_option maxRecDepth 100000 in
/-- provost/provostlaw14.works -/
theorem law_works : PCalls Tryd.prog 4 [] (.bool true) := by
  intro st
  refine ACalls_of (N := 38) Tryd.func4 (by kernel_rfl) rfl rfl rfl ?_
  have e1 := res_works
  have e2 := res_works2
  have e3 := res_works3
  refine AC_seq ?_
  refine AC_region ?_
  refine AL_p rfl rfl (S_assign rfl (AEv.const _)) ?_
  refine AL_nil ?_
  refine AC_seq ?_
  refine AC_region ?_
  refine AL_p rfl rfl (S_build (pl := [(0, 1), (1, 1), (2, 1)]) (zs := [.int .i64 0, .int .i64 0, .int .i64 0]) rfl (AEvs.cons (AEv.const _) (AEvs.cons (AEv.const _) (AEvs.cons (AEv.const _) AEvs.nil))) (by kernel_rfl) rfl) ?_
  refine AL_p rfl rfl (S_build (pl := [(0, 1), (1, 1), (2, 1)]) (zs := [.int .i64 0, .int .i64 0, .int .i64 0]) rfl (AEvs.cons (AEv.const _) (AEvs.cons (AEv.const _) (AEvs.cons (AEv.const _) AEvs.nil))) (by kernel_rfl) rfl) ?_
  refine AL_p rfl rfl (S_pcall rfl (AEvs.cons (AEv.tmp rfl) (AEvs.cons (AEv.tmp rfl) AEvs.nil)) (res_Add_ok (1, 2, 3) (4, 5, 6) (by decide) (by decide))) ?_
  refine AL_p rfl rfl (S_move rfl (AEv.tmp rfl)) ?_
  refine AL_p rfl rfl (S_extract 0 rfl (AEv.tmp rfl) rfl) ?_
  refine AL_p rfl rfl (S_extract 1 rfl (AEv.tmp rfl) rfl) ?_
  refine AL_step rfl rfl (S_alloc [.int .i64 0, .int .i64 0, .int .i64 0] rfl (by kernel_rfl)) ?_
  rintro _ _ ⟨b1, rfl, rfl⟩
  refine AL_step rfl rfl (S_storeN 0 rfl (AEv.tmp rfl) (AEv.tmp rfl) rfl (by first | exact Nat.le_of_ble_eq_true rfl | (simp; omega) | simp) (by first | rfl | simp [AV.one, Value.oneCell']) (by kernel_rfl)) ?_
  rintro _ _ ⟨rfl, rfl⟩
  refine AL_p rfl rfl (S_assign rfl (AEv.tmp rfl)) ?_
  refine AL_nil ?_
  refine AC_seq ?_
  refine AC_region ?_
  refine AL_p rfl rfl (S_build (pl := [(0, 1), (1, 1), (2, 1)]) (zs := [.int .i64 0, .int .i64 0, .int .i64 0]) rfl (AEvs.cons (AEv.const _) AEvs.nil) (by kernel_rfl) rfl) ?_
  refine AL_p rfl rfl (S_build (pl := [(0, 1), (1, 1), (2, 1)]) (zs := [.int .i64 0, .int .i64 0, .int .i64 0]) rfl (AEvs.cons (AEv.const _) AEvs.nil) (by kernel_rfl) rfl) ?_
  refine AL_p rfl rfl (S_pcall rfl (AEvs.cons (AEv.tmp rfl) (AEvs.cons (AEv.tmp rfl) AEvs.nil)) (res_Sub_ok (1, 0, 0) (2, 0, 0) (by decide) (by decide))) ?_
  refine AL_p rfl rfl (S_move rfl (AEv.tmp rfl)) ?_
  refine AL_p rfl rfl (S_extract 0 rfl (AEv.tmp rfl) rfl) ?_
  refine AL_p rfl rfl (S_extract 1 rfl (AEv.tmp rfl) rfl) ?_
  refine AL_step rfl rfl (S_alloc [.int .i64 0, .int .i64 0, .int .i64 0] rfl (by kernel_rfl)) ?_
  rintro _ _ ⟨b2, rfl, rfl⟩
  refine AL_step rfl rfl (S_storeN 0 rfl (AEv.tmp rfl) (AEv.tmp rfl) rfl (by first | exact Nat.le_of_ble_eq_true rfl | (simp; omega) | simp) (by first | rfl | simp [AV.one, Value.oneCell']) (by kernel_rfl)) ?_
  rintro _ _ ⟨rfl, rfl⟩
  refine AL_p rfl rfl (S_assign rfl (AEv.tmp rfl)) ?_
  refine AL_nil ?_
  refine AC_seq ?_
  refine AC_region ?_
  refine AL_p rfl rfl (S_move rfl (AEv.tmp rfl)) ?_
  refine AL_p rfl rfl (S_move rfl (AEv.tmp rfl)) ?_
  refine AL_g rfl rfl (AEv.tmp rfl) rfl (fun hg3 => S_loadN (m := 3) 1 rfl (AEv.tmp rfl) rfl (by kernel_rfl) (by first | exact Nat.le_of_ble_eq_true rfl | (simp; omega) | simp)) ?_
  refine AL_g rfl rfl (AEv.tmp rfl) rfl (fun hg6 => S_pcall rfl (AEvs.cons (AEv.cond (AEv.tmp rfl) (by first | assumption | exact gdAnd (by assumption) (by assumption))) AEvs.nil) (res_Text_ok (addR (1, 2, 3) (4, 5, 6)).1 (by decide))) ?_
  refine AL_g rfl rfl (AEv.tmp rfl) rfl (fun hg9 => S_eqS rfl (AEv.cond (AEv.tmp rfl) (by first | assumption | exact gdAnd (by assumption) (by assumption))) (AEv.S _)) ?_
  refine AL_p rfl rfl (S_and rfl (AEv.tmp rfl) (fun hp12 => (AEv.cond (AEv.tmp rfl) (by first | assumption | exact gdT hp12 | exact gdF hp12 | exact gdAnd (by assumption) (gdT hp12) | exact gdAnd (by assumption) (gdF hp12))))) ?_
  refine AL_p rfl rfl (S_move rfl (AEv.tmp rfl)) ?_
  refine AL_g rfl rfl (AEv.tmp rfl) rfl (fun hg13 => S_move rfl (AEv.tmp rfl)) ?_
  refine AL_g rfl rfl (AEv.tmp rfl) rfl (fun hg16 => S_not rfl (AEv.cond (AEv.tmp rfl) (by first | assumption | exact gdAnd (by assumption) (by assumption)))) ?_
  refine AL_p rfl rfl (S_and rfl (AEv.tmp rfl) (fun hp19 => (AEv.cond (AEv.tmp rfl) (by first | assumption | exact gdT hp19 | exact gdF hp19 | exact gdAnd (by assumption) (gdT hp19) | exact gdAnd (by assumption) (gdF hp19))))) ?_
  refine AL_p rfl rfl (S_move rfl (AEv.tmp rfl)) ?_
  refine AL_g rfl rfl (AEv.tmp rfl) rfl (fun hg20 => S_build (pl := [(0, 1), (1, 1), (2, 1)]) (zs := [.int .i64 0, .int .i64 0, .int .i64 0]) rfl (AEvs.cons (AEv.const _) AEvs.nil) (by kernel_rfl) rfl) ?_
  refine AL_g rfl rfl (AEv.tmp rfl) rfl (fun hg23 => S_loadN (m := 3) 1 rfl (AEv.tmp rfl) rfl (by kernel_rfl) (by first | exact Nat.le_of_ble_eq_true rfl | (simp; omega) | simp)) ?_
  refine AL_g rfl rfl (AEv.tmp rfl) rfl (fun hg26 => S_pcall rfl (AEvs.cons (AEv.cond (AEv.tmp rfl) (by first | assumption | exact gdAnd (by assumption) (by assumption))) (AEvs.cons (AEv.cond (AEv.tmp rfl) (by first | assumption | exact gdAnd (by assumption) (by assumption))) AEvs.nil)) (res_Fits_ok (1, 0, 0) (addR (1, 2, 3) (4, 5, 6)).1 (by decide) (by decide))) ?_
  refine AL_p rfl rfl (S_and rfl (AEv.tmp rfl) (fun hp29 => (AEv.cond (AEv.tmp rfl) (by first | assumption | exact gdT hp29 | exact gdF hp29 | exact gdAnd (by assumption) (gdT hp29) | exact gdAnd (by assumption) (gdF hp29))))) ?_
  refine AL_p rfl rfl (S_move rfl (AEv.tmp rfl)) ?_
  refine AL_g rfl rfl (AEv.tmp rfl) rfl (fun hg30 => S_loadN (m := 3) 1 rfl (AEv.tmp rfl) rfl (by kernel_rfl) (by first | exact Nat.le_of_ble_eq_true rfl | (simp; omega) | simp)) ?_
  refine AL_g rfl rfl (AEv.tmp rfl) rfl (fun hg33 => S_build (pl := [(0, 1), (1, 1), (2, 1)]) (zs := [.int .i64 0, .int .i64 0, .int .i64 0]) rfl (AEvs.cons (AEv.const _) AEvs.nil) (by kernel_rfl) rfl) ?_
  refine AL_g rfl rfl (AEv.tmp rfl) rfl (fun hg36 => S_pcall rfl (AEvs.cons (AEv.cond (AEv.tmp rfl) (by first | assumption | exact gdAnd (by assumption) (by assumption))) (AEvs.cons (AEv.cond (AEv.tmp rfl) (by first | assumption | exact gdAnd (by assumption) (by assumption))) AEvs.nil)) (res_Fits_ok (addR (1, 2, 3) (4, 5, 6)).1 (99, 0, 0) (by decide) (by decide))) ?_
  refine AL_g rfl rfl (AEv.tmp rfl) rfl (fun hg39 => S_not rfl (AEv.cond (AEv.tmp rfl) (by first | assumption | exact gdAnd (by assumption) (by assumption)))) ?_
  refine AL_p rfl rfl (S_and rfl (AEv.tmp rfl) (fun hp42 => (AEv.cond (AEv.tmp rfl) (by first | assumption | exact gdT hp42 | exact gdF hp42 | exact gdAnd (by assumption) (gdT hp42) | exact gdAnd (by assumption) (gdF hp42))))) ?_
  refine AL_p rfl rfl (S_assign rfl (AEv.tmp rfl)) ?_
  refine AL_nil ?_
  refine AC_ret ?_
  refine ret_tmp st rfl rfl (Sub.l (List.Sublist.cons _ (List.Sublist.cons _ (List.Sublist.refl _)))) (Conv.refl (Sub.l (List.Sublist.cons _ (List.Sublist.cons _ (List.Sublist.refl _)))) _) ⟨by rw [e1, e2, e3]; rfl, rfl⟩ (.inl rfl)

end Go.Proofs.YtnjlecejhnoicaaDoor
