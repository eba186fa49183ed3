/- A part of the proof: what the program's functions answer.
Conditions: none beyond each theorem's own. -/
import Derived.Test.YtfmiciodcimkeaaGreatDoorW2
/-
The walks of Go functions in the logic AL: what each of them answers.
Conditions: those of each theorem.
-/
set_option linter.unusedVariables false
set_option linter.unusedSimpArgs false
namespace Go.Proofs.YtfmiciodcimkeaaGreatDoor
open Go.AL Go.NumSpec

set_option maxRecDepth 100000 in
/-- provost/wire.Read -/
theorem wire_Read_ok (s : List UInt8) (F : St) : ACalls Tryz.prog 24 [.S s] ([] ++ F) (fun x st' => ∃ foot', (∃ b, x = .ptr b 0 ∧ foot' = [(b, Ob.cells [.S (s), .int .i64 (0)])]) ∧ st' = foot' ++ F) := by
  refine ACalls_of (N := 6) Tryz.func24 (by kernel_rfl) rfl rfl rfl ?_
  refine AC_seq ?_
  refine AC_region ?_
  refine AL_p rfl rfl (S_assign rfl (AEv.const _)) ?_
  refine AL_nil ?_
  refine AC_seq ?_
  refine AC_region ?_
  refine AL_p rfl rfl (S_move rfl (.tmp rfl)) ?_
  refine AL_p rfl rfl (S_build (t := 117) (pl := [(0, 1), (1, 1)]) (zs := [.string ⟨#[]⟩, .int .i64 0]) rfl (AEvs.cons (.tmp rfl) AEvs.nil) (by kernel_rfl) rfl) ?_
  refine AL_step rfl rfl (S_box rfl (.tmp rfl)) ?_
  rintro _ _ ⟨b1, rfl, rfl⟩
  refine AL_p rfl rfl (S_assign rfl (.tmp rfl)) ?_
  refine AL_nil ?_
  refine AC_ret ?_
  refine ret_tmp ([(b1, Ob.cells [.S (s), .int .i64 (0)])] ++ F) rfl rfl (Sub.l (List.Sublist.refl _)) (Conv.refl (Sub.l (List.Sublist.refl _)) _) ⟨_, ⟨b1, rfl, rfl⟩, rfl⟩ (.inl rfl)

set_option maxRecDepth 100000 in
/-- (*provost/wire.Reader).Left -/
theorem r_Left_ok (b : Nat) (s : List UInt8) (c : Int) (F : St) : ACalls Tryz.prog 31 [.ptr b 0] ([(b, Ob.cells [.S (s), .int .i64 (c)])] ++ F) (fun x st' => ∃ foot', (x = .int .i64 (s.length : Int) ∧ foot' = [(b, Ob.cells [.S (s), .int .i64 (c)])]) ∧ st' = foot' ++ F) := by
  refine ACalls_of (N := 8) Tryz.func31 (by kernel_rfl) rfl rfl rfl ?_
  refine AC_seq ?_
  refine AC_region ?_
  refine AL_p rfl rfl (S_assign rfl (AEv.const _)) ?_
  refine AL_nil ?_
  refine AC_seq ?_
  refine AC_region ?_
  refine AL_p rfl rfl (S_move rfl (.tmp rfl)) ?_
  refine AL_p rfl rfl (S_nilCheck rfl (.tmp rfl)) ?_
  refine AL_p rfl rfl (S_field 0 rfl (.tmp rfl) (by kernel_rfl)) ?_
  refine AL_p rfl rfl (S_load 0 rfl (.tmp rfl) rfl rfl (by kernel_rfl)) ?_
  refine AL_p rfl rfl (S_lenS (ts := #[]) rfl (.tmp rfl) (by kernel_rfl)) ?_
  refine AL_p rfl rfl (S_assign rfl (.tmp rfl)) ?_
  refine AL_nil ?_
  refine AC_ret ?_
  refine ret_tmp ([(b, Ob.cells [.S (s), .int .i64 (c)])] ++ F) rfl rfl (Sub.l (List.Sublist.refl _)) (Conv.refl (Sub.l (List.Sublist.refl _)) _) ⟨_, ⟨rfl, rfl⟩, rfl⟩ (.inl rfl)

set_option maxRecDepth 100000 in
/-- (*provost/wire.Reader).Code -/
theorem r_Code_ok (b : Nat) (s : List UInt8) (c : Int) (F : St) : ACalls Tryz.prog 30 [.ptr b 0] ([(b, Ob.cells [.S (s), .int .i64 (c)])] ++ F) (fun x st' => ∃ foot', (x = .int .i64 c ∧ foot' = [(b, Ob.cells [.S (s), .int .i64 (c)])]) ∧ st' = foot' ++ F) := by
  refine ACalls_of (N := 8) Tryz.func30 (by kernel_rfl) rfl rfl rfl ?_
  refine AC_seq ?_
  refine AC_region ?_
  refine AL_p rfl rfl (S_assign rfl (AEv.const _)) ?_
  refine AL_nil ?_
  refine AC_seq ?_
  refine AC_region ?_
  refine AL_p rfl rfl (S_move rfl (.tmp rfl)) ?_
  refine AL_p rfl rfl (S_nilCheck rfl (.tmp rfl)) ?_
  refine AL_p rfl rfl (S_field 1 rfl (.tmp rfl) (by kernel_rfl)) ?_
  refine AL_p rfl rfl (S_field 0 rfl (.tmp rfl) (by kernel_rfl)) ?_
  refine AL_p rfl rfl (S_load 0 rfl (.tmp rfl) rfl rfl (by kernel_rfl)) ?_
  refine AL_p rfl rfl (S_assign rfl (.tmp rfl)) ?_
  refine AL_nil ?_
  refine AC_ret ?_
  refine ret_tmp ([(b, Ob.cells [.S (s), .int .i64 (c)])] ++ F) rfl rfl (Sub.l (List.Sublist.refl _)) (Conv.refl (Sub.l (List.Sublist.refl _)) _) ⟨_, ⟨rfl, rfl⟩, rfl⟩ (.inl rfl)

set_option maxRecDepth 100000 in
/-- (*provost/wire.Reader).End -/
theorem r_End_ok (b : Nat) (s : List UInt8) (c : Int) (F : St) : ACalls Tryz.prog 58 [.ptr b 0] ([(b, Ob.cells [.S (s), .int .i64 (c)])] ++ F) (fun x st' => ∃ foot', (x = .int .i64 (endR s c) ∧ foot' = [(b, Ob.cells [.S (s), .int .i64 (endR s c)])]) ∧ st' = foot' ++ F) := by
  refine ACalls_of (N := 18) Tryz.func58 (by kernel_rfl) rfl rfl rfl ?_
  refine AC_seq ?_
  refine AC_region ?_
  refine AL_p rfl rfl (S_assign rfl (AEv.const _)) ?_
  refine AL_nil ?_
  refine AC_seq ?_
  refine AC_seq ?_
  refine AC_region ?_
  refine AL_p rfl rfl (S_move rfl (.tmp rfl)) ?_
  refine AL_p rfl rfl (S_nilCheck rfl (.tmp rfl)) ?_
  refine AL_p rfl rfl (S_field 0 rfl (.tmp rfl) (by kernel_rfl)) ?_
  refine AL_p rfl rfl (S_load 0 rfl (.tmp rfl) rfl rfl (by kernel_rfl)) ?_
  refine AL_p rfl rfl (S_lenS (ts := #[]) rfl (.tmp rfl) (by kernel_rfl)) ?_
  refine AL_p rfl rfl (S_gtr rfl (.tmp rfl) (AEv.const _)) ?_
  refine AL_nil ?_
  refine AC_cond (.tmp rfl) (fun hb1 => ?_) (fun hb1 => ?_)
  · try simp only [zA, zO, zN, zM, zP, zQ, zD, zF, gd] at hb1
    have he : endR s c = failC c 3 := by rw [endR, if_pos (by intro h; subst h; simp at hb1)]
    refine AC_region ?_
    refine AL_p rfl rfl (S_move rfl (.tmp rfl)) ?_
    refine AL_p rfl rfl (S_nilCheck rfl (.tmp rfl)) ?_
    refine AL_p rfl rfl (S_field 1 rfl (.tmp rfl) (by kernel_rfl)) ?_
    refine AL_step rfl rfl (S_call rfl (AEvs.cons (.tmp rfl) (AEvs.cons (AEv.const _) AEvs.nil)) (sticks_Fail_ok b 1 _ c 3 rfl _)) ?_
    rintro _ _ ⟨rfl, rfl⟩
    refine AL_nil ?_
    refine AC_seq ?_
    refine AC_region ?_
    refine AL_p rfl rfl (S_move rfl (.tmp rfl)) ?_
    refine AL_p rfl rfl (S_nilCheck rfl (.tmp rfl)) ?_
    refine AL_p rfl rfl (S_field 1 rfl (.tmp rfl) (by kernel_rfl)) ?_
    refine AL_p rfl rfl (S_field 0 rfl (.tmp rfl) (by kernel_rfl)) ?_
    refine AL_p rfl rfl (S_load 0 rfl (.tmp rfl) rfl rfl (by kernel_rfl)) ?_
    refine AL_p rfl rfl (S_assign rfl (.tmp rfl)) ?_
    refine AL_nil ?_
    refine AC_ret ?_
    refine ret_tmp ([(b, Ob.cells [.S (s), .int .i64 (failC c 3)])] ++ F) rfl rfl (Sub.l (List.Sublist.refl _)) (Conv.refl (Sub.l (List.Sublist.refl _)) _) ⟨_, ⟨by rw [he] <;> rfl, by rw [he] <;> rfl⟩, rfl⟩ (.inl rfl)
  try simp only [zA, zO, zN, zM, zP, zQ, zD, zF, gd] at hb1
  have hs : s = [] := List.eq_nil_of_length_eq_zero (by omega)
  have he : endR s c = c := by rw [endR, if_neg (by simp [hs])]
  refine AC_skip ?_
  refine AC_seq ?_
  refine AC_region ?_
  refine AL_p rfl rfl (S_move rfl (.tmp rfl)) ?_
  refine AL_p rfl rfl (S_nilCheck rfl (.tmp rfl)) ?_
  refine AL_p rfl rfl (S_field 1 rfl (.tmp rfl) (by kernel_rfl)) ?_
  refine AL_p rfl rfl (S_field 0 rfl (.tmp rfl) (by kernel_rfl)) ?_
  refine AL_p rfl rfl (S_load 0 rfl (.tmp rfl) rfl rfl (by kernel_rfl)) ?_
  refine AL_p rfl rfl (S_assign rfl (.tmp rfl)) ?_
  refine AL_nil ?_
  refine AC_ret ?_
  refine ret_tmp ([(b, Ob.cells [.S (s), .int .i64 (c)])] ++ F) rfl rfl (Sub.l (List.Sublist.refl _)) (Conv.refl (Sub.l (List.Sublist.refl _)) _) ⟨_, ⟨by rw [he] <;> rfl, by rw [he] <;> rfl⟩, rfl⟩ (.inl rfl)

set_option maxRecDepth 100000 in
/-- (*provost/wire.Reader).lacks -/
theorem r_lacks_ok (b : Nat) (s : List UInt8) (c : Int) (F : St) : ACalls Tryz.prog 129 [.ptr b 0] ([(b, Ob.cells [.S (s), .int .i64 (c)])] ++ F) (fun x st' => ∃ foot', (x = .bool (lacksV s) ∧ foot' = [(b, Ob.cells [.S (s), .int .i64 (c)])]) ∧ st' = foot' ++ F) := by
  refine ACalls_of (N := 27) Tryz.func129 (by kernel_rfl) rfl rfl rfl ?_
  refine AC_seq ?_
  refine AC_region ?_
  refine AL_p rfl rfl (S_assign rfl (AEv.const _)) ?_
  refine AL_nil ?_
  refine AC_seq ?_
  refine AC_seq ?_
  refine AC_region ?_
  refine AL_p rfl rfl (S_move rfl (.tmp rfl)) ?_
  refine AL_p rfl rfl (S_nilCheck rfl (.tmp rfl)) ?_
  refine AL_p rfl rfl (S_field 0 rfl (.tmp rfl) (by kernel_rfl)) ?_
  refine AL_p rfl rfl (S_load 0 rfl (.tmp rfl) rfl rfl (by kernel_rfl)) ?_
  refine AL_p rfl rfl (S_lenS (ts := #[]) rfl (.tmp rfl) (by kernel_rfl)) ?_
  refine AL_p rfl rfl (S_min rfl (.tmp rfl) (AEv.const _)) ?_
  refine AL_p rfl rfl (S_move rfl (AEv.const _)) ?_
  refine AL_nil ?_
  refine AC_block ?_
  refine AC_loop (G := Nat) (fun k => (k : Int) ≤ min (s.length : Int) 10 ∧ ∀ i : Nat, i < k → 128 ≤ (s.getD i 0).toNat) (fun k => [(0, .ptr b 0), (9, .int .i64 (min (s.length : Int) 10)), (10, .int .i64 (k : Int))]) (fun k => ([(b, Ob.cells [.S (s), .int .i64 (c)])] ++ F)) (fun k => 10 - k) (0) (⟨by omega, fun i hi => by omega⟩) rfl ?_ ?_
  · exact (.cons rfl (by first | exact Le.refl _ | exact Le.nils | exact Le.row _ _ _ _ | (exact Le.of_eq (by simp))) (.cons rfl (by first | exact Le.refl _ | exact Le.nils | exact Le.row _ _ _ _ | (exact Le.of_eq (by simp))) (.cons rfl (by first | exact Le.refl _ | exact Le.nils | exact Le.row _ _ _ _ | (exact Le.of_eq (by simp))) .nil)))
  rintro k ⟨hk, hall⟩
  try dsimp only
  have hat := atL_nat s k
  refine AC_seq ?_
  refine AC_region ?_
  refine AL_p rfl rfl (S_lss rfl (.tmp rfl) (.tmp rfl)) ?_
  refine AL_nil ?_
  refine AC_seq ?_
  refine AC_cond (.tmp rfl) (fun hb1 => ?_) (fun hb1 => ?_)
  · try simp only [zA, zO, zN, zM, zP, zQ, zD, zF, gd] at hb1
    have hk1 : k < s.length := by omega
    have hk2 : k < 10 := by omega
    refine AC_skip ?_
    refine AC_seq ?_
    refine AC_block ?_
    refine AC_seq ?_
    refine AC_region ?_
    refine AL_p rfl rfl (S_move rfl (.tmp rfl)) ?_
    refine AL_p rfl rfl (S_assign rfl (.tmp rfl)) ?_
    refine AL_nil ?_
    refine AC_seq ?_
    refine AC_region ?_
    refine AL_p rfl rfl (S_move rfl (.tmp rfl)) ?_
    refine AL_p rfl rfl (S_nilCheck rfl (.tmp rfl)) ?_
    refine AL_p rfl rfl (S_field 0 rfl (.tmp rfl) (by kernel_rfl)) ?_
    refine AL_p rfl rfl (S_load 0 rfl (.tmp rfl) rfl rfl (by kernel_rfl)) ?_
    refine AL_p rfl rfl (S_move rfl (.tmp rfl)) ?_
    refine AL_p rfl rfl (S_index rfl (.tmp rfl) (.tmp rfl) (by kernel_rfl) (by omega) (by omega)) ?_
    refine AL_p rfl rfl (S_lss rfl (.tmp rfl) (AEv.const _)) ?_
    refine AL_nil ?_
    refine AC_cond (.tmp rfl) (fun hb2 => ?_) (fun hb2 => ?_)
    · try simp only [zA, zO, zN, zM, zP, zQ, zD, zF, gd] at hb2
      have hl := lacks_false hk1 hk2 (by omega)
      refine AC_seq ?_
      refine AC_region ?_
      refine AL_p rfl rfl (S_assign rfl (AEv.const _)) ?_
      refine AL_nil ?_
      refine AC_ret ?_
      refine ret_tmp ([(b, Ob.cells [.S (s), .int .i64 (c)])] ++ F) rfl rfl (Sub.l (List.Sublist.refl _)) (Conv.refl (Sub.l (List.Sublist.refl _)) _) ⟨_, ⟨by rw [hl], rfl⟩, rfl⟩ (.inl rfl)
    try simp only [zA, zO, zN, zM, zP, zQ, zD, zF, gd] at hb2
    refine AC_skip ?_
    refine AC_region ?_
    refine AL_p rfl rfl (S_addI rfl (.tmp rfl) (AEv.const _) (by omega) (by omega)) ?_
    refine AL_p rfl rfl (S_move rfl (.tmp rfl)) ?_
    refine AL_nil ?_
    refine ⟨k + 1, ⟨by omega, fun i hi => ?_⟩, by omega, rfl, .cons rfl (Le.refl _) (.cons rfl (Le.refl _) (.cons rfl (Le.of_eq (by rw [Int.natCast_add]; rfl)) .nil))⟩
    rcases Nat.lt_or_ge i k with h | h
    · exact hall i h
    · obtain rfl : i = k := by omega
      omega
  try simp only [zA, zO, zN, zM, zP, zQ, zD, zF, gd] at hb1
  have hl := lacks_end hall (by omega)
  refine AC_exit ?_
  refine AC_seq ?_
  refine AC_region ?_
  refine AL_p rfl rfl (S_move rfl (.tmp rfl)) ?_
  refine AL_p rfl rfl (S_nilCheck rfl (.tmp rfl)) ?_
  refine AL_p rfl rfl (S_field 0 rfl (.tmp rfl) (by kernel_rfl)) ?_
  refine AL_p rfl rfl (S_load 0 rfl (.tmp rfl) rfl rfl (by kernel_rfl)) ?_
  refine AL_p rfl rfl (S_lenS (ts := #[]) rfl (.tmp rfl) (by kernel_rfl)) ?_
  refine AL_p rfl rfl (S_lss rfl (.tmp rfl) (AEv.const _)) ?_
  refine AL_p rfl rfl (S_assign rfl (.tmp rfl)) ?_
  refine AL_nil ?_
  refine AC_ret ?_
  refine ret_tmp ([(b, Ob.cells [.S (s), .int .i64 (c)])] ++ F) rfl rfl (Sub.l (List.Sublist.refl _)) (Conv.refl (Sub.l (List.Sublist.refl _)) _) ⟨_, ⟨by rw [hl], rfl⟩, rfl⟩ (.inl rfl)

set_option maxRecDepth 100000 in
/-- (*provost/wire.Reader).Big -/
theorem r_Big_ok (b : Nat) (s : List UInt8) (c : Int) (F : St) : ACalls Tryz.prog 107 [.ptr b 0] ([(b, Ob.cells [.S (s), .int .i64 (c)])] ++ F) (fun x st' => ∃ foot', (x = .int .u64 ((bigR s c).1 : Int) ∧ foot' = [(b, Ob.cells [.S ((bigR s c).2.1), .int .i64 ((bigR s c).2.2)])]) ∧ st' = foot' ++ F) := by
  refine ACalls_of (N := 41) Tryz.func107 (by kernel_rfl) rfl rfl rfl ?_
  have hle := takeV_le s
  refine AC_seq ?_
  refine AC_region ?_
  refine AL_p rfl rfl (S_assign rfl (AEv.const _)) ?_
  refine AL_nil ?_
  refine AC_seq ?_
  refine AC_seq ?_
  refine AC_region ?_
  refine AL_p rfl rfl (S_move rfl (.tmp rfl)) ?_
  refine AL_p rfl rfl (S_nilCheck rfl (.tmp rfl)) ?_
  refine AL_p rfl rfl (S_field 1 rfl (.tmp rfl) (by kernel_rfl)) ?_
  refine AL_p rfl rfl (S_field 0 rfl (.tmp rfl) (by kernel_rfl)) ?_
  refine AL_p rfl rfl (S_load 0 rfl (.tmp rfl) rfl rfl (by kernel_rfl)) ?_
  refine AL_p rfl rfl (S_neq rfl (.tmp rfl) (AEv.const _)) ?_
  refine AL_nil ?_
  refine AC_cond (.tmp rfl) (fun hb1 => ?_) (fun hb1 => ?_)
  · try simp only [zA, zO, zN, zM, zP, zQ, zD, zF, gd] at hb1
    have he := bigR_err (s := s) (c := c) (by omega)
    refine AC_seq ?_
    refine AC_region ?_
    refine AL_p rfl rfl (S_assign rfl (AEv.const _)) ?_
    refine AL_nil ?_
    refine AC_ret ?_
    refine ret_tmp ([(b, Ob.cells [.S (s), .int .i64 (c)])] ++ F) rfl rfl (Sub.l (List.Sublist.refl _)) (Conv.refl (Sub.l (List.Sublist.refl _)) _) ⟨_, ⟨by rw [he] <;> rfl, by rw [he] <;> rfl⟩, rfl⟩ (.inl rfl)
  try simp only [zA, zO, zN, zM, zP, zQ, zD, zF, gd] at hb1
  have hc : c = 0 := by omega
  subst hc
  refine AC_skip ?_
  refine AC_seq ?_
  refine AC_seq ?_
  refine AC_region ?_
  refine AL_p rfl rfl (S_move rfl (.tmp rfl)) ?_
  refine AL_step rfl rfl (S_call rfl (AEvs.cons (.tmp rfl) AEvs.nil) (r_lacks_ok b s _ F)) ?_
  rintro _ _ ⟨_, ⟨rfl, rfl⟩, rfl⟩
  refine AL_nil ?_
  refine AC_cond (.tmp rfl) (fun hb2 => ?_) (fun hb2 => ?_)
  · try simp only [zA, zO, zN, zM, zP, zQ, zD, zF, gd] at hb2
    have he := bigR_lack (s := s) hb2
    refine AC_seq ?_
    refine AC_region ?_
    refine AL_p rfl rfl (S_move rfl (.tmp rfl)) ?_
    refine AL_p rfl rfl (S_nilCheck rfl (.tmp rfl)) ?_
    refine AL_p rfl rfl (S_field 1 rfl (.tmp rfl) (by kernel_rfl)) ?_
    refine AL_step rfl rfl (S_call rfl (AEvs.cons (.tmp rfl) (AEvs.cons (AEv.const _) AEvs.nil)) (sticks_Fail_ok b 1 _ _ 40 rfl _)) ?_
    rintro _ _ ⟨rfl, rfl⟩
    refine AL_nil ?_
    refine AC_seq ?_
    refine AC_region ?_
    refine AL_p rfl rfl (S_assign rfl (AEv.const _)) ?_
    refine AL_nil ?_
    refine AC_ret ?_
    refine ret_tmp ([(b, Ob.cells [.S (s), .int .i64 (40)])] ++ F) rfl rfl (Sub.l (List.Sublist.refl _)) (Conv.refl (Sub.l (List.Sublist.refl _)) _) ⟨_, ⟨by rw [he] <;> rfl, by rw [he] <;> rfl⟩, rfl⟩ (.inl rfl)
  try simp only [zA, zO, zN, zM, zP, zQ, zD, zF, gd] at hb2
  have hl : lacksV s = false := hb2
  refine AC_skip ?_
  refine AC_seq ?_
  refine AC_region ?_
  refine AL_p rfl rfl (S_move rfl (.tmp rfl)) ?_
  refine AL_p rfl rfl (S_nilCheck rfl (.tmp rfl)) ?_
  refine AL_p rfl rfl (S_field 0 rfl (.tmp rfl) (by kernel_rfl)) ?_
  refine AL_p rfl rfl (S_load 0 rfl (.tmp rfl) rfl rfl (by kernel_rfl)) ?_
  refine AL_p rfl rfl (S_pcall rfl (AEvs.cons (.tmp rfl) AEvs.nil) (num_Take_ok _)) ?_
  refine AL_p rfl rfl (S_move rfl (.tmp rfl)) ?_
  refine AL_p rfl rfl (S_extract 0 rfl (.tmp rfl) rfl) ?_
  refine AL_p rfl rfl (S_extract 1 rfl (.tmp rfl) rfl) ?_
  refine AL_p rfl rfl (S_assign rfl (.tmp rfl)) ?_
  refine AL_p rfl rfl (S_assign rfl (.tmp rfl)) ?_
  refine AL_nil ?_
  refine AC_seq ?_
  refine AC_seq ?_
  refine AC_region ?_
  refine AL_p rfl rfl (S_move rfl (.tmp rfl)) ?_
  refine AL_p rfl rfl (S_eql rfl (.tmp rfl) (AEv.const _)) ?_
  refine AL_nil ?_
  refine AC_cond (.tmp rfl) (fun hb3 => ?_) (fun hb3 => ?_)
  · try simp only [zA, zO, zN, zM, zP, zQ, zD, zF, gd] at hb3
    have he := bigR_form hl (by omega)
    refine AC_seq ?_
    refine AC_region ?_
    refine AL_p rfl rfl (S_move rfl (.tmp rfl)) ?_
    refine AL_p rfl rfl (S_nilCheck rfl (.tmp rfl)) ?_
    refine AL_p rfl rfl (S_field 1 rfl (.tmp rfl) (by kernel_rfl)) ?_
    refine AL_step rfl rfl (S_call rfl (AEvs.cons (.tmp rfl) (AEvs.cons (AEv.const _) AEvs.nil)) (sticks_Fail_ok b 1 _ _ 3 rfl _)) ?_
    rintro _ _ ⟨rfl, rfl⟩
    refine AL_nil ?_
    refine AC_seq ?_
    refine AC_region ?_
    refine AL_p rfl rfl (S_assign rfl (AEv.const _)) ?_
    refine AL_nil ?_
    refine AC_ret ?_
    refine ret_tmp ([(b, Ob.cells [.S (s), .int .i64 (3)])] ++ F) rfl rfl (Sub.l (List.Sublist.refl _)) (Conv.refl (Sub.l (List.Sublist.refl _)) _) ⟨_, ⟨by rw [he] <;> rfl, by rw [he] <;> rfl⟩, rfl⟩ (.inl rfl)
  try simp only [zA, zO, zN, zM, zP, zQ, zD, zF, gd] at hb3
  have he := bigR_ok hl (by omega)
  refine AC_skip ?_
  refine AC_seq ?_
  refine AC_region ?_
  refine AL_p rfl rfl (S_move rfl (.tmp rfl)) ?_
  refine AL_p rfl rfl (S_move rfl (.tmp rfl)) ?_
  refine AL_p rfl rfl (S_nilCheck rfl (.tmp rfl)) ?_
  refine AL_p rfl rfl (S_field 0 rfl (.tmp rfl) (by kernel_rfl)) ?_
  refine AL_p rfl rfl (S_load 0 rfl (.tmp rfl) rfl rfl (by kernel_rfl)) ?_
  refine AL_p rfl rfl (S_move rfl (.tmp rfl)) ?_
  refine AL_p rfl rfl (S_sliceL rfl (.tmp rfl) (.tmp rfl) (by kernel_rfl) (by omega) (by omega)) ?_
  refine AL_p rfl rfl (S_nilCheck rfl (.tmp rfl)) ?_
  refine AL_p rfl rfl (S_field 0 rfl (.tmp rfl) (by kernel_rfl)) ?_
  refine AL_step rfl rfl (S_store 0 rfl (.tmp rfl) (.tmp rfl) rfl (by first | exact Nat.le_of_ble_eq_true rfl | simp) rfl (by kernel_rfl)) ?_
  rintro _ _ ⟨rfl, rfl⟩
  refine AL_nil ?_
  refine AC_seq ?_
  refine AC_region ?_
  refine AL_p rfl rfl (S_move rfl (.tmp rfl)) ?_
  refine AL_p rfl rfl (S_assign rfl (.tmp rfl)) ?_
  refine AL_nil ?_
  refine AC_ret ?_
  refine ret_tmp ([(b, Ob.cells [.S (s.drop (takeV s).2), .int .i64 (0)])] ++ F) rfl rfl (Sub.l (List.Sublist.refl _)) (Conv.refl (Sub.l (List.Sublist.refl _)) _) ⟨_, ⟨by rw [he] <;> rfl, by rw [he] <;> rfl⟩, rfl⟩ (.inl rfl)

set_option maxRecDepth 100000 in
/-- (*provost/wire.Reader).Num -/
theorem r_Num_ok (b : Nat) (s : List UInt8) (c : Int) (most : Int) (hm : fits most) (F : St) : ACalls Tryz.prog 73 [.ptr b 0, .int .i64 most] ([(b, Ob.cells [.S (s), .int .i64 (c)])] ++ F) (fun x st' => ∃ foot', (x = .int .i64 (numR s c most).1 ∧ foot' = [(b, Ob.cells [.S ((numR s c most).2.1), .int .i64 ((numR s c most).2.2)])]) ∧ st' = foot' ++ F) := by
  refine ACalls_of (N := 42) Tryz.func73 (by kernel_rfl) rfl rfl rfl ?_
  have hlt := bigR_lt s c
  unfold fits at hm
  have hw := u64w (max most 0)
  refine AC_seq ?_
  refine AC_region ?_
  refine AL_p rfl rfl (S_assign rfl (AEv.const _)) ?_
  refine AL_nil ?_
  refine AC_seq ?_
  refine AC_region ?_
  refine AL_p rfl rfl (S_move rfl (.tmp rfl)) ?_
  refine AL_p rfl rfl (S_nilCheck rfl (.tmp rfl)) ?_
  refine AL_p rfl rfl (S_field 0 rfl (.tmp rfl) (by kernel_rfl)) ?_
  refine AL_p rfl rfl (S_load 0 rfl (.tmp rfl) rfl rfl (by kernel_rfl)) ?_
  refine AL_p rfl rfl (S_assign rfl (.tmp rfl)) ?_
  refine AL_nil ?_
  refine AC_seq ?_
  refine AC_region ?_
  refine AL_p rfl rfl (S_move rfl (.tmp rfl)) ?_
  refine AL_step rfl rfl (S_call rfl (AEvs.cons (.tmp rfl) AEvs.nil) (r_Big_ok b s c F)) ?_
  rintro _ _ ⟨_, ⟨rfl, rfl⟩, rfl⟩
  refine AL_p rfl rfl (S_assign rfl (.tmp rfl)) ?_
  refine AL_nil ?_
  refine AC_seq ?_
  refine AC_seq ?_
  refine AC_region ?_
  refine AL_p rfl rfl (S_move rfl (.tmp rfl)) ?_
  refine AL_p rfl rfl (S_nilCheck rfl (.tmp rfl)) ?_
  refine AL_p rfl rfl (S_field 1 rfl (.tmp rfl) (by kernel_rfl)) ?_
  refine AL_p rfl rfl (S_field 0 rfl (.tmp rfl) (by kernel_rfl)) ?_
  refine AL_p rfl rfl (S_load 0 rfl (.tmp rfl) rfl rfl (by kernel_rfl)) ?_
  refine AL_p rfl rfl (S_eql rfl (.tmp rfl) (AEv.const _)) ?_
  refine AL_p rfl rfl (S_move rfl (.tmp rfl)) ?_
  refine AL_g rfl rfl (.tmp rfl) rfl (fun hg1 => S_move rfl (.tmp rfl)) ?_
  refine AL_g rfl rfl (.tmp rfl) rfl (fun hg4 => S_move rfl (.tmp rfl)) ?_
  refine AL_g rfl rfl (.tmp rfl) rfl (fun hg7 => S_max rfl (AEv.cond (.tmp rfl) (by first | assumption | exact gdAnd (by assumption) (by assumption))) (AEv.const _)) ?_
  refine AL_g rfl rfl (.tmp rfl) rfl (fun hg10 => S_conv (k' := .u64) rfl (AEv.cond (.tmp rfl) (by first | assumption | exact gdAnd (by assumption) (by assumption))) (by kernel_rfl) (by kernel_rfl)) ?_
  refine AL_g rfl rfl (.tmp rfl) rfl (fun hg13 => S_gtr rfl (AEv.cond (.tmp rfl) (by first | assumption | exact gdAnd (by assumption) (by assumption))) (AEv.cond (.tmp rfl) (by first | assumption | exact gdAnd (by assumption) (by assumption)))) ?_
  refine AL_p rfl rfl (S_and rfl (.tmp rfl) (fun hp16 => (AEv.cond (.tmp rfl) (by first | assumption | exact gdT hp16 | exact gdF hp16 | exact gdAnd (by assumption) (gdT hp16) | exact gdAnd (by assumption) (gdF hp16))))) ?_
  refine AL_nil ?_
  refine AC_cond (.tmp rfl) (fun hb17 => ?_) (fun hb17 => ?_)
  · try simp only [zA, zO, zN, zM, zP, zQ, zD, zF, gd] at hb17
    have hc : (bigR s c).2.2 = 0 := by omega
    have he : numR s c most = (0, s, 2) := by rw [numR, if_pos ⟨hc, by omega⟩]
    rw [hc]
    refine AC_seq ?_
    refine AC_region ?_
    refine AL_p rfl rfl (S_move rfl (.tmp rfl)) ?_
    refine AL_p rfl rfl (S_move rfl (.tmp rfl)) ?_
    refine AL_p rfl rfl (S_nilCheck rfl (.tmp rfl)) ?_
    refine AL_p rfl rfl (S_field 0 rfl (.tmp rfl) (by kernel_rfl)) ?_
    refine AL_step rfl rfl (S_store 0 rfl (.tmp rfl) (.tmp rfl) rfl (by first | exact Nat.le_of_ble_eq_true rfl | simp) rfl (by kernel_rfl)) ?_
    rintro _ _ ⟨rfl, rfl⟩
    refine AL_nil ?_
    refine AC_region ?_
    refine AL_p rfl rfl (S_move rfl (.tmp rfl)) ?_
    refine AL_p rfl rfl (S_nilCheck rfl (.tmp rfl)) ?_
    refine AL_p rfl rfl (S_field 1 rfl (.tmp rfl) (by kernel_rfl)) ?_
    refine AL_step rfl rfl (S_call rfl (AEvs.cons (.tmp rfl) (AEvs.cons (AEv.const _) AEvs.nil)) (sticks_Fail_ok b 1 _ _ 2 rfl _)) ?_
    rintro _ _ ⟨rfl, rfl⟩
    refine AL_nil ?_
    refine AC_seq ?_
    refine AC_seq ?_
    refine AC_region ?_
    refine AL_p rfl rfl (S_move rfl (.tmp rfl)) ?_
    refine AL_p rfl rfl (S_nilCheck rfl (.tmp rfl)) ?_
    refine AL_p rfl rfl (S_field 1 rfl (.tmp rfl) (by kernel_rfl)) ?_
    refine AL_p rfl rfl (S_field 0 rfl (.tmp rfl) (by kernel_rfl)) ?_
    refine AL_p rfl rfl (S_load 0 rfl (.tmp rfl) rfl rfl (by kernel_rfl)) ?_
    refine AL_p rfl rfl (S_neq rfl (.tmp rfl) (AEv.const _)) ?_
    refine AL_nil ?_
    refine AC_cond (.tmp rfl) (fun hb18 => ?_) (fun hb18 => ?_)
    · try simp only [zA, zO, zN, zM, zP, zQ, zD, zF, gd] at hb18
      refine AC_seq ?_
      refine AC_region ?_
      refine AL_p rfl rfl (S_assign rfl (AEv.const _)) ?_
      refine AL_nil ?_
      refine AC_ret ?_
      refine ret_tmp ([(b, Ob.cells [.S (s), .int .i64 (2)])] ++ F) rfl rfl (Sub.l (List.Sublist.refl _)) (Conv.refl (Sub.l (List.Sublist.refl _)) _) ⟨_, ⟨by rw [he] <;> rfl, by rw [he] <;> rfl⟩, rfl⟩ (.inl rfl)
    exact absurd hb18 (by decide)
  try simp only [zA, zO, zN, zM, zP, zQ, zD, zF, gd] at hb17
  have hne : ¬ ((bigR s c).2.2 = 0 ∧ max most 0 < (bigR s c).1) := by omega
  refine AC_skip ?_
  refine AC_seq ?_
  refine AC_seq ?_
  refine AC_region ?_
  refine AL_p rfl rfl (S_move rfl (.tmp rfl)) ?_
  refine AL_p rfl rfl (S_nilCheck rfl (.tmp rfl)) ?_
  refine AL_p rfl rfl (S_field 1 rfl (.tmp rfl) (by kernel_rfl)) ?_
  refine AL_p rfl rfl (S_field 0 rfl (.tmp rfl) (by kernel_rfl)) ?_
  refine AL_p rfl rfl (S_load 0 rfl (.tmp rfl) rfl rfl (by kernel_rfl)) ?_
  refine AL_p rfl rfl (S_neq rfl (.tmp rfl) (AEv.const _)) ?_
  refine AL_nil ?_
  refine AC_cond (.tmp rfl) (fun hb19 => ?_) (fun hb19 => ?_)
  · try simp only [zA, zO, zN, zM, zP, zQ, zD, zF, gd] at hb19
    refine AC_seq ?_
    refine AC_region ?_
    refine AL_p rfl rfl (S_assign rfl (AEv.const _)) ?_
    refine AL_nil ?_
    refine AC_ret ?_
    refine ret_tmp ([(b, Ob.cells [.S ((bigR s c).2.1), .int .i64 ((bigR s c).2.2)])] ++ F) rfl rfl (Sub.l (List.Sublist.refl _)) (Conv.refl (Sub.l (List.Sublist.refl _)) _) ⟨_, ⟨by rw [numR, if_neg hne, if_pos (by assumption)], by rw [numR, if_neg hne, if_pos (by assumption)]⟩, rfl⟩ (.inl rfl)
  try simp only [zA, zO, zN, zM, zP, zQ, zD, zF, gd] at hb19
  refine AC_skip ?_
  refine AC_seq ?_
  refine AC_region ?_
  refine AL_p rfl rfl (S_move rfl (.tmp rfl)) ?_
  refine AL_p rfl rfl (S_conv (k' := .i64) rfl (.tmp rfl) (by kernel_rfl) (by kernel_rfl)) ?_
  refine AL_p rfl rfl (S_assign rfl (.tmp rfl)) ?_
  refine AL_nil ?_
  refine AC_ret ?_
  refine ret_tmp ([(b, Ob.cells [.S ((bigR s c).2.1), .int .i64 ((bigR s c).2.2)])] ++ F) rfl rfl (Sub.l (List.Sublist.refl _)) (Conv.refl (Sub.l (List.Sublist.refl _)) _) ⟨_, ⟨by rw [numR, if_neg hne, if_neg (by omega)]; rw [wrap_i64 (by omega) (by omega)], by rw [numR, if_neg hne, if_neg (by omega)]; rw [show (bigR s c).2.2 = 0 by omega]⟩, rfl⟩ (.inl rfl)

set_option maxRecDepth 100000 in
/-- (*provost/wire.Reader).Text -/
theorem r_Text_ok (b : Nat) (s : List UInt8) (c : Int) (most : Int) (hm : fits most) (F : St) : ACalls Tryz.prog 67 [.ptr b 0, .int .i64 most] ([(b, Ob.cells [.S (s), .int .i64 (c)])] ++ F) (fun x st' => ∃ foot', (x = .S (wtextR s c most).1 ∧ foot' = [(b, Ob.cells [.S ((wtextR s c most).2.1), .int .i64 ((wtextR s c most).2.2)])]) ∧ st' = foot' ++ F) := by
  refine ACalls_of (N := 43) Tryz.func67 (by kernel_rfl) rfl rfl rfl ?_
  have h0 := numR_nonneg s c most
  have herr := numR_err (s := s) (c := c) (most := most)
  refine AC_seq ?_
  refine AC_region ?_
  refine AL_p rfl rfl (S_assign rfl (AEv.S _)) ?_
  refine AL_nil ?_
  refine AC_seq ?_
  refine AC_region ?_
  refine AL_p rfl rfl (S_move rfl (.tmp rfl)) ?_
  refine AL_p rfl rfl (S_move rfl (.tmp rfl)) ?_
  refine AL_step rfl rfl (S_call rfl (AEvs.cons (.tmp rfl) (AEvs.cons (.tmp rfl) AEvs.nil)) (r_Num_ok b s c most hm F)) ?_
  rintro _ _ ⟨_, ⟨rfl, rfl⟩, rfl⟩
  refine AL_p rfl rfl (S_assign rfl (.tmp rfl)) ?_
  refine AL_nil ?_
  refine AC_seq ?_
  refine AC_seq ?_
  refine AC_region ?_
  refine AL_p rfl rfl (S_move rfl (.tmp rfl)) ?_
  refine AL_p rfl rfl (S_move rfl (.tmp rfl)) ?_
  refine AL_p rfl rfl (S_nilCheck rfl (.tmp rfl)) ?_
  refine AL_p rfl rfl (S_field 0 rfl (.tmp rfl) (by kernel_rfl)) ?_
  refine AL_p rfl rfl (S_load 0 rfl (.tmp rfl) rfl rfl (by kernel_rfl)) ?_
  refine AL_p rfl rfl (S_lenS (ts := #[]) rfl (.tmp rfl) (by kernel_rfl)) ?_
  refine AL_p rfl rfl (S_gtr rfl (.tmp rfl) (.tmp rfl)) ?_
  refine AL_nil ?_
  refine AC_cond (.tmp rfl) (fun hb1 => ?_) (fun hb1 => ?_)
  · try simp only [zA, zO, zN, zM, zP, zQ, zD, zF, gd] at hb1
    have hc : (numR s c most).2.2 = 0 := Decidable.byContradiction fun h => by have := herr h; omega
    have he : wtextR s c most = ([], (numR s c most).2.1, 40) := by rw [wtextR, if_pos ⟨hc, by omega⟩]
    rw [hc]
    refine AC_region ?_
    refine AL_p rfl rfl (S_move rfl (.tmp rfl)) ?_
    refine AL_p rfl rfl (S_nilCheck rfl (.tmp rfl)) ?_
    refine AL_p rfl rfl (S_field 1 rfl (.tmp rfl) (by kernel_rfl)) ?_
    refine AL_step rfl rfl (S_call rfl (AEvs.cons (.tmp rfl) (AEvs.cons (AEv.const _) AEvs.nil)) (sticks_Fail_ok b 1 _ _ 40 rfl _)) ?_
    rintro _ _ ⟨rfl, rfl⟩
    refine AL_nil ?_
    refine AC_seq ?_
    refine AC_seq ?_
    refine AC_region ?_
    refine AL_p rfl rfl (S_move rfl (.tmp rfl)) ?_
    refine AL_p rfl rfl (S_nilCheck rfl (.tmp rfl)) ?_
    refine AL_p rfl rfl (S_field 1 rfl (.tmp rfl) (by kernel_rfl)) ?_
    refine AL_p rfl rfl (S_field 0 rfl (.tmp rfl) (by kernel_rfl)) ?_
    refine AL_p rfl rfl (S_load 0 rfl (.tmp rfl) rfl rfl (by kernel_rfl)) ?_
    refine AL_p rfl rfl (S_neq rfl (.tmp rfl) (AEv.const _)) ?_
    refine AL_nil ?_
    refine AC_cond (.tmp rfl) (fun hb2 => ?_) (fun hb2 => ?_)
    · try simp only [zA, zO, zN, zM, zP, zQ, zD, zF, gd] at hb2
      refine AC_seq ?_
      refine AC_region ?_
      refine AL_p rfl rfl (S_assign rfl (AEv.S _)) ?_
      refine AL_nil ?_
      refine AC_ret ?_
      refine ret_tmp ([(b, Ob.cells [.S ((numR s c most).2.1), .int .i64 (40)])] ++ F) rfl rfl (Sub.l (List.Sublist.refl _)) (Conv.refl (Sub.l (List.Sublist.refl _)) _) ⟨_, ⟨by rw [he] <;> rfl, by rw [he] <;> rfl⟩, rfl⟩ (.inl rfl)
    exact absurd hb2 (by decide)
  try simp only [zA, zO, zN, zM, zP, zQ, zD, zF, gd] at hb1
  have hne : ¬ ((numR s c most).2.2 = 0 ∧ ((numR s c most).2.1.length : Int) < (numR s c most).1) := by omega
  refine AC_skip ?_
  refine AC_seq ?_
  refine AC_seq ?_
  refine AC_region ?_
  refine AL_p rfl rfl (S_move rfl (.tmp rfl)) ?_
  refine AL_p rfl rfl (S_nilCheck rfl (.tmp rfl)) ?_
  refine AL_p rfl rfl (S_field 1 rfl (.tmp rfl) (by kernel_rfl)) ?_
  refine AL_p rfl rfl (S_field 0 rfl (.tmp rfl) (by kernel_rfl)) ?_
  refine AL_p rfl rfl (S_load 0 rfl (.tmp rfl) rfl rfl (by kernel_rfl)) ?_
  refine AL_p rfl rfl (S_neq rfl (.tmp rfl) (AEv.const _)) ?_
  refine AL_nil ?_
  refine AC_cond (.tmp rfl) (fun hb3 => ?_) (fun hb3 => ?_)
  · try simp only [zA, zO, zN, zM, zP, zQ, zD, zF, gd] at hb3
    refine AC_seq ?_
    refine AC_region ?_
    refine AL_p rfl rfl (S_assign rfl (AEv.S _)) ?_
    refine AL_nil ?_
    refine AC_ret ?_
    refine ret_tmp ([(b, Ob.cells [.S ((numR s c most).2.1), .int .i64 ((numR s c most).2.2)])] ++ F) rfl rfl (Sub.l (List.Sublist.refl _)) (Conv.refl (Sub.l (List.Sublist.refl _)) _) ⟨_, ⟨by rw [wtextR, if_neg hne, if_pos (by assumption)], by rw [wtextR, if_neg hne, if_pos (by assumption)]⟩, rfl⟩ (.inl rfl)
  try simp only [zA, zO, zN, zM, zP, zQ, zD, zF, gd] at hb3
  refine AC_skip ?_
  refine AC_seq ?_
  refine AC_region ?_
  refine AL_p rfl rfl (S_move rfl (.tmp rfl)) ?_
  refine AL_p rfl rfl (S_nilCheck rfl (.tmp rfl)) ?_
  refine AL_p rfl rfl (S_field 0 rfl (.tmp rfl) (by kernel_rfl)) ?_
  refine AL_p rfl rfl (S_load 0 rfl (.tmp rfl) rfl rfl (by kernel_rfl)) ?_
  refine AL_p rfl rfl (S_move rfl (.tmp rfl)) ?_
  refine AL_p rfl rfl (S_sliceH rfl (.tmp rfl) (.tmp rfl) (by kernel_rfl) (by omega) (by omega)) ?_
  refine AL_p rfl rfl (S_assign rfl (.tmp rfl)) ?_
  refine AL_nil ?_
  refine AC_seq ?_
  refine AC_region ?_
  refine AL_p rfl rfl (S_move rfl (.tmp rfl)) ?_
  refine AL_p rfl rfl (S_move rfl (.tmp rfl)) ?_
  refine AL_p rfl rfl (S_nilCheck rfl (.tmp rfl)) ?_
  refine AL_p rfl rfl (S_field 0 rfl (.tmp rfl) (by kernel_rfl)) ?_
  refine AL_p rfl rfl (S_load 0 rfl (.tmp rfl) rfl rfl (by kernel_rfl)) ?_
  refine AL_p rfl rfl (S_move rfl (.tmp rfl)) ?_
  refine AL_p rfl rfl (S_sliceL rfl (.tmp rfl) (.tmp rfl) (by kernel_rfl) (by omega) (by omega)) ?_
  refine AL_p rfl rfl (S_nilCheck rfl (.tmp rfl)) ?_
  refine AL_p rfl rfl (S_field 0 rfl (.tmp rfl) (by kernel_rfl)) ?_
  refine AL_step rfl rfl (S_store 0 rfl (.tmp rfl) (.tmp rfl) rfl (by first | exact Nat.le_of_ble_eq_true rfl | simp) rfl (by kernel_rfl)) ?_
  rintro _ _ ⟨rfl, rfl⟩
  refine AL_nil ?_
  refine AC_seq ?_
  refine AC_region ?_
  refine AL_p rfl rfl (S_move rfl (.tmp rfl)) ?_
  refine AL_p rfl rfl (S_assign rfl (.tmp rfl)) ?_
  refine AL_nil ?_
  refine AC_ret ?_
  refine ret_tmp ([(b, Ob.cells [.S ((numR s c most).2.1.drop (numR s c most).1.toNat), .int .i64 ((numR s c most).2.2)])] ++ F) rfl rfl (Sub.l (List.Sublist.refl _)) (Conv.refl (Sub.l (List.Sublist.refl _)) _) ⟨_, ⟨by rw [wtextR, if_neg hne, if_neg (by omega)], by rw [wtextR, if_neg hne, if_neg (by omega)]; rw [show (numR s c most).2.2 = 0 by omega]⟩, rfl⟩ (.inl rfl)

end Go.Proofs.YtfmiciodcimkeaaGreatDoor

/-
The walks of Go functions in the logic AL: what each of them answers.
Conditions: those of each theorem.
-/
set_option linter.unusedVariables false
set_option linter.unusedSimpArgs false
namespace Go.Proofs.YtfmiciodcimkeaaGreatDoor
open Go.AL Go.NumSpec

theorem w_NumN (b : Nat) (u2 : Bool) (q2 : Buf) (l : List UInt8) (c : Int) (hq2 : q2.ok l)  (hl : l.length + 10 ≤ 100000000000) (n : Int) (h0 : 0 ≤ n) (hn : n ≤ 9223372036854775807) (F : St) : ACalls Tryz.prog 37 [.ptr b 0, .int .i64 n] (((b, .cells [addrB u2 b 87 3, bufAV q2 (l), .int .i64 (c)]) :: bufSt q2 5 (l)) ++ F) (fun x st' => ∃ foot', (∃ (u' : Bool) (q' : Buf), q'.ok (wput c l (numB n)) ∧ x = .tup [] ∧ foot' = (b, .cells [addrB u' b 87 3, bufAV q' (wput c l (numB n)), .int .i64 (c)]) :: bufSt q' 5 (wput c l (numB n))) ∧ st' = foot' ++ F) := by
  have h := w_Num_ok b u2 q2 l c hq2 n ⟨by omega, hn⟩ (by omega) F
  rw [if_neg (show ¬ n < 0 by omega), if_neg (show ¬ n < 0 by omega)] at h
  exact h

theorem w_TextN (b : Nat) (u2 : Bool) (q2 : Buf) (l : List UInt8) (c : Int) (hq2 : q2.ok l)  (hl : l.length + 10 ≤ 100000000000) (s : List UInt8) (hs : s.length ≤ 1000000000) (hls : l.length + (s.length + 10) ≤ 100000000000) (F : St) : ACalls Tryz.prog 13 [.ptr b 0, .S s] (((b, .cells [addrB u2 b 87 3, bufAV q2 (l), .int .i64 (c)]) :: bufSt q2 5 (l)) ++ F) (fun x st' => ∃ foot', (∃ (u' : Bool) (q' : Buf), q'.ok (wput c l (textB s)) ∧ x = .tup [] ∧ foot' = (b, .cells [addrB u' b 87 3, bufAV q' (wput c l (textB s)), .int .i64 (c)]) :: bufSt q' 5 (wput c l (textB s))) ∧ st' = foot' ++ F) := w_Text_ok b u2 q2 l c hq2 s (by omega) F

set_option maxRecDepth 100000 in
/-- provost/pack.putRes -/
theorem putRes_ok (b : Nat) (u2 : Bool) (q2 : Buf) (l : List UInt8) (c : Int) (hq2 : q2.ok l)  (hl : l.length + 30 ≤ 100000000000) (r : Tri) (hr : TriOk r) (F : St) : ACalls Tryz.prog 77 [.ptr b 0, .agg [.int .i64 r.1, .int .i64 r.2.1, .int .i64 r.2.2]] (((b, .cells [addrB u2 b 87 3, bufAV q2 (l), .int .i64 (c)]) :: bufSt q2 5 (l)) ++ F) (fun x st' => ∃ foot', (∃ (u' : Bool) (q' : Buf), q'.ok (wput c l (triB r)) ∧ x = .tup [] ∧ foot' = (b, .cells [addrB u' b 87 3, bufAV q' (wput c l (triB r)), .int .i64 (c)]) :: bufSt q' 5 (wput c l (triB r))) ∧ st' = foot' ++ F) := by
  refine ACalls_of (N := 16) Tryz.func77 (by kernel_rfl) rfl rfl rfl ?_
  have hr1 := hr.1
  have hr2 := hr.2.1
  have hr3 := hr.2.2
  unfold MR at hr1 hr2 hr3
  have n1 := numB_len (n := r.1) (by omega)
  have n2 := numB_len (n := r.2.1) (by omega)
  have n3 := numB_len (n := r.2.2) (by omega)
  refine AC_seq ?_
  refine AC_region ?_
  refine AL_step rfl rfl (S_box rfl (.tmp rfl)) ?_
  rintro _ _ ⟨b3, rfl, rfl⟩
  refine AL_nil ?_
  refine AC_seq ?_
  refine AC_region ?_
  refine AL_p rfl rfl (S_move rfl (.tmp rfl)) ?_
  refine AL_p rfl rfl (S_field 0 rfl (.tmp rfl) (by kernel_rfl)) ?_
  refine AL_p rfl rfl (S_load 0 rfl (.tmp rfl) rfl rfl (by kernel_rfl)) ?_
  refine AL_step rfl rfl (S_call rfl (AEvs.cons (.tmp rfl) (AEvs.cons (.tmp rfl) AEvs.nil)) (ACalls.preQ (pre := [_]) (F := F) (w_NumN b u2 q2 _ c hq2 (by first | omega | (refine Nat.le_trans (Nat.add_le_add_right (wput_len _ _ _) _) ?_; (try simp only [List.length_append]); omega)) r.1 (by omega) (by omega) _))) ?_
  rintro _ _ ⟨_, ⟨u2, q2, hq2, rfl, rfl⟩, rfl⟩
  refine AL_nil ?_
  refine AC_seq ?_
  refine AC_region ?_
  refine AL_p rfl rfl (S_move rfl (.tmp rfl)) ?_
  refine AL_p rfl rfl (S_field 1 rfl (.tmp rfl) (by kernel_rfl)) ?_
  refine AL_p rfl rfl (S_load 0 rfl (.tmp rfl) rfl rfl (by kernel_rfl)) ?_
  refine AL_step rfl rfl (S_call rfl (AEvs.cons (.tmp rfl) (AEvs.cons (.tmp rfl) AEvs.nil)) (ACalls.preQ (pre := [_]) (F := F) (w_NumN b u2 q2 _ c hq2 (by first | omega | (refine Nat.le_trans (Nat.add_le_add_right (wput_len _ _ _) _) ?_; (try simp only [List.length_append]); omega)) r.2.1 (by omega) (by omega) _))) ?_
  rintro _ _ ⟨_, ⟨u2, q2, hq2, rfl, rfl⟩, rfl⟩
  rw [wput_wput] at hq2 ⊢
  refine AL_nil ?_
  refine AC_region ?_
  refine AL_p rfl rfl (S_move rfl (.tmp rfl)) ?_
  refine AL_p rfl rfl (S_field 2 rfl (.tmp rfl) (by kernel_rfl)) ?_
  refine AL_p rfl rfl (S_load 0 rfl (.tmp rfl) rfl rfl (by kernel_rfl)) ?_
  refine AL_step rfl rfl (S_call rfl (AEvs.cons (.tmp rfl) (AEvs.cons (.tmp rfl) AEvs.nil)) (ACalls.preQ (pre := [_]) (F := F) (w_NumN b u2 q2 _ c hq2 (by first | omega | (refine Nat.le_trans (Nat.add_le_add_right (wput_len _ _ _) _) ?_; (try simp only [List.length_append]); omega)) r.2.2 (by omega) (by omega) _))) ?_
  rintro _ _ ⟨_, ⟨u2, q2, hq2, rfl, rfl⟩, rfl⟩
  rw [wput_wput] at hq2 ⊢
  rw [triB_assoc] at hq2 ⊢
  refine AL_nil ?_
  refine ret_none (((b, .cells [addrB u2 b 87 3, bufAV q2 (wput c l (triB r)), .int .i64 (c)]) :: bufSt q2 5 (wput c l (triB r))) ++ F) rfl (Sub.l (List.sublist_cons_self _ _)) ⟨_, ⟨u2, q2, hq2, rfl, rfl⟩, rfl⟩ (.inr rfl)

set_option maxRecDepth 100000 in
/-- provost/pack.putContainer$1 -/
theorem putC1_ok (b : Nat) (u2 : Bool) (q2 : Buf) (l : List UInt8) (c : Int) (hq2 : q2.ok l)  (hl : l.length + 10 ≤ 100000000000) (bw : Nat) (n : Int) (h0 : 0 ≤ n) (hn : n ≤ 9223372036854775807) (F : St) (hw : (bw, Ob.cells [.ptr b 0]) ∈ F) : ACalls Tryz.prog 79 [.int .i64 n, .ptr bw 0] (((b, .cells [addrB u2 b 87 3, bufAV q2 (l), .int .i64 (c)]) :: bufSt q2 5 (l)) ++ F) (fun x st' => ∃ foot', (∃ (u' : Bool) (q' : Buf), q'.ok (wput c l (numB n)) ∧ x = .tup [] ∧ foot' = (b, .cells [addrB u' b 87 3, bufAV q' (wput c l (numB n)), .int .i64 (c)]) :: bufSt q' 5 (wput c l (numB n))) ∧ st' = foot' ++ F) := by
  refine ACalls_of (N := 6) Tryz.func79 (by kernel_rfl) rfl rfl rfl ?_
  refine AC_region ?_
  refine AL_p rfl rfl (S_loadM (cs := [.ptr b 0]) rfl (.tmp rfl) (by repeat (first | exact hw | refine List.mem_append_right _ ?_ | refine List.mem_cons_of_mem _ ?_)) rfl (by kernel_rfl)) ?_
  refine AL_p rfl rfl (S_move rfl (.tmp rfl)) ?_
  refine AL_step rfl rfl (S_call rfl (AEvs.cons (.tmp rfl) (AEvs.cons (.tmp rfl) AEvs.nil)) (w_NumN b u2 q2 _ c hq2 (by first | omega | (refine Nat.le_trans (Nat.add_le_add_right (wput_len _ _ _) _) ?_; (try simp only [List.length_append]); omega)) n h0 hn F)) ?_
  rintro _ _ ⟨_, ⟨u2, q2, hq2, rfl, rfl⟩, rfl⟩
  refine AL_nil ?_
  refine ret_none (((b, .cells [addrB u2 b 87 3, bufAV q2 (wput c l (numB n)), .int .i64 (c)]) :: bufSt q2 5 (wput c l (numB n))) ++ F) rfl (Sub.l (List.Sublist.refl _)) ⟨_, ⟨u2, q2, hq2, rfl, rfl⟩, rfl⟩ (.inr rfl)

set_option maxRecDepth 100000 in
/-- provost/pack.PutLabels$1 -/
theorem putL1_ok (b : Nat) (u2 : Bool) (q2 : Buf) (l : List UInt8) (c : Int) (hq2 : q2.ok l)  (hl : l.length + 1000 ≤ 100000000000) (bw : Nat) (y : Lab) (hx1 : y.1.length ≤ 400) (hx2 : y.2.length ≤ 400) (F : St) (hw : (bw, Ob.cells [.ptr b 0]) ∈ F) : ACalls Tryz.prog 64 [labAV y, .ptr bw 0] (((b, .cells [addrB u2 b 87 3, bufAV q2 (l), .int .i64 (c)]) :: bufSt q2 5 (l)) ++ F) (fun x st' => ∃ foot', (∃ (u' : Bool) (q' : Buf), q'.ok (wput c l (labB y)) ∧ x = .tup [] ∧ foot' = (b, .cells [addrB u' b 87 3, bufAV q' (wput c l (labB y)), .int .i64 (c)]) :: bufSt q' 5 (wput c l (labB y))) ∧ st' = foot' ++ F) := by
  refine ACalls_of (N := 11) Tryz.func64 (by kernel_rfl) rfl rfl rfl ?_
  have n1 := textB_len (s := y.1) (by omega)
  have n2 := textB_len (s := y.2) (by omega)
  refine AC_seq ?_
  refine AC_region ?_
  refine AL_step rfl rfl (S_box rfl (.tmp rfl)) ?_
  rintro _ _ ⟨b2, rfl, rfl⟩
  refine AL_nil ?_
  refine AC_seq ?_
  refine AC_region ?_
  refine AL_p rfl rfl (S_loadM (cs := [.ptr b 0]) rfl (.tmp rfl) (by repeat (first | exact hw | refine List.mem_append_right _ ?_ | refine List.mem_cons_of_mem _ ?_)) rfl (by kernel_rfl)) ?_
  refine AL_p rfl rfl (S_field 0 rfl (.tmp rfl) (by kernel_rfl)) ?_
  refine AL_p rfl rfl (S_load 0 rfl (.tmp rfl) rfl rfl (by kernel_rfl)) ?_
  refine AL_step rfl rfl (S_call rfl (AEvs.cons (.tmp rfl) (AEvs.cons (.tmp rfl) AEvs.nil)) (ACalls.preQ (pre := [_]) (F := F) (w_TextN b u2 q2 _ c hq2 (by first | omega | (refine Nat.le_trans (Nat.add_le_add_right (wput_len _ _ _) _) ?_; (try simp only [List.length_append]); omega)) y.1 (by omega) (by first | omega | (refine Nat.le_trans (Nat.add_le_add_right (wput_len _ _ _) _) ?_; (try simp only [List.length_append]); omega)) _))) ?_
  rintro _ _ ⟨_, ⟨u2, q2, hq2, rfl, rfl⟩, rfl⟩
  refine AL_nil ?_
  refine AC_region ?_
  refine AL_p rfl rfl (S_loadM (cs := [.ptr b 0]) rfl (.tmp rfl) (by repeat (first | exact hw | refine List.mem_append_right _ ?_ | refine List.mem_cons_of_mem _ ?_)) rfl (by kernel_rfl)) ?_
  refine AL_p rfl rfl (S_field 1 rfl (.tmp rfl) (by kernel_rfl)) ?_
  refine AL_p rfl rfl (S_load 0 rfl (.tmp rfl) rfl rfl (by kernel_rfl)) ?_
  refine AL_step rfl rfl (S_call rfl (AEvs.cons (.tmp rfl) (AEvs.cons (.tmp rfl) AEvs.nil)) (ACalls.preQ (pre := [_]) (F := F) (w_TextN b u2 q2 _ c hq2 (by first | omega | (refine Nat.le_trans (Nat.add_le_add_right (wput_len _ _ _) _) ?_; (try simp only [List.length_append]); omega)) y.2 (by omega) (by first | omega | (refine Nat.le_trans (Nat.add_le_add_right (wput_len _ _ _) _) ?_; (try simp only [List.length_append]); omega)) _))) ?_
  rintro _ _ ⟨_, ⟨u2, q2, hq2, rfl, rfl⟩, rfl⟩
  rw [wput_wput] at hq2 ⊢
  refine AL_nil ?_
  refine ret_none (((b, .cells [addrB u2 b 87 3, bufAV q2 (wput c l (labB y)), .int .i64 (c)]) :: bufSt q2 5 (wput c l (labB y))) ++ F) rfl (Sub.l (List.sublist_cons_self _ _)) ⟨_, ⟨u2, q2, hq2, rfl, rfl⟩, rfl⟩ (.inr rfl)

set_option maxRecDepth 100000 in
/-- provost/pack.putAll[int] -/
theorem putAllI_ok (b : Nat) (u2 : Bool) (q2 : Buf) (l : List UInt8) (c : Int) (hq2 : q2.ok l) (xs : List Int) (hl : l.length + (10 + xs.length * 10) ≤ 100000000000) (bw : Nat) (hxs : xs.length ≤ 1000) (hok : ∀ x ∈ xs, 0 ≤ x ∧ x ≤ 9223372036854775807) (F : St) (hw : (bw, Ob.cells [.ptr b 0]) ∈ F) : ACalls Tryz.prog 78 [.ptr b 0, .sl (xs.map (fun n : Int => AV.int .i64 n)), .fn 79 [.pointer (some ⟨bw, 0, none⟩)]] (((b, .cells [addrB u2 b 87 3, bufAV q2 (l), .int .i64 (c)]) :: bufSt q2 5 (l)) ++ F) (fun x st' => ∃ foot', (∃ (u' : Bool) (q' : Buf), q'.ok (wput c l (listB numB xs)) ∧ x = .tup [] ∧ foot' = (b, .cells [addrB u' b 87 3, bufAV q' (wput c l (listB numB xs)), .int .i64 (c)]) :: bufSt q' 5 (wput c l (listB numB xs))) ∧ st' = foot' ++ F) := by
  refine ACalls_of (N := 22) Tryz.func78 (by kernel_rfl) rfl rfl rfl ?_
  have hen : ∀ x ∈ xs, (numB x).length ≤ 10 := fun x hx => by have h9 := hok x hx; exact numB_len h9.2
  have hp := putL_few xs.length (by omega)
  refine AC_seq ?_
  refine AC_region ?_
  refine AL_p rfl rfl (S_move rfl (.tmp rfl)) ?_
  refine AL_p rfl rfl (S_move rfl (.tmp rfl)) ?_
  refine AL_p rfl rfl (by first | exact S_lenM (e := 3) rfl (.tmp rfl) (by kernel_rfl) | exact S_len (e := 3) rfl (.tmp rfl) (by kernel_rfl)) ?_
  refine AL_step rfl rfl (S_call rfl (AEvs.cons (.tmp rfl) (AEvs.cons (.tmp rfl) AEvs.nil)) (w_NumN b u2 q2 _ c hq2 (by first | omega | (refine Nat.le_trans (Nat.add_le_add_right (wput_len _ _ _) _) ?_; (try simp only [List.length_append]); omega)) (xs.length : Int) (by omega) (by omega) F)) ?_
  rintro _ _ ⟨_, ⟨u2, q2, hq2, rfl, rfl⟩, rfl⟩
  have e0 : wput c l (numB (xs.length : Int)) = wput c l (putL xs.length ++ (xs.take 0).flatMap numB) := by simp [numB]
  rw [e0] at hq2 ⊢
  refine AL_nil ?_
  refine AC_seq ?_
  refine AC_region ?_
  refine AL_p rfl rfl (S_move rfl (.tmp rfl)) ?_
  refine AL_p rfl rfl (by first | exact S_lenM (e := 3) rfl (.tmp rfl) (by kernel_rfl) | exact S_len (e := 3) rfl (.tmp rfl) (by kernel_rfl)) ?_
  refine AL_p rfl rfl (S_move rfl (AEv.const _)) ?_
  refine AL_nil ?_
  refine AC_block ?_
  refine AC_loopK (G := Nat × Bool × Buf) [(2, _), (12, _), (13, _)] (fun g => g.1 ≤ xs.length ∧ g.2.2.ok (wput c l (putL xs.length ++ (xs.take g.1).flatMap numB))) (fun g => [(14, .int .i64 (g.1 : Int))]) (fun g => ((b, .cells [addrB g.2.1 b 87 3, bufAV g.2.2 (wput c l (putL xs.length ++ (xs.take g.1).flatMap numB)), .int .i64 (c)]) :: bufSt g.2.2 5 (wput c l (putL xs.length ++ (xs.take g.1).flatMap numB))) ++ F) (fun g => xs.length - g.1) ((0, u2, q2)) (⟨Nat.zero_le _, hq2⟩) (Sub.l (List.Sublist.refl _)) (.cons rfl (Le.refl _) (.cons rfl (Le.refl _) (.cons rfl (Le.refl _) .nil))) (.cons rfl (by first | exact Le.refl _ | exact Le.nils | exact Le.row _ _ _ _ | exact Le.of_eq (by first | rfl | (simp; done) | (push_cast; rfl) | (simp; omega))) .nil) ?_
  rintro ⟨i, u2, q2⟩ ⟨hi, hq2⟩
  try dsimp only
  simp only [List.cons_append, List.nil_append]
  dsimp only at hi hq2
  have hfm := flatB_len (e := numB) (B := 10) (l := xs.take i) fun x hx => hen x (List.mem_of_mem_take hx)
  rw [List.length_take, show min i xs.length = i by omega] at hfm
  refine AC_seq ?_
  refine AC_region ?_
  refine AL_p rfl rfl (S_lss rfl (.tmp rfl) (.tmp rfl)) ?_
  refine AL_nil ?_
  refine AC_seq ?_
  refine AC_cond (.tmp rfl) (fun hb1 => ?_) (fun hb1 => ?_)
  · try simp only [zA, zO, zN, zM, zP, zQ, zD, zF, gd] at hb1
    have hil : i < xs.length := by omega
    have hxi := hok _ (List.getElem_mem hil)
    have hxl := hen _ (List.getElem_mem hil)
    refine AC_skip ?_
    refine AC_seq ?_
    refine AC_block ?_
    refine AC_seq ?_
    refine AC_region ?_
    refine AL_p rfl rfl (S_elemN (e := 3) 1 rfl (.tmp rfl) (.tmp rfl) (by kernel_rfl) (by kernel_rfl) (by omega) (fun _ => rfl)) ?_
    refine AL_p rfl rfl (S_loadP rfl (.tmp rfl) rfl (by kernel_rfl)) ?_
    refine AL_p rfl rfl (S_assign rfl (.tmp rfl)) ?_
    refine AL_nil ?_
    refine AC_region ?_
    refine AL_p rfl rfl (S_move rfl (.tmp rfl)) ?_
    refine AL_p rfl rfl (S_move rfl (.tmp rfl)) ?_
    refine AL_step rfl rfl (S_callF (caps := [.pointer (some ⟨bw, 0, none⟩)]) rfl (.tmp rfl) (AEvs.cons (y := .int .i64 (xs[i]'hil)) (.tmp rfl) AEvs.nil) (putC1_ok b u2 q2 _ c hq2 (by first | omega | (refine Nat.le_trans (Nat.add_le_add_right (wput_len _ _ _) _) ?_; (try simp only [List.length_append]); omega)) bw (xs[i]'hil) hxi.1 hxi.2 F hw)) ?_
    rintro _ _ ⟨_, ⟨u2, q2, hq2, rfl, rfl⟩, rfl⟩
    rw [wput_wput] at hq2 ⊢
    refine AL_nil ?_
    refine AC_region ?_
    refine AL_p rfl rfl (S_addI rfl (.tmp rfl) (AEv.const _) (by omega) (by omega)) ?_
    refine AL_p rfl rfl (S_move rfl (.tmp rfl)) ?_
    refine AL_nil ?_
    refine ⟨(i + 1, u2, q2), ⟨by dsimp only; omega, by dsimp only; rw [listB_next hil]; exact hq2⟩, by dsimp only; omega, by dsimp only; rw [listB_next hil]; exact (Sub.l (List.Sublist.refl _)), (.cons rfl (by first | exact Le.refl _ | exact Le.nils | exact Le.row _ _ _ _ | exact Le.of_eq (by first | rfl | (simp; done) | (push_cast; rfl) | (simp; omega))) .nil), (.cons rfl (Le.refl _) (.cons rfl (Le.refl _) (.cons rfl (Le.refl _) .nil)))⟩
  try simp only [zA, zO, zN, zM, zP, zQ, zD, zF, gd] at hb1
  rw [List.take_of_length_le (show xs.length ≤ i by omega)] at hq2 ⊢
  refine AC_exit ?_
  refine ret_none (((b, .cells [addrB u2 b 87 3, bufAV q2 (wput c l (listB numB xs)), .int .i64 (c)]) :: bufSt q2 5 (wput c l (listB numB xs))) ++ F) rfl (Sub.l (List.Sublist.refl _)) ⟨_, ⟨u2, q2, hq2, rfl, rfl⟩, rfl⟩ (.inr rfl)

set_option maxRecDepth 100000 in
/-- provost/pack.putAll[provost/api.Label] -/
theorem putAllL_ok (b : Nat) (u2 : Bool) (q2 : Buf) (l : List UInt8) (c : Int) (hq2 : q2.ok l) (xs : List Lab) (hl : l.length + (10 + xs.length * 1000) ≤ 100000000000) (bw : Nat) (hxs : xs.length ≤ 1000) (hok : ∀ x ∈ xs, x.1.length ≤ 400 ∧ x.2.length ≤ 400) (F : St) (hw : (bw, Ob.cells [.ptr b 0]) ∈ F) : ACalls Tryz.prog 63 [.ptr b 0, .sl (xs.map labAV), .fn 64 [.pointer (some ⟨bw, 0, none⟩)]] (((b, .cells [addrB u2 b 87 3, bufAV q2 (l), .int .i64 (c)]) :: bufSt q2 5 (l)) ++ F) (fun x st' => ∃ foot', (∃ (u' : Bool) (q' : Buf), q'.ok (wput c l (listB labB xs)) ∧ x = .tup [] ∧ foot' = (b, .cells [addrB u' b 87 3, bufAV q' (wput c l (listB labB xs)), .int .i64 (c)]) :: bufSt q' 5 (wput c l (listB labB xs))) ∧ st' = foot' ++ F) := by
  refine ACalls_of (N := 22) Tryz.func63 (by kernel_rfl) rfl rfl rfl ?_
  have hen : ∀ x ∈ xs, (labB x).length ≤ 1000 := fun x hx => by have h9 := hok x hx; exact labB_len h9.1 h9.2
  have hp := putL_few xs.length (by omega)
  refine AC_seq ?_
  refine AC_region ?_
  refine AL_p rfl rfl (S_move rfl (.tmp rfl)) ?_
  refine AL_p rfl rfl (S_move rfl (.tmp rfl)) ?_
  refine AL_p rfl rfl (by first | exact S_lenM (e := 71) rfl (.tmp rfl) (by kernel_rfl) | exact S_len (e := 71) rfl (.tmp rfl) (by kernel_rfl)) ?_
  refine AL_step rfl rfl (S_call rfl (AEvs.cons (.tmp rfl) (AEvs.cons (.tmp rfl) AEvs.nil)) (w_NumN b u2 q2 _ c hq2 (by first | omega | (refine Nat.le_trans (Nat.add_le_add_right (wput_len _ _ _) _) ?_; (try simp only [List.length_append]); omega)) (xs.length : Int) (by omega) (by omega) F)) ?_
  rintro _ _ ⟨_, ⟨u2, q2, hq2, rfl, rfl⟩, rfl⟩
  have e0 : wput c l (numB (xs.length : Int)) = wput c l (putL xs.length ++ (xs.take 0).flatMap labB) := by simp [numB]
  rw [e0] at hq2 ⊢
  refine AL_nil ?_
  refine AC_seq ?_
  refine AC_region ?_
  refine AL_p rfl rfl (S_move rfl (.tmp rfl)) ?_
  refine AL_p rfl rfl (by first | exact S_lenM (e := 71) rfl (.tmp rfl) (by kernel_rfl) | exact S_len (e := 71) rfl (.tmp rfl) (by kernel_rfl)) ?_
  refine AL_p rfl rfl (S_move rfl (AEv.const _)) ?_
  refine AL_nil ?_
  refine AC_block ?_
  refine AC_loopK (G := Nat × Bool × Buf) [(2, _), (12, _), (13, _)] (fun g => g.1 ≤ xs.length ∧ g.2.2.ok (wput c l (putL xs.length ++ (xs.take g.1).flatMap labB))) (fun g => [(14, .int .i64 (g.1 : Int))]) (fun g => ((b, .cells [addrB g.2.1 b 87 3, bufAV g.2.2 (wput c l (putL xs.length ++ (xs.take g.1).flatMap labB)), .int .i64 (c)]) :: bufSt g.2.2 5 (wput c l (putL xs.length ++ (xs.take g.1).flatMap labB))) ++ F) (fun g => xs.length - g.1) ((0, u2, q2)) (⟨Nat.zero_le _, hq2⟩) (Sub.l (List.Sublist.refl _)) (.cons rfl (Le.refl _) (.cons rfl (Le.refl _) (.cons rfl (Le.refl _) .nil))) (.cons rfl (by first | exact Le.refl _ | exact Le.nils | exact Le.row _ _ _ _ | exact Le.of_eq (by first | rfl | (simp; done) | (push_cast; rfl) | (simp; omega))) .nil) ?_
  rintro ⟨i, u2, q2⟩ ⟨hi, hq2⟩
  try dsimp only
  simp only [List.cons_append, List.nil_append]
  dsimp only at hi hq2
  have hfm := flatB_len (e := labB) (B := 1000) (l := xs.take i) fun x hx => hen x (List.mem_of_mem_take hx)
  rw [List.length_take, show min i xs.length = i by omega] at hfm
  refine AC_seq ?_
  refine AC_region ?_
  refine AL_p rfl rfl (S_lss rfl (.tmp rfl) (.tmp rfl)) ?_
  refine AL_nil ?_
  refine AC_seq ?_
  refine AC_cond (.tmp rfl) (fun hb1 => ?_) (fun hb1 => ?_)
  · try simp only [zA, zO, zN, zM, zP, zQ, zD, zF, gd] at hb1
    have hil : i < xs.length := by omega
    have hxi := hok _ (List.getElem_mem hil)
    have hxl := hen _ (List.getElem_mem hil)
    refine AC_skip ?_
    refine AC_seq ?_
    refine AC_block ?_
    refine AC_seq ?_
    refine AC_region ?_
    refine AL_p rfl rfl (S_elemN (e := 71) 2 rfl (.tmp rfl) (.tmp rfl) (by kernel_rfl) (by kernel_rfl) (by omega) (fun _ => rfl)) ?_
    refine AL_p rfl rfl (S_loadPN (m := 2) rfl (.tmp rfl) (by kernel_rfl) (by first | exact Nat.le_of_ble_eq_true rfl | (simp; omega) | simp)) ?_
    refine AL_step rfl rfl (S_alloc [.string ⟨#[]⟩, .string ⟨#[]⟩] rfl (by kernel_rfl)) ?_
    rintro _ _ ⟨b7, rfl, rfl⟩
    refine AL_step rfl rfl (S_storeW 0 rfl (.tmp rfl) (.tmp rfl) rfl rfl rfl (by kernel_rfl)) ?_
    rintro _ _ ⟨rfl, rfl⟩
    refine AL_nil ?_
    refine AC_region ?_
    refine AL_p rfl rfl (S_move rfl (.tmp rfl)) ?_
    refine AL_p rfl rfl (S_loadN (m := 2) 0 rfl (.tmp rfl) rfl (by kernel_rfl) (by first | exact Nat.le_of_ble_eq_true rfl | (simp; omega) | simp)) ?_
    refine AL_step rfl rfl (S_callF (caps := [.pointer (some ⟨bw, 0, none⟩)]) rfl (.tmp rfl) (AEvs.cons (y := labAV (xs[i]'hil)) (.tmp rfl) AEvs.nil) (ACalls.preQ (pre := [_]) (F := F) (putL1_ok b u2 q2 _ c hq2 (by first | omega | (refine Nat.le_trans (Nat.add_le_add_right (wput_len _ _ _) _) ?_; (try simp only [List.length_append]); omega)) bw (xs[i]'hil) hxi.1 hxi.2 _ (List.mem_cons_of_mem _ hw)))) ?_
    rintro _ _ ⟨_, ⟨u2, q2, hq2, rfl, rfl⟩, rfl⟩
    rw [wput_wput] at hq2 ⊢
    refine AL_nil ?_
    refine AC_region ?_
    refine AL_p rfl rfl (S_addI rfl (.tmp rfl) (AEv.const _) (by omega) (by omega)) ?_
    refine AL_p rfl rfl (S_move rfl (.tmp rfl)) ?_
    refine AL_nil ?_
    refine ⟨(i + 1, u2, q2), ⟨by dsimp only; omega, by dsimp only; rw [listB_next hil]; exact hq2⟩, by dsimp only; omega, by dsimp only; rw [listB_next hil]; exact (Sub.l (List.sublist_cons_self _ _)), (.cons rfl (by first | exact Le.refl _ | exact Le.nils | exact Le.row _ _ _ _ | exact Le.of_eq (by first | rfl | (simp; done) | (push_cast; rfl) | (simp; omega))) .nil), (.cons rfl (Le.refl _) (.cons rfl (Le.refl _) (.cons rfl (Le.refl _) .nil)))⟩
  try simp only [zA, zO, zN, zM, zP, zQ, zD, zF, gd] at hb1
  rw [List.take_of_length_le (show xs.length ≤ i by omega)] at hq2 ⊢
  refine AC_exit ?_
  refine ret_none (((b, .cells [addrB u2 b 87 3, bufAV q2 (wput c l (listB labB xs)), .int .i64 (c)]) :: bufSt q2 5 (wput c l (listB labB xs))) ++ F) rfl (Sub.l (List.Sublist.refl _)) ⟨_, ⟨u2, q2, hq2, rfl, rfl⟩, rfl⟩ (.inr rfl)

end Go.Proofs.YtfmiciodcimkeaaGreatDoor

/-
The walks of Go functions in the logic AL: what each of them answers.
Conditions: those of each theorem.
-/
set_option linter.unusedVariables false
set_option linter.unusedSimpArgs false
namespace Go.Proofs.YtfmiciodcimkeaaGreatDoor
open Go.AL Go.NumSpec

set_option maxRecDepth 100000 in
/-- provost/pack.putContainer -/
theorem putContainer_ok (b : Nat) (u2 : Bool) (q2 : Buf) (l : List UInt8) (c : Int) (hq2 : q2.ok l)  (hl : l.length + 1000 ≤ 100000000000) (d : Ctr) (hd : CtrOk d) (F : St) : ACalls Tryz.prog 43 [.ptr b 0, ctrAV d] (((b, .cells [addrB u2 b 87 3, bufAV q2 (l), .int .i64 (c)]) :: bufSt q2 5 (l)) ++ F) (fun x st' => ∃ foot', (∃ (u' : Bool) (q' : Buf), q'.ok (wput c l (ctrB d)) ∧ x = .tup [] ∧ foot' = (b, .cells [addrB u' b 87 3, bufAV q' (wput c l (ctrB d)), .int .i64 (c)]) :: bufSt q' 5 (wput c l (ctrB d))) ∧ st' = foot' ++ F) := by
  refine ACalls_of (N := 35) Tryz.func43 (by kernel_rfl) rfl rfl rfl ?_
  have hdl := ctrB_len hd
  obtain ⟨hd1, hd2, hd3, hd4, hd5, hd6, hd7⟩ := hd
  have n1 := textB_len (s := d.name) (by omega)
  have n2 := textB_len (s := d.image) (by omega)
  have n3 := triB_len hd3
  have n4 := triB_len hd4
  have n5 : (listB numB d.ports).length ≤ 40 := portsB_len hd5
  have n6 := numB_len (n := d.probe.1) (by omega)
  have n7 := numB_len (n := d.probe.2) (by omega)
  have hp1 := hd5.1
  refine AC_seq ?_
  refine AC_region ?_
  refine AL_step rfl rfl (S_box1 rfl (.tmp rfl) rfl) ?_
  rintro _ _ ⟨b2, rfl, rfl⟩
  refine AL_step rfl rfl (S_box rfl (.tmp rfl)) ?_
  rintro _ _ ⟨b3, rfl, rfl⟩
  refine AL_nil ?_
  refine AC_seq ?_
  refine AC_region ?_
  refine AL_p rfl rfl (S_load 1 rfl (.tmp rfl) rfl rfl (by kernel_rfl)) ?_
  refine AL_p rfl rfl (S_field 0 rfl (.tmp rfl) (by kernel_rfl)) ?_
  refine AL_p rfl rfl (S_load 0 rfl (.tmp rfl) rfl rfl (by kernel_rfl)) ?_
  refine AL_step rfl rfl (S_call rfl (AEvs.cons (.tmp rfl) (AEvs.cons (.tmp rfl) AEvs.nil)) (ACalls.preQ (pre := [_, _]) (F := F) (w_TextN b u2 q2 _ c hq2 (by first | omega | (refine Nat.le_trans (Nat.add_le_add_right (wput_len _ _ _) _) ?_; (try simp only [List.length_append]); omega)) d.name (by omega) (by first | omega | (refine Nat.le_trans (Nat.add_le_add_right (wput_len _ _ _) _) ?_; (try simp only [List.length_append]); omega)) _))) ?_
  rintro _ _ ⟨_, ⟨u2, q2, hq2, rfl, rfl⟩, rfl⟩
  refine AL_nil ?_
  refine AC_seq ?_
  refine AC_region ?_
  refine AL_p rfl rfl (S_load 1 rfl (.tmp rfl) rfl rfl (by kernel_rfl)) ?_
  refine AL_p rfl rfl (S_field 1 rfl (.tmp rfl) (by kernel_rfl)) ?_
  refine AL_p rfl rfl (S_load 0 rfl (.tmp rfl) rfl rfl (by kernel_rfl)) ?_
  refine AL_step rfl rfl (S_call rfl (AEvs.cons (.tmp rfl) (AEvs.cons (.tmp rfl) AEvs.nil)) (ACalls.preQ (pre := [_, _]) (F := F) (w_TextN b u2 q2 _ c hq2 (by first | omega | (refine Nat.le_trans (Nat.add_le_add_right (wput_len _ _ _) _) ?_; (try simp only [List.length_append]); omega)) d.image (by omega) (by first | omega | (refine Nat.le_trans (Nat.add_le_add_right (wput_len _ _ _) _) ?_; (try simp only [List.length_append]); omega)) _))) ?_
  rintro _ _ ⟨_, ⟨u2, q2, hq2, rfl, rfl⟩, rfl⟩
  rw [wput_wput] at hq2 ⊢
  refine AL_nil ?_
  refine AC_seq ?_
  refine AC_region ?_
  refine AL_p rfl rfl (S_load 1 rfl (.tmp rfl) rfl rfl (by kernel_rfl)) ?_
  refine AL_p rfl rfl (S_field 2 rfl (.tmp rfl) (by kernel_rfl)) ?_
  refine AL_p rfl rfl (S_loadN (m := 3) 0 rfl (.tmp rfl) rfl (by kernel_rfl) (by first | exact Nat.le_of_ble_eq_true rfl | (simp; omega) | simp)) ?_
  refine AL_step rfl rfl (S_call rfl (AEvs.cons (.tmp rfl) (AEvs.cons (.tmp rfl) AEvs.nil)) (ACalls.preQ (pre := [_, _]) (F := F) (putRes_ok b u2 q2 _ c hq2 (by first | omega | (refine Nat.le_trans (Nat.add_le_add_right (wput_len _ _ _) _) ?_; (try simp only [List.length_append]); omega)) d.req hd3 _))) ?_
  rintro _ _ ⟨_, ⟨u2, q2, hq2, rfl, rfl⟩, rfl⟩
  rw [wput_wput] at hq2 ⊢
  refine AL_nil ?_
  refine AC_seq ?_
  refine AC_region ?_
  refine AL_p rfl rfl (S_load 1 rfl (.tmp rfl) rfl rfl (by kernel_rfl)) ?_
  refine AL_p rfl rfl (S_field 5 rfl (.tmp rfl) (by kernel_rfl)) ?_
  refine AL_p rfl rfl (S_loadN (m := 3) 0 rfl (.tmp rfl) rfl (by kernel_rfl) (by first | exact Nat.le_of_ble_eq_true rfl | (simp; omega) | simp)) ?_
  refine AL_step rfl rfl (S_call rfl (AEvs.cons (.tmp rfl) (AEvs.cons (.tmp rfl) AEvs.nil)) (ACalls.preQ (pre := [_, _]) (F := F) (putRes_ok b u2 q2 _ c hq2 (by first | omega | (refine Nat.le_trans (Nat.add_le_add_right (wput_len _ _ _) _) ?_; (try simp only [List.length_append]); omega)) d.lim hd4 _))) ?_
  rintro _ _ ⟨_, ⟨u2, q2, hq2, rfl, rfl⟩, rfl⟩
  rw [wput_wput] at hq2 ⊢
  refine AL_nil ?_
  refine AC_seq ?_
  refine AC_region ?_
  refine AL_p rfl rfl (S_load 1 rfl (.tmp rfl) rfl rfl (by kernel_rfl)) ?_
  refine AL_p rfl rfl (S_field 8 rfl (.tmp rfl) (by kernel_rfl)) ?_
  refine AL_p rfl rfl (S_load 0 rfl (.tmp rfl) rfl rfl (by kernel_rfl)) ?_
  refine AL_p rfl rfl (S_makeFunc (caps := [_]) rfl (AEvs.cons (.tmp rfl) AEvs.nil)) ?_
  refine AL_step rfl rfl (S_call rfl (AEvs.cons (.tmp rfl) (AEvs.cons (.tmp rfl) (AEvs.cons (.tmp rfl) AEvs.nil))) (ACalls.preQ (pre := [_, _]) (F := F) (putAllI_ok b u2 q2 _ c hq2 d.ports (by first | omega | (refine Nat.le_trans (Nat.add_le_add_right (wput_len _ _ _) _) ?_; (try simp only [List.length_append]); omega)) b2 (by omega) (fun x hx => ⟨(hd5.2 x hx).1, by have := (hd5.2 x hx).2; omega⟩) _ (List.mem_cons_of_mem _ List.mem_cons_self)))) ?_
  rintro _ _ ⟨_, ⟨u2, q2, hq2, rfl, rfl⟩, rfl⟩
  rw [wput_wput] at hq2 ⊢
  refine AL_nil ?_
  refine AC_seq ?_
  refine AC_region ?_
  refine AL_p rfl rfl (S_load 1 rfl (.tmp rfl) rfl rfl (by kernel_rfl)) ?_
  refine AL_p rfl rfl (S_field 9 rfl (.tmp rfl) (by kernel_rfl)) ?_
  refine AL_p rfl rfl (S_field 0 rfl (.tmp rfl) (by kernel_rfl)) ?_
  refine AL_p rfl rfl (S_load 0 rfl (.tmp rfl) rfl rfl (by kernel_rfl)) ?_
  refine AL_step rfl rfl (S_call rfl (AEvs.cons (.tmp rfl) (AEvs.cons (.tmp rfl) AEvs.nil)) (ACalls.preQ (pre := [_, _]) (F := F) (w_NumN b u2 q2 _ c hq2 (by first | omega | (refine Nat.le_trans (Nat.add_le_add_right (wput_len _ _ _) _) ?_; (try simp only [List.length_append]); omega)) d.probe.1 (by omega) (by omega) _))) ?_
  rintro _ _ ⟨_, ⟨u2, q2, hq2, rfl, rfl⟩, rfl⟩
  rw [wput_wput] at hq2 ⊢
  refine AL_nil ?_
  refine AC_region ?_
  refine AL_p rfl rfl (S_load 1 rfl (.tmp rfl) rfl rfl (by kernel_rfl)) ?_
  refine AL_p rfl rfl (S_field 9 rfl (.tmp rfl) (by kernel_rfl)) ?_
  refine AL_p rfl rfl (S_field 1 rfl (.tmp rfl) (by kernel_rfl)) ?_
  refine AL_p rfl rfl (S_load 0 rfl (.tmp rfl) rfl rfl (by kernel_rfl)) ?_
  refine AL_step rfl rfl (S_call rfl (AEvs.cons (.tmp rfl) (AEvs.cons (.tmp rfl) AEvs.nil)) (ACalls.preQ (pre := [_, _]) (F := F) (w_NumN b u2 q2 _ c hq2 (by first | omega | (refine Nat.le_trans (Nat.add_le_add_right (wput_len _ _ _) _) ?_; (try simp only [List.length_append]); omega)) d.probe.2 (by omega) (by omega) _))) ?_
  rintro _ _ ⟨_, ⟨u2, q2, hq2, rfl, rfl⟩, rfl⟩
  rw [wput_wput] at hq2 ⊢
  rw [ctrB_assoc] at hq2 ⊢
  refine AL_nil ?_
  refine ret_none (((b, .cells [addrB u2 b 87 3, bufAV q2 (wput c l (ctrB d)), .int .i64 (c)]) :: bufSt q2 5 (wput c l (ctrB d))) ++ F) rfl (Sub.l ((List.sublist_cons_self _ _).trans (List.sublist_cons_self _ _))) ⟨_, ⟨u2, q2, hq2, rfl, rfl⟩, rfl⟩ (.inr rfl)

set_option maxRecDepth 100000 in
/-- provost/pack.Put$1 -/
theorem putP1_ok (b : Nat) (u2 : Bool) (q2 : Buf) (l : List UInt8) (c : Int) (hq2 : q2.ok l)  (hl : l.length + 1000 ≤ 100000000000) (bw : Nat) (y : Ctr) (hy : CtrOk y) (F : St) (hw : (bw, Ob.cells [.ptr b 0]) ∈ F) : ACalls Tryz.prog 42 [ctrAV y, .ptr bw 0] (((b, .cells [addrB u2 b 87 3, bufAV q2 (l), .int .i64 (c)]) :: bufSt q2 5 (l)) ++ F) (fun x st' => ∃ foot', (∃ (u' : Bool) (q' : Buf), q'.ok (wput c l (ctrB y)) ∧ x = .tup [] ∧ foot' = (b, .cells [addrB u' b 87 3, bufAV q' (wput c l (ctrB y)), .int .i64 (c)]) :: bufSt q' 5 (wput c l (ctrB y))) ∧ st' = foot' ++ F) := by
  refine ACalls_of (N := 6) Tryz.func42 (by kernel_rfl) rfl rfl rfl ?_
  refine AC_seq ?_
  refine AC_region ?_
  refine AL_step rfl rfl (S_box rfl (.tmp rfl)) ?_
  rintro _ _ ⟨b2, rfl, rfl⟩
  refine AL_nil ?_
  refine AC_region ?_
  refine AL_p rfl rfl (S_loadM (cs := [.ptr b 0]) rfl (.tmp rfl) (by repeat (first | exact hw | exact List.mem_cons_self | refine List.mem_append_right _ ?_ | refine List.mem_cons_of_mem _ ?_)) rfl (by kernel_rfl)) ?_
  refine AL_p rfl rfl (S_loadN (m := 11) 0 rfl (.tmp rfl) rfl (by kernel_rfl) (by first | exact Nat.le_of_ble_eq_true rfl | (simp; omega) | simp)) ?_
  refine AL_step rfl rfl (S_call rfl (AEvs.cons (.tmp rfl) (AEvs.cons (.tmp rfl) AEvs.nil)) (ACalls.preQ (pre := [_]) (F := F) (putContainer_ok b u2 q2 _ c hq2 hl y hy _))) ?_
  rintro _ _ ⟨_, ⟨u2, q2, hq2, rfl, rfl⟩, rfl⟩
  refine AL_nil ?_
  refine ret_none (((b, .cells [addrB u2 b 87 3, bufAV q2 (wput c l (ctrB y)), .int .i64 (c)]) :: bufSt q2 5 (wput c l (ctrB y))) ++ F) rfl (Sub.l (List.sublist_cons_self _ _)) ⟨_, ⟨u2, q2, hq2, rfl, rfl⟩, rfl⟩ (.inr rfl)

set_option maxRecDepth 100000 in
/-- provost/pack.putAll[provost/api.Container] -/
theorem putAllC_ok (b : Nat) (u2 : Bool) (q2 : Buf) (l : List UInt8) (c : Int) (hq2 : q2.ok l) (xs : List Ctr) (hl : l.length + (10 + xs.length * 1000) ≤ 100000000000) (bw : Nat) (hxs : xs.length ≤ 1000) (hok : ∀ x ∈ xs, CtrOk x) (F : St) (hw : (bw, Ob.cells [.ptr b 0]) ∈ F) : ACalls Tryz.prog 41 [.ptr b 0, .sl (ctrsV xs), .fn 42 [.pointer (some ⟨bw, 0, none⟩)]] (((b, .cells [addrB u2 b 87 3, bufAV q2 (l), .int .i64 (c)]) :: bufSt q2 5 (l)) ++ F) (fun x st' => ∃ foot', (∃ (u' : Bool) (q' : Buf), q'.ok (wput c l (listB ctrB xs)) ∧ x = .tup [] ∧ foot' = (b, .cells [addrB u' b 87 3, bufAV q' (wput c l (listB ctrB xs)), .int .i64 (c)]) :: bufSt q' 5 (wput c l (listB ctrB xs))) ∧ st' = foot' ++ F) := by
  refine ACalls_of (N := 22) Tryz.func41 (by kernel_rfl) rfl rfl rfl ?_
  have hen : ∀ x ∈ xs, (ctrB x).length ≤ 1000 := fun x hx => ctrB_len (hok x hx)
  have hp := putL_few xs.length (by omega)
  refine AC_seq ?_
  refine AC_region ?_
  refine AL_p rfl rfl (S_move rfl (.tmp rfl)) ?_
  refine AL_p rfl rfl (S_move rfl (.tmp rfl)) ?_
  refine AL_p rfl rfl (by first | exact S_lenM (e := 79) rfl (.tmp rfl) (by kernel_rfl) | exact S_len (e := 79) rfl (.tmp rfl) (by kernel_rfl)) ?_
  refine AL_step rfl rfl (S_call rfl (AEvs.cons (.tmp rfl) (AEvs.cons (.tmp rfl) AEvs.nil)) (w_NumN b u2 q2 _ c hq2 (by first | omega | (refine Nat.le_trans (Nat.add_le_add_right (wput_len _ _ _) _) ?_; (try simp only [List.length_append]); omega)) (xs.length : Int) (by omega) (by omega) F)) ?_
  rintro _ _ ⟨_, ⟨u2, q2, hq2, rfl, rfl⟩, rfl⟩
  have e0 : wput c l (numB (xs.length : Int)) = wput c l (putL xs.length ++ (xs.take 0).flatMap ctrB) := by simp [numB]
  rw [e0] at hq2 ⊢
  refine AL_nil ?_
  refine AC_seq ?_
  refine AC_region ?_
  refine AL_p rfl rfl (S_move rfl (.tmp rfl)) ?_
  refine AL_p rfl rfl (by first | exact S_lenM (e := 79) rfl (.tmp rfl) (by kernel_rfl) | exact S_len (e := 79) rfl (.tmp rfl) (by kernel_rfl)) ?_
  refine AL_p rfl rfl (S_move rfl (AEv.const _)) ?_
  refine AL_nil ?_
  refine AC_block ?_
  refine AC_loopK (G := Nat × Bool × Buf) [(2, _), (12, _), (13, _)] (fun g => g.1 ≤ xs.length ∧ g.2.2.ok (wput c l (putL xs.length ++ (xs.take g.1).flatMap ctrB))) (fun g => [(14, .int .i64 (g.1 : Int))]) (fun g => ((b, .cells [addrB g.2.1 b 87 3, bufAV g.2.2 (wput c l (putL xs.length ++ (xs.take g.1).flatMap ctrB)), .int .i64 (c)]) :: bufSt g.2.2 5 (wput c l (putL xs.length ++ (xs.take g.1).flatMap ctrB))) ++ F) (fun g => xs.length - g.1) ((0, u2, q2)) (⟨Nat.zero_le _, hq2⟩) (Sub.l (List.Sublist.refl _)) (.cons rfl (Le.refl _) (.cons rfl (Le.refl _) (.cons rfl (Le.refl _) .nil))) (.cons rfl (by first | exact Le.refl _ | exact Le.nils | exact Le.row _ _ _ _ | exact Le.of_eq (by first | rfl | (simp; done) | (push_cast; rfl) | (simp; omega))) .nil) ?_
  rintro ⟨i, u2, q2⟩ ⟨hi, hq2⟩
  try dsimp only
  simp only [List.cons_append, List.nil_append]
  dsimp only at hi hq2
  have hfm := flatB_len (e := ctrB) (B := 1000) (l := xs.take i) fun x hx => hen x (List.mem_of_mem_take hx)
  rw [List.length_take, show min i xs.length = i by omega] at hfm
  refine AC_seq ?_
  refine AC_region ?_
  refine AL_p rfl rfl (S_lss rfl (.tmp rfl) (.tmp rfl)) ?_
  refine AL_nil ?_
  refine AC_seq ?_
  refine AC_cond (.tmp rfl) (fun hb1 => ?_) (fun hb1 => ?_)
  · try simp only [zA, zO, zN, zM, zP, zQ, zD, zF, gd] at hb1
    have hil : i < xs.length := by omega
    have hxl := hen _ (List.getElem_mem hil)
    refine AC_skip ?_
    refine AC_seq ?_
    refine AC_block ?_
    refine AC_seq ?_
    refine AC_region ?_
    refine AL_p rfl rfl (S_elemN (e := 79) 11 rfl (.tmp rfl) (.tmp rfl) (by kernel_rfl) (by kernel_rfl) (by omega) (fun _ => rfl)) ?_
    refine AL_p rfl rfl (S_loadPN (m := 11) rfl (.tmp rfl) (by kernel_rfl) (by first | exact Nat.le_of_ble_eq_true rfl | (simp; omega) | simp)) ?_
    refine AL_step rfl rfl (S_alloc [.string ⟨#[]⟩, .string ⟨#[]⟩, .int .i64 0, .int .i64 0, .int .i64 0, .int .i64 0, .int .i64 0, .int .i64 0, .slice none 0 0, .int .i64 0, .int .i64 0] rfl (by kernel_rfl)) ?_
    rintro _ _ ⟨b7, rfl, rfl⟩
    refine AL_step rfl rfl (S_storeW 0 rfl (.tmp rfl) (.tmp rfl) rfl rfl rfl (by kernel_rfl)) ?_
    rintro _ _ ⟨rfl, rfl⟩
    refine AL_nil ?_
    refine AC_region ?_
    refine AL_p rfl rfl (S_move rfl (.tmp rfl)) ?_
    refine AL_p rfl rfl (S_loadN (m := 11) 0 rfl (.tmp rfl) rfl (by kernel_rfl) (by first | exact Nat.le_of_ble_eq_true rfl | (simp; omega) | simp)) ?_
    refine AL_step rfl rfl (S_callF (caps := [.pointer (some ⟨bw, 0, none⟩)]) rfl (.tmp rfl) (AEvs.cons (y := ctrAV (xs[i]'hil)) (.tmp rfl) AEvs.nil) (ACalls.preQ (pre := [_]) (F := F) (putP1_ok b u2 q2 _ c hq2 (by first | omega | (refine Nat.le_trans (Nat.add_le_add_right (wput_len _ _ _) _) ?_; (try simp only [List.length_append]); omega)) bw (xs[i]'hil) (hok _ (List.getElem_mem hil)) _ (List.mem_cons_of_mem _ hw)))) ?_
    rintro _ _ ⟨_, ⟨u2, q2, hq2, rfl, rfl⟩, rfl⟩
    rw [wput_wput] at hq2 ⊢
    refine AL_nil ?_
    refine AC_region ?_
    refine AL_p rfl rfl (S_addI rfl (.tmp rfl) (AEv.const _) (by omega) (by omega)) ?_
    refine AL_p rfl rfl (S_move rfl (.tmp rfl)) ?_
    refine AL_nil ?_
    refine ⟨(i + 1, u2, q2), ⟨by dsimp only; omega, by dsimp only; rw [listB_next hil]; exact hq2⟩, by dsimp only; omega, by dsimp only; rw [listB_next hil]; exact (Sub.l (List.sublist_cons_self _ _)), (.cons rfl (by first | exact Le.refl _ | exact Le.nils | exact Le.row _ _ _ _ | exact Le.of_eq (by first | rfl | (simp; done) | (push_cast; rfl) | (simp; omega))) .nil), (.cons rfl (Le.refl _) (.cons rfl (Le.refl _) (.cons rfl (Le.refl _) .nil)))⟩
  try simp only [zA, zO, zN, zM, zP, zQ, zD, zF, gd] at hb1
  rw [List.take_of_length_le (show xs.length ≤ i by omega)] at hq2 ⊢
  refine AC_exit ?_
  refine ret_none (((b, .cells [addrB u2 b 87 3, bufAV q2 (wput c l (listB ctrB xs)), .int .i64 (c)]) :: bufSt q2 5 (wput c l (listB ctrB xs))) ++ F) rfl (Sub.l (List.Sublist.refl _)) ⟨_, ⟨u2, q2, hq2, rfl, rfl⟩, rfl⟩ (.inr rfl)

set_option maxRecDepth 100000 in
/-- provost/pack.PutLabels -/
theorem PutLabels_ok (b : Nat) (u2 : Bool) (q2 : Buf) (l : List UInt8) (c : Int) (hq2 : q2.ok l) (xs : List Lab) (hl : l.length + (10 + xs.length * 1000) ≤ 100000000000) (hxs : xs.length ≤ 1000) (hok : ∀ x ∈ xs, x.1.length ≤ 400 ∧ x.2.length ≤ 400) (F : St) : ACalls Tryz.prog 25 [.ptr b 0, .sl (labsV xs)] (((b, .cells [addrB u2 b 87 3, bufAV q2 (l), .int .i64 (c)]) :: bufSt q2 5 (l)) ++ F) (fun x st' => ∃ foot', (∃ (u' : Bool) (q' : Buf), q'.ok (wput c l (listB labB xs)) ∧ x = .tup [] ∧ foot' = (b, .cells [addrB u' b 87 3, bufAV q' (wput c l (listB labB xs)), .int .i64 (c)]) :: bufSt q' 5 (wput c l (listB labB xs))) ∧ st' = foot' ++ F) := by
  refine ACalls_of (N := 8) Tryz.func25 (by kernel_rfl) rfl rfl rfl ?_
  refine AC_seq ?_
  refine AC_region ?_
  refine AL_step rfl rfl (S_box1 rfl (.tmp rfl) rfl) ?_
  rintro _ _ ⟨b2, rfl, rfl⟩
  refine AL_nil ?_
  refine AC_region ?_
  refine AL_p rfl rfl (S_load 0 rfl (.tmp rfl) rfl rfl (by kernel_rfl)) ?_
  refine AL_p rfl rfl (S_move rfl (.tmp rfl)) ?_
  refine AL_p rfl rfl (S_makeFunc (caps := [_]) rfl (AEvs.cons (.tmp rfl) AEvs.nil)) ?_
  refine AL_step rfl rfl (S_call rfl (AEvs.cons (.tmp rfl) (AEvs.cons (.tmp rfl) (AEvs.cons (.tmp rfl) AEvs.nil))) (ACalls.preQ (pre := [_]) (F := F) (putAllL_ok b u2 q2 _ c hq2 xs hl b2 hxs hok _ List.mem_cons_self))) ?_
  rintro _ _ ⟨_, ⟨u2, q2, hq2, rfl, rfl⟩, rfl⟩
  refine AL_nil ?_
  refine ret_none (((b, .cells [addrB u2 b 87 3, bufAV q2 (wput c l (listB labB xs)), .int .i64 (c)]) :: bufSt q2 5 (wput c l (listB labB xs))) ++ F) rfl (Sub.l (List.sublist_cons_self _ _)) ⟨_, ⟨u2, q2, hq2, rfl, rfl⟩, rfl⟩ (.inr rfl)

theorem w_FailN (b : Nat) (u2 : Bool) (q2 : Buf) (l : List UInt8) (c : Int) (hq2 : q2.ok l) (d : Int) (F : St) : ACalls Tryz.prog 40 [.ptr b 2, .int .i64 d] (((b, .cells [addrB u2 b 87 3, bufAV q2 (l), .int .i64 (c)]) :: bufSt q2 5 (l)) ++ F) (fun x st' => ∃ foot', (∃ (u' : Bool) (q' : Buf), q'.ok (l) ∧ x = .tup [] ∧ foot' = (b, .cells [addrB u' b 87 3, bufAV q' (l), .int .i64 (failC c d)]) :: bufSt q' 5 (l)) ∧ st' = foot' ++ F) := (sticks_Fail_ok b 2 [_, _, .int .i64 c] c d rfl _).mono fun x st' ⟨h1, h2⟩ => ⟨_, ⟨u2, q2, hq2, h1, rfl⟩, h2⟩

set_option maxRecDepth 100000 in
/-- provost/pack.Put -/
theorem pack_Put_ok (b : Nat) (u2 : Bool) (q2 : Buf) (l : List UInt8) (c : Int) (hq2 : q2.ok l)  (hl : l.length + 20000 ≤ 100000000000) (s : Spc) (hs : lightS s = true) (F : St) (hG : ∀ r, r ∈ Gs tabs → r ∈ F) : ACalls Tryz.prog 15 [.ptr b 0, spcAV s] (((b, .cells [addrB u2 b 87 3, bufAV q2 (l), .int .i64 (c)]) :: bufSt q2 5 (l)) ++ F) (fun x st' => ∃ foot', (∃ (u' : Bool) (q' : Buf), q'.ok (if checkE s = none then wput c l (spcB s) else l) ∧ x = .tup [] ∧ foot' = (b, .cells [addrB u' b 87 3, bufAV q' ((if checkE s = none then wput c l (spcB s) else l)), .int .i64 ((if checkE s = none then c else failC c (erCode (checkE s))))]) :: bufSt q' 5 ((if checkE s = none then wput c l (spcB s) else l))) ∧ st' = foot' ++ F) := by
  refine ACalls_of (N := 50) Tryz.func15 (by kernel_rfl) rfl rfl rfl ?_
  refine AC_seq ?_
  refine AC_region ?_
  refine AL_step rfl rfl (S_box1 rfl (.tmp rfl) rfl) ?_
  rintro _ _ ⟨b2, rfl, rfl⟩
  refine AL_step rfl rfl (S_box rfl (.tmp rfl)) ?_
  rintro _ _ ⟨b3, rfl, rfl⟩
  refine AL_nil ?_
  refine AC_seq ?_
  refine AC_seq ?_
  refine AC_region ?_
  refine AL_p rfl rfl (S_loadN (m := 7) 0 rfl (.tmp rfl) rfl (by kernel_rfl) (by first | exact Nat.le_of_ble_eq_true rfl | (simp; omega) | simp)) ?_
  refine AL_p rfl rfl (S_gcall rfl (AEvs.cons (.tmp rfl) AEvs.nil) ((spec_Check_ok s hs) _ (fun p hp => by first | exact hst p (List.mem_cons_of_mem _ hp) | exact (by repeat (first | exact hG p hp | refine List.mem_append_right _ ?_ | refine List.mem_cons_of_mem _ ?_))))) ?_
  refine AL_p rfl rfl (S_assign rfl (.tmp rfl)) ?_
  refine AL_nil ?_
  refine AC_seq ?_
  refine AC_region ?_
  refine AL_p rfl rfl (S_move rfl (.tmp rfl)) ?_
  refine AL_p rfl rfl (S_neqE (er_is 28 167 (checkE s)) rfl (.tmp rfl) (by kernel_rfl)) ?_
  refine AL_nil ?_
  refine AC_cond (.tmp rfl) (fun hb3 => ?_) (fun hb3 => ?_)
  · try simp only [zA, zO, zN, zM, zP, zQ, zD, zF, gd] at hb3
    have hk : ¬ checkE s = none := fun h => by rw [h] at hb3; simp at hb3
    refine AC_seq ?_
    refine AC_plan (σ := [(0, 0), (1, 0), (2, 0), (3, 0), (4, 0), (5, 2)]) (by kernel_rfl) ((b2, Ob.cells [.ptr b 0]) :: Gs tabs) (by kernel_rfl) (fun r hr => by
      rcases List.mem_cons.1 hr with rfl | hr
      · exact List.mem_cons_of_mem _ List.mem_cons_self
      · exact (by repeat (first | exact hG r hr | refine List.mem_append_right _ ?_ | refine List.mem_cons_of_mem _ ?_))) ?_
    refine AG.f rfl rfl (fun st' hst => Q_p rfl (S_loadM rfl (.tmp rfl) (hst _ (List.mem_of_getElem? (i := 0) rfl)) rfl (by kernel_rfl))) ?_
    refine AG.f rfl rfl (fun st' hst => Q_p rfl (S_nilCheck rfl (.tmp rfl))) ?_
    refine AG.f rfl rfl (fun st' hst => Q_p rfl (S_field 2 rfl (.tmp rfl) (by kernel_rfl))) ?_
    refine AG.f rfl rfl (fun st' hst => Q_p rfl (S_move rfl (.tmp rfl))) ?_
    refine AG.f rfl rfl (fun st' hst => Q_p rfl (S_gcall rfl (AEvs.cons (.tmp rfl) AEvs.nil) ((fail_Code_ok (checkE s)) _ (fun p hp => by first | exact hst p (List.mem_cons_of_mem _ hp) | exact (by repeat (first | exact hG p hp | refine List.mem_append_right _ ?_ | refine List.mem_cons_of_mem _ ?_)))))) ?_
    refine AG.h rfl rfl rfl (S_call rfl (AEvs.cons (.tmp rfl) (AEvs.cons (.tmp rfl) AEvs.nil)) (ACalls.preQ (pre := [_, _]) (F := F) (w_FailN b u2 q2 _ c hq2 (erCode (checkE s)) _))) ?_
    rintro _ _ ⟨_, ⟨u2, q2, hq2, rfl, rfl⟩, rfl⟩
    refine AG.nil ?_
    refine AC_ret ?_
    refine ret_none (((b, .cells [addrB u2 b 87 3, bufAV q2 (l), .int .i64 (failC c (erCode (checkE s)))]) :: bufSt q2 5 (l)) ++ F) rfl (Sub.l ((List.sublist_cons_self _ _).trans (List.sublist_cons_self _ _))) ⟨_, ⟨u2, q2, by rw [if_neg hk]; exact hq2, rfl, by rw [if_neg hk, if_neg hk]⟩, rfl⟩ (.inl rfl)
  try simp only [zA, zO, zN, zM, zP, zQ, zD, zF, gd] at hb3
  have hk : checkE s = none := by simpa using hb3
  obtain ⟨hk1, hk2, hk3, hk4, hk5, hk6, hk7⟩ := check_ok hk
  have hk21 := hk2.1
  have hk31 := hk3.1
  have hk41 := hk4.1
  have n1 := textB_len (s := s.name) (by omega)
  have n2 := listB_len (e := labB) (l := s.labels) (B := 1000) (by omega) fun x hx => labB_len (by have := (hk2.2 x hx).1; omega) (by have := (hk2.2 x hx).2; omega)
  have hcs : ∀ x ∈ [s.init, s.main], x.length ≤ 4 ∧ ∀ y ∈ x, CtrOk y := two_all ⟨by omega, hk3.2⟩ ⟨by omega, hk4.2⟩
  have hcl : ∀ x ∈ [s.init, s.main], (listB ctrB x).length ≤ 4010 := fun x hx => by
    have h8 := hcs x hx
    have h9 := listB_len (e := ctrB) (l := x) (B := 1000) (by omega) fun y hy => ctrB_len (h8.2 y hy)
    omega
  have n5 := numB_len (n := s.restart) (by omega)
  have n6 := numB_len (n := s.grace) (by omega)
  have n7 := numB_len (n := s.prio) (by omega)
  refine AC_skip ?_
  refine AC_seq ?_
  refine AC_region ?_
  refine AL_p rfl rfl (S_load 1 rfl (.tmp rfl) rfl rfl (by kernel_rfl)) ?_
  refine AL_p rfl rfl (S_field 0 rfl (.tmp rfl) (by kernel_rfl)) ?_
  refine AL_p rfl rfl (S_load 0 rfl (.tmp rfl) rfl rfl (by kernel_rfl)) ?_
  refine AL_step rfl rfl (S_call rfl (AEvs.cons (.tmp rfl) (AEvs.cons (.tmp rfl) AEvs.nil)) (ACalls.preQ (pre := [_, _]) (F := F) (w_TextN b u2 q2 _ c hq2 (by first | omega | (refine Nat.le_trans (Nat.add_le_add_right (wput_len _ _ _) _) ?_; (try simp only [List.length_append]); omega)) s.name (by omega) (by first | omega | (refine Nat.le_trans (Nat.add_le_add_right (wput_len _ _ _) _) ?_; (try simp only [List.length_append]); omega)) _))) ?_
  rintro _ _ ⟨_, ⟨u2, q2, hq2, rfl, rfl⟩, rfl⟩
  refine AL_nil ?_
  refine AC_seq ?_
  refine AC_region ?_
  refine AL_p rfl rfl (S_load 1 rfl (.tmp rfl) rfl rfl (by kernel_rfl)) ?_
  refine AL_p rfl rfl (S_field 1 rfl (.tmp rfl) (by kernel_rfl)) ?_
  refine AL_p rfl rfl (S_load 0 rfl (.tmp rfl) rfl rfl (by kernel_rfl)) ?_
  refine AL_step rfl rfl (S_call rfl (AEvs.cons (.tmp rfl) (AEvs.cons (.tmp rfl) AEvs.nil)) (ACalls.preQ (pre := [_, _]) (F := F) (PutLabels_ok b u2 q2 _ c hq2 s.labels (by first | omega | (refine Nat.le_trans (Nat.add_le_add_right (wput_len _ _ _) _) ?_; (try simp only [List.length_append]); omega)) (by omega) (fun x hx => ⟨by have := (hk2.2 x hx).1; omega, by have := (hk2.2 x hx).2; omega⟩) _))) ?_
  rintro _ _ ⟨_, ⟨u2, q2, hq2, rfl, rfl⟩, rfl⟩
  rw [wput_wput] at hq2 ⊢
  refine AL_nil ?_
  refine AC_seq ?_
  refine AC_seq ?_
  refine AC_region ?_
  refine AL_p rfl rfl (S_field 2 rfl (.tmp rfl) (by kernel_rfl)) ?_
  refine AL_p rfl rfl (S_load 0 rfl (.tmp rfl) rfl rfl (by kernel_rfl)) ?_
  refine AL_p rfl rfl (S_field 3 rfl (.tmp rfl) (by kernel_rfl)) ?_
  refine AL_p rfl rfl (S_load 0 rfl (.tmp rfl) rfl rfl (by kernel_rfl)) ?_
  refine AL_p rfl rfl (S_build (t := 91) (pl := [(0, 1), (1, 1)]) (zs := [.slice none 0 0, .slice none 0 0]) rfl (AEvs.cons (.tmp rfl) (AEvs.cons (.tmp rfl) AEvs.nil)) (by kernel_rfl) rfl) ?_
  refine AL_p rfl rfl (S_move rfl (AEv.const _)) ?_
  refine AL_nil ?_
  refine AC_block ?_
  refine AC_loopK (G := Nat × Bool × Buf) [(2, _), (3, _), (29, _)] (fun g => g.1 ≤ 2 ∧ g.2.2.ok (wput c l ((textB s.name ++ listB labB s.labels) ++ ([s.init, s.main].take g.1).flatMap (listB ctrB)))) (fun g => [(30, .int .i64 (g.1 : Int))]) (fun g => (b3, .cells (spcL s)) :: (b2, .cells [.ptr b 0]) :: (((b, .cells [addrB g.2.1 b 87 3, bufAV g.2.2 (wput c l ((textB s.name ++ listB labB s.labels) ++ ([s.init, s.main].take g.1).flatMap (listB ctrB))), .int .i64 (c)]) :: bufSt g.2.2 5 (wput c l ((textB s.name ++ listB labB s.labels) ++ ([s.init, s.main].take g.1).flatMap (listB ctrB)))) ++ F)) (fun g => 2 - g.1) ((0, u2, q2)) (⟨Nat.zero_le _, by simpa using hq2⟩) (by simp only [List.take_zero, List.flatMap_nil, List.append_nil]; exact (Sub.l (List.Sublist.refl _))) (.cons rfl (Le.refl _) (.cons rfl (Le.refl _) (.cons rfl (Le.refl _) .nil))) (.cons rfl (by first | exact Le.refl _ | exact Le.nils | exact Le.row _ _ _ _ | exact Le.of_eq (by first | rfl | (simp; done) | (push_cast; rfl) | (simp; omega))) .nil) ?_
  rintro ⟨i, u2, q2⟩ ⟨hi, hq2⟩
  try dsimp only
  simp only [List.cons_append, List.nil_append]
  dsimp only at hi hq2
  have hfm := flatB_len (e := listB ctrB) (B := 4010) (l := [s.init, s.main].take i) fun x hx => hcl x (List.mem_of_mem_take hx)
  rw [List.length_take, show min i [s.init, s.main].length = i from Nat.min_eq_left hi] at hfm
  refine AC_seq ?_
  refine AC_region ?_
  refine AL_p rfl rfl (S_lss rfl (.tmp rfl) (AEv.const _)) ?_
  refine AL_nil ?_
  refine AC_seq ?_
  refine AC_cond (.tmp rfl) (fun hb4 => ?_) (fun hb4 => ?_)
  · try simp only [zA, zO, zN, zM, zP, zQ, zD, zF, gd] at hb4
    have hil : i < [s.init, s.main].length := by show i < 2; omega
    have hci := hcs _ (List.getElem_mem hil)
    have hcj := hcl _ (List.getElem_mem hil)
    refine AC_skip ?_
    refine AC_seq ?_
    refine AC_block ?_
    refine AC_seq ?_
    refine AC_region ?_
    refine AL_p rfl rfl ((S_idxOne (e := 23) (len := 2) (c := .sl (ctrsV ([s.init, s.main][i]'hil))) rfl (.tmp rfl) (.tmp rfl) (by kernel_rfl) (by kernel_rfl) (by kernel_rfl) (by omega) (by omega) (by rcases (show i = 0 ∨ i = 1 by omega) with rfl | rfl <;> rfl))) ?_
    refine AL_p rfl rfl (S_assign rfl (.tmp rfl)) ?_
    refine AL_nil ?_
    refine AC_region ?_
    refine AL_p rfl rfl (S_load 1 rfl (.tmp rfl) rfl rfl (by kernel_rfl)) ?_
    refine AL_p rfl rfl (S_move rfl (.tmp rfl)) ?_
    refine AL_p rfl rfl (S_makeFunc (caps := [_]) rfl (AEvs.cons (.tmp rfl) AEvs.nil)) ?_
    refine AL_step rfl rfl (S_call rfl (AEvs.cons (.tmp rfl) (AEvs.cons (.tmp rfl) (AEvs.cons (.tmp rfl) AEvs.nil))) (ACalls.preQ (pre := [_, _]) (F := F) (putAllC_ok b u2 q2 _ c hq2 ([s.init, s.main][i]'hil) (by first | omega | (refine Nat.le_trans (Nat.add_le_add_right (wput_len _ _ _) _) ?_; (try simp only [List.length_append]); omega)) b2 (by omega) hci.2 _ (List.mem_cons_of_mem _ List.mem_cons_self)))) ?_
    rintro _ _ ⟨_, ⟨u2, q2, hq2, rfl, rfl⟩, rfl⟩
    rw [wput_wput] at hq2 ⊢
    refine AL_nil ?_
    refine AC_region ?_
    refine AL_p rfl rfl (S_addI rfl (.tmp rfl) (AEv.const _) (by omega) (by omega)) ?_
    refine AL_p rfl rfl (S_move rfl (.tmp rfl)) ?_
    refine AL_nil ?_
    refine ⟨(i + 1, u2, q2), ⟨by dsimp only; omega, by dsimp only; rw [flatB_next hil]; exact hq2⟩, by dsimp only; omega, by dsimp only; rw [flatB_next hil]; exact (Sub.l (List.Sublist.refl _)), (.cons rfl (by first | exact Le.refl _ | exact Le.nils | exact Le.row _ _ _ _ | exact Le.of_eq (by first | rfl | (simp; done) | (push_cast; rfl) | (simp; omega))) .nil), (.cons rfl (Le.refl _) (.cons rfl (Le.refl _) (.cons rfl (Le.refl _) .nil)))⟩
  try simp only [zA, zO, zN, zM, zP, zQ, zD, zF, gd] at hb4
  have hi2 : i = 2 := by omega
  subst hi2
  rw [show [s.init, s.main].take 2 = [s.init, s.main] from rfl] at hq2 hfm ⊢
  refine AC_exit ?_
  refine AC_seq ?_
  refine AC_region ?_
  refine AL_p rfl rfl (S_load 1 rfl (.tmp rfl) rfl rfl (by kernel_rfl)) ?_
  refine AL_p rfl rfl (S_field 4 rfl (.tmp rfl) (by kernel_rfl)) ?_
  refine AL_p rfl rfl (S_load 0 rfl (.tmp rfl) rfl rfl (by kernel_rfl)) ?_
  refine AL_step rfl rfl (S_call rfl (AEvs.cons (.tmp rfl) (AEvs.cons (.tmp rfl) AEvs.nil)) (ACalls.preQ (pre := [_, _]) (F := F) (w_NumN b u2 q2 _ c hq2 (by first | omega | (refine Nat.le_trans (Nat.add_le_add_right (wput_len _ _ _) _) ?_; (try simp only [List.length_append]); omega)) s.restart (by omega) (by omega) _))) ?_
  rintro _ _ ⟨_, ⟨u2, q2, hq2, rfl, rfl⟩, rfl⟩
  rw [wput_wput] at hq2 ⊢
  refine AL_nil ?_
  refine AC_seq ?_
  refine AC_region ?_
  refine AL_p rfl rfl (S_load 1 rfl (.tmp rfl) rfl rfl (by kernel_rfl)) ?_
  refine AL_p rfl rfl (S_field 5 rfl (.tmp rfl) (by kernel_rfl)) ?_
  refine AL_p rfl rfl (S_load 0 rfl (.tmp rfl) rfl rfl (by kernel_rfl)) ?_
  refine AL_step rfl rfl (S_call rfl (AEvs.cons (.tmp rfl) (AEvs.cons (.tmp rfl) AEvs.nil)) (ACalls.preQ (pre := [_, _]) (F := F) (w_NumN b u2 q2 _ c hq2 (by first | omega | (refine Nat.le_trans (Nat.add_le_add_right (wput_len _ _ _) _) ?_; (try simp only [List.length_append]); omega)) s.grace (by omega) (by omega) _))) ?_
  rintro _ _ ⟨_, ⟨u2, q2, hq2, rfl, rfl⟩, rfl⟩
  rw [wput_wput] at hq2 ⊢
  refine AL_nil ?_
  refine AC_region ?_
  refine AL_p rfl rfl (S_load 1 rfl (.tmp rfl) rfl rfl (by kernel_rfl)) ?_
  refine AL_p rfl rfl (S_field 6 rfl (.tmp rfl) (by kernel_rfl)) ?_
  refine AL_p rfl rfl (S_load 0 rfl (.tmp rfl) rfl rfl (by kernel_rfl)) ?_
  refine AL_step rfl rfl (S_call rfl (AEvs.cons (.tmp rfl) (AEvs.cons (.tmp rfl) AEvs.nil)) (ACalls.preQ (pre := [_, _]) (F := F) (w_NumN b u2 q2 _ c hq2 (by first | omega | (refine Nat.le_trans (Nat.add_le_add_right (wput_len _ _ _) _) ?_; (try simp only [List.length_append]); omega)) s.prio (by omega) (by omega) _))) ?_
  rintro _ _ ⟨_, ⟨u2, q2, hq2, rfl, rfl⟩, rfl⟩
  rw [wput_wput] at hq2 ⊢
  rw [spcB_assoc] at hq2 ⊢
  refine AL_nil ?_
  refine ret_none (((b, .cells [addrB u2 b 87 3, bufAV q2 (wput c l (spcB s)), .int .i64 (c)]) :: bufSt q2 5 (wput c l (spcB s))) ++ F) rfl (Sub.l ((List.sublist_cons_self _ _).trans (List.sublist_cons_self _ _))) ⟨_, ⟨u2, q2, by rw [if_pos hk]; exact hq2, rfl, by rw [if_pos hk, if_pos hk]⟩, rfl⟩ (.inr rfl)

set_option maxRecDepth 100000 in
/-- provost/pack.Bytes -/
theorem pack_Bytes_ok (s : Spc) (hs : lightS s = true) : GCalls Tryz.prog tabs 11 [spcAV s] (.tup [.S (if checkE s = none then spcB s else []), .int .i64 (erCode (checkE s))]) := by
  intro st hG
  refine ACalls_of (N := 13) Tryz.func11 (by kernel_rfl) rfl rfl rfl ?_
  refine AC_seq ?_
  refine AC_region ?_
  refine AL_step rfl rfl (S_box rfl (.tmp rfl)) ?_
  rintro _ _ ⟨b1, rfl, rfl⟩
  refine AL_p rfl rfl (S_assign rfl (AEv.S _)) ?_
  refine AL_p rfl rfl (S_assign rfl (AEv.const _)) ?_
  refine AL_nil ?_
  refine AC_seq ?_
  refine AC_region ?_
  refine AL_step rfl rfl (S_call rfl AEvs.nil (wire_Write_ok _)) ?_
  rintro _ _ ⟨_, ⟨b4, rfl, rfl⟩, rfl⟩
  refine AL_p rfl rfl (S_assign rfl (.tmp rfl)) ?_
  refine AL_nil ?_
  refine AC_seq ?_
  refine AC_region ?_
  refine AL_p rfl rfl (S_move rfl (.tmp rfl)) ?_
  refine AL_p rfl rfl (S_loadN (m := 7) 1 rfl (.tmp rfl) rfl (by kernel_rfl) (by first | exact Nat.le_of_ble_eq_true rfl | (simp; omega) | simp)) ?_
  refine AL_step rfl rfl (S_call rfl (AEvs.cons (.tmp rfl) (AEvs.cons (.tmp rfl) AEvs.nil)) (pack_Put_ok b4 false .nil [] 0 rfl (by decide) s hs _ (fun p hp => List.mem_cons_of_mem _ (hG p hp)))) ?_
  rintro _ _ ⟨_, ⟨u2, q2, hq2, rfl, rfl⟩, rfl⟩
  refine AL_nil ?_
  refine AC_seq ?_
  refine AC_region ?_
  refine AL_p rfl rfl (S_move rfl (.tmp rfl)) ?_
  refine AL_step rfl rfl (S_call rfl (AEvs.cons (.tmp rfl) AEvs.nil) (w_End_ok b4 u2 q2 _ _ hq2 _)) ?_
  rintro _ _ ⟨_, ⟨cs2, rfl, rfl⟩, rfl⟩
  refine AL_p rfl rfl (S_extract 0 rfl (.tmp rfl) rfl) ?_
  refine AL_p rfl rfl (S_extract 1 rfl (.tmp rfl) rfl) ?_
  refine AL_p rfl rfl (S_assign rfl (.tmp rfl)) ?_
  refine AL_p rfl rfl (S_assign rfl (.tmp rfl)) ?_
  refine AL_nil ?_
  refine AC_ret ?_
  refine ret_tmps (ts := [2, 3]) st rfl (by decide) rfl (Sub.l ((List.sublist_cons_self _ _).trans (List.sublist_cons_self _ _))) (Conv.refl (Sub.l ((List.sublist_cons_self _ _).trans (List.sublist_cons_self _ _))) _) ⟨bytes_fin s, rfl⟩ (.inl rfl)

end Go.Proofs.YtfmiciodcimkeaaGreatDoor

/-
The walks of Go functions in the logic AL: what each of them answers.
Conditions: those of each theorem.
-/
set_option linter.unusedVariables false
set_option linter.unusedSimpArgs false
namespace Go.Proofs.YtfmiciodcimkeaaGreatDoor
open Go.AL Go.NumSpec

set_option maxRecDepth 100000 in
/-- provost/pack.takeRes -/
theorem takeRes_ok (b : Nat) (s : List UInt8) (c : Int) (F : St) : ACalls Tryz.prog 104 [.ptr b 0] ([(b, Ob.cells [.S (s), .int .i64 (c)])] ++ F) (fun x st' => ∃ foot', (x = resAV (triRd s c).1 ∧ foot' = [(b, Ob.cells [.S ((triRd s c).2.1), .int .i64 ((triRd s c).2.2)])]) ∧ st' = foot' ++ F) := by
  refine ACalls_of (N := 10) Tryz.func104 (by kernel_rfl) rfl rfl rfl ?_
  refine AC_seq ?_
  refine AC_region ?_
  refine AL_step rfl rfl (S_alloc [.int .i64 0, .int .i64 0, .int .i64 0] rfl (by kernel_rfl)) ?_
  rintro _ _ ⟨b2, rfl, rfl⟩
  refine AL_nil ?_
  refine AC_seq ?_
  refine AC_region ?_
  refine AL_p rfl rfl (S_move rfl (.tmp rfl)) ?_
  refine AL_step rfl rfl (S_call rfl (AEvs.cons (.tmp rfl) (AEvs.cons (AEv.const _) AEvs.nil)) (ACalls.preQ (pre := [_]) (F := F) (r_Num_ok b _ _ 1099511627776 (by decide) _))) ?_
  rintro _ _ ⟨_, ⟨rfl, rfl⟩, rfl⟩
  generalize h1 : numR s c 1099511627776 = r1
  refine AL_p rfl rfl (S_move rfl (.tmp rfl)) ?_
  refine AL_step rfl rfl (S_call rfl (AEvs.cons (.tmp rfl) (AEvs.cons (AEv.const _) AEvs.nil)) (ACalls.preQ (pre := [_]) (F := F) (r_Num_ok b _ _ 1099511627776 (by decide) _))) ?_
  rintro _ _ ⟨_, ⟨rfl, rfl⟩, rfl⟩
  generalize h2 : numR r1.2.1 r1.2.2 1099511627776 = r2
  refine AL_p rfl rfl (S_move rfl (.tmp rfl)) ?_
  refine AL_step rfl rfl (S_call rfl (AEvs.cons (.tmp rfl) (AEvs.cons (AEv.const _) AEvs.nil)) (ACalls.preQ (pre := [_]) (F := F) (r_Num_ok b _ _ 1099511627776 (by decide) _))) ?_
  rintro _ _ ⟨_, ⟨rfl, rfl⟩, rfl⟩
  generalize h3 : numR r2.2.1 r2.2.2 1099511627776 = r3
  refine AL_p rfl rfl (S_build (t := 74) (pl := [(0, 1), (1, 1), (2, 1)]) (zs := [.int .i64 0, .int .i64 0, .int .i64 0]) rfl (AEvs.cons (.tmp rfl) (AEvs.cons (.tmp rfl) (AEvs.cons (.tmp rfl) AEvs.nil))) (by kernel_rfl) rfl) ?_
  refine AL_step rfl rfl (S_storeW 0 rfl (.tmp rfl) (.tmp rfl) rfl rfl rfl (by kernel_rfl)) ?_
  rintro _ _ ⟨rfl, rfl⟩
  refine AL_nil ?_
  refine AC_ret ?_
  refine ret_cell 0 ([(b, Ob.cells [.S (r3.2.1), .int .i64 (r3.2.2)])] ++ F) rfl rfl rfl (by kernel_rfl) (Sub.l (List.sublist_cons_self _ _)) (Conv.refl (Sub.l (List.sublist_cons_self _ _)) _) ⟨_, ⟨by subst h3 h2 h1; rfl, by subst h3 h2 h1; rfl⟩, rfl⟩ (.inl rfl)

set_option maxRecDepth 100000 in
/-- provost/pack.takeContainer$1 -/
theorem takeC1_ok (b : Nat) (s : List UInt8) (c : Int) (br : Nat) (F : St) (hw : (br, Ob.cells [.ptr b 0]) ∈ F) : ACalls Tryz.prog 106 [.ptr br 0] ([(b, Ob.cells [.S (s), .int .i64 (c)])] ++ F) (fun x st' => ∃ foot', (x = .int .i64 (numRd 65535 s c).1 ∧ foot' = [(b, Ob.cells [.S ((numRd 65535 s c).2.1), .int .i64 ((numRd 65535 s c).2.2)])]) ∧ st' = foot' ++ F) := by
  refine ACalls_of (N := 4) Tryz.func106 (by kernel_rfl) rfl rfl rfl ?_
  refine AC_seq ?_
  refine AC_region ?_
  refine AL_p rfl rfl (S_assign rfl (AEv.const _)) ?_
  refine AL_nil ?_
  refine AC_seq ?_
  refine AC_region ?_
  refine AL_p rfl rfl (S_loadM (cs := [.ptr b 0]) rfl (.tmp rfl) (by repeat (first | exact hw | exact List.mem_cons_self | refine List.mem_cons_of_mem _ ?_)) rfl (by kernel_rfl)) ?_
  refine AL_step rfl rfl (S_call rfl (AEvs.cons (.tmp rfl) (AEvs.cons (AEv.const _) AEvs.nil)) (r_Num_ok b _ _ 65535 (by decide) F)) ?_
  rintro _ _ ⟨_, ⟨rfl, rfl⟩, rfl⟩
  refine AL_p rfl rfl (S_assign rfl (.tmp rfl)) ?_
  refine AL_nil ?_
  refine AC_ret ?_
  refine ret_tmp ([(b, Ob.cells [.S ((numRd 65535 s c).2.1), .int .i64 ((numRd 65535 s c).2.2)])] ++ F) rfl rfl (Sub.l (List.Sublist.refl _)) (Conv.refl (Sub.l (List.Sublist.refl _)) _) ⟨_, ⟨rfl, rfl⟩, rfl⟩ (.inl rfl)

set_option maxRecDepth 100000 in
/-- provost/pack.TakeLabels$1 -/
theorem takeL1_ok (b : Nat) (s : List UInt8) (c : Int) (br : Nat) (F : St) (hw : (br, Ob.cells [.ptr b 0]) ∈ F) : ACalls Tryz.prog 66 [.ptr br 0] ([(b, Ob.cells [.S (s), .int .i64 (c)])] ++ F) (fun x st' => ∃ foot', (x = labAV (labRd s c).1 ∧ foot' = [(b, Ob.cells [.S ((labRd s c).2.1), .int .i64 ((labRd s c).2.2)])]) ∧ st' = foot' ++ F) := by
  refine ACalls_of (N := 7) Tryz.func66 (by kernel_rfl) rfl rfl rfl ?_
  refine AC_seq ?_
  refine AC_region ?_
  refine AL_step rfl rfl (S_alloc [.string ⟨#[]⟩, .string ⟨#[]⟩] rfl (by kernel_rfl)) ?_
  rintro _ _ ⟨b1, rfl, rfl⟩
  refine AL_nil ?_
  refine AC_seq ?_
  refine AC_plan (σ := [(0, 0), (2, 0), (1, 1), (3, 2), (4, 0), (5, 2)]) (by kernel_rfl) [(br, Ob.cells [.ptr b 0])] (by kernel_rfl) (fun r hr => by rw [List.mem_singleton.1 hr]; exact (by repeat (first | exact hw | exact List.mem_cons_self | refine List.mem_cons_of_mem _ ?_))) ?_
  refine AG.f rfl rfl (fun st' hst => Q_p rfl (S_loadM (cs := [.ptr b 0]) rfl (.tmp rfl) (hst _ List.mem_cons_self) rfl (by kernel_rfl))) ?_
  refine AG.f rfl rfl (fun st' hst => Q_p rfl (S_loadM (cs := [.ptr b 0]) rfl (.tmp rfl) (hst _ List.mem_cons_self) rfl (by kernel_rfl))) ?_
  refine AG.s rfl rfl rfl (S_call rfl (AEvs.cons (.tmp rfl) (AEvs.cons (AEv.const _) AEvs.nil)) (ACalls.preQ (pre := [_]) (F := F) (r_Text_ok b _ _ 33 (by decide) _))) ?_ ?_
  · rintro _ _ ⟨_, ⟨rfl, rfl⟩, rfl⟩ r hr; rw [List.mem_singleton.1 hr]; exact (by repeat (first | exact hw | exact List.mem_cons_self | refine List.mem_cons_of_mem _ ?_))
  rintro _ _ ⟨_, ⟨rfl, rfl⟩, rfl⟩
  refine AG.h rfl rfl rfl (S_call rfl (AEvs.cons (.tmp rfl) (AEvs.cons (AEv.const _) AEvs.nil)) (ACalls.preQ (pre := [_]) (F := F) (r_Text_ok b _ _ 16 (by decide) _))) ?_
  rintro _ _ ⟨_, ⟨rfl, rfl⟩, rfl⟩
  refine AG.f rfl rfl (fun st' hst => Q_p rfl (S_build (t := 71) (pl := [(0, 1), (1, 1)]) (zs := [.string ⟨#[]⟩, .string ⟨#[]⟩]) rfl (AEvs.cons (.tmp rfl) (AEvs.cons (.tmp rfl) AEvs.nil)) (by kernel_rfl) rfl)) ?_
  refine AG.h rfl rfl rfl (S_storeW 0 rfl (.tmp rfl) (.tmp rfl) rfl rfl rfl (by kernel_rfl)) ?_
  rintro _ _ ⟨rfl, rfl⟩
  refine AG.nil ?_
  refine AC_ret ?_
  refine ret_cell 0 ([(b, Ob.cells [.S ((labRd s c).2.1), .int .i64 ((labRd s c).2.2)])] ++ F) rfl rfl rfl (by kernel_rfl) (Sub.l (List.sublist_cons_self _ _)) (Conv.refl (Sub.l (List.sublist_cons_self _ _)) _) ⟨_, ⟨rfl, rfl⟩, rfl⟩ (.inl rfl)

set_option maxRecDepth 100000 in
/-- provost/pack.takeAll[int] -/
theorem takeAllI_ok (b : Nat) (s : List UInt8) (c : Int) (br : Nat) (most : Int) (h0 : 0 ≤ most) (h1 : most ≤ 1000) (F : St) (hw : (br, Ob.cells [.ptr b 0]) ∈ F) : ACalls Tryz.prog 105 [.ptr b 0, .int .i64 most, .fn 106 [.pointer (some ⟨br, 0, none⟩)]] ([(b, Ob.cells [.S (s), .int .i64 (c)])] ++ F) (fun x st' => ∃ foot', (x = .sl ((allR (numRd 65535) most s c).1.map (fun n : Int => AV.int .i64 n)) ∧ foot' = [(b, Ob.cells [.S ((allR (numRd 65535) most s c).2.1), .int .i64 ((allR (numRd 65535) most s c).2.2)])]) ∧ st' = foot' ++ F) := by
  refine ACalls_of (N := 23) Tryz.func105 (by kernel_rfl) rfl rfl rfl ?_
  have hn1 := numR_le (s := s) (c := c) (most := most)
  have hn2 := numR_nonneg s c most
  refine AC_seq ?_
  refine AC_region ?_
  refine AL_p rfl rfl (S_assign rfl (AEv.const _)) ?_
  refine AL_nil ?_
  refine AC_seq ?_
  refine AC_region ?_
  refine AL_p rfl rfl (S_assign rfl (AEv.const _)) ?_
  refine AL_nil ?_
  refine AC_seq ?_
  refine AC_seq ?_
  refine AC_region ?_
  refine AL_p rfl rfl (S_move rfl (.tmp rfl)) ?_
  refine AL_p rfl rfl (S_move rfl (.tmp rfl)) ?_
  refine AL_step rfl rfl (S_call rfl (AEvs.cons (.tmp rfl) (AEvs.cons (.tmp rfl) AEvs.nil)) (r_Num_ok b _ _ most ⟨by omega, by omega⟩ F)) ?_
  rintro _ _ ⟨_, ⟨rfl, rfl⟩, rfl⟩
  refine AL_p rfl rfl (S_move rfl (AEv.const _)) ?_
  refine AL_nil ?_
  refine AC_block ?_
  refine AC_loopK (G := Nat × List Int × List UInt8 × Int × Own) [(0, _), (2, _), (10, _)] (fun g => TI (numRd 65535) (numR s c most).1.toNat (numR s c most).2.1 (numR s c most).2.2 g.1 g.2.1 g.2.2.1 g.2.2.2.1 ∧ g.2.2.2.2.ok (g.2.1.map (fun n : Int => AV.int .i64 n))) (fun g => [(7, ownAV g.2.2.2.2 1 (g.2.1.map (fun n : Int => AV.int .i64 n))), (11, .int .i64 (g.1 : Int))]) (fun g => (b, .cells [.S g.2.2.1, .int .i64 g.2.2.2.1]) :: (ownSt g.2.2.2.2 3 1 (g.2.1.map (fun n : Int => AV.int .i64 n)) ++ F)) (fun g => (numR s c most).1.toNat - g.1) ((0, [], (numR s c most).2.1, (numR s c most).2.2, .nil)) (⟨ti_start _ _ _, rfl⟩) (Sub.l (List.Sublist.refl _)) (.cons rfl (Le.refl _) (.cons rfl (Le.refl _) (.cons rfl (Le.refl _) .nil))) (.cons rfl (by first | exact Le.refl _ | exact Le.nils | exact Le.row _ _ _ _ | exact Le.of_eq (by first | rfl | (simp; done) | (push_cast; rfl) | (simp; omega))) (.cons rfl (by first | exact Le.refl _ | exact Le.nils | exact Le.row _ _ _ _ | exact Le.of_eq (by first | rfl | (simp; done) | (push_cast; rfl) | (simp; omega))) .nil)) ?_
  rintro ⟨i, out, s', c', p⟩ ⟨hI, hq⟩
  try dsimp only
  simp only [List.cons_append, List.nil_append]
  dsimp only at hI hq
  have hI1 := hI.1
  have hI2 := hI.2.1
  refine AC_seq ?_
  refine AC_region ?_
  refine AL_p rfl rfl (S_lss rfl (.tmp rfl) (.tmp rfl)) ?_
  refine AL_nil ?_
  refine AC_seq ?_
  refine AC_cond (.tmp rfl) (fun hb1 => ?_) (fun hb1 => ?_)
  · try simp only [zA, zO, zN, zM, zP, zQ, zD, zF, gd] at hb1
    have hil : i < (numR s c most).1.toNat := by omega
    refine AC_skip ?_
    refine AC_seq ?_
    refine AC_block ?_
    refine AC_seq ?_
    refine AC_region ?_
    refine AL_p rfl rfl (S_move rfl (.tmp rfl)) ?_
    refine AL_p rfl rfl (S_move rfl (.tmp rfl)) ?_
    refine AL_step rfl rfl (S_callF (caps := [.pointer (some ⟨br, 0, none⟩)]) rfl (.tmp rfl) AEvs.nil (takeC1_ok b s' c' br _ (List.mem_append_right _ hw))) ?_
    rintro _ _ ⟨_, ⟨rfl, rfl⟩, rfl⟩
    generalize hr : (numRd 65535) s' c' = r
    refine AL_p rfl rfl (S_buildSlice (e := 3) 1 rfl (AEvs.cons (.tmp rfl) AEvs.nil) rfl (by kernel_rfl) (by kernel_rfl) (by intro y hy; simp only [List.mem_cons, List.not_mem_nil, or_false] at hy; rcases hy with rfl <;> exact ⟨rfl, rfl⟩) (by decide) (by decide) (by decide)) ?_
    refine AL_step rfl rfl (S_appendM (f := (fun n : Int => AV.int .i64 n)) (l := out) (l2 := [r.1]) (e := 3) (size := 1) (bytes := 8) (p := p) ([_]) (F) rfl (.tmp rfl) (.tmp rfl) rfl hq (by kernel_rfl) (by simp) (fun _ => ⟨rfl, rfl⟩) (by simp only [List.length_singleton]; omega) (by simp only [List.length_singleton]; omega)) ?_
    rintro _ _ ⟨b8, k8, cap8, hx8, rfl, rfl⟩
    refine AL_p rfl rfl (S_assign rfl (.tmp rfl)) ?_
    refine AL_nil ?_
    refine AC_seq ?_
    refine AC_region ?_
    refine AL_p rfl rfl (S_move rfl (.tmp rfl)) ?_
    refine AL_step rfl rfl (S_call rfl (AEvs.cons (.tmp rfl) AEvs.nil) (r_Code_ok b _ _ _)) ?_
    rintro _ _ ⟨_, ⟨rfl, rfl⟩, rfl⟩
    refine AL_p rfl rfl (S_neq rfl (.tmp rfl) (AEv.const _)) ?_
    refine AL_nil ?_
    refine AC_cond (.tmp rfl) (fun hb4 => ?_) (fun hb4 => ?_)
    · try simp only [zA, zO, zN, zM, zP, zQ, zD, zF, gd] at hb4
      have hx : (allR (numRd 65535) most s c) = ([], r.2.1, r.2.2) := by have h9 := ti_bad hI hil (by rw [hr]; exact hb4); rw [hr] at h9; exact h9
      refine AC_seq ?_
      refine AC_region ?_
      refine AL_p rfl rfl (S_assign rfl (AEv.const _)) ?_
      refine AL_nil ?_
      refine AC_ret ?_
      refine ret_tmp ([(b, Ob.cells [.S (r.2.1), .int .i64 (r.2.2)])] ++ F) rfl rfl (Sub.l (List.Sublist.cons_cons _ (List.sublist_append_right _ _))) (Conv.le (Sub.l (List.Sublist.cons_cons _ (List.sublist_append_right _ _))) Le.nils) ⟨_, ⟨by rw [hx] <;> rfl, by rw [hx] <;> rfl⟩, rfl⟩ (.inl rfl)
    try simp only [zA, zO, zN, zM, zP, zQ, zD, zF, gd] at hb4
    have hc0 : r.2.2 = 0 := by simpa using hb4
    refine AC_skip ?_
    refine AC_region ?_
    refine AL_p rfl rfl (S_addI rfl (.tmp rfl) (AEv.const _) (by omega) (by omega)) ?_
    refine AL_p rfl rfl (S_move rfl (.tmp rfl)) ?_
    refine AL_nil ?_
    exact ⟨(i + 1, out ++ [r.1], r.2.1, r.2.2, .row b8 k8 cap8), ⟨by rw [← hr]; exact ti_next hI hil (by rw [hr]; exact hc0), hx8⟩, by dsimp only; omega, (Sub.l (List.Sublist.refl _)), (.cons rfl (by first | exact Le.refl _ | exact Le.nils | exact Le.row _ _ _ _ | exact Le.of_eq (by first | rfl | (simp; done) | (push_cast; rfl) | (simp; omega))) (.cons rfl (by first | exact Le.refl _ | exact Le.nils | exact Le.row _ _ _ _ | exact Le.of_eq (by first | rfl | (simp; done) | (push_cast; rfl) | (simp; omega))) .nil)), (.cons rfl (Le.refl _) (.cons rfl (Le.refl _) (.cons rfl (Le.refl _) .nil)))⟩
  try simp only [zA, zO, zN, zM, zP, zQ, zD, zF, gd] at hb1
  have hx : (allR (numRd 65535) most s c) = (out, s', c') := ti_end hI (by omega)
  refine AC_exit ?_
  refine AC_seq ?_
  refine AC_region ?_
  refine AL_p rfl rfl (S_move rfl (.tmp rfl)) ?_
  refine AL_p rfl rfl (S_assign rfl (.tmp rfl)) ?_
  refine AL_nil ?_
  refine AC_ret ?_
  refine ret_tmp ([(b, Ob.cells [.S (s'), .int .i64 (c')])] ++ F) rfl rfl (Sub.l (List.Sublist.cons_cons _ (List.sublist_append_right _ _))) (Conv.le (Sub.l (List.Sublist.cons_cons _ (List.sublist_append_right _ _))) (Le_own hq)) ⟨_, ⟨by rw [hx] <;> rfl, by rw [hx] <;> rfl⟩, rfl⟩ (.inl rfl)

set_option maxRecDepth 100000 in
/-- provost/pack.takeAll[provost/api.Label] -/
theorem takeAllL_ok (b : Nat) (s : List UInt8) (c : Int) (br : Nat) (most : Int) (h0 : 0 ≤ most) (h1 : most ≤ 1000) (F : St) (hw : (br, Ob.cells [.ptr b 0]) ∈ F) : ACalls Tryz.prog 65 [.ptr b 0, .int .i64 most, .fn 66 [.pointer (some ⟨br, 0, none⟩)]] ([(b, Ob.cells [.S (s), .int .i64 (c)])] ++ F) (fun x st' => ∃ foot', (x = .sl ((allR labRd most s c).1.map labAV) ∧ foot' = [(b, Ob.cells [.S ((allR labRd most s c).2.1), .int .i64 ((allR labRd most s c).2.2)])]) ∧ st' = foot' ++ F) := by
  refine ACalls_of (N := 23) Tryz.func65 (by kernel_rfl) rfl rfl rfl ?_
  have hn1 := numR_le (s := s) (c := c) (most := most)
  have hn2 := numR_nonneg s c most
  refine AC_seq ?_
  refine AC_region ?_
  refine AL_p rfl rfl (S_assign rfl (AEv.const _)) ?_
  refine AL_nil ?_
  refine AC_seq ?_
  refine AC_region ?_
  refine AL_p rfl rfl (S_assign rfl (AEv.const _)) ?_
  refine AL_nil ?_
  refine AC_seq ?_
  refine AC_seq ?_
  refine AC_region ?_
  refine AL_p rfl rfl (S_move rfl (.tmp rfl)) ?_
  refine AL_p rfl rfl (S_move rfl (.tmp rfl)) ?_
  refine AL_step rfl rfl (S_call rfl (AEvs.cons (.tmp rfl) (AEvs.cons (.tmp rfl) AEvs.nil)) (r_Num_ok b _ _ most ⟨by omega, by omega⟩ F)) ?_
  rintro _ _ ⟨_, ⟨rfl, rfl⟩, rfl⟩
  refine AL_p rfl rfl (S_move rfl (AEv.const _)) ?_
  refine AL_nil ?_
  refine AC_block ?_
  refine AC_loopK (G := Nat × List Lab × List UInt8 × Int × Own) [(0, _), (2, _), (10, _)] (fun g => TI labRd (numR s c most).1.toNat (numR s c most).2.1 (numR s c most).2.2 g.1 g.2.1 g.2.2.1 g.2.2.2.1 ∧ g.2.2.2.2.ok (g.2.1.map labAV)) (fun g => [(7, ownAV g.2.2.2.2 2 (g.2.1.map labAV)), (11, .int .i64 (g.1 : Int))]) (fun g => (b, .cells [.S g.2.2.1, .int .i64 g.2.2.2.1]) :: (ownSt g.2.2.2.2 71 2 (g.2.1.map labAV) ++ F)) (fun g => (numR s c most).1.toNat - g.1) ((0, [], (numR s c most).2.1, (numR s c most).2.2, .nil)) (⟨ti_start _ _ _, rfl⟩) (Sub.l (List.Sublist.refl _)) (.cons rfl (Le.refl _) (.cons rfl (Le.refl _) (.cons rfl (Le.refl _) .nil))) (.cons rfl (by first | exact Le.refl _ | exact Le.nils | exact Le.row _ _ _ _ | exact Le.of_eq (by first | rfl | (simp; done) | (push_cast; rfl) | (simp; omega))) (.cons rfl (by first | exact Le.refl _ | exact Le.nils | exact Le.row _ _ _ _ | exact Le.of_eq (by first | rfl | (simp; done) | (push_cast; rfl) | (simp; omega))) .nil)) ?_
  rintro ⟨i, out, s', c', p⟩ ⟨hI, hq⟩
  try dsimp only
  simp only [List.cons_append, List.nil_append]
  dsimp only at hI hq
  have hI1 := hI.1
  have hI2 := hI.2.1
  refine AC_seq ?_
  refine AC_region ?_
  refine AL_p rfl rfl (S_lss rfl (.tmp rfl) (.tmp rfl)) ?_
  refine AL_nil ?_
  refine AC_seq ?_
  refine AC_cond (.tmp rfl) (fun hb1 => ?_) (fun hb1 => ?_)
  · try simp only [zA, zO, zN, zM, zP, zQ, zD, zF, gd] at hb1
    have hil : i < (numR s c most).1.toNat := by omega
    refine AC_skip ?_
    refine AC_seq ?_
    refine AC_block ?_
    refine AC_seq ?_
    refine AC_region ?_
    refine AL_p rfl rfl (S_move rfl (.tmp rfl)) ?_
    refine AL_p rfl rfl (S_move rfl (.tmp rfl)) ?_
    refine AL_step rfl rfl (S_callF (caps := [.pointer (some ⟨br, 0, none⟩)]) rfl (.tmp rfl) AEvs.nil (takeL1_ok b s' c' br _ (List.mem_append_right _ hw))) ?_
    rintro _ _ ⟨_, ⟨rfl, rfl⟩, rfl⟩
    generalize hr : labRd s' c' = r
    refine AL_p rfl rfl (S_buildSlice (e := 71) 2 rfl (AEvs.cons (.tmp rfl) AEvs.nil) rfl (by kernel_rfl) (by kernel_rfl) (by intro y hy; simp only [List.mem_cons, List.not_mem_nil, or_false] at hy; rcases hy with rfl <;> exact ⟨rfl, rfl⟩) (by decide) (by decide) (by decide)) ?_
    refine AL_step rfl rfl (S_appendM (f := labAV) (l := out) (l2 := [r.1]) (e := 71) (size := 2) (bytes := 32) (p := p) ([_]) (F) rfl (.tmp rfl) (.tmp rfl) rfl hq (by kernel_rfl) (by simp) (fun _ => ⟨rfl, rfl⟩) (by simp only [List.length_singleton]; omega) (by simp only [List.length_singleton]; omega)) ?_
    rintro _ _ ⟨b8, k8, cap8, hx8, rfl, rfl⟩
    refine AL_p rfl rfl (S_assign rfl (.tmp rfl)) ?_
    refine AL_nil ?_
    refine AC_seq ?_
    refine AC_region ?_
    refine AL_p rfl rfl (S_move rfl (.tmp rfl)) ?_
    refine AL_step rfl rfl (S_call rfl (AEvs.cons (.tmp rfl) AEvs.nil) (r_Code_ok b _ _ _)) ?_
    rintro _ _ ⟨_, ⟨rfl, rfl⟩, rfl⟩
    refine AL_p rfl rfl (S_neq rfl (.tmp rfl) (AEv.const _)) ?_
    refine AL_nil ?_
    refine AC_cond (.tmp rfl) (fun hb4 => ?_) (fun hb4 => ?_)
    · try simp only [zA, zO, zN, zM, zP, zQ, zD, zF, gd] at hb4
      have hx : (allR labRd most s c) = ([], r.2.1, r.2.2) := by have h9 := ti_bad hI hil (by rw [hr]; exact hb4); rw [hr] at h9; exact h9
      refine AC_seq ?_
      refine AC_region ?_
      refine AL_p rfl rfl (S_assign rfl (AEv.const _)) ?_
      refine AL_nil ?_
      refine AC_ret ?_
      refine ret_tmp ([(b, Ob.cells [.S (r.2.1), .int .i64 (r.2.2)])] ++ F) rfl rfl (Sub.l (List.Sublist.cons_cons _ (List.sublist_append_right _ _))) (Conv.le (Sub.l (List.Sublist.cons_cons _ (List.sublist_append_right _ _))) Le.nils) ⟨_, ⟨by rw [hx] <;> rfl, by rw [hx] <;> rfl⟩, rfl⟩ (.inl rfl)
    try simp only [zA, zO, zN, zM, zP, zQ, zD, zF, gd] at hb4
    have hc0 : r.2.2 = 0 := by simpa using hb4
    refine AC_skip ?_
    refine AC_region ?_
    refine AL_p rfl rfl (S_addI rfl (.tmp rfl) (AEv.const _) (by omega) (by omega)) ?_
    refine AL_p rfl rfl (S_move rfl (.tmp rfl)) ?_
    refine AL_nil ?_
    exact ⟨(i + 1, out ++ [r.1], r.2.1, r.2.2, .row b8 k8 cap8), ⟨by rw [← hr]; exact ti_next hI hil (by rw [hr]; exact hc0), hx8⟩, by dsimp only; omega, (Sub.l (List.Sublist.refl _)), (.cons rfl (by first | exact Le.refl _ | exact Le.nils | exact Le.row _ _ _ _ | exact Le.of_eq (by first | rfl | (simp; done) | (push_cast; rfl) | (simp; omega))) (.cons rfl (by first | exact Le.refl _ | exact Le.nils | exact Le.row _ _ _ _ | exact Le.of_eq (by first | rfl | (simp; done) | (push_cast; rfl) | (simp; omega))) .nil)), (.cons rfl (Le.refl _) (.cons rfl (Le.refl _) (.cons rfl (Le.refl _) .nil)))⟩
  try simp only [zA, zO, zN, zM, zP, zQ, zD, zF, gd] at hb1
  have hx : (allR labRd most s c) = (out, s', c') := ti_end hI (by omega)
  refine AC_exit ?_
  refine AC_seq ?_
  refine AC_region ?_
  refine AL_p rfl rfl (S_move rfl (.tmp rfl)) ?_
  refine AL_p rfl rfl (S_assign rfl (.tmp rfl)) ?_
  refine AL_nil ?_
  refine AC_ret ?_
  refine ret_tmp ([(b, Ob.cells [.S (s'), .int .i64 (c')])] ++ F) rfl rfl (Sub.l (List.Sublist.cons_cons _ (List.sublist_append_right _ _))) (Conv.le (Sub.l (List.Sublist.cons_cons _ (List.sublist_append_right _ _))) (Le_own hq)) ⟨_, ⟨by rw [hx] <;> rfl, by rw [hx] <;> rfl⟩, rfl⟩ (.inl rfl)

set_option maxRecDepth 100000 in
/-- provost/pack.takeContainer -/
theorem takeContainer_ok (b : Nat) (s : List UInt8) (c : Int) (F : St) : ACalls Tryz.prog 71 [.ptr b 0] ([(b, Ob.cells [.S (s), .int .i64 (c)])] ++ F) (fun x st' => ∃ foot', (x = ctrAV (ctrRd s c).1 ∧ foot' = [(b, Ob.cells [.S ((ctrRd s c).2.1), .int .i64 ((ctrRd s c).2.2)])]) ∧ st' = foot' ++ F) := by
  refine ACalls_of (N := 28) Tryz.func71 (by kernel_rfl) rfl rfl rfl ?_
  refine AC_seq ?_
  refine AC_region ?_
  refine AL_step rfl rfl (S_box1 rfl (.tmp rfl) rfl) ?_
  rintro _ _ ⟨b1, rfl, rfl⟩
  refine AL_step rfl rfl (S_alloc [.string ⟨#[]⟩, .string ⟨#[]⟩, .int .i64 0, .int .i64 0, .int .i64 0, .int .i64 0, .int .i64 0, .int .i64 0, .slice none 0 0, .int .i64 0, .int .i64 0] rfl (by kernel_rfl)) ?_
  rintro _ _ ⟨b2, rfl, rfl⟩
  refine AL_nil ?_
  refine AC_seq ?_
  refine AC_ords (fun env' st' => ∃ b3, EnvLe env' [(1, .ptr b1 0), (2, .ptr b2 0), (3, .ptr b3 0)] ∧ st' = (b3, Ob.cells [.S (wtextR s c 16).1, .S (wtextR (wtextR s c 16).2.1 (wtextR s c 16).2.2 33).1, .int .i64 0, .int .i64 0, .int .i64 0, .int .i64 0, .int .i64 0, .int .i64 0, .nils, .int .i64 0, .int .i64 0]) :: (b2, Ob.cells [.S [], .S [], .int .i64 0, .int .i64 0, .int .i64 0, .int .i64 0, .int .i64 0, .int .i64 0, .nils, .int .i64 0, .int .i64 0]) :: (b1, Ob.cells [.ptr b 0]) :: ([(b, Ob.cells [.S ((wtextR (wtextR s c 16).2.1 (wtextR s c 16).2.2 33).2.1), .int .i64 ((wtextR (wtextR s c 16).2.1 (wtextR s c 16).2.2 33).2.2)])] ++ F)) (by kernel_rfl) ?_ ?_
  · refine AO_step (rs := [0, 2, 5]) (by kernel_rfl) rfl ?_
    refine .cons (.mk' rfl rfl rfl (S_loadM (cs := [.ptr b 0]) rfl (.tmp rfl) (by repeat (first | exact List.mem_cons_self | refine List.mem_cons_of_mem _ ?_)) rfl (by kernel_rfl)) ?_) ?_
    · rintro _ _ ⟨rfl, rfl⟩
      refine AO_step (rs := [1, 2, 5]) (by kernel_rfl) rfl ?_
      refine .cons (.mk' rfl rfl rfl (S_call rfl (AEvs.cons (.tmp rfl) (AEvs.cons (AEv.const _) AEvs.nil)) (ACalls.preQ (pre := [_, _]) (F := F) (r_Text_ok b _ _ 16 (by decide) _))) ?_) ?_
      · rintro _ _ ⟨_, ⟨rfl, rfl⟩, rfl⟩
        refine AO_step (rs := [2, 5]) (by kernel_rfl) rfl ?_
        refine .cons (.mk' rfl rfl rfl (S_loadM (cs := [.ptr b 0]) rfl (.tmp rfl) (by repeat (first | exact List.mem_cons_self | refine List.mem_cons_of_mem _ ?_)) rfl (by kernel_rfl)) ?_) ?_
        · rintro _ _ ⟨rfl, rfl⟩
          refine AO_step (rs := [3, 5]) (by kernel_rfl) rfl ?_
          refine .cons (.mk' rfl rfl rfl (S_call rfl (AEvs.cons (.tmp rfl) (AEvs.cons (AEv.const _) AEvs.nil)) (ACalls.preQ (pre := [_, _]) (F := F) (r_Text_ok b _ _ 33 (by decide) _))) ?_) ?_
          · rintro _ _ ⟨_, ⟨rfl, rfl⟩, rfl⟩
            refine AO_step (rs := [4, 5]) (by kernel_rfl) rfl ?_
            refine .cons (.mk' rfl rfl rfl (S_build (t := 79) (pl := [(0, 1), (1, 1), (2, 3), (5, 3), (8, 1), (9, 2)]) (zs := [.string ⟨#[]⟩, .string ⟨#[]⟩, .int .i64 0, .int .i64 0, .int .i64 0, .int .i64 0, .int .i64 0, .int .i64 0, .slice none 0 0, .int .i64 0, .int .i64 0]) rfl (AEvs.cons (.tmp rfl) (AEvs.cons (.tmp rfl) AEvs.nil)) (by kernel_rfl) rfl) ?_) ?_
            · rintro _ _ ⟨rfl, rfl⟩
              refine AO_step (rs := [5]) (by kernel_rfl) rfl ?_
              refine .cons (.mk' rfl rfl rfl (S_alloc [.string ⟨#[]⟩, .string ⟨#[]⟩, .int .i64 0, .int .i64 0, .int .i64 0, .int .i64 0, .int .i64 0, .int .i64 0, .slice none 0 0, .int .i64 0, .int .i64 0] rfl (by kernel_rfl)) ?_) ?_
              · rintro _ _ ⟨b3, rfl, rfl⟩
                refine AO_step (rs := [6]) (by kernel_rfl) rfl ?_
                refine .cons (.mk' rfl rfl rfl (S_storeW 0 rfl (.tmp rfl) (.tmp rfl) rfl rfl rfl (by kernel_rfl)) ?_) ?_
                · rintro _ _ ⟨rfl, rfl⟩
                  refine AO_fin (by kernel_rfl) ⟨rfl, b3, (.cons rfl (Le.refl _) (.cons rfl (Le.refl _) (.cons rfl (Le.refl _) .nil))), rfl⟩
                exact .nil
              exact .nil
            refine .cons (.mk' rfl rfl rfl (S_alloc [.string ⟨#[]⟩, .string ⟨#[]⟩, .int .i64 0, .int .i64 0, .int .i64 0, .int .i64 0, .int .i64 0, .int .i64 0, .slice none 0 0, .int .i64 0, .int .i64 0] rfl (by kernel_rfl)) ?_) ?_
            · rintro _ _ ⟨b3, rfl, rfl⟩
              refine AO_step (rs := [4]) (by kernel_rfl) rfl ?_
              refine .cons (.mk' rfl rfl rfl (S_build (t := 79) (pl := [(0, 1), (1, 1), (2, 3), (5, 3), (8, 1), (9, 2)]) (zs := [.string ⟨#[]⟩, .string ⟨#[]⟩, .int .i64 0, .int .i64 0, .int .i64 0, .int .i64 0, .int .i64 0, .int .i64 0, .slice none 0 0, .int .i64 0, .int .i64 0]) rfl (AEvs.cons (.tmp rfl) (AEvs.cons (.tmp rfl) AEvs.nil)) (by kernel_rfl) rfl) ?_) ?_
              · rintro _ _ ⟨rfl, rfl⟩
                refine AO_step (rs := [6]) (by kernel_rfl) rfl ?_
                refine .cons (.mk' rfl rfl rfl (S_storeW 0 rfl (.tmp rfl) (.tmp rfl) rfl rfl rfl (by kernel_rfl)) ?_) ?_
                · rintro _ _ ⟨rfl, rfl⟩
                  refine AO_fin (by kernel_rfl) ⟨rfl, b3, (.cons rfl (Le.refl _) (.cons rfl (Le.refl _) (.cons rfl (Le.refl _) .nil))), rfl⟩
                exact .nil
              exact .nil
            exact .nil
          refine .cons (.mk' rfl rfl rfl (S_alloc [.string ⟨#[]⟩, .string ⟨#[]⟩, .int .i64 0, .int .i64 0, .int .i64 0, .int .i64 0, .int .i64 0, .int .i64 0, .slice none 0 0, .int .i64 0, .int .i64 0] rfl (by kernel_rfl)) ?_) ?_
          · rintro _ _ ⟨b3, rfl, rfl⟩
            refine AO_step (rs := [3]) (by kernel_rfl) rfl ?_
            refine .cons (.mk' rfl rfl rfl (S_call rfl (AEvs.cons (.tmp rfl) (AEvs.cons (AEv.const _) AEvs.nil)) (ACalls.preQ (pre := [_, _, _]) (F := F) (r_Text_ok b _ _ 33 (by decide) _))) ?_) ?_
            · rintro _ _ ⟨_, ⟨rfl, rfl⟩, rfl⟩
              refine AO_step (rs := [4]) (by kernel_rfl) rfl ?_
              refine .cons (.mk' rfl rfl rfl (S_build (t := 79) (pl := [(0, 1), (1, 1), (2, 3), (5, 3), (8, 1), (9, 2)]) (zs := [.string ⟨#[]⟩, .string ⟨#[]⟩, .int .i64 0, .int .i64 0, .int .i64 0, .int .i64 0, .int .i64 0, .int .i64 0, .slice none 0 0, .int .i64 0, .int .i64 0]) rfl (AEvs.cons (.tmp rfl) (AEvs.cons (.tmp rfl) AEvs.nil)) (by kernel_rfl) rfl) ?_) ?_
              · rintro _ _ ⟨rfl, rfl⟩
                refine AO_step (rs := [6]) (by kernel_rfl) rfl ?_
                refine .cons (.mk' rfl rfl rfl (S_storeW 0 rfl (.tmp rfl) (.tmp rfl) rfl rfl rfl (by kernel_rfl)) ?_) ?_
                · rintro _ _ ⟨rfl, rfl⟩
                  refine AO_fin (by kernel_rfl) ⟨rfl, b3, (.cons rfl (Le.refl _) (.cons rfl (Le.refl _) (.cons rfl (Le.refl _) .nil))), rfl⟩
                exact .nil
              exact .nil
            exact .nil
          exact .nil
        refine .cons (.mk' rfl rfl rfl (S_alloc [.string ⟨#[]⟩, .string ⟨#[]⟩, .int .i64 0, .int .i64 0, .int .i64 0, .int .i64 0, .int .i64 0, .int .i64 0, .slice none 0 0, .int .i64 0, .int .i64 0] rfl (by kernel_rfl)) ?_) ?_
        · rintro _ _ ⟨b3, rfl, rfl⟩
          refine AO_step (rs := [2]) (by kernel_rfl) rfl ?_
          refine .cons (.mk' rfl rfl rfl (S_loadM (cs := [.ptr b 0]) rfl (.tmp rfl) (by repeat (first | exact List.mem_cons_self | refine List.mem_cons_of_mem _ ?_)) rfl (by kernel_rfl)) ?_) ?_
          · rintro _ _ ⟨rfl, rfl⟩
            refine AO_step (rs := [3]) (by kernel_rfl) rfl ?_
            refine .cons (.mk' rfl rfl rfl (S_call rfl (AEvs.cons (.tmp rfl) (AEvs.cons (AEv.const _) AEvs.nil)) (ACalls.preQ (pre := [_, _, _]) (F := F) (r_Text_ok b _ _ 33 (by decide) _))) ?_) ?_
            · rintro _ _ ⟨_, ⟨rfl, rfl⟩, rfl⟩
              refine AO_step (rs := [4]) (by kernel_rfl) rfl ?_
              refine .cons (.mk' rfl rfl rfl (S_build (t := 79) (pl := [(0, 1), (1, 1), (2, 3), (5, 3), (8, 1), (9, 2)]) (zs := [.string ⟨#[]⟩, .string ⟨#[]⟩, .int .i64 0, .int .i64 0, .int .i64 0, .int .i64 0, .int .i64 0, .int .i64 0, .slice none 0 0, .int .i64 0, .int .i64 0]) rfl (AEvs.cons (.tmp rfl) (AEvs.cons (.tmp rfl) AEvs.nil)) (by kernel_rfl) rfl) ?_) ?_
              · rintro _ _ ⟨rfl, rfl⟩
                refine AO_step (rs := [6]) (by kernel_rfl) rfl ?_
                refine .cons (.mk' rfl rfl rfl (S_storeW 0 rfl (.tmp rfl) (.tmp rfl) rfl rfl rfl (by kernel_rfl)) ?_) ?_
                · rintro _ _ ⟨rfl, rfl⟩
                  refine AO_fin (by kernel_rfl) ⟨rfl, b3, (.cons rfl (Le.refl _) (.cons rfl (Le.refl _) (.cons rfl (Le.refl _) .nil))), rfl⟩
                exact .nil
              exact .nil
            exact .nil
          exact .nil
        exact .nil
      refine .cons (.mk' rfl rfl rfl (S_loadM (cs := [.ptr b 0]) rfl (.tmp rfl) (by repeat (first | exact List.mem_cons_self | refine List.mem_cons_of_mem _ ?_)) rfl (by kernel_rfl)) ?_) ?_
      · rintro _ _ ⟨rfl, rfl⟩
        refine AO_step (rs := [1, 5]) (by kernel_rfl) rfl ?_
        refine .cons (.mk' rfl rfl rfl (S_call rfl (AEvs.cons (.tmp rfl) (AEvs.cons (AEv.const _) AEvs.nil)) (ACalls.preQ (pre := [_, _]) (F := F) (r_Text_ok b _ _ 16 (by decide) _))) ?_) ?_
        · rintro _ _ ⟨_, ⟨rfl, rfl⟩, rfl⟩
          refine AO_step (rs := [3, 5]) (by kernel_rfl) rfl ?_
          refine .cons (.mk' rfl rfl rfl (S_call rfl (AEvs.cons (.tmp rfl) (AEvs.cons (AEv.const _) AEvs.nil)) (ACalls.preQ (pre := [_, _]) (F := F) (r_Text_ok b _ _ 33 (by decide) _))) ?_) ?_
          · rintro _ _ ⟨_, ⟨rfl, rfl⟩, rfl⟩
            refine AO_step (rs := [4, 5]) (by kernel_rfl) rfl ?_
            refine .cons (.mk' rfl rfl rfl (S_build (t := 79) (pl := [(0, 1), (1, 1), (2, 3), (5, 3), (8, 1), (9, 2)]) (zs := [.string ⟨#[]⟩, .string ⟨#[]⟩, .int .i64 0, .int .i64 0, .int .i64 0, .int .i64 0, .int .i64 0, .int .i64 0, .slice none 0 0, .int .i64 0, .int .i64 0]) rfl (AEvs.cons (.tmp rfl) (AEvs.cons (.tmp rfl) AEvs.nil)) (by kernel_rfl) rfl) ?_) ?_
            · rintro _ _ ⟨rfl, rfl⟩
              refine AO_step (rs := [5]) (by kernel_rfl) rfl ?_
              refine .cons (.mk' rfl rfl rfl (S_alloc [.string ⟨#[]⟩, .string ⟨#[]⟩, .int .i64 0, .int .i64 0, .int .i64 0, .int .i64 0, .int .i64 0, .int .i64 0, .slice none 0 0, .int .i64 0, .int .i64 0] rfl (by kernel_rfl)) ?_) ?_
              · rintro _ _ ⟨b3, rfl, rfl⟩
                refine AO_step (rs := [6]) (by kernel_rfl) rfl ?_
                refine .cons (.mk' rfl rfl rfl (S_storeW 0 rfl (.tmp rfl) (.tmp rfl) rfl rfl rfl (by kernel_rfl)) ?_) ?_
                · rintro _ _ ⟨rfl, rfl⟩
                  refine AO_fin (by kernel_rfl) ⟨rfl, b3, (.cons rfl (Le.refl _) (.cons rfl (Le.refl _) (.cons rfl (Le.refl _) .nil))), rfl⟩
                exact .nil
              exact .nil
            refine .cons (.mk' rfl rfl rfl (S_alloc [.string ⟨#[]⟩, .string ⟨#[]⟩, .int .i64 0, .int .i64 0, .int .i64 0, .int .i64 0, .int .i64 0, .int .i64 0, .slice none 0 0, .int .i64 0, .int .i64 0] rfl (by kernel_rfl)) ?_) ?_
            · rintro _ _ ⟨b3, rfl, rfl⟩
              refine AO_step (rs := [4]) (by kernel_rfl) rfl ?_
              refine .cons (.mk' rfl rfl rfl (S_build (t := 79) (pl := [(0, 1), (1, 1), (2, 3), (5, 3), (8, 1), (9, 2)]) (zs := [.string ⟨#[]⟩, .string ⟨#[]⟩, .int .i64 0, .int .i64 0, .int .i64 0, .int .i64 0, .int .i64 0, .int .i64 0, .slice none 0 0, .int .i64 0, .int .i64 0]) rfl (AEvs.cons (.tmp rfl) (AEvs.cons (.tmp rfl) AEvs.nil)) (by kernel_rfl) rfl) ?_) ?_
              · rintro _ _ ⟨rfl, rfl⟩
                refine AO_step (rs := [6]) (by kernel_rfl) rfl ?_
                refine .cons (.mk' rfl rfl rfl (S_storeW 0 rfl (.tmp rfl) (.tmp rfl) rfl rfl rfl (by kernel_rfl)) ?_) ?_
                · rintro _ _ ⟨rfl, rfl⟩
                  refine AO_fin (by kernel_rfl) ⟨rfl, b3, (.cons rfl (Le.refl _) (.cons rfl (Le.refl _) (.cons rfl (Le.refl _) .nil))), rfl⟩
                exact .nil
              exact .nil
            exact .nil
          refine .cons (.mk' rfl rfl rfl (S_alloc [.string ⟨#[]⟩, .string ⟨#[]⟩, .int .i64 0, .int .i64 0, .int .i64 0, .int .i64 0, .int .i64 0, .int .i64 0, .slice none 0 0, .int .i64 0, .int .i64 0] rfl (by kernel_rfl)) ?_) ?_
          · rintro _ _ ⟨b3, rfl, rfl⟩
            refine AO_step (rs := [3]) (by kernel_rfl) rfl ?_
            refine .cons (.mk' rfl rfl rfl (S_call rfl (AEvs.cons (.tmp rfl) (AEvs.cons (AEv.const _) AEvs.nil)) (ACalls.preQ (pre := [_, _, _]) (F := F) (r_Text_ok b _ _ 33 (by decide) _))) ?_) ?_
            · rintro _ _ ⟨_, ⟨rfl, rfl⟩, rfl⟩
              refine AO_step (rs := [4]) (by kernel_rfl) rfl ?_
              refine .cons (.mk' rfl rfl rfl (S_build (t := 79) (pl := [(0, 1), (1, 1), (2, 3), (5, 3), (8, 1), (9, 2)]) (zs := [.string ⟨#[]⟩, .string ⟨#[]⟩, .int .i64 0, .int .i64 0, .int .i64 0, .int .i64 0, .int .i64 0, .int .i64 0, .slice none 0 0, .int .i64 0, .int .i64 0]) rfl (AEvs.cons (.tmp rfl) (AEvs.cons (.tmp rfl) AEvs.nil)) (by kernel_rfl) rfl) ?_) ?_
              · rintro _ _ ⟨rfl, rfl⟩
                refine AO_step (rs := [6]) (by kernel_rfl) rfl ?_
                refine .cons (.mk' rfl rfl rfl (S_storeW 0 rfl (.tmp rfl) (.tmp rfl) rfl rfl rfl (by kernel_rfl)) ?_) ?_
                · rintro _ _ ⟨rfl, rfl⟩
                  refine AO_fin (by kernel_rfl) ⟨rfl, b3, (.cons rfl (Le.refl _) (.cons rfl (Le.refl _) (.cons rfl (Le.refl _) .nil))), rfl⟩
                exact .nil
              exact .nil
            exact .nil
          exact .nil
        refine .cons (.mk' rfl rfl rfl (S_alloc [.string ⟨#[]⟩, .string ⟨#[]⟩, .int .i64 0, .int .i64 0, .int .i64 0, .int .i64 0, .int .i64 0, .int .i64 0, .slice none 0 0, .int .i64 0, .int .i64 0] rfl (by kernel_rfl)) ?_) ?_
        · rintro _ _ ⟨b3, rfl, rfl⟩
          refine AO_step (rs := [1]) (by kernel_rfl) rfl ?_
          refine .cons (.mk' rfl rfl rfl (S_call rfl (AEvs.cons (.tmp rfl) (AEvs.cons (AEv.const _) AEvs.nil)) (ACalls.preQ (pre := [_, _, _]) (F := F) (r_Text_ok b _ _ 16 (by decide) _))) ?_) ?_
          · rintro _ _ ⟨_, ⟨rfl, rfl⟩, rfl⟩
            refine AO_step (rs := [3]) (by kernel_rfl) rfl ?_
            refine .cons (.mk' rfl rfl rfl (S_call rfl (AEvs.cons (.tmp rfl) (AEvs.cons (AEv.const _) AEvs.nil)) (ACalls.preQ (pre := [_, _, _]) (F := F) (r_Text_ok b _ _ 33 (by decide) _))) ?_) ?_
            · rintro _ _ ⟨_, ⟨rfl, rfl⟩, rfl⟩
              refine AO_step (rs := [4]) (by kernel_rfl) rfl ?_
              refine .cons (.mk' rfl rfl rfl (S_build (t := 79) (pl := [(0, 1), (1, 1), (2, 3), (5, 3), (8, 1), (9, 2)]) (zs := [.string ⟨#[]⟩, .string ⟨#[]⟩, .int .i64 0, .int .i64 0, .int .i64 0, .int .i64 0, .int .i64 0, .int .i64 0, .slice none 0 0, .int .i64 0, .int .i64 0]) rfl (AEvs.cons (.tmp rfl) (AEvs.cons (.tmp rfl) AEvs.nil)) (by kernel_rfl) rfl) ?_) ?_
              · rintro _ _ ⟨rfl, rfl⟩
                refine AO_step (rs := [6]) (by kernel_rfl) rfl ?_
                refine .cons (.mk' rfl rfl rfl (S_storeW 0 rfl (.tmp rfl) (.tmp rfl) rfl rfl rfl (by kernel_rfl)) ?_) ?_
                · rintro _ _ ⟨rfl, rfl⟩
                  refine AO_fin (by kernel_rfl) ⟨rfl, b3, (.cons rfl (Le.refl _) (.cons rfl (Le.refl _) (.cons rfl (Le.refl _) .nil))), rfl⟩
                exact .nil
              exact .nil
            exact .nil
          exact .nil
        exact .nil
      refine .cons (.mk' rfl rfl rfl (S_alloc [.string ⟨#[]⟩, .string ⟨#[]⟩, .int .i64 0, .int .i64 0, .int .i64 0, .int .i64 0, .int .i64 0, .int .i64 0, .slice none 0 0, .int .i64 0, .int .i64 0] rfl (by kernel_rfl)) ?_) ?_
      · rintro _ _ ⟨b3, rfl, rfl⟩
        refine AO_step (rs := [1, 2]) (by kernel_rfl) rfl ?_
        refine .cons (.mk' rfl rfl rfl (S_call rfl (AEvs.cons (.tmp rfl) (AEvs.cons (AEv.const _) AEvs.nil)) (ACalls.preQ (pre := [_, _, _]) (F := F) (r_Text_ok b _ _ 16 (by decide) _))) ?_) ?_
        · rintro _ _ ⟨_, ⟨rfl, rfl⟩, rfl⟩
          refine AO_step (rs := [2]) (by kernel_rfl) rfl ?_
          refine .cons (.mk' rfl rfl rfl (S_loadM (cs := [.ptr b 0]) rfl (.tmp rfl) (by repeat (first | exact List.mem_cons_self | refine List.mem_cons_of_mem _ ?_)) rfl (by kernel_rfl)) ?_) ?_
          · rintro _ _ ⟨rfl, rfl⟩
            refine AO_step (rs := [3]) (by kernel_rfl) rfl ?_
            refine .cons (.mk' rfl rfl rfl (S_call rfl (AEvs.cons (.tmp rfl) (AEvs.cons (AEv.const _) AEvs.nil)) (ACalls.preQ (pre := [_, _, _]) (F := F) (r_Text_ok b _ _ 33 (by decide) _))) ?_) ?_
            · rintro _ _ ⟨_, ⟨rfl, rfl⟩, rfl⟩
              refine AO_step (rs := [4]) (by kernel_rfl) rfl ?_
              refine .cons (.mk' rfl rfl rfl (S_build (t := 79) (pl := [(0, 1), (1, 1), (2, 3), (5, 3), (8, 1), (9, 2)]) (zs := [.string ⟨#[]⟩, .string ⟨#[]⟩, .int .i64 0, .int .i64 0, .int .i64 0, .int .i64 0, .int .i64 0, .int .i64 0, .slice none 0 0, .int .i64 0, .int .i64 0]) rfl (AEvs.cons (.tmp rfl) (AEvs.cons (.tmp rfl) AEvs.nil)) (by kernel_rfl) rfl) ?_) ?_
              · rintro _ _ ⟨rfl, rfl⟩
                refine AO_step (rs := [6]) (by kernel_rfl) rfl ?_
                refine .cons (.mk' rfl rfl rfl (S_storeW 0 rfl (.tmp rfl) (.tmp rfl) rfl rfl rfl (by kernel_rfl)) ?_) ?_
                · rintro _ _ ⟨rfl, rfl⟩
                  refine AO_fin (by kernel_rfl) ⟨rfl, b3, (.cons rfl (Le.refl _) (.cons rfl (Le.refl _) (.cons rfl (Le.refl _) .nil))), rfl⟩
                exact .nil
              exact .nil
            exact .nil
          exact .nil
        refine .cons (.mk' rfl rfl rfl (S_loadM (cs := [.ptr b 0]) rfl (.tmp rfl) (by repeat (first | exact List.mem_cons_self | refine List.mem_cons_of_mem _ ?_)) rfl (by kernel_rfl)) ?_) ?_
        · rintro _ _ ⟨rfl, rfl⟩
          refine AO_step (rs := [1]) (by kernel_rfl) rfl ?_
          refine .cons (.mk' rfl rfl rfl (S_call rfl (AEvs.cons (.tmp rfl) (AEvs.cons (AEv.const _) AEvs.nil)) (ACalls.preQ (pre := [_, _, _]) (F := F) (r_Text_ok b _ _ 16 (by decide) _))) ?_) ?_
          · rintro _ _ ⟨_, ⟨rfl, rfl⟩, rfl⟩
            refine AO_step (rs := [3]) (by kernel_rfl) rfl ?_
            refine .cons (.mk' rfl rfl rfl (S_call rfl (AEvs.cons (.tmp rfl) (AEvs.cons (AEv.const _) AEvs.nil)) (ACalls.preQ (pre := [_, _, _]) (F := F) (r_Text_ok b _ _ 33 (by decide) _))) ?_) ?_
            · rintro _ _ ⟨_, ⟨rfl, rfl⟩, rfl⟩
              refine AO_step (rs := [4]) (by kernel_rfl) rfl ?_
              refine .cons (.mk' rfl rfl rfl (S_build (t := 79) (pl := [(0, 1), (1, 1), (2, 3), (5, 3), (8, 1), (9, 2)]) (zs := [.string ⟨#[]⟩, .string ⟨#[]⟩, .int .i64 0, .int .i64 0, .int .i64 0, .int .i64 0, .int .i64 0, .int .i64 0, .slice none 0 0, .int .i64 0, .int .i64 0]) rfl (AEvs.cons (.tmp rfl) (AEvs.cons (.tmp rfl) AEvs.nil)) (by kernel_rfl) rfl) ?_) ?_
              · rintro _ _ ⟨rfl, rfl⟩
                refine AO_step (rs := [6]) (by kernel_rfl) rfl ?_
                refine .cons (.mk' rfl rfl rfl (S_storeW 0 rfl (.tmp rfl) (.tmp rfl) rfl rfl rfl (by kernel_rfl)) ?_) ?_
                · rintro _ _ ⟨rfl, rfl⟩
                  refine AO_fin (by kernel_rfl) ⟨rfl, b3, (.cons rfl (Le.refl _) (.cons rfl (Le.refl _) (.cons rfl (Le.refl _) .nil))), rfl⟩
                exact .nil
              exact .nil
            exact .nil
          exact .nil
        exact .nil
      exact .nil
    refine .cons (.mk' rfl rfl rfl (S_loadM (cs := [.ptr b 0]) rfl (.tmp rfl) (by repeat (first | exact List.mem_cons_self | refine List.mem_cons_of_mem _ ?_)) rfl (by kernel_rfl)) ?_) ?_
    · rintro _ _ ⟨rfl, rfl⟩
      refine AO_step (rs := [0, 5]) (by kernel_rfl) rfl ?_
      refine .cons (.mk' rfl rfl rfl (S_loadM (cs := [.ptr b 0]) rfl (.tmp rfl) (by repeat (first | exact List.mem_cons_self | refine List.mem_cons_of_mem _ ?_)) rfl (by kernel_rfl)) ?_) ?_
      · rintro _ _ ⟨rfl, rfl⟩
        refine AO_step (rs := [1, 5]) (by kernel_rfl) rfl ?_
        refine .cons (.mk' rfl rfl rfl (S_call rfl (AEvs.cons (.tmp rfl) (AEvs.cons (AEv.const _) AEvs.nil)) (ACalls.preQ (pre := [_, _]) (F := F) (r_Text_ok b _ _ 16 (by decide) _))) ?_) ?_
        · rintro _ _ ⟨_, ⟨rfl, rfl⟩, rfl⟩
          refine AO_step (rs := [3, 5]) (by kernel_rfl) rfl ?_
          refine .cons (.mk' rfl rfl rfl (S_call rfl (AEvs.cons (.tmp rfl) (AEvs.cons (AEv.const _) AEvs.nil)) (ACalls.preQ (pre := [_, _]) (F := F) (r_Text_ok b _ _ 33 (by decide) _))) ?_) ?_
          · rintro _ _ ⟨_, ⟨rfl, rfl⟩, rfl⟩
            refine AO_step (rs := [4, 5]) (by kernel_rfl) rfl ?_
            refine .cons (.mk' rfl rfl rfl (S_build (t := 79) (pl := [(0, 1), (1, 1), (2, 3), (5, 3), (8, 1), (9, 2)]) (zs := [.string ⟨#[]⟩, .string ⟨#[]⟩, .int .i64 0, .int .i64 0, .int .i64 0, .int .i64 0, .int .i64 0, .int .i64 0, .slice none 0 0, .int .i64 0, .int .i64 0]) rfl (AEvs.cons (.tmp rfl) (AEvs.cons (.tmp rfl) AEvs.nil)) (by kernel_rfl) rfl) ?_) ?_
            · rintro _ _ ⟨rfl, rfl⟩
              refine AO_step (rs := [5]) (by kernel_rfl) rfl ?_
              refine .cons (.mk' rfl rfl rfl (S_alloc [.string ⟨#[]⟩, .string ⟨#[]⟩, .int .i64 0, .int .i64 0, .int .i64 0, .int .i64 0, .int .i64 0, .int .i64 0, .slice none 0 0, .int .i64 0, .int .i64 0] rfl (by kernel_rfl)) ?_) ?_
              · rintro _ _ ⟨b3, rfl, rfl⟩
                refine AO_step (rs := [6]) (by kernel_rfl) rfl ?_
                refine .cons (.mk' rfl rfl rfl (S_storeW 0 rfl (.tmp rfl) (.tmp rfl) rfl rfl rfl (by kernel_rfl)) ?_) ?_
                · rintro _ _ ⟨rfl, rfl⟩
                  refine AO_fin (by kernel_rfl) ⟨rfl, b3, (.cons rfl (Le.refl _) (.cons rfl (Le.refl _) (.cons rfl (Le.refl _) .nil))), rfl⟩
                exact .nil
              exact .nil
            refine .cons (.mk' rfl rfl rfl (S_alloc [.string ⟨#[]⟩, .string ⟨#[]⟩, .int .i64 0, .int .i64 0, .int .i64 0, .int .i64 0, .int .i64 0, .int .i64 0, .slice none 0 0, .int .i64 0, .int .i64 0] rfl (by kernel_rfl)) ?_) ?_
            · rintro _ _ ⟨b3, rfl, rfl⟩
              refine AO_step (rs := [4]) (by kernel_rfl) rfl ?_
              refine .cons (.mk' rfl rfl rfl (S_build (t := 79) (pl := [(0, 1), (1, 1), (2, 3), (5, 3), (8, 1), (9, 2)]) (zs := [.string ⟨#[]⟩, .string ⟨#[]⟩, .int .i64 0, .int .i64 0, .int .i64 0, .int .i64 0, .int .i64 0, .int .i64 0, .slice none 0 0, .int .i64 0, .int .i64 0]) rfl (AEvs.cons (.tmp rfl) (AEvs.cons (.tmp rfl) AEvs.nil)) (by kernel_rfl) rfl) ?_) ?_
              · rintro _ _ ⟨rfl, rfl⟩
                refine AO_step (rs := [6]) (by kernel_rfl) rfl ?_
                refine .cons (.mk' rfl rfl rfl (S_storeW 0 rfl (.tmp rfl) (.tmp rfl) rfl rfl rfl (by kernel_rfl)) ?_) ?_
                · rintro _ _ ⟨rfl, rfl⟩
                  refine AO_fin (by kernel_rfl) ⟨rfl, b3, (.cons rfl (Le.refl _) (.cons rfl (Le.refl _) (.cons rfl (Le.refl _) .nil))), rfl⟩
                exact .nil
              exact .nil
            exact .nil
          refine .cons (.mk' rfl rfl rfl (S_alloc [.string ⟨#[]⟩, .string ⟨#[]⟩, .int .i64 0, .int .i64 0, .int .i64 0, .int .i64 0, .int .i64 0, .int .i64 0, .slice none 0 0, .int .i64 0, .int .i64 0] rfl (by kernel_rfl)) ?_) ?_
          · rintro _ _ ⟨b3, rfl, rfl⟩
            refine AO_step (rs := [3]) (by kernel_rfl) rfl ?_
            refine .cons (.mk' rfl rfl rfl (S_call rfl (AEvs.cons (.tmp rfl) (AEvs.cons (AEv.const _) AEvs.nil)) (ACalls.preQ (pre := [_, _, _]) (F := F) (r_Text_ok b _ _ 33 (by decide) _))) ?_) ?_
            · rintro _ _ ⟨_, ⟨rfl, rfl⟩, rfl⟩
              refine AO_step (rs := [4]) (by kernel_rfl) rfl ?_
              refine .cons (.mk' rfl rfl rfl (S_build (t := 79) (pl := [(0, 1), (1, 1), (2, 3), (5, 3), (8, 1), (9, 2)]) (zs := [.string ⟨#[]⟩, .string ⟨#[]⟩, .int .i64 0, .int .i64 0, .int .i64 0, .int .i64 0, .int .i64 0, .int .i64 0, .slice none 0 0, .int .i64 0, .int .i64 0]) rfl (AEvs.cons (.tmp rfl) (AEvs.cons (.tmp rfl) AEvs.nil)) (by kernel_rfl) rfl) ?_) ?_
              · rintro _ _ ⟨rfl, rfl⟩
                refine AO_step (rs := [6]) (by kernel_rfl) rfl ?_
                refine .cons (.mk' rfl rfl rfl (S_storeW 0 rfl (.tmp rfl) (.tmp rfl) rfl rfl rfl (by kernel_rfl)) ?_) ?_
                · rintro _ _ ⟨rfl, rfl⟩
                  refine AO_fin (by kernel_rfl) ⟨rfl, b3, (.cons rfl (Le.refl _) (.cons rfl (Le.refl _) (.cons rfl (Le.refl _) .nil))), rfl⟩
                exact .nil
              exact .nil
            exact .nil
          exact .nil
        refine .cons (.mk' rfl rfl rfl (S_alloc [.string ⟨#[]⟩, .string ⟨#[]⟩, .int .i64 0, .int .i64 0, .int .i64 0, .int .i64 0, .int .i64 0, .int .i64 0, .slice none 0 0, .int .i64 0, .int .i64 0] rfl (by kernel_rfl)) ?_) ?_
        · rintro _ _ ⟨b3, rfl, rfl⟩
          refine AO_step (rs := [1]) (by kernel_rfl) rfl ?_
          refine .cons (.mk' rfl rfl rfl (S_call rfl (AEvs.cons (.tmp rfl) (AEvs.cons (AEv.const _) AEvs.nil)) (ACalls.preQ (pre := [_, _, _]) (F := F) (r_Text_ok b _ _ 16 (by decide) _))) ?_) ?_
          · rintro _ _ ⟨_, ⟨rfl, rfl⟩, rfl⟩
            refine AO_step (rs := [3]) (by kernel_rfl) rfl ?_
            refine .cons (.mk' rfl rfl rfl (S_call rfl (AEvs.cons (.tmp rfl) (AEvs.cons (AEv.const _) AEvs.nil)) (ACalls.preQ (pre := [_, _, _]) (F := F) (r_Text_ok b _ _ 33 (by decide) _))) ?_) ?_
            · rintro _ _ ⟨_, ⟨rfl, rfl⟩, rfl⟩
              refine AO_step (rs := [4]) (by kernel_rfl) rfl ?_
              refine .cons (.mk' rfl rfl rfl (S_build (t := 79) (pl := [(0, 1), (1, 1), (2, 3), (5, 3), (8, 1), (9, 2)]) (zs := [.string ⟨#[]⟩, .string ⟨#[]⟩, .int .i64 0, .int .i64 0, .int .i64 0, .int .i64 0, .int .i64 0, .int .i64 0, .slice none 0 0, .int .i64 0, .int .i64 0]) rfl (AEvs.cons (.tmp rfl) (AEvs.cons (.tmp rfl) AEvs.nil)) (by kernel_rfl) rfl) ?_) ?_
              · rintro _ _ ⟨rfl, rfl⟩
                refine AO_step (rs := [6]) (by kernel_rfl) rfl ?_
                refine .cons (.mk' rfl rfl rfl (S_storeW 0 rfl (.tmp rfl) (.tmp rfl) rfl rfl rfl (by kernel_rfl)) ?_) ?_
                · rintro _ _ ⟨rfl, rfl⟩
                  refine AO_fin (by kernel_rfl) ⟨rfl, b3, (.cons rfl (Le.refl _) (.cons rfl (Le.refl _) (.cons rfl (Le.refl _) .nil))), rfl⟩
                exact .nil
              exact .nil
            exact .nil
          exact .nil
        exact .nil
      refine .cons (.mk' rfl rfl rfl (S_alloc [.string ⟨#[]⟩, .string ⟨#[]⟩, .int .i64 0, .int .i64 0, .int .i64 0, .int .i64 0, .int .i64 0, .int .i64 0, .slice none 0 0, .int .i64 0, .int .i64 0] rfl (by kernel_rfl)) ?_) ?_
      · rintro _ _ ⟨b3, rfl, rfl⟩
        refine AO_step (rs := [0]) (by kernel_rfl) rfl ?_
        refine .cons (.mk' rfl rfl rfl (S_loadM (cs := [.ptr b 0]) rfl (.tmp rfl) (by repeat (first | exact List.mem_cons_self | refine List.mem_cons_of_mem _ ?_)) rfl (by kernel_rfl)) ?_) ?_
        · rintro _ _ ⟨rfl, rfl⟩
          refine AO_step (rs := [1]) (by kernel_rfl) rfl ?_
          refine .cons (.mk' rfl rfl rfl (S_call rfl (AEvs.cons (.tmp rfl) (AEvs.cons (AEv.const _) AEvs.nil)) (ACalls.preQ (pre := [_, _, _]) (F := F) (r_Text_ok b _ _ 16 (by decide) _))) ?_) ?_
          · rintro _ _ ⟨_, ⟨rfl, rfl⟩, rfl⟩
            refine AO_step (rs := [3]) (by kernel_rfl) rfl ?_
            refine .cons (.mk' rfl rfl rfl (S_call rfl (AEvs.cons (.tmp rfl) (AEvs.cons (AEv.const _) AEvs.nil)) (ACalls.preQ (pre := [_, _, _]) (F := F) (r_Text_ok b _ _ 33 (by decide) _))) ?_) ?_
            · rintro _ _ ⟨_, ⟨rfl, rfl⟩, rfl⟩
              refine AO_step (rs := [4]) (by kernel_rfl) rfl ?_
              refine .cons (.mk' rfl rfl rfl (S_build (t := 79) (pl := [(0, 1), (1, 1), (2, 3), (5, 3), (8, 1), (9, 2)]) (zs := [.string ⟨#[]⟩, .string ⟨#[]⟩, .int .i64 0, .int .i64 0, .int .i64 0, .int .i64 0, .int .i64 0, .int .i64 0, .slice none 0 0, .int .i64 0, .int .i64 0]) rfl (AEvs.cons (.tmp rfl) (AEvs.cons (.tmp rfl) AEvs.nil)) (by kernel_rfl) rfl) ?_) ?_
              · rintro _ _ ⟨rfl, rfl⟩
                refine AO_step (rs := [6]) (by kernel_rfl) rfl ?_
                refine .cons (.mk' rfl rfl rfl (S_storeW 0 rfl (.tmp rfl) (.tmp rfl) rfl rfl rfl (by kernel_rfl)) ?_) ?_
                · rintro _ _ ⟨rfl, rfl⟩
                  refine AO_fin (by kernel_rfl) ⟨rfl, b3, (.cons rfl (Le.refl _) (.cons rfl (Le.refl _) (.cons rfl (Le.refl _) .nil))), rfl⟩
                exact .nil
              exact .nil
            exact .nil
          exact .nil
        exact .nil
      exact .nil
    refine .cons (.mk' rfl rfl rfl (S_alloc [.string ⟨#[]⟩, .string ⟨#[]⟩, .int .i64 0, .int .i64 0, .int .i64 0, .int .i64 0, .int .i64 0, .int .i64 0, .slice none 0 0, .int .i64 0, .int .i64 0] rfl (by kernel_rfl)) ?_) ?_
    · rintro _ _ ⟨b3, rfl, rfl⟩
      refine AO_step (rs := [0, 2]) (by kernel_rfl) rfl ?_
      refine .cons (.mk' rfl rfl rfl (S_loadM (cs := [.ptr b 0]) rfl (.tmp rfl) (by repeat (first | exact List.mem_cons_self | refine List.mem_cons_of_mem _ ?_)) rfl (by kernel_rfl)) ?_) ?_
      · rintro _ _ ⟨rfl, rfl⟩
        refine AO_step (rs := [1, 2]) (by kernel_rfl) rfl ?_
        refine .cons (.mk' rfl rfl rfl (S_call rfl (AEvs.cons (.tmp rfl) (AEvs.cons (AEv.const _) AEvs.nil)) (ACalls.preQ (pre := [_, _, _]) (F := F) (r_Text_ok b _ _ 16 (by decide) _))) ?_) ?_
        · rintro _ _ ⟨_, ⟨rfl, rfl⟩, rfl⟩
          refine AO_step (rs := [2]) (by kernel_rfl) rfl ?_
          refine .cons (.mk' rfl rfl rfl (S_loadM (cs := [.ptr b 0]) rfl (.tmp rfl) (by repeat (first | exact List.mem_cons_self | refine List.mem_cons_of_mem _ ?_)) rfl (by kernel_rfl)) ?_) ?_
          · rintro _ _ ⟨rfl, rfl⟩
            refine AO_step (rs := [3]) (by kernel_rfl) rfl ?_
            refine .cons (.mk' rfl rfl rfl (S_call rfl (AEvs.cons (.tmp rfl) (AEvs.cons (AEv.const _) AEvs.nil)) (ACalls.preQ (pre := [_, _, _]) (F := F) (r_Text_ok b _ _ 33 (by decide) _))) ?_) ?_
            · rintro _ _ ⟨_, ⟨rfl, rfl⟩, rfl⟩
              refine AO_step (rs := [4]) (by kernel_rfl) rfl ?_
              refine .cons (.mk' rfl rfl rfl (S_build (t := 79) (pl := [(0, 1), (1, 1), (2, 3), (5, 3), (8, 1), (9, 2)]) (zs := [.string ⟨#[]⟩, .string ⟨#[]⟩, .int .i64 0, .int .i64 0, .int .i64 0, .int .i64 0, .int .i64 0, .int .i64 0, .slice none 0 0, .int .i64 0, .int .i64 0]) rfl (AEvs.cons (.tmp rfl) (AEvs.cons (.tmp rfl) AEvs.nil)) (by kernel_rfl) rfl) ?_) ?_
              · rintro _ _ ⟨rfl, rfl⟩
                refine AO_step (rs := [6]) (by kernel_rfl) rfl ?_
                refine .cons (.mk' rfl rfl rfl (S_storeW 0 rfl (.tmp rfl) (.tmp rfl) rfl rfl rfl (by kernel_rfl)) ?_) ?_
                · rintro _ _ ⟨rfl, rfl⟩
                  refine AO_fin (by kernel_rfl) ⟨rfl, b3, (.cons rfl (Le.refl _) (.cons rfl (Le.refl _) (.cons rfl (Le.refl _) .nil))), rfl⟩
                exact .nil
              exact .nil
            exact .nil
          exact .nil
        refine .cons (.mk' rfl rfl rfl (S_loadM (cs := [.ptr b 0]) rfl (.tmp rfl) (by repeat (first | exact List.mem_cons_self | refine List.mem_cons_of_mem _ ?_)) rfl (by kernel_rfl)) ?_) ?_
        · rintro _ _ ⟨rfl, rfl⟩
          refine AO_step (rs := [1]) (by kernel_rfl) rfl ?_
          refine .cons (.mk' rfl rfl rfl (S_call rfl (AEvs.cons (.tmp rfl) (AEvs.cons (AEv.const _) AEvs.nil)) (ACalls.preQ (pre := [_, _, _]) (F := F) (r_Text_ok b _ _ 16 (by decide) _))) ?_) ?_
          · rintro _ _ ⟨_, ⟨rfl, rfl⟩, rfl⟩
            refine AO_step (rs := [3]) (by kernel_rfl) rfl ?_
            refine .cons (.mk' rfl rfl rfl (S_call rfl (AEvs.cons (.tmp rfl) (AEvs.cons (AEv.const _) AEvs.nil)) (ACalls.preQ (pre := [_, _, _]) (F := F) (r_Text_ok b _ _ 33 (by decide) _))) ?_) ?_
            · rintro _ _ ⟨_, ⟨rfl, rfl⟩, rfl⟩
              refine AO_step (rs := [4]) (by kernel_rfl) rfl ?_
              refine .cons (.mk' rfl rfl rfl (S_build (t := 79) (pl := [(0, 1), (1, 1), (2, 3), (5, 3), (8, 1), (9, 2)]) (zs := [.string ⟨#[]⟩, .string ⟨#[]⟩, .int .i64 0, .int .i64 0, .int .i64 0, .int .i64 0, .int .i64 0, .int .i64 0, .slice none 0 0, .int .i64 0, .int .i64 0]) rfl (AEvs.cons (.tmp rfl) (AEvs.cons (.tmp rfl) AEvs.nil)) (by kernel_rfl) rfl) ?_) ?_
              · rintro _ _ ⟨rfl, rfl⟩
                refine AO_step (rs := [6]) (by kernel_rfl) rfl ?_
                refine .cons (.mk' rfl rfl rfl (S_storeW 0 rfl (.tmp rfl) (.tmp rfl) rfl rfl rfl (by kernel_rfl)) ?_) ?_
                · rintro _ _ ⟨rfl, rfl⟩
                  refine AO_fin (by kernel_rfl) ⟨rfl, b3, (.cons rfl (Le.refl _) (.cons rfl (Le.refl _) (.cons rfl (Le.refl _) .nil))), rfl⟩
                exact .nil
              exact .nil
            exact .nil
          exact .nil
        exact .nil
      refine .cons (.mk' rfl rfl rfl (S_loadM (cs := [.ptr b 0]) rfl (.tmp rfl) (by repeat (first | exact List.mem_cons_self | refine List.mem_cons_of_mem _ ?_)) rfl (by kernel_rfl)) ?_) ?_
      · rintro _ _ ⟨rfl, rfl⟩
        refine AO_step (rs := [0]) (by kernel_rfl) rfl ?_
        refine .cons (.mk' rfl rfl rfl (S_loadM (cs := [.ptr b 0]) rfl (.tmp rfl) (by repeat (first | exact List.mem_cons_self | refine List.mem_cons_of_mem _ ?_)) rfl (by kernel_rfl)) ?_) ?_
        · rintro _ _ ⟨rfl, rfl⟩
          refine AO_step (rs := [1]) (by kernel_rfl) rfl ?_
          refine .cons (.mk' rfl rfl rfl (S_call rfl (AEvs.cons (.tmp rfl) (AEvs.cons (AEv.const _) AEvs.nil)) (ACalls.preQ (pre := [_, _, _]) (F := F) (r_Text_ok b _ _ 16 (by decide) _))) ?_) ?_
          · rintro _ _ ⟨_, ⟨rfl, rfl⟩, rfl⟩
            refine AO_step (rs := [3]) (by kernel_rfl) rfl ?_
            refine .cons (.mk' rfl rfl rfl (S_call rfl (AEvs.cons (.tmp rfl) (AEvs.cons (AEv.const _) AEvs.nil)) (ACalls.preQ (pre := [_, _, _]) (F := F) (r_Text_ok b _ _ 33 (by decide) _))) ?_) ?_
            · rintro _ _ ⟨_, ⟨rfl, rfl⟩, rfl⟩
              refine AO_step (rs := [4]) (by kernel_rfl) rfl ?_
              refine .cons (.mk' rfl rfl rfl (S_build (t := 79) (pl := [(0, 1), (1, 1), (2, 3), (5, 3), (8, 1), (9, 2)]) (zs := [.string ⟨#[]⟩, .string ⟨#[]⟩, .int .i64 0, .int .i64 0, .int .i64 0, .int .i64 0, .int .i64 0, .int .i64 0, .slice none 0 0, .int .i64 0, .int .i64 0]) rfl (AEvs.cons (.tmp rfl) (AEvs.cons (.tmp rfl) AEvs.nil)) (by kernel_rfl) rfl) ?_) ?_
              · rintro _ _ ⟨rfl, rfl⟩
                refine AO_step (rs := [6]) (by kernel_rfl) rfl ?_
                refine .cons (.mk' rfl rfl rfl (S_storeW 0 rfl (.tmp rfl) (.tmp rfl) rfl rfl rfl (by kernel_rfl)) ?_) ?_
                · rintro _ _ ⟨rfl, rfl⟩
                  refine AO_fin (by kernel_rfl) ⟨rfl, b3, (.cons rfl (Le.refl _) (.cons rfl (Le.refl _) (.cons rfl (Le.refl _) .nil))), rfl⟩
                exact .nil
              exact .nil
            exact .nil
          exact .nil
        exact .nil
      exact .nil
    exact .nil
  rintro _ _ ⟨b3, henv, rfl⟩
  refine AC_weak _ henv ?_
  clear henv
  refine AC_seq ?_
  generalize h1 : wtextR s c 16 = r1
  generalize h2 : wtextR r1.2.1 r1.2.2 33 = r2
  refine AC_plan (σ := [(0, 0), (2, 0), (1, 1), (4, 0), (3, 1), (5, 2), (6, 0), (7, 2)]) (by kernel_rfl) [(b1, Ob.cells [.ptr b 0])] (by kernel_rfl) (fun r hr => by rw [List.mem_singleton.1 hr]; exact (by repeat (first | exact List.mem_cons_self | refine List.mem_cons_of_mem _ ?_))) ?_
  refine AG.f rfl rfl (fun st' hst => Q_p rfl (S_loadM (cs := [.ptr b 0]) rfl (.tmp rfl) (hst _ List.mem_cons_self) rfl (by kernel_rfl))) ?_
  refine AG.f rfl rfl (fun st' hst => Q_p rfl (S_loadM (cs := [.ptr b 0]) rfl (.tmp rfl) (hst _ List.mem_cons_self) rfl (by kernel_rfl))) ?_
  refine AG.s rfl rfl rfl (S_call rfl (AEvs.cons (.tmp rfl) AEvs.nil) (ACalls.preQ (pre := [_, _, _]) (F := F) (takeRes_ok b _ _ _))) ?_ ?_
  · rintro _ _ ⟨_, ⟨rfl, rfl⟩, rfl⟩ r hr; rw [List.mem_singleton.1 hr]; exact (by repeat (first | exact List.mem_cons_self | refine List.mem_cons_of_mem _ ?_))
  rintro _ _ ⟨_, ⟨rfl, rfl⟩, rfl⟩
  refine AG.f rfl rfl (fun st' hst => Q_p rfl (S_field 2 rfl (.tmp rfl) (by kernel_rfl))) ?_
  refine AG.s rfl rfl rfl (S_call rfl (AEvs.cons (.tmp rfl) AEvs.nil) (ACalls.preQ (pre := [_, _, _]) (F := F) (takeRes_ok b _ _ _))) ?_ ?_
  · rintro _ _ ⟨_, ⟨rfl, rfl⟩, rfl⟩ r hr; rw [List.mem_singleton.1 hr]; exact (by repeat (first | exact List.mem_cons_self | refine List.mem_cons_of_mem _ ?_))
  rintro _ _ ⟨_, ⟨rfl, rfl⟩, rfl⟩
  refine AG.h rfl rfl rfl (S_storeN 0 rfl (.tmp rfl) (.tmp rfl) rfl (by first | exact Nat.le_of_ble_eq_true rfl | (simp; omega) | simp) (by first | rfl | simp [AV.one, Value.oneCell']) (by kernel_rfl)) ?_
  rintro _ _ ⟨rfl, rfl⟩
  refine AG.f rfl rfl (fun st' hst => Q_p rfl (S_field 5 rfl (.tmp rfl) (by kernel_rfl))) ?_
  refine AG.h rfl rfl rfl (S_storeN 0 rfl (.tmp rfl) (.tmp rfl) rfl (by first | exact Nat.le_of_ble_eq_true rfl | (simp; omega) | simp) (by first | rfl | simp [AV.one, Value.oneCell']) (by kernel_rfl)) ?_
  rintro _ _ ⟨rfl, rfl⟩
  refine AG.nil ?_
  refine AC_seq ?_
  refine AC_region ?_
  refine AL_p rfl rfl (S_load 2 rfl (.tmp rfl) rfl rfl (by kernel_rfl)) ?_
  refine AL_p rfl rfl (S_makeFunc (caps := [_]) rfl (AEvs.cons (.tmp rfl) AEvs.nil)) ?_
  refine AL_step rfl rfl (S_call rfl (AEvs.cons (.tmp rfl) (AEvs.cons (AEv.const _) (AEvs.cons (.tmp rfl) AEvs.nil))) (ACalls.preQ (pre := [_, _, _]) (F := F) (takeAllI_ok b _ _ b1 3 (by decide) (by decide) _ (by repeat (first | exact List.mem_cons_self | refine List.mem_cons_of_mem _ ?_))))) ?_
  rintro _ _ ⟨_, ⟨rfl, rfl⟩, rfl⟩
  generalize h3 : triRd r2.2.1 r2.2.2 = r3
  generalize h4 : triRd r3.2.1 r3.2.2 = r4
  generalize h5 : allR (numRd 65535) 3 r4.2.1 r4.2.2 = r5
  refine AL_p rfl rfl (S_field 8 rfl (.tmp rfl) (by kernel_rfl)) ?_
  refine AL_step rfl rfl (S_store 0 rfl (.tmp rfl) (.tmp rfl) rfl (by first | exact Nat.le_of_ble_eq_true rfl | simp) rfl (by kernel_rfl)) ?_
  rintro _ _ ⟨rfl, rfl⟩
  refine AL_nil ?_
  refine AC_seq ?_
  refine AC_region ?_
  refine AL_p rfl rfl (S_load 2 rfl (.tmp rfl) rfl rfl (by kernel_rfl)) ?_
  refine AL_step rfl rfl (S_call rfl (AEvs.cons (.tmp rfl) (AEvs.cons (AEv.const _) AEvs.nil)) (ACalls.preQ (pre := [_, _, _]) (F := F) (r_Num_ok b _ _ 1000 (by decide) _))) ?_
  rintro _ _ ⟨_, ⟨rfl, rfl⟩, rfl⟩
  generalize h6 : numR r5.2.1 r5.2.2 1000 = r6
  refine AL_p rfl rfl (S_field 9 rfl (.tmp rfl) (by kernel_rfl)) ?_
  refine AL_p rfl rfl (S_field 0 rfl (.tmp rfl) (by kernel_rfl)) ?_
  refine AL_step rfl rfl (S_store 0 rfl (.tmp rfl) (.tmp rfl) rfl (by first | exact Nat.le_of_ble_eq_true rfl | simp) rfl (by kernel_rfl)) ?_
  rintro _ _ ⟨rfl, rfl⟩
  refine AL_nil ?_
  refine AC_seq ?_
  refine AC_region ?_
  refine AL_p rfl rfl (S_load 2 rfl (.tmp rfl) rfl rfl (by kernel_rfl)) ?_
  refine AL_step rfl rfl (S_call rfl (AEvs.cons (.tmp rfl) (AEvs.cons (AEv.const _) AEvs.nil)) (ACalls.preQ (pre := [_, _, _]) (F := F) (r_Num_ok b _ _ 10 (by decide) _))) ?_
  rintro _ _ ⟨_, ⟨rfl, rfl⟩, rfl⟩
  generalize h7 : numR r6.2.1 r6.2.2 10 = r7
  refine AL_p rfl rfl (S_field 9 rfl (.tmp rfl) (by kernel_rfl)) ?_
  refine AL_p rfl rfl (S_field 1 rfl (.tmp rfl) (by kernel_rfl)) ?_
  refine AL_step rfl rfl (S_store 0 rfl (.tmp rfl) (.tmp rfl) rfl (by first | exact Nat.le_of_ble_eq_true rfl | simp) rfl (by kernel_rfl)) ?_
  rintro _ _ ⟨rfl, rfl⟩
  refine AL_nil ?_
  refine AC_seq ?_
  refine AC_region ?_
  refine AL_p rfl rfl (S_loadN (m := 11) 0 rfl (.tmp rfl) rfl (by kernel_rfl) (by first | exact Nat.le_of_ble_eq_true rfl | (simp; omega) | simp)) ?_
  refine AL_step rfl rfl (S_storeW 1 rfl (.tmp rfl) (.tmp rfl) rfl rfl rfl (by kernel_rfl)) ?_
  rintro _ _ ⟨rfl, rfl⟩
  refine AL_nil ?_
  refine AC_ret ?_
  refine ret_cell 1 ([(b, Ob.cells [.S (r7.2.1), .int .i64 (r7.2.2)])] ++ F) rfl rfl rfl (by kernel_rfl) (Sub.l (((List.sublist_cons_self _ _).trans (List.sublist_cons_self _ _)).trans (List.sublist_cons_self _ _))) (Conv.refl (Sub.l (((List.sublist_cons_self _ _).trans (List.sublist_cons_self _ _)).trans (List.sublist_cons_self _ _))) _) ⟨_, ⟨by subst h7 h6 h5 h4 h3 h2 h1; rfl, by subst h7 h6 h5 h4 h3 h2 h1; rfl⟩, rfl⟩ (.inl rfl)

end Go.Proofs.YtfmiciodcimkeaaGreatDoor

/-
The walks of Go functions in the logic AL: what each of them answers.
Conditions: those of each theorem.
-/
set_option linter.unusedVariables false
set_option linter.unusedSimpArgs false
namespace Go.Proofs.YtfmiciodcimkeaaGreatDoor
open Go.AL Go.NumSpec

set_option maxRecDepth 100000 in
/-- provost/pack.Raw$1 -/
theorem takeP1_ok (b : Nat) (s : List UInt8) (c : Int) (br : Nat) (F : St) (hw : (br, Ob.cells [.ptr b 0]) ∈ F) : ACalls Tryz.prog 70 [.ptr br 0] ([(b, Ob.cells [.S (s), .int .i64 (c)])] ++ F) (fun x st' => ∃ foot', (x = ctrAV (ctrRd s c).1 ∧ foot' = [(b, Ob.cells [.S ((ctrRd s c).2.1), .int .i64 ((ctrRd s c).2.2)])]) ∧ st' = foot' ++ F) := by
  refine ACalls_of (N := 4) Tryz.func70 (by kernel_rfl) rfl rfl rfl ?_
  refine AC_seq ?_
  refine AC_region ?_
  refine AL_step rfl rfl (S_alloc [.string ⟨#[]⟩, .string ⟨#[]⟩, .int .i64 0, .int .i64 0, .int .i64 0, .int .i64 0, .int .i64 0, .int .i64 0, .slice none 0 0, .int .i64 0, .int .i64 0] rfl (by kernel_rfl)) ?_
  rintro _ _ ⟨b1, rfl, rfl⟩
  refine AL_nil ?_
  refine AC_seq ?_
  refine AC_region ?_
  refine AL_p rfl rfl (S_loadM (cs := [.ptr b 0]) rfl (.tmp rfl) (by repeat (first | exact hw | exact List.mem_cons_self | refine List.mem_cons_of_mem _ ?_)) rfl (by kernel_rfl)) ?_
  refine AL_step rfl rfl (S_call rfl (AEvs.cons (.tmp rfl) AEvs.nil) (ACalls.preQ (pre := [_]) (F := F) (takeContainer_ok b _ _ _))) ?_
  rintro _ _ ⟨_, ⟨rfl, rfl⟩, rfl⟩
  refine AL_step rfl rfl (S_storeW 0 rfl (.tmp rfl) (.tmp rfl) rfl rfl rfl (by kernel_rfl)) ?_
  rintro _ _ ⟨rfl, rfl⟩
  refine AL_nil ?_
  refine AC_ret ?_
  refine ret_cell 0 ([(b, Ob.cells [.S ((ctrRd s c).2.1), .int .i64 ((ctrRd s c).2.2)])] ++ F) rfl rfl rfl (by kernel_rfl) (Sub.l (List.sublist_cons_self _ _)) (Conv.refl (Sub.l (List.sublist_cons_self _ _)) _) ⟨_, ⟨rfl, rfl⟩, rfl⟩ (.inl rfl)

set_option maxRecDepth 100000 in
/-- provost/pack.takeAll[provost/api.Container] -/
theorem takeAllC_ok (b : Nat) (s : List UInt8) (c : Int) (br : Nat) (most : Int) (h0 : 0 ≤ most) (h1 : most ≤ 1000) (F : St) (hw : (br, Ob.cells [.ptr b 0]) ∈ F) : ACalls Tryz.prog 72 [.ptr b 0, .int .i64 most, .fn 70 [.pointer (some ⟨br, 0, none⟩)]] ([(b, Ob.cells [.S (s), .int .i64 (c)])] ++ F) (fun x st' => ∃ foot', (x = .sl ((allR ctrRd most s c).1.map ctrAV) ∧ foot' = [(b, Ob.cells [.S ((allR ctrRd most s c).2.1), .int .i64 ((allR ctrRd most s c).2.2)])]) ∧ st' = foot' ++ F) := by
  refine ACalls_of (N := 23) Tryz.func72 (by kernel_rfl) rfl rfl rfl ?_
  have hn1 := numR_le (s := s) (c := c) (most := most)
  have hn2 := numR_nonneg s c most
  refine AC_seq ?_
  refine AC_region ?_
  refine AL_p rfl rfl (S_assign rfl (AEv.const _)) ?_
  refine AL_nil ?_
  refine AC_seq ?_
  refine AC_region ?_
  refine AL_p rfl rfl (S_assign rfl (AEv.const _)) ?_
  refine AL_nil ?_
  refine AC_seq ?_
  refine AC_seq ?_
  refine AC_region ?_
  refine AL_p rfl rfl (S_move rfl (.tmp rfl)) ?_
  refine AL_p rfl rfl (S_move rfl (.tmp rfl)) ?_
  refine AL_step rfl rfl (S_call rfl (AEvs.cons (.tmp rfl) (AEvs.cons (.tmp rfl) AEvs.nil)) (r_Num_ok b _ _ most ⟨by omega, by omega⟩ F)) ?_
  rintro _ _ ⟨_, ⟨rfl, rfl⟩, rfl⟩
  refine AL_p rfl rfl (S_move rfl (AEv.const _)) ?_
  refine AL_nil ?_
  refine AC_block ?_
  refine AC_loopK (G := Nat × List Ctr × List UInt8 × Int × Own) [(0, _), (2, _), (10, _)] (fun g => TI ctrRd (numR s c most).1.toNat (numR s c most).2.1 (numR s c most).2.2 g.1 g.2.1 g.2.2.1 g.2.2.2.1 ∧ g.2.2.2.2.ok (g.2.1.map ctrAV)) (fun g => [(7, ownAV g.2.2.2.2 11 (g.2.1.map ctrAV)), (11, .int .i64 (g.1 : Int))]) (fun g => (b, .cells [.S g.2.2.1, .int .i64 g.2.2.2.1]) :: (ownSt g.2.2.2.2 79 11 (g.2.1.map ctrAV) ++ F)) (fun g => (numR s c most).1.toNat - g.1) ((0, [], (numR s c most).2.1, (numR s c most).2.2, .nil)) (⟨ti_start _ _ _, rfl⟩) (Sub.l (List.Sublist.refl _)) (.cons rfl (Le.refl _) (.cons rfl (Le.refl _) (.cons rfl (Le.refl _) .nil))) (.cons rfl (by first | exact Le.refl _ | exact Le.nils | exact Le.row _ _ _ _ | exact Le.of_eq (by first | rfl | (simp; done) | (push_cast; rfl) | (simp; omega))) (.cons rfl (by first | exact Le.refl _ | exact Le.nils | exact Le.row _ _ _ _ | exact Le.of_eq (by first | rfl | (simp; done) | (push_cast; rfl) | (simp; omega))) .nil)) ?_
  rintro ⟨i, out, s', c', p⟩ ⟨hI, hq⟩
  try dsimp only
  simp only [List.cons_append, List.nil_append]
  dsimp only at hI hq
  have hI1 := hI.1
  have hI2 := hI.2.1
  refine AC_seq ?_
  refine AC_region ?_
  refine AL_p rfl rfl (S_lss rfl (.tmp rfl) (.tmp rfl)) ?_
  refine AL_nil ?_
  refine AC_seq ?_
  refine AC_cond (.tmp rfl) (fun hb1 => ?_) (fun hb1 => ?_)
  · try simp only [zA, zO, zN, zM, zP, zQ, zD, zF, gd] at hb1
    have hil : i < (numR s c most).1.toNat := by omega
    refine AC_skip ?_
    refine AC_seq ?_
    refine AC_block ?_
    refine AC_seq ?_
    refine AC_region ?_
    refine AL_p rfl rfl (S_move rfl (.tmp rfl)) ?_
    refine AL_p rfl rfl (S_move rfl (.tmp rfl)) ?_
    refine AL_step rfl rfl (S_callF (caps := [.pointer (some ⟨br, 0, none⟩)]) rfl (.tmp rfl) AEvs.nil (takeP1_ok b s' c' br _ (List.mem_append_right _ hw))) ?_
    rintro _ _ ⟨_, ⟨rfl, rfl⟩, rfl⟩
    generalize hr : ctrRd s' c' = r
    refine AL_p rfl rfl (S_buildSlice (e := 79) 11 rfl (AEvs.cons (.tmp rfl) AEvs.nil) rfl (by kernel_rfl) (by kernel_rfl) (by intro y hy; simp only [List.mem_cons, List.not_mem_nil, or_false] at hy; rcases hy with rfl <;> exact ⟨rfl, rfl⟩) (by decide) (by decide) (by decide)) ?_
    refine AL_step rfl rfl (S_appendM (f := ctrAV) (l := out) (l2 := [r.1]) (e := 79) (size := 11) (bytes := 120) (p := p) ([_]) (F) rfl (.tmp rfl) (.tmp rfl) rfl hq (by kernel_rfl) (by simp) (fun _ => ⟨rfl, rfl⟩) (by simp only [List.length_singleton]; omega) (by simp only [List.length_singleton]; omega)) ?_
    rintro _ _ ⟨b8, k8, cap8, hx8, rfl, rfl⟩
    refine AL_p rfl rfl (S_assign rfl (.tmp rfl)) ?_
    refine AL_nil ?_
    refine AC_seq ?_
    refine AC_region ?_
    refine AL_p rfl rfl (S_move rfl (.tmp rfl)) ?_
    refine AL_step rfl rfl (S_call rfl (AEvs.cons (.tmp rfl) AEvs.nil) (r_Code_ok b _ _ _)) ?_
    rintro _ _ ⟨_, ⟨rfl, rfl⟩, rfl⟩
    refine AL_p rfl rfl (S_neq rfl (.tmp rfl) (AEv.const _)) ?_
    refine AL_nil ?_
    refine AC_cond (.tmp rfl) (fun hb4 => ?_) (fun hb4 => ?_)
    · try simp only [zA, zO, zN, zM, zP, zQ, zD, zF, gd] at hb4
      have hx : (allR ctrRd most s c) = ([], r.2.1, r.2.2) := by have h9 := ti_bad hI hil (by rw [hr]; exact hb4); rw [hr] at h9; exact h9
      refine AC_seq ?_
      refine AC_region ?_
      refine AL_p rfl rfl (S_assign rfl (AEv.const _)) ?_
      refine AL_nil ?_
      refine AC_ret ?_
      refine ret_tmp ([(b, Ob.cells [.S (r.2.1), .int .i64 (r.2.2)])] ++ F) rfl rfl (Sub.l (List.Sublist.cons_cons _ (List.sublist_append_right _ _))) (Conv.le (Sub.l (List.Sublist.cons_cons _ (List.sublist_append_right _ _))) Le.nils) ⟨_, ⟨by rw [hx] <;> rfl, by rw [hx] <;> rfl⟩, rfl⟩ (.inl rfl)
    try simp only [zA, zO, zN, zM, zP, zQ, zD, zF, gd] at hb4
    have hc0 : r.2.2 = 0 := by simpa using hb4
    refine AC_skip ?_
    refine AC_region ?_
    refine AL_p rfl rfl (S_addI rfl (.tmp rfl) (AEv.const _) (by omega) (by omega)) ?_
    refine AL_p rfl rfl (S_move rfl (.tmp rfl)) ?_
    refine AL_nil ?_
    exact ⟨(i + 1, out ++ [r.1], r.2.1, r.2.2, .row b8 k8 cap8), ⟨by rw [← hr]; exact ti_next hI hil (by rw [hr]; exact hc0), hx8⟩, by dsimp only; omega, (Sub.l (List.Sublist.refl _)), (.cons rfl (by first | exact Le.refl _ | exact Le.nils | exact Le.row _ _ _ _ | exact Le.of_eq (by first | rfl | (simp; done) | (push_cast; rfl) | (simp; omega))) (.cons rfl (by first | exact Le.refl _ | exact Le.nils | exact Le.row _ _ _ _ | exact Le.of_eq (by first | rfl | (simp; done) | (push_cast; rfl) | (simp; omega))) .nil)), (.cons rfl (Le.refl _) (.cons rfl (Le.refl _) (.cons rfl (Le.refl _) .nil)))⟩
  try simp only [zA, zO, zN, zM, zP, zQ, zD, zF, gd] at hb1
  have hx : (allR ctrRd most s c) = (out, s', c') := ti_end hI (by omega)
  refine AC_exit ?_
  refine AC_seq ?_
  refine AC_region ?_
  refine AL_p rfl rfl (S_move rfl (.tmp rfl)) ?_
  refine AL_p rfl rfl (S_assign rfl (.tmp rfl)) ?_
  refine AL_nil ?_
  refine AC_ret ?_
  refine ret_tmp ([(b, Ob.cells [.S (s'), .int .i64 (c')])] ++ F) rfl rfl (Sub.l (List.Sublist.cons_cons _ (List.sublist_append_right _ _))) (Conv.le (Sub.l (List.Sublist.cons_cons _ (List.sublist_append_right _ _))) (Le_own hq)) ⟨_, ⟨by rw [hx] <;> rfl, by rw [hx] <;> rfl⟩, rfl⟩ (.inl rfl)

set_option maxRecDepth 100000 in
/-- provost/pack.TakeLabels -/
theorem TakeLabels_ok (b : Nat) (s : List UInt8) (c : Int) (F : St) : ACalls Tryz.prog 26 [.ptr b 0] ([(b, Ob.cells [.S (s), .int .i64 (c)])] ++ F) (fun x st' => ∃ foot', (x = .sl (labsV (labsRd s c).1) ∧ foot' = [(b, Ob.cells [.S ((labsRd s c).2.1), .int .i64 ((labsRd s c).2.2)])]) ∧ st' = foot' ++ F) := by
  refine ACalls_of (N := 6) Tryz.func26 (by kernel_rfl) rfl rfl rfl ?_
  refine AC_seq ?_
  refine AC_region ?_
  refine AL_step rfl rfl (S_box1 rfl (.tmp rfl) rfl) ?_
  rintro _ _ ⟨b1, rfl, rfl⟩
  refine AL_p rfl rfl (S_assign rfl (AEv.const _)) ?_
  refine AL_nil ?_
  refine AC_seq ?_
  refine AC_region ?_
  refine AL_p rfl rfl (S_load 0 rfl (.tmp rfl) rfl rfl (by kernel_rfl)) ?_
  refine AL_p rfl rfl (S_makeFunc (caps := [_]) rfl (AEvs.cons (.tmp rfl) AEvs.nil)) ?_
  refine AL_step rfl rfl (S_call rfl (AEvs.cons (.tmp rfl) (AEvs.cons (AEv.const _) (AEvs.cons (.tmp rfl) AEvs.nil))) (ACalls.preQ (pre := [_]) (F := F) (takeAllL_ok b _ _ b1 4 (by decide) (by decide) _ (by repeat (first | exact List.mem_cons_self | refine List.mem_cons_of_mem _ ?_))))) ?_
  rintro _ _ ⟨_, ⟨rfl, rfl⟩, rfl⟩
  refine AL_p rfl rfl (S_assign rfl (.tmp rfl)) ?_
  refine AL_nil ?_
  refine AC_ret ?_
  refine ret_tmp ([(b, Ob.cells [.S ((labsRd s c).2.1), .int .i64 ((labsRd s c).2.2)])] ++ F) rfl rfl (Sub.l (List.sublist_cons_self _ _)) (Conv.refl (Sub.l (List.sublist_cons_self _ _)) _) ⟨_, ⟨rfl, rfl⟩, rfl⟩ (.inl rfl)

set_option maxRecDepth 100000 in
/-- provost/pack.Raw -/
theorem pack_Raw_ok (b : Nat) (s : List UInt8) (c : Int) (F : St) : ACalls Tryz.prog 32 [.ptr b 0] ([(b, Ob.cells [.S (s), .int .i64 (c)])] ++ F) (fun x st' => ∃ foot', (x = spcAV (spcRd s c).1 ∧ foot' = [(b, Ob.cells [.S ((spcRd s c).2.1), .int .i64 ((spcRd s c).2.2)])]) ∧ st' = foot' ++ F) := by
  refine ACalls_of (N := 30) Tryz.func32 (by kernel_rfl) rfl rfl rfl ?_
  refine AC_seq ?_
  refine AC_region ?_
  refine AL_step rfl rfl (S_box1 rfl (.tmp rfl) rfl) ?_
  rintro _ _ ⟨b1, rfl, rfl⟩
  refine AL_step rfl rfl (S_alloc [.string ⟨#[]⟩, .slice none 0 0, .slice none 0 0, .slice none 0 0, .int .i64 0, .int .i64 0, .int .i64 0] rfl (by kernel_rfl)) ?_
  rintro _ _ ⟨b2, rfl, rfl⟩
  refine AL_nil ?_
  refine AC_seq ?_
  refine AC_region ?_
  refine AL_p rfl rfl (S_load 1 rfl (.tmp rfl) rfl rfl (by kernel_rfl)) ?_
  refine AL_step rfl rfl (S_call rfl (AEvs.cons (.tmp rfl) (AEvs.cons (AEv.const _) AEvs.nil)) (ACalls.preQ (pre := [_, _]) (F := F) (r_Text_ok b _ _ 16 (by decide) _))) ?_
  rintro _ _ ⟨_, ⟨rfl, rfl⟩, rfl⟩
  generalize h1 : wtextR s c 16 = r1
  refine AL_p rfl rfl (S_build (t := 25) (pl := [(0, 1), (1, 1), (2, 1), (3, 1), (4, 1), (5, 1), (6, 1)]) (zs := [.string ⟨#[]⟩, .slice none 0 0, .slice none 0 0, .slice none 0 0, .int .i64 0, .int .i64 0, .int .i64 0]) rfl (AEvs.cons (.tmp rfl) AEvs.nil) (by kernel_rfl) rfl) ?_
  refine AL_step rfl rfl (S_alloc [.string ⟨#[]⟩, .slice none 0 0, .slice none 0 0, .slice none 0 0, .int .i64 0, .int .i64 0, .int .i64 0] rfl (by kernel_rfl)) ?_
  rintro _ _ ⟨b3, rfl, rfl⟩
  refine AL_step rfl rfl (S_storeW 0 rfl (.tmp rfl) (.tmp rfl) rfl rfl rfl (by kernel_rfl)) ?_
  rintro _ _ ⟨rfl, rfl⟩
  refine AL_nil ?_
  refine AC_seq ?_
  refine AC_region ?_
  refine AL_p rfl rfl (S_load 2 rfl (.tmp rfl) rfl rfl (by kernel_rfl)) ?_
  refine AL_step rfl rfl (S_call rfl (AEvs.cons (.tmp rfl) AEvs.nil) (ACalls.preQ (pre := [_, _, _]) (F := F) (TakeLabels_ok b _ _ _))) ?_
  rintro _ _ ⟨_, ⟨rfl, rfl⟩, rfl⟩
  generalize h2 : labsRd r1.2.1 r1.2.2 = r2
  refine AL_p rfl rfl (S_field 1 rfl (.tmp rfl) (by kernel_rfl)) ?_
  refine AL_step rfl rfl (S_store 0 rfl (.tmp rfl) (.tmp rfl) rfl (by first | exact Nat.le_of_ble_eq_true rfl | simp) rfl (by kernel_rfl)) ?_
  rintro _ _ ⟨rfl, rfl⟩
  refine AL_nil ?_
  refine AC_seq ?_
  refine AC_region ?_
  refine AL_p rfl rfl (S_makeFunc (caps := [_]) rfl (AEvs.cons (.tmp rfl) AEvs.nil)) ?_
  refine AL_p rfl rfl (S_assign rfl (.tmp rfl)) ?_
  refine AL_nil ?_
  refine AC_seq ?_
  refine AC_region ?_
  refine AL_p rfl rfl (S_load 2 rfl (.tmp rfl) rfl rfl (by kernel_rfl)) ?_
  refine AL_p rfl rfl (S_move rfl (.tmp rfl)) ?_
  refine AL_step rfl rfl (S_call rfl (AEvs.cons (.tmp rfl) (AEvs.cons (AEv.const _) (AEvs.cons (.tmp rfl) AEvs.nil))) (ACalls.preQ (pre := [_, _, _]) (F := F) (takeAllC_ok b _ _ b1 3 (by decide) (by decide) _ (by repeat (first | exact List.mem_cons_self | refine List.mem_cons_of_mem _ ?_))))) ?_
  rintro _ _ ⟨_, ⟨rfl, rfl⟩, rfl⟩
  generalize h3 : allR ctrRd 3 r2.2.1 r2.2.2 = r3
  refine AL_p rfl rfl (S_field 2 rfl (.tmp rfl) (by kernel_rfl)) ?_
  refine AL_step rfl rfl (S_store 0 rfl (.tmp rfl) (.tmp rfl) rfl (by first | exact Nat.le_of_ble_eq_true rfl | simp) rfl (by kernel_rfl)) ?_
  rintro _ _ ⟨rfl, rfl⟩
  refine AL_nil ?_
  refine AC_seq ?_
  refine AC_region ?_
  refine AL_p rfl rfl (S_load 2 rfl (.tmp rfl) rfl rfl (by kernel_rfl)) ?_
  refine AL_p rfl rfl (S_move rfl (.tmp rfl)) ?_
  refine AL_step rfl rfl (S_call rfl (AEvs.cons (.tmp rfl) (AEvs.cons (AEv.const _) (AEvs.cons (.tmp rfl) AEvs.nil))) (ACalls.preQ (pre := [_, _, _]) (F := F) (takeAllC_ok b _ _ b1 4 (by decide) (by decide) _ (by repeat (first | exact List.mem_cons_self | refine List.mem_cons_of_mem _ ?_))))) ?_
  rintro _ _ ⟨_, ⟨rfl, rfl⟩, rfl⟩
  generalize h4 : allR ctrRd 4 r3.2.1 r3.2.2 = r4
  refine AL_p rfl rfl (S_field 3 rfl (.tmp rfl) (by kernel_rfl)) ?_
  refine AL_step rfl rfl (S_store 0 rfl (.tmp rfl) (.tmp rfl) rfl (by first | exact Nat.le_of_ble_eq_true rfl | simp) rfl (by kernel_rfl)) ?_
  rintro _ _ ⟨rfl, rfl⟩
  refine AL_nil ?_
  refine AC_seq ?_
  refine AC_region ?_
  refine AL_p rfl rfl (S_load 2 rfl (.tmp rfl) rfl rfl (by kernel_rfl)) ?_
  refine AL_step rfl rfl (S_call rfl (AEvs.cons (.tmp rfl) (AEvs.cons (AEv.const _) AEvs.nil)) (ACalls.preQ (pre := [_, _, _]) (F := F) (r_Num_ok b _ _ 3 (by decide) _))) ?_
  rintro _ _ ⟨_, ⟨rfl, rfl⟩, rfl⟩
  generalize h5 : numR r4.2.1 r4.2.2 3 = r5
  refine AL_p rfl rfl (S_field 4 rfl (.tmp rfl) (by kernel_rfl)) ?_
  refine AL_step rfl rfl (S_store 0 rfl (.tmp rfl) (.tmp rfl) rfl (by first | exact Nat.le_of_ble_eq_true rfl | simp) rfl (by kernel_rfl)) ?_
  rintro _ _ ⟨rfl, rfl⟩
  refine AL_nil ?_
  refine AC_seq ?_
  refine AC_region ?_
  refine AL_p rfl rfl (S_load 2 rfl (.tmp rfl) rfl rfl (by kernel_rfl)) ?_
  refine AL_step rfl rfl (S_call rfl (AEvs.cons (.tmp rfl) (AEvs.cons (AEv.const _) AEvs.nil)) (ACalls.preQ (pre := [_, _, _]) (F := F) (r_Num_ok b _ _ 1000 (by decide) _))) ?_
  rintro _ _ ⟨_, ⟨rfl, rfl⟩, rfl⟩
  generalize h6 : numR r5.2.1 r5.2.2 1000 = r6
  refine AL_p rfl rfl (S_field 5 rfl (.tmp rfl) (by kernel_rfl)) ?_
  refine AL_step rfl rfl (S_store 0 rfl (.tmp rfl) (.tmp rfl) rfl (by first | exact Nat.le_of_ble_eq_true rfl | simp) rfl (by kernel_rfl)) ?_
  rintro _ _ ⟨rfl, rfl⟩
  refine AL_nil ?_
  refine AC_seq ?_
  refine AC_region ?_
  refine AL_p rfl rfl (S_load 2 rfl (.tmp rfl) rfl rfl (by kernel_rfl)) ?_
  refine AL_step rfl rfl (S_call rfl (AEvs.cons (.tmp rfl) (AEvs.cons (AEv.const _) AEvs.nil)) (ACalls.preQ (pre := [_, _, _]) (F := F) (r_Num_ok b _ _ 10 (by decide) _))) ?_
  rintro _ _ ⟨_, ⟨rfl, rfl⟩, rfl⟩
  generalize h7 : numR r6.2.1 r6.2.2 10 = r7
  refine AL_p rfl rfl (S_field 6 rfl (.tmp rfl) (by kernel_rfl)) ?_
  refine AL_step rfl rfl (S_store 0 rfl (.tmp rfl) (.tmp rfl) rfl (by first | exact Nat.le_of_ble_eq_true rfl | simp) rfl (by kernel_rfl)) ?_
  rintro _ _ ⟨rfl, rfl⟩
  refine AL_nil ?_
  refine AC_seq ?_
  refine AC_region ?_
  refine AL_p rfl rfl (S_loadN (m := 7) 0 rfl (.tmp rfl) rfl (by kernel_rfl) (by first | exact Nat.le_of_ble_eq_true rfl | (simp; omega) | simp)) ?_
  refine AL_step rfl rfl (S_storeW 1 rfl (.tmp rfl) (.tmp rfl) rfl rfl rfl (by kernel_rfl)) ?_
  rintro _ _ ⟨rfl, rfl⟩
  refine AL_nil ?_
  refine AC_ret ?_
  refine ret_cell 1 ([(b, Ob.cells [.S (r7.2.1), .int .i64 (r7.2.2)])] ++ F) rfl rfl rfl (by kernel_rfl) (Sub.l (((List.sublist_cons_self _ _).trans (List.sublist_cons_self _ _)).trans (List.sublist_cons_self _ _))) (Conv.refl (Sub.l (((List.sublist_cons_self _ _).trans (List.sublist_cons_self _ _)).trans (List.sublist_cons_self _ _))) _) ⟨_, ⟨by subst h7 h6 h5 h4 h3 h2 h1; rfl, by subst h7 h6 h5 h4 h3 h2 h1; rfl⟩, rfl⟩ (.inl rfl)

theorem r_FailN (b : Nat) (s : List UInt8) (c d : Int) (F : St) : ACalls Tryz.prog 40 [.ptr b 1, .int .i64 d] ([(b, Ob.cells [.S (s), .int .i64 (c)])] ++ F) (fun x st' => ∃ foot', (x = .tup [] ∧ foot' = [(b, Ob.cells [.S (s), .int .i64 (failC c d)])]) ∧ st' = foot' ++ F) := (sticks_Fail_ok b 1 [_, .int .i64 c] c d rfl _).mono fun x st' ⟨h1, h2⟩ => ⟨_, ⟨h1, rfl⟩, h2⟩

set_option maxRecDepth 100000 in
/-- provost/pack.Take -/
theorem pack_Take_ok (b : Nat) (s : List UInt8) (c : Int) (F : St) (hG : ∀ r, r ∈ Gs tabs → r ∈ F) : ACalls Tryz.prog 35 [.ptr b 0] ([(b, Ob.cells [.S (s), .int .i64 (c)])] ++ F) (fun x st' => ∃ foot', (x = spcAV (takeS s c) ∧ foot' = [(b, Ob.cells [.S ((spcRd s c).2.1), .int .i64 (takeC s c)])]) ∧ st' = foot' ++ F) := by
  refine ACalls_of (N := 21) Tryz.func35 (by kernel_rfl) rfl rfl rfl ?_
  refine AC_seq ?_
  refine AC_region ?_
  refine AL_step rfl rfl (S_alloc [.string ⟨#[]⟩, .slice none 0 0, .slice none 0 0, .slice none 0 0, .int .i64 0, .int .i64 0, .int .i64 0] rfl (by kernel_rfl)) ?_
  rintro _ _ ⟨b2, rfl, rfl⟩
  refine AL_nil ?_
  refine AC_seq ?_
  refine AC_region ?_
  refine AL_p rfl rfl (S_move rfl (.tmp rfl)) ?_
  refine AL_step rfl rfl (S_call rfl (AEvs.cons (.tmp rfl) AEvs.nil) (ACalls.preQ (pre := [_]) (F := F) (pack_Raw_ok b _ _ _))) ?_
  rintro _ _ ⟨_, ⟨rfl, rfl⟩, rfl⟩
  refine AL_step rfl rfl (S_alloc [.string ⟨#[]⟩, .slice none 0 0, .slice none 0 0, .slice none 0 0, .int .i64 0, .int .i64 0, .int .i64 0] rfl (by kernel_rfl)) ?_
  rintro _ _ ⟨b3, rfl, rfl⟩
  refine AL_step rfl rfl (S_storeW 0 rfl (.tmp rfl) (.tmp rfl) rfl rfl rfl (by kernel_rfl)) ?_
  rintro _ _ ⟨rfl, rfl⟩
  refine AL_nil ?_
  refine AC_joinK (G := Unit) [(0, _), (2, _), (3, _)] (fun _ => True) (fun _ => []) (fun _ => (b3, .cells (spcL (spcRd s c).1)) :: (b2, .cells [.S [], .nils, .nils, .nils, .int .i64 0, .int .i64 0, .int .i64 0]) :: ([(b, Ob.cells [.S ((spcRd s c).2.1), .int .i64 (takeC s c)])] ++ F)) (.cons rfl (Le.refl _) (.cons rfl (Le.refl _) (.cons rfl (Le.refl _) .nil))) ?_ ?_
  · refine AC_seq ?_
    refine AC_region ?_
    refine AL_p rfl rfl (S_move rfl (.tmp rfl)) ?_
    refine AL_step rfl rfl (S_call rfl (AEvs.cons (.tmp rfl) AEvs.nil) (ACalls.preQ (pre := [_, _]) (F := F) (r_Code_ok b _ _ _))) ?_
    rintro _ _ ⟨_, ⟨rfl, rfl⟩, rfl⟩
    refine AL_p rfl rfl (S_eql rfl (.tmp rfl) (AEv.const _)) ?_
    refine AL_nil ?_
    refine AC_cond (.tmp rfl) (fun hb3 => ?_) (fun hb3 => ?_)
    · try simp only [zA, zO, zN, zM, zP, zQ, zD, zF, gd] at hb3
      have hc : (spcRd s c).2.2 = 0 := hb3
      refine AC_plan (σ := [(0, 0), (1, 0), (2, 0), (3, 0), (4, 0), (5, 0), (6, 2)]) (by kernel_rfl) ((b3, Ob.cells (spcL (spcRd s c).1)) :: Gs tabs) (by kernel_rfl) (fun r hr => by
        rcases List.mem_cons.1 hr with rfl | hr
        · exact List.mem_cons_self
        · repeat (first | exact hG r hr | refine List.mem_cons_of_mem _ ?_ | refine List.mem_append_right _ ?_)) ?_
      refine AG.f rfl rfl (fun st' hst => Q_p rfl (S_move rfl (.tmp rfl))) ?_
      refine AG.f rfl rfl (fun st' hst => Q_p rfl (S_nilCheck rfl (.tmp rfl))) ?_
      refine AG.f rfl rfl (fun st' hst => Q_p rfl (S_field 1 rfl (.tmp rfl) (by kernel_rfl))) ?_
      refine AG.f rfl rfl (fun st' hst => Q_p rfl (S_loadNM (m := 7) rfl (.tmp rfl) (hst _ (List.mem_of_getElem? (i := 0) rfl)) (by kernel_rfl) (by first | exact Nat.le_of_ble_eq_true rfl | (simp; omega) | simp))) ?_
      refine AG.f rfl rfl (fun st' hst => Q_p rfl (S_gcall rfl (AEvs.cons (.tmp rfl) AEvs.nil) ((spec_Check_ok (spcRd s c).1 (spcRd_light s c)) _ (fun p hp => by first | exact hst p (List.mem_cons_of_mem _ hp) | (repeat (first | exact hG p hp | refine List.mem_cons_of_mem _ ?_ | refine List.mem_append_right _ ?_)))))) ?_
      refine AG.f rfl rfl (fun st' hst => Q_p rfl (S_gcall rfl (AEvs.cons (.tmp rfl) AEvs.nil) ((fail_Code_ok (checkE (spcRd s c).1)) _ (fun p hp => by first | exact hst p (List.mem_cons_of_mem _ hp) | (repeat (first | exact hG p hp | refine List.mem_cons_of_mem _ ?_ | refine List.mem_append_right _ ?_)))))) ?_
      refine AG.h rfl rfl rfl (S_call rfl (AEvs.cons (.tmp rfl) (AEvs.cons (.tmp rfl) AEvs.nil)) (ACalls.preQ (pre := [_, _]) (F := F) (r_FailN b _ _ (erCode (checkE (spcRd s c).1)) _))) ?_
      rintro _ _ ⟨_, ⟨rfl, rfl⟩, rfl⟩
      refine AG.nil ?_
      exact ⟨(), trivial, by rw [show takeC s c = failC (spcRd s c).2.2 (erCode (checkE (spcRd s c).1)) by unfold takeC failC; simp only [if_pos hc]]; exact (Sub.l (List.Sublist.refl _)), .nil, (.cons rfl (Le.refl _) (.cons rfl (Le.refl _) (.cons rfl (Le.refl _) .nil)))⟩
    try simp only [zA, zO, zN, zM, zP, zQ, zD, zF, gd] at hb3
    have hc : ¬ (spcRd s c).2.2 = 0 := hb3
    refine AC_skip ?_
    exact ⟨(), trivial, by rw [show takeC s c = (spcRd s c).2.2 by unfold takeC; rw [if_neg hc]]; exact (Sub.l (List.Sublist.refl _)), .nil, (.cons rfl (Le.refl _) (.cons rfl (Le.refl _) (.cons rfl (Le.refl _) .nil)))⟩
  rintro _ _
  try dsimp only
  simp only [List.cons_append, List.nil_append]
  refine AC_seq ?_
  refine AC_seq ?_
  refine AC_region ?_
  refine AL_p rfl rfl (S_move rfl (.tmp rfl)) ?_
  refine AL_step rfl rfl (S_call rfl (AEvs.cons (.tmp rfl) AEvs.nil) (ACalls.preQ (pre := [_, _]) (F := F) (r_Code_ok b _ _ _))) ?_
  rintro _ _ ⟨_, ⟨rfl, rfl⟩, rfl⟩
  refine AL_p rfl rfl (S_neq rfl (.tmp rfl) (AEv.const _)) ?_
  refine AL_nil ?_
  refine AC_cond (.tmp rfl) (fun hb4 => ?_) (fun hb4 => ?_)
  · try simp only [zA, zO, zN, zM, zP, zQ, zD, zF, gd] at hb4
    have hx : takeS s c = spc0 := by unfold takeS; rw [if_neg hb4]
    refine AC_seq ?_
    refine AC_region ?_
    refine AL_p rfl rfl (S_build (t := 25) (pl := [(0, 1), (1, 1), (2, 1), (3, 1), (4, 1), (5, 1), (6, 1)]) (zs := [.string ⟨#[]⟩, .slice none 0 0, .slice none 0 0, .slice none 0 0, .int .i64 0, .int .i64 0, .int .i64 0]) rfl AEvs.nil (by kernel_rfl) rfl) ?_
    refine AL_step rfl rfl (S_storeW 1 rfl (.tmp rfl) (.tmp rfl) rfl rfl rfl (by kernel_rfl)) ?_
    rintro _ _ ⟨rfl, rfl⟩
    refine AL_nil ?_
    refine AC_ret ?_
    refine ret_cell 1 ([(b, Ob.cells [.S ((spcRd s c).2.1), .int .i64 (takeC s c)])] ++ F) rfl rfl rfl (by kernel_rfl) (Sub.l ((List.sublist_cons_self _ _).trans (List.sublist_cons_self _ _))) (Conv.le (Sub.l ((List.sublist_cons_self _ _).trans (List.sublist_cons_self _ _))) (Les.agg (.cons (Le.refl _) (.cons Le.nils (.cons Le.nils (.cons Le.nils (.cons (Le.refl _) (.cons (Le.refl _) (.cons (Le.refl _) .nil))))))))) ⟨_, ⟨by rw [hx] <;> rfl, rfl⟩, rfl⟩ (.inl rfl)
  try simp only [zA, zO, zN, zM, zP, zQ, zD, zF, gd] at hb4
  have hx : takeS s c = (spcRd s c).1 := by unfold takeS; rw [if_pos (by simpa using hb4)]
  refine AC_skip ?_
  refine AC_seq ?_
  refine AC_region ?_
  refine AL_p rfl rfl (S_loadN (m := 7) 0 rfl (.tmp rfl) rfl (by kernel_rfl) (by first | exact Nat.le_of_ble_eq_true rfl | (simp; omega) | simp)) ?_
  refine AL_step rfl rfl (S_storeW 1 rfl (.tmp rfl) (.tmp rfl) rfl rfl rfl (by kernel_rfl)) ?_
  rintro _ _ ⟨rfl, rfl⟩
  refine AL_nil ?_
  refine AC_ret ?_
  refine ret_cell 1 ([(b, Ob.cells [.S ((spcRd s c).2.1), .int .i64 (takeC s c)])] ++ F) rfl rfl rfl (by kernel_rfl) (Sub.l ((List.sublist_cons_self _ _).trans (List.sublist_cons_self _ _))) (Conv.refl (Sub.l ((List.sublist_cons_self _ _).trans (List.sublist_cons_self _ _))) _) ⟨_, ⟨by rw [hx] <;> rfl, rfl⟩, rfl⟩ (.inl rfl)

set_option maxRecDepth 100000 in
/-- provost/pack.Of -/
theorem pack_Of_ok (s : List UInt8) : GCalls Tryz.prog tabs 19 [.S s] (.tup [spcAV (ofS s), erV 28 167 (ofE s)]) := by
  intro st hG
  refine ACalls_of (N := 24) Tryz.func19 (by kernel_rfl) rfl rfl rfl ?_
  refine AC_seq ?_
  refine AC_region ?_
  refine AL_step rfl rfl (S_alloc [.string ⟨#[]⟩, .slice none 0 0, .slice none 0 0, .slice none 0 0, .int .i64 0, .int .i64 0, .int .i64 0] rfl (by kernel_rfl)) ?_
  rintro _ _ ⟨b2, rfl, rfl⟩
  refine AL_p rfl rfl (S_assign rfl (AEv.const _)) ?_
  refine AL_nil ?_
  refine AC_seq ?_
  refine AC_region ?_
  refine AL_p rfl rfl (S_move rfl (.tmp rfl)) ?_
  refine AL_step rfl rfl (S_call rfl (AEvs.cons (.tmp rfl) AEvs.nil) (wire_Read_ok s _)) ?_
  rintro _ _ ⟨_, ⟨b4, rfl, rfl⟩, rfl⟩
  refine AL_p rfl rfl (S_assign rfl (.tmp rfl)) ?_
  refine AL_nil ?_
  refine AC_seq ?_
  refine AC_region ?_
  refine AL_p rfl rfl (S_move rfl (.tmp rfl)) ?_
  refine AL_step rfl rfl (S_call rfl (AEvs.cons (.tmp rfl) AEvs.nil) (pack_Raw_ok b4 s 0 _)) ?_
  rintro _ _ ⟨_, ⟨rfl, rfl⟩, rfl⟩
  refine AL_step rfl rfl (S_alloc [.string ⟨#[]⟩, .slice none 0 0, .slice none 0 0, .slice none 0 0, .int .i64 0, .int .i64 0, .int .i64 0] rfl (by kernel_rfl)) ?_
  rintro _ _ ⟨b5, rfl, rfl⟩
  refine AL_step rfl rfl (S_storeW 0 rfl (.tmp rfl) (.tmp rfl) rfl rfl rfl (by kernel_rfl)) ?_
  rintro _ _ ⟨rfl, rfl⟩
  refine AL_nil ?_
  refine AC_seq ?_
  refine AC_seq ?_
  refine AC_plan (σ := [(0, 0), (2, 0), (4, 0), (1, 1), (3, 0), (5, 0), (6, 0), (7, 0), (8, 0)]) (by kernel_rfl) ((b5, Ob.cells (spcL (spcRd s 0).1)) :: Gs tabs) (by kernel_rfl) (fun r hr => by
    rcases List.mem_cons.1 hr with rfl | hr
    · exact List.mem_cons_self
    · repeat (first | exact hG r hr | refine List.mem_cons_of_mem _ ?_ | refine List.mem_append_right _ ?_)) ?_
  refine AG.f rfl rfl (fun st' hst => Q_p rfl (S_move rfl (.tmp rfl))) ?_
  refine AG.f rfl rfl (fun st' hst => Q_p rfl (S_buildSlice (e := 9) 1 rfl (AEvs.cons (AEv.S _) AEvs.nil) rfl (by kernel_rfl) (by kernel_rfl) (by intro y hy; simp only [List.mem_cons, List.not_mem_nil, or_false] at hy; rcases hy with rfl <;> exact ⟨rfl, rfl⟩) (by decide) (by decide) (by decide))) ?_
  refine AG.f rfl rfl (fun st' hst => Q_p rfl (S_loadNM (m := 7) rfl (.tmp rfl) (hst _ (List.mem_of_getElem? (i := 0) rfl)) (by kernel_rfl) (by first | exact Nat.le_of_ble_eq_true rfl | (simp; omega) | simp))) ?_
  refine AG.s rfl rfl rfl (S_call rfl (AEvs.cons (.tmp rfl) AEvs.nil) (ACalls.preQ (pre := [_]) (F := _ :: st) (r_End_ok b4 _ _ _))) ?_ ?_
  · rintro _ _ ⟨_, ⟨rfl, rfl⟩, rfl⟩ r hr; rcases List.mem_cons.1 hr with rfl | hr <;> repeat (first | exact List.mem_cons_self | exact hG r hr | refine List.mem_cons_of_mem _ ?_ | refine List.mem_append_right _ ?_)
  rintro _ _ ⟨_, ⟨rfl, rfl⟩, rfl⟩
  refine AG.f rfl rfl (fun st' hst => Q_p rfl (S_pcall rfl (AEvs.cons (.tmp rfl) (AEvs.cons (.tmp rfl) AEvs.nil)) (fail_New_ok (endR (spcRd s 0).2.1 (spcRd s 0).2.2) [wireN] (by simp)))) ?_
  refine AG.f rfl rfl (fun st' hst => Q_p rfl (S_gcall rfl (AEvs.cons (.tmp rfl) AEvs.nil) ((spec_Check_ok (spcRd s 0).1 (spcRd_light s 0)) _ (fun p hp => by first | exact hst p (List.mem_cons_of_mem _ hp) | (repeat (first | exact hG p hp | refine List.mem_cons_of_mem _ ?_ | refine List.mem_append_right _ ?_)))))) ?_
  refine AG.f rfl rfl (fun st' hst => Q_p rfl (S_buildSlice (e := 41) 1 rfl (AEvs.cons (.tmp rfl) (AEvs.cons (.tmp rfl) AEvs.nil)) rfl (by kernel_rfl) (by kernel_rfl) (by intro y hy; simp only [List.mem_cons, List.not_mem_nil, or_false] at hy; rcases hy with rfl | rfl <;> exact ⟨er_flat _ _ _, by rw [er_cells]; rfl⟩) (by decide) (by decide) (by decide))) ?_
  refine AG.f rfl rfl (fun st' hst => Q_p rfl (S_pcall rfl (AEvs.cons (.tmp rfl) AEvs.nil) (fail_First_ok [(erNew (endR (spcRd s 0).2.1 (spcRd s 0).2.2) [wireN]), (checkE (spcRd s 0).1)] (by simp)))) ?_
  refine AG.f rfl rfl (fun st' hst => Q_p rfl (S_assign rfl (.tmp rfl))) ?_
  refine AG.nil ?_
  refine AC_seq ?_
  refine AC_region ?_
  refine AL_p rfl rfl (S_move rfl (.tmp rfl)) ?_
  refine AL_p rfl rfl (S_neqE (er_is 28 167 (ofE s)) rfl (.tmp rfl) (by kernel_rfl)) ?_
  refine AL_nil ?_
  refine AC_cond (.tmp rfl) (fun hb3 => ?_) (fun hb3 => ?_)
  · try simp only [zA, zO, zN, zM, zP, zQ, zD, zF, gd] at hb3
    have hx : ofS s = spc0 := of_some fun h => by rw [h] at hb3; simp at hb3
    refine AC_seq ?_
    refine AC_region ?_
    refine AL_p rfl rfl (S_build (t := 25) (pl := [(0, 1), (1, 1), (2, 1), (3, 1), (4, 1), (5, 1), (6, 1)]) (zs := [.string ⟨#[]⟩, .slice none 0 0, .slice none 0 0, .slice none 0 0, .int .i64 0, .int .i64 0, .int .i64 0]) rfl AEvs.nil (by kernel_rfl) rfl) ?_
    refine AL_p rfl rfl (S_move rfl (.tmp rfl)) ?_
    refine AL_step rfl rfl (S_storeW 2 rfl (.tmp rfl) (.tmp rfl) rfl rfl rfl (by kernel_rfl)) ?_
    rintro _ _ ⟨rfl, rfl⟩
    refine AL_p rfl rfl (S_assign rfl (.tmp rfl)) ?_
    refine AL_nil ?_
    refine AC_ret ?_
    refine ret_outs st rfl (by decide) (OutsR.row 2 rfl rfl (by kernel_rfl) (OutsR.tmp rfl OutsR.nil)) (Sub.l (((List.sublist_cons_self _ _).trans (List.sublist_cons_self _ _)).trans (List.sublist_cons_self _ _))) (Conv.le (Sub.l (((List.sublist_cons_self _ _).trans (List.sublist_cons_self _ _)).trans (List.sublist_cons_self _ _))) (Les.tup (.cons (Les.agg (.cons (Le.refl _) (.cons Le.nils (.cons Le.nils (.cons Le.nils (.cons (Le.refl _) (.cons (Le.refl _) (.cons (Le.refl _) .nil)))))))) (.cons (Le.refl _) .nil)))) ⟨by rw [hx] <;> rfl, rfl⟩ (.inl rfl)
  try simp only [zA, zO, zN, zM, zP, zQ, zD, zF, gd] at hb3
  have hk : ofE s = none := by simpa using hb3
  have hx := (of_none hk).1
  refine AC_skip ?_
  refine AC_seq ?_
  refine AC_region ?_
  refine AL_p rfl rfl (S_loadN (m := 7) 0 rfl (.tmp rfl) rfl (by kernel_rfl) (by first | exact Nat.le_of_ble_eq_true rfl | (simp; omega) | simp)) ?_
  refine AL_step rfl rfl (S_storeW 2 rfl (.tmp rfl) (.tmp rfl) rfl rfl rfl (by kernel_rfl)) ?_
  rintro _ _ ⟨rfl, rfl⟩
  refine AL_p rfl rfl (S_assign rfl (AEv.const _)) ?_
  refine AL_nil ?_
  refine AC_ret ?_
  refine ret_outs st rfl (by decide) (OutsR.row 2 rfl rfl (by kernel_rfl) (OutsR.tmp rfl OutsR.nil)) (Sub.l (((List.sublist_cons_self _ _).trans (List.sublist_cons_self _ _)).trans (List.sublist_cons_self _ _))) (Conv.refl (Sub.l (((List.sublist_cons_self _ _).trans (List.sublist_cons_self _ _)).trans (List.sublist_cons_self _ _))) _) ⟨by rw [hx, hk] <;> rfl, rfl⟩ (.inl rfl)

end Go.Proofs.YtfmiciodcimkeaaGreatDoor

/-
The walks of Go functions in the logic AL: what each of them answers.
Conditions: those of each theorem.
-/
set_option linter.unusedVariables false
set_option linter.unusedSimpArgs false
namespace Go.Proofs.YtfmiciodcimkeaaGreatDoor
open Go.AL Go.NumSpec

set_option maxRecDepth 100000 in
/-- provost/provostlaw07.works -/
theorem law07_works_ok : GCalls Tryz.prog tabs 10 [] (.bool true) := by
  intro st hG
  refine ACalls_of (N := 46) Tryz.func10 (by kernel_rfl) rfl rfl rfl ?_
  refine AC_seq ?_
  refine AC_region ?_
  refine AL_p rfl rfl (S_assign rfl (AEv.const _)) ?_
  refine AL_nil ?_
  refine AC_seq ?_
  refine AC_region ?_
  refine AL_p rfl rfl (S_build (t := 79) (pl := [(0, 1), (1, 1), (2, 3), (5, 3), (8, 1), (9, 2)]) (zs := [.string ⟨#[]⟩, .string ⟨#[]⟩, .int .i64 0, .int .i64 0, .int .i64 0, .int .i64 0, .int .i64 0, .int .i64 0, .slice none 0 0, .int .i64 0, .int .i64 0]) rfl (AEvs.cons (AEv.S _) (AEvs.cons (AEv.S _) AEvs.nil)) (by kernel_rfl) rfl) ?_
  refine AL_p rfl rfl (S_buildSlice (e := 79) 11 rfl (AEvs.cons (y := ctrAV wC) ((AEv.tmp rfl).le (by exact (Les.agg (.cons (Le.refl _) (.cons (Le.refl _) (.cons (Le.refl _) (.cons (Le.refl _) (.cons (Le.refl _) (.cons (Le.refl _) (.cons (Le.refl _) (.cons (Le.refl _) (.cons Le.nils (.cons (Le.refl _) (.cons (Le.refl _) .nil)))))))))))))) AEvs.nil) rfl (by kernel_rfl) (by kernel_rfl) (by intro y hy; simp only [List.mem_cons, List.not_mem_nil, or_false] at hy; rcases hy with rfl <;> exact ⟨rfl, rfl⟩) (by decide) (by decide) (by decide)) ?_
  refine AL_p rfl rfl (S_build (t := 25) (pl := [(0, 1), (1, 1), (2, 1), (3, 1), (4, 1), (5, 1), (6, 1)]) (zs := [.string ⟨#[]⟩, .slice none 0 0, .slice none 0 0, .slice none 0 0, .int .i64 0, .int .i64 0, .int .i64 0]) rfl (AEvs.cons (AEv.S _) (AEvs.cons (.tmp rfl) (AEvs.cons (AEv.const _) AEvs.nil))) (by kernel_rfl) rfl) ?_
  refine AL_step rfl rfl (S_alloc [.string ⟨#[]⟩, .slice none 0 0, .slice none 0 0, .slice none 0 0, .int .i64 0, .int .i64 0, .int .i64 0] rfl (by kernel_rfl)) ?_
  rintro _ _ ⟨b1, rfl, rfl⟩
  refine AL_step rfl rfl (S_storeW 0 rfl (.tmp rfl) (.tmp rfl) rfl rfl rfl (by kernel_rfl)) ?_
  rintro _ _ ⟨rfl, rfl⟩
  refine AL_nil ?_
  refine AC_seq ?_
  refine AC_region ?_
  refine AL_p rfl rfl (S_gcall rfl (AEvs.cons (AEv.S _) AEvs.nil) ((GCalls.of_eq (pack_Of_ok []) (congrArg (fun x : Spc × Er => AV.tup [spcAV x.1, erV 28 167 x.2]) (show (ofS [], ofE []) = _ from (by rw [of_some (by rw [of_nil]; simp), of_nil] : (ofS [], ofE []) = (spc0, (some (40, [wireN]))))))) _ (fun p hp => by repeat (first | exact hG p hp | refine List.mem_cons_of_mem _ ?_ | refine List.mem_append_right _ ?_)))) ?_
  refine AL_p rfl rfl (S_move rfl (.tmp rfl)) ?_
  refine AL_p rfl rfl (S_extract 0 rfl (.tmp rfl) rfl) ?_
  refine AL_p rfl rfl (S_extract 1 rfl (.tmp rfl) rfl) ?_
  refine AL_step rfl rfl (S_alloc [.string ⟨#[]⟩, .slice none 0 0, .slice none 0 0, .slice none 0 0, .int .i64 0, .int .i64 0, .int .i64 0] rfl (by kernel_rfl)) ?_
  rintro _ _ ⟨b2, rfl, rfl⟩
  refine AL_step rfl rfl (S_storeW 0 rfl (.tmp rfl) (.tmp rfl) rfl rfl rfl (by kernel_rfl)) ?_
  rintro _ _ ⟨rfl, rfl⟩
  refine AL_p rfl rfl (S_assign rfl (.tmp rfl)) ?_
  refine AL_nil ?_
  refine AC_seq ?_
  refine AC_region ?_
  refine AL_p rfl rfl (S_loadN (m := 7) 1 rfl (.tmp rfl) rfl (by kernel_rfl) (by first | exact Nat.le_of_ble_eq_true rfl | (simp; omega) | simp)) ?_
  refine AL_p rfl rfl (S_gcall rfl (AEvs.cons (y := spcAV wS) ((AEv.tmp rfl).le (by exact (Les.agg (.cons (Le.refl _) (.cons Le.nils (.cons Le.nils (.cons (Le.refl _) (.cons (Le.refl _) (.cons (Le.refl _) (.cons (Le.refl _) .nil)))))))))) AEvs.nil) ((GCalls.of_eq (pack_Bytes_ok wS wS_light) (bytes_eq wS_check)) _ (fun p hp => by repeat (first | exact hG p hp | refine List.mem_cons_of_mem _ ?_ | refine List.mem_append_right _ ?_)))) ?_
  refine AL_p rfl rfl (S_move rfl (.tmp rfl)) ?_
  refine AL_p rfl rfl (S_extract 0 rfl (.tmp rfl) rfl) ?_
  refine AL_p rfl rfl (S_extract 1 rfl (.tmp rfl) rfl) ?_
  refine AL_p rfl rfl (S_assign rfl (.tmp rfl)) ?_
  refine AL_p rfl rfl (S_assign rfl (.tmp rfl)) ?_
  refine AL_nil ?_
  refine AC_seq ?_
  refine AC_region ?_
  refine AL_p rfl rfl (S_move rfl (.tmp rfl)) ?_
  refine AL_p rfl rfl (S_gcall rfl (AEvs.cons (.tmp rfl) AEvs.nil) ((GCalls.of_eq (pack_Of_ok (spcB wS)) (congrArg (fun x : Spc × Er => AV.tup [spcAV x.1, erV 28 167 x.2]) (show (ofS (spcB wS), ofE (spcB wS)) = _ from (by rw [(of_bytes wS_check).1, (of_bytes wS_check).2] : (ofS (spcB wS), ofE (spcB wS)) = (wS, none))))) _ (fun p hp => by repeat (first | exact hG p hp | refine List.mem_cons_of_mem _ ?_ | refine List.mem_append_right _ ?_)))) ?_
  refine AL_p rfl rfl (S_move rfl (.tmp rfl)) ?_
  refine AL_p rfl rfl (S_extract 0 rfl (.tmp rfl) rfl) ?_
  refine AL_p rfl rfl (S_extract 1 rfl (.tmp rfl) rfl) ?_
  refine AL_step rfl rfl (S_alloc [.string ⟨#[]⟩, .slice none 0 0, .slice none 0 0, .slice none 0 0, .int .i64 0, .int .i64 0, .int .i64 0] rfl (by kernel_rfl)) ?_
  rintro _ _ ⟨b6, rfl, rfl⟩
  refine AL_step rfl rfl (S_storeW 0 rfl (.tmp rfl) (.tmp rfl) rfl rfl rfl (by kernel_rfl)) ?_
  rintro _ _ ⟨rfl, rfl⟩
  refine AL_p rfl rfl (S_assign rfl (.tmp rfl)) ?_
  refine AL_nil ?_
  refine AC_seq ?_
  refine AC_region ?_
  refine AL_p rfl rfl (S_move rfl (.tmp rfl)) ?_
  refine AL_p rfl rfl (S_gcall rfl (AEvs.cons (.tmp rfl) AEvs.nil) ((fail_Code_ok (some (40, [wireN]))) _ (fun p hp => by repeat (first | exact hG p hp | refine List.mem_cons_of_mem _ ?_ | refine List.mem_append_right _ ?_)))) ?_
  refine AL_p rfl rfl (S_eql rfl (.tmp rfl) (AEv.const _)) ?_
  refine AL_p rfl rfl (S_move rfl (.tmp rfl)) ?_
  refine AL_g rfl rfl (.tmp rfl) rfl (fun hg4 => S_move rfl (.tmp rfl)) ?_
  refine AL_g rfl rfl (.tmp rfl) rfl (fun hg7 => S_gcall rfl (AEvs.cons (AEv.cond (.tmp rfl) (by first | assumption | exact gdAnd (by assumption) (by assumption))) AEvs.nil) ((fail_Text_ok (some (40, [wireN])) (by decide) (by decide)) _ (fun p hp => by repeat (first | exact hG p hp | refine List.mem_cons_of_mem _ ?_ | refine List.mem_append_right _ ?_)))) ?_
  refine AL_g rfl rfl (.tmp rfl) rfl (fun hg10 => S_eqS rfl (AEv.cond (.tmp rfl) (by first | assumption | exact gdAnd (by assumption) (by assumption))) (AEv.S _)) ?_
  refine AL_p rfl rfl (S_and rfl (.tmp rfl) (fun hp13 => (AEv.cond (.tmp rfl) (by first | assumption | exact gdT hp13 | exact gdF hp13 | exact gdAnd (by assumption) (gdT hp13) | exact gdAnd (by assumption) (gdF hp13))))) ?_
  refine AL_p rfl rfl (S_move rfl (.tmp rfl)) ?_
  refine AL_g rfl rfl (.tmp rfl) rfl (fun hg14 => S_move rfl (.tmp rfl)) ?_
  refine AL_g rfl rfl (.tmp rfl) rfl (fun hg17 => S_eql rfl (AEv.cond (.tmp rfl) (by first | assumption | exact gdAnd (by assumption) (by assumption))) (AEv.const _)) ?_
  refine AL_p rfl rfl (S_and rfl (.tmp rfl) (fun hp20 => (AEv.cond (.tmp rfl) (by first | assumption | exact gdT hp20 | exact gdF hp20 | exact gdAnd (by assumption) (gdT hp20) | exact gdAnd (by assumption) (gdF hp20))))) ?_
  refine AL_p rfl rfl (S_move rfl (.tmp rfl)) ?_
  refine AL_g rfl rfl (.tmp rfl) rfl (fun hg21 => S_move rfl (.tmp rfl)) ?_
  refine AL_g rfl rfl (.tmp rfl) rfl (fun hg24 => S_eqlE (er_is 28 167 (none)) rfl (AEv.cond (.tmp rfl) (by first | assumption | exact gdAnd (by assumption) (by assumption))) (by kernel_rfl)) ?_
  refine AL_p rfl rfl (S_and rfl (.tmp rfl) (fun hp27 => (AEv.cond (.tmp rfl) (by first | assumption | exact gdT hp27 | exact gdF hp27 | exact gdAnd (by assumption) (gdT hp27) | exact gdAnd (by assumption) (gdF hp27))))) ?_
  refine AL_p rfl rfl (S_move rfl (.tmp rfl)) ?_
  refine AL_g rfl rfl (.tmp rfl) rfl (fun hg28 => S_loadN (m := 7) 2 rfl (.tmp rfl) rfl (by kernel_rfl) (by first | exact Nat.le_of_ble_eq_true rfl | (simp; omega) | simp)) ?_
  refine AL_g rfl rfl (.tmp rfl) rfl (fun hg31 => S_loadN (m := 7) 0 rfl (.tmp rfl) rfl (by kernel_rfl) (by first | exact Nat.le_of_ble_eq_true rfl | (simp; omega) | simp)) ?_
  refine AL_g rfl rfl (.tmp rfl) rfl (fun hg34 => S_pcall rfl (AEvs.cons (y := spcAV wS) ((AEv.cond (.tmp rfl) (by first | assumption | exact gdAnd (by assumption) (by assumption))).le (by exact (Les.agg (.cons (Le.refl _) (.cons Le.nils (.cons Le.nils (.cons (Le.refl _) (.cons (Le.refl _) (.cons (Le.refl _) (.cons (Le.refl _) .nil)))))))))) (AEvs.cons (y := spcAV wS) (AEv.cond (.tmp rfl) (by first | assumption | exact gdAnd (by assumption) (by assumption))) AEvs.nil)) (book_SameSpec_ok wS wS (light_short wS_light) (light_short wS_light))) ?_
  refine AL_p rfl rfl (S_and rfl (.tmp rfl) (fun hp37 => (AEv.cond (.tmp rfl) (by first | assumption | exact gdT hp37 | exact gdF hp37 | exact gdAnd (by assumption) (gdT hp37) | exact gdAnd (by assumption) (gdF hp37))))) ?_
  refine AL_p rfl rfl (S_assign rfl (.tmp rfl)) ?_
  refine AL_nil ?_
  refine AC_ret ?_
  refine ret_tmp st rfl rfl (Sub.l (((List.sublist_cons_self _ _).trans (List.sublist_cons_self _ _)).trans (List.sublist_cons_self _ _))) (Conv.refl (Sub.l (((List.sublist_cons_self _ _).trans (List.sublist_cons_self _ _)).trans (List.sublist_cons_self _ _))) _) ⟨congrArg AV.bool (by rw [sameS_refl]; decide), rfl⟩ (.inl rfl)

end Go.Proofs.YtfmiciodcimkeaaGreatDoor

/-
The walks of Go functions in the logic AL: what each of them answers.
Conditions: those of each theorem.
-/
set_option linter.unusedVariables false
set_option linter.unusedSimpArgs false
namespace Go.Proofs.YtfmiciodcimkeaaGreatDoor
open Go.AL Go.NumSpec

set_option maxRecDepth 100000 in
/-- provost/provostref04.Fail -/
theorem ref04_Fail_ok (S r : List UInt8) (c d : Int) : PCalls Tryz.prog 103 [rdR S (r) (c), .int .i64 d] (rdR S (r) (failC c d)) := by
  intro st
  refine ACalls_of (N := 11) Tryz.func103 (by kernel_rfl) rfl rfl rfl ?_
  refine AC_seq ?_
  refine AC_region ?_
  refine AL_step rfl rfl (S_box rfl (.tmp rfl)) ?_
  rintro _ _ ⟨b2, rfl, rfl⟩
  refine AL_step rfl rfl (S_alloc [.string ⟨#[]⟩, .int .i64 0, .int .i64 0] rfl (by kernel_rfl)) ?_
  rintro _ _ ⟨b4, rfl, rfl⟩
  refine AL_nil ?_
  refine AC_seq ?_
  refine AC_seq ?_
  refine AC_region ?_
  refine AL_p rfl rfl (S_field 2 rfl (.tmp rfl) (by kernel_rfl)) ?_
  refine AL_p rfl rfl (S_load 1 rfl (.tmp rfl) rfl rfl (by kernel_rfl)) ?_
  refine AL_p rfl rfl (S_eql rfl (.tmp rfl) (AEv.const _)) ?_
  refine AL_nil ?_
  refine AC_cond (.tmp rfl) (fun hb3 => ?_) (fun hb3 => ?_)
  · try simp only [zA, zO, zN, zM, zP, zQ, zD, zF, gd] at hb3
    have hx : failC c d = d := by unfold failC; rw [if_pos hb3]
    refine AC_region ?_
    refine AL_p rfl rfl (S_move rfl (.tmp rfl)) ?_
    refine AL_p rfl rfl (S_field 2 rfl (.tmp rfl) (by kernel_rfl)) ?_
    refine AL_step rfl rfl (S_store 1 rfl (.tmp rfl) (.tmp rfl) rfl (by first | exact Nat.le_of_ble_eq_true rfl | simp) rfl (by kernel_rfl)) ?_
    rintro _ _ ⟨rfl, rfl⟩
    refine AL_nil ?_
    refine AC_seq ?_
    refine AC_region ?_
    refine AL_p rfl rfl (S_loadN (m := 3) 1 rfl (.tmp rfl) rfl (by kernel_rfl) (by first | exact Nat.le_of_ble_eq_true rfl | (simp; omega) | simp)) ?_
    refine AL_step rfl rfl (S_storeW 0 rfl (.tmp rfl) (.tmp rfl) rfl rfl rfl (by kernel_rfl)) ?_
    rintro _ _ ⟨rfl, rfl⟩
    refine AL_nil ?_
    refine AC_ret ?_
    refine ret_cell 0 st rfl rfl rfl (by kernel_rfl) (Sub.l (List.Sublist.cons _ (List.Sublist.cons _ (List.Sublist.refl _)))) (Conv.refl (Sub.l (List.Sublist.cons _ (List.Sublist.cons _ (List.Sublist.refl _)))) _) ⟨by rw [hx]; rfl, rfl⟩ (.inl rfl)
  try simp only [zA, zO, zN, zM, zP, zQ, zD, zF, gd] at hb3
  have hx : failC c d = c := by unfold failC; rw [if_neg hb3]
  refine AC_skip ?_
  refine AC_seq ?_
  refine AC_region ?_
  refine AL_p rfl rfl (S_loadN (m := 3) 1 rfl (.tmp rfl) rfl (by kernel_rfl) (by first | exact Nat.le_of_ble_eq_true rfl | (simp; omega) | simp)) ?_
  refine AL_step rfl rfl (S_storeW 0 rfl (.tmp rfl) (.tmp rfl) rfl rfl rfl (by kernel_rfl)) ?_
  rintro _ _ ⟨rfl, rfl⟩
  refine AL_nil ?_
  refine AC_ret ?_
  refine ret_cell 0 st rfl rfl rfl (by kernel_rfl) (Sub.l (List.Sublist.cons _ (List.Sublist.cons _ (List.Sublist.refl _)))) (Conv.refl (Sub.l (List.Sublist.cons _ (List.Sublist.cons _ (List.Sublist.refl _)))) _) ⟨by rw [hx]; rfl, rfl⟩ (.inl rfl)

set_option maxRecDepth 100000 in
/-- provost/provostref04.Big -/
theorem ref04_Big_ok (S r : List UInt8) (c : Int) (hr : r <:+ S) (hS : S.length ≤ 1000000) : PCalls Tryz.prog 102 [rdR S (r) (c)] (.tup [rdR S ((bigR r c).2.1) ((bigR r c).2.2), .int .u64 ((bigR r c).1 : Int)]) := by
  intro st
  refine ACalls_of (N := 60) Tryz.func102 (by kernel_rfl) rfl rfl rfl ?_
  have hrl := suf_len hr
  have hrd := suf_drop hr
  have htk := takeV_le r
  refine AC_seq ?_
  refine AC_region ?_
  refine AL_step rfl rfl (S_box rfl (.tmp rfl)) ?_
  rintro _ _ ⟨b1, rfl, rfl⟩
  refine AL_step rfl rfl (S_alloc [.string ⟨#[]⟩, .int .i64 0, .int .i64 0] rfl (by kernel_rfl)) ?_
  rintro _ _ ⟨b2, rfl, rfl⟩
  refine AL_p rfl rfl (S_assign rfl (AEv.const _)) ?_
  refine AL_nil ?_
  refine AC_seq ?_
  refine AC_seq ?_
  refine AC_region ?_
  refine AL_p rfl rfl (S_field 2 rfl (.tmp rfl) (by kernel_rfl)) ?_
  refine AL_p rfl rfl (S_load 1 rfl (.tmp rfl) rfl rfl (by kernel_rfl)) ?_
  refine AL_p rfl rfl (S_neq rfl (.tmp rfl) (AEv.const _)) ?_
  refine AL_nil ?_
  refine AC_cond (.tmp rfl) (fun hb3 => ?_) (fun hb3 => ?_)
  · try simp only [zA, zO, zN, zM, zP, zQ, zD, zF, gd] at hb3
    have hx := bigR_err (s := r) hb3
    refine AC_seq ?_
    refine AC_region ?_
    refine AL_p rfl rfl (S_loadN (m := 3) 1 rfl (.tmp rfl) rfl (by kernel_rfl) (by first | exact Nat.le_of_ble_eq_true rfl | (simp; omega) | simp)) ?_
    refine AL_step rfl rfl (S_storeW 0 rfl (.tmp rfl) (.tmp rfl) rfl rfl rfl (by kernel_rfl)) ?_
    rintro _ _ ⟨rfl, rfl⟩
    refine AL_p rfl rfl (S_assign rfl (AEv.const _)) ?_
    refine AL_nil ?_
    refine AC_ret ?_
    refine ret_outs st rfl (by decide) (OutsR.row 0 rfl rfl (by kernel_rfl) (OutsR.tmp rfl OutsR.nil)) (Sub.l (List.Sublist.cons _ (List.Sublist.cons _ (List.Sublist.refl _)))) (Conv.refl (Sub.l (List.Sublist.cons _ (List.Sublist.cons _ (List.Sublist.refl _)))) _) ⟨by rw [hx]; rfl, rfl⟩ (.inl rfl)
  try simp only [zA, zO, zN, zM, zP, zQ, zD, zF, gd] at hb3
  have hc : c = 0 := by simpa using hb3
  subst hc
  refine AC_skip ?_
  refine AC_seq ?_
  refine AC_region ?_
  refine AL_p rfl rfl (S_field 0 rfl (.tmp rfl) (by kernel_rfl)) ?_
  refine AL_p rfl rfl (S_load 1 rfl (.tmp rfl) rfl rfl (by kernel_rfl)) ?_
  refine AL_p rfl rfl (S_field 1 rfl (.tmp rfl) (by kernel_rfl)) ?_
  refine AL_p rfl rfl (S_load 1 rfl (.tmp rfl) rfl rfl (by kernel_rfl)) ?_
  refine AL_p rfl rfl ((S_sliceL rfl (.tmp rfl) (.tmp rfl) (by kernel_rfl) (by omega) (by omega)).ofV (V' := .S r) (congrArg AV.S (by rw [Int.toNat_natCast]; exact hrd))) ?_
  refine AL_p rfl rfl (S_assign rfl (.tmp rfl)) ?_
  refine AL_nil ?_
  refine AC_seq ?_
  refine AC_region ?_
  refine AL_p rfl rfl (S_assign rfl (AEv.const _)) ?_
  refine AL_nil ?_
  refine AC_seq ?_
  refine AC_seq ?_
  refine AC_region ?_
  refine AL_p rfl rfl (S_assign rfl (AEv.const _)) ?_
  refine AL_nil ?_
  refine AC_block ?_
  refine AC_loopK (G := Nat) [(1, _), (2, _), (3, _), (4, _)] (fun g => g ≤ r.length ∧ g ≤ 10) (fun g => [(5, .bool (smallV r g)), (6, .int .i64 (g : Int))]) (fun g => (b2, .cells [.S [], .int .i64 0, .int .i64 0]) :: (b1, .cells (rdL S r 0)) :: st) (fun g => 10 - g) (0) (⟨Nat.zero_le _, by omega⟩) (Sub.l (List.Sublist.refl _)) (.cons rfl (Le.refl _) (.cons rfl (Le.refl _) (.cons rfl (Le.refl _) (.cons rfl (Le.refl _) .nil)))) (.cons rfl (by first | exact Le.refl _ | exact Le.nils | exact Le.row _ _ _ _ | exact Le.of_eq (by first | rfl | (simp; done) | (push_cast; rfl) | (simp; omega))) (.cons rfl (by first | exact Le.refl _ | exact Le.nils | exact Le.row _ _ _ _ | exact Le.of_eq (by first | rfl | (simp; done) | (push_cast; rfl) | (simp; omega))) .nil)) ?_
  rintro k ⟨hk1, hk2⟩
  try dsimp only
  simp only [List.cons_append, List.nil_append]
  refine AC_seq ?_
  refine AC_seq ?_
  refine AC_region ?_
  refine AL_p rfl rfl (S_move rfl (.tmp rfl)) ?_
  refine AL_p rfl rfl (S_move rfl (.tmp rfl)) ?_
  refine AL_p rfl rfl (S_lenS (ts := #[]) rfl (.tmp rfl) (by kernel_rfl)) ?_
  refine AL_p rfl rfl (S_lss rfl (.tmp rfl) (.tmp rfl)) ?_
  refine AL_p rfl rfl (S_move rfl (.tmp rfl)) ?_
  refine AL_g rfl rfl (.tmp rfl) rfl (fun hg4 => S_move rfl (.tmp rfl)) ?_
  refine AL_g rfl rfl (.tmp rfl) rfl (fun hg7 => S_lss rfl (AEv.cond (.tmp rfl) (by first | assumption | exact gdAnd (by assumption) (by assumption))) (AEv.const _)) ?_
  refine AL_p rfl rfl (S_and rfl (.tmp rfl) (fun hp10 => (AEv.cond (.tmp rfl) (by first | assumption | exact gdT hp10 | exact gdF hp10 | exact gdAnd (by assumption) (gdT hp10) | exact gdAnd (by assumption) (gdF hp10))))) ?_
  refine AL_nil ?_
  refine AC_cond (.tmp rfl) (fun hb11 => ?_) (fun hb11 => ?_)
  · try simp only [zA, zO, zN, zM, zP, zQ, zD, zF, gd] at hb11
    have hkr : k < r.length := by omega
    refine AC_skip ?_
    refine AC_seq ?_
    refine AC_block ?_
    refine AC_region ?_
    refine AL_p rfl rfl (S_move rfl (.tmp rfl)) ?_
    refine AL_p rfl rfl (S_move rfl (.tmp rfl)) ?_
    refine AL_g rfl rfl (.tmp rfl) rfl (fun hg12 => S_move rfl (.tmp rfl)) ?_
    refine AL_g rfl rfl (.tmp rfl) rfl (fun hg15 => S_move rfl (.tmp rfl)) ?_
    refine AL_g rfl rfl (.tmp rfl) rfl (fun hg18 => S_index rfl (AEv.cond (.tmp rfl) (by first | assumption | exact gdAnd (by assumption) (by assumption))) (AEv.cond (.tmp rfl) (by first | assumption | exact gdAnd (by assumption) (by assumption))) (by kernel_rfl) (by (try simp only [gd, Bool.and_eq_true, Bool.or_eq_true, Bool.not_eq_true', Bool.not_eq_false', decide_eq_true_eq, decide_eq_false_iff_not, Bool.or_eq_false_iff, Bool.and_eq_false_iff] at *); omega) (by (try simp only [gd, Bool.and_eq_true, Bool.or_eq_true, Bool.not_eq_true', Bool.not_eq_false', decide_eq_true_eq, decide_eq_false_iff_not, Bool.or_eq_false_iff, Bool.and_eq_false_iff] at *); omega)) ?_
    refine AL_g rfl rfl (.tmp rfl) rfl (fun hg21 => S_lss rfl (AEv.cond (.tmp rfl) (by first | assumption | exact gdAnd (by assumption) (by assumption))) (AEv.const _)) ?_
    refine AL_p rfl rfl (S_or rfl (.tmp rfl) (fun hp24 => (AEv.cond (.tmp rfl) (by first | assumption | exact gdT hp24 | exact gdF hp24 | exact gdAnd (by assumption) (gdT hp24) | exact gdAnd (by assumption) (gdF hp24))))) ?_
    refine AL_p rfl rfl (S_assign rfl (.tmp rfl)) ?_
    refine AL_nil ?_
    refine AC_region ?_
    refine AL_p rfl rfl (S_move rfl (.tmp rfl)) ?_
    refine AL_p rfl rfl (S_addI rfl (.tmp rfl) (AEv.const _) (by omega) (by omega)) ?_
    refine AL_p rfl rfl (S_assign rfl (.tmp rfl)) ?_
    refine AL_nil ?_
    exact ⟨k + 1, ⟨by omega, by omega⟩, by omega, (Sub.l (List.Sublist.refl _)), (.cons rfl (Le.of_eq (congrArg AV.bool (by rw [small_next hkr, atL_get hkr]; exact congrArg _ (decide_eq_decide.2 (by omega))))) (.cons rfl (by first | exact Le.refl _ | exact Le.nils | exact Le.row _ _ _ _ | exact Le.of_eq (by first | rfl | (simp; done) | (push_cast; rfl) | (simp; omega))) .nil)), (.cons rfl (Le.refl _) (.cons rfl (Le.refl _) (.cons rfl (Le.refl _) (.cons rfl (Le.refl _) .nil))))⟩
  try simp only [zA, zO, zN, zM, zP, zQ, zD, zF, gd] at hb11
  have hsm := small_end hk2 hk1 (by omega)
  refine AC_exit ?_
  refine AC_seq ?_
  refine AC_seq ?_
  refine AC_region ?_
  refine AL_p rfl rfl (S_move rfl (.tmp rfl)) ?_
  refine AL_p rfl rfl (S_not rfl (.tmp rfl)) ?_
  refine AL_p rfl rfl (S_move rfl (.tmp rfl)) ?_
  refine AL_g rfl rfl (.tmp rfl) rfl (fun hg25 => S_move rfl (.tmp rfl)) ?_
  refine AL_g rfl rfl (.tmp rfl) rfl (fun hg28 => S_lenS (ts := #[]) rfl (AEv.cond (.tmp rfl) (by first | assumption | exact gdAnd (by assumption) (by assumption))) (by kernel_rfl)) ?_
  refine AL_g rfl rfl (.tmp rfl) rfl (fun hg31 => S_lss rfl (AEv.cond (.tmp rfl) (by first | assumption | exact gdAnd (by assumption) (by assumption))) (AEv.const _)) ?_
  refine AL_p rfl rfl (S_and rfl (.tmp rfl) (fun hp34 => (AEv.cond (.tmp rfl) (by first | assumption | exact gdT hp34 | exact gdF hp34 | exact gdAnd (by assumption) (gdT hp34) | exact gdAnd (by assumption) (gdF hp34))))) ?_
  refine AL_nil ?_
  refine AC_cond (.tmp rfl) (fun hb35 => ?_) (fun hb35 => ?_)
  · try simp only [zA, zO, zN, zM, zP, zQ, zD, zF, gd] at hb35
    have hlk : lacksV r = true := by rw [hsm]; simpa using hb35
    have hx := bigR_lack hlk
    refine AC_seq ?_
    refine AC_region ?_
    refine AL_p rfl rfl (S_loadN (m := 3) 1 rfl (.tmp rfl) rfl (by kernel_rfl) (by first | exact Nat.le_of_ble_eq_true rfl | (simp; omega) | simp)) ?_
    refine AL_p rfl rfl (S_pcall rfl (AEvs.cons (.tmp rfl) (AEvs.cons (AEv.const _) AEvs.nil)) (ref04_Fail_ok S r _ _)) ?_
    refine AL_step rfl rfl (S_storeW 0 rfl (.tmp rfl) (.tmp rfl) rfl rfl rfl (by kernel_rfl)) ?_
    rintro _ _ ⟨rfl, rfl⟩
    refine AL_p rfl rfl (S_assign rfl (AEv.const _)) ?_
    refine AL_nil ?_
    refine AC_ret ?_
    refine ret_outs st rfl (by decide) (OutsR.row 0 rfl rfl (by kernel_rfl) (OutsR.tmp rfl OutsR.nil)) (Sub.l (List.Sublist.cons _ (List.Sublist.cons _ (List.Sublist.refl _)))) (Conv.refl (Sub.l (List.Sublist.cons _ (List.Sublist.cons _ (List.Sublist.refl _)))) _) ⟨by rw [hx]; rfl, rfl⟩ (.inl rfl)
  try simp only [zA, zO, zN, zM, zP, zQ, zD, zF, gd] at hb35
  have hlk : lacksV r = false := by rw [hsm]; rw [Bool.and_eq_false_iff]; simpa using hb35
  refine AC_skip ?_
  refine AC_seq ?_
  refine AC_region ?_
  refine AL_p rfl rfl (S_move rfl (.tmp rfl)) ?_
  refine AL_p rfl rfl (S_pcall rfl (AEvs.cons (.tmp rfl) AEvs.nil) (ref_Take_ok r)) ?_
  refine AL_p rfl rfl (S_move rfl (.tmp rfl)) ?_
  refine AL_p rfl rfl (S_extract 0 rfl (.tmp rfl) rfl) ?_
  refine AL_p rfl rfl (S_extract 1 rfl (.tmp rfl) rfl) ?_
  refine AL_p rfl rfl (S_assign rfl (.tmp rfl)) ?_
  refine AL_p rfl rfl (S_assign rfl (.tmp rfl)) ?_
  refine AL_nil ?_
  refine AC_seq ?_
  refine AC_seq ?_
  refine AC_region ?_
  refine AL_p rfl rfl (S_move rfl (.tmp rfl)) ?_
  refine AL_p rfl rfl (S_eql rfl (.tmp rfl) (AEv.const _)) ?_
  refine AL_nil ?_
  refine AC_cond (.tmp rfl) (fun hb36 => ?_) (fun hb36 => ?_)
  · try simp only [zA, zO, zN, zM, zP, zQ, zD, zF, gd] at hb36
    have hx := bigR_form hlk (by omega)
    refine AC_seq ?_
    refine AC_region ?_
    refine AL_p rfl rfl (S_loadN (m := 3) 1 rfl (.tmp rfl) rfl (by kernel_rfl) (by first | exact Nat.le_of_ble_eq_true rfl | (simp; omega) | simp)) ?_
    refine AL_p rfl rfl (S_pcall rfl (AEvs.cons (.tmp rfl) (AEvs.cons (AEv.const _) AEvs.nil)) (ref04_Fail_ok S r _ _)) ?_
    refine AL_step rfl rfl (S_storeW 0 rfl (.tmp rfl) (.tmp rfl) rfl rfl rfl (by kernel_rfl)) ?_
    rintro _ _ ⟨rfl, rfl⟩
    refine AL_p rfl rfl (S_assign rfl (AEv.const _)) ?_
    refine AL_nil ?_
    refine AC_ret ?_
    refine ret_outs st rfl (by decide) (OutsR.row 0 rfl rfl (by kernel_rfl) (OutsR.tmp rfl OutsR.nil)) (Sub.l (List.Sublist.cons _ (List.Sublist.cons _ (List.Sublist.refl _)))) (Conv.refl (Sub.l (List.Sublist.cons _ (List.Sublist.cons _ (List.Sublist.refl _)))) _) ⟨by rw [hx]; rfl, rfl⟩ (.inl rfl)
  try simp only [zA, zO, zN, zM, zP, zQ, zD, zF, gd] at hb36
  have hx := bigR_ok hlk (by omega)
  refine AC_skip ?_
  refine AC_seq ?_
  refine AC_region ?_
  refine AL_p rfl rfl (S_field 1 rfl (.tmp rfl) (by kernel_rfl)) ?_
  refine AL_p rfl rfl (S_load 1 rfl (.tmp rfl) rfl rfl (by kernel_rfl)) ?_
  refine AL_p rfl rfl (S_move rfl (.tmp rfl)) ?_
  refine AL_p rfl rfl ((S_addI rfl (.tmp rfl) (.tmp rfl) (by omega) (by omega)).ofV (V' := .int .i64 ((S.length - (r.drop (takeV r).2).length : Nat) : Int)) (congrArg (AV.int .i64) (by rw [List.length_drop]; omega))) ?_
  refine AL_p rfl rfl (S_field 1 rfl (.tmp rfl) (by kernel_rfl)) ?_
  refine AL_step rfl rfl (S_store 1 rfl (.tmp rfl) (.tmp rfl) rfl (by first | exact Nat.le_of_ble_eq_true rfl | simp) rfl (by kernel_rfl)) ?_
  rintro _ _ ⟨rfl, rfl⟩
  refine AL_nil ?_
  refine AC_seq ?_
  refine AC_region ?_
  refine AL_p rfl rfl (S_loadN (m := 3) 1 rfl (.tmp rfl) rfl (by kernel_rfl) (by first | exact Nat.le_of_ble_eq_true rfl | (simp; omega) | simp)) ?_
  refine AL_p rfl rfl (S_move rfl (.tmp rfl)) ?_
  refine AL_step rfl rfl (S_storeW 0 rfl (.tmp rfl) (.tmp rfl) rfl rfl rfl (by kernel_rfl)) ?_
  rintro _ _ ⟨rfl, rfl⟩
  refine AL_p rfl rfl (S_assign rfl (.tmp rfl)) ?_
  refine AL_nil ?_
  refine AC_ret ?_
  refine ret_outs st rfl (by decide) (OutsR.row 0 rfl rfl (by kernel_rfl) (OutsR.tmp rfl OutsR.nil)) (Sub.l (List.Sublist.cons _ (List.Sublist.cons _ (List.Sublist.refl _)))) (Conv.refl (Sub.l (List.Sublist.cons _ (List.Sublist.cons _ (List.Sublist.refl _)))) _) ⟨by rw [hx]; rfl, rfl⟩ (.inl rfl)

set_option maxRecDepth 100000 in
/-- provost/provostref04.Num -/
theorem ref04_Num_ok (S r : List UInt8) (c : Int) (hr : r <:+ S) (hS : S.length ≤ 1000000) (most : Int) (hm : fits most) : PCalls Tryz.prog 68 [rdR S (r) (c), .int .i64 most] (.tup [rdR S ((numR r c most).2.1) ((numR r c most).2.2), .int .i64 (numR r c most).1]) := by
  intro st
  refine ACalls_of (N := 38) Tryz.func68 (by kernel_rfl) rfl rfl rfl ?_
  have hrl := suf_len hr
  have hrd := suf_drop hr
  unfold fits at hm
  have hbl := bigR_lt r c
  have hu := u64w most
  refine AC_seq ?_
  refine AC_region ?_
  refine AL_step rfl rfl (S_box rfl (.tmp rfl)) ?_
  rintro _ _ ⟨b2, rfl, rfl⟩
  refine AL_step rfl rfl (S_alloc [.string ⟨#[]⟩, .int .i64 0, .int .i64 0] rfl (by kernel_rfl)) ?_
  rintro _ _ ⟨b4, rfl, rfl⟩
  refine AL_p rfl rfl (S_assign rfl (AEv.const _)) ?_
  refine AL_nil ?_
  refine AC_seq ?_
  refine AC_region ?_
  refine AL_p rfl rfl (S_loadN (m := 3) 1 rfl (.tmp rfl) rfl (by kernel_rfl) (by first | exact Nat.le_of_ble_eq_true rfl | (simp; omega) | simp)) ?_
  refine AL_p rfl rfl (S_pcall rfl (AEvs.cons (.tmp rfl) AEvs.nil) (ref04_Big_ok S r c hr hS)) ?_
  refine AL_p rfl rfl (S_move rfl (.tmp rfl)) ?_
  refine AL_p rfl rfl (S_extract 0 rfl (.tmp rfl) rfl) ?_
  refine AL_p rfl rfl (S_extract 1 rfl (.tmp rfl) rfl) ?_
  refine AL_step rfl rfl (S_alloc [.string ⟨#[]⟩, .int .i64 0, .int .i64 0] rfl (by kernel_rfl)) ?_
  rintro _ _ ⟨b6, rfl, rfl⟩
  refine AL_step rfl rfl (S_storeW 0 rfl (.tmp rfl) (.tmp rfl) rfl rfl rfl (by kernel_rfl)) ?_
  rintro _ _ ⟨rfl, rfl⟩
  refine AL_p rfl rfl (S_assign rfl (.tmp rfl)) ?_
  refine AL_nil ?_
  refine AC_seq ?_
  refine AC_seq ?_
  refine AC_region ?_
  refine AL_p rfl rfl (S_field 2 rfl (.tmp rfl) (by kernel_rfl)) ?_
  refine AL_p rfl rfl (S_load 0 rfl (.tmp rfl) rfl rfl (by kernel_rfl)) ?_
  refine AL_p rfl rfl (S_neq rfl (.tmp rfl) (AEv.const _)) ?_
  refine AL_nil ?_
  refine AC_cond (.tmp rfl) (fun hb4 => ?_) (fun hb4 => ?_)
  · try simp only [zA, zO, zN, zM, zP, zQ, zD, zF, gd] at hb4
    have hx := numR_bad (most := most) hb4
    refine AC_seq ?_
    refine AC_region ?_
    refine AL_p rfl rfl (S_loadN (m := 3) 0 rfl (.tmp rfl) rfl (by kernel_rfl) (by first | exact Nat.le_of_ble_eq_true rfl | (simp; omega) | simp)) ?_
    refine AL_step rfl rfl (S_storeW 1 rfl (.tmp rfl) (.tmp rfl) rfl rfl rfl (by kernel_rfl)) ?_
    rintro _ _ ⟨rfl, rfl⟩
    refine AL_p rfl rfl (S_assign rfl (AEv.const _)) ?_
    refine AL_nil ?_
    refine AC_ret ?_
    refine ret_outs st rfl (by decide) (OutsR.row 1 rfl rfl (by kernel_rfl) (OutsR.tmp rfl OutsR.nil)) (Sub.l (List.Sublist.cons _ (List.Sublist.cons _ (List.Sublist.cons _ (List.Sublist.refl _))))) (Conv.refl (Sub.l (List.Sublist.cons _ (List.Sublist.cons _ (List.Sublist.cons _ (List.Sublist.refl _))))) _) ⟨by rw [hx]; rfl, rfl⟩ (.inl rfl)
  try simp only [zA, zO, zN, zM, zP, zQ, zD, zF, gd] at hb4
  have hb0 : (bigR r c).2.2 = 0 := by simpa using hb4
  refine AC_skip ?_
  refine AC_seq ?_
  refine AC_seq ?_
  refine AC_region ?_
  refine AL_p rfl rfl (S_move rfl (.tmp rfl)) ?_
  refine AL_p rfl rfl (S_lss rfl (.tmp rfl) (AEv.const _)) ?_
  refine AL_p rfl rfl (S_move rfl (.tmp rfl)) ?_
  refine AL_g rfl rfl (.tmp rfl) rfl (fun hg5 => S_move rfl (.tmp rfl)) ?_
  refine AL_g rfl rfl (.tmp rfl) rfl (fun hg8 => S_gtr rfl (AEv.cond (.tmp rfl) (by first | assumption | exact gdAnd (by assumption) (by assumption))) (AEv.const _)) ?_
  refine AL_p rfl rfl (S_and rfl (.tmp rfl) (fun hp11 => (AEv.cond (.tmp rfl) (by first | assumption | exact gdT hp11 | exact gdF hp11 | exact gdAnd (by assumption) (gdT hp11) | exact gdAnd (by assumption) (gdF hp11))))) ?_
  refine AL_p rfl rfl (S_move rfl (.tmp rfl)) ?_
  refine AL_g rfl rfl (.tmp rfl) rfl (fun hg12 => S_move rfl (.tmp rfl)) ?_
  refine AL_g rfl rfl (.tmp rfl) rfl (fun hg15 => S_geq rfl (AEv.cond (.tmp rfl) (by first | assumption | exact gdAnd (by assumption) (by assumption))) (AEv.const _)) ?_
  refine AL_g rfl rfl (.tmp rfl) rfl (fun hg18 => S_move rfl (AEv.cond (.tmp rfl) (by first | assumption | exact gdAnd (by assumption) (by assumption)))) ?_
  refine AL_gg rfl rfl (.tmp rfl) rfl (fun hg21 hg22 hg23 => S_move rfl (.tmp rfl)) ?_
  refine AL_gg rfl rfl (.tmp rfl) rfl (fun hg24 hg25 hg26 => S_move rfl (.tmp rfl)) ?_
  refine AL_gg rfl rfl (.tmp rfl) rfl (fun hg27 hg28 hg29 => S_conv (k' := .u64) rfl (AEv.cond (.tmp rfl) (by first | assumption | exact gdAnd (by assumption) (by assumption))) (by kernel_rfl) (by kernel_rfl)) ?_
  refine AL_gg rfl rfl (.tmp rfl) rfl (fun hg30 hg31 hg32 => S_gtr rfl (AEv.cond (.tmp rfl) (by first | assumption | exact gdAnd (by assumption) (by assumption))) (AEv.cond (.tmp rfl) (by first | assumption | exact gdAnd (by assumption) (by assumption)))) ?_
  refine AL_g rfl rfl (.tmp rfl) rfl (fun hg33 => S_and rfl (AEv.cond (.tmp rfl) (by first | assumption | exact gdAnd (by assumption) (by assumption))) (fun hp36 => (AEv.cond (.tmp rfl) (by first | assumption | exact gdT hp36 | exact gdF hp36 | exact gdAnd (by assumption) (gdT hp36) | exact gdAnd (by assumption) (gdF hp36))))) ?_
  refine AL_p rfl rfl (S_or rfl (.tmp rfl) (fun hp37 => (AEv.cond (.tmp rfl) (by first | assumption | exact gdT hp37 | exact gdF hp37 | exact gdAnd (by assumption) (gdT hp37) | exact gdAnd (by assumption) (gdF hp37))))) ?_
  refine AL_nil ?_
  refine AC_cond (.tmp rfl) (fun hb38 => ?_) (fun hb38 => ?_)
  · try simp only [zA, zO, zN, zM, zP, zQ, zD, zF, gd] at hb38
    have hx := numR_long (most := most) hb0 (by omega)
    refine AC_seq ?_
    refine AC_region ?_
    refine AL_p rfl rfl (S_loadN (m := 3) 2 rfl (.tmp rfl) rfl (by kernel_rfl) (by first | exact Nat.le_of_ble_eq_true rfl | (simp; omega) | simp)) ?_
    refine AL_p rfl rfl (S_pcall rfl (AEvs.cons (.tmp rfl) (AEvs.cons (AEv.const _) AEvs.nil)) (ref04_Fail_ok S r c 2)) ?_
    refine AL_step rfl rfl (S_storeW 1 rfl (.tmp rfl) (.tmp rfl) rfl rfl rfl (by kernel_rfl)) ?_
    rintro _ _ ⟨rfl, rfl⟩
    refine AL_p rfl rfl (S_assign rfl (AEv.const _)) ?_
    refine AL_nil ?_
    refine AC_ret ?_
    refine ret_outs st rfl (by decide) (OutsR.row 1 rfl rfl (by kernel_rfl) (OutsR.tmp rfl OutsR.nil)) (Sub.l (List.Sublist.cons _ (List.Sublist.cons _ (List.Sublist.cons _ (List.Sublist.refl _))))) (Conv.refl (Sub.l (List.Sublist.cons _ (List.Sublist.cons _ (List.Sublist.cons _ (List.Sublist.refl _))))) _) ⟨by rw [hx]; rfl, rfl⟩ (.inl rfl)
  try simp only [zA, zO, zN, zM, zP, zQ, zD, zF, gd] at hb38
  have hlt : ¬ max most 0 < ((bigR r c).1 : Int) := by omega
  have hx := numR_fine hb0 hlt
  refine AC_skip ?_
  refine AC_seq ?_
  refine AC_region ?_
  refine AL_p rfl rfl (S_loadN (m := 3) 0 rfl (.tmp rfl) rfl (by kernel_rfl) (by first | exact Nat.le_of_ble_eq_true rfl | (simp; omega) | simp)) ?_
  refine AL_p rfl rfl (S_move rfl (.tmp rfl)) ?_
  refine AL_p rfl rfl ((S_conv (k' := .i64) rfl (.tmp rfl) (by kernel_rfl) (by kernel_rfl)).ofV (V' := .int .i64 ((bigR r c).1 : Int)) (congrArg (AV.int .i64) (wrap_i64 (by omega) (by omega)))) ?_
  refine AL_step rfl rfl (S_storeW 1 rfl (.tmp rfl) (.tmp rfl) rfl rfl rfl (by kernel_rfl)) ?_
  rintro _ _ ⟨rfl, rfl⟩
  refine AL_p rfl rfl (S_assign rfl (.tmp rfl)) ?_
  refine AL_nil ?_
  refine AC_ret ?_
  refine ret_outs st rfl (by decide) (OutsR.row 1 rfl rfl (by kernel_rfl) (OutsR.tmp rfl OutsR.nil)) (Sub.l (List.Sublist.cons _ (List.Sublist.cons _ (List.Sublist.cons _ (List.Sublist.refl _))))) (Conv.refl (Sub.l (List.Sublist.cons _ (List.Sublist.cons _ (List.Sublist.cons _ (List.Sublist.refl _))))) _) ⟨by rw [hx]; rfl, rfl⟩ (.inl rfl)

set_option maxRecDepth 100000 in
/-- provost/provostref04.Text -/
theorem ref04_Text_ok (S r : List UInt8) (c : Int) (hr : r <:+ S) (hS : S.length ≤ 1000000) (most : Int) (hm : fits most) : PCalls Tryz.prog 69 [rdR S (r) (c), .int .i64 most] (.tup [rdR S ((wtextR r c most).2.1) ((wtextR r c most).2.2), .S (wtextR r c most).1]) := by
  intro st
  refine ACalls_of (N := 45) Tryz.func69 (by kernel_rfl) rfl rfl rfl ?_
  have hrl := suf_len hr
  have hrd := suf_drop hr
  have hr2 : (numR r c most).2.1 <:+ S := (numR_suf r c most).trans hr
  have hrl2 := suf_len hr2
  have hn0 := numR_nonneg r c most
  refine AC_seq ?_
  refine AC_region ?_
  refine AL_step rfl rfl (S_box rfl (.tmp rfl)) ?_
  rintro _ _ ⟨b2, rfl, rfl⟩
  refine AL_step rfl rfl (S_alloc [.string ⟨#[]⟩, .int .i64 0, .int .i64 0] rfl (by kernel_rfl)) ?_
  rintro _ _ ⟨b4, rfl, rfl⟩
  refine AL_p rfl rfl (S_assign rfl (AEv.S _)) ?_
  refine AL_nil ?_
  refine AC_seq ?_
  refine AC_region ?_
  refine AL_p rfl rfl (S_loadN (m := 3) 1 rfl (.tmp rfl) rfl (by kernel_rfl) (by first | exact Nat.le_of_ble_eq_true rfl | (simp; omega) | simp)) ?_
  refine AL_p rfl rfl (S_move rfl (.tmp rfl)) ?_
  refine AL_p rfl rfl (S_pcall rfl (AEvs.cons (.tmp rfl) (AEvs.cons (.tmp rfl) AEvs.nil)) (ref04_Num_ok S r c hr hS most hm)) ?_
  refine AL_p rfl rfl (S_move rfl (.tmp rfl)) ?_
  refine AL_p rfl rfl (S_extract 0 rfl (.tmp rfl) rfl) ?_
  refine AL_p rfl rfl (S_extract 1 rfl (.tmp rfl) rfl) ?_
  refine AL_step rfl rfl (S_alloc [.string ⟨#[]⟩, .int .i64 0, .int .i64 0] rfl (by kernel_rfl)) ?_
  rintro _ _ ⟨b6, rfl, rfl⟩
  refine AL_step rfl rfl (S_storeW 0 rfl (.tmp rfl) (.tmp rfl) rfl rfl rfl (by kernel_rfl)) ?_
  rintro _ _ ⟨rfl, rfl⟩
  refine AL_p rfl rfl (S_assign rfl (.tmp rfl)) ?_
  refine AL_nil ?_
  refine AC_seq ?_
  refine AC_seq ?_
  refine AC_region ?_
  refine AL_p rfl rfl (S_field 2 rfl (.tmp rfl) (by kernel_rfl)) ?_
  refine AL_p rfl rfl (S_load 0 rfl (.tmp rfl) rfl rfl (by kernel_rfl)) ?_
  refine AL_p rfl rfl (S_neq rfl (.tmp rfl) (AEv.const _)) ?_
  refine AL_nil ?_
  refine AC_cond (.tmp rfl) (fun hb4 => ?_) (fun hb4 => ?_)
  · try simp only [zA, zO, zN, zM, zP, zQ, zD, zF, gd] at hb4
    have hx := textR_bad hb4
    refine AC_seq ?_
    refine AC_region ?_
    refine AL_p rfl rfl (S_loadN (m := 3) 0 rfl (.tmp rfl) rfl (by kernel_rfl) (by first | exact Nat.le_of_ble_eq_true rfl | (simp; omega) | simp)) ?_
    refine AL_step rfl rfl (S_storeW 1 rfl (.tmp rfl) (.tmp rfl) rfl rfl rfl (by kernel_rfl)) ?_
    rintro _ _ ⟨rfl, rfl⟩
    refine AL_p rfl rfl (S_assign rfl (AEv.S _)) ?_
    refine AL_nil ?_
    refine AC_ret ?_
    refine ret_outs st rfl (by decide) (OutsR.row 1 rfl rfl (by kernel_rfl) (OutsR.tmp rfl OutsR.nil)) (Sub.l (List.Sublist.cons _ (List.Sublist.cons _ (List.Sublist.cons _ (List.Sublist.refl _))))) (Conv.refl (Sub.l (List.Sublist.cons _ (List.Sublist.cons _ (List.Sublist.cons _ (List.Sublist.refl _))))) _) ⟨by rw [hx]; rfl, rfl⟩ (.inl rfl)
  try simp only [zA, zO, zN, zM, zP, zQ, zD, zF, gd] at hb4
  have hb0 : (numR r c most).2.2 = 0 := by simpa using hb4
  refine AC_skip ?_
  refine AC_seq ?_
  refine AC_seq ?_
  refine AC_region ?_
  refine AL_p rfl rfl (S_move rfl (.tmp rfl)) ?_
  refine AL_p rfl rfl (S_field 0 rfl (.tmp rfl) (by kernel_rfl)) ?_
  refine AL_p rfl rfl (S_load 0 rfl (.tmp rfl) rfl rfl (by kernel_rfl)) ?_
  refine AL_p rfl rfl (S_lenS (ts := #[]) rfl (.tmp rfl) (by kernel_rfl)) ?_
  refine AL_p rfl rfl (S_field 1 rfl (.tmp rfl) (by kernel_rfl)) ?_
  refine AL_p rfl rfl (S_load 0 rfl (.tmp rfl) rfl rfl (by kernel_rfl)) ?_
  refine AL_p rfl rfl (S_subI rfl (.tmp rfl) (.tmp rfl) (by omega) (by omega)) ?_
  refine AL_p rfl rfl (S_gtr rfl (.tmp rfl) (.tmp rfl)) ?_
  refine AL_nil ?_
  refine AC_cond (.tmp rfl) (fun hb5 => ?_) (fun hb5 => ?_)
  · try simp only [zA, zO, zN, zM, zP, zQ, zD, zF, gd] at hb5
    have hx := textR_short hb0 (by omega)
    refine AC_seq ?_
    refine AC_region ?_
    refine AL_p rfl rfl (S_loadN (m := 3) 0 rfl (.tmp rfl) rfl (by kernel_rfl) (by first | exact Nat.le_of_ble_eq_true rfl | (simp; omega) | simp)) ?_
    refine AL_p rfl rfl (S_pcall rfl (AEvs.cons (.tmp rfl) (AEvs.cons (AEv.const _) AEvs.nil)) (ref04_Fail_ok S (numR r c most).2.1 (numR r c most).2.2 40)) ?_
    refine AL_step rfl rfl (S_storeW 1 rfl (.tmp rfl) (.tmp rfl) rfl rfl rfl (by kernel_rfl)) ?_
    rintro _ _ ⟨rfl, rfl⟩
    refine AL_p rfl rfl (S_assign rfl (AEv.S _)) ?_
    refine AL_nil ?_
    refine AC_ret ?_
    refine ret_outs st rfl (by decide) (OutsR.row 1 rfl rfl (by kernel_rfl) (OutsR.tmp rfl OutsR.nil)) (Sub.l (List.Sublist.cons _ (List.Sublist.cons _ (List.Sublist.cons _ (List.Sublist.refl _))))) (Conv.refl (Sub.l (List.Sublist.cons _ (List.Sublist.cons _ (List.Sublist.cons _ (List.Sublist.refl _))))) _) ⟨by rw [hx]; rfl, rfl⟩ (.inl rfl)
  try simp only [zA, zO, zN, zM, zP, zQ, zD, zF, gd] at hb5
  have hlt : ¬ ((numR r c most).2.1.length : Int) < (numR r c most).1 := by omega
  have hx := textR_fine hb0 hlt
  refine AC_skip ?_
  refine AC_seq ?_
  refine AC_region ?_
  refine AL_p rfl rfl (S_field 0 rfl (.tmp rfl) (by kernel_rfl)) ?_
  refine AL_p rfl rfl (S_load 0 rfl (.tmp rfl) rfl rfl (by kernel_rfl)) ?_
  refine AL_p rfl rfl (S_field 1 rfl (.tmp rfl) (by kernel_rfl)) ?_
  refine AL_p rfl rfl (S_load 0 rfl (.tmp rfl) rfl rfl (by kernel_rfl)) ?_
  refine AL_p rfl rfl (S_field 1 rfl (.tmp rfl) (by kernel_rfl)) ?_
  refine AL_p rfl rfl (S_load 0 rfl (.tmp rfl) rfl rfl (by kernel_rfl)) ?_
  refine AL_p rfl rfl (S_move rfl (.tmp rfl)) ?_
  refine AL_p rfl rfl (S_addI rfl (.tmp rfl) (.tmp rfl) (by omega) (by omega)) ?_
  refine AL_p rfl rfl ((S_sliceLH rfl (.tmp rfl) (.tmp rfl) (.tmp rfl) (by kernel_rfl) (by omega) (by omega) (by omega)).ofV (V' := .S ((numR r c most).2.1.take (numR r c most).1.toNat)) (congrArg AV.S (by rw [← suf_cut hr2, Int.toNat_natCast]; congr 2; omega))) ?_
  refine AL_p rfl rfl (S_assign rfl (.tmp rfl)) ?_
  refine AL_nil ?_
  refine AC_seq ?_
  refine AC_region ?_
  refine AL_p rfl rfl (S_field 1 rfl (.tmp rfl) (by kernel_rfl)) ?_
  refine AL_p rfl rfl (S_load 0 rfl (.tmp rfl) rfl rfl (by kernel_rfl)) ?_
  refine AL_p rfl rfl (S_move rfl (.tmp rfl)) ?_
  refine AL_p rfl rfl ((S_addI rfl (.tmp rfl) (.tmp rfl) (by omega) (by omega)).ofV (V' := .int .i64 ((S.length - ((numR r c most).2.1.drop (numR r c most).1.toNat).length : Nat) : Int)) (congrArg (AV.int .i64) (by rw [List.length_drop]; omega))) ?_
  refine AL_p rfl rfl (S_field 1 rfl (.tmp rfl) (by kernel_rfl)) ?_
  refine AL_step rfl rfl (S_store 0 rfl (.tmp rfl) (.tmp rfl) rfl (by first | exact Nat.le_of_ble_eq_true rfl | simp) rfl (by kernel_rfl)) ?_
  rintro _ _ ⟨rfl, rfl⟩
  refine AL_nil ?_
  refine AC_seq ?_
  refine AC_region ?_
  refine AL_p rfl rfl (S_loadN (m := 3) 0 rfl (.tmp rfl) rfl (by kernel_rfl) (by first | exact Nat.le_of_ble_eq_true rfl | (simp; omega) | simp)) ?_
  refine AL_p rfl rfl (S_move rfl (.tmp rfl)) ?_
  refine AL_step rfl rfl (S_storeW 1 rfl (.tmp rfl) (.tmp rfl) rfl rfl rfl (by kernel_rfl)) ?_
  rintro _ _ ⟨rfl, rfl⟩
  refine AL_p rfl rfl (S_assign rfl (.tmp rfl)) ?_
  refine AL_nil ?_
  refine AC_ret ?_
  refine ret_outs st rfl (by decide) (OutsR.row 1 rfl rfl (by kernel_rfl) (OutsR.tmp rfl OutsR.nil)) (Sub.l (List.Sublist.cons _ (List.Sublist.cons _ (List.Sublist.cons _ (List.Sublist.refl _))))) (Conv.refl (Sub.l (List.Sublist.cons _ (List.Sublist.cons _ (List.Sublist.cons _ (List.Sublist.refl _))))) _) ⟨by rw [hx]; rfl, rfl⟩ (.inl rfl)

end Go.Proofs.YtfmiciodcimkeaaGreatDoor
