/- A part of the proof: what the program's functions answer.
Conditions: none beyond each theorem's own. -/
import Derived.Test.YtfpkefhjomeeeaaGreatDoorW3
set_option linter.unusedVariables false
set_option linter.unusedSimpArgs false
set_option maxRecDepth 100000
namespace Go.Proofs.YtfpkefhjomeeeaaGreatDoor
open Go.AL Go.NumSpec
theorem ref08_Fields_ok (k : Int) : PCalls Tryz.prog 53 [.int .i64 k] (.sl (strsV (fieldsN k.toNat))) := by
 intro st
 refine co 36 Tryz.func53 ?_
 refine AC_seq (AC_region ?_)
 refine ac rfl rfl rfl ?_
 refine AL_nil ?_
 refine AC_seq ?_
 refine AC_seq (AC_region ?_)
 refine mv rfl rfl rfl rfl ?_
 refine AL_nil ?_
 refine AC_block ?_
 refine AC_seq (AC_region ?_)
 refine p_ (S_eql rfl (.tmp rfl) (AEv.const _)) ?_
 refine as_ rfl rfl rfl rfl ?_
 refine AL_nil ?_
 refine AC_cond (.tmp rfl) (fun hb1 => ?_) (fun hb1 => ?_)
 ·try simp only [zA,zO,zN,zM,zP,zQ,zD,zF,gd] at hb1
  have hk : k = 1 := hb1
  subst hk
  refine AC_seq (AC_region ?_)
  refine p_ (S_buildSlice (e := 9) 1 rfl (AEvs.cons (AEv.S _) AEvs.nil) rfl (by kernel_rfl) (by kernel_rfl) (by intro y hy; simp only [List.mem_cons, List.not_mem_nil, or_false] at hy; rcases hy with rfl <;> exact ⟨rfl, rfl⟩) (by decide) (by decide) (by decide)) ?_
  refine as_ rfl rfl rfl rfl ?_
  refine AL_nil (AC_ret ?_)
  refine ret_tmp st rfl rfl (Sub.l (List.Sublist.refl _)) (Conv.refl (Sub.l (List.Sublist.refl _)) _) ⟨rfl, rfl⟩ (.inl rfl)
 try simp only [zA,zO,zN,zM,zP,zQ,zD,zF,gd] at hb1
 refine AC_seq (AC_region ?_)
 refine p_ (S_eql rfl (.tmp rfl) (AEv.const _)) ?_
 refine as_ rfl rfl rfl rfl ?_
 refine AL_nil ?_
 refine AC_cond (.tmp rfl) (fun hb2 => ?_) (fun hb2 => ?_)
 ·try simp only [zA,zO,zN,zM,zP,zQ,zD,zF,gd] at hb2
  have hk : k = 2 := hb2
  subst hk
  refine AC_seq (AC_region ?_)
  refine p_ (S_buildSlice (e := 9) 1 rfl (AEvs.cons (AEv.S _) (AEvs.cons (AEv.S _) (AEvs.cons (AEv.S _) AEvs.nil))) rfl (by kernel_rfl) (by kernel_rfl) (by intro y hy; simp only [List.mem_cons, List.not_mem_nil, or_false] at hy; rcases hy with rfl | rfl | rfl <;> exact ⟨rfl, rfl⟩) (by decide) (by decide) (by decide)) ?_
  refine as_ rfl rfl rfl rfl ?_
  refine AL_nil (AC_ret ?_)
  refine ret_tmp st rfl rfl (Sub.l (List.Sublist.refl _)) (Conv.refl (Sub.l (List.Sublist.refl _)) _) ⟨rfl, rfl⟩ (.inl rfl)
 try simp only [zA,zO,zN,zM,zP,zQ,zD,zF,gd] at hb2
 refine AC_seq (AC_region ?_)
 refine p_ (S_eql rfl (.tmp rfl) (AEv.const _)) ?_
 refine as_ rfl rfl rfl rfl ?_
 refine AL_nil ?_
 refine AC_cond (.tmp rfl) (fun hb3 => ?_) (fun hb3 => ?_)
 ·try simp only [zA,zO,zN,zM,zP,zQ,zD,zF,gd] at hb3
  have hk : k = 3 := hb3
  subst hk
  refine AC_seq (AC_region ?_)
  refine p_ (S_buildSlice (e := 9) 1 rfl (AEvs.cons (AEv.S _) (AEvs.cons (AEv.S _) AEvs.nil)) rfl (by kernel_rfl) (by kernel_rfl) (by intro y hy; simp only [List.mem_cons, List.not_mem_nil, or_false] at hy; rcases hy with rfl | rfl <;> exact ⟨rfl, rfl⟩) (by decide) (by decide) (by decide)) ?_
  refine as_ rfl rfl rfl rfl ?_
  refine AL_nil (AC_ret ?_)
  refine ret_tmp st rfl rfl (Sub.l (List.Sublist.refl _)) (Conv.refl (Sub.l (List.Sublist.refl _)) _) ⟨rfl, rfl⟩ (.inl rfl)
 try simp only [zA,zO,zN,zM,zP,zQ,zD,zF,gd] at hb3
 refine AC_seq (AC_region ?_)
 refine p_ (S_eql rfl (.tmp rfl) (AEv.const _)) ?_
 refine as_ rfl rfl rfl rfl ?_
 refine AL_nil ?_
 refine AC_cond (.tmp rfl) (fun hb4 => ?_) (fun hb4 => ?_)
 ·try simp only [zA,zO,zN,zM,zP,zQ,zD,zF,gd] at hb4
  have hk : k = 4 := hb4
  subst hk
  refine AC_seq (AC_region ?_)
  refine p_ (S_buildSlice (e := 9) 1 rfl (AEvs.cons (AEv.S _) (AEvs.cons (AEv.S _) AEvs.nil)) rfl (by kernel_rfl) (by kernel_rfl) (by intro y hy; simp only [List.mem_cons, List.not_mem_nil, or_false] at hy; rcases hy with rfl | rfl <;> exact ⟨rfl, rfl⟩) (by decide) (by decide) (by decide)) ?_
  refine as_ rfl rfl rfl rfl ?_
  refine AL_nil (AC_ret ?_)
  refine ret_tmp st rfl rfl (Sub.l (List.Sublist.refl _)) (Conv.refl (Sub.l (List.Sublist.refl _)) _) ⟨rfl, rfl⟩ (.inl rfl)
 try simp only [zA,zO,zN,zM,zP,zQ,zD,zF,gd] at hb4
 refine AC_seq (AC_region ?_)
 refine p_ (S_eql rfl (.tmp rfl) (AEv.const _)) ?_
 refine as_ rfl rfl rfl rfl ?_
 refine AL_nil ?_
 refine AC_cond (.tmp rfl) (fun hb5 => ?_) (fun hb5 => ?_)
 ·try simp only [zA,zO,zN,zM,zP,zQ,zD,zF,gd] at hb5
  have hk : k = 5 := hb5
  subst hk
  refine AC_seq (AC_region ?_)
  refine p_ (S_buildSlice (e := 9) 1 rfl (AEvs.cons (AEv.S _) (AEvs.cons (AEv.S _) AEvs.nil)) rfl (by kernel_rfl) (by kernel_rfl) (by intro y hy; simp only [List.mem_cons, List.not_mem_nil, or_false] at hy; rcases hy with rfl | rfl <;> exact ⟨rfl, rfl⟩) (by decide) (by decide) (by decide)) ?_
  refine as_ rfl rfl rfl rfl ?_
  refine AL_nil (AC_ret ?_)
  refine ret_tmp st rfl rfl (Sub.l (List.Sublist.refl _)) (Conv.refl (Sub.l (List.Sublist.refl _)) _) ⟨rfl, rfl⟩ (.inl rfl)
 try simp only [zA,zO,zN,zM,zP,zQ,zD,zF,gd] at hb5
 refine AC_seq (AC_region ?_)
 refine p_ (S_eql rfl (.tmp rfl) (AEv.const _)) ?_
 refine as_ rfl rfl rfl rfl ?_
 refine AL_nil ?_
 refine AC_cond (.tmp rfl) (fun hb6 => ?_) (fun hb6 => ?_)
 ·try simp only [zA,zO,zN,zM,zP,zQ,zD,zF,gd] at hb6
  have hk : k = 6 := hb6
  subst hk
  refine AC_seq (AC_region ?_)
  refine p_ (S_buildSlice (e := 9) 1 rfl (AEvs.cons (AEv.S _) (AEvs.cons (AEv.S _) AEvs.nil)) rfl (by kernel_rfl) (by kernel_rfl) (by intro y hy; simp only [List.mem_cons, List.not_mem_nil, or_false] at hy; rcases hy with rfl | rfl <;> exact ⟨rfl, rfl⟩) (by decide) (by decide) (by decide)) ?_
  refine as_ rfl rfl rfl rfl ?_
  refine AL_nil (AC_ret ?_)
  refine ret_tmp st rfl rfl (Sub.l (List.Sublist.refl _)) (Conv.refl (Sub.l (List.Sublist.refl _)) _) ⟨rfl, rfl⟩ (.inl rfl)
 try simp only [zA,zO,zN,zM,zP,zQ,zD,zF,gd] at hb6
 refine AC_seq ?_
 refine AC_seq (AC_region ?_)
 refine p_ (S_eql rfl (.tmp rfl) (AEv.const _)) ?_
 refine as_ rfl rfl rfl rfl ?_
 refine AL_nil ?_
 refine AC_cond (.tmp rfl) (fun hb7 => ?_) (fun hb7 => ?_)
 ·try simp only [zA,zO,zN,zM,zP,zQ,zD,zF,gd] at hb7
  have hk : k = 7 := hb7
  subst hk
  refine AC_skip ?_
  refine AC_cond (.tmp rfl) (fun hb8 => ?_) (fun hb8 => ?_)
  ·try simp only [zA,zO,zN,zM,zP,zQ,zD,zF,gd] at hb8
   refine AC_seq (AC_region ?_)
   refine p_ (S_buildSlice (e := 9) 1 rfl (AEvs.cons (AEv.S _) AEvs.nil) rfl (by kernel_rfl) (by kernel_rfl) (by intro y hy; simp only [List.mem_cons, List.not_mem_nil, or_false] at hy; rcases hy with rfl <;> exact ⟨rfl, rfl⟩) (by decide) (by decide) (by decide)) ?_
   refine as_ rfl rfl rfl rfl ?_
   refine AL_nil (AC_ret ?_)
   refine ret_tmp st rfl rfl (Sub.l (List.Sublist.refl _)) (Conv.refl (Sub.l (List.Sublist.refl _)) _) ⟨rfl, rfl⟩ (.inl rfl)
  exfalso; simp at hb8
 try simp only [zA,zO,zN,zM,zP,zQ,zD,zF,gd] at hb7
 refine AC_region ?_
 refine p_ (S_eql rfl (.tmp rfl) (AEv.const _)) ?_
 refine as_ rfl rfl rfl rfl ?_
 refine AL_nil ?_
 refine AC_cond (.tmp rfl) (fun hb9 => ?_) (fun hb9 => ?_)
 ·try simp only [zA,zO,zN,zM,zP,zQ,zD,zF,gd] at hb9
  have hk : k = 12 := hb9
  subst hk
  refine AC_seq (AC_region ?_)
  refine p_ (S_buildSlice (e := 9) 1 rfl (AEvs.cons (AEv.S _) AEvs.nil) rfl (by kernel_rfl) (by kernel_rfl) (by intro y hy; simp only [List.mem_cons, List.not_mem_nil, or_false] at hy; rcases hy with rfl <;> exact ⟨rfl, rfl⟩) (by decide) (by decide) (by decide)) ?_
  refine as_ rfl rfl rfl rfl ?_
  refine AL_nil (AC_ret ?_)
  refine ret_tmp st rfl rfl (Sub.l (List.Sublist.refl _)) (Conv.refl (Sub.l (List.Sublist.refl _)) _) ⟨rfl, rfl⟩ (.inl rfl)
 try simp only [zA,zO,zN,zM,zP,zQ,zD,zF,gd] at hb9
 refine AC_seq ?_
 refine AC_seq (AC_region ?_)
 refine p_ (S_eql rfl (.tmp rfl) (AEv.const _)) ?_
 refine as_ rfl rfl rfl rfl ?_
 refine AL_nil ?_
 refine AC_cond (.tmp rfl) (fun hb10 => ?_) (fun hb10 => ?_)
 ·try simp only [zA,zO,zN,zM,zP,zQ,zD,zF,gd] at hb10
  have hk : k = 8 := hb10
  subst hk
  refine AC_skip ?_
  refine AC_cond (.tmp rfl) (fun hb11 => ?_) (fun hb11 => ?_)
  ·try simp only [zA,zO,zN,zM,zP,zQ,zD,zF,gd] at hb11
   refine AC_seq (AC_region ?_)
   refine p_ (S_buildSlice (e := 9) 1 rfl (AEvs.cons (AEv.S _) AEvs.nil) rfl (by kernel_rfl) (by kernel_rfl) (by intro y hy; simp only [List.mem_cons, List.not_mem_nil, or_false] at hy; rcases hy with rfl <;> exact ⟨rfl, rfl⟩) (by decide) (by decide) (by decide)) ?_
   refine as_ rfl rfl rfl rfl ?_
   refine AL_nil (AC_ret ?_)
   refine ret_tmp st rfl rfl (Sub.l (List.Sublist.refl _)) (Conv.refl (Sub.l (List.Sublist.refl _)) _) ⟨rfl, rfl⟩ (.inl rfl)
  exfalso; simp at hb11
 try simp only [zA,zO,zN,zM,zP,zQ,zD,zF,gd] at hb10
 refine AC_region ?_
 refine p_ (S_eql rfl (.tmp rfl) (AEv.const _)) ?_
 refine as_ rfl rfl rfl rfl ?_
 refine AL_nil ?_
 refine AC_cond (.tmp rfl) (fun hb12 => ?_) (fun hb12 => ?_)
 ·try simp only [zA,zO,zN,zM,zP,zQ,zD,zF,gd] at hb12
  have hk : k = 10 := hb12
  subst hk
  refine AC_seq (AC_region ?_)
  refine p_ (S_buildSlice (e := 9) 1 rfl (AEvs.cons (AEv.S _) AEvs.nil) rfl (by kernel_rfl) (by kernel_rfl) (by intro y hy; simp only [List.mem_cons, List.not_mem_nil, or_false] at hy; rcases hy with rfl <;> exact ⟨rfl, rfl⟩) (by decide) (by decide) (by decide)) ?_
  refine as_ rfl rfl rfl rfl ?_
  refine AL_nil (AC_ret ?_)
  refine ret_tmp st rfl rfl (Sub.l (List.Sublist.refl _)) (Conv.refl (Sub.l (List.Sublist.refl _)) _) ⟨rfl, rfl⟩ (.inl rfl)
 try simp only [zA,zO,zN,zM,zP,zQ,zD,zF,gd] at hb12
 refine AC_seq (AC_region ?_)
 refine p_ (S_eql rfl (.tmp rfl) (AEv.const _)) ?_
 refine as_ rfl rfl rfl rfl ?_
 refine AL_nil ?_
 refine AC_cond (.tmp rfl) (fun hb13 => ?_) (fun hb13 => ?_)
 ·try simp only [zA,zO,zN,zM,zP,zQ,zD,zF,gd] at hb13
  have hk : k = 9 := hb13
  subst hk
  refine AC_seq (AC_region ?_)
  refine p_ (S_buildSlice (e := 9) 1 rfl (AEvs.cons (AEv.S _) AEvs.nil) rfl (by kernel_rfl) (by kernel_rfl) (by intro y hy; simp only [List.mem_cons, List.not_mem_nil, or_false] at hy; rcases hy with rfl <;> exact ⟨rfl, rfl⟩) (by decide) (by decide) (by decide)) ?_
  refine as_ rfl rfl rfl rfl ?_
  refine AL_nil (AC_ret ?_)
  refine ret_tmp st rfl rfl (Sub.l (List.Sublist.refl _)) (Conv.refl (Sub.l (List.Sublist.refl _)) _) ⟨rfl, rfl⟩ (.inl rfl)
 try simp only [zA,zO,zN,zM,zP,zQ,zD,zF,gd] at hb13
 refine AC_seq (AC_region ?_)
 refine p_ (S_eql rfl (.tmp rfl) (AEv.const _)) ?_
 refine as_ rfl rfl rfl rfl ?_
 refine AL_nil ?_
 refine AC_cond (.tmp rfl) (fun hb14 => ?_) (fun hb14 => ?_)
 ·try simp only [zA,zO,zN,zM,zP,zQ,zD,zF,gd] at hb14
  have hk : k = 11 := hb14
  subst hk
  refine AC_seq (AC_region ?_)
  refine p_ (S_buildSlice (e := 9) 1 rfl (AEvs.cons (AEv.S _) (AEvs.cons (AEv.S _) AEvs.nil)) rfl (by kernel_rfl) (by kernel_rfl) (by intro y hy; simp only [List.mem_cons, List.not_mem_nil, or_false] at hy; rcases hy with rfl | rfl <;> exact ⟨rfl, rfl⟩) (by decide) (by decide) (by decide)) ?_
  refine as_ rfl rfl rfl rfl ?_
  refine AL_nil (AC_ret ?_)
  refine ret_tmp st rfl rfl (Sub.l (List.Sublist.refl _)) (Conv.refl (Sub.l (List.Sublist.refl _)) _) ⟨rfl, rfl⟩ (.inl rfl)
 try simp only [zA,zO,zN,zM,zP,zQ,zD,zF,gd] at hb14
 have hx : fieldsN k.toNat = [] := by unfold fieldsN; rw [kind_out (by omega)]; rfl
 refine AC_skip ?_
 refine AC_seq (AC_region ?_)
 refine ac rfl rfl rfl ?_
 refine AL_nil (AC_ret ?_)
 refine ret_tmp st rfl rfl (Sub.l (List.Sublist.refl _)) (Conv.le (Sub.l (List.Sublist.refl _)) Le.nils) ⟨by rw [hx] <;> rfl, rfl⟩ (.inl rfl)
theorem ref08_has_ok (l : List (List UInt8)) (s : List UInt8) (hl : l.length ≤ 1000000) : PCalls Tryz.prog 57 [.sl (strsV l), .S s] (.bool (decide (s ∈ l))) := by
 intro st
 refine co 18 Tryz.func57 ?_
 refine AC_seq (AC_region ?_)
 refine ac rfl rfl rfl ?_
 refine AL_nil ?_
 refine AC_seq ?_
 refine AC_seq (AC_region ?_)
 refine ac rfl rfl rfl ?_
 refine AL_nil ?_
 refine AC_block ?_
 refine AC_loopK (G := Nat) [(0, _), (1, _)] (fun g => g ≤ l.length ∧ ∀ j (h : j < l.length), j < g → ¬ (l[j]'h) = s) (fun g => [(5, .int .i64 (g : Int))]) (fun g => st) (fun g => l.length - g) (0) (⟨Nat.zero_le _, fun j _ h => absurd h (Nat.not_lt_zero _)⟩) (Sub.l (List.Sublist.refl _)) (.cons rfl (Le.refl _) (.cons rfl (Le.refl _) .nil)) (.cons rfl (by first | exact Le.refl _ | exact Le.nils | exact Le.row _ _ _ _ | exact Le.of_eq (by first | rfl | (simp; done) | (push_cast; rfl) | (simp; omega))) .nil) ?_
 rintro i ⟨hi, hall⟩
 try dsimp only
 simp only [List.cons_append, List.nil_append]
 refine AC_seq ?_
 refine AC_seq (AC_region ?_)
 refine mv rfl rfl rfl rfl ?_
 refine mv rfl rfl rfl rfl ?_
 refine p_ (by first | exact S_lenM (e := 9) rfl (.tmp rfl) (by kernel_rfl) | exact S_len (e := 9) rfl (.tmp rfl) (by kernel_rfl)) ?_
 refine p_ (S_lss rfl (.tmp rfl) (.tmp rfl)) ?_
 refine AL_nil ?_
 refine AC_cond (.tmp rfl) (fun hb1 => ?_) (fun hb1 => ?_)
 ·try simp only [zA,zO,zN,zM,zP,zQ,zD,zF,gd] at hb1
  have hil : i < l.length := by first | omega | (have h9 := hb1; simp [strsV] at h9; omega)
  refine AC_skip ?_
  refine AC_seq ?_
  refine AC_block ?_
  refine AC_seq (AC_region ?_)
  refine mv rfl rfl rfl rfl ?_
  refine mv rfl rfl rfl rfl ?_
  refine p_ (S_elemN (e := 9) 1 rfl (.tmp rfl) (.tmp rfl) (by kernel_rfl) (by kernel_rfl) (by omega) (fun _ => rfl)) ?_
  refine p_ (S_loadP rfl (.tmp rfl) rfl (by kernel_rfl)) ?_
  refine mv rfl rfl rfl rfl ?_
  refine p_ (S_eqS rfl (.tmp rfl) (.tmp rfl)) ?_
  refine AL_nil ?_
  refine AC_cond (.tmp rfl) (fun hb2 => ?_) (fun hb2 => ?_)
  ·try simp only [zA,zO,zN,zM,zP,zQ,zD,zF,gd] at hb2
   have hx : s ∈ l := by rw [← hb2]; exact List.getElem_mem hil
   refine AC_seq (AC_region ?_)
   refine ac rfl rfl rfl ?_
   refine AL_nil (AC_ret ?_)
   refine ret_tmp st rfl rfl (Sub.l (List.Sublist.refl _)) (Conv.refl (Sub.l (List.Sublist.refl _)) _) ⟨by rw [decide_eq_true hx], rfl⟩ (.inl rfl)
  try simp only [zA,zO,zN,zM,zP,zQ,zD,zF,gd] at hb2
  have hne : ¬ l[i] = s := hb2
  refine AC_skip ?_
  refine AC_region ?_
  refine mv rfl rfl rfl rfl ?_
  refine p_ (S_addI rfl (.tmp rfl) (AEv.const _) (by omega) (by omega)) ?_
  refine as_ rfl rfl rfl rfl ?_
  refine AL_nil ?_
  refine ⟨i + 1, ⟨by omega, fun j h1 h => ?_⟩, by omega, (Sub.l (List.Sublist.refl _)), (.cons rfl (by first | exact Le.refl _ | exact Le.nils | exact Le.row _ _ _ _ | exact Le.of_eq (by first | rfl | (simp; done) | (push_cast; rfl) | (simp; omega))) .nil), (.cons rfl (Le.refl _) (.cons rfl (Le.refl _) .nil))⟩
  rcases Nat.lt_or_ge j i with h' | h'
  ·exact hall j h1 h'
  ·have : j = i := by omega
   subst this
   exact hne
 try simp only [zA,zO,zN,zM,zP,zQ,zD,zF,gd] at hb1
 have hig : l.length ≤ i := by first | omega | (have h9 := hb1; simp [strsV] at h9; omega)
 have hx : ¬ s ∈ l := fun h => by obtain ⟨j, hj, he⟩ := List.getElem_of_mem h; exact hall j hj (by omega) he
 refine AC_exit ?_
 refine AC_seq (AC_region ?_)
 refine ac rfl rfl rfl ?_
 refine AL_nil (AC_ret ?_)
 refine ret_tmp st rfl rfl (Sub.l (List.Sublist.refl _)) (Conv.refl (Sub.l (List.Sublist.refl _)) _) ⟨by rw [decide_eq_false hx], rfl⟩ (.inl rfl)
theorem ref08_bounds_ok (x : Cal) (w : List UInt8) : PCalls Tryz.prog 54 [calAV x, .S w] (.tup [.int .i64 (boundsA x w).1, .int .i64 (boundsA x w).2.1, .int .i64 (boundsA x w).2.2]) := by
 intro st
 refine co 28 Tryz.func54 ?_
 refine AC_seq (AC_region ?_)
 refine s_ (S_box rfl (.tmp rfl)) ?_
 rintro _ _ ⟨b2, rfl, rfl⟩
 refine ac rfl rfl rfl ?_
 refine ac rfl rfl rfl ?_
 refine ac rfl rfl rfl ?_
 refine AL_nil ?_
 refine AC_seq ?_
 refine AC_seq (AC_region ?_)
 refine mv rfl rfl rfl rfl ?_
 refine AL_nil ?_
 refine AC_block ?_
 refine AC_seq (AC_region ?_)
 refine p_ (S_eqS rfl (.tmp rfl) (AEv.S _)) ?_
 refine as_ rfl rfl rfl rfl ?_
 refine AL_nil ?_
 refine AC_cond (.tmp rfl) (fun hb2 => ?_) (fun hb2 => ?_)
 ·try simp only [zA,zO,zN,zM,zP,zQ,zD,zF,gd] at hb2
  have hx : boundsA x w = (x.uid, 1, 1073741824) := (if_pos hb2)
  refine AC_seq (AC_region ?_)
  refine fl 1 ?_
  refine ld 0 ?_
  refine as_ rfl rfl rfl rfl ?_
  refine ac rfl rfl rfl ?_
  refine ac rfl rfl rfl ?_
  refine AL_nil (AC_ret ?_)
  refine ret_tmps (ts := [4, 5, 6]) st rfl (by decide) rfl (Sub.l (List.sublist_cons_self _ _)) (Conv.refl (Sub.l (List.sublist_cons_self _ _)) _) ⟨by rw [hx], rfl⟩ (.inl rfl)
 try simp only [zA,zO,zN,zM,zP,zQ,zD,zF,gd] at hb2
 have hn8 : ¬ w = uidN := hb2
 refine AC_seq (AC_region ?_)
 refine p_ (S_eqS rfl (.tmp rfl) (AEv.S _)) ?_
 refine as_ rfl rfl rfl rfl ?_
 refine AL_nil ?_
 refine AC_cond (.tmp rfl) (fun hb3 => ?_) (fun hb3 => ?_)
 ·try simp only [zA,zO,zN,zM,zP,zQ,zD,zF,gd] at hb3
  have hx : boundsA x w = (x.id, 1, 1073741824) := ((if_neg hn8).trans (if_pos hb3))
  refine AC_seq (AC_region ?_)
  refine fl 12 ?_
  refine ld 0 ?_
  refine as_ rfl rfl rfl rfl ?_
  refine ac rfl rfl rfl ?_
  refine ac rfl rfl rfl ?_
  refine AL_nil (AC_ret ?_)
  refine ret_tmps (ts := [4, 5, 6]) st rfl (by decide) rfl (Sub.l (List.sublist_cons_self _ _)) (Conv.refl (Sub.l (List.sublist_cons_self _ _)) _) ⟨by rw [hx], rfl⟩ (.inl rfl)
 try simp only [zA,zO,zN,zM,zP,zQ,zD,zF,gd] at hb3
 have hn12 : ¬ w = idN := hb3
 refine AC_seq (AC_region ?_)
 refine p_ (S_eqS rfl (.tmp rfl) (AEv.S _)) ?_
 refine as_ rfl rfl rfl rfl ?_
 refine AL_nil ?_
 refine AC_cond (.tmp rfl) (fun hb4 => ?_) (fun hb4 => ?_)
 ·try simp only [zA,zO,zN,zM,zP,zQ,zD,zF,gd] at hb4
  have hx : boundsA x w = (x.grace, 0, 1000) := ((if_neg hn8).trans ((if_neg hn12).trans (if_pos hb4)))
  refine AC_seq (AC_region ?_)
  refine fl 10 ?_
  refine ld 0 ?_
  refine as_ rfl rfl rfl rfl ?_
  refine ac rfl rfl rfl ?_
  refine ac rfl rfl rfl ?_
  refine AL_nil (AC_ret ?_)
  refine ret_tmps (ts := [4, 5, 6]) st rfl (by decide) rfl (Sub.l (List.sublist_cons_self _ _)) (Conv.refl (Sub.l (List.sublist_cons_self _ _)) _) ⟨by rw [hx], rfl⟩ (.inl rfl)
 try simp only [zA,zO,zN,zM,zP,zQ,zD,zF,gd] at hb4
 have hn16 : ¬ w = grcN := hb4
 refine AC_seq (AC_region ?_)
 refine p_ (S_eqS rfl (.tmp rfl) (AEv.S _)) ?_
 refine as_ rfl rfl rfl rfl ?_
 refine AL_nil ?_
 refine AC_cond (.tmp rfl) (fun hb5 => ?_) (fun hb5 => ?_)
 ·try simp only [zA,zO,zN,zM,zP,zQ,zD,zF,gd] at hb5
  have hx : boundsA x w = (x.ctr, 0, 3) := ((if_neg hn8).trans ((if_neg hn12).trans ((if_neg hn16).trans (if_pos hb5))))
  refine AC_seq (AC_region ?_)
  refine fl 11 ?_
  refine ld 0 ?_
  refine as_ rfl rfl rfl rfl ?_
  refine ac rfl rfl rfl ?_
  refine ac rfl rfl rfl ?_
  refine AL_nil (AC_ret ?_)
  refine ret_tmps (ts := [4, 5, 6]) st rfl (by decide) rfl (Sub.l (List.sublist_cons_self _ _)) (Conv.refl (Sub.l (List.sublist_cons_self _ _)) _) ⟨by rw [hx], rfl⟩ (.inl rfl)
 try simp only [zA,zO,zN,zM,zP,zQ,zD,zF,gd] at hb5
 have hn20 : ¬ w = cnN := hb5
 refine AC_seq (AC_region ?_)
 refine p_ (S_eqS rfl (.tmp rfl) (AEv.S _)) ?_
 refine as_ rfl rfl rfl rfl ?_
 refine AL_nil ?_
 refine AC_cond (.tmp rfl) (fun hb6 => ?_) (fun hb6 => ?_)
 ·try simp only [zA,zO,zN,zM,zP,zQ,zD,zF,gd] at hb6
  have hx : boundsA x w = (x.most, 1, 32) := ((if_neg hn8).trans ((if_neg hn12).trans ((if_neg hn16).trans ((if_neg hn20).trans (if_pos hb6)))))
  refine AC_seq (AC_region ?_)
  refine fl 13 ?_
  refine ld 0 ?_
  refine as_ rfl rfl rfl rfl ?_
  refine ac rfl rfl rfl ?_
  refine ac rfl rfl rfl ?_
  refine AL_nil (AC_ret ?_)
  refine ret_tmps (ts := [4, 5, 6]) st rfl (by decide) rfl (Sub.l (List.sublist_cons_self _ _)) (Conv.refl (Sub.l (List.sublist_cons_self _ _)) _) ⟨by rw [hx], rfl⟩ (.inl rfl)
 try simp only [zA,zO,zN,zM,zP,zQ,zD,zF,gd] at hb6
 have hn24 : ¬ w = mstN := hb6
 have hx : boundsA x w = (0, 0, 0) := ((if_neg hn8).trans ((if_neg hn12).trans ((if_neg hn16).trans ((if_neg hn20).trans (if_neg hn24)))))
 refine AC_skip ?_
 refine AC_seq (AC_region ?_)
 refine ac rfl rfl rfl ?_
 refine ac rfl rfl rfl ?_
 refine ac rfl rfl rfl ?_
 refine AL_nil (AC_ret ?_)
 refine ret_tmps (ts := [4, 5, 6]) st rfl (by decide) rfl (Sub.l (List.sublist_cons_self _ _)) (Conv.refl (Sub.l (List.sublist_cons_self _ _)) _) ⟨by rw [hx], rfl⟩ (.inl rfl)
set_option maxHeartbeats 4000000 in
theorem ref08_Check_ok (x : Cal) (hls : lightS x.spec = true) (hll : lightS (onlyL x.sel) = true) (hsx : ShortA x) : PCalls Tryz.prog 24 [calAV x] (cpAV (checkA x)) := by
 intro st
 refine co 213 Tryz.func24 ?_
 have hfw := fields_few x.kind.toNat
 have hfl := fieldsN_few x.kind.toNat
 have hsh := (check_short hls).text
 refine AC_seq (AC_region ?_)
 refine s_ (S_box rfl (.tmp rfl)) ?_
 rintro _ _ ⟨b1, rfl, rfl⟩
 refine ac rfl rfl rfl ?_
 refine p_ (S_assign rfl (AEv.S _)) ?_
 refine AL_nil ?_
 refine AC_seq ?_
 refine AC_seq (AC_region ?_)
 refine fl 0 ?_
 refine ld 0 ?_
 refine p_ (S_lss rfl (.tmp rfl) (AEv.const _)) ?_
 refine mv rfl rfl rfl rfl ?_
 refine g_ (fun _ => fA 0) ?_
 refine g_ (fun _ => lA 0) ?_
 refine g_ (fun _ => S_gtr rfl (AEv.cd (.tmp rfl)) (AEv.const _)) ?_
 refine p_ (S_or rfl (.tmp rfl) (fun hp11 => (AEv.cd (.tmp rfl)))) ?_
 refine AL_nil ?_
 refine AC_cond (.tmp rfl) (fun hb12 => ?_) (fun hb12 => ?_)
 ·try simp only [zA,zO,zN,zM,zP,zQ,zD,zF,gd] at hb12
  have hx : checkA x = some (80, [kindN]) := check_kind (by omega)
  refine AC_seq (AC_region ?_)
  refine ac rfl rfl rfl ?_
  refine p_ (S_assign rfl (AEv.S _)) ?_
  refine AL_nil (AC_ret ?_)
  refine ret_tmps (ts := [2, 3]) st rfl (by decide) rfl (Sub.l (List.sublist_cons_self _ _)) (Conv.refl (Sub.l (List.sublist_cons_self _ _)) _) ⟨cp_some hx (Lib.join_one _ _).symm, rfl⟩ (.inl rfl)
 try simp only [zA,zO,zN,zM,zP,zQ,zD,zF,gd] at hb12
 have hk : 1 ≤ x.kind ∧ x.kind < 13 := by omega
 refine AC_skip ?_
 refine AC_seq (AC_region ?_)
 refine fl 0 ?_
 refine ld 0 ?_
 refine p_ (S_pcall rfl (AEvs.cons (.tmp rfl) AEvs.nil) (ref08_Fields_ok x.kind)) ?_
 refine as_ rfl rfl rfl rfl ?_
 refine AL_nil ?_
 refine AC_seq ?_
 refine AC_seq (AC_region ?_)
 refine ac rfl rfl rfl ?_
 refine AL_nil ?_
 refine AC_block ?_
 refine AC_loopK (G := Nat) [(1, _), (4, _)] (fun g => g ≤ (kindA x.kind.toNat).2.length ∧ ∀ j (h : j < (kindA x.kind.toNat).2.length), j < g → fieldE x ((kindA x.kind.toNat).2[j]'h) = none) (fun g => [(5, .int .i64 (g : Int))]) (fun g => (b1, .cells (calL x)) :: st) (fun g => (kindA x.kind.toNat).2.length - g) (0) (⟨Nat.zero_le _, fun j _ h => absurd h (Nat.not_lt_zero _)⟩) (Sub.l (List.Sublist.refl _)) (.cons rfl (Le.refl _) (.cons rfl (Le.refl _) .nil)) (.cons rfl (by first | exact Le.refl _ | exact Le.nils | exact Le.row _ _ _ _ | exact Le.of_eq (by first | rfl | (simp; done) | (push_cast; rfl) | (simp; omega))) .nil) ?_
 rintro i ⟨hi, hall⟩
 try dsimp only
 simp only [List.cons_append, List.nil_append]
 refine AC_seq ?_
 refine AC_seq (AC_region ?_)
 refine mv rfl rfl rfl rfl ?_
 refine mv rfl rfl rfl rfl ?_
 refine p_ (by first | exact S_lenM (e := 9) rfl (.tmp rfl) (by kernel_rfl) | exact S_len (e := 9) rfl (.tmp rfl) (by kernel_rfl)) ?_
 refine p_ (S_lss rfl (.tmp rfl) (.tmp rfl)) ?_
 refine AL_nil ?_
 refine AC_cond (.tmp rfl) (fun hb13 => ?_) (fun hb13 => ?_)
 ·try simp only [zA,zO,zN,zM,zP,zQ,zD,zF,gd] at hb13
  have hil : i < (fieldsN x.kind.toNat).length := by first | omega | (have h9 := hb13; simp [strsV] at h9; simpa using h9)
  have hif : i < (kindA x.kind.toNat).2.length := by rw [List.length_map] at hil; exact hil
  have hfi : (fieldsN x.kind.toNat)[i]'hil = fname ((kindA x.kind.toNat).2[i]'hif) := List.getElem_map _
  refine AC_skip ?_
  refine AC_seq ?_
  refine AC_block ?_
  refine AC_seq (AC_region ?_)
  refine mv rfl rfl rfl rfl ?_
  refine mv rfl rfl rfl rfl ?_
  refine p_ (S_elemN (e := 9) 1 rfl (.tmp rfl) (.tmp rfl) (by kernel_rfl) (by kernel_rfl) (by omega) (fun _ => rfl)) ?_
  refine p_ (S_loadP rfl (.tmp rfl) rfl (by kernel_rfl)) ?_
  rw [hfi]
  refine as_ rfl rfl rfl rfl ?_
  refine AL_nil (AC_seq (AC_region ?_))
  refine ldN 16 0 ?_
  refine mv rfl rfl rfl rfl ?_
  refine p_ (S_pcall rfl (AEvs.cons (.tmp rfl) (AEvs.cons (.tmp rfl) AEvs.nil)) (ref08_bounds_ok x (fname ((kindA x.kind.toNat).2[i]'hif)))) ?_
  refine mv rfl rfl rfl rfl ?_
  refine ex 0 ?_
  refine ex 1 ?_
  refine ex 2 ?_
  refine as_ rfl rfl rfl rfl ?_
  refine as_ rfl rfl rfl rfl ?_
  refine as_ rfl rfl rfl rfl ?_
  refine AL_nil ?_
  refine AC_seq ?_
  refine AC_seq (AC_region ?_)
  refine mv rfl rfl rfl rfl ?_
  refine mv rfl rfl rfl rfl ?_
  refine p_ (S_lss rfl (.tmp rfl) (.tmp rfl)) ?_
  refine mv rfl rfl rfl rfl ?_
  refine g_ (fun _ => mA) ?_
  refine g_ (fun _ => mA) ?_
  refine g_ (fun _ => S_gtr rfl (AEv.cd (.tmp rfl)) (AEv.cd (.tmp rfl))) ?_
  refine p_ (S_or rfl (.tmp rfl) (fun hp23 => (AEv.cd (.tmp rfl)))) ?_
  refine AL_nil ?_
  refine AC_cond (.tmp rfl) (fun hb24 => ?_) (fun hb24 => ?_)
  ·try simp only [zA,zO,zN,zM,zP,zQ,zD,zF,gd] at hb24
   have hfe := chk_out (kind_letters _ _ (List.getElem_mem hif)) hb24
   have hx := (check_field hk hif hall (by rw [hfe]; simp)).trans hfe
   refine AC_seq (AC_region ?_)
   refine mv rfl rfl rfl rfl ?_
   refine ac rfl rfl rfl ?_
   refine as_ rfl rfl rfl rfl ?_
   refine AL_nil (AC_ret ?_)
   refine ret_tmps (ts := [2, 3]) st rfl (by decide) rfl (Sub.l (List.sublist_cons_self _ _)) (Conv.refl (Sub.l (List.sublist_cons_self _ _)) _) ⟨cp_some hx (Lib.join_one _ _).symm, rfl⟩ (.inl rfl)
  try simp only [zA,zO,zN,zM,zP,zQ,zD,zF,gd] at hb24
  have hnb : ¬ ((boundsA x (fname ((kindA x.kind.toNat).2[i]'hif))).1 < (boundsA x (fname ((kindA x.kind.toNat).2[i]'hif))).2.1 ∨ (boundsA x (fname ((kindA x.kind.toNat).2[i]'hif))).2.2 < (boundsA x (fname ((kindA x.kind.toNat).2[i]'hif))).1) := by omega
  refine AC_skip ?_
  refine AC_seq ?_
  refine AC_seq (AC_region ?_)
  refine mv rfl rfl rfl rfl ?_
  refine p_ (S_eqS rfl (.tmp rfl) (AEv.S _)) ?_
  refine mv rfl rfl rfl rfl ?_
  refine g_ (fun _ => fA 14) ?_
  refine g_ (fun _ => lA 0) ?_
  refine g_ (fun _ => S_lenS (ts := #[]) rfl (AEv.cd (.tmp rfl)) (by kernel_rfl)) ?_
  refine g_ (fun _ => S_gtr rfl (AEv.cd (.tmp rfl)) (AEv.const _)) ?_
  refine an ?_
  refine AL_nil ?_
  refine AC_cond (.tmp rfl) (fun hb38 => ?_) (fun hb38 => ?_)
  ·try simp only [zA,zO,zN,zM,zP,zQ,zD,zF,gd] at hb38
   have hfe := chk_data (x := x) (kind_letters _ _ (List.getElem_mem hif)) hb38.1 hb38.2
   have hx := (check_field hk hif hall (by rw [hfe]; simp)).trans hfe
   refine AC_seq (AC_region ?_)
   refine mv rfl rfl rfl rfl ?_
   refine ac rfl rfl rfl ?_
   refine as_ rfl rfl rfl rfl ?_
   refine AL_nil (AC_ret ?_)
   refine ret_tmps (ts := [2, 3]) st rfl (by decide) rfl (Sub.l (List.sublist_cons_self _ _)) (Conv.refl (Sub.l (List.sublist_cons_self _ _)) _) ⟨cp_some hx (Lib.join_one _ _).symm, rfl⟩ (.inl rfl)
  try simp only [zA,zO,zN,zM,zP,zQ,zD,zF,gd] at hb38
  have hnd : ¬ (fname ((kindA x.kind.toNat).2[i]'hif) = datN ∧ 32 < (x.data.length : Int)) := fun h => hb38.elim (fun h9 => h9 h.1) fun h9 => h9 h.2
  refine AC_skip ?_
  refine AC_seq ?_
  refine AC_seq (AC_region ?_)
  refine mv rfl rfl rfl rfl ?_
  refine p_ (S_eqS rfl (.tmp rfl) (AEv.S _)) ?_
  refine AL_nil ?_
  refine AC_cond (.tmp rfl) (fun hb39 => ?_) (fun hb39 => ?_)
  ·try simp only [zA,zO,zN,zM,zP,zQ,zD,zF,gd] at hb39
   have h115 := chk_spec (kind_letters _ _ (List.getElem_mem hif)) hb39
   refine AC_seq (AC_region ?_)
   refine fl 3 ?_
   refine ldN 7 0 ?_
   refine p_ (S_pcall rfl (AEvs.cons (.tmp rfl) AEvs.nil) (ref06_Check_ok x.spec hls)) ?_
   refine mv rfl rfl rfl rfl ?_
   refine ex 0 ?_
   refine ex 1 ?_
   refine as_ rfl rfl rfl rfl ?_
   refine as_ rfl rfl rfl rfl ?_
   refine AL_nil (AC_seq (AC_region ?_))
   refine mv rfl rfl rfl rfl ?_
   refine p_ (S_neq rfl (.tmp rfl) (AEv.const _)) ?_
   refine AL_nil ?_
   refine AC_cond (.tmp rfl) (fun hb40 => ?_) (fun hb40 => ?_)
   ·try simp only [zA,zO,zN,zM,zP,zQ,zD,zF,gd] at hb40
    have hne : checkE x.spec ≠ none := fun h => hb40 (congrArg erCode h)
    have hfe : fieldE x ((kindA x.kind.toNat).2[i]'hif) = erIn (checkE x.spec) spcN := by rw [h115]; rfl
    have hx := (check_field hk hif hall (by rw [hfe]; exact fun h => hne (erIn_none h))).trans hfe
    refine AC_seq (AC_region ?_)
    refine mv rfl rfl rfl rfl ?_
    refine mv rfl rfl rfl rfl ?_
    refine p_ (S_cat rfl (AEv.S _) (.tmp rfl) (by first | omega | (simp only [List.length_append, List.length_cons, List.length_nil]; omega))) ?_
    refine as_ rfl rfl rfl rfl ?_
    refine as_ rfl rfl rfl rfl ?_
    refine AL_nil (AC_ret ?_)
    refine ret_tmps (ts := [2, 3]) st rfl (by decide) rfl (Sub.l (List.sublist_cons_self _ _)) (Conv.refl (Sub.l (List.sublist_cons_self _ _)) _) ⟨cp_in (well_check _) hne hx rfl, rfl⟩ (.inl rfl)
   try simp only [zA,zO,zN,zM,zP,zQ,zD,zF,gd] at hb40
   have h3 : fname ((kindA x.kind.toNat).2[i]'hif) = spcN → checkE x.spec = none := fun _ => (well_check _).code.1 (by simpa using hb40)
   refine AC_skip ?_
   refine AC_seq (AC_region ?_)
   refine mv rfl rfl rfl rfl ?_
   refine p_ (S_eqS rfl (.tmp rfl) (AEv.S _)) ?_
   refine AL_nil ?_
   refine AC_cond (.tmp rfl) (fun hb41 => ?_) (fun hb41 => ?_)
   ·try simp only [zA,zO,zN,zM,zP,zQ,zD,zF,gd] at hb41
    have h108 := chk_sel (kind_letters _ _ (List.getElem_mem hif)) hb41
    refine AC_seq (AC_region ?_)
    refine fl 15 ?_
    refine ld 0 ?_
    refine p_ (S_pcall rfl (AEvs.cons (AEv.S _) (AEvs.cons (.tmp rfl) AEvs.nil)) (ref06_Labels_ok slN (by decide) x.sel (fun y hy => by have := (onlyL_light hll).2 y hy; omega))) ?_
    refine mv rfl rfl rfl rfl ?_
    refine ex 0 ?_
    refine ex 1 ?_
    refine as_ rfl rfl rfl rfl ?_
    refine as_ rfl rfl rfl rfl ?_
    refine AL_nil (AC_seq (AC_region ?_))
    refine mv rfl rfl rfl rfl ?_
    refine p_ (S_neq rfl (.tmp rfl) (AEv.const _)) ?_
    refine AL_nil ?_
    refine AC_cond (.tmp rfl) (fun hb42 => ?_) (fun hb42 => ?_)
    ·try simp only [zA,zO,zN,zM,zP,zQ,zD,zF,gd] at hb42
     have hne : labelsE slN x.sel ≠ none := fun h => hb42 (congrArg erCode h)
     have hfe : fieldE x ((kindA x.kind.toNat).2[i]'hif) = labelsE slN x.sel := by rw [h108]; rfl
     have hx := (check_field hk hif hall (by rw [hfe]; exact hne)).trans hfe
     refine AC_seq (AC_region ?_)
     refine mv rfl rfl rfl rfl ?_
     refine mv rfl rfl rfl rfl ?_
     refine as_ rfl rfl rfl rfl ?_
     refine as_ rfl rfl rfl rfl ?_
     refine AL_nil (AC_ret ?_)
     refine ret_tmps (ts := [2, 3]) st rfl (by decide) rfl (Sub.l (List.sublist_cons_self _ _)) (Conv.refl (Sub.l (List.sublist_cons_self _ _)) _) ⟨congrArg cpAV hx.symm, rfl⟩ (.inl rfl)
    try simp only [zA,zO,zN,zM,zP,zQ,zD,zF,gd] at hb42
    have h4 : fname ((kindA x.kind.toNat).2[i]'hif) = slN → labelsE slN x.sel = none := fun _ => (well_labels _ _).code.1 (by simpa using hb42)
    refine AC_skip ?_
    refine AC_region ?_
    refine mv rfl rfl rfl rfl ?_
    refine p_ (S_addI rfl (.tmp rfl) (AEv.const _) (by omega) (by omega)) ?_
    refine as_ rfl rfl rfl rfl ?_
    refine AL_nil ?_
    refine ⟨i + 1, ⟨by omega, fun j h1 h => ?_⟩, by omega, (Sub.l (List.Sublist.refl _)), (.cons rfl (by first | exact Le.refl _ | exact Le.nils | exact Le.row _ _ _ _ | exact Le.of_eq (by first | rfl | (simp; done) | (push_cast; rfl) | (simp; omega))) .nil), (.cons rfl (Le.refl _) (.cons rfl (Le.refl _) .nil))⟩
    rcases Nat.lt_or_ge j i with h' | h'
    ·exact hall j h1 h'
    ·have : j = i := by omega
     subst this
     exact chk_none (kind_letters _ _ (List.getElem_mem hif)) hnb hnd h3 h4
   try simp only [zA,zO,zN,zM,zP,zQ,zD,zF,gd] at hb41
   have h4 : fname ((kindA x.kind.toNat).2[i]'hif) = slN → labelsE slN x.sel = none := fun h => absurd h hb41
   refine AC_skip ?_
   refine AC_region ?_
   refine mv rfl rfl rfl rfl ?_
   refine p_ (S_addI rfl (.tmp rfl) (AEv.const _) (by omega) (by omega)) ?_
   refine as_ rfl rfl rfl rfl ?_
   refine AL_nil ?_
   refine ⟨i + 1, ⟨by omega, fun j h1 h => ?_⟩, by omega, (Sub.l (List.Sublist.refl _)), (.cons rfl (by first | exact Le.refl _ | exact Le.nils | exact Le.row _ _ _ _ | exact Le.of_eq (by first | rfl | (simp; done) | (push_cast; rfl) | (simp; omega))) .nil), (.cons rfl (Le.refl _) (.cons rfl (Le.refl _) .nil))⟩
   rcases Nat.lt_or_ge j i with h' | h'
   ·exact hall j h1 h'
   ·have : j = i := by omega
    subst this
    exact chk_none (kind_letters _ _ (List.getElem_mem hif)) hnb hnd h3 h4
  try simp only [zA,zO,zN,zM,zP,zQ,zD,zF,gd] at hb39
  have h3 : fname ((kindA x.kind.toNat).2[i]'hif) = spcN → checkE x.spec = none := fun h => absurd h hb39
  refine AC_skip ?_
  refine AC_seq (AC_region ?_)
  refine mv rfl rfl rfl rfl ?_
  refine p_ (S_eqS rfl (.tmp rfl) (AEv.S _)) ?_
  refine AL_nil ?_
  refine AC_cond (.tmp rfl) (fun hb43 => ?_) (fun hb43 => ?_)
  ·try simp only [zA,zO,zN,zM,zP,zQ,zD,zF,gd] at hb43
   have h108 := chk_sel (kind_letters _ _ (List.getElem_mem hif)) hb43
   refine AC_seq (AC_region ?_)
   refine fl 15 ?_
   refine ld 0 ?_
   refine p_ (S_pcall rfl (AEvs.cons (AEv.S _) (AEvs.cons (.tmp rfl) AEvs.nil)) (ref06_Labels_ok slN (by decide) x.sel (fun y hy => by have := (onlyL_light hll).2 y hy; omega))) ?_
   refine mv rfl rfl rfl rfl ?_
   refine ex 0 ?_
   refine ex 1 ?_
   refine as_ rfl rfl rfl rfl ?_
   refine as_ rfl rfl rfl rfl ?_
   refine AL_nil (AC_seq (AC_region ?_))
   refine mv rfl rfl rfl rfl ?_
   refine p_ (S_neq rfl (.tmp rfl) (AEv.const _)) ?_
   refine AL_nil ?_
   refine AC_cond (.tmp rfl) (fun hb44 => ?_) (fun hb44 => ?_)
   ·try simp only [zA,zO,zN,zM,zP,zQ,zD,zF,gd] at hb44
    have hne : labelsE slN x.sel ≠ none := fun h => hb44 (congrArg erCode h)
    have hfe : fieldE x ((kindA x.kind.toNat).2[i]'hif) = labelsE slN x.sel := by rw [h108]; rfl
    have hx := (check_field hk hif hall (by rw [hfe]; exact hne)).trans hfe
    refine AC_seq (AC_region ?_)
    refine mv rfl rfl rfl rfl ?_
    refine mv rfl rfl rfl rfl ?_
    refine as_ rfl rfl rfl rfl ?_
    refine as_ rfl rfl rfl rfl ?_
    refine AL_nil (AC_ret ?_)
    refine ret_tmps (ts := [2, 3]) st rfl (by decide) rfl (Sub.l (List.sublist_cons_self _ _)) (Conv.refl (Sub.l (List.sublist_cons_self _ _)) _) ⟨congrArg cpAV hx.symm, rfl⟩ (.inl rfl)
   try simp only [zA,zO,zN,zM,zP,zQ,zD,zF,gd] at hb44
   have h4 : fname ((kindA x.kind.toNat).2[i]'hif) = slN → labelsE slN x.sel = none := fun _ => (well_labels _ _).code.1 (by simpa using hb44)
   refine AC_skip ?_
   refine AC_region ?_
   refine mv rfl rfl rfl rfl ?_
   refine p_ (S_addI rfl (.tmp rfl) (AEv.const _) (by omega) (by omega)) ?_
   refine as_ rfl rfl rfl rfl ?_
   refine AL_nil ?_
   refine ⟨i + 1, ⟨by omega, fun j h1 h => ?_⟩, by omega, (Sub.l (List.Sublist.refl _)), (.cons rfl (by first | exact Le.refl _ | exact Le.nils | exact Le.row _ _ _ _ | exact Le.of_eq (by first | rfl | (simp; done) | (push_cast; rfl) | (simp; omega))) .nil), (.cons rfl (Le.refl _) (.cons rfl (Le.refl _) .nil))⟩
   rcases Nat.lt_or_ge j i with h' | h'
   ·exact hall j h1 h'
   ·have : j = i := by omega
    subst this
    exact chk_none (kind_letters _ _ (List.getElem_mem hif)) hnb hnd h3 h4
  try simp only [zA,zO,zN,zM,zP,zQ,zD,zF,gd] at hb43
  have h4 : fname ((kindA x.kind.toNat).2[i]'hif) = slN → labelsE slN x.sel = none := fun h => absurd h hb43
  refine AC_skip ?_
  refine AC_region ?_
  refine mv rfl rfl rfl rfl ?_
  refine p_ (S_addI rfl (.tmp rfl) (AEv.const _) (by omega) (by omega)) ?_
  refine as_ rfl rfl rfl rfl ?_
  refine AL_nil ?_
  refine ⟨i + 1, ⟨by omega, fun j h1 h => ?_⟩, by omega, (Sub.l (List.Sublist.refl _)), (.cons rfl (by first | exact Le.refl _ | exact Le.nils | exact Le.row _ _ _ _ | exact Le.of_eq (by first | rfl | (simp; done) | (push_cast; rfl) | (simp; omega))) .nil), (.cons rfl (Le.refl _) (.cons rfl (Le.refl _) .nil))⟩
  rcases Nat.lt_or_ge j i with h' | h'
  ·exact hall j h1 h'
  ·have : j = i := by omega
   subst this
   exact chk_none (kind_letters _ _ (List.getElem_mem hif)) hnb hnd h3 h4
 try simp only [zA,zO,zN,zM,zP,zQ,zD,zF,gd] at hb13
 have hig : (kindA x.kind.toNat).2.length ≤ i := by first | omega | (have h9 := hb13; simp [strsV] at h9; simpa using h9)
 have hfn : ∀ f ∈ (kindA x.kind.toNat).2, fieldE x f = none := fun f hf => by
  obtain ⟨j, hj, rfl⟩ := List.getElem_of_mem hf
  exact hall j hj (by omega)
 refine AC_exit ?_
 refine AC_seq (AC_region ?_)
 refine fl 3 ?_
 refine ldN 7 0 ?_
 refine s_ (S_alloc [.string ⟨#[]⟩, .slice none 0 0, .slice none 0 0, .slice none 0 0, .int .i64 0, .int .i64 0, .int .i64 0] rfl (by kernel_rfl)) ?_
 rintro _ _ ⟨b14, rfl, rfl⟩
 refine stW 0 ?_
 refine AL_nil (AC_seq (AC_region ?_))
 refine fl 0 ?_
 refine ld 0 ?_
 refine p_ (S_eqS rfl (.tmp rfl) (AEv.S _)) ?_
 refine mv rfl rfl rfl rfl ?_
 refine g_ (fun _ => fA 1) ?_
 refine g_ (fun _ => lA 0) ?_
 refine g_ (fun _ => by first | exact S_lenM (e := 123) rfl (AEv.cd (.tmp rfl)) (by kernel_rfl) | exact S_len (e := 123) rfl (AEv.cd (.tmp rfl)) (by kernel_rfl)) ?_
 refine g_ (fun _ => S_eql rfl (AEv.cd (.tmp rfl)) (AEv.const _)) ?_
 refine an ?_
 refine mv rfl rfl rfl rfl ?_
 refine g_ (fun _ => fA 2) ?_
 refine g_ (fun _ => lA 0) ?_
 refine g_ (fun _ => by first | exact S_lenM (e := 67) rfl (AEv.cd (.tmp rfl)) (by kernel_rfl) | exact S_len (e := 67) rfl (AEv.cd (.tmp rfl)) (by kernel_rfl)) ?_
 refine g_ (fun _ => S_eql rfl (AEv.cd (.tmp rfl)) (AEv.const _)) ?_
 refine an ?_
 refine mv rfl rfl rfl rfl ?_
 refine g_ (fun _ => fA 3) ?_
 refine g_ (fun _ => lA 0) ?_
 refine g_ (fun _ => by first | exact S_lenM (e := 67) rfl (AEv.cd (.tmp rfl)) (by kernel_rfl) | exact S_len (e := 67) rfl (AEv.cd (.tmp rfl)) (by kernel_rfl)) ?_
 refine g_ (fun _ => S_eql rfl (AEv.cd (.tmp rfl)) (AEv.const _)) ?_
 refine an ?_
 refine mv rfl rfl rfl rfl ?_
 refine g_ (fun _ => fA 4) ?_
 refine g_ (fun _ => lA 0) ?_
 refine g_ (fun _ => S_eql rfl (AEv.cd (.tmp rfl)) (AEv.const _)) ?_
 refine an ?_
 refine mv rfl rfl rfl rfl ?_
 refine g_ (fun _ => fA 5) ?_
 refine g_ (fun _ => lA 0) ?_
 refine g_ (fun _ => S_eql rfl (AEv.cd (.tmp rfl)) (AEv.const _)) ?_
 refine an ?_
 refine mv rfl rfl rfl rfl ?_
 refine g_ (fun _ => fA 6) ?_
 refine g_ (fun _ => lA 0) ?_
 refine g_ (fun _ => S_eql rfl (AEv.cd (.tmp rfl)) (AEv.const _)) ?_
 refine an ?_
 refine as_ rfl rfl rfl rfl ?_
 refine AL_nil ?_
 refine AC_seq ?_
 refine AC_seq (AC_region ?_)
 refine mv rfl rfl rfl rfl ?_
 refine p_ (S_pcall rfl (AEvs.cons (.tmp rfl) (AEvs.cons (AEv.S _) AEvs.nil)) ((ref08_has_ok (fieldsN x.kind.toNat) uidN (by omega)).of_eq (congrArg AV.bool (has_at x.kind.toNat (g := 117) (by unfold Letter; simp))))) ?_
 refine p_ (S_not rfl (.tmp rfl)) ?_
 refine mv rfl rfl rfl rfl ?_
 refine g_ (fun _ => fA 1) ?_
 refine g_ (fun _ => lA 1) ?_
 refine g_ (fun _ => S_neq rfl (AEv.cd (.tmp rfl)) (AEv.const _)) ?_
 refine an ?_
 refine mv rfl rfl rfl rfl ?_
 refine g_ (fun _ => mA) ?_
 refine g_ (fun _ => S_pcall rfl (AEvs.cons (AEv.cd (.tmp rfl)) (AEvs.cons (AEv.S _) AEvs.nil)) ((ref08_has_ok (fieldsN x.kind.toNat) revN (by omega)).of_eq (congrArg AV.bool (has_at x.kind.toNat (g := 114) (by unfold Letter; simp))))) ?_
 refine g_ (fun _ => S_not rfl (AEv.cd (.tmp rfl))) ?_
 refine g_ (fun _ => S_move rfl (AEv.cd (.tmp rfl))) ?_
 refine AL_gg rfl rfl (.tmp rfl) rfl (fun hg137 hg138 hg139 => S_field 2 rfl (.tmp rfl) (by kernel_rfl)) ?_
 refine AL_gg rfl rfl (.tmp rfl) rfl (fun hg140 hg141 hg142 => S_load 1 rfl (AEv.cd (.tmp rfl)) rfl rfl (by kernel_rfl)) ?_
 refine AL_gg rfl rfl (.tmp rfl) rfl (fun hg143 hg144 hg145 => S_neq rfl (AEv.cd (.tmp rfl)) (AEv.const _)) ?_
 refine g_ (fun _ => S_and rfl (AEv.cd (.tmp rfl)) (fun hp149 => (AEv.cd (.tmp rfl)))) ?_
 refine p_ (S_or rfl (.tmp rfl) (fun hp150 => (AEv.cd (.tmp rfl)))) ?_
 refine mv rfl rfl rfl rfl ?_
 refine g_ (fun _ => mA) ?_
 refine g_ (fun _ => S_pcall rfl (AEvs.cons (AEv.cd (.tmp rfl)) (AEvs.cons (AEv.S _) AEvs.nil)) ((ref08_has_ok (fieldsN x.kind.toNat) spcN (by omega)).of_eq (congrArg AV.bool (has_at x.kind.toNat (g := 115) (by unfold Letter; simp))))) ?_
 refine g_ (fun _ => S_not rfl (AEv.cd (.tmp rfl))) ?_
 refine g_ (fun _ => S_move rfl (AEv.cd (.tmp rfl))) ?_
 refine AL_gg rfl rfl (.tmp rfl) rfl (fun hg163 hg164 hg165 => S_move rfl (.tmp rfl)) ?_
 refine AL_gg rfl rfl (.tmp rfl) rfl (fun hg166 hg167 hg168 => S_not rfl (AEv.cd (.tmp rfl))) ?_
 refine g_ (fun _ => S_and rfl (AEv.cd (.tmp rfl)) (fun hp172 => (AEv.cd (.tmp rfl)))) ?_
 refine p_ (S_or rfl (.tmp rfl) (fun hp173 => (AEv.cd (.tmp rfl)))) ?_
 refine mv rfl rfl rfl rfl ?_
 refine g_ (fun _ => mA) ?_
 refine g_ (fun _ => S_pcall rfl (AEvs.cons (AEv.cd (.tmp rfl)) (AEvs.cons (AEv.S _) AEvs.nil)) ((ref08_has_ok (fieldsN x.kind.toNat) grcN (by omega)).of_eq (congrArg AV.bool (has_at x.kind.toNat (g := 103) (by unfold Letter; simp))))) ?_
 refine g_ (fun _ => S_not rfl (AEv.cd (.tmp rfl))) ?_
 refine g_ (fun _ => S_move rfl (AEv.cd (.tmp rfl))) ?_
 refine AL_gg rfl rfl (.tmp rfl) rfl (fun hg186 hg187 hg188 => S_field 10 rfl (.tmp rfl) (by kernel_rfl)) ?_
 refine AL_gg rfl rfl (.tmp rfl) rfl (fun hg189 hg190 hg191 => S_load 1 rfl (AEv.cd (.tmp rfl)) rfl rfl (by kernel_rfl)) ?_
 refine AL_gg rfl rfl (.tmp rfl) rfl (fun hg192 hg193 hg194 => S_neq rfl (AEv.cd (.tmp rfl)) (AEv.const _)) ?_
 refine g_ (fun _ => S_and rfl (AEv.cd (.tmp rfl)) (fun hp198 => (AEv.cd (.tmp rfl)))) ?_
 refine p_ (S_or rfl (.tmp rfl) (fun hp199 => (AEv.cd (.tmp rfl)))) ?_
 refine mv rfl rfl rfl rfl ?_
 refine g_ (fun _ => mA) ?_
 refine g_ (fun _ => S_pcall rfl (AEvs.cons (AEv.cd (.tmp rfl)) (AEvs.cons (AEv.S _) AEvs.nil)) ((ref08_has_ok (fieldsN x.kind.toNat) cnN (by omega)).of_eq (congrArg AV.bool (has_at x.kind.toNat (g := 99) (by unfold Letter; simp))))) ?_
 refine g_ (fun _ => S_not rfl (AEv.cd (.tmp rfl))) ?_
 refine g_ (fun _ => S_move rfl (AEv.cd (.tmp rfl))) ?_
 refine AL_gg rfl rfl (.tmp rfl) rfl (fun hg212 hg213 hg214 => S_field 11 rfl (.tmp rfl) (by kernel_rfl)) ?_
 refine AL_gg rfl rfl (.tmp rfl) rfl (fun hg215 hg216 hg217 => S_load 1 rfl (AEv.cd (.tmp rfl)) rfl rfl (by kernel_rfl)) ?_
 refine AL_gg rfl rfl (.tmp rfl) rfl (fun hg218 hg219 hg220 => S_neq rfl (AEv.cd (.tmp rfl)) (AEv.const _)) ?_
 refine g_ (fun _ => S_and rfl (AEv.cd (.tmp rfl)) (fun hp224 => (AEv.cd (.tmp rfl)))) ?_
 refine p_ (S_or rfl (.tmp rfl) (fun hp225 => (AEv.cd (.tmp rfl)))) ?_
 refine mv rfl rfl rfl rfl ?_
 refine g_ (fun _ => mA) ?_
 refine g_ (fun _ => S_pcall rfl (AEvs.cons (AEv.cd (.tmp rfl)) (AEvs.cons (AEv.S _) AEvs.nil)) ((ref08_has_ok (fieldsN x.kind.toNat) idN (by omega)).of_eq (congrArg AV.bool (has_at x.kind.toNat (g := 105) (by unfold Letter; simp))))) ?_
 refine g_ (fun _ => S_not rfl (AEv.cd (.tmp rfl))) ?_
 refine g_ (fun _ => S_move rfl (AEv.cd (.tmp rfl))) ?_
 refine AL_gg rfl rfl (.tmp rfl) rfl (fun hg238 hg239 hg240 => S_field 12 rfl (.tmp rfl) (by kernel_rfl)) ?_
 refine AL_gg rfl rfl (.tmp rfl) rfl (fun hg241 hg242 hg243 => S_load 1 rfl (AEv.cd (.tmp rfl)) rfl rfl (by kernel_rfl)) ?_
 refine AL_gg rfl rfl (.tmp rfl) rfl (fun hg244 hg245 hg246 => S_neq rfl (AEv.cd (.tmp rfl)) (AEv.const _)) ?_
 refine g_ (fun _ => S_and rfl (AEv.cd (.tmp rfl)) (fun hp250 => (AEv.cd (.tmp rfl)))) ?_
 refine p_ (S_or rfl (.tmp rfl) (fun hp251 => (AEv.cd (.tmp rfl)))) ?_
 refine mv rfl rfl rfl rfl ?_
 refine g_ (fun _ => mA) ?_
 refine g_ (fun _ => S_pcall rfl (AEvs.cons (AEv.cd (.tmp rfl)) (AEvs.cons (AEv.S _) AEvs.nil)) ((ref08_has_ok (fieldsN x.kind.toNat) mstN (by omega)).of_eq (congrArg AV.bool (has_at x.kind.toNat (g := 109) (by unfold Letter; simp))))) ?_
 refine g_ (fun _ => S_not rfl (AEv.cd (.tmp rfl))) ?_
 refine g_ (fun _ => S_move rfl (AEv.cd (.tmp rfl))) ?_
 refine AL_gg rfl rfl (.tmp rfl) rfl (fun hg264 hg265 hg266 => S_field 13 rfl (.tmp rfl) (by kernel_rfl)) ?_
 refine AL_gg rfl rfl (.tmp rfl) rfl (fun hg267 hg268 hg269 => S_load 1 rfl (AEv.cd (.tmp rfl)) rfl rfl (by kernel_rfl)) ?_
 refine AL_gg rfl rfl (.tmp rfl) rfl (fun hg270 hg271 hg272 => S_neq rfl (AEv.cd (.tmp rfl)) (AEv.const _)) ?_
 refine g_ (fun _ => S_and rfl (AEv.cd (.tmp rfl)) (fun hp276 => (AEv.cd (.tmp rfl)))) ?_
 refine p_ (S_or rfl (.tmp rfl) (fun hp277 => (AEv.cd (.tmp rfl)))) ?_
 refine mv rfl rfl rfl rfl ?_
 refine g_ (fun _ => mA) ?_
 refine g_ (fun _ => S_pcall rfl (AEvs.cons (AEv.cd (.tmp rfl)) (AEvs.cons (AEv.S _) AEvs.nil)) ((ref08_has_ok (fieldsN x.kind.toNat) datN (by omega)).of_eq (congrArg AV.bool (has_at x.kind.toNat (g := 100) (by unfold Letter; simp))))) ?_
 refine g_ (fun _ => S_not rfl (AEv.cd (.tmp rfl))) ?_
 refine g_ (fun _ => S_move rfl (AEv.cd (.tmp rfl))) ?_
 refine AL_gg rfl rfl (.tmp rfl) rfl (fun hg290 hg291 hg292 => S_field 14 rfl (.tmp rfl) (by kernel_rfl)) ?_
 refine AL_gg rfl rfl (.tmp rfl) rfl (fun hg293 hg294 hg295 => S_load 1 rfl (AEv.cd (.tmp rfl)) rfl rfl (by kernel_rfl)) ?_
 refine AL_gg rfl rfl (.tmp rfl) rfl (fun hg296 hg297 hg298 => S_neS rfl (AEv.cd (.tmp rfl)) (AEv.S _)) ?_
 refine g_ (fun _ => S_and rfl (AEv.cd (.tmp rfl)) (fun hp302 => (AEv.cd (.tmp rfl)))) ?_
 refine p_ (S_or rfl (.tmp rfl) (fun hp303 => (AEv.cd (.tmp rfl)))) ?_
 refine mv rfl rfl rfl rfl ?_
 refine g_ (fun _ => mA) ?_
 refine g_ (fun _ => S_pcall rfl (AEvs.cons (AEv.cd (.tmp rfl)) (AEvs.cons (AEv.S _) AEvs.nil)) ((ref08_has_ok (fieldsN x.kind.toNat) slN (by omega)).of_eq (congrArg AV.bool (has_at x.kind.toNat (g := 108) (by unfold Letter; simp))))) ?_
 refine g_ (fun _ => S_not rfl (AEv.cd (.tmp rfl))) ?_
 refine g_ (fun _ => S_move rfl (AEv.cd (.tmp rfl))) ?_
 refine AL_gg rfl rfl (.tmp rfl) rfl (fun hg316 hg317 hg318 => S_field 15 rfl (.tmp rfl) (by kernel_rfl)) ?_
 refine AL_gg rfl rfl (.tmp rfl) rfl (fun hg319 hg320 hg321 => S_load 1 rfl (AEv.cd (.tmp rfl)) rfl rfl (by kernel_rfl)) ?_
 refine AL_gg rfl rfl (.tmp rfl) rfl (fun hg322 hg323 hg324 => by first | exact S_lenM (e := 123) rfl (AEv.cd (.tmp rfl)) (by kernel_rfl) | exact S_len (e := 123) rfl (AEv.cd (.tmp rfl)) (by kernel_rfl)) ?_
 refine AL_gg rfl rfl (.tmp rfl) rfl (fun hg325 hg326 hg327 => S_gtr rfl (AEv.cd (.tmp rfl)) (AEv.const _)) ?_
 refine g_ (fun _ => S_and rfl (AEv.cd (.tmp rfl)) (fun hp331 => (AEv.cd (.tmp rfl)))) ?_
 refine p_ (S_or rfl (.tmp rfl) (fun hp332 => (AEv.cd (.tmp rfl)))) ?_
 refine AL_nil ?_
 refine AC_cond (.tmp rfl) (fun hb333 => ?_) (fun hb333 => ?_)
 ·try simp only [zA,zO,zN,zM,zP,zQ,zD,zF,gd] at hb333
  have hx : checkA x = some (4, [callN]) := check_unclean hk hfn (not_clean ref_clean (by simp only [Classical.not_and_iff_not_or_not, not_or, Classical.not_not]; exact hb333))
  refine AC_seq (AC_region ?_)
  refine ac rfl rfl rfl ?_
  refine p_ (S_assign rfl (AEv.S _)) ?_
  refine AL_nil (AC_ret ?_)
  refine ret_tmps (ts := [2, 3]) st rfl (by decide) rfl (Sub.l ((List.sublist_cons_self _ _).trans (List.sublist_cons_self _ _))) (Conv.refl (Sub.l ((List.sublist_cons_self _ _).trans (List.sublist_cons_self _ _))) _) ⟨cp_some hx (Lib.join_one _ _).symm, rfl⟩ (.inl rfl)
 try simp only [zA,zO,zN,zM,zP,zQ,zD,zF,gd] at hb333
 have hx : checkA x = none := check_clean hk hfn (ref_clean.2 hb333)
 refine AC_skip ?_
 refine AC_seq (AC_region ?_)
 refine ac rfl rfl rfl ?_
 refine p_ (S_assign rfl (AEv.S _)) ?_
 refine AL_nil (AC_ret ?_)
 refine ret_tmps (ts := [2, 3]) st rfl (by decide) rfl (Sub.l ((List.sublist_cons_self _ _).trans (List.sublist_cons_self _ _))) (Conv.refl (Sub.l ((List.sublist_cons_self _ _).trans (List.sublist_cons_self _ _))) _) ⟨cp_none hx, rfl⟩ (.inl rfl)
end Go.Proofs.YtfpkefhjomeeeaaGreatDoor

set_option maxRecDepth 100000
namespace Go.Proofs.YtfpkefhjomeeeaaGreatDoor
open Go.AL Go.NumSpec
theorem ref07_number_ok (n : Int) (h0 : 0 ≤ n) (hn : n ≤ 9223372036854775807) : PCalls Tryz.prog 98 [.int .i64 n] (.S (numB n)) := by
 intro st
 refine co 6 Tryz.func98 ?_
 refine AC_seq (AC_region ?_)
 refine p_ (S_assign rfl (AEv.S _)) ?_
 refine AL_nil (AC_seq (AC_region ?_))
 refine mv rfl rfl rfl rfl ?_
 refine p_ ((S_conv (k' := .u64) rfl (.tmp rfl) (by kernel_rfl) (by kernel_rfl)).ofV (V' := .int .u64 (((n).toNat : Nat) : Int)) (congrArg (AV.int .u64) (by rw [u64w]; omega))) ?_
 refine p_ (S_pcall rfl (AEvs.cons (.tmp rfl) AEvs.nil) (ref_Put_ok n.toNat (by omega))) ?_
 refine as_ rfl rfl rfl rfl ?_
 refine AL_nil (AC_ret ?_)
 refine ret_tmp st rfl rfl (Sub.l (List.Sublist.refl _)) (Conv.refl (Sub.l (List.Sublist.refl _)) _) ⟨rfl, rfl⟩ (.inl rfl)
theorem ref04_Bytes_ok (s : List UInt8) (hs : s.length ≤ 1000000000) : PCalls Tryz.prog 60 [.S s] (.S (textB s)) := by
 intro st
 refine co 9 Tryz.func60 ?_
 have hp := putL_few s.length (by omega)
 refine AC_seq (AC_region ?_)
 refine p_ (S_assign rfl (AEv.S _)) ?_
 refine AL_nil (AC_seq (AC_region ?_))
 refine mv rfl rfl rfl rfl ?_
 refine p_ (S_lenS (ts := #[]) rfl (.tmp rfl) (by kernel_rfl)) ?_
 refine p_ ((S_conv (k' := .u64) rfl (.tmp rfl) (by kernel_rfl) (by kernel_rfl)).ofV (V' := .int .u64 ((((s.length : Int)).toNat : Nat) : Int)) (congrArg (AV.int .u64) (by rw [u64w]; omega))) ?_
 refine p_ (S_pcall rfl (AEvs.cons (.tmp rfl) AEvs.nil) (ref_Put_ok s.length (by omega))) ?_
 refine mv rfl rfl rfl rfl ?_
 refine p_ (S_cat rfl (.tmp rfl) (.tmp rfl) (by omega)) ?_
 refine as_ rfl rfl rfl rfl ?_
 refine AL_nil (AC_ret ?_)
 refine ret_tmp st rfl rfl (Sub.l (List.Sublist.refl _)) (Conv.refl (Sub.l (List.Sublist.refl _)) _) ⟨rfl, rfl⟩ (.inl rfl)
theorem ref07_Labels_ok (l : List Lab) (hl : l.length ≤ 1000) (hls : ∀ x ∈ l, x.1.length ≤ 400 ∧ x.2.length ≤ 400) : PCalls Tryz.prog 61 [.sl (labsV l)] (.S (listB labB l)) := by
 intro st
 refine co 30 Tryz.func61 ?_
 have hp := putL_few l.length (by omega)
 have hen : ∀ x ∈ l, (labB x).length ≤ 1000 := fun x hx => labB_len (hls x hx).1 (hls x hx).2
 refine AC_seq (AC_region ?_)
 refine p_ (S_assign rfl (AEv.S _)) ?_
 refine AL_nil (AC_seq (AC_region ?_))
 refine mv rfl rfl rfl rfl ?_
 refine p_ (by first | exact S_lenM (e := 123) rfl (.tmp rfl) (by kernel_rfl) | exact S_len (e := 123) rfl (.tmp rfl) (by kernel_rfl)) ?_
 refine p_ (S_pcall rfl (AEvs.cons (.tmp rfl) AEvs.nil) (ref07_number_ok (l.length : Int) (by omega) (by omega))) ?_
 refine as_ rfl rfl rfl rfl ?_
 refine AL_nil ?_
 refine AC_seq ?_
 refine AC_seq (AC_region ?_)
 refine ac rfl rfl rfl ?_
 refine AL_nil ?_
 refine AC_block ?_
 refine AC_loopK (G := Nat) [(0, _), (2, _)] (fun g => g ≤ l.length) (fun g => [(3, .S (putL l.length ++ (l.take g).flatMap labB)), (4, .int .i64 (g : Int))]) (fun g => st) (fun g => l.length - g) (0) (Nat.zero_le _) (Sub.l (List.Sublist.refl _)) (.cons rfl (Le.refl _) (.cons rfl (Le.refl _) .nil)) (.cons rfl (Le.of_eq (congrArg AV.S (by simp [numB]))) (.cons rfl (by first | exact Le.refl _ | exact Le.nils | exact Le.row _ _ _ _ | exact Le.of_eq (by first | rfl | (simp; done) | (push_cast; rfl) | (simp; omega))) .nil)) ?_
 rintro i hi
 try dsimp only
 simp only [List.cons_append, List.nil_append]
 have hfm := flatB_len (e := labB) (B := 1000) (l := l.take i) fun x hx => hen x (List.mem_of_mem_take hx)
 rw [List.length_take, show min i l.length = i by omega] at hfm
 refine AC_seq ?_
 refine AC_seq (AC_region ?_)
 refine mv rfl rfl rfl rfl ?_
 refine mv rfl rfl rfl rfl ?_
 refine p_ (by first | exact S_lenM (e := 123) rfl (.tmp rfl) (by kernel_rfl) | exact S_len (e := 123) rfl (.tmp rfl) (by kernel_rfl)) ?_
 refine p_ (S_lss rfl (.tmp rfl) (.tmp rfl)) ?_
 refine AL_nil ?_
 refine AC_cond (.tmp rfl) (fun hb1 => ?_) (fun hb1 => ?_)
 ·try simp only [zA,zO,zN,zM,zP,zQ,zD,zF,gd] at hb1
  have hil : i < l.length := by omega
  have hx := hls _ (List.getElem_mem hil)
  have n1 := textB_len (s := (l[i]'hil).1) (by omega)
  have n2 := textB_len (s := (l[i]'hil).2) (by omega)
  refine AC_skip ?_
  refine AC_seq ?_
  refine AC_block ?_
  refine AC_draw (by kernel_rfl) (by kernel_rfl) (.cons rfl (Q_p rfl (S_move rfl (.tmp rfl))) <|
    .cons rfl (Q_p rfl (S_move rfl (.tmp rfl))) <|
    .cons rfl (Q_p rfl (S_move rfl (.tmp rfl))) <|
    .cons rfl (Q_p rfl (S_elemN (e := 123) 2 rfl (.tmp rfl) (.tmp rfl) (by kernel_rfl) (by kernel_rfl) (by omega) (fun _ => rfl))) <|
    .cons rfl (Q_p rfl (S_fieldP 0 rfl (.tmp rfl) (by kernel_rfl))) <|
    .cons rfl (Q_p rfl (S_loadP rfl (.tmp rfl) rfl (by kernel_rfl))) <|
    .cons rfl (Q_p rfl (S_pcall rfl (AEvs.cons (.tmp rfl) AEvs.nil) (ref04_Bytes_ok (l[i]'hil).1 (by omega)))) <|
    .cons rfl (Q_p rfl (S_cat rfl (.tmp rfl) (.tmp rfl) (by simp only [List.length_append]; omega))) <|
    .cons rfl (Q_p rfl (S_move rfl (.tmp rfl))) <|
    .cons rfl (Q_p rfl (S_move rfl (.tmp rfl))) <|
    .cons rfl (Q_p rfl (S_elemN (e := 123) 2 rfl (.tmp rfl) (.tmp rfl) (by kernel_rfl) (by kernel_rfl) (by omega) (fun _ => rfl))) <|
    .cons rfl (Q_p rfl (S_fieldP 1 rfl (.tmp rfl) (by kernel_rfl))) <|
    .cons rfl (Q_p rfl (S_loadP rfl (.tmp rfl) rfl (by kernel_rfl))) <|
    .cons rfl (Q_p rfl (S_pcall rfl (AEvs.cons (.tmp rfl) AEvs.nil) (ref04_Bytes_ok (l[i]'hil).2 (by omega)))) <|
    .cons rfl (Q_p rfl (S_cat rfl (.tmp rfl) (.tmp rfl) (by simp only [List.length_append]; omega))) <|
    .cons rfl (Q_p rfl (S_assign rfl (.tmp rfl))) <|
    .nil) ?_
  refine AC_region ?_
  refine mv rfl rfl rfl rfl ?_
  refine p_ (S_addI rfl (.tmp rfl) (AEv.const _) (by omega) (by omega)) ?_
  refine as_ rfl rfl rfl rfl ?_
  refine AL_nil ?_
  exact ⟨i + 1, by omega, by omega, (Sub.l (List.Sublist.refl _)), (.cons rfl (Le.of_eq (congrArg AV.S (by rw [listB_next hil]; simp [labB]))) (.cons rfl (by first | exact Le.refl _ | exact Le.nils | exact Le.row _ _ _ _ | exact Le.of_eq (by first | rfl | (simp; done) | (push_cast; rfl) | (simp; omega))) .nil)), (.cons rfl (Le.refl _) (.cons rfl (Le.refl _) .nil))⟩
 try simp only [zA,zO,zN,zM,zP,zQ,zD,zF,gd] at hb1
 have hx : l.take i = l := List.take_of_length_le (by omega)
 refine AC_exit ?_
 refine AC_seq (AC_region ?_)
 refine mv rfl rfl rfl rfl ?_
 refine as_ rfl rfl rfl rfl ?_
 refine AL_nil (AC_ret ?_)
 refine ret_tmp st rfl rfl (Sub.l (List.Sublist.refl _)) (Conv.refl (Sub.l (List.Sublist.refl _)) _) ⟨congrArg AV.S (by rw [hx]; rfl), rfl⟩ (.inl rfl)
theorem ref07_res_ok (r : Tri) (hr : TriOk r) : PCalls Tryz.prog 133 [resAV r] (.S (triB r)) := by
 intro st
 refine co 14 Tryz.func133 ?_
 have hr1 := hr.1
 have hr2 := hr.2.1
 have hr3 := hr.2.2
 unfold MR at hr1 hr2 hr3
 have n1 := numB_len (n := r.1) (by omega)
 have n2 := numB_len (n := r.2.1) (by omega)
 have n3 := numB_len (n := r.2.2) (by omega)
 refine AC_seq (AC_region ?_)
 refine s_ (S_box rfl (.tmp rfl)) ?_
 rintro _ _ ⟨b1, rfl, rfl⟩
 refine p_ (S_assign rfl (AEv.S _)) ?_
 refine AL_nil ?_
 refine AC_seq ?_
 refine AC_draw (by kernel_rfl) (by kernel_rfl) (.cons rfl (Q_p rfl (S_field 0 rfl (.tmp rfl) (by kernel_rfl))) <|
   .cons rfl (Q_p rfl (S_load 0 rfl (.tmp rfl) rfl rfl (by kernel_rfl))) <|
   .cons rfl (Q_p rfl (S_pcall rfl (AEvs.cons (.tmp rfl) AEvs.nil) (ref07_number_ok r.1 (by omega) (by omega)))) <|
   .cons rfl (Q_p rfl (S_field 1 rfl (.tmp rfl) (by kernel_rfl))) <|
   .cons rfl (Q_p rfl (S_load 0 rfl (.tmp rfl) rfl rfl (by kernel_rfl))) <|
   .cons rfl (Q_p rfl (S_pcall rfl (AEvs.cons (.tmp rfl) AEvs.nil) (ref07_number_ok r.2.1 (by omega) (by omega)))) <|
   .cons rfl (Q_p rfl (S_cat rfl (.tmp rfl) (.tmp rfl) (by first | omega | (simp only [List.length_append]; omega)))) <|
   .cons rfl (Q_p rfl (S_field 2 rfl (.tmp rfl) (by kernel_rfl))) <|
   .cons rfl (Q_p rfl (S_load 0 rfl (.tmp rfl) rfl rfl (by kernel_rfl))) <|
   .cons rfl (Q_p rfl (S_pcall rfl (AEvs.cons (.tmp rfl) AEvs.nil) (ref07_number_ok r.2.2 (by omega) (by omega)))) <|
   .cons rfl (Q_p rfl (S_cat rfl (.tmp rfl) (.tmp rfl) (by first | omega | (simp only [List.length_append]; omega)))) <|
   .cons rfl (Q_p rfl (S_assign rfl (.tmp rfl))) <|
   .nil) ?_
 refine AC_ret ?_
 refine ret_tmp st rfl rfl (Sub.l (List.sublist_cons_self _ _)) (Conv.refl (Sub.l (List.sublist_cons_self _ _)) _) ⟨congrArg AV.S (triB_assoc r), rfl⟩ (.inl rfl)
set_option maxHeartbeats 2000000 in
theorem ref07_containers_ok (l : List Ctr) (hl : l.length ≤ 1000) (hls : ∀ x ∈ l, CtrOk x) : PCalls Tryz.prog 97 [.sl (ctrsV l)] (.S (listB ctrB l)) := by
 intro st
 refine co 69 Tryz.func97 ?_
 have hp := putL_few l.length (by omega)
 refine AC_seq (AC_region ?_)
 refine p_ (S_assign rfl (AEv.S _)) ?_
 refine AL_nil (AC_seq (AC_region ?_))
 refine mv rfl rfl rfl rfl ?_
 refine p_ (by first | exact S_lenM (e := 67) rfl (.tmp rfl) (by kernel_rfl) | exact S_len (e := 67) rfl (.tmp rfl) (by kernel_rfl)) ?_
 refine p_ (S_pcall rfl (AEvs.cons (.tmp rfl) AEvs.nil) (ref07_number_ok (l.length : Int) (by omega) (by omega))) ?_
 refine as_ rfl rfl rfl rfl ?_
 refine AL_nil ?_
 refine AC_seq ?_
 refine AC_seq (AC_region ?_)
 refine ac rfl rfl rfl ?_
 refine AL_nil ?_
 refine AC_block ?_
 refine AC_loopK (G := Nat) [(0, _), (2, _)] (fun g => g ≤ l.length) (fun g => [(3, .S (putL l.length ++ (l.take g).flatMap ctrB)), (4, .int .i64 (g : Int))]) (fun g => st) (fun g => l.length - g) (0) (Nat.zero_le _) (Sub.l (List.Sublist.refl _)) (.cons rfl (Le.refl _) (.cons rfl (Le.refl _) .nil)) (.cons rfl (Le.of_eq (congrArg AV.S (by simp [numB]))) (.cons rfl (by first | exact Le.refl _ | exact Le.nils | exact Le.row _ _ _ _ | exact Le.of_eq (by first | rfl | (simp; done) | (push_cast; rfl) | (simp; omega))) .nil)) ?_
 rintro i hi
 try dsimp only
 simp only [List.cons_append, List.nil_append]
 have hfm := flatB_len (e := ctrB) (B := 1000) (l := l.take i) fun x hx => ctrB_len (hls x (List.mem_of_mem_take hx))
 rw [List.length_take, show min i l.length = i by omega] at hfm
 refine AC_seq ?_
 refine AC_seq (AC_region ?_)
 refine mv rfl rfl rfl rfl ?_
 refine mv rfl rfl rfl rfl ?_
 refine p_ (by first | exact S_lenM (e := 67) rfl (.tmp rfl) (by kernel_rfl) | exact S_len (e := 67) rfl (.tmp rfl) (by kernel_rfl)) ?_
 refine p_ (S_lss rfl (.tmp rfl) (.tmp rfl)) ?_
 refine AL_nil ?_
 refine AC_cond (.tmp rfl) (fun hb1 => ?_) (fun hb1 => ?_)
 ·try simp only [zA,zO,zN,zM,zP,zQ,zD,zF,gd] at hb1
  have hil : i < l.length := by first | omega | (have h9 := hb1; simp [ctrsV] at h9; omega)
  obtain ⟨hd1, hd2, hd3, hd4, hd5, hd6, hd7⟩ := hls _ (List.getElem_mem hil)
  have n1 := textB_len (s := (l[i]'hil).name) (by omega)
  have n2 := textB_len (s := (l[i]'hil).image) (by omega)
  have n3 := triB_len hd3
  have n4 := triB_len hd4
  have hp1 := hd5.1
  have n5 := numB_len (n := ((l[i]'hil).ports.length : Int)) (by omega)
  have n6 := numB_len (n := (l[i]'hil).probe.1) (by omega)
  have n7 := numB_len (n := (l[i]'hil).probe.2) (by omega)
  refine AC_skip ?_
  refine AC_seq ?_
  refine AC_block ?_
  refine AC_seq (AC_region ?_)
  refine mv rfl rfl rfl rfl ?_
  refine mv rfl rfl rfl rfl ?_
  refine p_ (S_elemN (e := 67) 11 rfl (.tmp rfl) (.tmp rfl) (by kernel_rfl) (by kernel_rfl) (by omega) (fun _ => rfl)) ?_
  refine p_ (S_loadPN (m := 11) rfl (.tmp rfl) (by kernel_rfl) (by first | exact Nat.le_of_ble_eq_true rfl | (simp; omega) | simp)) ?_
  refine s_ (S_alloc [.string ⟨#[]⟩, .string ⟨#[]⟩, .int .i64 0, .int .i64 0, .int .i64 0, .int .i64 0, .int .i64 0, .int .i64 0, .slice none 0 0, .int .i64 0, .int .i64 0] rfl (by kernel_rfl)) ?_
  rintro _ _ ⟨b5, rfl, rfl⟩
  refine stW 0 ?_
  refine AL_nil ?_
  refine AC_seq ?_
  refine AC_draw (by kernel_rfl) (by kernel_rfl) (.cons rfl (Q_p rfl (S_move rfl (.tmp rfl))) <|
    .cons rfl (Q_p rfl (S_field 0 rfl (.tmp rfl) (by kernel_rfl))) <|
    .cons rfl (Q_p rfl (S_load 0 rfl (.tmp rfl) rfl rfl (by kernel_rfl))) <|
    .cons rfl (Q_p rfl (S_pcall rfl (AEvs.cons (.tmp rfl) AEvs.nil) (ref04_Bytes_ok (l[i]'hil).name (by omega)))) <|
    .cons rfl (Q_p rfl (S_cat rfl (.tmp rfl) (.tmp rfl) (by first | omega | (simp only [List.length_append]; omega)))) <|
    .cons rfl (Q_p rfl (S_field 1 rfl (.tmp rfl) (by kernel_rfl))) <|
    .cons rfl (Q_p rfl (S_load 0 rfl (.tmp rfl) rfl rfl (by kernel_rfl))) <|
    .cons rfl (Q_p rfl (S_pcall rfl (AEvs.cons (.tmp rfl) AEvs.nil) (ref04_Bytes_ok (l[i]'hil).image (by omega)))) <|
    .cons rfl (Q_p rfl (S_cat rfl (.tmp rfl) (.tmp rfl) (by first | omega | (simp only [List.length_append]; omega)))) <|
    .cons rfl (Q_p rfl (S_field 2 rfl (.tmp rfl) (by kernel_rfl))) <|
    .cons rfl (Q_p rfl (S_loadN (m := 3) 0 rfl (.tmp rfl) rfl (by kernel_rfl) (by first | exact Nat.le_of_ble_eq_true rfl | (simp; omega) | simp))) <|
    .cons rfl (Q_p rfl (S_pcall rfl (AEvs.cons (.tmp rfl) AEvs.nil) (ref07_res_ok (l[i]'hil).req hd3))) <|
    .cons rfl (Q_p rfl (S_cat rfl (.tmp rfl) (.tmp rfl) (by first | omega | (simp only [List.length_append]; omega)))) <|
    .cons rfl (Q_p rfl (S_field 5 rfl (.tmp rfl) (by kernel_rfl))) <|
    .cons rfl (Q_p rfl (S_loadN (m := 3) 0 rfl (.tmp rfl) rfl (by kernel_rfl) (by first | exact Nat.le_of_ble_eq_true rfl | (simp; omega) | simp))) <|
    .cons rfl (Q_p rfl (S_pcall rfl (AEvs.cons (.tmp rfl) AEvs.nil) (ref07_res_ok (l[i]'hil).lim hd4))) <|
    .cons rfl (Q_p rfl (S_cat rfl (.tmp rfl) (.tmp rfl) (by first | omega | (simp only [List.length_append]; omega)))) <|
    .cons rfl (Q_p rfl (S_field 8 rfl (.tmp rfl) (by kernel_rfl))) <|
    .cons rfl (Q_p rfl (S_load 0 rfl (.tmp rfl) rfl rfl (by kernel_rfl))) <|
    .cons rfl (Q_p rfl (by first | exact S_lenM (e := 3) rfl (.tmp rfl) (by kernel_rfl) | exact S_len (e := 3) rfl (.tmp rfl) (by kernel_rfl))) <|
    .cons rfl (Q_p rfl (S_pcall rfl (AEvs.cons (.tmp rfl) AEvs.nil) (ref07_number_ok ((l[i]'hil).ports.length : Int) (by omega) (by omega)))) <|
    .cons rfl (Q_p rfl (S_cat rfl (.tmp rfl) (.tmp rfl) (by first | omega | (simp only [List.length_append]; omega)))) <|
    .cons rfl (Q_p rfl (S_assign rfl (.tmp rfl))) <|
    .nil) ?_
  refine AC_seq ?_
  refine AC_seq (AC_region ?_)
  refine ac rfl rfl rfl ?_
  refine AL_nil ?_
  refine AC_block ?_
  refine AC_loopK (G := Nat) [(0, _), (2, _), (4, _), (5, _)] (fun g => g ≤ (l[i]'hil).ports.length) (fun g => [(3, .S (((((((putL l.length ++ (l.take i).flatMap ctrB) ++ textB (l[i]'hil).name) ++ textB (l[i]'hil).image) ++ triB (l[i]'hil).req) ++ triB (l[i]'hil).lim) ++ numB ((l[i]'hil).ports.length : Int)) ++ ((l[i]'hil).ports.take g).flatMap numB)), (6, .int .i64 (g : Int))]) (fun g => (b5, .cells (ctrL (l[i]'hil))) :: st) (fun g => (l[i]'hil).ports.length - g) (0) (Nat.zero_le _) (Sub.l (List.Sublist.refl _)) (.cons rfl (Le.refl _) (.cons rfl (Le.refl _) (.cons rfl (Le.refl _) (.cons rfl (Le.refl _) .nil)))) (.cons rfl (Le.of_eq (congrArg AV.S (by simp))) (.cons rfl (by first | exact Le.refl _ | exact Le.nils | exact Le.row _ _ _ _ | exact Le.of_eq (by first | rfl | (simp; done) | (push_cast; rfl) | (simp; omega))) .nil)) ?_
  rintro j hj
  try dsimp only
  simp only [List.cons_append, List.nil_append]
  have hfp := flatB_len (e := numB) (B := 10) (l := (l[i]'hil).ports.take j) fun n hn => numB_len (by have := (hd5.2 n (List.mem_of_mem_take hn)).2; omega)
  rw [List.length_take, show min j (l[i]'hil).ports.length = j by omega] at hfp
  refine AC_seq ?_
  refine AC_seq (AC_region ?_)
  refine mv rfl rfl rfl rfl ?_
  refine fl 8 ?_
  refine ld 0 ?_
  refine p_ (by first | exact S_lenM (e := 3) rfl (.tmp rfl) (by kernel_rfl) | exact S_len (e := 3) rfl (.tmp rfl) (by kernel_rfl)) ?_
  refine p_ (S_lss rfl (.tmp rfl) (.tmp rfl)) ?_
  refine AL_nil ?_
  refine AC_cond (.tmp rfl) (fun hb3 => ?_) (fun hb3 => ?_)
  ·try simp only [zA,zO,zN,zM,zP,zQ,zD,zF,gd] at hb3
   have hjl : j < (l[i]'hil).ports.length := by first | omega | (have h9 := hb3; simp [intsV] at h9; omega)
   have hpj := hd5.2 _ (List.getElem_mem hjl)
   have n8 := numB_len (n := ((l[i]'hil).ports[j]'hjl)) (by omega)
   refine AC_skip ?_
   refine AC_seq ?_
   refine AC_block ?_
   refine AC_region ?_
   refine mv rfl rfl rfl rfl ?_
   refine fl 8 ?_
   refine ld 0 ?_
   refine mv rfl rfl rfl rfl ?_
   refine p_ (S_elemN (e := 3) 1 rfl (.tmp rfl) (.tmp rfl) (by kernel_rfl) (by kernel_rfl) (by omega) (fun _ => rfl)) ?_
   refine p_ (S_loadP rfl (.tmp rfl) rfl (by kernel_rfl)) ?_
   refine p_ (S_pcall rfl (AEvs.cons (.tmp rfl) AEvs.nil) (ref07_number_ok ((l[i]'hil).ports[j]'hjl) (by omega) (by omega))) ?_
   refine p_ (S_cat rfl (.tmp rfl) (.tmp rfl) (by first | omega | (simp only [List.length_append]; omega))) ?_
   refine as_ rfl rfl rfl rfl ?_
   refine AL_nil ?_
   refine AC_region ?_
   refine mv rfl rfl rfl rfl ?_
   refine p_ (S_addI rfl (.tmp rfl) (AEv.const _) (by omega) (by omega)) ?_
   refine as_ rfl rfl rfl rfl ?_
   refine AL_nil ?_
   exact ⟨j + 1, by omega, by omega, (Sub.l (List.Sublist.refl _)), (.cons rfl (Le.of_eq (congrArg AV.S (by rw [flatB_next hjl]))) (.cons rfl (by first | exact Le.refl _ | exact Le.nils | exact Le.row _ _ _ _ | exact Le.of_eq (by first | rfl | (simp; done) | (push_cast; rfl) | (simp; omega))) .nil)), (.cons rfl (Le.refl _) (.cons rfl (Le.refl _) (.cons rfl (Le.refl _) (.cons rfl (Le.refl _) .nil))))⟩
  try simp only [zA,zO,zN,zM,zP,zQ,zD,zF,gd] at hb3
  have hx : (l[i]'hil).ports.take j = (l[i]'hil).ports := List.take_of_length_le (by first | omega | (have h9 := hb3; simp [intsV] at h9; omega))
  refine AC_exit ?_
  refine AC_draw (by kernel_rfl) (by kernel_rfl) (.cons rfl (Q_p rfl (S_move rfl (.tmp rfl))) <|
    .cons rfl (Q_p rfl (S_field 9 rfl (.tmp rfl) (by kernel_rfl))) <|
    .cons rfl (Q_p rfl (S_field 0 rfl (.tmp rfl) (by kernel_rfl))) <|
    .cons rfl (Q_p rfl (S_load 0 rfl (.tmp rfl) rfl rfl (by kernel_rfl))) <|
    .cons rfl (Q_p rfl (S_pcall rfl (AEvs.cons (.tmp rfl) AEvs.nil) (ref07_number_ok (l[i]'hil).probe.1 (by omega) (by omega)))) <|
    .cons rfl (Q_p rfl (S_cat rfl (.tmp rfl) (.tmp rfl) (by first | omega | (simp only [List.length_append]; omega)))) <|
    .cons rfl (Q_p rfl (S_field 9 rfl (.tmp rfl) (by kernel_rfl))) <|
    .cons rfl (Q_p rfl (S_field 1 rfl (.tmp rfl) (by kernel_rfl))) <|
    .cons rfl (Q_p rfl (S_load 0 rfl (.tmp rfl) rfl rfl (by kernel_rfl))) <|
    .cons rfl (Q_p rfl (S_pcall rfl (AEvs.cons (.tmp rfl) AEvs.nil) (ref07_number_ok (l[i]'hil).probe.2 (by omega) (by omega)))) <|
    .cons rfl (Q_p rfl (S_cat rfl (.tmp rfl) (.tmp rfl) (by first | omega | (simp only [List.length_append]; omega)))) <|
    .cons rfl (Q_p rfl (S_assign rfl (.tmp rfl))) <|
    .nil) ?_
  refine AC_region ?_
  refine mv rfl rfl rfl rfl ?_
  refine p_ (S_addI rfl (.tmp rfl) (AEv.const _) (by omega) (by omega)) ?_
  refine as_ rfl rfl rfl rfl ?_
  refine AL_nil ?_
  exact ⟨i + 1, by omega, by omega, (Sub.l (List.sublist_cons_self _ _)), (.cons rfl (Le.of_eq (congrArg AV.S (by rw [listB_next hil, hx]; simp [ctrB, portsB, listB, numB]))) (.cons rfl (by first | exact Le.refl _ | exact Le.nils | exact Le.row _ _ _ _ | exact Le.of_eq (by first | rfl | (simp; done) | (push_cast; rfl) | (simp; omega))) .nil)), (.cons rfl (Le.refl _) (.cons rfl (Le.refl _) .nil))⟩
 try simp only [zA,zO,zN,zM,zP,zQ,zD,zF,gd] at hb1
 have hx : l.take i = l := List.take_of_length_le (by first | omega | (have h9 := hb1; simp [ctrsV] at h9; omega))
 refine AC_exit ?_
 refine AC_seq (AC_region ?_)
 refine mv rfl rfl rfl rfl ?_
 refine as_ rfl rfl rfl rfl ?_
 refine AL_nil (AC_ret ?_)
 refine ret_tmp st rfl rfl (Sub.l (List.Sublist.refl _)) (Conv.refl (Sub.l (List.Sublist.refl _)) _) ⟨congrArg AV.S (by rw [hx]; rfl), rfl⟩ (.inl rfl)
set_option maxHeartbeats 1000000 in
theorem ref07_Bytes_ok (s : Spc) (hk : checkE s = none) : PCalls Tryz.prog 59 [spcAV s] (.S (spcB s)) := by
 intro st
 refine co 30 Tryz.func59 ?_
 obtain ⟨hk1, hk2, hk3, hk4, hk5, hk6, hk7⟩ := check_ok hk
 have hk21 := hk2.1
 have hk31 := hk3.1
 have hk41 := hk4.1
 have n1 := textB_len (s := s.name) (by omega)
 have n2 := listB_len (e := labB) (l := s.labels) (B := 1000) (by omega) fun x hx => labB_len (by have := (hk2.2 x hx).1; omega) (by have := (hk2.2 x hx).2; omega)
 have n3 := listB_len (e := ctrB) (l := s.init) (B := 1000) (by omega) fun y hy => ctrB_len (hk3.2 y hy)
 have n4 := listB_len (e := ctrB) (l := s.main) (B := 1000) (by omega) fun y hy => ctrB_len (hk4.2 y hy)
 have n5 := numB_len (n := s.restart) (by omega)
 have n6 := numB_len (n := s.grace) (by omega)
 have n7 := numB_len (n := s.prio) (by omega)
 refine AC_seq (AC_region ?_)
 refine s_ (S_box rfl (.tmp rfl)) ?_
 rintro _ _ ⟨b1, rfl, rfl⟩
 refine p_ (S_assign rfl (AEv.S _)) ?_
 refine AL_nil ?_
 refine AC_seq ?_
 refine AC_draw (by kernel_rfl) (by kernel_rfl) (.cons rfl (Q_p rfl (S_field 0 rfl (.tmp rfl) (by kernel_rfl))) <|
   .cons rfl (Q_p rfl (S_load 0 rfl (.tmp rfl) rfl rfl (by kernel_rfl))) <|
   .cons rfl (Q_p rfl (S_pcall rfl (AEvs.cons (.tmp rfl) AEvs.nil) (ref04_Bytes_ok s.name (by omega)))) <|
   .cons rfl (Q_p rfl (S_field 1 rfl (.tmp rfl) (by kernel_rfl))) <|
   .cons rfl (Q_p rfl (S_load 0 rfl (.tmp rfl) rfl rfl (by kernel_rfl))) <|
   .cons rfl (Q_p rfl (S_pcall rfl (AEvs.cons (.tmp rfl) AEvs.nil) (ref07_Labels_ok s.labels (by omega) (fun x hx => ⟨by have := (hk2.2 x hx).1; omega, by have := (hk2.2 x hx).2; omega⟩)))) <|
   .cons rfl (Q_p rfl (S_cat rfl (.tmp rfl) (.tmp rfl) (by first | omega | (simp only [List.length_append]; omega)))) <|
   .cons rfl (Q_p rfl (S_field 2 rfl (.tmp rfl) (by kernel_rfl))) <|
   .cons rfl (Q_p rfl (S_load 0 rfl (.tmp rfl) rfl rfl (by kernel_rfl))) <|
   .cons rfl (Q_p rfl (S_pcall rfl (AEvs.cons (.tmp rfl) AEvs.nil) (ref07_containers_ok s.init (by omega) hk3.2))) <|
   .cons rfl (Q_p rfl (S_cat rfl (.tmp rfl) (.tmp rfl) (by first | omega | (simp only [List.length_append]; omega)))) <|
   .cons rfl (Q_p rfl (S_field 3 rfl (.tmp rfl) (by kernel_rfl))) <|
   .cons rfl (Q_p rfl (S_load 0 rfl (.tmp rfl) rfl rfl (by kernel_rfl))) <|
   .cons rfl (Q_p rfl (S_pcall rfl (AEvs.cons (.tmp rfl) AEvs.nil) (ref07_containers_ok s.main (by omega) hk4.2))) <|
   .cons rfl (Q_p rfl (S_cat rfl (.tmp rfl) (.tmp rfl) (by first | omega | (simp only [List.length_append]; omega)))) <|
   .cons rfl (Q_p rfl (S_field 4 rfl (.tmp rfl) (by kernel_rfl))) <|
   .cons rfl (Q_p rfl (S_load 0 rfl (.tmp rfl) rfl rfl (by kernel_rfl))) <|
   .cons rfl (Q_p rfl (S_pcall rfl (AEvs.cons (.tmp rfl) AEvs.nil) (ref07_number_ok s.restart (by omega) (by omega)))) <|
   .cons rfl (Q_p rfl (S_cat rfl (.tmp rfl) (.tmp rfl) (by first | omega | (simp only [List.length_append]; omega)))) <|
   .cons rfl (Q_p rfl (S_field 5 rfl (.tmp rfl) (by kernel_rfl))) <|
   .cons rfl (Q_p rfl (S_load 0 rfl (.tmp rfl) rfl rfl (by kernel_rfl))) <|
   .cons rfl (Q_p rfl (S_pcall rfl (AEvs.cons (.tmp rfl) AEvs.nil) (ref07_number_ok s.grace (by omega) (by omega)))) <|
   .cons rfl (Q_p rfl (S_cat rfl (.tmp rfl) (.tmp rfl) (by first | omega | (simp only [List.length_append]; omega)))) <|
   .cons rfl (Q_p rfl (S_field 6 rfl (.tmp rfl) (by kernel_rfl))) <|
   .cons rfl (Q_p rfl (S_load 0 rfl (.tmp rfl) rfl rfl (by kernel_rfl))) <|
   .cons rfl (Q_p rfl (S_pcall rfl (AEvs.cons (.tmp rfl) AEvs.nil) (ref07_number_ok s.prio (by omega) (by omega)))) <|
   .cons rfl (Q_p rfl (S_cat rfl (.tmp rfl) (.tmp rfl) (by first | omega | (simp only [List.length_append]; omega)))) <|
   .cons rfl (Q_p rfl (S_assign rfl (.tmp rfl))) <|
   .nil) ?_
 refine AC_ret ?_
 refine ret_tmp st rfl rfl (Sub.l (List.sublist_cons_self _ _)) (Conv.refl (Sub.l (List.sublist_cons_self _ _)) _) ⟨congrArg AV.S (by simp [spcB, labsB, ctrsB]), rfl⟩ (.inl rfl)
set_option maxHeartbeats 2000000 in
theorem ref08_Bytes_ok (x : Cal) (hu : x.rev < 18446744073709551616) (hk : checkA x = none) : PCalls Tryz.prog 26 [calAV x] (.S (calB x)) := by
 intro st
 refine co 70 Tryz.func26 ?_
 obtain ⟨hcal, hff⟩ := checkA_ok hu hk
 have hk1 := hcal.1.1
 have hk2 := hcal.1.2
 have hfw := fields_few x.kind.toNat
 have hfl := fieldsN_few x.kind.toNat
 have hkl := numB_len (n := x.kind) (by omega)
 refine AC_seq (AC_region ?_)
 refine s_ (S_box rfl (.tmp rfl)) ?_
 rintro _ _ ⟨b1, rfl, rfl⟩
 refine p_ (S_assign rfl (AEv.S _)) ?_
 refine AL_nil (AC_seq (AC_region ?_))
 refine fl 0 ?_
 refine ld 0 ?_
 refine p_ ((S_conv (k' := .u64) rfl (.tmp rfl) (by kernel_rfl) (by kernel_rfl)).ofV (V' := .int .u64 (((x.kind).toNat : Nat) : Int)) (congrArg (AV.int .u64) (by rw [u64w]; omega))) ?_
 refine p_ (S_pcall rfl (AEvs.cons (.tmp rfl) AEvs.nil) (ref_Put_ok x.kind.toNat (by omega))) ?_
 refine as_ rfl rfl rfl rfl ?_
 refine AL_nil (AC_seq (AC_region ?_))
 refine fl 0 ?_
 refine ld 0 ?_
 refine p_ (S_pcall rfl (AEvs.cons (.tmp rfl) AEvs.nil) (ref08_Fields_ok x.kind)) ?_
 refine as_ rfl rfl rfl rfl ?_
 refine AL_nil ?_
 refine AC_seq ?_
 refine AC_seq (AC_region ?_)
 refine ac rfl rfl rfl ?_
 refine AL_nil ?_
 refine AC_block ?_
 refine AC_loopK (G := Nat) [(1, _), (2, _), (4, _)] (fun g => g ≤ (kindA x.kind.toNat).2.length) (fun g => [(3, .S (numB x.kind ++ ((kindA x.kind.toNat).2.take g).flatMap (fieldB x))), (5, .int .i64 (g : Int))]) (fun g => (b1, .cells (calL x)) :: st) (fun g => (kindA x.kind.toNat).2.length - g) (0) (Nat.zero_le _) (Sub.l (List.Sublist.refl _)) (.cons rfl (Le.refl _) (.cons rfl (Le.refl _) (.cons rfl (Le.refl _) .nil))) (.cons rfl (Le.of_eq (congrArg AV.S (by simp [numB]))) (.cons rfl (by first | exact Le.refl _ | exact Le.nils | exact Le.row _ _ _ _ | exact Le.of_eq (by first | rfl | (simp; done) | (push_cast; rfl) | (simp; omega))) .nil)) ?_
 rintro i hi
 try dsimp only
 simp only [List.cons_append, List.nil_append]
 have hfm := flatB_len (e := fieldB x) (B := 20000) (l := (kindA x.kind.toNat).2.take i) fun f hf => fieldB_few hu (hff f (List.mem_of_mem_take hf))
 rw [List.length_take, show min i (kindA x.kind.toNat).2.length = i by omega] at hfm
 refine AC_seq ?_
 refine AC_seq (AC_region ?_)
 refine mv rfl rfl rfl rfl ?_
 refine mv rfl rfl rfl rfl ?_
 refine p_ (by first | exact S_lenM (e := 9) rfl (.tmp rfl) (by kernel_rfl) | exact S_len (e := 9) rfl (.tmp rfl) (by kernel_rfl)) ?_
 refine p_ (S_lss rfl (.tmp rfl) (.tmp rfl)) ?_
 refine AL_nil ?_
 refine AC_cond (.tmp rfl) (fun hb2 => ?_) (fun hb2 => ?_)
 ·try simp only [zA,zO,zN,zM,zP,zQ,zD,zF,gd] at hb2
  have hil : i < (fieldsN x.kind.toNat).length := by first | omega | (have h9 := hb2; simp [strsV] at h9; simpa using h9)
  have hif : i < (kindA x.kind.toNat).2.length := by rw [List.length_map] at hil; exact hil
  have hfi : (fieldsN x.kind.toNat)[i]'hil = fname ((kindA x.kind.toNat).2[i]'hif) := List.getElem_map _
  have hfe := hff _ (List.getElem_mem hif)
  have hfq := fieldB_few hu hfe
  refine AC_skip ?_
  refine AC_seq ?_
  refine AC_block ?_
  refine AC_seq (AC_region ?_)
  refine mv rfl rfl rfl rfl ?_
  refine mv rfl rfl rfl rfl ?_
  refine p_ (S_elemN (e := 9) 1 rfl (.tmp rfl) (.tmp rfl) (by kernel_rfl) (by kernel_rfl) (by omega) (fun _ => rfl)) ?_
  refine p_ (S_loadP rfl (.tmp rfl) rfl (by kernel_rfl)) ?_
  rw [hfi]
  refine AL_nil ?_
  refine AC_block ?_
  refine AC_seq (AC_region ?_)
  refine p_ (S_eqS rfl (.tmp rfl) (AEv.S _)) ?_
  refine as_ rfl rfl rfl rfl ?_
  refine AL_nil ?_
  refine AC_cond (.tmp rfl) (fun hb3 => ?_) (fun hb3 => ?_)
  ·try simp only [zA,zO,zN,zM,zP,zQ,zD,zF,gd] at hb3
   have hf9 : ((kindA x.kind.toNat).2[i]'hif) = 114 := (fname_in (kind_letters _ _ (List.getElem_mem hif)) (g := 114) (by unfold Letter; simp)).1 hb3
   have hfb : fieldB x ((kindA x.kind.toNat).2[i]'hif) = putL x.rev := by rw [hf9]; rfl
   have hpl := putL_few x.rev hu
   refine AC_region ?_
   refine mv rfl rfl rfl rfl ?_
   refine fl 2 ?_
   refine ld 0 ?_
   refine p_ (S_pcall rfl (AEvs.cons (.tmp rfl) AEvs.nil) (ref_Put_ok x.rev hu)) ?_
   refine p_ (S_cat rfl (.tmp rfl) (.tmp rfl) (by first | omega | (simp only [List.length_append]; omega))) ?_
   refine as_ rfl rfl rfl rfl ?_
   refine AL_nil ?_
   refine AC_region ?_
   refine mv rfl rfl rfl rfl ?_
   refine p_ (S_addI rfl (.tmp rfl) (AEv.const _) (by omega) (by omega)) ?_
   refine as_ rfl rfl rfl rfl ?_
   refine AL_nil ?_
   exact ⟨i + 1, by omega, by omega, (Sub.l (List.Sublist.refl _)), (.cons rfl (Le.of_eq (congrArg AV.S (by rw [flatB_next hif, hfb]; try rfl))) (.cons rfl (by first | exact Le.refl _ | exact Le.nils | exact Le.row _ _ _ _ | exact Le.of_eq (by first | rfl | (simp; done) | (push_cast; rfl) | (simp; omega))) .nil)), (.cons rfl (Le.refl _) (.cons rfl (Le.refl _) (.cons rfl (Le.refl _) .nil)))⟩
  try simp only [zA,zO,zN,zM,zP,zQ,zD,zF,gd] at hb3
  have hm1 : ¬ fname ((kindA x.kind.toNat).2[i]'hif) = revN := hb3
  refine AC_seq (AC_region ?_)
  refine p_ (S_eqS rfl (.tmp rfl) (AEv.S _)) ?_
  refine as_ rfl rfl rfl rfl ?_
  refine AL_nil ?_
  refine AC_cond (.tmp rfl) (fun hb4 => ?_) (fun hb4 => ?_)
  ·try simp only [zA,zO,zN,zM,zP,zQ,zD,zF,gd] at hb4
   have hf9 : ((kindA x.kind.toNat).2[i]'hif) = 115 := (fname_in (kind_letters _ _ (List.getElem_mem hif)) (g := 115) (by unfold Letter; simp)).1 hb4
   have hfb : fieldB x ((kindA x.kind.toNat).2[i]'hif) = spcB x.spec := by rw [hf9]; rfl
   have hsn : checkE x.spec = none := by rw [hf9] at hfe; exact erIn_none hfe
   have hpl := spcB_len hsn
   refine AC_region ?_
   refine mv rfl rfl rfl rfl ?_
   refine fl 3 ?_
   refine ldN 7 0 ?_
   refine p_ (S_pcall rfl (AEvs.cons (.tmp rfl) AEvs.nil) (ref07_Bytes_ok x.spec hsn)) ?_
   refine p_ (S_cat rfl (.tmp rfl) (.tmp rfl) (by first | omega | (simp only [List.length_append]; omega))) ?_
   refine as_ rfl rfl rfl rfl ?_
   refine AL_nil ?_
   refine AC_region ?_
   refine mv rfl rfl rfl rfl ?_
   refine p_ (S_addI rfl (.tmp rfl) (AEv.const _) (by omega) (by omega)) ?_
   refine as_ rfl rfl rfl rfl ?_
   refine AL_nil ?_
   exact ⟨i + 1, by omega, by omega, (Sub.l (List.Sublist.refl _)), (.cons rfl (Le.of_eq (congrArg AV.S (by rw [flatB_next hif, hfb]; try rfl))) (.cons rfl (by first | exact Le.refl _ | exact Le.nils | exact Le.row _ _ _ _ | exact Le.of_eq (by first | rfl | (simp; done) | (push_cast; rfl) | (simp; omega))) .nil)), (.cons rfl (Le.refl _) (.cons rfl (Le.refl _) (.cons rfl (Le.refl _) .nil)))⟩
  try simp only [zA,zO,zN,zM,zP,zQ,zD,zF,gd] at hb4
  have hm2 : ¬ fname ((kindA x.kind.toNat).2[i]'hif) = spcN := hb4
  refine AC_seq (AC_region ?_)
  refine p_ (S_eqS rfl (.tmp rfl) (AEv.S _)) ?_
  refine as_ rfl rfl rfl rfl ?_
  refine AL_nil ?_
  refine AC_cond (.tmp rfl) (fun hb5 => ?_) (fun hb5 => ?_)
  ·try simp only [zA,zO,zN,zM,zP,zQ,zD,zF,gd] at hb5
   have hf9 : ((kindA x.kind.toNat).2[i]'hif) = 100 := (fname_in (kind_letters _ _ (List.getElem_mem hif)) (g := 100) (by unfold Letter; simp)).1 hb5
   have hfb : fieldB x ((kindA x.kind.toNat).2[i]'hif) = textB x.data := by rw [hf9]; rfl
   have hdl : (x.data.length : Int) ≤ 32 := by have h8 := field_ok hu hfe; rw [hf9] at h8; exact h8
   have hpl := textB_len (s := x.data) (by omega)
   refine AC_region ?_
   refine mv rfl rfl rfl rfl ?_
   refine fl 14 ?_
   refine ld 0 ?_
   refine p_ (S_pcall rfl (AEvs.cons (.tmp rfl) AEvs.nil) (ref04_Bytes_ok x.data (by omega))) ?_
   refine p_ (S_cat rfl (.tmp rfl) (.tmp rfl) (by first | omega | (simp only [List.length_append]; omega))) ?_
   refine as_ rfl rfl rfl rfl ?_
   refine AL_nil ?_
   refine AC_region ?_
   refine mv rfl rfl rfl rfl ?_
   refine p_ (S_addI rfl (.tmp rfl) (AEv.const _) (by omega) (by omega)) ?_
   refine as_ rfl rfl rfl rfl ?_
   refine AL_nil ?_
   exact ⟨i + 1, by omega, by omega, (Sub.l (List.Sublist.refl _)), (.cons rfl (Le.of_eq (congrArg AV.S (by rw [flatB_next hif, hfb]; try rfl))) (.cons rfl (by first | exact Le.refl _ | exact Le.nils | exact Le.row _ _ _ _ | exact Le.of_eq (by first | rfl | (simp; done) | (push_cast; rfl) | (simp; omega))) .nil)), (.cons rfl (Le.refl _) (.cons rfl (Le.refl _) (.cons rfl (Le.refl _) .nil)))⟩
  try simp only [zA,zO,zN,zM,zP,zQ,zD,zF,gd] at hb5
  have hm3 : ¬ fname ((kindA x.kind.toNat).2[i]'hif) = datN := hb5
  refine AC_seq (AC_region ?_)
  refine p_ (S_eqS rfl (.tmp rfl) (AEv.S _)) ?_
  refine as_ rfl rfl rfl rfl ?_
  refine AL_nil ?_
  refine AC_cond (.tmp rfl) (fun hb6 => ?_) (fun hb6 => ?_)
  ·try simp only [zA,zO,zN,zM,zP,zQ,zD,zF,gd] at hb6
   have hf9 : ((kindA x.kind.toNat).2[i]'hif) = 108 := (fname_in (kind_letters _ _ (List.getElem_mem hif)) (g := 108) (by unfold Letter; simp)).1 hb6
   have hfb : fieldB x ((kindA x.kind.toNat).2[i]'hif) = listB labB x.sel := by rw [hf9]; rfl
   have hll : LabsOk x.sel := by have h8 := field_ok hu hfe; rw [hf9] at h8; exact h8
   have hl1 := hll.1
   have hsl : ∀ y ∈ x.sel, y.1.length ≤ 400 ∧ y.2.length ≤ 400 := fun y hy => ⟨by have := (hll.2 y hy).1; omega, by have := (hll.2 y hy).2; omega⟩
   have hpl : (listB labB x.sel).length ≤ 20000 := by rw [← hfb]; exact hfq
   refine AC_region ?_
   refine mv rfl rfl rfl rfl ?_
   refine fl 15 ?_
   refine ld 0 ?_
   refine p_ (S_pcall rfl (AEvs.cons (.tmp rfl) AEvs.nil) (ref07_Labels_ok x.sel (by omega) hsl)) ?_
   refine p_ (S_cat rfl (.tmp rfl) (.tmp rfl) (by first | omega | (simp only [List.length_append]; omega))) ?_
   refine as_ rfl rfl rfl rfl ?_
   refine AL_nil ?_
   refine AC_region ?_
   refine mv rfl rfl rfl rfl ?_
   refine p_ (S_addI rfl (.tmp rfl) (AEv.const _) (by omega) (by omega)) ?_
   refine as_ rfl rfl rfl rfl ?_
   refine AL_nil ?_
   exact ⟨i + 1, by omega, by omega, (Sub.l (List.Sublist.refl _)), (.cons rfl (Le.of_eq (congrArg AV.S (by rw [flatB_next hif, hfb]; try rfl))) (.cons rfl (by first | exact Le.refl _ | exact Le.nils | exact Le.row _ _ _ _ | exact Le.of_eq (by first | rfl | (simp; done) | (push_cast; rfl) | (simp; omega))) .nil)), (.cons rfl (Le.refl _) (.cons rfl (Le.refl _) (.cons rfl (Le.refl _) .nil)))⟩
  try simp only [zA,zO,zN,zM,zP,zQ,zD,zF,gd] at hb6
  have hm4 : ¬ fname ((kindA x.kind.toNat).2[i]'hif) = slN := hb6
  obtain ⟨hv0, hv1, hfb⟩ := bounds_num (kind_letters _ _ (List.getElem_mem hif)) hm1 hm2 hm3 hm4 hfe
  have hpl := numB_len (n := (boundsA x (fname ((kindA x.kind.toNat).2[i]'hif))).1) (by omega)
  have hpl2 : (putL (boundsA x (fname ((kindA x.kind.toNat).2[i]'hif))).1.toNat).length ≤ 10 := hpl
  refine AC_seq ?_
  refine AC_draw (by kernel_rfl) (by kernel_rfl) (.cons rfl (Q_p rfl (S_loadN (m := 16) 0 rfl (.tmp rfl) rfl (by kernel_rfl) (by first | exact Nat.le_of_ble_eq_true rfl | (simp; omega) | simp))) <|
    .cons rfl (Q_p rfl (S_move rfl (.tmp rfl))) <|
    .cons rfl (Q_p rfl (S_move rfl (.tmp rfl))) <|
    .cons rfl (Q_p rfl (S_elemN (e := 9) 1 rfl (.tmp rfl) (.tmp rfl) (by kernel_rfl) (by kernel_rfl) (by omega) (fun _ => rfl))) <|
    .cons rfl (Q_p rfl (S_loadP rfl (.tmp rfl) rfl (by kernel_rfl))) <|
    .cons rfl (Q_p rfl (S_pcall rfl (AEvs.cons (.tmp rfl) (AEvs.cons (y := .S (fname ((kindA x.kind.toNat).2[i]'hif))) ((AEv.tmp rfl).le (Le.of_eq (congrArg AV.S hfi))) AEvs.nil)) (ref08_bounds_ok x (fname ((kindA x.kind.toNat).2[i]'hif))))) <|
    .cons rfl (Q_p rfl (S_move rfl (.tmp rfl))) <|
    .cons rfl (Q_p rfl (S_extract 0 rfl (.tmp rfl) rfl)) <|
    .cons rfl (Q_p rfl (S_extract 1 rfl (.tmp rfl) rfl)) <|
    .cons rfl (Q_p rfl (S_extract 2 rfl (.tmp rfl) rfl)) <|
    .cons rfl (Q_p rfl (S_assign rfl (.tmp rfl))) <|
    .cons rfl (Q_p rfl (S_assign rfl (.tmp rfl))) <|
    .cons rfl (Q_p rfl (S_assign rfl (.tmp rfl))) <|
    .nil) ?_
  refine AC_region ?_
  refine mv rfl rfl rfl rfl ?_
  refine mv rfl rfl rfl rfl ?_
  refine p_ ((S_conv (k' := .u64) rfl (.tmp rfl) (by kernel_rfl) (by kernel_rfl)).ofV (V' := .int .u64 ((((boundsA x (fname ((kindA x.kind.toNat).2[i]'hif))).1).toNat : Nat) : Int)) (congrArg (AV.int .u64) (by rw [u64w]; omega))) ?_
  refine p_ (S_pcall rfl (AEvs.cons (.tmp rfl) AEvs.nil) (ref_Put_ok (boundsA x (fname ((kindA x.kind.toNat).2[i]'hif))).1.toNat (by omega))) ?_
  refine p_ (S_cat rfl (.tmp rfl) (.tmp rfl) (by first | omega | (simp only [List.length_append]; omega))) ?_
  refine as_ rfl rfl rfl rfl ?_
  refine AL_nil ?_
  refine AC_region ?_
  refine mv rfl rfl rfl rfl ?_
  refine p_ (S_addI rfl (.tmp rfl) (AEv.const _) (by omega) (by omega)) ?_
  refine as_ rfl rfl rfl rfl ?_
  refine AL_nil ?_
  exact ⟨i + 1, by omega, by omega, (Sub.l (List.Sublist.refl _)), (.cons rfl (Le.of_eq (congrArg AV.S (by rw [flatB_next hif, hfb]; try rfl))) (.cons rfl (by first | exact Le.refl _ | exact Le.nils | exact Le.row _ _ _ _ | exact Le.of_eq (by first | rfl | (simp; done) | (push_cast; rfl) | (simp; omega))) .nil)), (.cons rfl (Le.refl _) (.cons rfl (Le.refl _) (.cons rfl (Le.refl _) .nil)))⟩
 try simp only [zA,zO,zN,zM,zP,zQ,zD,zF,gd] at hb2
 have hx : (kindA x.kind.toNat).2.take i = (kindA x.kind.toNat).2 := List.take_of_length_le (by first | omega | (have h9 := hb2; simp [strsV] at h9; simpa using h9))
 refine AC_exit ?_
 refine AC_seq (AC_region ?_)
 refine mv rfl rfl rfl rfl ?_
 refine as_ rfl rfl rfl rfl ?_
 refine AL_nil (AC_ret ?_)
 refine ret_tmp st rfl rfl (Sub.l (List.sublist_cons_self _ _)) (Conv.refl (Sub.l (List.sublist_cons_self _ _)) _) ⟨congrArg AV.S (by rw [hx]; rfl), rfl⟩ (.inl rfl)
end Go.Proofs.YtfpkefhjomeeeaaGreatDoor

set_option maxRecDepth 100000
namespace Go.Proofs.YtfpkefhjomeeeaaGreatDoor
open Go.AL Go.NumSpec
theorem ref45_numbers_ok : PCalls Tryz.prog 46 [] (.sl (intsV numbersI)) := by
 intro st
 refine co 2 Tryz.func46 ?_
 refine AC_seq (AC_region ?_)
 refine ac rfl rfl rfl ?_
 refine AL_nil (AC_seq (AC_region ?_))
 refine p_ (S_buildSlice (e := 3) 1 rfl (AEvs.cons (AEv.const _) (AEvs.cons (AEv.const _) (AEvs.cons (AEv.const _) (AEvs.cons (AEv.const _) (AEvs.cons (AEv.const _) (AEvs.cons (AEv.const _) (AEvs.cons (AEv.const _) (AEvs.cons (AEv.const _) (AEvs.cons (AEv.const _) (AEvs.cons (AEv.const _) (AEvs.cons (AEv.const _) (AEvs.cons (AEv.const _) (AEvs.cons (AEv.const _) (AEvs.cons (AEv.const _) (AEvs.cons (AEv.const _) (AEvs.cons (AEv.const _) (AEvs.cons (AEv.const _) (AEvs.cons (AEv.const _) (AEvs.cons (AEv.const _) (AEvs.cons (AEv.const _) (AEvs.cons (AEv.const _) (AEvs.cons (AEv.const _) (AEvs.cons (AEv.const _) (AEvs.cons (AEv.const _) AEvs.nil)))))))))))))))))))))))) rfl (by kernel_rfl) (by kernel_rfl) (by intro y hy; simp only [List.mem_cons, List.not_mem_nil, or_false] at hy; rcases hy with rfl | rfl | rfl | rfl | rfl | rfl | rfl | rfl | rfl | rfl | rfl | rfl | rfl | rfl | rfl | rfl | rfl | rfl | rfl | rfl | rfl | rfl | rfl | rfl <;> exact ⟨rfl, rfl⟩) (by decide) (by decide) (by decide)) ?_
 refine as_ rfl rfl rfl rfl ?_
 refine AL_nil (AC_ret ?_)
 refine ret_tmp st rfl rfl (Sub.l (List.Sublist.refl _)) (Conv.refl (Sub.l (List.Sublist.refl _)) _) ⟨rfl, rfl⟩ (.inl rfl)
theorem ref45_Right_ok (e : Ent) (hn : e.n.length ≤ 1000000) (hd : e.data.length ≤ 1000000) : PCalls Tryz.prog 21 [entAV e] (.bool (rightB e)) := by
 intro st
 refine co 71 Tryz.func21 ?_
 refine AC_seq (AC_region ?_)
 refine s_ (S_box rfl (.tmp rfl)) ?_
 rintro _ _ ⟨b1, rfl, rfl⟩
 refine ac rfl rfl rfl ?_
 refine AL_nil ?_
 refine AC_seq ?_
 refine AC_seq ?_
 refine AC_draw (by kernel_rfl) (by kernel_rfl) (.cons rfl (Q_p rfl (S_field 0 rfl (.tmp rfl) (by kernel_rfl))) <|
   .cons rfl (Q_p rfl (S_load 0 rfl (.tmp rfl) rfl rfl (by kernel_rfl))) <|
   .cons rfl (Q_p rfl (S_lss rfl (.tmp rfl) (AEv.const _))) <|
   .cons rfl (Q_p rfl (S_move rfl (.tmp rfl))) <|
   .cons rfl (Q_g rfl rfl (.tmp rfl) (fun hg2 => S_field 0 rfl (.tmp rfl) (by kernel_rfl))) <|
   .cons rfl (Q_g rfl rfl (.tmp rfl) (fun hg5 => S_load 0 rfl (AEv.cd (.tmp rfl)) rfl rfl (by kernel_rfl))) <|
   .cons rfl (Q_g rfl rfl (.tmp rfl) (fun hg8 => S_gtr rfl (AEv.cd (.tmp rfl)) (AEv.const _))) <|
   .cons rfl (Q_p rfl (S_or rfl (.tmp rfl) (fun hp11 => (AEv.cd (.tmp rfl))))) <|
   .cons rfl (Q_p rfl (S_move rfl (.tmp rfl))) <|
   .cons rfl (Q_g rfl rfl (.tmp rfl) (fun hg12 => S_field 1 rfl (.tmp rfl) (by kernel_rfl))) <|
   .cons rfl (Q_g rfl rfl (.tmp rfl) (fun hg15 => S_load 0 rfl (AEv.cd (.tmp rfl)) rfl rfl (by kernel_rfl))) <|
   .cons rfl (Q_g rfl rfl (.tmp rfl) (fun hg18 => by first | exact S_lenM (e := 3) rfl (AEv.cd (.tmp rfl)) (by kernel_rfl) | exact S_len (e := 3) rfl (AEv.cd (.tmp rfl)) (by kernel_rfl))) <|
   .cons rfl (Q_g rfl rfl (.tmp rfl) (fun hg21 => S_pcall rfl AEvs.nil (ref45_numbers_ok))) <|
   .cons rfl (Q_g rfl rfl (.tmp rfl) (fun hg24 => S_field 0 rfl (.tmp rfl) (by kernel_rfl))) <|
   .cons rfl (Q_g rfl rfl (.tmp rfl) (fun hg27 => S_load 0 rfl (AEv.cd (.tmp rfl)) rfl rfl (by kernel_rfl))) <|
   .cons rfl (Q_g rfl rfl (.tmp rfl) (fun hg30 => S_elemD (e := 3) (i := e.verb.toNat) (f := (fun n : Int => AV.int .i64 n)) (l := numbersI) (0 : Int) 1 rfl (AEv.cd (.tmp rfl)) ((AEv.cd (.tmp rfl)).le (Le.of_eq (congrArg (AV.int _) (by (try simp only [gd, Bool.and_eq_true, Bool.or_eq_true, Bool.not_eq_true', Bool.not_eq_false', decide_eq_true_eq, decide_eq_false_iff_not, Bool.or_eq_false_iff, Bool.and_eq_false_iff] at *); omega)))) (by kernel_rfl) (by kernel_rfl) (by rw [numbers_len]; (try simp only [gd, Bool.and_eq_true, Bool.or_eq_true, Bool.not_eq_true', Bool.not_eq_false', decide_eq_true_eq, decide_eq_false_iff_not, Bool.or_eq_false_iff, Bool.and_eq_false_iff] at *); omega) (fun _ => rfl))) <|
   .cons rfl (Q_g rfl rfl (.tmp rfl) (fun hg33 => S_loadP rfl (AEv.cd (.tmp rfl)) rfl (by kernel_rfl))) <|
   .cons rfl (Q_g rfl rfl (.tmp rfl) (fun hg36 => S_neq rfl (AEv.cd (.tmp rfl)) (AEv.cd (.tmp rfl)))) <|
   .cons rfl (Q_p rfl (S_or rfl (.tmp rfl) (fun hp39 => (AEv.cd (.tmp rfl))))) <|
   .nil) ?_
 refine AC_cond (.tmp rfl) (fun hb40 => ?_) (fun hb40 => ?_)
 ·try simp only [zA,zO,zN,zM,zP,zQ,zD,zF,gd] at hb40
  have hx := right_no (e := e) (by rw [numbers_at] at hb40; omega)
  refine AC_seq (AC_region ?_)
  refine ac rfl rfl rfl ?_
  refine AL_nil (AC_ret ?_)
  refine ret_tmp st rfl rfl (Sub.l (List.sublist_cons_self _ _)) (Conv.refl (Sub.l (List.sublist_cons_self _ _)) _) ⟨by rw [hx], rfl⟩ (.inl rfl)
 try simp only [zA,zO,zN,zM,zP,zQ,zD,zF,gd] at hb40
 rw [numbers_at] at hb40
 have hv1 : 1 ≤ e.verb := by omega
 have hv2 : e.verb < 24 := by omega
 have hv3 : (e.n.length : Int) = (verbA e.verb.toNat).2.1 := by omega
 refine AC_skip ?_
 refine AC_seq ?_
 refine AC_seq (AC_region ?_)
 refine ac rfl rfl rfl ?_
 refine AL_nil ?_
 refine AC_block ?_
 refine AC_loopK (G := Nat) [(1, _)] (fun g => g ≤ e.n.length ∧ ∀ j (hj : j < e.n.length), j < g → 0 ≤ e.n[j] ∧ e.n[j] ≤ 1073741824) (fun g => [(3, .int .i64 (g : Int))]) (fun g => (b1, .cells (entL e)) :: st) (fun g => e.n.length - g) (0) (⟨Nat.zero_le _, fun j _ h => absurd h (Nat.not_lt_zero _)⟩) (Sub.l (List.Sublist.refl _)) (.cons rfl (Le.refl _) .nil) (.cons rfl (by first | exact Le.refl _ | exact Le.nils | exact Le.row _ _ _ _ | exact Le.of_eq (by first | rfl | (simp; done) | (push_cast; rfl) | (simp; omega))) .nil) ?_
 rintro i ⟨hi, hall⟩
 try dsimp only
 simp only [List.cons_append, List.nil_append]
 refine AC_seq ?_
 refine AC_seq (AC_region ?_)
 refine mv rfl rfl rfl rfl ?_
 refine fl 1 ?_
 refine ld 0 ?_
 refine p_ (by first | exact S_lenM (e := 3) rfl (.tmp rfl) (by kernel_rfl) | exact S_len (e := 3) rfl (.tmp rfl) (by kernel_rfl)) ?_
 refine p_ (S_lss rfl (.tmp rfl) (.tmp rfl)) ?_
 refine AL_nil ?_
 refine AC_cond (.tmp rfl) (fun hb41 => ?_) (fun hb41 => ?_)
 ·try simp only [zA,zO,zN,zM,zP,zQ,zD,zF,gd] at hb41
  have hil : i < e.n.length := by omega
  have hgd : e.n.getD i 0 = (e.n[i]'hil) := by rw [List.getD_eq_getElem?_getD, List.getElem?_eq_getElem hil]; rfl
  refine AC_skip ?_
  refine AC_seq ?_
  refine AC_block ?_
  refine AC_seq (AC_region ?_)
  refine fl 1 ?_
  refine ld 0 ?_
  refine mv rfl rfl rfl rfl ?_
  refine p_ (S_elemN (e := 3) 1 rfl (.tmp rfl) (.tmp rfl) (by kernel_rfl) (by kernel_rfl) (by omega) (fun _ => rfl)) ?_
  refine p_ (S_loadP rfl (.tmp rfl) rfl (by kernel_rfl)) ?_
  refine p_ (S_lss rfl (.tmp rfl) (AEv.const _)) ?_
  refine mv rfl rfl rfl rfl ?_
  refine g_ (fun _ => fA 1) ?_
  refine g_ (fun _ => lA 0) ?_
  refine g_ (fun _ => mA) ?_
  refine g_ (fun _ => S_elemD (e := 3) (0 : Int) 1 rfl (AEv.cd (.tmp rfl)) (AEv.cd (.tmp rfl)) (by kernel_rfl) (by kernel_rfl) (by (try simp only [gd, Bool.and_eq_true, Bool.or_eq_true, Bool.not_eq_true', Bool.not_eq_false', decide_eq_true_eq, decide_eq_false_iff_not, Bool.or_eq_false_iff, Bool.and_eq_false_iff] at *); omega) (fun _ => rfl)) ?_
  refine g_ (fun _ => S_loadP rfl (AEv.cd (.tmp rfl)) rfl (by kernel_rfl)) ?_
  refine g_ (fun _ => S_gtr rfl (AEv.cd (.tmp rfl)) (AEv.const _)) ?_
  refine p_ (S_or rfl (.tmp rfl) (fun hp60 => (AEv.cd (.tmp rfl)))) ?_
  refine AL_nil ?_
  refine AC_cond (.tmp rfl) (fun hb61 => ?_) (fun hb61 => ?_)
  ·try simp only [zA,zO,zN,zM,zP,zQ,zD,zF,gd] at hb61
   rw [hgd] at hb61
   have hx := right_num hil (by omega)
   refine AC_seq (AC_region ?_)
   refine ac rfl rfl rfl ?_
   refine AL_nil (AC_ret ?_)
   refine ret_tmp st rfl rfl (Sub.l (List.sublist_cons_self _ _)) (Conv.refl (Sub.l (List.sublist_cons_self _ _)) _) ⟨by rw [hx], rfl⟩ (.inl rfl)
  try simp only [zA,zO,zN,zM,zP,zQ,zD,zF,gd] at hb61
  rw [hgd] at hb61
  have hin : 0 ≤ e.n[i] ∧ e.n[i] ≤ 1073741824 := by omega
  refine AC_skip ?_
  refine AC_region ?_
  refine mv rfl rfl rfl rfl ?_
  refine p_ (S_addI rfl (.tmp rfl) (AEv.const _) (by omega) (by omega)) ?_
  refine as_ rfl rfl rfl rfl ?_
  refine AL_nil ?_
  exact ⟨i + 1, ⟨by omega, fun j hj h => by
   rcases Nat.lt_or_ge j i with h9 | h9
   ·exact hall j hj h9
   ·have e9 : j = i := by omega
    subst e9; exact hin⟩, by omega, (Sub.l (List.Sublist.refl _)), (.cons rfl (by first | exact Le.refl _ | exact Le.nils | exact Le.row _ _ _ _ | exact Le.of_eq (by first | rfl | (simp; done) | (push_cast; rfl) | (simp; omega))) .nil), (.cons rfl (Le.refl _) .nil)⟩
 try simp only [zA,zO,zN,zM,zP,zQ,zD,zF,gd] at hb41
 have hx := right_yes hv1 hv2 hv3 fun j hj => hall j hj (by omega)
 refine AC_exit ?_
 refine AC_seq ?_
 refine AC_seq (AC_region ?_)
 refine fl 0 ?_
 refine ld 0 ?_
 refine p_ (S_eql rfl (.tmp rfl) (AEv.const _)) ?_
 refine AL_nil ?_
 refine AC_cond (.tmp rfl) (fun hb62 => ?_) (fun hb62 => ?_)
 ·try simp only [zA,zO,zN,zM,zP,zQ,zD,zF,gd] at hb62
  rw [dataB, if_pos ((kind_hex hv1 hv2).2 hb62)] at hx
  refine AC_seq (AC_region ?_)
  refine fl 2 ?_
  refine ld 0 ?_
  refine p_ (S_lenS (ts := #[]) rfl (.tmp rfl) (by kernel_rfl)) ?_
  refine p_ (S_geq rfl (.tmp rfl) (AEv.const _)) ?_
  refine mv rfl rfl rfl rfl ?_
  refine g_ (fun _ => fA 2) ?_
  refine g_ (fun _ => lA 0) ?_
  refine g_ (fun _ => S_lenS (ts := #[]) rfl (AEv.cd (.tmp rfl)) (by kernel_rfl)) ?_
  refine g_ (fun _ => S_leq rfl (AEv.cd (.tmp rfl)) (AEv.const _)) ?_
  refine an ?_
  refine as_ rfl rfl rfl rfl ?_
  refine AL_nil (AC_ret ?_)
  refine ret_tmp st rfl rfl (Sub.l (List.sublist_cons_self _ _)) (Conv.refl (Sub.l (List.sublist_cons_self _ _)) _) ⟨congrArg AV.bool (by rw [hx]; first | exact hex_len | (simpa using hex_len)), rfl⟩ (.inl rfl)
 try simp only [zA,zO,zN,zM,zP,zQ,zD,zF,gd] at hb62
 have hk1 : ¬ (verbA e.verb.toNat).2.2 = 1 := fun h => hb62 ((kind_hex hv1 hv2).1 h)
 refine AC_skip ?_
 refine AC_seq ?_
 refine AC_seq (AC_region ?_)
 refine fl 0 ?_
 refine ld 0 ?_
 refine p_ (S_eql rfl (.tmp rfl) (AEv.const _)) ?_
 refine mv rfl rfl rfl rfl ?_
 refine g_ (fun _ => fA 0) ?_
 refine g_ (fun _ => lA 0) ?_
 refine g_ (fun _ => S_eql rfl (AEv.cd (.tmp rfl)) (AEv.const _)) ?_
 refine p_ (S_or rfl (.tmp rfl) (fun hp85 => (AEv.cd (.tmp rfl)))) ?_
 refine AL_nil ?_
 refine AC_cond (.tmp rfl) (fun hb86 => ?_) (fun hb86 => ?_)
 ·try simp only [zA,zO,zN,zM,zP,zQ,zD,zF,gd] at hb86
  rw [dataB, if_neg hk1, if_pos ((kind_name hv1 hv2).2 hb86)] at hx
  refine AC_seq (AC_region ?_)
  refine fl 2 ?_
  refine ld 0 ?_
  refine p_ (S_pcall rfl (AEvs.cons (.tmp rfl) AEvs.nil) (ref03_Name_ok e.data hd)) ?_
  refine as_ rfl rfl rfl rfl ?_
  refine AL_nil (AC_ret ?_)
  refine ret_tmp st rfl rfl (Sub.l (List.sublist_cons_self _ _)) (Conv.refl (Sub.l (List.sublist_cons_self _ _)) _) ⟨congrArg AV.bool (by rw [hx]), rfl⟩ (.inl rfl)
 try simp only [zA,zO,zN,zM,zP,zQ,zD,zF,gd] at hb86
 rw [dataB, if_neg hk1, if_neg fun h => by have := (kind_name hv1 hv2).1 h; omega] at hx
 refine AC_skip ?_
 refine AC_seq (AC_region ?_)
 refine fl 2 ?_
 refine ld 0 ?_
 refine p_ (S_eqS rfl (.tmp rfl) (AEv.S _)) ?_
 refine as_ rfl rfl rfl rfl ?_
 refine AL_nil (AC_ret ?_)
 refine ret_tmp st rfl rfl (Sub.l (List.sublist_cons_self _ _)) (Conv.refl (Sub.l (List.sublist_cons_self _ _)) _) ⟨congrArg AV.bool (by rw [hx]), rfl⟩ (.inl rfl)
set_option maxHeartbeats 2000000 in
theorem ref45_Call_ok (e : Ent) (hn : e.n.length ≤ 1000000) (hd : e.data.length ≤ 1000000) : PCalls Tryz.prog 9 [entAV e] (.tup [calAV (callA e), .bool (okE e)]) := by
 intro st
 refine co 99 Tryz.func9 ?_
 refine AC_seq (AC_region ?_)
 refine s_ (S_box rfl (.tmp rfl)) ?_
 rintro _ _ ⟨b1, rfl, rfl⟩
 refine s_ (S_alloc [.int .i64 0, .int .i64 0, .int .u64 0, .string ⟨#[]⟩, .slice none 0 0, .slice none 0 0, .slice none 0 0, .int .i64 0, .int .i64 0, .int .i64 0, .int .i64 0, .int .i64 0, .int .i64 0, .int .i64 0, .string ⟨#[]⟩, .slice none 0 0] rfl (by kernel_rfl)) ?_
 rintro _ _ ⟨b2, rfl, rfl⟩
 refine ac rfl rfl rfl ?_
 refine AL_nil ?_
 refine AC_seq ?_
 refine AC_seq (AC_region ?_)
 refine ldN 3 1 ?_
 refine p_ (S_pcall rfl (AEvs.cons (y := entAV e) (.tmp rfl) AEvs.nil) (ref45_Right_ok e hn hd)) ?_
 refine p_ (S_not rfl (.tmp rfl)) ?_
 refine mv rfl rfl rfl rfl ?_
 refine g_ (fun _ => fA 0) ?_
 refine g_ (fun _ => lA 1) ?_
 refine g_ (fun _ => S_lss rfl (AEv.cd (.tmp rfl)) (AEv.const _)) ?_
 refine p_ (S_or rfl (.tmp rfl) (fun hp12 => (AEv.cd (.tmp rfl)))) ?_
 refine AL_nil ?_
 refine AC_cond (.tmp rfl) (fun hb13 => ?_) (fun hb13 => ?_)
 ·try simp only [zA,zO,zN,zM,zP,zQ,zD,zF,gd] at hb13
  have hx : okE e = false := by
   unfold okE
   rcases hb13 with h | h
   ·rw [h]; rfl
   ·rw [decide_eq_false (by omega), Bool.and_false]
  have hy : callA e = cal0 0 := if_neg (by rw [hx]; decide)
  refine AC_seq (AC_region ?_)
  refine p_ (S_build (t := 33) (pl := [(0, 1), (1, 1), (2, 1), (3, 7), (10, 1), (11, 1), (12, 1), (13, 1), (14, 1), (15, 1)]) (zs := [.int .i64 0, .int .i64 0, .int .u64 0, .string ⟨#[]⟩, .slice none 0 0, .slice none 0 0, .slice none 0 0, .int .i64 0, .int .i64 0, .int .i64 0, .int .i64 0, .int .i64 0, .int .i64 0, .int .i64 0, .string ⟨#[]⟩, .slice none 0 0]) rfl AEvs.nil (by kernel_rfl) rfl) ?_
  refine s_ (S_storeW 0 rfl (.tmp rfl) ((AEv.tmp rfl).le (z := calAV (cal0 0)) (by exact (Les.agg (.cons (Le.refl _) (.cons (Le.refl _) (.cons (Le.refl _) (.cons (Le.refl _) (.cons (Le.nils) (.cons (Le.nils) (.cons (Le.nils) (.cons (Le.refl _) (.cons (Le.refl _) (.cons (Le.refl _) (.cons (Le.refl _) (.cons (Le.refl _) (.cons (Le.refl _) (.cons (Le.refl _) (.cons (Le.refl _) (.cons (Le.nils) .nil))))))))))))))))))) rfl rfl rfl (by kernel_rfl)) ?_
  rintro _ _ ⟨rfl, rfl⟩
  refine ac rfl rfl rfl ?_
  refine AL_nil (AC_ret ?_)
  refine ret_outs st rfl (by decide) (OutsR.row 0 rfl rfl (by kernel_rfl) (OutsR.tmp rfl OutsR.nil)) (Sub.l (.cons _ (.cons _ (List.Sublist.refl _)))) (Conv.refl (Sub.l (.cons _ (.cons _ (List.Sublist.refl _)))) _) ⟨by rw [hx, hy] <;> rfl, rfl⟩ (.inl rfl)
 try simp only [zA,zO,zN,zM,zP,zQ,zD,zF,gd] at hb13
 have hr : rightB e = true := by simpa using hb13.1
 have hv0 : 13 ≤ e.verb := by have := hb13.2; omega
 obtain ⟨_, hv24, hrl, _, _⟩ := right_spec hr
 have hx : okE e = true := by unfold okE; rw [hr, decide_eq_true hv0]; rfl
 have hy : callA e = callE e := if_pos hx
 have hb1 := nE_bnd hr 1
 have hb2 := nE_bnd hr 2
 refine AC_skip ?_
 refine AC_seq (AC_region ?_)
 refine ac rfl rfl rfl ?_
 refine AL_nil (AC_seq (AC_region ?_))
 refine ac rfl rfl rfl ?_
 refine AL_nil ?_
 refine AC_joinK (G := Unit) [(1, _), (2, _), (3, _), (5, _)] (fun _ => True) (fun _ => [(4, .int .i64 (nE e 1))]) (fun _ => (b2, .cells [.int .i64 0, .int .i64 0, .int .u64 0, .S [], .nils, .nils, .nils, .int .i64 0, .int .i64 0, .int .i64 0, .int .i64 0, .int .i64 0, .int .i64 0, .int .i64 0, .S [], .nils]) :: (b1, .cells (entL e)) :: st) (.cons rfl (Le.refl _) (.cons rfl (Le.refl _) (.cons rfl (Le.refl _) (.cons rfl (Le.refl _) .nil)))) ?_ ?_
 ·refine AC_seq (AC_region ?_)
  refine fl 1 ?_
  refine ld 1 ?_
  refine p_ (by first | exact S_lenM (e := 3) rfl (.tmp rfl) (by kernel_rfl) | exact S_len (e := 3) rfl (.tmp rfl) (by kernel_rfl)) ?_
  refine p_ (S_gtr rfl (.tmp rfl) (AEv.const _)) ?_
  refine AL_nil ?_
  refine AC_cond (.tmp rfl) (fun hb14 => ?_) (fun hb14 => ?_)
  ·try simp only [zA,zO,zN,zM,zP,zQ,zD,zF,gd] at hb14
   refine AC_region ?_
   refine fl 1 ?_
   refine ld 1 ?_
   refine p_ (S_elemD (e := 3) (i := 1) (0 : Int) 1 rfl (.tmp rfl) (AEv.const _) (by kernel_rfl) (by kernel_rfl) (by omega) (fun _ => rfl)) ?_
   refine p_ (S_loadP rfl (.tmp rfl) rfl (by kernel_rfl)) ?_
   refine as_ rfl rfl rfl rfl ?_
   refine AL_nil ?_
   exact ⟨(), trivial, (Sub.l (List.Sublist.refl _)), (.cons rfl (by first | exact Le.refl _ | exact Le.of_eq (congrArg (AV.int .i64) hz.symm)) .nil), (.cons rfl (Le.refl _) (.cons rfl (Le.refl _) (.cons rfl (Le.refl _) (.cons rfl (Le.refl _) .nil))))⟩
  try simp only [zA,zO,zN,zM,zP,zQ,zD,zF,gd] at hb14
  have hz : nE e 1 = 0 := nE_no (by omega)
  refine AC_skip ?_
  exact ⟨(), trivial, (Sub.l (List.Sublist.refl _)), (.cons rfl (by first | exact Le.refl _ | exact Le.of_eq (congrArg (AV.int .i64) hz.symm)) .nil), (.cons rfl (Le.refl _) (.cons rfl (Le.refl _) (.cons rfl (Le.refl _) (.cons rfl (Le.refl _) .nil))))⟩
 rintro _ _
 try dsimp only
 simp only [List.cons_append, List.nil_append]
 refine AC_joinK (G := Unit) [(1, _), (2, _), (3, _), (4, _)] (fun _ => True) (fun _ => [(5, .int .i64 (nE e 2))]) (fun _ => (b2, .cells [.int .i64 0, .int .i64 0, .int .u64 0, .S [], .nils, .nils, .nils, .int .i64 0, .int .i64 0, .int .i64 0, .int .i64 0, .int .i64 0, .int .i64 0, .int .i64 0, .S [], .nils]) :: (b1, .cells (entL e)) :: st) (.cons rfl (Le.refl _) (.cons rfl (Le.refl _) (.cons rfl (Le.refl _) (.cons rfl (Le.refl _) .nil)))) ?_ ?_
 ·refine AC_seq (AC_region ?_)
  refine fl 1 ?_
  refine ld 1 ?_
  refine p_ (by first | exact S_lenM (e := 3) rfl (.tmp rfl) (by kernel_rfl) | exact S_len (e := 3) rfl (.tmp rfl) (by kernel_rfl)) ?_
  refine p_ (S_gtr rfl (.tmp rfl) (AEv.const _)) ?_
  refine AL_nil ?_
  refine AC_cond (.tmp rfl) (fun hb15 => ?_) (fun hb15 => ?_)
  ·try simp only [zA,zO,zN,zM,zP,zQ,zD,zF,gd] at hb15
   refine AC_region ?_
   refine fl 1 ?_
   refine ld 1 ?_
   refine p_ (S_elemD (e := 3) (i := 2) (0 : Int) 1 rfl (.tmp rfl) (AEv.const _) (by kernel_rfl) (by kernel_rfl) (by omega) (fun _ => rfl)) ?_
   refine p_ (S_loadP rfl (.tmp rfl) rfl (by kernel_rfl)) ?_
   refine as_ rfl rfl rfl rfl ?_
   refine AL_nil ?_
   exact ⟨(), trivial, (Sub.l (List.Sublist.refl _)), (.cons rfl (by first | exact Le.refl _ | exact Le.of_eq (congrArg (AV.int .i64) hz.symm)) .nil), (.cons rfl (Le.refl _) (.cons rfl (Le.refl _) (.cons rfl (Le.refl _) (.cons rfl (Le.refl _) .nil))))⟩
  try simp only [zA,zO,zN,zM,zP,zQ,zD,zF,gd] at hb15
  have hz : nE e 2 = 0 := nE_no (by omega)
  refine AC_skip ?_
  exact ⟨(), trivial, (Sub.l (List.Sublist.refl _)), (.cons rfl (by first | exact Le.refl _ | exact Le.of_eq (congrArg (AV.int .i64) hz.symm)) .nil), (.cons rfl (Le.refl _) (.cons rfl (Le.refl _) (.cons rfl (Le.refl _) (.cons rfl (Le.refl _) .nil))))⟩
 rintro _ _
 try dsimp only
 simp only [List.cons_append, List.nil_append]
 refine AC_seq (AC_region ?_)
 refine p_ (S_buildSlice (e := 3) 1 rfl (AEvs.cons (AEv.const _) (AEvs.cons (AEv.const _) (AEvs.cons (AEv.const _) (AEvs.cons (AEv.const _) (AEvs.cons (AEv.const _) (AEvs.cons (AEv.const _) (AEvs.cons (AEv.const _) (AEvs.cons (AEv.const _) (AEvs.cons (AEv.const _) (AEvs.cons (AEv.const _) (AEvs.cons (AEv.const _) AEvs.nil))))))))))) rfl (by kernel_rfl) (by kernel_rfl) (by intro y hy; simp only [List.mem_cons, List.not_mem_nil, or_false] at hy; rcases hy with rfl | rfl | rfl | rfl | rfl | rfl | rfl | rfl | rfl | rfl | rfl <;> exact ⟨rfl, rfl⟩) (by decide) (by decide) (by decide)) ?_
 refine as_ rfl rfl rfl rfl ?_
 refine AL_nil (AC_seq (AC_region ?_))
 refine mv rfl rfl rfl rfl ?_
 refine fl 0 ?_
 refine ld 1 ?_
 refine p_ (S_subI rfl (.tmp rfl) (AEv.const _) (by omega) (by omega)) ?_
 refine p_ (S_elem (e := 3) (c := .int .i64 (kindZ e)) (i := e.verb - 13) 1 rfl (.tmp rfl) (.tmp rfl) (by kernel_rfl) (by kernel_rfl) (by omega) (kinds_at (by omega) (by omega)) rfl) ?_
 refine p_ (S_loadP rfl (.tmp rfl) rfl (by kernel_rfl)) ?_
 refine p_ (S_build (t := 33) (pl := [(0, 1), (1, 1), (2, 1), (3, 7), (10, 1), (11, 1), (12, 1), (13, 1), (14, 1), (15, 1)]) (zs := [.int .i64 0, .int .i64 0, .int .u64 0, .string ⟨#[]⟩, .slice none 0 0, .slice none 0 0, .slice none 0 0, .int .i64 0, .int .i64 0, .int .i64 0, .int .i64 0, .int .i64 0, .int .i64 0, .int .i64 0, .string ⟨#[]⟩, .slice none 0 0]) rfl (AEvs.cons (.tmp rfl) AEvs.nil) (by kernel_rfl) rfl) ?_
 refine s_ (S_alloc [.int .i64 0, .int .i64 0, .int .u64 0, .string ⟨#[]⟩, .slice none 0 0, .slice none 0 0, .slice none 0 0, .int .i64 0, .int .i64 0, .int .i64 0, .int .i64 0, .int .i64 0, .int .i64 0, .int .i64 0, .string ⟨#[]⟩, .slice none 0 0] rfl (by kernel_rfl)) ?_
 rintro _ _ ⟨b7, rfl, rfl⟩
 refine s_ (S_storeW 0 rfl (.tmp rfl) ((AEv.tmp rfl).le (z := calAV { cal0 0 with kind := kindZ e }) (by exact (Les.agg (.cons (Le.refl _) (.cons (Le.refl _) (.cons (Le.refl _) (.cons (Le.refl _) (.cons (Le.nils) (.cons (Le.nils) (.cons (Le.nils) (.cons (Le.refl _) (.cons (Le.refl _) (.cons (Le.refl _) (.cons (Le.refl _) (.cons (Le.refl _) (.cons (Le.refl _) (.cons (Le.refl _) (.cons (Le.refl _) (.cons (Le.nils) .nil))))))))))))))))))) rfl rfl rfl (by kernel_rfl)) ?_
 rintro _ _ ⟨rfl, rfl⟩
 refine AL_nil ?_
 refine AC_joinK (G := Unit) [(1, _), (2, _), (3, _), (4, _), (5, _), (7, _)] (fun _ => True) (fun _ => []) (fun _ => (b7, .cells (calL (callE e))) :: (b2, .cells [.int .i64 0, .int .i64 0, .int .u64 0, .S [], .nils, .nils, .nils, .int .i64 0, .int .i64 0, .int .i64 0, .int .i64 0, .int .i64 0, .int .i64 0, .int .i64 0, .S [], .nils]) :: (b1, .cells (entL e)) :: st) (.cons rfl (Le.refl _) (.cons rfl (Le.refl _) (.cons rfl (Le.refl _) (.cons rfl (Le.refl _) (.cons rfl (Le.refl _) (.cons rfl (Le.refl _) .nil)))))) ?_ ?_
 ·refine AC_seq (AC_region ?_)
  refine fl 0 ?_
  refine ld 2 ?_
  refine AL_nil ?_
  refine AC_block ?_
  refine AC_seq ?_
  refine AC_seq (AC_region ?_)
  refine p_ (S_eql rfl (.tmp rfl) (AEv.const _)) ?_
  refine as_ rfl rfl rfl rfl ?_
  refine AL_nil ?_
  refine AC_cond (.tmp rfl) (fun hb17 => ?_) (fun hb17 => ?_)
  ·try simp only [zA,zO,zN,zM,zP,zQ,zD,zF,gd] at hb17
   refine AC_skip ?_
   refine AC_cond (.tmp rfl) (fun hb18 => ?_) (fun hb18 => ?_)
   ·try simp only [zA,zO,zN,zM,zP,zQ,zD,zF,gd] at hb18
    have hv9 : e.verb = 14 := by first | exact hb18 | omega
    have hpe : callE e = { cal0 10 with uid := nE e 1 } := by unfold callE; simp [hv9]
    have hkz : kindZ e = 10 := by unfold kindZ; rw [hv9]; rfl
    refine AC_region ?_
    refine mv rfl rfl rfl rfl ?_
    refine fl 1 ?_
    refine st1 0 ?_
    refine AL_nil ?_
    exact ⟨(), trivial, by rw [hpe]; show Sub _ _; rw [hkz]; exact (Sub.l (List.Sublist.refl _)), .nil, (.cons rfl (Le.refl _) (.cons rfl (Le.refl _) (.cons rfl (Le.refl _) (.cons rfl (Le.refl _) (.cons rfl (Le.refl _) (.cons rfl (Le.refl _) .nil))))))⟩
   exfalso; simp at hb18; omega
  try simp only [zA,zO,zN,zM,zP,zQ,zD,zF,gd] at hb17
  refine AC_region ?_
  refine p_ (S_eql rfl (.tmp rfl) (AEv.const _)) ?_
  refine as_ rfl rfl rfl rfl ?_
  refine AL_nil ?_
  refine AC_cond (.tmp rfl) (fun hb19 => ?_) (fun hb19 => ?_)
  ·try simp only [zA,zO,zN,zM,zP,zQ,zD,zF,gd] at hb19
   have hv9 : e.verb = 15 := by first | exact hb19 | omega
   have hpe : callE e = { cal0 8 with uid := nE e 1 } := by unfold callE; simp [hv9]
   have hkz : kindZ e = 8 := by unfold kindZ; rw [hv9]; rfl
   refine AC_region ?_
   refine mv rfl rfl rfl rfl ?_
   refine fl 1 ?_
   refine st1 0 ?_
   refine AL_nil ?_
   exact ⟨(), trivial, by rw [hpe]; show Sub _ _; rw [hkz]; exact (Sub.l (List.Sublist.refl _)), .nil, (.cons rfl (Le.refl _) (.cons rfl (Le.refl _) (.cons rfl (Le.refl _) (.cons rfl (Le.refl _) (.cons rfl (Le.refl _) (.cons rfl (Le.refl _) .nil))))))⟩
  try simp only [zA,zO,zN,zM,zP,zQ,zD,zF,gd] at hb19
  refine AC_seq (AC_region ?_)
  refine p_ (S_eql rfl (.tmp rfl) (AEv.const _)) ?_
  refine as_ rfl rfl rfl rfl ?_
  refine AL_nil ?_
  refine AC_cond (.tmp rfl) (fun hb20 => ?_) (fun hb20 => ?_)
  ·try simp only [zA,zO,zN,zM,zP,zQ,zD,zF,gd] at hb20
   have hv9 : e.verb = 16 := by first | exact hb20 | omega
   have hpe : callE e = { cal0 3 with uid := nE e 1, grace := nE e 2 } := by unfold callE; simp [hv9]
   have hkz : kindZ e = 3 := by unfold kindZ; rw [hv9]; rfl
   refine AC_seq (AC_region ?_)
   refine mv rfl rfl rfl rfl ?_
   refine fl 1 ?_
   refine st1 0 ?_
   refine AL_nil ?_
   refine AC_region ?_
   refine mv rfl rfl rfl rfl ?_
   refine fl 10 ?_
   refine st1 0 ?_
   refine AL_nil ?_
   exact ⟨(), trivial, by rw [hpe]; show Sub _ _; rw [hkz]; exact (Sub.l (List.Sublist.refl _)), .nil, (.cons rfl (Le.refl _) (.cons rfl (Le.refl _) (.cons rfl (Le.refl _) (.cons rfl (Le.refl _) (.cons rfl (Le.refl _) (.cons rfl (Le.refl _) .nil))))))⟩
  try simp only [zA,zO,zN,zM,zP,zQ,zD,zF,gd] at hb20
  refine AC_seq (AC_region ?_)
  refine p_ (S_eql rfl (.tmp rfl) (AEv.const _)) ?_
  refine as_ rfl rfl rfl rfl ?_
  refine AL_nil ?_
  refine AC_cond (.tmp rfl) (fun hb21 => ?_) (fun hb21 => ?_)
  ·try simp only [zA,zO,zN,zM,zP,zQ,zD,zF,gd] at hb21
   have hv9 : e.verb = 17 := by first | exact hb21 | omega
   have hpe : callE e = { cal0 4 with uid := nE e 1, ctr := nE e 2 } := by unfold callE; simp [hv9]
   have hkz : kindZ e = 4 := by unfold kindZ; rw [hv9]; rfl
   refine AC_seq (AC_region ?_)
   refine mv rfl rfl rfl rfl ?_
   refine fl 1 ?_
   refine st1 0 ?_
   refine AL_nil ?_
   refine AC_region ?_
   refine mv rfl rfl rfl rfl ?_
   refine fl 11 ?_
   refine st1 0 ?_
   refine AL_nil ?_
   exact ⟨(), trivial, by rw [hpe]; show Sub _ _; rw [hkz]; exact (Sub.l (List.Sublist.refl _)), .nil, (.cons rfl (Le.refl _) (.cons rfl (Le.refl _) (.cons rfl (Le.refl _) (.cons rfl (Le.refl _) (.cons rfl (Le.refl _) (.cons rfl (Le.refl _) .nil))))))⟩
  try simp only [zA,zO,zN,zM,zP,zQ,zD,zF,gd] at hb21
  refine AC_seq (AC_region ?_)
  refine p_ (S_eql rfl (.tmp rfl) (AEv.const _)) ?_
  refine as_ rfl rfl rfl rfl ?_
  refine AL_nil ?_
  refine AC_cond (.tmp rfl) (fun hb22 => ?_) (fun hb22 => ?_)
  ·try simp only [zA,zO,zN,zM,zP,zQ,zD,zF,gd] at hb22
   have hv9 : e.verb = 18 := by first | exact hb22 | omega
   have hpe : callE e = { cal0 5 with id := nE e 1, data := e.data } := by unfold callE; simp [hv9]
   have hkz : kindZ e = 5 := by unfold kindZ; rw [hv9]; rfl
   refine AC_seq (AC_region ?_)
   refine mv rfl rfl rfl rfl ?_
   refine fl 12 ?_
   refine st1 0 ?_
   refine AL_nil ?_
   refine AC_region ?_
   refine fl 2 ?_
   refine ld 2 ?_
   refine fl 14 ?_
   refine st1 0 ?_
   refine AL_nil ?_
   exact ⟨(), trivial, by rw [hpe]; show Sub _ _; rw [hkz]; exact (Sub.l (List.Sublist.refl _)), .nil, (.cons rfl (Le.refl _) (.cons rfl (Le.refl _) (.cons rfl (Le.refl _) (.cons rfl (Le.refl _) (.cons rfl (Le.refl _) (.cons rfl (Le.refl _) .nil))))))⟩
  try simp only [zA,zO,zN,zM,zP,zQ,zD,zF,gd] at hb22
  refine AC_seq (AC_region ?_)
  refine p_ (S_eql rfl (.tmp rfl) (AEv.const _)) ?_
  refine as_ rfl rfl rfl rfl ?_
  refine AL_nil ?_
  refine AC_cond (.tmp rfl) (fun hb23 => ?_) (fun hb23 => ?_)
  ·try simp only [zA,zO,zN,zM,zP,zQ,zD,zF,gd] at hb23
   have hv9 : e.verb = 19 := by first | exact hb23 | omega
   have hpe : callE e = { cal0 6 with id := nE e 1, most := nE e 2 } := by unfold callE; simp [hv9]
   have hkz : kindZ e = 6 := by unfold kindZ; rw [hv9]; rfl
   refine AC_seq (AC_region ?_)
   refine mv rfl rfl rfl rfl ?_
   refine fl 12 ?_
   refine st1 0 ?_
   refine AL_nil ?_
   refine AC_region ?_
   refine mv rfl rfl rfl rfl ?_
   refine fl 13 ?_
   refine st1 0 ?_
   refine AL_nil ?_
   exact ⟨(), trivial, by rw [hpe]; show Sub _ _; rw [hkz]; exact (Sub.l (List.Sublist.refl _)), .nil, (.cons rfl (Le.refl _) (.cons rfl (Le.refl _) (.cons rfl (Le.refl _) (.cons rfl (Le.refl _) (.cons rfl (Le.refl _) (.cons rfl (Le.refl _) .nil))))))⟩
  try simp only [zA,zO,zN,zM,zP,zQ,zD,zF,gd] at hb23
  refine AC_seq ?_
  refine AC_seq (AC_region ?_)
  refine p_ (S_eql rfl (.tmp rfl) (AEv.const _)) ?_
  refine as_ rfl rfl rfl rfl ?_
  refine AL_nil ?_
  refine AC_cond (.tmp rfl) (fun hb24 => ?_) (fun hb24 => ?_)
  ·try simp only [zA,zO,zN,zM,zP,zQ,zD,zF,gd] at hb24
   refine AC_skip ?_
   refine AC_cond (.tmp rfl) (fun hb25 => ?_) (fun hb25 => ?_)
   ·try simp only [zA,zO,zN,zM,zP,zQ,zD,zF,gd] at hb25
    have hv9 : e.verb = 20 := by first | exact hb25 | omega
    have hpe : callE e = { cal0 7 with id := nE e 1 } := by unfold callE; simp [hv9]
    have hkz : kindZ e = 7 := by unfold kindZ; rw [hv9]; rfl
    refine AC_region ?_
    refine mv rfl rfl rfl rfl ?_
    refine fl 12 ?_
    refine st1 0 ?_
    refine AL_nil ?_
    exact ⟨(), trivial, by rw [hpe]; show Sub _ _; rw [hkz]; exact (Sub.l (List.Sublist.refl _)), .nil, (.cons rfl (Le.refl _) (.cons rfl (Le.refl _) (.cons rfl (Le.refl _) (.cons rfl (Le.refl _) (.cons rfl (Le.refl _) (.cons rfl (Le.refl _) .nil))))))⟩
   exfalso; simp at hb25; omega
  try simp only [zA,zO,zN,zM,zP,zQ,zD,zF,gd] at hb24
  refine AC_region ?_
  refine p_ (S_eql rfl (.tmp rfl) (AEv.const _)) ?_
  refine as_ rfl rfl rfl rfl ?_
  refine AL_nil ?_
  refine AC_cond (.tmp rfl) (fun hb26 => ?_) (fun hb26 => ?_)
  ·try simp only [zA,zO,zN,zM,zP,zQ,zD,zF,gd] at hb26
   have hv9 : e.verb = 22 := by first | exact hb26 | omega
   have hpe : callE e = { cal0 12 with id := nE e 1 } := by unfold callE; simp [hv9]
   have hkz : kindZ e = 12 := by unfold kindZ; rw [hv9]; rfl
   refine AC_region ?_
   refine mv rfl rfl rfl rfl ?_
   refine fl 12 ?_
   refine st1 0 ?_
   refine AL_nil ?_
   exact ⟨(), trivial, by rw [hpe]; show Sub _ _; rw [hkz]; exact (Sub.l (List.Sublist.refl _)), .nil, (.cons rfl (Le.refl _) (.cons rfl (Le.refl _) (.cons rfl (Le.refl _) (.cons rfl (Le.refl _) (.cons rfl (Le.refl _) (.cons rfl (Le.refl _) .nil))))))⟩
  try simp only [zA,zO,zN,zM,zP,zQ,zD,zF,gd] at hb26
  refine AC_seq (AC_region ?_)
  refine p_ (S_eql rfl (.tmp rfl) (AEv.const _)) ?_
  refine as_ rfl rfl rfl rfl ?_
  refine AL_nil ?_
  refine AC_cond (.tmp rfl) (fun hb27 => ?_) (fun hb27 => ?_)
  ·try simp only [zA,zO,zN,zM,zP,zQ,zD,zF,gd] at hb27
   have hv9 : e.verb = 21 := by first | exact hb27 | omega
   have hpe : callE e = { cal0 11 with rev := (nE e 1).toNat } := by unfold callE; simp [hv9]
   have hkz : kindZ e = 11 := by unfold kindZ; rw [hv9]; rfl
   refine AC_region ?_
   refine mv rfl rfl rfl rfl ?_
   refine p_ ((S_conv (k' := .u64) rfl (.tmp rfl) (by kernel_rfl) (by kernel_rfl)).ofV (V' := .int .u64 (((nE e 1).toNat : Nat) : Int)) (congrArg (AV.int .u64) (by rw [u64w]; have h7 := hb1.1; have h8 := hb1.2; unfold nE at *; omega))) ?_
   refine fl 2 ?_
   refine st1 0 ?_
   refine AL_nil ?_
   exact ⟨(), trivial, by rw [hpe]; show Sub _ _; rw [hkz]; exact (Sub.l (List.Sublist.refl _)), .nil, (.cons rfl (Le.refl _) (.cons rfl (Le.refl _) (.cons rfl (Le.refl _) (.cons rfl (Le.refl _) (.cons rfl (Le.refl _) (.cons rfl (Le.refl _) .nil))))))⟩
  try simp only [zA,zO,zN,zM,zP,zQ,zD,zF,gd] at hb27
  refine AC_seq (AC_region ?_)
  refine p_ (S_eql rfl (.tmp rfl) (AEv.const _)) ?_
  refine as_ rfl rfl rfl rfl ?_
  refine AL_nil ?_
  refine AC_cond (.tmp rfl) (fun hb28 => ?_) (fun hb28 => ?_)
  ·try simp only [zA,zO,zN,zM,zP,zQ,zD,zF,gd] at hb28
   have hv9 : e.verb = 23 := by first | exact hb28 | omega
   have hpe : callE e = { cal0 1 with spec := runS e } := by unfold callE; simp [hv9]
   have hkz : kindZ e = 1 := by unfold kindZ; rw [hv9]; rfl
   have hn23 : (e.n.length : Int) = 4 := by have h9 := hrl; rw [hv9] at h9; exact h9
   refine AC_plan (σ := [(0, 0), (1, 0), (2, 0), (3, 0), (4, 0), (5, 0), (6, 0), (7, 0), (8, 0), (9, 0), (10, 0), (11, 0), (12, 0), (13, 2)]) (by kernel_rfl) [_, _, _] (by kernel_rfl) (fun r hr => List.mem_append_left _ hr) ?_
   refine AG.f rfl rfl (fun st' hst => Q_p rfl (S_field 2 rfl (.tmp rfl) (by kernel_rfl))) ?_
   refine AG.f rfl rfl (fun st' hst => Q_p rfl (S_loadM rfl (.tmp rfl) (hst _ (List.mem_of_getElem? (i := 2) rfl)) rfl (by kernel_rfl))) ?_
   refine AG.f rfl rfl (fun st' hst => Q_p rfl (S_move rfl (.tmp rfl))) ?_
   refine AG.f rfl rfl (fun st' hst => Q_p rfl (S_move rfl (.tmp rfl))) ?_
   refine AG.f rfl rfl (fun st' hst => Q_p rfl (S_field 1 rfl (.tmp rfl) (by kernel_rfl))) ?_
   refine AG.f rfl rfl (fun st' hst => Q_p rfl (S_loadM rfl (.tmp rfl) (hst _ (List.mem_of_getElem? (i := 2) rfl)) rfl (by kernel_rfl))) ?_
   refine AG.f rfl rfl (fun st' hst => Q_p rfl (S_elemD (e := 3) (i := 3) (0 : Int) 1 rfl (.tmp rfl) (AEv.const _) (by kernel_rfl) (by kernel_rfl) (by omega) (fun _ => rfl))) ?_
   refine AG.f rfl rfl (fun st' hst => Q_p rfl (S_loadP rfl (.tmp rfl) rfl (by kernel_rfl))) ?_
   refine AG.f rfl rfl (fun st' hst => Q_p rfl (S_build (t := 63) (pl := [(0, 1), (1, 1), (2, 1)]) (zs := [.int .i64 0, .int .i64 0, .int .i64 0]) rfl (AEvs.cons (.tmp rfl) (AEvs.cons (.tmp rfl) AEvs.nil)) (by kernel_rfl) rfl)) ?_
   refine AG.f rfl rfl (fun st' hst => Q_p rfl (S_build (t := 67) (pl := [(0, 1), (1, 1), (2, 3), (5, 3), (8, 1), (9, 2)]) (zs := [.string ⟨#[]⟩, .string ⟨#[]⟩, .int .i64 0, .int .i64 0, .int .i64 0, .int .i64 0, .int .i64 0, .int .i64 0, .slice none 0 0, .int .i64 0, .int .i64 0]) rfl (AEvs.cons (AEv.S _) (AEvs.cons (AEv.S _) (AEvs.cons (.tmp rfl) AEvs.nil))) (by kernel_rfl) rfl)) ?_
   refine AG.f rfl rfl (fun st' hst => Q_p rfl (S_buildSlice (e := 67) 11 rfl (AEvs.cons (y := ctrAV (runC e)) ((AEv.tmp rfl).le (by exact (Les.agg (.cons (Le.refl _) (.cons (Le.refl _) (.cons (Le.refl _) (.cons (Le.refl _) (.cons (Le.refl _) (.cons (Le.refl _) (.cons (Le.refl _) (.cons (Le.refl _) (.cons Le.nils (.cons (Le.refl _) (.cons (Le.refl _) .nil)))))))))))))) AEvs.nil) rfl (by kernel_rfl) (by kernel_rfl) (by intro y hy; simp only [List.mem_cons, List.not_mem_nil, or_false] at hy; rcases hy with rfl <;> exact ⟨rfl, rfl⟩) (by decide) (by decide) (by decide))) ?_
   refine AG.f rfl rfl (fun st' hst => Q_p rfl (S_build (t := 31) (pl := [(0, 1), (1, 1), (2, 1), (3, 1), (4, 1), (5, 1), (6, 1)]) (zs := [.string ⟨#[]⟩, .slice none 0 0, .slice none 0 0, .slice none 0 0, .int .i64 0, .int .i64 0, .int .i64 0]) rfl (AEvs.cons (.tmp rfl) (AEvs.cons (.tmp rfl) (AEvs.cons (.tmp rfl) AEvs.nil))) (by kernel_rfl) rfl)) ?_
   refine AG.f rfl rfl (fun st' hst => Q_p rfl (S_field 3 rfl (.tmp rfl) (by kernel_rfl))) ?_
   refine AG.h rfl rfl rfl (S_storeN 0 rfl (.tmp rfl) ((AEv.tmp rfl).le (z := spcAV (runS e)) (by exact (Les.agg (.cons (Le.refl _) (.cons Le.nils (.cons Le.nils (.cons (Le.refl _) (.cons (Le.refl _) (.cons (Le.refl _) (.cons (Le.refl _) .nil)))))))))) rfl (by first | exact Nat.le_of_ble_eq_true rfl | (simp; omega) | simp) rfl (by kernel_rfl)) ?_
   rintro _ _ ⟨rfl, rfl⟩
   refine AG.nil ?_
   exact ⟨(), trivial, by rw [hpe]; show Sub _ _; rw [hkz]; exact (Sub.l (List.Sublist.refl _)), .nil, (.cons rfl (Le.refl _) (.cons rfl (Le.refl _) (.cons rfl (Le.refl _) (.cons rfl (Le.refl _) (.cons rfl (Le.refl _) (.cons rfl (Le.refl _) .nil))))))⟩
  try simp only [zA,zO,zN,zM,zP,zQ,zD,zF,gd] at hb28
  have hv9 : e.verb = 13 := by first | exact hb28 | omega
  have hpe : callE e = cal0 9 := by unfold callE; simp [hv9]
  have hkz : kindZ e = 9 := by unfold kindZ; rw [hv9]; rfl
  refine AC_skip ?_
  exact ⟨(), trivial, by rw [hpe]; show Sub _ _; rw [hkz]; exact (Sub.l (List.Sublist.refl _)), .nil, (.cons rfl (Le.refl _) (.cons rfl (Le.refl _) (.cons rfl (Le.refl _) (.cons rfl (Le.refl _) (.cons rfl (Le.refl _) (.cons rfl (Le.refl _) .nil))))))⟩
 rintro _ _
 try dsimp only
 simp only [List.cons_append, List.nil_append]
 refine AC_seq (AC_region ?_)
 refine ldN 16 0 ?_
 refine stW 1 ?_
 refine ac rfl rfl rfl ?_
 refine AL_nil (AC_ret ?_)
 refine ret_outs st rfl (by decide) (OutsR.row 1 rfl rfl (by kernel_rfl) (OutsR.tmp rfl OutsR.nil)) (Sub.l (.cons _ (.cons _ (.cons _ (List.Sublist.refl _))))) (Conv.refl (Sub.l (.cons _ (.cons _ (.cons _ (List.Sublist.refl _))))) _) ⟨by rw [hx, hy] <;> rfl, rfl⟩ (.inl rfl)
theorem ref05_Put_ok (t : List UInt8) (ht : t.length ≤ 2048) : PCalls Tryz.prog 25 [.S t] (.S (frameB t)) := by
 intro st
 refine co 15 Tryz.func25 ?_
 refine AC_seq (AC_region ?_)
 refine p_ (S_assign rfl (AEv.S _)) ?_
 refine AL_nil (AC_seq (AC_region ?_))
 refine mv rfl rfl rfl rfl ?_
 refine p_ (S_lenS (ts := #[]) rfl (.tmp rfl) (by kernel_rfl)) ?_
 refine p_ (S_remN (n := 256) rfl (.tmp rfl) (.const _) (by decide)) ?_
 refine p_ ((S_conv (k' := .u8) rfl (.tmp rfl) (by kernel_rfl) (by kernel_rfl)).ofV (V' := .int .u8 ((UInt8.ofNat (t.length % 256)).toNat : Int)) (congrArg (AV.int .u8) (wrap_len _))) ?_
 refine mv rfl rfl rfl rfl ?_
 refine p_ (S_lenS (ts := #[]) rfl (.tmp rfl) (by kernel_rfl)) ?_
 refine p_ (S_quoN (n := 256) (.inr rfl) rfl (.tmp rfl) (.const _) (by decide) (.inl (by omega))) ?_
 refine p_ ((S_conv (k' := .u8) rfl (.tmp rfl) (by kernel_rfl) (by kernel_rfl)).ofV (V' := .int .u8 ((UInt8.ofNat (t.length / 256)).toNat : Int)) (congrArg (AV.int .u8) (wrap_len _))) ?_
 refine p_ (S_buildSlice (e := 5) 1 rfl (AEvs.cons (.tmp rfl) (AEvs.cons (.tmp rfl) AEvs.nil)) rfl (by kernel_rfl) (by kernel_rfl) (by intro y hy; simp only [List.mem_cons, List.not_mem_nil, or_false] at hy; rcases hy with rfl | rfl <;> exact ⟨rfl, rfl⟩) (by decide) (by decide) (by decide)) ?_
 refine p_ (S_bytesSl (e := 5) [UInt8.ofNat (t.length % 256), UInt8.ofNat (t.length / 256)] rfl (.tmp rfl) rfl (by kernel_rfl) (by kernel_rfl) (by kernel_rfl)) ?_
 refine mv rfl rfl rfl rfl ?_
 refine p_ (S_cat rfl (.tmp rfl) (.tmp rfl) (by first | omega | (simp; done) | (simp; omega))) ?_
 refine as_ rfl rfl rfl rfl ?_
 refine AL_nil (AC_ret ?_)
 refine ret_tmp st rfl rfl (Sub.l (List.Sublist.refl _)) (Conv.refl (Sub.l (List.Sublist.refl _)) _) ⟨congrArg AV.S (frame_ref ht), rfl⟩ (.inl rfl)
theorem ref45_Frame_ok (e : Ent) (hn : e.n.length ≤ 1000000) (hd : e.data.length ≤ 1000000) : PCalls Tryz.prog 11 [entAV e] (.tup [.S (frameE e), .bool (fineE e)]) := by
 intro st
 refine co 27 Tryz.func11 ?_
 refine AC_seq (AC_region ?_)
 refine s_ (S_box rfl (.tmp rfl)) ?_
 rintro _ _ ⟨b1, rfl, rfl⟩
 refine p_ (S_assign rfl (AEv.S _)) ?_
 refine ac rfl rfl rfl ?_
 refine AL_nil (AC_seq (AC_region ?_))
 refine ldN 3 0 ?_
 refine p_ (S_pcall rfl (AEvs.cons (y := entAV e) (.tmp rfl) AEvs.nil) (ref45_Call_ok e hn hd)) ?_
 refine mv rfl rfl rfl rfl ?_
 refine ex 0 ?_
 refine ex 1 ?_
 refine s_ (S_alloc [.int .i64 0, .int .i64 0, .int .u64 0, .string ⟨#[]⟩, .slice none 0 0, .slice none 0 0, .slice none 0 0, .int .i64 0, .int .i64 0, .int .i64 0, .int .i64 0, .int .i64 0, .int .i64 0, .int .i64 0, .string ⟨#[]⟩, .slice none 0 0] rfl (by kernel_rfl)) ?_
 rintro _ _ ⟨b4, rfl, rfl⟩
 refine stW 0 ?_
 refine as_ rfl rfl rfl rfl ?_
 refine AL_nil (AC_seq (AC_region ?_))
 refine ldN 16 0 ?_
 refine p_ (S_pcall rfl (AEvs.cons (y := calAV (callA e)) (.tmp rfl) AEvs.nil) (ref08_Check_ok (callA e) (callA_lights e) (callA_lightl e) (callA_short e))) ?_
 refine mv rfl rfl rfl rfl ?_
 refine ex 0 ?_
 refine ex 1 ?_
 refine as_ rfl rfl rfl rfl ?_
 refine as_ rfl rfl rfl rfl ?_
 refine AL_nil ?_
 refine AC_seq ?_
 refine AC_seq (AC_region ?_)
 refine mv rfl rfl rfl rfl ?_
 refine p_ (S_not rfl (.tmp rfl)) ?_
 refine mv rfl rfl rfl rfl ?_
 refine g_ (fun _ => mA) ?_
 refine g_ (fun _ => S_neq rfl (AEv.cd (.tmp rfl)) (AEv.const _)) ?_
 refine p_ (S_or rfl (.tmp rfl) (fun hp9 => (AEv.cd (.tmp rfl)))) ?_
 refine AL_nil ?_
 refine AC_cond (.tmp rfl) (fun hb10 => ?_) (fun hb10 => ?_)
 ·try simp only [zA,zO,zN,zM,zP,zQ,zD,zF,gd] at hb10
  have hf : fineE e = false := by
   rw [fineE_eq]
   rcases hb10 with h | h
   ·rw [h]; rfl
   ·have hk : checkA (callA e) ≠ none := fun h9 => h (by rw [h9]; rfl)
    rw [show (checkA (callA e)).isNone = false by cases h8 : checkA (callA e) with | none => exact absurd h8 hk | some x => rfl]; simp
  have hx := fine_no hf
  refine AC_seq (AC_region ?_)
  refine p_ (S_assign rfl (AEv.S _)) ?_
  refine ac rfl rfl rfl ?_
  refine AL_nil (AC_ret ?_)
  refine ret_tmps (ts := [2, 3]) st rfl (by decide) rfl (Sub.l ((List.sublist_cons_self _ _).trans (List.sublist_cons_self _ _))) (Conv.refl (Sub.l ((List.sublist_cons_self _ _).trans (List.sublist_cons_self _ _))) _) ⟨by rw [hf, hx] <;> rfl, rfl⟩ (.inl rfl)
 try simp only [zA,zO,zN,zM,zP,zQ,zD,zF,gd] at hb10
 have ho : okE e = true := by have := hb10.1; simpa using this
 have hk : checkA (callA e) = none := check_code (by have := hb10.2; simpa using this)
 have hf : fineE e = true := by rw [fineE_eq, ho, hk]; rfl
 have hx := (fine_yes hf).1
 refine AC_skip ?_
 refine AC_seq (AC_region ?_)
 refine ldN 16 0 ?_
 refine p_ (S_pcall rfl (AEvs.cons (y := calAV (callA e)) (.tmp rfl) AEvs.nil) (ref08_Bytes_ok (callA e) (callA_rev e) hk)) ?_
 refine p_ (S_pcall rfl (AEvs.cons (.tmp rfl) AEvs.nil) (ref05_Put_ok (calB (callA e)) (callB_len hk))) ?_
 refine as_ rfl rfl rfl rfl ?_
 refine ac rfl rfl rfl ?_
 refine AL_nil (AC_ret ?_)
 refine ret_tmps (ts := [2, 3]) st rfl (by decide) rfl (Sub.l ((List.sublist_cons_self _ _).trans (List.sublist_cons_self _ _))) (Conv.refl (Sub.l ((List.sublist_cons_self _ _).trans (List.sublist_cons_self _ _))) _) ⟨by rw [hf, hx] <;> rfl, rfl⟩ (.inl rfl)
set_option maxHeartbeats 1000000 in
theorem law_ScriptCalls (e : Ent) : GCalls Tryz.prog tabs 3 [entAV e] (.bool true) := by
 intro st hG
 refine co 58 Tryz.func3 ?_
 refine AC_seq (AC_region ?_)
 refine s_ (S_box rfl (.tmp rfl)) ?_
 rintro _ _ ⟨b1, rfl, rfl⟩
 refine ac rfl rfl rfl ?_
 refine AL_nil ?_
 refine AC_seq ?_
 refine AC_seq (AC_region ?_)
 refine ldN 3 0 ?_
 refine p_ (S_pcall rfl (AEvs.cons (.tmp rfl) AEvs.nil) (law45_light_ok e)) ?_
 refine p_ (S_not rfl (.tmp rfl)) ?_
 refine AL_nil ?_
 refine AC_cond (.tmp rfl) (fun hb2 => ?_) (fun hb2 => ?_)
 ·try simp only [zA,zO,zN,zM,zP,zQ,zD,zF,gd] at hb2
  refine AC_seq (AC_region ?_)
  refine p_ (S_gcall rfl AEvs.nil ((law45_works_ok) _ (fun p hp => by repeat (first | exact hG p hp | refine List.mem_cons_of_mem _ ?_ | refine List.mem_append_right _ ?_)))) ?_
  refine as_ rfl rfl rfl rfl ?_
  refine AL_nil (AC_ret ?_)
  refine ret_tmp st rfl rfl (Sub.l (List.sublist_cons_self _ _)) (Conv.refl (Sub.l (List.sublist_cons_self _ _)) _) ⟨rfl, rfl⟩ (.inl rfl)
 try simp only [zA,zO,zN,zM,zP,zQ,zD,zF,gd] at hb2
 have hn : e.n.length ≤ 1000000 ∧ e.data.length ≤ 1000000 := by first | (have h9 := hb2.1; have h8 := hb2.2; omega) | (simp at hb2; omega)
 obtain ⟨hn, hd⟩ := hn
 refine AC_skip ?_
 refine AC_seq (AC_region ?_)
 refine ldN 3 0 ?_
 refine p_ (S_pcall rfl (AEvs.cons (y := entAV e) (.tmp rfl) AEvs.nil) (law45_To_ok e)) ?_
 refine p_ (S_gcall rfl (AEvs.cons (y := entAV e) (.tmp rfl) AEvs.nil) ((scr_Call_ok e hn) _ (fun p hp => by repeat (first | exact hG p hp | refine List.mem_cons_of_mem _ ?_ | refine List.mem_append_right _ ?_)))) ?_
 refine mv rfl rfl rfl rfl ?_
 refine ex 0 ?_
 refine ex 1 ?_
 refine s_ (S_alloc [.int .i64 0, .int .i64 0, .int .u64 0, .string ⟨#[]⟩, .slice none 0 0, .slice none 0 0, .slice none 0 0, .int .i64 0, .int .i64 0, .int .i64 0, .int .i64 0, .int .i64 0, .int .i64 0, .int .i64 0, .string ⟨#[]⟩, .slice none 0 0] rfl (by kernel_rfl)) ?_
 rintro _ _ ⟨b3, rfl, rfl⟩
 refine stW 0 ?_
 refine as_ rfl rfl rfl rfl ?_
 refine AL_nil (AC_seq (AC_region ?_))
 refine ldN 3 1 ?_
 refine p_ (S_pcall rfl (AEvs.cons (y := entAV e) (.tmp rfl) AEvs.nil) (ref45_Call_ok e hn hd)) ?_
 refine mv rfl rfl rfl rfl ?_
 refine ex 0 ?_
 refine ex 1 ?_
 refine s_ (S_alloc [.int .i64 0, .int .i64 0, .int .u64 0, .string ⟨#[]⟩, .slice none 0 0, .slice none 0 0, .slice none 0 0, .int .i64 0, .int .i64 0, .int .i64 0, .int .i64 0, .int .i64 0, .int .i64 0, .int .i64 0, .string ⟨#[]⟩, .slice none 0 0] rfl (by kernel_rfl)) ?_
 rintro _ _ ⟨b5, rfl, rfl⟩
 refine stW 0 ?_
 refine as_ rfl rfl rfl rfl ?_
 refine AL_nil (AC_seq (AC_region ?_))
 refine ldN 3 2 ?_
 refine p_ (S_pcall rfl (AEvs.cons (y := entAV e) (.tmp rfl) AEvs.nil) (law45_To_ok e)) ?_
 refine p_ (S_gcall rfl (AEvs.cons (y := entAV e) (.tmp rfl) AEvs.nil) ((scr_Frame_ok e hn) _ (fun p hp => by repeat (first | exact hG p hp | refine List.mem_cons_of_mem _ ?_ | refine List.mem_append_right _ ?_)))) ?_
 refine mv rfl rfl rfl rfl ?_
 refine ex 0 ?_
 refine ex 1 ?_
 refine as_ rfl rfl rfl rfl ?_
 refine as_ rfl rfl rfl rfl ?_
 refine AL_nil (AC_seq (AC_region ?_))
 refine ldN 3 2 ?_
 refine p_ (S_pcall rfl (AEvs.cons (y := entAV e) (.tmp rfl) AEvs.nil) (ref45_Frame_ok e hn hd)) ?_
 refine mv rfl rfl rfl rfl ?_
 refine ex 0 ?_
 refine ex 1 ?_
 refine as_ rfl rfl rfl rfl ?_
 refine as_ rfl rfl rfl rfl ?_
 refine AL_nil (AC_seq (AC_region ?_))
 refine ldN 16 1 ?_
 refine ldN 16 0 ?_
 refine p_ (S_pcall rfl (AEvs.cons (y := calAV (callA e)) (.tmp rfl) (AEvs.cons (y := calAV (callA e)) (.tmp rfl) AEvs.nil)) (book_SameCall_ok (callA e) (callA e) (callA_short e) (callA_short e))) ?_
 refine mv rfl rfl rfl rfl ?_
 refine g_ (fun _ => mA) ?_
 refine g_ (fun _ => mA) ?_
 refine g_ (fun _ => S_eqB rfl (AEv.cd (.tmp rfl)) (AEv.cd (.tmp rfl)) (by kernel_rfl)) ?_
 refine an ?_
 refine mv rfl rfl rfl rfl ?_
 refine g_ (fun _ => mA) ?_
 refine g_ (fun _ => mA) ?_
 refine g_ (fun _ => S_eqS rfl (AEv.cd (.tmp rfl)) (AEv.cd (.tmp rfl))) ?_
 refine an ?_
 refine mv rfl rfl rfl rfl ?_
 refine g_ (fun _ => mA) ?_
 refine g_ (fun _ => mA) ?_
 refine g_ (fun _ => S_eqB rfl (AEv.cd (.tmp rfl)) (AEv.cd (.tmp rfl)) (by kernel_rfl)) ?_
 refine an ?_
 refine mv rfl rfl rfl rfl ?_
 refine g_ (fun _ => S_gcall rfl AEvs.nil ((law45_works_ok) _ (fun p hp => by repeat (first | exact hG p hp | refine List.mem_cons_of_mem _ ?_ | refine List.mem_append_right _ ?_)))) ?_
 refine an ?_
 refine as_ rfl rfl rfl rfl ?_
 refine AL_nil (AC_ret ?_)
 refine ret_tmp st rfl rfl (Sub.l (.cons _ (.cons _ (.cons _ (List.Sublist.refl _))))) (Conv.refl (Sub.l (.cons _ (.cons _ (.cons _ (List.Sublist.refl _))))) _) ⟨congrArg AV.bool (by simp [sameA_refl]), rfl⟩ (.inl rfl)
end Go.Proofs.YtfpkefhjomeeeaaGreatDoor
