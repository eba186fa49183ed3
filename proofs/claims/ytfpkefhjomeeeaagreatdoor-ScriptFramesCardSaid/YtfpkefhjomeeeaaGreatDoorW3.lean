/- A part of the proof: what the program's functions answer.
Conditions: none beyond each theorem's own. -/
import Derived.Test.YtfpkefhjomeeeaaGreatDoorW2
set_option linter.unusedVariables false
set_option linter.unusedSimpArgs false
set_option maxRecDepth 100000
namespace Go.Proofs.YtfpkefhjomeeeaaGreatDoor
open Go.AL Go.NumSpec
theorem ask_put_ok (b : Nat) (u2 : Bool) (q2 : Buf) (l : List UInt8) (c : Int) (hq2 : q2.ok l)  (hl : l.length + 20000 ≤ 100000000000) (x : Cal) (f : UInt8) (hx0 : ShortA x) (hu : x.rev < 18446744073709551616) (hfe : fieldE x f = none) (F : St) (hG : ∀ r, r ∈ Gs tabs → r ∈ F) : ACalls Tryz.prog 51 [.ptr b 0, calAV x, .int .u8 (f.toNat : Int)] (((b, .cells [addrB u2 b 157 3, bufAV q2 (l), .int .i64 (c)]) :: bufSt q2 5 (l)) ++ F) (fun v9 st' => ∃ foot', (∃ (u' : Bool) (q' : Buf), q'.ok (wput c l (fieldB x f)) ∧ v9 = .tup [] ∧ foot' = (b, .cells [addrB u' b 157 3, bufAV q' (wput c l (fieldB x f)), .int .i64 (c)]) :: bufSt q' 5 (wput c l (fieldB x f))) ∧ st' = foot' ++ F) := by
 refine co 61 Tryz.func51 ?_
 refine AC_seq (AC_region ?_)
 refine s_ (S_box rfl (.tmp rfl)) ?_
 rintro _ _ ⟨b4, rfl, rfl⟩
 refine AL_nil (AC_seq (AC_region ?_))
 refine mv rfl rfl rfl rfl ?_
 refine AL_nil ?_
 refine AC_block ?_
 refine AC_seq (AC_region ?_)
 refine p_ (S_eql rfl (.tmp rfl) (AEv.const _)) ?_
 refine as_ rfl rfl rfl rfl ?_
 refine AL_nil ?_
 refine AC_cond (.tmp rfl) (fun hb2 => ?_) (fun hb2 => ?_)
 ·try simp only [zA,zO,zN,zM,zP,zQ,zD,zF,gd] at hb2
  obtain rfl : f = 117 := u8_eq hb2
  have hfo : 0 ≤ x.uid ∧ x.uid ≤ 1073741824 := field_ok hu hfe
  refine AC_region ?_
  refine mv rfl rfl rfl rfl ?_
  refine fl 1 ?_
  refine ld 0 ?_
  refine s_ (S_call rfl (AEvs.cons (.tmp rfl) (AEvs.cons (.tmp rfl) AEvs.nil)) (ACalls.preQ (pre := [_]) (F := F) (w_NumN b u2 q2 _ c hq2 (by first | omega | (refine Nat.le_trans (Nat.add_le_add_right (wput_len _ _ _) _) ?_; (try simp only [List.length_append]); omega)) x.uid (by omega) (by omega) _))) ?_
  rintro _ _ ⟨_, ⟨u2, q2, hq2, rfl, rfl⟩, rfl⟩
  refine AL_nil ?_
  refine ret_none (((b, .cells [addrB u2 b 157 3, bufAV q2 (wput c l (fieldB x 117)), .int .i64 (c)]) :: bufSt q2 5 (wput c l (fieldB x 117))) ++ F) rfl (Sub.l (List.sublist_cons_self _ _)) ⟨_, ⟨u2, q2, hq2, rfl, rfl⟩, rfl⟩ (.inr rfl)
 try simp only [zA,zO,zN,zM,zP,zQ,zD,zF,gd] at hb2
 have hf117 : ¬ f = 117 := fun h => hb2 (by rw [h]; rfl)
 refine AC_seq (AC_region ?_)
 refine p_ (S_eql rfl (.tmp rfl) (AEv.const _)) ?_
 refine as_ rfl rfl rfl rfl ?_
 refine AL_nil ?_
 refine AC_cond (.tmp rfl) (fun hb3 => ?_) (fun hb3 => ?_)
 ·try simp only [zA,zO,zN,zM,zP,zQ,zD,zF,gd] at hb3
  obtain rfl : f = 114 := u8_eq hb3
  have hfo : x.rev < 18446744073709551616 := field_ok hu hfe
  refine AC_region ?_
  refine mv rfl rfl rfl rfl ?_
  refine fl 2 ?_
  refine ld 0 ?_
  refine s_ (S_call rfl (AEvs.cons (.tmp rfl) (AEvs.cons (.tmp rfl) AEvs.nil)) (ACalls.preQ (pre := [_]) (F := F) (w_Big_ok b u2 q2 _ c hq2 x.rev hfo (by omega) _))) ?_
  rintro _ _ ⟨_, ⟨u2, q2, hq2, rfl, rfl⟩, rfl⟩
  refine AL_nil ?_
  refine ret_none (((b, .cells [addrB u2 b 157 3, bufAV q2 (wput c l (fieldB x 114)), .int .i64 (c)]) :: bufSt q2 5 (wput c l (fieldB x 114))) ++ F) rfl (Sub.l (List.sublist_cons_self _ _)) ⟨_, ⟨u2, q2, hq2, rfl, rfl⟩, rfl⟩ (.inr rfl)
 try simp only [zA,zO,zN,zM,zP,zQ,zD,zF,gd] at hb3
 have hf114 : ¬ f = 114 := fun h => hb3 (by rw [h]; rfl)
 refine AC_seq (AC_region ?_)
 refine p_ (S_eql rfl (.tmp rfl) (AEv.const _)) ?_
 refine as_ rfl rfl rfl rfl ?_
 refine AL_nil ?_
 refine AC_cond (.tmp rfl) (fun hb4 => ?_) (fun hb4 => ?_)
 ·try simp only [zA,zO,zN,zM,zP,zQ,zD,zF,gd] at hb4
  obtain rfl : f = 115 := u8_eq hb4
  have hck : checkE x.spec = none := erIn_none hfe
  refine AC_region ?_
  refine mv rfl rfl rfl rfl ?_
  refine fl 3 ?_
  refine ldN 7 0 ?_
  refine s_ (S_call rfl (AEvs.cons (.tmp rfl) (AEvs.cons (.tmp rfl) AEvs.nil)) (ACalls.preQ (pre := [_]) (F := F) (pack_Put_ok b u2 q2 _ c hq2 (by first | omega | (refine Nat.le_trans (Nat.add_le_add_right (wput_len _ _ _) _) ?_; (try simp only [List.length_append]); omega)) x.spec hx0.1 _ (fun r hr => List.mem_append_right _ (hG r hr))))) ?_
  rintro _ _ ⟨_, ⟨u2, q2, hq2, rfl, rfl⟩, rfl⟩
  rw [if_pos hck] at hq2
  rw [if_pos hck, if_pos hck]
  refine AL_nil ?_
  refine ret_none (((b, .cells [addrB u2 b 157 3, bufAV q2 (wput c l (fieldB x 115)), .int .i64 (c)]) :: bufSt q2 5 (wput c l (fieldB x 115))) ++ F) rfl (Sub.l (List.sublist_cons_self _ _)) ⟨_, ⟨u2, q2, hq2, rfl, rfl⟩, rfl⟩ (.inr rfl)
 try simp only [zA,zO,zN,zM,zP,zQ,zD,zF,gd] at hb4
 have hf115 : ¬ f = 115 := fun h => hb4 (by rw [h]; rfl)
 refine AC_seq (AC_region ?_)
 refine p_ (S_eql rfl (.tmp rfl) (AEv.const _)) ?_
 refine as_ rfl rfl rfl rfl ?_
 refine AL_nil ?_
 refine AC_cond (.tmp rfl) (fun hb5 => ?_) (fun hb5 => ?_)
 ·try simp only [zA,zO,zN,zM,zP,zQ,zD,zF,gd] at hb5
  obtain rfl : f = 103 := u8_eq hb5
  have hfo : 0 ≤ x.grace ∧ x.grace ≤ 1000 := field_ok hu hfe
  refine AC_region ?_
  refine mv rfl rfl rfl rfl ?_
  refine fl 10 ?_
  refine ld 0 ?_
  refine s_ (S_call rfl (AEvs.cons (.tmp rfl) (AEvs.cons (.tmp rfl) AEvs.nil)) (ACalls.preQ (pre := [_]) (F := F) (w_NumN b u2 q2 _ c hq2 (by first | omega | (refine Nat.le_trans (Nat.add_le_add_right (wput_len _ _ _) _) ?_; (try simp only [List.length_append]); omega)) x.grace (by omega) (by omega) _))) ?_
  rintro _ _ ⟨_, ⟨u2, q2, hq2, rfl, rfl⟩, rfl⟩
  refine AL_nil ?_
  refine ret_none (((b, .cells [addrB u2 b 157 3, bufAV q2 (wput c l (fieldB x 103)), .int .i64 (c)]) :: bufSt q2 5 (wput c l (fieldB x 103))) ++ F) rfl (Sub.l (List.sublist_cons_self _ _)) ⟨_, ⟨u2, q2, hq2, rfl, rfl⟩, rfl⟩ (.inr rfl)
 try simp only [zA,zO,zN,zM,zP,zQ,zD,zF,gd] at hb5
 have hf103 : ¬ f = 103 := fun h => hb5 (by rw [h]; rfl)
 refine AC_seq (AC_region ?_)
 refine p_ (S_eql rfl (.tmp rfl) (AEv.const _)) ?_
 refine as_ rfl rfl rfl rfl ?_
 refine AL_nil ?_
 refine AC_cond (.tmp rfl) (fun hb6 => ?_) (fun hb6 => ?_)
 ·try simp only [zA,zO,zN,zM,zP,zQ,zD,zF,gd] at hb6
  obtain rfl : f = 99 := u8_eq hb6
  have hfo : 0 ≤ x.ctr ∧ x.ctr ≤ 3 := field_ok hu hfe
  refine AC_region ?_
  refine mv rfl rfl rfl rfl ?_
  refine fl 11 ?_
  refine ld 0 ?_
  refine s_ (S_call rfl (AEvs.cons (.tmp rfl) (AEvs.cons (.tmp rfl) AEvs.nil)) (ACalls.preQ (pre := [_]) (F := F) (w_NumN b u2 q2 _ c hq2 (by first | omega | (refine Nat.le_trans (Nat.add_le_add_right (wput_len _ _ _) _) ?_; (try simp only [List.length_append]); omega)) x.ctr (by omega) (by omega) _))) ?_
  rintro _ _ ⟨_, ⟨u2, q2, hq2, rfl, rfl⟩, rfl⟩
  refine AL_nil ?_
  refine ret_none (((b, .cells [addrB u2 b 157 3, bufAV q2 (wput c l (fieldB x 99)), .int .i64 (c)]) :: bufSt q2 5 (wput c l (fieldB x 99))) ++ F) rfl (Sub.l (List.sublist_cons_self _ _)) ⟨_, ⟨u2, q2, hq2, rfl, rfl⟩, rfl⟩ (.inr rfl)
 try simp only [zA,zO,zN,zM,zP,zQ,zD,zF,gd] at hb6
 have hf99 : ¬ f = 99 := fun h => hb6 (by rw [h]; rfl)
 refine AC_seq (AC_region ?_)
 refine p_ (S_eql rfl (.tmp rfl) (AEv.const _)) ?_
 refine as_ rfl rfl rfl rfl ?_
 refine AL_nil ?_
 refine AC_cond (.tmp rfl) (fun hb7 => ?_) (fun hb7 => ?_)
 ·try simp only [zA,zO,zN,zM,zP,zQ,zD,zF,gd] at hb7
  obtain rfl : f = 105 := u8_eq hb7
  have hfo : 0 ≤ x.id ∧ x.id ≤ 1073741824 := field_ok hu hfe
  refine AC_region ?_
  refine mv rfl rfl rfl rfl ?_
  refine fl 12 ?_
  refine ld 0 ?_
  refine s_ (S_call rfl (AEvs.cons (.tmp rfl) (AEvs.cons (.tmp rfl) AEvs.nil)) (ACalls.preQ (pre := [_]) (F := F) (w_NumN b u2 q2 _ c hq2 (by first | omega | (refine Nat.le_trans (Nat.add_le_add_right (wput_len _ _ _) _) ?_; (try simp only [List.length_append]); omega)) x.id (by omega) (by omega) _))) ?_
  rintro _ _ ⟨_, ⟨u2, q2, hq2, rfl, rfl⟩, rfl⟩
  refine AL_nil ?_
  refine ret_none (((b, .cells [addrB u2 b 157 3, bufAV q2 (wput c l (fieldB x 105)), .int .i64 (c)]) :: bufSt q2 5 (wput c l (fieldB x 105))) ++ F) rfl (Sub.l (List.sublist_cons_self _ _)) ⟨_, ⟨u2, q2, hq2, rfl, rfl⟩, rfl⟩ (.inr rfl)
 try simp only [zA,zO,zN,zM,zP,zQ,zD,zF,gd] at hb7
 have hf105 : ¬ f = 105 := fun h => hb7 (by rw [h]; rfl)
 refine AC_seq (AC_region ?_)
 refine p_ (S_eql rfl (.tmp rfl) (AEv.const _)) ?_
 refine as_ rfl rfl rfl rfl ?_
 refine AL_nil ?_
 refine AC_cond (.tmp rfl) (fun hb8 => ?_) (fun hb8 => ?_)
 ·try simp only [zA,zO,zN,zM,zP,zQ,zD,zF,gd] at hb8
  obtain rfl : f = 109 := u8_eq hb8
  have hfo : 0 ≤ x.most ∧ x.most ≤ 32 := field_ok hu hfe
  refine AC_region ?_
  refine mv rfl rfl rfl rfl ?_
  refine fl 13 ?_
  refine ld 0 ?_
  refine s_ (S_call rfl (AEvs.cons (.tmp rfl) (AEvs.cons (.tmp rfl) AEvs.nil)) (ACalls.preQ (pre := [_]) (F := F) (w_NumN b u2 q2 _ c hq2 (by first | omega | (refine Nat.le_trans (Nat.add_le_add_right (wput_len _ _ _) _) ?_; (try simp only [List.length_append]); omega)) x.most (by omega) (by omega) _))) ?_
  rintro _ _ ⟨_, ⟨u2, q2, hq2, rfl, rfl⟩, rfl⟩
  refine AL_nil ?_
  refine ret_none (((b, .cells [addrB u2 b 157 3, bufAV q2 (wput c l (fieldB x 109)), .int .i64 (c)]) :: bufSt q2 5 (wput c l (fieldB x 109))) ++ F) rfl (Sub.l (List.sublist_cons_self _ _)) ⟨_, ⟨u2, q2, hq2, rfl, rfl⟩, rfl⟩ (.inr rfl)
 try simp only [zA,zO,zN,zM,zP,zQ,zD,zF,gd] at hb8
 have hf109 : ¬ f = 109 := fun h => hb8 (by rw [h]; rfl)
 refine AC_seq (AC_region ?_)
 refine p_ (S_eql rfl (.tmp rfl) (AEv.const _)) ?_
 refine as_ rfl rfl rfl rfl ?_
 refine AL_nil ?_
 refine AC_cond (.tmp rfl) (fun hb9 => ?_) (fun hb9 => ?_)
 ·try simp only [zA,zO,zN,zM,zP,zQ,zD,zF,gd] at hb9
  obtain rfl : f = 100 := u8_eq hb9
  have hfo : (x.data.length : Int) ≤ 32 := field_ok hu hfe
  refine AC_region ?_
  refine mv rfl rfl rfl rfl ?_
  refine fl 14 ?_
  refine ld 0 ?_
  refine s_ (S_call rfl (AEvs.cons (.tmp rfl) (AEvs.cons (.tmp rfl) AEvs.nil)) (ACalls.preQ (pre := [_]) (F := F) (w_TextN b u2 q2 _ c hq2 (by first | omega | (refine Nat.le_trans (Nat.add_le_add_right (wput_len _ _ _) _) ?_; (try simp only [List.length_append]); omega)) x.data (by omega) (by first | omega | (refine Nat.le_trans (Nat.add_le_add_right (wput_len _ _ _) _) ?_; (try simp only [List.length_append]); omega)) _))) ?_
  rintro _ _ ⟨_, ⟨u2, q2, hq2, rfl, rfl⟩, rfl⟩
  refine AL_nil ?_
  refine ret_none (((b, .cells [addrB u2 b 157 3, bufAV q2 (wput c l (fieldB x 100)), .int .i64 (c)]) :: bufSt q2 5 (wput c l (fieldB x 100))) ++ F) rfl (Sub.l (List.sublist_cons_self _ _)) ⟨_, ⟨u2, q2, hq2, rfl, rfl⟩, rfl⟩ (.inr rfl)
 try simp only [zA,zO,zN,zM,zP,zQ,zD,zF,gd] at hb9
 have hf100 : ¬ f = 100 := fun h => hb9 (by rw [h]; rfl)
 refine AC_seq (AC_region ?_)
 refine p_ (S_eql rfl (.tmp rfl) (AEv.const _)) ?_
 refine as_ rfl rfl rfl rfl ?_
 refine AL_nil ?_
 refine AC_cond (.tmp rfl) (fun hb10 => ?_) (fun hb10 => ?_)
 ·try simp only [zA,zO,zN,zM,zP,zQ,zD,zF,gd] at hb10
  obtain rfl : f = 108 := u8_eq hb10
  have hfo : LabsOk x.sel := field_ok hu hfe
  have hfl := hfo.1
  refine AC_region ?_
  refine mv rfl rfl rfl rfl ?_
  refine fl 15 ?_
  refine ld 0 ?_
  refine s_ (S_call rfl (AEvs.cons (.tmp rfl) (AEvs.cons (.tmp rfl) AEvs.nil)) (ACalls.preQ (pre := [_]) (F := F) (PutLabels_ok b u2 q2 _ c hq2 x.sel (by first | omega | (refine Nat.le_trans (Nat.add_le_add_right (wput_len _ _ _) _) ?_; (try simp only [List.length_append]); omega)) (by omega) (fun y hy => ⟨by have := (hfo.2 y hy).1; omega, by have := (hfo.2 y hy).2; omega⟩) _))) ?_
  rintro _ _ ⟨_, ⟨u2, q2, hq2, rfl, rfl⟩, rfl⟩
  refine AL_nil ?_
  refine ret_none (((b, .cells [addrB u2 b 157 3, bufAV q2 (wput c l (fieldB x 108)), .int .i64 (c)]) :: bufSt q2 5 (wput c l (fieldB x 108))) ++ F) rfl (Sub.l (List.sublist_cons_self _ _)) ⟨_, ⟨u2, q2, hq2, rfl, rfl⟩, rfl⟩ (.inr rfl)
 try simp only [zA,zO,zN,zM,zP,zQ,zD,zF,gd] at hb10
 have hf108 : ¬ f = 108 := fun h => hb10 (by rw [h]; rfl)
 have hx : fieldB x f = [] := by unfold fieldB; simp only [hf117, hf114, hf115, hf103, hf99, hf105, hf109, hf100, hf108, if_false]
 refine AC_skip ?_
 refine ret_none (((b, .cells [addrB u2 b 157 3, bufAV q2 (l), .int .i64 (c)]) :: bufSt q2 5 (l)) ++ F) rfl (Sub.l (List.sublist_cons_self _ _)) ⟨_, ⟨u2, q2, by rw [hx, wput_nil]; exact hq2, rfl, by rw [hx, wput_nil]⟩, rfl⟩ (.inr rfl)
theorem ask_Bytes_ok (x : Cal) (hx0 : ShortA x) (hu : x.rev < 18446744073709551616) : GCalls Tryz.prog tabs 22 [calAV x] (.tup [.S (if checkA x = none then calB x else []), .int .i64 (erCode (checkA x))]) := by
 intro st hG
 refine co 42 Tryz.func22 ?_
 refine AC_seq (AC_region ?_)
 refine s_ (S_box rfl (.tmp rfl)) ?_
 rintro _ _ ⟨b1, rfl, rfl⟩
 refine p_ (S_assign rfl (AEv.S _)) ?_
 refine ac rfl rfl rfl ?_
 refine AL_nil ?_
 refine AC_seq ?_
 refine AC_seq (AC_region ?_)
 refine ldN 16 0 ?_
 refine p_ (S_gcall rfl (AEvs.cons (.tmp rfl) AEvs.nil) ((ask_Check_ok x hx0) _ (fun p hp => by repeat (first | exact hG p hp | refine List.mem_cons_of_mem _ ?_ | refine List.mem_append_right _ ?_)))) ?_
 refine as_ rfl rfl rfl rfl ?_
 refine AL_nil (AC_seq (AC_region ?_))
 refine mv rfl rfl rfl rfl ?_
 refine p_ (S_neqE (er_is 45 185 (checkA x)) rfl (.tmp rfl) (by kernel_rfl)) ?_
 refine AL_nil ?_
 refine AC_cond (.tmp rfl) (fun hb2 => ?_) (fun hb2 => ?_)
 ·try simp only [zA,zO,zN,zM,zP,zQ,zD,zF,gd] at hb2
  have hk : ¬ checkA x = none := fun h => by rw [h] at hb2; simp at hb2
  refine AC_seq (AC_region ?_)
  refine mv rfl rfl rfl rfl ?_
  refine p_ (S_gcall rfl (AEvs.cons (.tmp rfl) AEvs.nil) ((fail_Code_ok (checkA x)) _ (fun p hp => by repeat (first | exact hG p hp | refine List.mem_cons_of_mem _ ?_ | refine List.mem_append_right _ ?_)))) ?_
  refine p_ (S_assign rfl (AEv.S _)) ?_
  refine as_ rfl rfl rfl rfl ?_
  refine AL_nil (AC_ret ?_)
  refine ret_tmps (ts := [2, 3]) st rfl (by decide) rfl (Sub.l (List.sublist_cons_self _ _)) (Conv.refl (Sub.l (List.sublist_cons_self _ _)) _) ⟨by rw [if_neg hk] <;> rfl, rfl⟩ (.inl rfl)
 try simp only [zA,zO,zN,zM,zP,zQ,zD,zF,gd] at hb2
 have hk : checkA x = none := by simpa using hb2
 obtain ⟨hcal, hff⟩ := checkA_ok hu hk
 have hk1 := hcal.1.1
 have hk2 := hcal.1.2
 have hfw := fields_few x.kind.toNat
 have hkl := numB_len (n := x.kind) (by omega)
 have h00 : ([] : List UInt8).length = 0 := rfl
 refine AC_skip ?_
 refine AC_seq (AC_region ?_)
 refine s_ (S_call rfl AEvs.nil (wire_Write_ok _)) ?_
 rintro _ _ ⟨_, ⟨b4, rfl, rfl⟩, rfl⟩
 refine as_ rfl rfl rfl rfl ?_
 refine AL_nil (AC_seq (AC_region ?_))
 refine mv rfl rfl rfl rfl ?_
 refine fl 0 ?_
 refine ld 1 ?_
 refine s_ (S_call rfl (AEvs.cons (.tmp rfl) (AEvs.cons (.tmp rfl) AEvs.nil)) (w_NumN b4 false .nil [] 0 rfl (by decide) x.kind (by omega) (by omega) _)) ?_
 rintro _ _ ⟨_, ⟨u2, q2, hq2, rfl, rfl⟩, rfl⟩
 refine AL_nil ?_
 refine AC_seq ?_
 refine AC_seq (AC_region ?_)
 refine fl 0 ?_
 refine p_ (S_loadM rfl (.tmp rfl) (by repeat (first | exact List.mem_cons_self | refine List.mem_append_right _ ?_ | refine List.mem_cons_of_mem _ ?_)) rfl (by kernel_rfl)) ?_
 refine p_ (S_elemA (e := 107) (len := 13) (i := x.kind) 2 rfl (AEv.global _) (.tmp rfl) (by kernel_rfl) (by kernel_rfl) (by omega) (by omega)) ?_
 refine fl 1 ?_
 refine p_ (S_loadK (vs := kindsV) (u := .string ⟨(kindA x.kind.toNat).2.toArray⟩) rfl (.tmp rfl) (by repeat (first | exact hG _ tab_kinds | exact List.mem_cons_self | refine List.mem_append_right _ ?_ | refine List.mem_cons_of_mem _ ?_)) (kindT_fields (by omega) (by omega)) (by kernel_rfl)) ?_
 refine p_ (S_lenS (ts := #[]) rfl (.tmp rfl) (by kernel_rfl)) ?_
 refine p_ (S_move rfl (AEv.const _)) ?_
 refine AL_nil ?_
 refine AC_block ?_
 refine AC_loopK (G := Nat × Bool × Buf) [(1, _), (2, _), (3, _), (5, _), (23, _)] (fun g => g.1 ≤ (kindA x.kind.toNat).2.length ∧ g.2.2.ok (wput 0 [] (numB x.kind ++ ((kindA x.kind.toNat).2.take g.1).flatMap (fieldB x)))) (fun g => [(24, .int .i64 (g.1 : Int))]) (fun g => ((b4, .cells [addrB g.2.1 b4 157 3, bufAV g.2.2 (wput 0 [] (numB x.kind ++ ((kindA x.kind.toNat).2.take g.1).flatMap (fieldB x))), .int .i64 (0)]) :: bufSt g.2.2 5 (wput 0 [] (numB x.kind ++ ((kindA x.kind.toNat).2.take g.1).flatMap (fieldB x)))) ++ ((b1, .cells (calL x)) :: st)) (fun g => (kindA x.kind.toNat).2.length - g.1) ((0, u2, q2)) (⟨Nat.zero_le _, by simpa using hq2⟩) (by simp only [List.take_zero, List.flatMap_nil, List.append_nil]; exact (Sub.l (List.Sublist.refl _))) (.cons rfl (Le.refl _) (.cons rfl (Le.refl _) (.cons rfl (Le.refl _) (.cons rfl (Le.refl _) (.cons rfl (Le.refl _) .nil))))) (.cons rfl (by first | exact Le.refl _ | exact Le.nils | exact Le.row _ _ _ _ | exact Le.of_eq (by first | rfl | (simp; done) | (push_cast; rfl) | (simp; omega))) .nil) ?_
 rintro ⟨i, u2, q2⟩ ⟨hi, hq2⟩
 try dsimp only
 simp only [List.cons_append, List.nil_append]
 dsimp only at hi hq2
 have hfm := flatB_len (e := fieldB x) (B := 20000) (l := (kindA x.kind.toNat).2.take i) fun f hf => fieldB_few hu (hff f (List.mem_of_mem_take hf))
 rw [List.length_take, show min i (kindA x.kind.toNat).2.length = i by omega] at hfm
 refine AC_seq (AC_region ?_)
 refine p_ (S_lss rfl (.tmp rfl) (.tmp rfl)) ?_
 refine AL_nil ?_
 refine AC_seq ?_
 refine AC_cond (.tmp rfl) (fun hb3 => ?_) (fun hb3 => ?_)
 ·try simp only [zA,zO,zN,zM,zP,zQ,zD,zF,gd] at hb3
  have hil : i < (kindA x.kind.toNat).2.length := by omega
  refine AC_skip ?_
  refine AC_seq ?_
  refine AC_block ?_
  refine AC_seq (AC_region ?_)
  refine mv rfl rfl rfl rfl ?_
  refine as_ rfl rfl rfl rfl ?_
  refine AL_nil ?_
  refine AC_plan (σ := [(0, 0), (1, 0), (2, 0), (3, 0), (4, 0), (5, 0), (6, 0), (7, 0), (8, 0), (9, 2)]) (by kernel_rfl) ((b1, Ob.cells (calL x)) :: Gs tabs) (by kernel_rfl) (fun r hr => by
   rcases List.mem_cons.1 hr with rfl | hr
   ·repeat (first | exact List.mem_cons_self | refine List.mem_append_right _ ?_ | refine List.mem_cons_of_mem _ ?_)
   ·repeat (first | exact hG r hr | refine List.mem_append_right _ ?_ | refine List.mem_cons_of_mem _ ?_)) ?_
  refine AG.f rfl rfl (fun st' hst => Q_p rfl (S_move rfl (.tmp rfl))) ?_
  refine AG.f rfl rfl (fun st' hst => Q_p rfl (S_loadNM (m := 16) rfl (.tmp rfl) (hst _ (List.mem_of_getElem? (i := 0) rfl)) (by kernel_rfl) (by first | exact Nat.le_of_ble_eq_true rfl | (simp; omega) | simp))) ?_
  refine AG.f rfl rfl (fun st' hst => Q_p rfl (S_field 0 rfl (.tmp rfl) (by kernel_rfl))) ?_
  refine AG.f rfl rfl (fun st' hst => Q_p rfl (S_loadM rfl (.tmp rfl) (hst _ (List.mem_of_getElem? (i := 0) rfl)) rfl (by kernel_rfl))) ?_
  refine AG.f rfl rfl (fun st' hst => Q_p rfl (S_elemA (e := 107) (len := 13) (i := x.kind) 2 rfl (AEv.global _) (.tmp rfl) (by kernel_rfl) (by kernel_rfl) (by omega) (by omega))) ?_
  refine AG.f rfl rfl (fun st' hst => Q_p rfl (S_field 1 rfl (.tmp rfl) (by kernel_rfl))) ?_
  refine AG.f rfl rfl (fun st' hst => Q_p rfl (S_loadK (vs := kindsV) (u := .string ⟨(kindA x.kind.toNat).2.toArray⟩) rfl (.tmp rfl) (hst _ (List.mem_cons_of_mem _ tab_kinds)) (kindT_fields (by omega) (by omega)) (by kernel_rfl))) ?_
  refine AG.f rfl rfl (fun st' hst => Q_p rfl (S_move rfl (.tmp rfl))) ?_
  refine AG.f rfl rfl (fun st' hst => Q_p rfl ((S_index rfl (.tmp rfl) (.tmp rfl) (by kernel_rfl) (by omega) (by omega)).ofV (congrArg _ (atL_get hil)))) ?_
  refine AG.h rfl rfl rfl (S_call rfl (AEvs.cons (.tmp rfl) (AEvs.cons (.tmp rfl) (AEvs.cons (.tmp rfl) AEvs.nil))) (ask_put_ok b4 u2 q2 _ 0 hq2 (by first | omega | (refine Nat.le_trans (Nat.add_le_add_right (wput_len _ _ _) _) ?_; (try simp only [List.length_append]); omega)) x ((kindA x.kind.toNat).2[i]'hil) hx0 hu (hff _ (List.getElem_mem hil)) _ (fun r hr => List.mem_cons_of_mem _ (hG r hr)))) ?_
  rintro _ _ ⟨_, ⟨u2, q2, hq2, rfl, rfl⟩, rfl⟩
  rw [wput_wput] at hq2 ⊢
  refine AG.nil ?_
  refine AC_region ?_
  refine p_ (S_addI rfl (.tmp rfl) (AEv.const _) (by omega) (by omega)) ?_
  refine mv rfl rfl rfl rfl ?_
  refine AL_nil ?_
  refine ⟨(i + 1, u2, q2), ⟨by dsimp only; omega, by dsimp only; rw [flatB_next hil]; exact hq2⟩, by dsimp only; omega, by dsimp only; rw [flatB_next hil]; exact (Sub.l (List.Sublist.refl _)), (.cons rfl (by first | exact Le.refl _ | exact Le.nils | exact Le.row _ _ _ _ | exact Le.of_eq (by first | rfl | (simp; done) | (push_cast; rfl) | (simp; omega))) .nil), (.cons rfl (Le.refl _) (.cons rfl (Le.refl _) (.cons rfl (Le.refl _) (.cons rfl (Le.refl _) (.cons rfl (Le.refl _) .nil)))))⟩
 try simp only [zA,zO,zN,zM,zP,zQ,zD,zF,gd] at hb3
 rw [show (kindA x.kind.toNat).2.take i = (kindA x.kind.toNat).2 from List.take_of_length_le (by omega)] at hq2 ⊢
 refine AC_exit ?_
 refine AC_seq (AC_region ?_)
 refine mv rfl rfl rfl rfl ?_
 refine s_ (S_call rfl (AEvs.cons (.tmp rfl) AEvs.nil) (w_End_ok b4 u2 q2 _ _ hq2 _)) ?_
 rintro _ _ ⟨_, ⟨cs2, rfl, rfl⟩, rfl⟩
 refine ex 0 ?_
 refine ex 1 ?_
 refine as_ rfl rfl rfl rfl ?_
 refine as_ rfl rfl rfl rfl ?_
 refine AL_nil (AC_ret ?_)
 refine ret_tmps (ts := [2, 3]) st rfl (by decide) rfl (Sub.l ((List.sublist_cons_self _ _).trans (List.sublist_cons_self _ _))) (Conv.refl (Sub.l ((List.sublist_cons_self _ _).trans (List.sublist_cons_self _ _))) _) ⟨by rw [if_pos hk, hk] <;> rfl, rfl⟩ (.inl rfl)
end Go.Proofs.YtfpkefhjomeeeaaGreatDoor

set_option maxRecDepth 100000
namespace Go.Proofs.YtfpkefhjomeeeaaGreatDoor
open Go.AL Go.NumSpec
set_option maxHeartbeats 2000000 in
theorem ask_take_ok (b bc : Nat) (s : List UInt8) (c : Int) (x : Cal) (f : UInt8) (F : St) : ACalls Tryz.prog 67 [.ptr b 0, .ptr bc 0, .int .u8 (f.toNat : Int)] ([(bc, Ob.cells (calL x)), (b, Ob.cells [.S s, .int .i64 c])] ++ F) (fun v st' => ∃ foot', (v = .tup [] ∧ foot' = [(bc, Ob.cells (calL (oneR f x s c).1)), (b, Ob.cells [.S (oneR f x s c).2.1, .int .i64 (oneR f x s c).2.2])]) ∧ st' = foot' ++ F) := by
 refine co 70 Tryz.func67 ?_
 refine AC_seq (AC_region ?_)
 refine mv rfl rfl rfl rfl ?_
 refine AL_nil ?_
 refine AC_block ?_
 refine AC_seq (AC_region ?_)
 refine p_ (S_eql rfl (.tmp rfl) (AEv.const _)) ?_
 refine as_ rfl rfl rfl rfl ?_
 refine AL_nil ?_
 refine AC_cond (.tmp rfl) (fun hb1 => ?_) (fun hb1 => ?_)
 ·try simp only [zA,zO,zN,zM,zP,zQ,zD,zF,gd] at hb1
  obtain rfl : f = 117 := u8_eq hb1
  refine AC_region ?_
  refine mv rfl rfl rfl rfl ?_
  refine mv rfl rfl rfl rfl ?_
  refine s_ (S_call rfl (AEvs.cons (.tmp rfl) (AEvs.cons (AEv.const _) AEvs.nil)) (ACalls.preQ (pre := [_]) (F := F) (r_Num_ok b _ _ 1073741824 (by decide) _))) ?_
  rintro _ _ ⟨_, ⟨rfl, rfl⟩, rfl⟩
  refine p_ (S_nilCheck rfl (.tmp rfl)) ?_
  refine fl 1 ?_
  refine st1 0 ?_
  refine AL_nil ?_
  refine ret_none ([(bc, Ob.cells (calL (oneR 117 x s c).1)), (b, Ob.cells [.S (oneR 117 x s c).2.1, .int .i64 (oneR 117 x s c).2.2])] ++ F) rfl (Sub.l (List.Sublist.refl _)) ⟨_, ⟨rfl, rfl⟩, rfl⟩ (.inr rfl)
 try simp only [zA,zO,zN,zM,zP,zQ,zD,zF,gd] at hb1
 have hf117 : ¬ f = 117 := fun h => hb1 (by rw [h]; rfl)
 refine AC_seq (AC_region ?_)
 refine p_ (S_eql rfl (.tmp rfl) (AEv.const _)) ?_
 refine as_ rfl rfl rfl rfl ?_
 refine AL_nil ?_
 refine AC_cond (.tmp rfl) (fun hb2 => ?_) (fun hb2 => ?_)
 ·try simp only [zA,zO,zN,zM,zP,zQ,zD,zF,gd] at hb2
  obtain rfl : f = 114 := u8_eq hb2
  refine AC_region ?_
  refine mv rfl rfl rfl rfl ?_
  refine mv rfl rfl rfl rfl ?_
  refine s_ (S_call rfl (AEvs.cons (.tmp rfl) AEvs.nil) (ACalls.preQ (pre := [_]) (F := F) (r_Big_ok b _ _ _))) ?_
  rintro _ _ ⟨_, ⟨rfl, rfl⟩, rfl⟩
  refine p_ (S_nilCheck rfl (.tmp rfl)) ?_
  refine fl 2 ?_
  refine st1 0 ?_
  refine AL_nil ?_
  refine ret_none ([(bc, Ob.cells (calL (oneR 114 x s c).1)), (b, Ob.cells [.S (oneR 114 x s c).2.1, .int .i64 (oneR 114 x s c).2.2])] ++ F) rfl (Sub.l (List.Sublist.refl _)) ⟨_, ⟨rfl, rfl⟩, rfl⟩ (.inr rfl)
 try simp only [zA,zO,zN,zM,zP,zQ,zD,zF,gd] at hb2
 have hf114 : ¬ f = 114 := fun h => hb2 (by rw [h]; rfl)
 refine AC_seq (AC_region ?_)
 refine p_ (S_eql rfl (.tmp rfl) (AEv.const _)) ?_
 refine as_ rfl rfl rfl rfl ?_
 refine AL_nil ?_
 refine AC_cond (.tmp rfl) (fun hb3 => ?_) (fun hb3 => ?_)
 ·try simp only [zA,zO,zN,zM,zP,zQ,zD,zF,gd] at hb3
  obtain rfl : f = 115 := u8_eq hb3
  refine AC_region ?_
  refine mv rfl rfl rfl rfl ?_
  refine mv rfl rfl rfl rfl ?_
  refine s_ (S_call rfl (AEvs.cons (.tmp rfl) AEvs.nil) (ACalls.preQ (pre := [_]) (F := F) (pack_Raw_ok b _ _ _))) ?_
  rintro _ _ ⟨_, ⟨rfl, rfl⟩, rfl⟩
  refine p_ (S_nilCheck rfl (.tmp rfl)) ?_
  refine fl 3 ?_
  refine stN 0 ?_
  refine AL_nil ?_
  refine ret_none ([(bc, Ob.cells (calL (oneR 115 x s c).1)), (b, Ob.cells [.S (oneR 115 x s c).2.1, .int .i64 (oneR 115 x s c).2.2])] ++ F) rfl (Sub.l (List.Sublist.refl _)) ⟨_, ⟨rfl, rfl⟩, rfl⟩ (.inr rfl)
 try simp only [zA,zO,zN,zM,zP,zQ,zD,zF,gd] at hb3
 have hf115 : ¬ f = 115 := fun h => hb3 (by rw [h]; rfl)
 refine AC_seq (AC_region ?_)
 refine p_ (S_eql rfl (.tmp rfl) (AEv.const _)) ?_
 refine as_ rfl rfl rfl rfl ?_
 refine AL_nil ?_
 refine AC_cond (.tmp rfl) (fun hb4 => ?_) (fun hb4 => ?_)
 ·try simp only [zA,zO,zN,zM,zP,zQ,zD,zF,gd] at hb4
  obtain rfl : f = 103 := u8_eq hb4
  refine AC_region ?_
  refine mv rfl rfl rfl rfl ?_
  refine mv rfl rfl rfl rfl ?_
  refine s_ (S_call rfl (AEvs.cons (.tmp rfl) (AEvs.cons (AEv.const _) AEvs.nil)) (ACalls.preQ (pre := [_]) (F := F) (r_Num_ok b _ _ 1000 (by decide) _))) ?_
  rintro _ _ ⟨_, ⟨rfl, rfl⟩, rfl⟩
  refine p_ (S_nilCheck rfl (.tmp rfl)) ?_
  refine fl 10 ?_
  refine st1 0 ?_
  refine AL_nil ?_
  refine ret_none ([(bc, Ob.cells (calL (oneR 103 x s c).1)), (b, Ob.cells [.S (oneR 103 x s c).2.1, .int .i64 (oneR 103 x s c).2.2])] ++ F) rfl (Sub.l (List.Sublist.refl _)) ⟨_, ⟨rfl, rfl⟩, rfl⟩ (.inr rfl)
 try simp only [zA,zO,zN,zM,zP,zQ,zD,zF,gd] at hb4
 have hf103 : ¬ f = 103 := fun h => hb4 (by rw [h]; rfl)
 refine AC_seq (AC_region ?_)
 refine p_ (S_eql rfl (.tmp rfl) (AEv.const _)) ?_
 refine as_ rfl rfl rfl rfl ?_
 refine AL_nil ?_
 refine AC_cond (.tmp rfl) (fun hb5 => ?_) (fun hb5 => ?_)
 ·try simp only [zA,zO,zN,zM,zP,zQ,zD,zF,gd] at hb5
  obtain rfl : f = 99 := u8_eq hb5
  refine AC_region ?_
  refine mv rfl rfl rfl rfl ?_
  refine mv rfl rfl rfl rfl ?_
  refine s_ (S_call rfl (AEvs.cons (.tmp rfl) (AEvs.cons (AEv.const _) AEvs.nil)) (ACalls.preQ (pre := [_]) (F := F) (r_Num_ok b _ _ 3 (by decide) _))) ?_
  rintro _ _ ⟨_, ⟨rfl, rfl⟩, rfl⟩
  refine p_ (S_nilCheck rfl (.tmp rfl)) ?_
  refine fl 11 ?_
  refine st1 0 ?_
  refine AL_nil ?_
  refine ret_none ([(bc, Ob.cells (calL (oneR 99 x s c).1)), (b, Ob.cells [.S (oneR 99 x s c).2.1, .int .i64 (oneR 99 x s c).2.2])] ++ F) rfl (Sub.l (List.Sublist.refl _)) ⟨_, ⟨rfl, rfl⟩, rfl⟩ (.inr rfl)
 try simp only [zA,zO,zN,zM,zP,zQ,zD,zF,gd] at hb5
 have hf99 : ¬ f = 99 := fun h => hb5 (by rw [h]; rfl)
 refine AC_seq (AC_region ?_)
 refine p_ (S_eql rfl (.tmp rfl) (AEv.const _)) ?_
 refine as_ rfl rfl rfl rfl ?_
 refine AL_nil ?_
 refine AC_cond (.tmp rfl) (fun hb6 => ?_) (fun hb6 => ?_)
 ·try simp only [zA,zO,zN,zM,zP,zQ,zD,zF,gd] at hb6
  obtain rfl : f = 105 := u8_eq hb6
  refine AC_region ?_
  refine mv rfl rfl rfl rfl ?_
  refine mv rfl rfl rfl rfl ?_
  refine s_ (S_call rfl (AEvs.cons (.tmp rfl) (AEvs.cons (AEv.const _) AEvs.nil)) (ACalls.preQ (pre := [_]) (F := F) (r_Num_ok b _ _ 1073741824 (by decide) _))) ?_
  rintro _ _ ⟨_, ⟨rfl, rfl⟩, rfl⟩
  refine p_ (S_nilCheck rfl (.tmp rfl)) ?_
  refine fl 12 ?_
  refine st1 0 ?_
  refine AL_nil ?_
  refine ret_none ([(bc, Ob.cells (calL (oneR 105 x s c).1)), (b, Ob.cells [.S (oneR 105 x s c).2.1, .int .i64 (oneR 105 x s c).2.2])] ++ F) rfl (Sub.l (List.Sublist.refl _)) ⟨_, ⟨rfl, rfl⟩, rfl⟩ (.inr rfl)
 try simp only [zA,zO,zN,zM,zP,zQ,zD,zF,gd] at hb6
 have hf105 : ¬ f = 105 := fun h => hb6 (by rw [h]; rfl)
 refine AC_seq (AC_region ?_)
 refine p_ (S_eql rfl (.tmp rfl) (AEv.const _)) ?_
 refine as_ rfl rfl rfl rfl ?_
 refine AL_nil ?_
 refine AC_cond (.tmp rfl) (fun hb7 => ?_) (fun hb7 => ?_)
 ·try simp only [zA,zO,zN,zM,zP,zQ,zD,zF,gd] at hb7
  obtain rfl : f = 109 := u8_eq hb7
  refine AC_region ?_
  refine mv rfl rfl rfl rfl ?_
  refine mv rfl rfl rfl rfl ?_
  refine s_ (S_call rfl (AEvs.cons (.tmp rfl) (AEvs.cons (AEv.const _) AEvs.nil)) (ACalls.preQ (pre := [_]) (F := F) (r_Num_ok b _ _ 32 (by decide) _))) ?_
  rintro _ _ ⟨_, ⟨rfl, rfl⟩, rfl⟩
  refine p_ (S_nilCheck rfl (.tmp rfl)) ?_
  refine fl 13 ?_
  refine st1 0 ?_
  refine AL_nil ?_
  refine ret_none ([(bc, Ob.cells (calL (oneR 109 x s c).1)), (b, Ob.cells [.S (oneR 109 x s c).2.1, .int .i64 (oneR 109 x s c).2.2])] ++ F) rfl (Sub.l (List.Sublist.refl _)) ⟨_, ⟨rfl, rfl⟩, rfl⟩ (.inr rfl)
 try simp only [zA,zO,zN,zM,zP,zQ,zD,zF,gd] at hb7
 have hf109 : ¬ f = 109 := fun h => hb7 (by rw [h]; rfl)
 refine AC_seq (AC_region ?_)
 refine p_ (S_eql rfl (.tmp rfl) (AEv.const _)) ?_
 refine as_ rfl rfl rfl rfl ?_
 refine AL_nil ?_
 refine AC_cond (.tmp rfl) (fun hb8 => ?_) (fun hb8 => ?_)
 ·try simp only [zA,zO,zN,zM,zP,zQ,zD,zF,gd] at hb8
  obtain rfl : f = 100 := u8_eq hb8
  refine AC_region ?_
  refine mv rfl rfl rfl rfl ?_
  refine mv rfl rfl rfl rfl ?_
  refine s_ (S_call rfl (AEvs.cons (.tmp rfl) (AEvs.cons (AEv.const _) AEvs.nil)) (ACalls.preQ (pre := [_]) (F := F) (r_Text_ok b _ _ 32 (by decide) _))) ?_
  rintro _ _ ⟨_, ⟨rfl, rfl⟩, rfl⟩
  refine p_ (S_nilCheck rfl (.tmp rfl)) ?_
  refine fl 14 ?_
  refine st1 0 ?_
  refine AL_nil ?_
  refine ret_none ([(bc, Ob.cells (calL (oneR 100 x s c).1)), (b, Ob.cells [.S (oneR 100 x s c).2.1, .int .i64 (oneR 100 x s c).2.2])] ++ F) rfl (Sub.l (List.Sublist.refl _)) ⟨_, ⟨rfl, rfl⟩, rfl⟩ (.inr rfl)
 try simp only [zA,zO,zN,zM,zP,zQ,zD,zF,gd] at hb8
 have hf100 : ¬ f = 100 := fun h => hb8 (by rw [h]; rfl)
 refine AC_seq (AC_region ?_)
 refine p_ (S_eql rfl (.tmp rfl) (AEv.const _)) ?_
 refine as_ rfl rfl rfl rfl ?_
 refine AL_nil ?_
 refine AC_cond (.tmp rfl) (fun hb9 => ?_) (fun hb9 => ?_)
 ·try simp only [zA,zO,zN,zM,zP,zQ,zD,zF,gd] at hb9
  obtain rfl : f = 108 := u8_eq hb9
  refine AC_region ?_
  refine mv rfl rfl rfl rfl ?_
  refine mv rfl rfl rfl rfl ?_
  refine s_ (S_call rfl (AEvs.cons (.tmp rfl) AEvs.nil) (ACalls.preQ (pre := [_]) (F := F) (TakeLabels_ok b _ _ _))) ?_
  rintro _ _ ⟨_, ⟨rfl, rfl⟩, rfl⟩
  refine p_ (S_nilCheck rfl (.tmp rfl)) ?_
  refine fl 15 ?_
  refine st1 0 ?_
  refine AL_nil ?_
  refine ret_none ([(bc, Ob.cells (calL (oneR 108 x s c).1)), (b, Ob.cells [.S (oneR 108 x s c).2.1, .int .i64 (oneR 108 x s c).2.2])] ++ F) rfl (Sub.l (List.Sublist.refl _)) ⟨_, ⟨rfl, rfl⟩, rfl⟩ (.inr rfl)
 try simp only [zA,zO,zN,zM,zP,zQ,zD,zF,gd] at hb9
 have hf108 : ¬ f = 108 := fun h => hb9 (by rw [h]; rfl)
 have hx : oneR f x s c = (x, s, c) := by unfold oneR; simp only [hf117, hf114, hf115, hf103, hf99, hf105, hf109, hf100, hf108, if_false]
 refine AC_skip ?_
 refine ret_none ([(bc, Ob.cells (calL x)), (b, Ob.cells [.S s, .int .i64 c])] ++ F) rfl (Sub.l (List.Sublist.refl _)) ⟨_, ⟨rfl, by rw [hx]⟩, rfl⟩ (.inr rfl)
end Go.Proofs.YtfpkefhjomeeeaaGreatDoor

set_option maxRecDepth 100000
namespace Go.Proofs.YtfpkefhjomeeeaaGreatDoor
open Go.AL Go.NumSpec
set_option maxHeartbeats 2000000 in
theorem ask_Of_ok (s : List UInt8) : GCalls Tryz.prog tabs 34 [.S s] (.tup [calAV (ofA s), erV 45 185 (ofAE s)]) := by
 intro st hG
 refine co 59 Tryz.func34 ?_
 have hfw := fields_few (numR s 0 12).1.toNat
 refine AC_seq (AC_region ?_)
 refine s_ (S_alloc [.int .i64 0, .int .i64 0, .int .u64 0, .string ⟨#[]⟩, .slice none 0 0, .slice none 0 0, .slice none 0 0, .int .i64 0, .int .i64 0, .int .i64 0, .int .i64 0, .int .i64 0, .int .i64 0, .int .i64 0, .string ⟨#[]⟩, .slice none 0 0] rfl (by kernel_rfl)) ?_
 rintro _ _ ⟨b2, rfl, rfl⟩
 refine ac rfl rfl rfl ?_
 refine AL_nil (AC_seq (AC_region ?_))
 refine mv rfl rfl rfl rfl ?_
 refine s_ (S_call rfl (AEvs.cons (.tmp rfl) AEvs.nil) (wire_Read_ok s _)) ?_
 rintro _ _ ⟨_, ⟨b4, rfl, rfl⟩, rfl⟩
 refine as_ rfl rfl rfl rfl ?_
 refine AL_nil (AC_seq (AC_region ?_))
 refine mv rfl rfl rfl rfl ?_
 refine s_ (S_call rfl (AEvs.cons (.tmp rfl) (AEvs.cons (AEv.const _) AEvs.nil)) (r_Num_ok b4 s 0 12 (by decide) _)) ?_
 rintro _ _ ⟨_, ⟨rfl, rfl⟩, rfl⟩
 refine p_ (S_build (t := 33) (pl := [(0, 1), (1, 1), (2, 1), (3, 7), (10, 1), (11, 1), (12, 1), (13, 1), (14, 1), (15, 1)]) (zs := [.int .i64 0, .int .i64 0, .int .u64 0, .string ⟨#[]⟩, .slice none 0 0, .slice none 0 0, .slice none 0 0, .int .i64 0, .int .i64 0, .int .i64 0, .int .i64 0, .int .i64 0, .int .i64 0, .int .i64 0, .string ⟨#[]⟩, .slice none 0 0]) rfl (AEvs.cons (.tmp rfl) AEvs.nil) (by kernel_rfl) rfl) ?_
 refine s_ (S_alloc [.int .i64 0, .int .i64 0, .int .u64 0, .string ⟨#[]⟩, .slice none 0 0, .slice none 0 0, .slice none 0 0, .int .i64 0, .int .i64 0, .int .i64 0, .int .i64 0, .int .i64 0, .int .i64 0, .int .i64 0, .string ⟨#[]⟩, .slice none 0 0] rfl (by kernel_rfl)) ?_
 rintro _ _ ⟨b5, rfl, rfl⟩
 refine s_ (S_storeW 0 rfl (.tmp rfl) ((AEv.tmp rfl).le (z := calAV (cal0 (numR s 0 12).1)) (by exact (Les.agg (.cons (Le.refl _) (.cons (Le.refl _) (.cons (Le.refl _) (.cons (Le.refl _) (.cons (Le.nils) (.cons (Le.nils) (.cons (Le.nils) (.cons (Le.refl _) (.cons (Le.refl _) (.cons (Le.refl _) (.cons (Le.refl _) (.cons (Le.refl _) (.cons (Le.refl _) (.cons (Le.refl _) (.cons (Le.refl _) (.cons (Le.nils) .nil))))))))))))))))))) rfl rfl rfl (by kernel_rfl)) ?_
 rintro _ _ ⟨rfl, rfl⟩
 refine AL_nil (AC_seq (AC_region ?_))
 refine fl 0 ?_
 refine ld 0 ?_
 refine p_ (S_gcall rfl (AEvs.cons (.tmp rfl) AEvs.nil) ((ask_of_ok (numR s 0 12).1) _ (fun p hp => by repeat (first | exact hG p hp | refine List.mem_cons_of_mem _ ?_ | refine List.mem_append_right _ ?_)))) ?_
 refine mv rfl rfl rfl rfl ?_
 refine ex 0 ?_
 refine ex 1 ?_
 refine s_ (S_alloc [.string ⟨#[]⟩, .string ⟨#[]⟩] rfl (by kernel_rfl)) ?_
 rintro _ _ ⟨b6, rfl, rfl⟩
 refine stW 0 ?_
 refine as_ rfl rfl rfl rfl ?_
 refine AL_nil ?_
 refine AC_seq ?_
 refine AC_seq (AC_region ?_)
 refine fl 1 ?_
 refine ld 0 ?_
 refine p_ (S_lenS (ts := #[]) rfl (.tmp rfl) (by kernel_rfl)) ?_
 refine p_ (S_move rfl (AEv.const _)) ?_
 refine AL_nil ?_
 refine AC_block ?_
 refine AC_loopK (G := Nat) [(2, _), (3, _), (4, _), (5, _), (6, _), (23, _)] (fun g => g ≤ (kindA (numR s 0 12).1.toNat).2.length) (fun g => [(24, .int .i64 (g : Int))]) (fun g => (b6, .cells [.S (kindA (numR s 0 12).1.toNat).1, .S (kindA (numR s 0 12).1.toNat).2]) :: (b5, .cells (calL (rdF ((kindA (numR s 0 12).1.toNat).2.take g) (cal0 (numR s 0 12).1) (numR s 0 12).2.1 (numR s 0 12).2.2).1)) :: (b4, .cells [.S (rdF ((kindA (numR s 0 12).1.toNat).2.take g) (cal0 (numR s 0 12).1) (numR s 0 12).2.1 (numR s 0 12).2.2).2.1, .int .i64 (rdF ((kindA (numR s 0 12).1.toNat).2.take g) (cal0 (numR s 0 12).1) (numR s 0 12).2.1 (numR s 0 12).2.2).2.2]) :: (b2, .cells [.int .i64 0, .int .i64 0, .int .u64 0, .S [], .nils, .nils, .nils, .int .i64 0, .int .i64 0, .int .i64 0, .int .i64 0, .int .i64 0, .int .i64 0, .int .i64 0, .S [], .nils]) :: st) (fun g => (kindA (numR s 0 12).1.toNat).2.length - g) (0) (Nat.zero_le _) (Sub.l (List.Sublist.refl _)) (.cons rfl (Le.refl _) (.cons rfl (Le.refl _) (.cons rfl (Le.refl _) (.cons rfl (Le.refl _) (.cons rfl (Le.refl _) (.cons rfl (Le.refl _) .nil)))))) (.cons rfl (by first | exact Le.refl _ | exact Le.nils | exact Le.row _ _ _ _ | exact Le.of_eq (by first | rfl | (simp; done) | (push_cast; rfl) | (simp; omega))) .nil) ?_
 rintro i hi
 try dsimp only
 simp only [List.cons_append, List.nil_append]
 refine AC_seq (AC_region ?_)
 refine p_ (S_lss rfl (.tmp rfl) (.tmp rfl)) ?_
 refine AL_nil ?_
 refine AC_seq ?_
 refine AC_cond (.tmp rfl) (fun hb4 => ?_) (fun hb4 => ?_)
 ·try simp only [zA,zO,zN,zM,zP,zQ,zD,zF,gd] at hb4
  have hil : i < (kindA (numR s 0 12).1.toNat).2.length := by omega
  refine AC_skip ?_
  refine AC_seq ?_
  refine AC_block ?_
  refine AC_seq (AC_region ?_)
  refine mv rfl rfl rfl rfl ?_
  refine as_ rfl rfl rfl rfl ?_
  refine AL_nil ?_
  refine AC_region ?_
  refine mv rfl rfl rfl rfl ?_
  refine fl 1 ?_
  refine ld 0 ?_
  refine mv rfl rfl rfl rfl ?_
  refine p_ ((S_index rfl (.tmp rfl) (.tmp rfl) (by kernel_rfl) (by omega) (by omega)).ofV (congrArg _ (atL_get hil))) ?_
  refine s_ (S_call rfl (AEvs.cons (.tmp rfl) (AEvs.cons (.tmp rfl) (AEvs.cons (.tmp rfl) AEvs.nil))) (ACalls.preQ (pre := [_]) (F := _ :: st) (ask_take_ok b4 b5 (rdF ((kindA (numR s 0 12).1.toNat).2.take i) (cal0 (numR s 0 12).1) (numR s 0 12).2.1 (numR s 0 12).2.2).2.1 (rdF ((kindA (numR s 0 12).1.toNat).2.take i) (cal0 (numR s 0 12).1) (numR s 0 12).2.1 (numR s 0 12).2.2).2.2 (rdF ((kindA (numR s 0 12).1.toNat).2.take i) (cal0 (numR s 0 12).1) (numR s 0 12).2.1 (numR s 0 12).2.2).1 ((kindA (numR s 0 12).1.toNat).2[i]'hil) _))) ?_
  rintro _ _ ⟨_, ⟨rfl, rfl⟩, rfl⟩
  refine AL_nil ?_
  refine AC_region ?_
  refine p_ (S_addI rfl (.tmp rfl) (AEv.const _) (by omega) (by omega)) ?_
  refine mv rfl rfl rfl rfl ?_
  refine AL_nil ?_
  refine ⟨i + 1, by omega, by omega, by rw [rdF_take hil]; exact (Sub.l (List.Sublist.refl _)), (.cons rfl (by first | exact Le.refl _ | exact Le.nils | exact Le.row _ _ _ _ | exact Le.of_eq (by first | rfl | (simp; done) | (push_cast; rfl) | (simp; omega))) .nil), (.cons rfl (Le.refl _) (.cons rfl (Le.refl _) (.cons rfl (Le.refl _) (.cons rfl (Le.refl _) (.cons rfl (Le.refl _) (.cons rfl (Le.refl _) .nil))))))⟩
 try simp only [zA,zO,zN,zM,zP,zQ,zD,zF,gd] at hb4
 rw [show (kindA (numR s 0 12).1.toNat).2.take i = (kindA (numR s 0 12).1.toNat).2 from List.take_of_length_le (by omega), ← calRd_at s]
 refine AC_exit ?_
 refine AC_seq (AC_region ?_)
 refine mv rfl rfl rfl rfl ?_
 refine p_ (S_keep (S_call rfl (AEvs.cons (.tmp rfl) AEvs.nil) (ACalls.preQ (pre := [_, _]) (F := _ :: st) (r_Code_ok b4 _ _ _))) (by rintro _ _ ⟨_, ⟨rfl, rfl⟩, rfl⟩; exact ⟨rfl, rfl⟩)) ?_
 refine p_ (S_buildSlice (e := 9) 1 rfl (AEvs.cons (AEv.S _) AEvs.nil) rfl (by kernel_rfl) (by kernel_rfl) (by intro y hy; simp only [List.mem_cons, List.not_mem_nil, or_false] at hy; rcases hy with rfl <;> exact ⟨rfl, rfl⟩) (by decide) (by decide) (by decide)) ?_
 refine p_ (S_pcall rfl (AEvs.cons (.tmp rfl) (AEvs.cons (.tmp rfl) AEvs.nil)) (fail_New_ok (calRd s 0).2.2 [wireN] (by simp))) ?_
 refine as_ rfl rfl rfl rfl ?_
 refine AL_nil ?_
 refine AC_joinK (G := Unit) [(2, _), (3, _), (4, _), (5, _)] (fun _ => True) (fun _ => [(9, erV 45 185 (wireA s))]) (fun _ => (b6, .cells [.S (kindA (numR s 0 12).1.toNat).1, .S (kindA (numR s 0 12).1.toNat).2]) :: (b5, .cells (calL (calRd s 0).1)) :: (b2, .cells [.int .i64 0, .int .i64 0, .int .u64 0, .S [], .nils, .nils, .nils, .int .i64 0, .int .i64 0, .int .i64 0, .int .i64 0, .int .i64 0, .int .i64 0, .int .i64 0, .S [], .nils]) :: st) (.cons rfl (Le.refl _) (.cons rfl (Le.refl _) (.cons rfl (Le.refl _) (.cons rfl (Le.refl _) .nil)))) ?_ ?_
 ·refine AC_seq (AC_region ?_)
  refine mv rfl rfl rfl rfl ?_
  refine p_ (S_eqlE (er_is 45 185 (erNew (calRd s 0).2.2 [wireN])) rfl (.tmp rfl) (by kernel_rfl)) ?_
  refine mv rfl rfl rfl rfl ?_
  refine g_ (fun _ => fA 0) ?_
  refine g_ (fun _ => lA 1) ?_
  refine g_ (fun _ => S_gtr rfl (AEv.cd (.tmp rfl)) (AEv.const _)) ?_
  refine an ?_
  refine AL_nil ?_
  refine AC_cond (.tmp rfl) (fun hb15 => ?_) (fun hb15 => ?_)
  ·try simp only [zA,zO,zN,zM,zP,zQ,zD,zF,gd] at hb15
   have hw : wireA s = erNew (endR (calRd s 0).2.1 (calRd s 0).2.2) [wireN] := wire_end hb15.1 hb15.2
   refine AC_region ?_
   refine mv rfl rfl rfl rfl ?_
   refine s_ (S_call rfl (AEvs.cons (.tmp rfl) AEvs.nil) (ACalls.preQ (pre := [_, _]) (F := _ :: st) (r_End_ok b4 _ _ _))) ?_
   rintro _ _ ⟨_, ⟨rfl, rfl⟩, rfl⟩
   refine p_ (S_buildSlice (e := 9) 1 rfl (AEvs.cons (AEv.S _) AEvs.nil) rfl (by kernel_rfl) (by kernel_rfl) (by intro y hy; simp only [List.mem_cons, List.not_mem_nil, or_false] at hy; rcases hy with rfl <;> exact ⟨rfl, rfl⟩) (by decide) (by decide) (by decide)) ?_
   refine p_ (S_pcall rfl (AEvs.cons (.tmp rfl) (AEvs.cons (.tmp rfl) AEvs.nil)) (fail_New_ok (endR (calRd s 0).2.1 (calRd s 0).2.2) [wireN] (by simp))) ?_
   refine as_ rfl rfl rfl rfl ?_
   refine AL_nil ?_
   exact ⟨(), trivial, (Sub.l (.cons_cons _ (.cons_cons _ (List.sublist_cons_self _ _)))), (.cons rfl (Le.of_eq (congrArg (erV 45 185) hw.symm)) .nil), (.cons rfl (Le.refl _) (.cons rfl (Le.refl _) (.cons rfl (Le.refl _) (.cons rfl (Le.refl _) .nil))))⟩
  try simp only [zA,zO,zN,zM,zP,zQ,zD,zF,gd] at hb15
  have hw : wireA s = erNew (calRd s 0).2.2 [wireN] := wire_code hb15
  refine AC_skip ?_
  exact ⟨(), trivial, (Sub.l (.cons_cons _ (.cons_cons _ (List.sublist_cons_self _ _)))), (.cons rfl (Le.of_eq (congrArg (erV 45 185) hw.symm)) .nil), (.cons rfl (Le.refl _) (.cons rfl (Le.refl _) (.cons rfl (Le.refl _) (.cons rfl (Le.refl _) .nil))))⟩
 rintro _ _
 try dsimp only
 simp only [List.cons_append, List.nil_append]
 refine AC_seq ?_
 refine AC_seq (AC_region ?_)
 refine mv rfl rfl rfl rfl ?_
 refine ldN 16 1 ?_
 refine p_ (S_gcall rfl (AEvs.cons (y := calAV (calRd s 0).1) (.tmp rfl) AEvs.nil) ((ask_Check_ok (calRd s 0).1 (calRd_short s)) _ (fun p hp => by repeat (first | exact hG p hp | refine List.mem_cons_of_mem _ ?_ | refine List.mem_append_right _ ?_)))) ?_
 refine p_ (S_buildSlice (e := 56) 1 rfl (AEvs.cons (.tmp rfl) (AEvs.cons (.tmp rfl) AEvs.nil)) rfl (by kernel_rfl) (by kernel_rfl) (by intro y hy; simp only [List.mem_cons, List.not_mem_nil, or_false] at hy; rcases hy with rfl | rfl <;> exact ⟨er_flat _ _ _, by rw [er_cells]; rfl⟩) (by decide) (by decide) (by decide)) ?_
 refine p_ (S_pcall rfl (AEvs.cons (.tmp rfl) AEvs.nil) (fail_First_ok [wireA s, checkA (calRd s 0).1] (by simp))) ?_
 refine as_ rfl rfl rfl rfl ?_
 refine AL_nil (AC_seq (AC_region ?_))
 refine mv rfl rfl rfl rfl ?_
 refine p_ (S_neqE (er_is 45 185 (ofAE s)) rfl (.tmp rfl) (by kernel_rfl)) ?_
 refine AL_nil ?_
 refine AC_cond (.tmp rfl) (fun hb16 => ?_) (fun hb16 => ?_)
 ·try simp only [zA,zO,zN,zM,zP,zQ,zD,zF,gd] at hb16
  have hx : ofA s = cal0 0 := ofA_some fun h => by rw [h] at hb16; simp at hb16
  refine AC_seq (AC_region ?_)
  refine p_ (S_build (t := 33) (pl := [(0, 1), (1, 1), (2, 1), (3, 7), (10, 1), (11, 1), (12, 1), (13, 1), (14, 1), (15, 1)]) (zs := [.int .i64 0, .int .i64 0, .int .u64 0, .string ⟨#[]⟩, .slice none 0 0, .slice none 0 0, .slice none 0 0, .int .i64 0, .int .i64 0, .int .i64 0, .int .i64 0, .int .i64 0, .int .i64 0, .int .i64 0, .string ⟨#[]⟩, .slice none 0 0]) rfl AEvs.nil (by kernel_rfl) rfl) ?_
  refine mv rfl rfl rfl rfl ?_
  refine stW 2 ?_
  refine as_ rfl rfl rfl rfl ?_
  refine AL_nil (AC_ret ?_)
  refine ret_outs st rfl (by decide) (OutsR.row 2 rfl rfl (by kernel_rfl) (OutsR.tmp rfl OutsR.nil)) (Sub.l (((List.sublist_cons_self _ _).trans (List.sublist_cons_self _ _)).trans (List.sublist_cons_self _ _))) (Conv.le (Sub.l (((List.sublist_cons_self _ _).trans (List.sublist_cons_self _ _)).trans (List.sublist_cons_self _ _))) (Les.tup (.cons (Les.agg (.cons (Le.refl _) (.cons (Le.refl _) (.cons (Le.refl _) (.cons (Le.refl _) (.cons (Le.nils) (.cons (Le.nils) (.cons (Le.nils) (.cons (Le.refl _) (.cons (Le.refl _) (.cons (Le.refl _) (.cons (Le.refl _) (.cons (Le.refl _) (.cons (Le.refl _) (.cons (Le.refl _) (.cons (Le.refl _) (.cons (Le.nils) .nil))))))))))))))))) (.cons (Le.refl _) .nil)))) ⟨by rw [hx] <;> rfl, rfl⟩ (.inl rfl)
 try simp only [zA,zO,zN,zM,zP,zQ,zD,zF,gd] at hb16
 have hk : ofAE s = none := by simpa using hb16
 have hx : ofA s = (calRd s 0).1 := if_pos hk
 refine AC_skip ?_
 refine AC_seq (AC_region ?_)
 refine ldN 16 1 ?_
 refine stW 2 ?_
 refine ac rfl rfl rfl ?_
 refine AL_nil (AC_ret ?_)
 refine ret_outs st rfl (by decide) (OutsR.row 2 rfl rfl (by kernel_rfl) (OutsR.tmp rfl OutsR.nil)) (Sub.l (((List.sublist_cons_self _ _).trans (List.sublist_cons_self _ _)).trans (List.sublist_cons_self _ _))) (Conv.refl (Sub.l (((List.sublist_cons_self _ _).trans (List.sublist_cons_self _ _)).trans (List.sublist_cons_self _ _))) _) ⟨by rw [hx, hk] <;> rfl, rfl⟩ (.inl rfl)
theorem book_SameCall_ok (a b : Cal) (ha : ShortA a) (hb : ShortA b) : PCalls Tryz.prog 12 [calAV a, calAV b] (.bool (sameA a b)) := by
 intro st
 refine co 73 Tryz.func12 ?_
 refine AC_seq (AC_region ?_)
 refine s_ (S_box rfl (.tmp rfl)) ?_
 rintro _ _ ⟨b2, rfl, rfl⟩
 refine s_ (S_box rfl (.tmp rfl)) ?_
 rintro _ _ ⟨b3, rfl, rfl⟩
 refine ac rfl rfl rfl ?_
 refine AL_nil (AC_seq (AC_region ?_))
 refine fl 0 ?_
 refine ld 1 ?_
 refine fl 0 ?_
 refine ld 0 ?_
 refine p_ (S_eql rfl (.tmp rfl) (.tmp rfl)) ?_
 refine mv rfl rfl rfl rfl ?_
 refine g_ (fun _ => fA 1) ?_
 refine g_ (fun _ => lA 1) ?_
 refine g_ (fun _ => fA 1) ?_
 refine g_ (fun _ => lA 0) ?_
 refine g_ (fun _ => S_eql rfl (AEv.cd (.tmp rfl)) (AEv.cd (.tmp rfl))) ?_
 refine an ?_
 refine mv rfl rfl rfl rfl ?_
 refine g_ (fun _ => fA 2) ?_
 refine g_ (fun _ => lA 1) ?_
 refine g_ (fun _ => fA 2) ?_
 refine g_ (fun _ => lA 0) ?_
 refine g_ (fun _ => S_eql rfl (AEv.cd (.tmp rfl)) (AEv.cd (.tmp rfl))) ?_
 refine an ?_
 refine mv rfl rfl rfl rfl ?_
 refine g_ (fun _ => fA 3) ?_
 refine g_ (fun _ => lN 7 1) ?_
 refine g_ (fun _ => fA 3) ?_
 refine g_ (fun _ => lN 7 0) ?_
 refine g_ (fun _ => S_pcall rfl (AEvs.cons (AEv.cd (.tmp rfl)) (AEvs.cons (AEv.cd (.tmp rfl)) AEvs.nil)) (book_SameSpec_ok a.spec b.spec (light_short ha.1) (light_short hb.1))) ?_
 refine an ?_
 refine mv rfl rfl rfl rfl ?_
 refine g_ (fun _ => fA 10) ?_
 refine g_ (fun _ => lA 1) ?_
 refine g_ (fun _ => fA 10) ?_
 refine g_ (fun _ => lA 0) ?_
 refine g_ (fun _ => S_eql rfl (AEv.cd (.tmp rfl)) (AEv.cd (.tmp rfl))) ?_
 refine an ?_
 refine mv rfl rfl rfl rfl ?_
 refine g_ (fun _ => fA 11) ?_
 refine g_ (fun _ => lA 1) ?_
 refine g_ (fun _ => fA 11) ?_
 refine g_ (fun _ => lA 0) ?_
 refine g_ (fun _ => S_eql rfl (AEv.cd (.tmp rfl)) (AEv.cd (.tmp rfl))) ?_
 refine an ?_
 refine mv rfl rfl rfl rfl ?_
 refine g_ (fun _ => fA 12) ?_
 refine g_ (fun _ => lA 1) ?_
 refine g_ (fun _ => fA 12) ?_
 refine g_ (fun _ => lA 0) ?_
 refine g_ (fun _ => S_eql rfl (AEv.cd (.tmp rfl)) (AEv.cd (.tmp rfl))) ?_
 refine an ?_
 refine mv rfl rfl rfl rfl ?_
 refine g_ (fun _ => fA 13) ?_
 refine g_ (fun _ => lA 1) ?_
 refine g_ (fun _ => fA 13) ?_
 refine g_ (fun _ => lA 0) ?_
 refine g_ (fun _ => S_eql rfl (AEv.cd (.tmp rfl)) (AEv.cd (.tmp rfl))) ?_
 refine an ?_
 refine mv rfl rfl rfl rfl ?_
 refine g_ (fun _ => fA 14) ?_
 refine g_ (fun _ => lA 1) ?_
 refine g_ (fun _ => fA 14) ?_
 refine g_ (fun _ => lA 0) ?_
 refine g_ (fun _ => S_eqS rfl (AEv.cd (.tmp rfl)) (AEv.cd (.tmp rfl))) ?_
 refine an ?_
 refine mv rfl rfl rfl rfl ?_
 refine g_ (fun _ => fA 15) ?_
 refine g_ (fun _ => lA 1) ?_
 refine g_ (fun _ => fA 15) ?_
 refine g_ (fun _ => lA 0) ?_
 refine g_ (fun _ => S_pcall rfl (AEvs.cons (AEv.cd (.tmp rfl)) (AEvs.cons (AEv.cd (.tmp rfl)) AEvs.nil)) (book_SameLabels_ok a.sel b.sel ha.2.1 hb.2.1)) ?_
 refine an ?_
 refine as_ rfl rfl rfl rfl ?_
 refine AL_nil (AC_ret ?_)
 refine ret_tmp st rfl rfl (Sub.l ((List.sublist_cons_self _ _).trans (List.sublist_cons_self _ _))) (Conv.refl (Sub.l ((List.sublist_cons_self _ _).trans (List.sublist_cons_self _ _))) _) ⟨congrArg AV.bool (by simp only [sameA, Int.ofNat_inj]), rfl⟩ (.inl rfl)
end Go.Proofs.YtfpkefhjomeeeaaGreatDoor

set_option maxRecDepth 100000
namespace Go.Proofs.YtfpkefhjomeeeaaGreatDoor
open Go.AL Go.NumSpec
theorem frame_New_ok (F : St) : ACalls Tryz.prog 29 [] ([] ++ F) (fun x st' => ∃ foot', (∃ bx, x = .ptr bx 0 ∧ foot' = [(bx, Ob.cells [.S [], .bool false])]) ∧ st' = foot' ++ F) := by
 refine co 3 Tryz.func29 ?_
 refine AC_seq (AC_region ?_)
 refine ac rfl rfl rfl ?_
 refine AL_nil (AC_seq (AC_region ?_))
 refine p_ (S_build (t := 125) (pl := [(0, 1), (1, 1)]) (zs := [.string ⟨#[]⟩, .bool false]) rfl AEvs.nil (by kernel_rfl) rfl) ?_
 refine s_ (S_box rfl (.tmp rfl)) ?_
 rintro _ _ ⟨b2, rfl, rfl⟩
 refine as_ rfl rfl rfl rfl ?_
 refine AL_nil (AC_ret ?_)
 refine ret_tmp ([(b2, Ob.cells [.S [], .bool false])] ++ F) rfl rfl (Sub.l (List.Sublist.refl _)) (Conv.refl (Sub.l (List.Sublist.refl _)) _) ⟨_, ⟨b2, rfl, rfl⟩, rfl⟩ (.inl rfl)
theorem frame_Close_ok (bx : Nat) (s : List UInt8) (c : Bool) (F : St) : ACalls Tryz.prog 32 [.ptr bx 0] ([(bx, Ob.cells [.S s, .bool c])] ++ F) (fun x st' => ∃ foot', (x = .tup [] ∧ foot' = [(bx, Ob.cells [.S [], .bool true])]) ∧ st' = foot' ++ F) := by
 refine co 8 Tryz.func32 ?_
 refine AC_region ?_
 refine mv rfl rfl rfl rfl ?_
 refine mv rfl rfl rfl rfl ?_
 refine p_ (S_nilCheck rfl (.tmp rfl)) ?_
 refine fl 0 ?_
 refine s_ (S_store 0 rfl (.tmp rfl) (AEv.S _) rfl (by first | exact Nat.le_of_ble_eq_true rfl | simp) rfl (by kernel_rfl)) ?_
 rintro _ _ ⟨rfl, rfl⟩
 refine p_ (S_nilCheck rfl (.tmp rfl)) ?_
 refine fl 1 ?_
 refine s_ (S_store 0 rfl (.tmp rfl) (AEv.const _) rfl (by first | exact Nat.le_of_ble_eq_true rfl | simp) rfl (by kernel_rfl)) ?_
 rintro _ _ ⟨rfl, rfl⟩
 refine AL_nil ?_
 refine ret_none ([(bx, Ob.cells [.S [], .bool true])] ++ F) rfl (Sub.l (List.Sublist.refl _)) ⟨_, ⟨rfl, rfl⟩, rfl⟩ (.inr rfl)
theorem frame_fails_ok (bx : Nat) (s : List UInt8) (c : Bool) (d : Int) (F : St) : ACalls Tryz.prog 63 [.ptr bx 0, .int .i64 d] ([(bx, Ob.cells [.S s, .bool c])] ++ F) (fun x st' => ∃ foot', (x = .int .i64 d ∧ foot' = [(bx, Ob.cells [.S [], .bool true])]) ∧ st' = foot' ++ F) := by
 refine co 8 Tryz.func63 ?_
 refine AC_seq (AC_region ?_)
 refine ac rfl rfl rfl ?_
 refine AL_nil (AC_seq (AC_region ?_))
 refine mv rfl rfl rfl rfl ?_
 refine s_ (S_call rfl (AEvs.cons (.tmp rfl) AEvs.nil) (frame_Close_ok bx s c F)) ?_
 rintro _ _ ⟨_, ⟨rfl, rfl⟩, rfl⟩
 refine AL_nil (AC_seq (AC_region ?_))
 refine mv rfl rfl rfl rfl ?_
 refine as_ rfl rfl rfl rfl ?_
 refine AL_nil (AC_ret ?_)
 refine ret_tmp ([(bx, Ob.cells [.S [], .bool true])] ++ F) rfl rfl (Sub.l (List.Sublist.refl _)) (Conv.refl (Sub.l (List.Sublist.refl _)) _) ⟨_, ⟨rfl, rfl⟩, rfl⟩ (.inl rfl)
theorem frame_Feed_ok (bx : Nat) (s : List UInt8) (c : Bool) (t : List UInt8) (hs : s.length ≤ 8192) (ht : t.length ≤ 100000) (F : St) : ACalls Tryz.prog 30 [.ptr bx 0, .S t] ([(bx, Ob.cells [.S s, .bool c])] ++ F) (fun x st' => ∃ foot', (x = .int .i64 (putS s c t).2.2 ∧ foot' = [(bx, Ob.cells [.S (putS s c t).1, .bool (putS s c t).2.1])]) ∧ st' = foot' ++ F) := by
 refine co 30 Tryz.func30 ?_
 refine AC_seq (AC_region ?_)
 refine ac rfl rfl rfl ?_
 refine AL_nil ?_
 refine AC_seq ?_
 refine AC_block ?_
 refine AC_seq (AC_region ?_)
 refine mv rfl rfl rfl rfl ?_
 refine p_ (S_nilCheck rfl (.tmp rfl)) ?_
 refine fl 1 ?_
 refine ld 0 ?_
 refine as_ rfl rfl rfl rfl ?_
 refine AL_nil ?_
 refine AC_cond (.tmp rfl) (fun hb1 => ?_) (fun hb1 => ?_)
 ·try simp only [zA,zO,zN,zM,zP,zQ,zD,zF,gd] at hb1
  have hx := putS_closed (s := s) (t := t) (c := c) hb1
  refine AC_seq (AC_region ?_)
  refine ac rfl rfl rfl ?_
  refine AL_nil (AC_ret ?_)
  refine ret_tmp ([(bx, Ob.cells [.S s, .bool c])] ++ F) rfl rfl (Sub.l (List.Sublist.refl _)) (Conv.refl (Sub.l (List.Sublist.refl _)) _) ⟨_, ⟨by rw [hx], by rw [hx, show c = true from by assumption]⟩, rfl⟩ (.inl rfl)
 try simp only [zA,zO,zN,zM,zP,zQ,zD,zF,gd] at hb1
 have hc : ¬ c = true := by simpa using hb1
 refine AC_seq (AC_region ?_)
 refine mv rfl rfl rfl rfl ?_
 refine p_ (S_lenS (ts := #[]) rfl (.tmp rfl) (by kernel_rfl)) ?_
 refine mv rfl rfl rfl rfl ?_
 refine p_ (S_nilCheck rfl (.tmp rfl)) ?_
 refine fl 0 ?_
 refine ld 0 ?_
 refine p_ (S_lenS (ts := #[]) rfl (.tmp rfl) (by kernel_rfl)) ?_
 refine p_ (S_subI rfl (AEv.const _) (.tmp rfl) (by omega) (by omega)) ?_
 refine p_ (S_gtr rfl (.tmp rfl) (.tmp rfl)) ?_
 refine as_ rfl rfl rfl rfl ?_
 refine AL_nil ?_
 refine AC_cond (.tmp rfl) (fun hb2 => ?_) (fun hb2 => ?_)
 ·try simp only [zA,zO,zN,zM,zP,zQ,zD,zF,gd] at hb2
  have hx := putS_long (s := s) (t := t) hc (by omega)
  refine AC_seq (AC_region ?_)
  refine mv rfl rfl rfl rfl ?_
  refine s_ (S_call rfl (AEvs.cons (.tmp rfl) (AEvs.cons (AEv.const _) AEvs.nil)) (frame_fails_ok bx s c 2 F)) ?_
  rintro _ _ ⟨_, ⟨rfl, rfl⟩, rfl⟩
  refine as_ rfl rfl rfl rfl ?_
  refine AL_nil (AC_ret ?_)
  refine ret_tmp ([(bx, Ob.cells [.S [], .bool true])] ++ F) rfl rfl (Sub.l (List.Sublist.refl _)) (Conv.refl (Sub.l (List.Sublist.refl _)) _) ⟨_, ⟨by rw [hx], by rw [hx]⟩, rfl⟩ (.inl rfl)
 try simp only [zA,zO,zN,zM,zP,zQ,zD,zF,gd] at hb2
 have hx := putS_good (s := s) (t := t) hc (by omega)
 refine AC_skip ?_
 refine AC_seq (AC_region ?_)
 refine mv rfl rfl rfl rfl ?_
 refine p_ (S_nilCheck rfl (.tmp rfl)) ?_
 refine fl 0 ?_
 refine ld 0 ?_
 refine mv rfl rfl rfl rfl ?_
 refine p_ (S_cat rfl (.tmp rfl) (.tmp rfl) (by first | omega | (simp; done) | (simp; omega))) ?_
 refine p_ (S_nilCheck rfl (.tmp rfl)) ?_
 refine fl 0 ?_
 refine st1 0 ?_
 refine AL_nil (AC_seq (AC_region ?_))
 refine ac rfl rfl rfl ?_
 refine AL_nil (AC_ret ?_)
 refine ret_tmp ([(bx, Ob.cells [.S (s ++ t), .bool c])] ++ F) rfl rfl (Sub.l (List.Sublist.refl _)) (Conv.refl (Sub.l (List.Sublist.refl _)) _) ⟨_, ⟨by rw [hx], by rw [hx, show c = false by simpa using hc]⟩, rfl⟩ (.inl rfl)
theorem frame_Next_ok (bx : Nat) (s : List UInt8) (c : Bool) (hs : s.length ≤ 8192) (F : St) : ACalls Tryz.prog 31 [.ptr bx 0] ([(bx, Ob.cells [.S s, .bool c])] ++ F) (fun x st' => ∃ foot', (x = .tup [.S (nextX s c).1, .int .i64 (nextX s c).2.1] ∧ foot' = [(bx, Ob.cells [.S (nextX s c).2.2.1, .bool (nextX s c).2.2.2])]) ∧ st' = foot' ++ F) := by
 refine co 64 Tryz.func31 ?_
 refine AC_seq (AC_region ?_)
 refine p_ (S_assign rfl (AEv.S _)) ?_
 refine ac rfl rfl rfl ?_
 refine AL_nil ?_
 refine AC_seq ?_
 refine AC_block ?_
 refine AC_seq (AC_region ?_)
 refine mv rfl rfl rfl rfl ?_
 refine p_ (S_nilCheck rfl (.tmp rfl)) ?_
 refine fl 1 ?_
 refine ld 0 ?_
 refine as_ rfl rfl rfl rfl ?_
 refine AL_nil ?_
 refine AC_cond (.tmp rfl) (fun hb1 => ?_) (fun hb1 => ?_)
 ·try simp only [zA,zO,zN,zM,zP,zQ,zD,zF,gd] at hb1
  have hx : nextX s c = ([], 400, s, true) := if_pos hb1
  refine AC_seq (AC_region ?_)
  refine p_ (S_assign rfl (AEv.S _)) ?_
  refine ac rfl rfl rfl ?_
  refine AL_nil (AC_ret ?_)
  refine ret_tmps (ts := [2, 3]) ([(bx, Ob.cells [.S s, .bool c])] ++ F) rfl (by decide) rfl (Sub.l (List.Sublist.refl _)) (Conv.refl (Sub.l (List.Sublist.refl _)) _) ⟨_, ⟨by rw [hx], by rw [hx, show c = true from by assumption]⟩, rfl⟩ (.inl rfl)
 try simp only [zA,zO,zN,zM,zP,zQ,zD,zF,gd] at hb1
 have hc : c = false := by simpa using hb1
 subst hc
 refine AC_seq (AC_region ?_)
 refine mv rfl rfl rfl rfl ?_
 refine p_ (S_nilCheck rfl (.tmp rfl)) ?_
 refine fl 0 ?_
 refine ld 0 ?_
 refine p_ (S_lenS (ts := #[]) rfl (.tmp rfl) (by kernel_rfl)) ?_
 refine p_ (S_lss rfl (.tmp rfl) (AEv.const _)) ?_
 refine as_ rfl rfl rfl rfl ?_
 refine AL_nil ?_
 refine AC_cond (.tmp rfl) (fun hb2 => ?_) (fun hb2 => ?_)
 ·try simp only [zA,zO,zN,zM,zP,zQ,zD,zF,gd] at hb2
  have hx : nextX s false = ([], 6, s, false) := nextS_short (by omega)
  refine AC_seq (AC_region ?_)
  refine p_ (S_assign rfl (AEv.S _)) ?_
  refine ac rfl rfl rfl ?_
  refine AL_nil (AC_ret ?_)
  refine ret_tmps (ts := [2, 3]) ([(bx, Ob.cells [.S s, .bool false])] ++ F) rfl (by decide) rfl (Sub.l (List.Sublist.refl _)) (Conv.refl (Sub.l (List.Sublist.refl _)) _) ⟨_, ⟨by rw [hx], by rw [hx]⟩, rfl⟩ (.inl rfl)
 try simp only [zA,zO,zN,zM,zP,zQ,zD,zF,gd] at hb2
 have hl2 : ¬ s.length < 2 := by omega
 refine AC_skip ?_
 refine AC_seq ?_
 obtain ⟨h0, h1, r, rfl⟩ : ∃ h0 h1 r, s = h0 :: h1 :: r := by
  match s, hl2 with
  | a :: b :: r, _ => exact ⟨a, b, r, rfl⟩
  | [], h => exact absurd (by decide) h
  | [_], h => exact absurd (by decide : (1 : Nat) < 2) h
 have hb0 := h0.toNat_lt
 have hb1 := h1.toNat_lt
 refine AC_draw (by kernel_rfl) (by kernel_rfl) (.cons rfl (Q_p rfl (S_move rfl (.tmp rfl))) <|
   .cons rfl (Q_p rfl (S_nilCheck rfl (.tmp rfl))) <|
   .cons rfl (Q_p rfl (S_field 0 rfl (.tmp rfl) (by kernel_rfl))) <|
   .cons rfl (Q_p rfl (S_load 0 rfl (.tmp rfl) rfl rfl (by kernel_rfl))) <|
   .cons rfl (Q_p rfl ((S_index (i := 0) rfl (.tmp rfl) (AEv.const _) (by kernel_rfl) (by omega) (by simp only [List.length_cons]; omega)).ofV (V' := .int .u8 (h0.toNat : Int)) rfl)) <|
   .cons rfl (Q_p rfl ((S_conv (k' := .i64) rfl (.tmp rfl) (by kernel_rfl) (by kernel_rfl)).ofV (V' := .int .i64 (h0.toNat : Int)) (congrArg (AV.int .i64) (by rw [wrap_i64 (by omega) (by omega)])))) <|
   .cons rfl (Q_p rfl (S_move rfl (.tmp rfl))) <|
   .cons rfl (Q_p rfl (S_nilCheck rfl (.tmp rfl))) <|
   .cons rfl (Q_p rfl (S_field 0 rfl (.tmp rfl) (by kernel_rfl))) <|
   .cons rfl (Q_p rfl (S_load 0 rfl (.tmp rfl) rfl rfl (by kernel_rfl))) <|
   .cons rfl (Q_p rfl ((S_index (i := 1) rfl (.tmp rfl) (AEv.const _) (by kernel_rfl) (by omega) (by simp only [List.length_cons]; omega)).ofV (V' := .int .u8 (h1.toNat : Int)) rfl)) <|
   .cons rfl (Q_p rfl ((S_conv (k' := .i64) rfl (.tmp rfl) (by kernel_rfl) (by kernel_rfl)).ofV (V' := .int .i64 (h1.toNat : Int)) (congrArg (AV.int .i64) (by rw [wrap_i64 (by omega) (by omega)])))) <|
   .cons rfl (Q_p rfl ((S_shift rfl (by simp) (.tmp rfl) (AEv.const _) (shift_shl _ _ _ _ (by omega) (by simp only [IntKind.bits]; omega))).ofV (V' := .int .i64 ((h1.toNat * 256 : Nat) : Int)) (congrArg (AV.int .i64) (shl_eight hb1)))) <|
   .cons rfl (Q_p rfl ((S_bits rfl (by simp) (.tmp rfl) (.tmp rfl)).ofV (V' := .int .i64 ((frN (h0 :: h1 :: r) : Nat) : Int)) (congrArg (AV.int .i64) (or_bytes h0 h1)))) <|
   .cons rfl (Q_p rfl (S_assign rfl (.tmp rfl))) <|
   .nil) ?_
 refine AC_seq ?_
 refine AC_block ?_
 refine AC_seq (AC_region ?_)
 refine mv rfl rfl rfl rfl ?_
 refine p_ (S_gtr rfl (.tmp rfl) (AEv.const _)) ?_
 refine as_ rfl rfl rfl rfl ?_
 refine AL_nil ?_
 refine AC_cond (.tmp rfl) (fun hb3 => ?_) (fun hb3 => ?_)
 ·try simp only [zA,zO,zN,zM,zP,zQ,zD,zF,gd] at hb3
  have hx : nextX (h0 :: h1 :: r) false = ([], 2, [], true) := nextS_long hl2 (by omega)
  refine AC_seq (AC_region ?_)
  refine mv rfl rfl rfl rfl ?_
  refine s_ (S_call rfl (AEvs.cons (.tmp rfl) (AEvs.cons (AEv.const _) AEvs.nil)) (frame_fails_ok bx (h0 :: h1 :: r) false 2 F)) ?_
  rintro _ _ ⟨_, ⟨rfl, rfl⟩, rfl⟩
  refine p_ (S_assign rfl (AEv.S _)) ?_
  refine as_ rfl rfl rfl rfl ?_
  refine AL_nil (AC_ret ?_)
  refine ret_tmps (ts := [2, 3]) ([(bx, Ob.cells [.S [], .bool true])] ++ F) rfl (by decide) rfl (Sub.l (List.Sublist.refl _)) (Conv.refl (Sub.l (List.Sublist.refl _)) _) ⟨_, ⟨by rw [hx], by rw [hx]⟩, rfl⟩ (.inl rfl)
 try simp only [zA,zO,zN,zM,zP,zQ,zD,zF,gd] at hb3
 have hm : ¬ 2048 < frN (h0 :: h1 :: r) := by omega
 refine AC_seq (AC_region ?_)
 refine mv rfl rfl rfl rfl ?_
 refine mv rfl rfl rfl rfl ?_
 refine p_ (S_nilCheck rfl (.tmp rfl)) ?_
 refine fl 0 ?_
 refine ld 0 ?_
 refine p_ (S_lenS (ts := #[]) rfl (.tmp rfl) (by kernel_rfl)) ?_
 refine p_ (S_subI rfl (.tmp rfl) (AEv.const _) (by omega) (by omega)) ?_
 refine p_ (S_gtr rfl (.tmp rfl) (.tmp rfl)) ?_
 refine as_ rfl rfl rfl rfl ?_
 refine AL_nil ?_
 refine AC_cond (.tmp rfl) (fun hb4 => ?_) (fun hb4 => ?_)
 ·try simp only [zA,zO,zN,zM,zP,zQ,zD,zF,gd] at hb4
  have hx : nextX (h0 :: h1 :: r) false = ([], 6, h0 :: h1 :: r, false) := nextS_wait hl2 hm (by omega)
  refine AC_seq (AC_region ?_)
  refine p_ (S_assign rfl (AEv.S _)) ?_
  refine ac rfl rfl rfl ?_
  refine AL_nil (AC_ret ?_)
  refine ret_tmps (ts := [2, 3]) ([(bx, Ob.cells [.S (h0 :: h1 :: r), .bool false])] ++ F) rfl (by decide) rfl (Sub.l (List.Sublist.refl _)) (Conv.refl (Sub.l (List.Sublist.refl _)) _) ⟨_, ⟨by rw [hx], by rw [hx]⟩, rfl⟩ (.inl rfl)
 try simp only [zA,zO,zN,zM,zP,zQ,zD,zF,gd] at hb4
 have hf : ¬ (h0 :: h1 :: r).length < 2 + frN (h0 :: h1 :: r) := by omega
 have hx : nextX (h0 :: h1 :: r) false = ((((h0 :: h1 :: r).drop 2).take (frN (h0 :: h1 :: r))), 0, (h0 :: h1 :: r).drop (2 + frN (h0 :: h1 :: r)), false) := nextS_text hl2 hm hf
 refine AC_skip ?_
 refine AC_seq (AC_region ?_)
 refine mv rfl rfl rfl rfl ?_
 refine p_ (S_nilCheck rfl (.tmp rfl)) ?_
 refine fl 0 ?_
 refine ld 0 ?_
 refine mv rfl rfl rfl rfl ?_
 refine p_ (S_addI rfl (AEv.const _) (.tmp rfl) (by omega) (by omega)) ?_
 refine p_ ((S_sliceLH (i := 2) (j := 2 + (frN (h0 :: h1 :: r) : Int)) rfl (.tmp rfl) (AEv.const _) (.tmp rfl) (by kernel_rfl) (by omega) (by omega) (by omega)).ofV (V' := .S (((h0 :: h1 :: r).drop 2).take (frN (h0 :: h1 :: r)))) (congrArg AV.S (cut_two _ _))) ?_
 refine as_ rfl rfl rfl rfl ?_
 refine AL_nil (AC_seq (AC_region ?_))
 refine mv rfl rfl rfl rfl ?_
 refine mv rfl rfl rfl rfl ?_
 refine p_ (S_nilCheck rfl (.tmp rfl)) ?_
 refine fl 0 ?_
 refine ld 0 ?_
 refine mv rfl rfl rfl rfl ?_
 refine p_ (S_addI rfl (AEv.const _) (.tmp rfl) (by omega) (by omega)) ?_
 refine p_ ((S_sliceL rfl (.tmp rfl) (.tmp rfl) (by kernel_rfl) (by omega) (by omega)).ofV (V' := .S ((h0 :: h1 :: r).drop (2 + frN (h0 :: h1 :: r)))) (congrArg AV.S (congrArg (fun n => List.drop n (h0 :: h1 :: r)) (by omega)))) ?_
 refine p_ (S_nilCheck rfl (.tmp rfl)) ?_
 refine fl 0 ?_
 refine st1 0 ?_
 refine AL_nil (AC_seq (AC_region ?_))
 refine mv rfl rfl rfl rfl ?_
 refine as_ rfl rfl rfl rfl ?_
 refine ac rfl rfl rfl ?_
 refine AL_nil (AC_ret ?_)
 refine ret_tmps (ts := [2, 3]) ([(bx, Ob.cells [.S ((h0 :: h1 :: r).drop (2 + frN (h0 :: h1 :: r))), .bool false])] ++ F) rfl (by decide) rfl (Sub.l (List.Sublist.refl _)) (Conv.refl (Sub.l (List.Sublist.refl _)) _) ⟨_, ⟨by rw [hx], by rw [hx]⟩, rfl⟩ (.inl rfl)
theorem conn_New_ok (F : St) : ACalls Tryz.prog 13 [] ([] ++ F) (fun x st' => ∃ foot', (∃ bc bx, x = .ptr bc 0 ∧ foot' = ((bc, Ob.cells [.ptr bx 0, ownAV .nil 1 (strsV []), ownAV .nil 1 (strsV []), .int .i64 0]) :: (bx, Ob.cells [.S [], .bool false]) :: ownSt .nil 9 1 (strsV []))) ∧ st' = foot' ++ F) := by
 refine co 4 Tryz.func13 ?_
 refine AC_seq (AC_region ?_)
 refine ac rfl rfl rfl ?_
 refine AL_nil (AC_seq (AC_region ?_))
 refine s_ (S_call rfl AEvs.nil (frame_New_ok F)) ?_
 rintro _ _ ⟨_, ⟨bx, rfl, rfl⟩, rfl⟩
 refine p_ (S_build (t := 81) (pl := [(0, 1), (1, 1), (2, 1), (3, 1)]) (zs := [.pointer none, .slice none 0 0, .slice none 0 0, .int .i64 0]) rfl (AEvs.cons (.tmp rfl) AEvs.nil) (by kernel_rfl) rfl) ?_
 refine s_ (S_box rfl (.tmp rfl)) ?_
 rintro _ _ ⟨b3, rfl, rfl⟩
 refine as_ rfl rfl rfl rfl ?_
 refine AL_nil (AC_ret ?_)
 refine ret_tmp (((b3, Ob.cells [.ptr bx 0, ownAV .nil 1 (strsV []), ownAV .nil 1 (strsV []), .int .i64 0]) :: (bx, Ob.cells [.S [], .bool false]) :: ownSt .nil 9 1 (strsV [])) ++ F) rfl rfl (Sub.l (List.Sublist.refl _)) (Conv.refl (Sub.l (List.Sublist.refl _)) _) ⟨_, ⟨b3, bx, rfl, rfl⟩, rfl⟩ (.inl rfl)
theorem conn_Feed_ok (bc bx : Nat) (p : Own) (w : List (List UInt8)) (s : List UInt8) (c : Bool) (oc : AV) (tk : Int) (hp : p.ok (strsV w)) (t : List UInt8) (hs : s.length ≤ 8192) (ht : t.length ≤ 100000) (hw : w.length ≤ 32) (F : St) : ACalls Tryz.prog 14 [.ptr bc 0, .S t] (((bc, Ob.cells [.ptr bx 0, ownAV p 1 (strsV w), oc, .int .i64 tk]) :: (bx, Ob.cells [.S s, .bool c]) :: ownSt p 9 1 (strsV w)) ++ F) (fun x st' => ∃ foot', (∃ p' : Own, p'.ok (strsV (feedC s c w t).2.2.1) ∧ x = .tup [.int .i64 (((feedC s c w t).2.2.1.length : Int) - (w.length : Int)), .int .i64 (feedC s c w t).2.2.2] ∧ foot' = ((bc, Ob.cells [.ptr bx 0, ownAV p' 1 (strsV (feedC s c w t).2.2.1), oc, .int .i64 tk]) :: (bx, Ob.cells [.S (feedC s c w t).1, .bool (feedC s c w t).2.1]) :: ownSt p' 9 1 (strsV (feedC s c w t).2.2.1))) ∧ st' = foot' ++ F) := by
 refine co 61 Tryz.func14 ?_
 refine AC_seq (AC_region ?_)
 refine ac rfl rfl rfl ?_
 refine ac rfl rfl rfl ?_
 refine AL_nil ?_
 refine AC_seq ?_
 refine AC_seq (AC_region ?_)
 refine mv rfl rfl rfl rfl ?_
 refine p_ (S_nilCheck rfl (.tmp rfl)) ?_
 refine fl 0 ?_
 refine ld 0 ?_
 refine mv rfl rfl rfl rfl ?_
 refine s_ (S_call rfl (AEvs.cons (.tmp rfl) (AEvs.cons (.tmp rfl) AEvs.nil)) (ACalls.preQ (pre := [_]) (F := _) (frame_Feed_ok bx s c t hs ht _))) ?_
 rintro _ _ ⟨_, ⟨rfl, rfl⟩, rfl⟩
 refine as_ rfl rfl rfl rfl ?_
 refine AL_nil (AC_seq (AC_region ?_))
 refine mv rfl rfl rfl rfl ?_
 refine p_ (S_neq rfl (.tmp rfl) (AEv.const _)) ?_
 refine AL_nil ?_
 refine AC_cond (.tmp rfl) (fun hb1 => ?_) (fun hb1 => ?_)
 ·try simp only [zA,zO,zN,zM,zP,zQ,zD,zF,gd] at hb1
  have hx := feed_bad (w := w) hb1
  refine AC_seq (AC_region ?_)
  refine mv rfl rfl rfl rfl ?_
  refine ac rfl rfl rfl ?_
  refine as_ rfl rfl rfl rfl ?_
  refine AL_nil (AC_ret ?_)
  refine ret_tmps (ts := [4, 5]) (((bc, Ob.cells [.ptr bx 0, ownAV p 1 (strsV w), oc, .int .i64 tk]) :: (bx, Ob.cells [.S (putS s c t).1, .bool (putS s c t).2.1]) :: ownSt p 9 1 (strsV w)) ++ F) rfl (by decide) rfl (Sub.l (List.Sublist.refl _)) (Conv.refl (Sub.l (List.Sublist.refl _)) _) ⟨_, ⟨p, by rw [hx]; exact hp, by rewrite [hx]; exact (tup_zero w.length _).symm, by rw [hx]⟩, rfl⟩ (.inl rfl)
 try simp only [zA,zO,zN,zM,zP,zQ,zD,zF,gd] at hb1
 obtain ⟨hx1, hx2, hq8, hcf⟩ := feed_good (w := w) (show (putS s c t).2.2 = 0 by simpa using hb1)
 rw [hx1]
 refine AC_skip ?_
 refine AC_seq (AC_region ?_)
 refine ac rfl rfl rfl ?_
 refine AL_nil ?_
 refine AC_block ?_
 refine AC_loopK (G := List UInt8 × List (List UInt8) × Own) [(0, _)] (fun g => drainC g.1 g.2.1 = drainC (s ++ t) w ∧ g.1.length ≤ 8192 ∧ g.2.1.length ≤ 32 ∧ w.length ≤ g.2.1.length ∧ g.2.2.ok (strsV g.2.1)) (fun g => [(7, .int .i64 ((g.2.1.length : Int) - (w.length : Int)))]) (fun g => (((bc, Ob.cells [.ptr bx 0, ownAV g.2.2 1 (strsV g.2.1), oc, .int .i64 tk]) :: (bx, Ob.cells [.S g.1, .bool false]) :: ownSt g.2.2 9 1 (strsV g.2.1)) ++ F)) (fun g => g.1.length) ((s ++ t, w, p)) (⟨rfl, hq8, hw, Nat.le_refl _, hp⟩) (Sub.l (List.Sublist.refl _)) (.cons rfl (Le.refl _) .nil) (.cons rfl (Le.of_eq (congrArg (AV.int .i64) (by dsimp only; omega))) .nil) ?_
 rintro ⟨s2, w2, p2⟩ ⟨hd, hs2, hw2, hww, hq⟩
 try dsimp only
 simp only [List.cons_append, List.nil_append]
 dsimp only at hd hs2 hw2 hww hq
 refine AC_seq ?_
 refine AC_block ?_
 refine AC_seq (AC_region ?_)
 refine mv rfl rfl rfl rfl ?_
 refine p_ (S_nilCheck rfl (.tmp rfl)) ?_
 refine fl 0 ?_
 refine ld 0 ?_
 refine s_ (S_call rfl (AEvs.cons (.tmp rfl) AEvs.nil) (ACalls.preQ (pre := [_]) (F := _) (frame_Next_ok bx s2 false (by omega) _))) ?_
 rintro _ _ ⟨_, ⟨rfl, rfl⟩, rfl⟩
 rw [nextX_open]
 generalize hnx : nextS s2 = nx
 refine mv rfl rfl rfl rfl ?_
 refine ex 0 ?_
 refine ex 1 ?_
 refine as_ rfl rfl rfl rfl ?_
 refine as_ rfl rfl rfl rfl ?_
 refine AL_nil ?_
 refine AC_seq ?_
 refine AC_block ?_
 refine AC_seq (AC_region ?_)
 refine mv rfl rfl rfl rfl ?_
 refine p_ (S_eql rfl (.tmp rfl) (AEv.const _)) ?_
 refine as_ rfl rfl rfl rfl ?_
 refine AL_nil ?_
 refine AC_cond (.tmp rfl) (fun hb2 => ?_) (fun hb2 => ?_)
 ·try simp only [zA,zO,zN,zM,zP,zQ,zD,zF,gd] at hb2
  have hx : drainC (s ++ t) w = (s2, false, w2, 0) := by rw [← hd]; exact drain_none (by rw [hnx]; exact hb2)
  have hn6 : nx = ([], 6, s2, false) := by rw [← hnx]; exact next_six (by rw [hnx]; exact hb2)
  refine AC_seq (AC_region ?_)
  refine mv rfl rfl rfl rfl ?_
  refine as_ rfl rfl rfl rfl ?_
  refine ac rfl rfl rfl ?_
  refine AL_nil (AC_ret ?_)
  refine ret_tmps (ts := [4, 5]) (((bc, Ob.cells [.ptr bx 0, ownAV p2 1 (strsV w2), oc, .int .i64 tk]) :: (bx, Ob.cells [.S nx.2.2.1, .bool nx.2.2.2]) :: ownSt p2 9 1 (strsV w2)) ++ F) rfl (by decide) rfl (Sub.l (List.Sublist.refl _)) (Conv.refl (Sub.l (List.Sublist.refl _)) _) ⟨_, ⟨p2, by rw [hx2, hx]; exact hq, by rw [hx2, hx], by rw [hx2, hx, hn6]⟩, rfl⟩ (.inl rfl)
 try simp only [zA,zO,zN,zM,zP,zQ,zD,zF,gd] at hb2
 have h6 : ¬ nx.2.1 = 6 := hb2
 refine AC_seq (AC_region ?_)
 refine mv rfl rfl rfl rfl ?_
 refine p_ (S_neq rfl (.tmp rfl) (AEv.const _)) ?_
 refine as_ rfl rfl rfl rfl ?_
 refine AL_nil ?_
 refine AC_cond (.tmp rfl) (fun hb3 => ?_) (fun hb3 => ?_)
 ·try simp only [zA,zO,zN,zM,zP,zQ,zD,zF,gd] at hb3
  have hnb : nx = ([], 2, [], true) := by rw [← hnx]; exact next_bad (by rw [hnx]; exact h6) (by rw [hnx]; exact hb3)
  have hx : drainC (s ++ t) w = (nx.2.2.1, true, w2, nx.2.1) := by rw [← hd, drain_bad (by rw [hnx]; exact hb3) (by rw [hnx]; exact h6), hnx]
  refine AC_seq (AC_region ?_)
  refine mv rfl rfl rfl rfl ?_
  refine mv rfl rfl rfl rfl ?_
  refine as_ rfl rfl rfl rfl ?_
  refine as_ rfl rfl rfl rfl ?_
  refine AL_nil (AC_ret ?_)
  refine ret_tmps (ts := [4, 5]) (((bc, Ob.cells [.ptr bx 0, ownAV p2 1 (strsV w2), oc, .int .i64 tk]) :: (bx, Ob.cells [.S nx.2.2.1, .bool nx.2.2.2]) :: ownSt p2 9 1 (strsV w2)) ++ F) rfl (by decide) rfl (Sub.l (List.Sublist.refl _)) (Conv.refl (Sub.l (List.Sublist.refl _)) _) ⟨_, ⟨p2, by rw [hx2, hx]; exact hq, by rw [hx2, hx], by rw [hx2, hx, show nx.2.2.2 = true by rw [hnb]]⟩, rfl⟩ (.inl rfl)
 try simp only [zA,zO,zN,zM,zP,zQ,zD,zF,gd] at hb3
 have h0 : nx.2.1 = 0 := by simpa using hb3
 have hls := nextS_less (s := s2) (by rw [hnx]; exact h0)
 rw [hnx] at hls
 have hls1 := hls.1
 refine AC_seq (AC_region ?_)
 refine mv rfl rfl rfl rfl ?_
 refine p_ (S_nilCheck rfl (.tmp rfl)) ?_
 refine fl 1 ?_
 refine ld 0 ?_
 refine p_ (by first | exact S_lenM (e := 9) rfl ((AEv.tmp rfl).le (Le_own hq)) (by kernel_rfl) | exact S_len (e := 9) rfl ((AEv.tmp rfl).le (Le_own hq)) (by kernel_rfl)) ?_
 refine p_ (S_geq rfl (.tmp rfl) (AEv.const _)) ?_
 refine as_ rfl rfl rfl rfl ?_
 refine AL_nil ?_
 refine AC_cond (.tmp rfl) (fun hb4 => ?_) (fun hb4 => ?_)
 ·try simp only [zA,zO,zN,zM,zP,zQ,zD,zF,gd] at hb4
  have hwl : (strsV w2).length = w2.length := by simp [strsV]
  have hx : drainC (s ++ t) w = ([], true, w2, 2) := by rw [← hd]; exact drain_full (by rw [hnx]; exact h0) (by omega)
  refine AC_seq (AC_region ?_)
  refine mv rfl rfl rfl rfl ?_
  refine p_ (S_nilCheck rfl (.tmp rfl)) ?_
  refine fl 0 ?_
  refine ld 0 ?_
  refine s_ (S_call rfl (AEvs.cons (.tmp rfl) AEvs.nil) (ACalls.preQ (pre := [_]) (F := _) (frame_Close_ok bx nx.2.2.1 nx.2.2.2 _))) ?_
  rintro _ _ ⟨_, ⟨rfl, rfl⟩, rfl⟩
  refine AL_nil (AC_seq (AC_region ?_))
  refine mv rfl rfl rfl rfl ?_
  refine as_ rfl rfl rfl rfl ?_
  refine ac rfl rfl rfl ?_
  refine AL_nil (AC_ret ?_)
  refine ret_tmps (ts := [4, 5]) (((bc, Ob.cells [.ptr bx 0, ownAV p2 1 (strsV w2), oc, .int .i64 tk]) :: (bx, Ob.cells [.S [], .bool true]) :: ownSt p2 9 1 (strsV w2)) ++ F) rfl (by decide) rfl (Sub.l (List.Sublist.refl _)) (Conv.refl (Sub.l (List.Sublist.refl _)) _) ⟨_, ⟨p2, by rw [hx2, hx]; exact hq, by rw [hx2, hx], by rw [hx2, hx]⟩, rfl⟩ (.inl rfl)
 try simp only [zA,zO,zN,zM,zP,zQ,zD,zF,gd] at hb4
 have hwl : (strsV w2).length = w2.length := by simp [strsV]
 refine AC_skip ?_
 refine AC_region ?_
 refine mv rfl rfl rfl rfl ?_
 refine mv rfl rfl rfl rfl ?_
 refine p_ (S_nilCheck rfl (.tmp rfl)) ?_
 refine fl 1 ?_
 refine ld 0 ?_
 refine mv rfl rfl rfl rfl ?_
 refine p_ (S_buildSlice (e := 9) 1 rfl (AEvs.cons (.tmp rfl) AEvs.nil) rfl (by kernel_rfl) (by kernel_rfl) (by intro y hy; simp only [List.mem_cons, List.not_mem_nil, or_false] at hy; rcases hy with rfl <;> exact ⟨rfl, rfl⟩) (by decide) (by decide) (by decide)) ?_
 refine s_ (S_appendM (f := (fun y => AV.S y)) (l := w2) (l2 := [nx.1]) (e := 9) (size := 1) (bytes := 16) (p := p2) ([_, _]) (F) rfl (.tmp rfl) (.tmp rfl) rfl hq (by kernel_rfl) (by simp) (fun _ => ⟨rfl, rfl⟩) (by simp only [List.length_singleton]; omega) (by simp only [List.length_singleton]; omega)) ?_
 rintro _ _ ⟨b8, k8, cap8, hx8, rfl, rfl⟩
 refine p_ (S_nilCheck rfl (.tmp rfl)) ?_
 refine fl 1 ?_
 refine s_ (S_store 0 rfl (.tmp rfl) (.tmp rfl) rfl (by first | exact Nat.le_of_ble_eq_true rfl | simp) (by first | rfl | exact ownAV_one _ _ _) (by kernel_rfl)) ?_
 rintro _ _ ⟨rfl, rfl⟩
 refine AL_nil ?_
 refine AC_region ?_
 refine mv rfl rfl rfl rfl ?_
 refine p_ (S_addI rfl (.tmp rfl) (AEv.const _) (by omega) (by omega)) ?_
 refine as_ rfl rfl rfl rfl ?_
 refine AL_nil ?_
 refine ⟨(nx.2.2.1, w2 ++ [nx.1], .row b8 k8 cap8), ⟨by dsimp only; rw [← hd, drain_more (s := s2) (w := w2) (by rw [hnx]; exact h0) (by omega), hnx], by dsimp only; omega, by dsimp only; rw [List.length_append, List.length_singleton]; omega, by dsimp only; rw [List.length_append]; omega, by dsimp only; exact hx8⟩, by dsimp only; omega, by dsimp only; rw [show nx.2.2.2 = false from hls.2]; exact (Sub.l (List.Sublist.refl _)), (.cons rfl (Le.of_eq (congrArg (AV.int .i64) (by dsimp only; rw [List.length_append, List.length_singleton]; omega))) .nil), (.cons rfl (Le.refl _) .nil)⟩
theorem clone_ok (l : List (List UInt8)) (hl : l.length ≤ 1000) (F : St) : ACalls Tryz.prog 33 [.sl (strsV l)] ([] ++ F) (fun x st' => ∃ foot', (∃ p : Own, p.ok (strsV l) ∧ x = ownAV p 1 (strsV l) ∧ foot' = ownSt p 9 1 (strsV l)) ∧ st' = foot' ++ F) := by
 refine co 8 Tryz.func33 ?_
 have hln : (strsV l).length = l.length := by simp [strsV]
 refine AC_seq (AC_region ?_)
 refine ac rfl rfl rfl ?_
 refine AL_nil ?_
 refine AC_seq ?_
 refine AC_seq (AC_region ?_)
 refine mv rfl rfl rfl rfl ?_
 refine s_ (S_eqlNilSl (e := 9) rfl (.tmp rfl) (AEv.const _) (by kernel_rfl)) ?_
 rintro _ st9 ⟨c, rfl, hc, h9⟩
 rw [h9]
 clear h9 st9
 refine AL_nil ?_
 refine AC_cond (.tmp rfl) (fun hb1 => ?_) (fun hb1 => ?_)
 ·try simp only [zA,zO,zN,zM,zP,zQ,zD,zF,gd] at hb1
  have hnil := hc hb1
  refine AC_seq (AC_region ?_)
  refine ac rfl rfl rfl ?_
  refine AL_nil (AC_ret ?_)
  refine ret_tmp ([] ++ F) rfl rfl (Sub.l (List.Sublist.refl _)) (Conv.refl (Sub.l (List.Sublist.refl _)) _) ⟨[], ⟨.nil, hnil, rfl, rfl⟩, rfl⟩ (.inl rfl)
 try simp only [zA,zO,zN,zM,zP,zQ,zD,zF,gd] at hb1
 refine AC_skip ?_
 refine AC_seq (AC_region ?_)
 refine s_ (S_build0 (e := 9) rfl rfl (by kernel_rfl) (by kernel_rfl)) ?_
 rintro _ st9 ⟨A, rfl, h9⟩
 rw [h9]
 clear h9 st9
 refine mv rfl rfl rfl rfl ?_
 refine s_ (S_appendEmpAll (e := 9) (size := 1) (bytes := 16) rfl (.tmp rfl) (.tmp rfl) (by kernel_rfl) (strsV_one l) (by omega) (by omega)) ?_
 rintro _ _ ⟨p, hp, rfl, rfl⟩
 refine as_ rfl rfl rfl rfl ?_
 refine AL_nil (AC_ret ?_)
 refine ret_tmp (ownSt p 9 1 (strsV l) ++ F) rfl rfl (Sub.l (List.Sublist.refl _)) (Conv.refl (Sub.l (List.Sublist.refl _)) _) ⟨_, ⟨p, hp, rfl, rfl⟩, rfl⟩ (.inl rfl)
set_option maxHeartbeats 2000000 in
theorem conn_Next_ok (bc bx : Nat) (p : Own) (w : List (List UInt8)) (s : List UInt8) (c : Bool) (oc : AV) (tk : Int) (hp : p.ok (strsV w)) (hw : w.length ≤ 1000) (htk : 0 ≤ tk ∧ tk ≤ 1000000) (F : St) (hG : ∀ r, r ∈ Gs tabs → r ∈ F) : ACalls Tryz.prog 15 [.ptr bc 0] (((bc, Ob.cells [.ptr bx 0, ownAV p 1 (strsV w), oc, .int .i64 tk]) :: (bx, Ob.cells [.S s, .bool c]) :: ownSt p 9 1 (strsV w)) ++ F) (fun x st' => ∃ foot', (∃ p' : Own, p'.ok (strsV w.tail) ∧ x = .tup [.agg (askL (askN w tk) (waitC w).1 (waitC w).2.1), .int .i64 (waitC w).2.2] ∧ foot' = ((bc, Ob.cells [.ptr bx 0, ownAV p' 1 (strsV w.tail), oc, .int .i64 (tookN w tk)]) :: (bx, Ob.cells [.S s, .bool c]) :: ownSt p' 9 1 (strsV w.tail))) ∧ st' = foot' ++ F) := by
 refine co 51 Tryz.func15 ?_
 refine AC_seq (AC_region ?_)
 refine s_ (S_alloc [.int .i64 0, .int .i64 0, .int .i64 0, .int .u64 0, .string ⟨#[]⟩, .slice none 0 0, .slice none 0 0, .slice none 0 0, .int .i64 0, .int .i64 0, .int .i64 0, .int .i64 0, .int .i64 0, .int .i64 0, .int .i64 0, .string ⟨#[]⟩, .slice none 0 0, .int .i64 0, .string ⟨#[]⟩] rfl (by kernel_rfl)) ?_
 rintro _ _ ⟨b2, rfl, rfl⟩
 refine ac rfl rfl rfl ?_
 refine AL_nil ?_
 refine AC_seq ?_
 refine AC_seq (AC_region ?_)
 refine mv rfl rfl rfl rfl ?_
 refine p_ (S_nilCheck rfl (.tmp rfl)) ?_
 refine fl 1 ?_
 refine ld 1 ?_
 refine p_ (by first | exact S_lenM (e := 9) rfl ((AEv.tmp rfl).le (Le_own hp)) (by kernel_rfl) | exact S_len (e := 9) rfl ((AEv.tmp rfl).le (Le_own hp)) (by kernel_rfl)) ?_
 refine p_ (S_eql rfl (.tmp rfl) (AEv.const _)) ?_
 refine AL_nil ?_
 refine AC_cond (.tmp rfl) (fun hb2 => ?_) (fun hb2 => ?_)
 ·try simp only [zA,zO,zN,zM,zP,zQ,zD,zF,gd] at hb2
  obtain rfl : w = [] := by
   cases w with
   | nil => rfl
   | cons a b => exfalso; (try simp only [strsV, List.length_map, List.length_cons] at hb2); omega
  refine AC_seq (AC_region ?_)
  refine p_ (S_build (t := 49) (pl := [(0, 1), (1, 16), (17, 1), (18, 1)]) (zs := [.int .i64 0, .int .i64 0, .int .i64 0, .int .u64 0, .string ⟨#[]⟩, .slice none 0 0, .slice none 0 0, .slice none 0 0, .int .i64 0, .int .i64 0, .int .i64 0, .int .i64 0, .int .i64 0, .int .i64 0, .int .i64 0, .string ⟨#[]⟩, .slice none 0 0, .int .i64 0, .string ⟨#[]⟩]) rfl AEvs.nil (by kernel_rfl) rfl) ?_
  refine stW 0 ?_
  refine ac rfl rfl rfl ?_
  refine AL_nil (AC_ret ?_)
  refine ret_outs (((bc, Ob.cells [.ptr bx 0, ownAV p 1 (strsV []), oc, .int .i64 tk]) :: (bx, Ob.cells [.S s, .bool c]) :: ownSt p 9 1 (strsV [])) ++ F) rfl (by decide) (OutsR.row 0 rfl rfl (by kernel_rfl) (OutsR.tmp rfl OutsR.nil)) (Sub.l (List.Sublist.cons _ (List.Sublist.refl _))) (Conv.le (Sub.l (List.Sublist.cons _ (List.Sublist.refl _))) (Les.tup (.cons (Les.agg (.cons (Le.refl _) (.cons (Le.refl _) (.cons (Le.refl _) (.cons (Le.refl _) (.cons (Le.refl _) (.cons (Le.nils) (.cons (Le.nils) (.cons (Le.nils) (.cons (Le.refl _) (.cons (Le.refl _) (.cons (Le.refl _) (.cons (Le.refl _) (.cons (Le.refl _) (.cons (Le.refl _) (.cons (Le.refl _) (.cons (Le.refl _) (.cons (Le.nils) (.cons (Le.refl _) (.cons (Le.refl _) .nil)))))))))))))))))))) (.cons (Le.refl _) .nil)))) ⟨_, ⟨p, hp, rfl, rfl⟩, rfl⟩ (.inl rfl)
 try simp only [zA,zO,zN,zM,zP,zQ,zD,zF,gd] at hb2
 obtain ⟨v, w, rfl⟩ : ∃ v w', w = v :: w' := by
  cases w with
  | nil => exact absurd rfl hb2
  | cons n l => exact ⟨n, l, rfl⟩
 simp only [List.length_cons] at hw
 have hln : (strsV (v :: w)).length = w.length + 1 := by simp [strsV]
 refine AC_skip ?_
 refine AC_seq (AC_region ?_)
 refine mv rfl rfl rfl rfl ?_
 refine p_ (S_nilCheck rfl (.tmp rfl)) ?_
 refine fl 1 ?_
 refine ld 1 ?_
 refine p_ (S_elem (e := 9) (c := .S v) (i := 0) 1 rfl ((AEv.tmp rfl).le (Le_own hp)) (AEv.const _) (by kernel_rfl) (by kernel_rfl) (by omega) rfl rfl) ?_
 refine p_ (S_loadP rfl (.tmp rfl) rfl (by kernel_rfl)) ?_
 refine as_ rfl rfl rfl rfl ?_
 refine AL_nil (AC_seq (AC_region ?_))
 refine mv rfl rfl rfl rfl ?_
 refine mv rfl rfl rfl rfl ?_
 refine p_ (S_nilCheck rfl (.tmp rfl)) ?_
 refine fl 1 ?_
 refine ld 1 ?_
 refine p_ (S_cut (e := 9) (i := 1) (j := (strsV (v :: w)).length) 1 rfl ((AEv.tmp rfl).le (Le_own hp)) ⟨_, AEv.const _⟩ rfl (by kernel_rfl) (by kernel_rfl) (fun y hy => ((strsV_one (v :: w)) y hy).1) (by rw [hln]; omega) (by rw [hln]; omega)) ?_
 refine s_ (S_call rfl (AEvs.cons ((AEv.tmp rfl).le (Le.of_eq (by rw [List.take_of_length_le (Nat.le_refl _)]; rfl))) AEvs.nil) (ACalls.pre (foot := []) (clone_ok w (by omega)) [_, _, _] (ownSt p 9 1 (strsV (v :: w)) ++ F))) ?_
 rintro _ _ ⟨_, ⟨p2, hp2, rfl, rfl⟩, rfl⟩
 refine p_ (S_nilCheck rfl (.tmp rfl)) ?_
 refine fl 1 ?_
 refine s_ (S_store 1 rfl (.tmp rfl) (.tmp rfl) rfl (by first | exact Nat.le_of_ble_eq_true rfl | simp) (by first | rfl | exact ownAV_one _ _ _) (by kernel_rfl)) ?_
 rintro _ _ ⟨rfl, rfl⟩
 refine AL_nil (AC_seq (AC_region ?_))
 refine mv rfl rfl rfl rfl ?_
 refine p_ (S_nilCheck rfl (.tmp rfl)) ?_
 refine fl 3 ?_
 refine ld 1 ?_
 refine p_ (S_addI rfl (.tmp rfl) (AEv.const _) (by omega) (by omega)) ?_
 refine p_ (S_nilCheck rfl (.tmp rfl)) ?_
 refine fl 3 ?_
 refine st1 1 ?_
 refine AL_nil (AC_seq (AC_region ?_))
 refine mv rfl rfl rfl rfl ?_
 refine p_ (S_gcall rfl (AEvs.cons (.tmp rfl) AEvs.nil) ((ask_Of_ok v) _ (fun r hr => by first | exact hst r (List.mem_cons_of_mem _ (List.mem_cons_of_mem _ hr)) | (repeat (first | exact hG r hr | refine List.mem_cons_of_mem _ ?_ | refine List.mem_append_right _ ?_))))) ?_
 refine mv rfl rfl rfl rfl ?_
 refine ex 0 ?_
 refine ex 1 ?_
 refine s_ (S_alloc [.int .i64 0, .int .i64 0, .int .u64 0, .string ⟨#[]⟩, .slice none 0 0, .slice none 0 0, .slice none 0 0, .int .i64 0, .int .i64 0, .int .i64 0, .int .i64 0, .int .i64 0, .int .i64 0, .int .i64 0, .string ⟨#[]⟩, .slice none 0 0] rfl (by kernel_rfl)) ?_
 rintro _ _ ⟨b5, rfl, rfl⟩
 refine stW 0 ?_
 refine as_ rfl rfl rfl rfl ?_
 refine AL_nil ?_
 refine AC_seq ?_
 refine AC_plan (σ := [(0, 0), (1, 0), (2, 0), (3, 0), (4, 0), (5, 0), (6, 0), (7, 0), (8, 0), (9, 0), (10, 2), (11, 0)]) (by kernel_rfl) ((b5, Ob.cells (calL (ofA v))) :: (bc, Ob.cells [.ptr bx 0, ownAV p2 1 (strsV w), oc, .int .i64 (tk + 1)]) :: Gs tabs) (by kernel_rfl) (fun r hr => by
  rcases List.mem_cons.1 hr with rfl | hr
  ·exact List.mem_cons_self
  ·rcases List.mem_cons.1 hr with rfl | hr
   ·exact List.mem_cons_of_mem _ (List.mem_cons_of_mem _ List.mem_cons_self)
   ·repeat (first | exact hG r hr | refine List.mem_cons_of_mem _ ?_ | refine List.mem_append_right _ ?_)) ?_
 refine AG.f rfl rfl (fun st' hst => Q_p rfl (S_move rfl (.tmp rfl))) ?_
 refine AG.f rfl rfl (fun st' hst => Q_p rfl (S_nilCheck rfl (.tmp rfl))) ?_
 refine AG.f rfl rfl (fun st' hst => Q_p rfl (S_field 3 rfl (.tmp rfl) (by kernel_rfl))) ?_
 refine AG.f rfl rfl (fun st' hst => Q_p rfl (S_loadM rfl (.tmp rfl) (hst _ (List.mem_of_getElem? (i := 1) rfl)) rfl (by kernel_rfl))) ?_
 refine AG.f rfl rfl (fun st' hst => Q_p rfl (S_loadNM (m := 16) rfl (.tmp rfl) (hst _ (List.mem_of_getElem? (i := 0) rfl)) (by kernel_rfl) (by first | exact Nat.le_of_ble_eq_true rfl | (simp; omega) | simp))) ?_
 refine AG.f rfl rfl (fun st' hst => Q_p rfl (S_move rfl (.tmp rfl))) ?_
 refine AG.f rfl rfl (fun st' hst => Q_p rfl (S_gcall rfl (AEvs.cons (.tmp rfl) AEvs.nil) ((fail_Code_ok (ofAE v)) _ (fun r hr => by first | exact hst r (List.mem_cons_of_mem _ (List.mem_cons_of_mem _ hr)) | (repeat (first | exact hG r hr | refine List.mem_cons_of_mem _ ?_ | refine List.mem_append_right _ ?_)))))) ?_
 refine AG.f rfl rfl (fun st' hst => Q_p rfl (S_move rfl (.tmp rfl))) ?_
 refine AG.f rfl rfl (fun st' hst => Q_p rfl (S_gcall rfl (AEvs.cons (.tmp rfl) AEvs.nil) ((fail_Text_ok (ofAE v) (by have := (ofAE_short v).path; omega) (by have := (ofAE_short v).text; unfold erText at this; omega)) _ (fun r hr => by first | exact hst r (List.mem_cons_of_mem _ (List.mem_cons_of_mem _ hr)) | (repeat (first | exact hG r hr | refine List.mem_cons_of_mem _ ?_ | refine List.mem_append_right _ ?_)))))) ?_
 refine AG.f rfl rfl (fun st' hst => Q_p rfl (S_build (t := 49) (pl := [(0, 1), (1, 16), (17, 1), (18, 1)]) (zs := [.int .i64 0, .int .i64 0, .int .i64 0, .int .u64 0, .string ⟨#[]⟩, .slice none 0 0, .slice none 0 0, .slice none 0 0, .int .i64 0, .int .i64 0, .int .i64 0, .int .i64 0, .int .i64 0, .int .i64 0, .int .i64 0, .string ⟨#[]⟩, .slice none 0 0, .int .i64 0, .string ⟨#[]⟩]) rfl (AEvs.cons (.tmp rfl) (AEvs.cons (.tmp rfl) (AEvs.cons (.tmp rfl) (AEvs.cons (.tmp rfl) AEvs.nil)))) (by kernel_rfl) rfl)) ?_
 refine AG.h rfl rfl rfl (S_storeW 1 rfl (.tmp rfl) (.tmp rfl) rfl rfl rfl (by kernel_rfl)) ?_
 rintro _ _ ⟨rfl, rfl⟩
 refine AG.f rfl rfl (fun st' hst => Q_p rfl (S_assign rfl (AEv.const _))) ?_
 refine AG.nil ?_
 refine AC_ret ?_
 refine ret_outs (((bc, Ob.cells [.ptr bx 0, ownAV p2 1 (strsV w), oc, .int .i64 (tk + 1)]) :: (bx, Ob.cells [.S s, .bool c]) :: ownSt p2 9 1 (strsV w)) ++ F) rfl (by decide) (OutsR.row 1 rfl rfl (by kernel_rfl) (OutsR.tmp rfl OutsR.nil)) (Sub.l (.cons _ (.cons _ (.cons_cons _ (.cons_cons _ (List.Sublist.append (List.Sublist.refl _) (List.sublist_append_right _ _))))))) (Conv.refl (Sub.l (.cons _ (.cons _ (.cons_cons _ (.cons_cons _ (List.Sublist.append (List.Sublist.refl _) (List.sublist_append_right _ _))))))) _) ⟨_, ⟨p2, hp2, rfl, rfl⟩, rfl⟩ (.inl rfl)
end Go.Proofs.YtfpkefhjomeeeaaGreatDoor

set_option maxRecDepth 100000
namespace Go.Proofs.YtfpkefhjomeeeaaGreatDoor
open Go.AL Go.NumSpec
theorem x_count : ExtOf Tryz.prog 146 Extern.BytealgCount.count := ⟨_, Tryz.func146, by kernel_rfl, by kernel_rfl, by kernel_rfl, by kernel_rfl⟩
theorem strings_Index_ok (s : List UInt8) (c : UInt8) : PCalls Tryz.prog 110 [.S s, .S [c]] (.int .i64 (idxV s c)) := by
 intro st
 refine co 8 Tryz.func110 ?_
 refine AC_seq (AC_region ?_)
 refine ac rfl rfl rfl ?_
 refine AL_nil (AC_seq (AC_region ?_))
 refine mv rfl rfl rfl rfl ?_
 refine mv rfl rfl rfl rfl ?_
 refine p_ (S_pcall rfl (AEvs.cons (.tmp rfl) (AEvs.cons (.tmp rfl) AEvs.nil)) (lite_Index_ok s c)) ?_
 refine as_ rfl rfl rfl rfl ?_
 refine AL_nil (AC_ret ?_)
 refine ret_tmp st rfl rfl (Sub.l (List.Sublist.refl _)) (Conv.refl (Sub.l (List.Sublist.refl _)) _) ⟨rfl, rfl⟩ (.inl rfl)
theorem strings_Count_ok (s : List UInt8) (c : UInt8) : PCalls Tryz.prog 109 [.S s, .S [c]] (.int .i64 ((s.count c : Nat) : Int)) := by
 intro st
 refine co 34 Tryz.func109 ?_
 refine AC_seq (AC_region ?_)
 refine ac rfl rfl rfl ?_
 refine AL_nil ?_
 refine AC_seq ?_
 refine AC_seq (AC_region ?_)
 refine mv rfl rfl rfl rfl ?_
 refine p_ (S_lenS (ts := #[]) rfl (.tmp rfl) (by kernel_rfl)) ?_
 refine p_ (S_eql rfl (.tmp rfl) (AEv.const _)) ?_
 refine AL_nil ?_
 refine AC_cond (.tmp rfl) (fun hb1 => ?_) (fun hb1 => ?_)
 ·simp at hb1; done
 try simp only [zA,zO,zN,zM,zP,zQ,zD,zF,gd] at hb1
 refine AC_skip ?_
 refine AC_seq ?_
 refine AC_seq (AC_region ?_)
 refine mv rfl rfl rfl rfl ?_
 refine p_ (S_lenS (ts := #[]) rfl (.tmp rfl) (by kernel_rfl)) ?_
 refine p_ (S_eql rfl (.tmp rfl) (AEv.const _)) ?_
 refine AL_nil ?_
 refine AC_cond (.tmp rfl) (fun hb2 => ?_) (fun hb2 => ?_)
 ·try simp only [zA,zO,zN,zM,zP,zQ,zD,zF,gd] at hb2
  refine AC_seq (AC_region ?_)
  refine mv rfl rfl rfl rfl ?_
  refine mv rfl rfl rfl rfl ?_
  refine p_ (S_index rfl (.tmp rfl) (AEv.const _) (by kernel_rfl) (by omega) (by omega)) ?_
  refine p_ (S_extL (vals := [.string ⟨s.toArray⟩, .int .u8 (c.toNat : Int)]) rfl (AEvs.cons (.tmp rfl) (AEvs.cons (.tmp rfl) AEvs.nil)) x_count (fun w => run_count w)) ?_
  refine as_ rfl rfl rfl rfl ?_
  refine AL_nil (AC_ret ?_)
  refine ret_tmp st rfl rfl (Sub.l (List.Sublist.refl _)) (Conv.refl (Sub.l (List.Sublist.refl _)) _) ⟨rfl, rfl⟩ (.inl rfl)
 simp at hb2; done
theorem strings_genSplit_ok (s : List UInt8) (c : UInt8) (hs : s.length ≤ 1000000) : PCalls Tryz.prog 73 [.S s, .S [c], .int .i64 0, .int .i64 (-1)] (.sl (strsV (partsB c s))) := by
 intro st
 refine co 66 Tryz.func73 ?_
 have hcl : s.count c ≤ s.length := List.count_le_length
 have hc1 : ([c] : List UInt8).length = 1 := rfl
 refine AC_seq (AC_region ?_)
 refine ac rfl rfl rfl ?_
 refine AL_nil ?_
 refine AC_seq ?_
 refine AC_seq (AC_region ?_)
 refine mv rfl rfl rfl rfl ?_
 refine p_ (S_eql rfl (.tmp rfl) (AEv.const _)) ?_
 refine AL_nil ?_
 refine AC_cond (.tmp rfl) (fun hb1 => ?_) (fun hb1 => ?_)
 ·simp at hb1; done
 try simp only [zA,zO,zN,zM,zP,zQ,zD,zF,gd] at hb1
 refine AC_skip ?_
 refine AC_seq ?_
 refine AC_seq (AC_region ?_)
 refine mv rfl rfl rfl rfl ?_
 refine p_ (S_eqS rfl (.tmp rfl) (AEv.S _)) ?_
 refine AL_nil ?_
 refine AC_cond (.tmp rfl) (fun hb2 => ?_) (fun hb2 => ?_)
 ·simp at hb2; done
 try simp only [zA,zO,zN,zM,zP,zQ,zD,zF,gd] at hb2
 refine AC_skip ?_
 refine AC_joinK (G := Unit) [(0, _), (1, _), (2, _), (8, _)] (fun _ => True) (fun _ => [(3, .int .i64 (((s.count c + 1) : Nat) : Int))]) (fun _ => st) (.cons rfl (Le.refl _) (.cons rfl (Le.refl _) (.cons rfl (Le.refl _) (.cons rfl (Le.refl _) .nil)))) ?_ ?_
 ·refine AC_seq (AC_region ?_)
  refine mv rfl rfl rfl rfl ?_
  refine p_ (S_lss rfl (.tmp rfl) (AEv.const _)) ?_
  refine AL_nil ?_
  refine AC_cond (.tmp rfl) (fun hb3 => ?_) (fun hb3 => ?_)
  ·try simp only [zA,zO,zN,zM,zP,zQ,zD,zF,gd] at hb3
   refine AC_region ?_
   refine mv rfl rfl rfl rfl ?_
   refine mv rfl rfl rfl rfl ?_
   refine p_ (S_pcall rfl (AEvs.cons (.tmp rfl) (AEvs.cons (.tmp rfl) AEvs.nil)) (strings_Count_ok s c)) ?_
   refine p_ (S_addI rfl (.tmp rfl) (AEv.const _) (by omega) (by omega)) ?_
   refine as_ rfl rfl rfl rfl ?_
   refine AL_nil ?_
   exact ⟨(), trivial, Sub.l (List.Sublist.refl _), (.cons rfl (by first | exact Le.refl _ | exact Le.nils | exact Le.row _ _ _ _ | exact Le.of_eq (by first | rfl | (simp; done) | (push_cast; rfl) | (simp; omega))) .nil), (.cons rfl (Le.refl _) (.cons rfl (Le.refl _) (.cons rfl (Le.refl _) (.cons rfl (Le.refl _) .nil))))⟩
  simp at hb3; done
 rintro _ _
 try dsimp only
 simp only [List.cons_append, List.nil_append]
 refine AC_seq (AC_region ?_)
 refine mv rfl rfl rfl rfl ?_
 refine mv rfl rfl rfl rfl ?_
 refine p_ (S_lenS (ts := #[]) rfl (.tmp rfl) (by kernel_rfl)) ?_
 refine p_ (S_addI rfl (.tmp rfl) (AEv.const _) (by omega) (by omega)) ?_
 refine p_ ((S_min rfl (.tmp rfl) (.tmp rfl)).ofV (V' := .int .i64 (((s.count c + 1) : Nat) : Int)) (congrArg (AV.int .i64) (by omega))) ?_
 refine as_ rfl rfl rfl rfl ?_
 refine AL_nil (AC_seq (AC_region ?_))
 refine mv rfl rfl rfl rfl ?_
 refine s_ (S_make1 (e := 9) (bytes := 16) (n := (s.count c + 1)) (z := .string ⟨#[]⟩) rfl (.tmp rfl) (by kernel_rfl) (by kernel_rfl) rfl (by omega) (by omega)) ?_
 rintro _ _ ⟨b9, rfl, rfl⟩
 refine as_ rfl rfl rfl rfl ?_
 refine AL_nil (AC_seq (AC_region ?_))
 refine mv rfl rfl rfl rfl ?_
 refine p_ (S_subI rfl (.tmp rfl) (AEv.const _) (by omega) (by omega)) ?_
 refine as_ rfl rfl rfl rfl ?_
 refine AL_nil (AC_seq (AC_region ?_))
 refine ac rfl rfl rfl ?_
 refine AL_nil ?_
 refine AC_seq ?_
 refine AC_block ?_
 refine AC_loopK (G := List (List UInt8) × List UInt8) [(1, _), (2, _), (3, _), (8, _), (9, _)] (fun g => partsB c s = g.1 ++ partsB c g.2 ∧ g.2.length ≤ s.length) (fun g => [(0, .S g.2), (10, .int .i64 ((g.1.length : Nat) : Int))]) (fun g => (b9, .cells (filling (s.count c + 1) g.1)) :: st) (fun g => g.2.length) (([], s)) (⟨rfl, Nat.le_refl _⟩) (by rw [filling_zero]; exact Sub.l (List.Sublist.refl _)) (.cons rfl (Le.refl _) (.cons rfl (Le.refl _) (.cons rfl (Le.refl _) (.cons rfl (Le.refl _) (.cons rfl (Le.refl _) .nil))))) (.cons rfl (by first | exact Le.refl _ | exact Le.nils | exact Le.row _ _ _ _ | exact Le.of_eq (by first | rfl | (simp; done) | (push_cast; rfl) | (simp; omega))) (.cons rfl (by first | exact Le.refl _ | exact Le.nils | exact Le.row _ _ _ _ | exact Le.of_eq (by first | rfl | (simp; done) | (push_cast; rfl) | (simp; omega))) .nil)) ?_
 rintro ⟨d, r⟩ ⟨hsp, hrl⟩
 try dsimp only
 simp only [List.cons_append, List.nil_append]
 dsimp only at hsp hrl
 refine AC_seq ?_
 refine AC_seq (AC_region ?_)
 refine mv rfl rfl rfl rfl ?_
 refine mv rfl rfl rfl rfl ?_
 refine p_ (S_lss rfl (.tmp rfl) (.tmp rfl)) ?_
 refine AL_nil ?_
 refine AC_cond (.tmp rfl) (fun hb4 => ?_) (fun hb4 => ?_)
 ·try simp only [zA,zO,zN,zM,zP,zQ,zD,zF,gd] at hb4
  have hdl : d.length < s.count c := by omega
  refine AC_skip ?_
  refine AC_block ?_
  refine AC_seq (AC_region ?_)
  refine mv rfl rfl rfl rfl ?_
  refine mv rfl rfl rfl rfl ?_
  refine p_ (S_pcall rfl (AEvs.cons (.tmp rfl) (AEvs.cons (.tmp rfl) AEvs.nil)) (strings_Index_ok r c)) ?_
  refine as_ rfl rfl rfl rfl ?_
  refine AL_nil ?_
  refine AC_seq ?_
  refine AC_seq (AC_region ?_)
  refine mv rfl rfl rfl rfl ?_
  refine p_ (S_lss rfl (.tmp rfl) (AEv.const _)) ?_
  refine AL_nil ?_
  refine AC_cond (.tmp rfl) (fun hb5 => ?_) (fun hb5 => ?_)
  ·try simp only [zA,zO,zN,zM,zP,zQ,zD,zF,gd] at hb5
   have hno : c ∉ r := idxV_neg.1 hb5
   have hd : d.length = s.count c := by
    have h1 := parts_count c s
    rw [hsp, List.length_append, split_none hno] at h1
    simp only [List.length_cons, List.length_nil] at h1
    omega
   rw [split_none hno] at hsp
   refine AC_exit ?_
   refine AC_seq (AC_region ?_)
   refine mv rfl rfl rfl rfl ?_
   refine mv rfl rfl rfl rfl ?_
   refine mv rfl rfl rfl rfl ?_
   refine p_ (S_elemO (e := 9) 1 rfl (.tmp rfl) (.tmp rfl) (by kernel_rfl) (by kernel_rfl) (by omega) (by omega)) ?_
   refine s_ (S_store (c := .S r) 0 rfl (.tmp rfl) (.tmp rfl) rfl (by rw [filling_len (by omega)]; omega) rfl (by kernel_rfl)) ?_
   rintro _ _ ⟨rfl, rfl⟩
   refine AL_nil (AC_seq (AC_region ?_))
   refine mv rfl rfl rfl rfl ?_
   refine mv rfl rfl rfl rfl ?_
   refine p_ (S_addI rfl (.tmp rfl) (AEv.const _) (by omega) (by omega)) ?_
   refine p_ (S_cutOH (e := 9) (j := d.length + 1) 1 rfl (.tmp rfl) ((AEv.tmp rfl).le (Le.of_eq (congrArg (AV.int _) (by omega)))) (by kernel_rfl) (by kernel_rfl) (by omega)) ?_
   refine as_ rfl rfl rfl rfl ?_
   refine AL_nil (AC_ret ?_)
   refine ret_tmp st rfl rfl (Sub.l (List.Sublist.cons _ (List.Sublist.refl _))) (y := .sl (strsV (d ++ [r]))) ?_ ⟨by rw [hsp], rfl⟩ (.inl rfl)
   refine Conv.nd fun hnd => ?_
   have hfl : (filling (s.count c + 1) d).set (0 + ((d.length : Nat) : Int).toNat * 1) (.S r) = vec1C (s.count c + 1) (strsV (d ++ [r])) := by rw [filling_set (by omega), filling_full (by simp [hd])]
   have hv := Conv.vec1 (st := (b9, Ob.cells (vec1C (s.count c + 1) (strsV (d ++ [r])))) :: st) (st' := st) (b := b9) (cap := (s.count c + 1)) (xs := strsV (d ++ [r])) (Sub.l (List.Sublist.cons _ (List.Sublist.refl _))) (by simp [strsV, hd]) (fun x hx => by obtain ⟨y, _, rfl⟩ := List.mem_map.1 hx; rfl) List.mem_cons_self (fun o ho => by
    simp only [List.set_cons_zero, List.map_cons, List.nodup_cons] at hnd
    exact hnd.1 (List.mem_map_of_mem (f := Prod.fst) ho))
   rw [← hfl] at hv
   rw [show d.length + 1 = (strsV (d ++ [r])).length by simp [strsV]]
   exact hv
  try simp only [zA,zO,zN,zM,zP,zQ,zD,zF,gd] at hb5
  have hin : c ∈ r := Classical.byContradiction fun h => hb5 (idxV_neg.2 h)
  have hix := idxV_hit hin
  have hlt := head_lt hin
  refine AC_skip ?_
  refine AC_seq (AC_region ?_)
  refine mv rfl rfl rfl rfl ?_
  refine mv rfl rfl rfl rfl ?_
  refine mv rfl rfl rfl rfl ?_
  refine mv rfl rfl rfl rfl ?_
  refine mv rfl rfl rfl rfl ?_
  refine p_ (S_addI rfl (.tmp rfl) (.tmp rfl) (by omega) (by omega)) ?_
  refine p_ ((S_sliceH rfl (.tmp rfl) (.tmp rfl) (by kernel_rfl) (by omega) (by omega)).ofV (V' := .S (headB c r)) (congrArg AV.S (by rw [show (idxV r c + 0).toNat = (headB c r).length by rw [idxV_hit hin]; omega]; exact take_head))) ?_
  refine p_ (S_elemO (e := 9) 1 rfl (.tmp rfl) (.tmp rfl) (by kernel_rfl) (by kernel_rfl) (by omega) (by omega)) ?_
  refine s_ (S_store (c := .S (headB c r)) 0 rfl (.tmp rfl) (.tmp rfl) rfl (by rw [filling_len (by omega)]; omega) rfl (by kernel_rfl)) ?_
  rintro _ _ ⟨rfl, rfl⟩
  refine AL_nil (AC_seq (AC_region ?_))
  refine mv rfl rfl rfl rfl ?_
  refine mv rfl rfl rfl rfl ?_
  refine mv rfl rfl rfl rfl ?_
  refine p_ (S_lenS (ts := #[]) rfl (.tmp rfl) (by kernel_rfl)) ?_
  refine p_ (S_addI rfl (.tmp rfl) (.tmp rfl) (by omega) (by omega)) ?_
  refine p_ ((S_sliceL rfl (.tmp rfl) (.tmp rfl) (by kernel_rfl) (by simp; omega) (by simp; omega)).ofV (V' := .S (restB c r)) (congrArg AV.S (by rw [show (idxV r c + ((([c] : List UInt8).length : Nat) : Int)).toNat = (headB c r).length + 1 by rw [idxV_hit hin]; simp]))) ?_
  refine as_ rfl rfl rfl rfl ?_
  refine AL_nil ?_
  refine AC_region ?_
  refine mv rfl rfl rfl rfl ?_
  refine p_ (S_addI rfl (.tmp rfl) (AEv.const _) (by omega) (by omega)) ?_
  refine as_ rfl rfl rfl rfl ?_
  refine AL_nil ?_
  rw [split_hit hin] at hsp
  have hlt := head_lt hin
  refine ⟨(d ++ [headB c r], restB c r), ⟨by dsimp only; rw [hsp]; simp, by dsimp only; rw [List.length_drop]; omega⟩, by dsimp only; rw [List.length_drop]; omega, ?_, (.cons rfl (Le.of_eq (congrArg AV.S (by simp [restB]))) (.cons rfl (Le.of_eq (congrArg (AV.int .i64) (by simp))) .nil)), (.cons rfl (Le.refl _) (.cons rfl (Le.refl _) (.cons rfl (Le.refl _) (.cons rfl (Le.refl _) (.cons rfl (Le.refl _) .nil)))))⟩
  dsimp only
  rw [← filling_set (by omega)]
  exact Sub.l (List.Sublist.refl _)
 try simp only [zA,zO,zN,zM,zP,zQ,zD,zF,gd] at hb4
 have hno : c ∉ r := by
  have h1 := parts_count c s
  have h2 := parts_count c r
  rw [hsp, List.length_append] at h1
  exact count_none (by omega)
 have hd : d.length = s.count c := by
  have h1 := parts_count c s
  rw [hsp, List.length_append, split_none hno] at h1
  simp only [List.length_cons, List.length_nil] at h1
  omega
 rw [split_none hno] at hsp
 refine AC_exit ?_
 refine AC_seq (AC_region ?_)
 refine mv rfl rfl rfl rfl ?_
 refine mv rfl rfl rfl rfl ?_
 refine mv rfl rfl rfl rfl ?_
 refine p_ (S_elemO (e := 9) 1 rfl (.tmp rfl) (.tmp rfl) (by kernel_rfl) (by kernel_rfl) (by omega) (by omega)) ?_
 refine s_ (S_store (c := .S r) 0 rfl (.tmp rfl) (.tmp rfl) rfl (by rw [filling_len (by omega)]; omega) rfl (by kernel_rfl)) ?_
 rintro _ _ ⟨rfl, rfl⟩
 refine AL_nil (AC_seq (AC_region ?_))
 refine mv rfl rfl rfl rfl ?_
 refine mv rfl rfl rfl rfl ?_
 refine p_ (S_addI rfl (.tmp rfl) (AEv.const _) (by omega) (by omega)) ?_
 refine p_ (S_cutOH (e := 9) (j := d.length + 1) 1 rfl (.tmp rfl) ((AEv.tmp rfl).le (Le.of_eq (congrArg (AV.int _) (by omega)))) (by kernel_rfl) (by kernel_rfl) (by omega)) ?_
 refine as_ rfl rfl rfl rfl ?_
 refine AL_nil (AC_ret ?_)
 refine ret_tmp st rfl rfl (Sub.l (List.Sublist.cons _ (List.Sublist.refl _))) (y := .sl (strsV (d ++ [r]))) ?_ ⟨by rw [hsp], rfl⟩ (.inl rfl)
 refine Conv.nd fun hnd => ?_
 have hfl : (filling (s.count c + 1) d).set (0 + ((d.length : Nat) : Int).toNat * 1) (.S r) = vec1C (s.count c + 1) (strsV (d ++ [r])) := by rw [filling_set (by omega), filling_full (by simp [hd])]
 have hv := Conv.vec1 (st := (b9, Ob.cells (vec1C (s.count c + 1) (strsV (d ++ [r])))) :: st) (st' := st) (b := b9) (cap := (s.count c + 1)) (xs := strsV (d ++ [r])) (Sub.l (List.Sublist.cons _ (List.Sublist.refl _))) (by simp [strsV, hd]) (fun x hx => by obtain ⟨y, _, rfl⟩ := List.mem_map.1 hx; rfl) List.mem_cons_self (fun o ho => by
  simp only [List.set_cons_zero, List.map_cons, List.nodup_cons] at hnd
  exact hnd.1 (List.mem_map_of_mem (f := Prod.fst) ho))
 rw [← hfl] at hv
 rw [show d.length + 1 = (strsV (d ++ [r])).length by simp [strsV]]
 exact hv
theorem strings_Split_ok (s : List UInt8) (c : UInt8) (hs : s.length ≤ 1000000) : PCalls Tryz.prog 37 [.S s, .S [c]] (.sl (strsV (partsB c s))) := by
 intro st
 refine co 8 Tryz.func37 ?_
 refine AC_seq (AC_region ?_)
 refine ac rfl rfl rfl ?_
 refine AL_nil (AC_seq (AC_region ?_))
 refine mv rfl rfl rfl rfl ?_
 refine mv rfl rfl rfl rfl ?_
 refine p_ (S_pcall rfl (AEvs.cons (.tmp rfl) (AEvs.cons (.tmp rfl) (AEvs.cons (AEv.const _) (AEvs.cons (AEv.const _) AEvs.nil)))) (strings_genSplit_ok s c hs)) ?_
 refine as_ rfl rfl rfl rfl ?_
 refine AL_nil (AC_ret ?_)
 refine ret_tmp st rfl rfl (Sub.l (List.Sublist.refl _)) (Conv.refl (Sub.l (List.Sublist.refl _)) _) ⟨rfl, rfl⟩ (.inl rfl)
theorem WriteByte_ok (b : Nat) (u : Bool) (q : Buf) (l : List UInt8) (c : UInt8) (T m : Nat) (post : List AV) (hq : q.ok l) (hlen : l.length + 1 ≤ 140737488355328) (hm : 0 < m) (hl : liesAt Tryz.prog Tryz.prog.depth T (m / Tryz.prog.cellsOf T) 0 145 1 = true) (F : St) : ACalls Tryz.prog 79 [.ptr b 0, byteV c] (((b, .cells (addrB u b T m :: bufAV q (l) :: post)) :: bufSt q 5 (l)) ++ F) (fun x st' => ∃ foot', (∃ q' : Buf, q'.ok (l ++ [c]) ∧ x = .nili ∧ foot' = (b, .cells (.ptr b 0 :: bufAV q' (l ++ [c]) :: post)) :: bufSt q' 5 (l ++ [c])) ∧ st' = foot' ++ F) := by
 refine co 17 Tryz.func79 ?_
 refine AC_seq (AC_region ?_)
 refine ac rfl rfl rfl ?_
 refine AL_nil (AC_seq (AC_region ?_))
 refine mv rfl rfl rfl rfl ?_
 refine s_ (S_call rfl (AEvs.cons (.tmp rfl) AEvs.nil) (copyCheck_ok u b T m _ hm hl _)) ?_
 rintro _ _ ⟨rfl, rfl⟩
 refine AL_nil (AC_seq (AC_region ?_))
 refine mv rfl rfl rfl rfl ?_
 refine mv rfl rfl rfl rfl ?_
 refine p_ (S_nilCheck rfl (.tmp rfl)) ?_
 refine fl 1 ?_
 refine ld 0 ?_
 refine mv rfl rfl rfl rfl ?_
 refine p_ (S_buildSlice (e := 5) 1 rfl (AEvs.cons (.tmp rfl) AEvs.nil) rfl (by kernel_rfl) (by kernel_rfl) (by simp [AV.flat, AV.one, AV.cells, Value.oneCell']) (by decide) (by decide) (by decide)) ?_
 refine s_ (S_appendByte (q := q) (l := l) (c := c) (e := 5) [(b, _)] F rfl (.tmp rfl) (.tmp rfl) rfl hq (by kernel_rfl) hlen) ?_
 rintro _ _ ⟨q2, hq2, rfl, rfl⟩
 refine p_ (S_nilCheck rfl (.tmp rfl)) ?_
 refine fl 1 ?_
 refine s_ (S_store 0 rfl (.tmp rfl) (.tmp rfl) rfl (by first | exact Nat.le_of_ble_eq_true rfl | simp) (bufAV_one _ _) (by kernel_rfl)) ?_
 rintro _ _ ⟨rfl, rfl⟩
 refine AL_nil (AC_seq (AC_region ?_))
 refine ac rfl rfl rfl ?_
 refine AL_nil (AC_ret ?_)
 refine ret_tmp (((b, .cells (.ptr b 0 :: bufAV q2 (l ++ [c]) :: post)) :: bufSt q2 5 (l ++ [c])) ++ F) rfl rfl (Sub.l (List.Sublist.refl _)) (Conv.refl (Sub.l (List.Sublist.refl _)) _) ⟨_, ⟨q2, hq2, rfl, rfl⟩, rfl⟩ (.inl rfl)
end Go.Proofs.YtfpkefhjomeeeaaGreatDoor

set_option maxRecDepth 100000
namespace Go.Proofs.YtfpkefhjomeeeaaGreatDoor
open Go.AL Go.NumSpec
theorem scr_Right_ok (e : Ent) (hn : e.n.length ≤ 1000000) : GCalls Tryz.prog tabs 19 [entAV e] (.bool (rightB e)) := by
 intro st hG
 refine co 63 Tryz.func19 ?_
 refine AC_seq (AC_region ?_)
 refine s_ (S_box rfl (.tmp rfl)) ?_
 rintro _ _ ⟨b1, rfl, rfl⟩
 refine ac rfl rfl rfl ?_
 refine AL_nil ?_
 refine AC_seq ?_
 refine AC_seq ?_
 refine AC_draw (by kernel_rfl) (by kernel_rfl) (.cons rfl (Q_p rfl (S_field 0 rfl (.tmp rfl) (by kernel_rfl))) <|
   .cons rfl (Q_p rfl (S_load 0 rfl (.tmp rfl) rfl rfl (by kernel_rfl))) <|
   .cons rfl (Q_p rfl (S_lss rfl (.tmp rfl) (AEv.const _))) <|
   .cons rfl (Q_p rfl (S_move rfl (.tmp rfl))) <|
   .cons rfl (Q_g rfl rfl (.tmp rfl) (fun hg2 => S_field 0 rfl (.tmp rfl) (by kernel_rfl))) <|
   .cons rfl (Q_g rfl rfl (.tmp rfl) (fun hg5 => S_load 0 rfl (AEv.cd (.tmp rfl)) rfl rfl (by kernel_rfl))) <|
   .cons rfl (Q_g rfl rfl (.tmp rfl) (fun hg8 => S_geq rfl (AEv.cd (.tmp rfl)) (AEv.const _))) <|
   .cons rfl (Q_p rfl (S_or rfl (.tmp rfl) (fun hp11 => (AEv.cd (.tmp rfl))))) <|
   .cons rfl (Q_p rfl (S_move rfl (.tmp rfl))) <|
   .cons rfl (Q_g rfl rfl (.tmp rfl) (fun hg12 => S_field 1 rfl (.tmp rfl) (by kernel_rfl))) <|
   .cons rfl (Q_g rfl rfl (.tmp rfl) (fun hg15 => S_load 0 rfl (AEv.cd (.tmp rfl)) rfl rfl (by kernel_rfl))) <|
   .cons rfl (Q_g rfl rfl (.tmp rfl) (fun hg18 => by first | exact S_lenM (e := 3) rfl (AEv.cd (.tmp rfl)) (by kernel_rfl) | exact S_len (e := 3) rfl (AEv.cd (.tmp rfl)) (by kernel_rfl))) <|
   .cons rfl (Q_g rfl rfl (.tmp rfl) (fun hg21 => S_field 0 rfl (.tmp rfl) (by kernel_rfl))) <|
   .cons rfl (Q_g rfl rfl (.tmp rfl) (fun hg24 => S_load 0 rfl (AEv.cd (.tmp rfl)) rfl rfl (by kernel_rfl))) <|
   .cons rfl (Q_g rfl rfl (.tmp rfl) (fun hg27 => S_elemA (e := 92) (len := 24) (i := e.verb) 3 rfl (AEv.global _) (AEv.cd (.tmp rfl)) (by kernel_rfl) (by kernel_rfl) (by (try simp only [gd, Bool.and_eq_true, Bool.or_eq_true, Bool.not_eq_true', Bool.not_eq_false', decide_eq_true_eq, decide_eq_false_iff_not, Bool.or_eq_false_iff, Bool.and_eq_false_iff] at *); omega) (by (try simp only [gd, Bool.and_eq_true, Bool.or_eq_true, Bool.not_eq_true', Bool.not_eq_false', decide_eq_true_eq, decide_eq_false_iff_not, Bool.or_eq_false_iff, Bool.and_eq_false_iff] at *); omega))) <|
   .cons rfl (Q_g rfl rfl (.tmp rfl) (fun hg30 => S_field 1 rfl (AEv.cd (.tmp rfl)) (by kernel_rfl))) <|
   .cons rfl (Q_g rfl rfl (.tmp rfl) (fun hg33 => S_loadK (vs := verbsV) (u := .int .i64 (verbA e.verb.toNat).2.1) rfl (AEv.cd (.tmp rfl)) (List.mem_cons_of_mem _ (hG _ tab_verbs)) (verbs_num (by (try simp only [gd, Bool.and_eq_true, Bool.or_eq_true, Bool.not_eq_true', Bool.not_eq_false', decide_eq_true_eq, decide_eq_false_iff_not, Bool.or_eq_false_iff, Bool.and_eq_false_iff] at *); omega) (by (try simp only [gd, Bool.and_eq_true, Bool.or_eq_true, Bool.not_eq_true', Bool.not_eq_false', decide_eq_true_eq, decide_eq_false_iff_not, Bool.or_eq_false_iff, Bool.and_eq_false_iff] at *); omega)) (by kernel_rfl))) <|
   .cons rfl (Q_g rfl rfl (.tmp rfl) (fun hg36 => S_neq rfl (AEv.cd (.tmp rfl)) (AEv.cd (.tmp rfl)))) <|
   .cons rfl (Q_p rfl (S_or rfl (.tmp rfl) (fun hp39 => (AEv.cd (.tmp rfl))))) <|
   .nil) ?_
 refine AC_cond (.tmp rfl) (fun hb40 => ?_) (fun hb40 => ?_)
 ·try simp only [zA,zO,zN,zM,zP,zQ,zD,zF,gd] at hb40
  have hx := right_no (e := e) (by omega)
  refine AC_seq (AC_region ?_)
  refine ac rfl rfl rfl ?_
  refine AL_nil (AC_ret ?_)
  refine ret_tmp st rfl rfl (Sub.l (List.sublist_cons_self _ _)) (Conv.refl (Sub.l (List.sublist_cons_self _ _)) _) ⟨by rw [hx], rfl⟩ (.inl rfl)
 try simp only [zA,zO,zN,zM,zP,zQ,zD,zF,gd] at hb40
 have hv1 : 1 ≤ e.verb := by omega
 have hv2 : e.verb < 24 := by omega
 have hv3 : (e.n.length : Int) = (verbA e.verb.toNat).2.1 := by omega
 refine AC_skip ?_
 refine AC_seq ?_
 refine AC_seq (AC_region ?_)
 refine fl 1 ?_
 refine ld 0 ?_
 refine p_ (by first | exact S_lenM (e := 3) rfl (.tmp rfl) (by kernel_rfl) | exact S_len (e := 3) rfl (.tmp rfl) (by kernel_rfl)) ?_
 refine p_ (S_move rfl (AEv.const _)) ?_
 refine AL_nil ?_
 refine AC_block ?_
 refine AC_loopK (G := Nat) [(1, _), (25, _), (26, _)] (fun g => g ≤ e.n.length ∧ ∀ j (hj : j < e.n.length), j < g → 0 ≤ e.n[j] ∧ e.n[j] ≤ 1073741824) (fun g => [(27, .int .i64 (g : Int))]) (fun g => (b1, .cells (entL e)) :: st) (fun g => e.n.length - g) (0) (⟨Nat.zero_le _, fun j _ h => absurd h (Nat.not_lt_zero _)⟩) (Sub.l (List.Sublist.refl _)) (.cons rfl (Le.refl _) (.cons rfl (Le.refl _) (.cons rfl (Le.refl _) .nil))) (.cons rfl (by first | exact Le.refl _ | exact Le.nils | exact Le.row _ _ _ _ | exact Le.of_eq (by first | rfl | (simp; done) | (push_cast; rfl) | (simp; omega))) .nil) ?_
 rintro i ⟨hi, hall⟩
 try dsimp only
 simp only [List.cons_append, List.nil_append]
 refine AC_seq (AC_region ?_)
 refine p_ (S_lss rfl (.tmp rfl) (.tmp rfl)) ?_
 refine AL_nil ?_
 refine AC_seq ?_
 refine AC_cond (.tmp rfl) (fun hb41 => ?_) (fun hb41 => ?_)
 ·try simp only [zA,zO,zN,zM,zP,zQ,zD,zF,gd] at hb41
  have hil : i < e.n.length := by omega
  refine AC_skip ?_
  refine AC_seq ?_
  refine AC_block ?_
  refine AC_seq (AC_region ?_)
  refine p_ (S_elemN (e := 3) 1 rfl (.tmp rfl) (.tmp rfl) (by kernel_rfl) (by kernel_rfl) (by omega) (fun _ => rfl)) ?_
  refine p_ (S_loadP rfl (.tmp rfl) rfl (by kernel_rfl)) ?_
  refine as_ rfl rfl rfl rfl ?_
  refine AL_nil (AC_seq (AC_region ?_))
  refine mv rfl rfl rfl rfl ?_
  refine p_ (S_lss rfl (.tmp rfl) (AEv.const _)) ?_
  refine mv rfl rfl rfl rfl ?_
  refine g_ (fun _ => mA) ?_
  refine g_ (fun _ => S_gtr rfl (AEv.cd (.tmp rfl)) (AEv.const _)) ?_
  refine p_ (S_or rfl (.tmp rfl) (fun hp48 => (AEv.cd (.tmp rfl)))) ?_
  refine AL_nil ?_
  refine AC_cond (.tmp rfl) (fun hb49 => ?_) (fun hb49 => ?_)
  ·try simp only [zA,zO,zN,zM,zP,zQ,zD,zF,gd] at hb49
   have hx := right_num hil (by omega)
   refine AC_seq (AC_region ?_)
   refine ac rfl rfl rfl ?_
   refine AL_nil (AC_ret ?_)
   refine ret_tmp st rfl rfl (Sub.l (List.sublist_cons_self _ _)) (Conv.refl (Sub.l (List.sublist_cons_self _ _)) _) ⟨by rw [hx], rfl⟩ (.inl rfl)
  try simp only [zA,zO,zN,zM,zP,zQ,zD,zF,gd] at hb49
  have hin : 0 ≤ e.n[i] ∧ e.n[i] ≤ 1073741824 := by omega
  refine AC_skip ?_
  refine AC_region ?_
  refine p_ (S_addI rfl (.tmp rfl) (AEv.const _) (by omega) (by omega)) ?_
  refine mv rfl rfl rfl rfl ?_
  refine AL_nil ?_
  exact ⟨i + 1, ⟨by omega, fun j hj h => by
   rcases Nat.lt_or_ge j i with h9 | h9
   ·exact hall j hj h9
   ·have e9 : j = i := by omega
    subst e9; exact hin⟩, by omega, (Sub.l (List.Sublist.refl _)), (.cons rfl (by first | exact Le.refl _ | exact Le.nils | exact Le.row _ _ _ _ | exact Le.of_eq (by first | rfl | (simp; done) | (push_cast; rfl) | (simp; omega))) .nil), (.cons rfl (Le.refl _) (.cons rfl (Le.refl _) (.cons rfl (Le.refl _) .nil)))⟩
 try simp only [zA,zO,zN,zM,zP,zQ,zD,zF,gd] at hb41
 have hx := right_yes hv1 hv2 hv3 fun j hj => hall j hj (by omega)
 refine AC_exit ?_
 refine AC_seq ?_
 refine AC_seq (AC_region ?_)
 refine fl 0 ?_
 refine ld 0 ?_
 refine p_ (S_elemA (e := 92) (len := 24) (i := e.verb) 3 rfl (AEv.global _) (.tmp rfl) (by kernel_rfl) (by kernel_rfl) (by omega) (by omega)) ?_
 refine fl 2 ?_
 refine p_ (S_loadK (vs := verbsV) (u := .int .i64 (verbA e.verb.toNat).2.2) rfl (.tmp rfl) (List.mem_cons_of_mem _ (hG _ tab_verbs)) (verbs_data (by omega) (by omega)) (by kernel_rfl)) ?_
 refine AL_nil ?_
 refine AC_block ?_
 refine AC_seq (AC_region ?_)
 refine p_ (S_eql rfl (.tmp rfl) (AEv.const _)) ?_
 refine as_ rfl rfl rfl rfl ?_
 refine AL_nil ?_
 refine AC_cond (.tmp rfl) (fun hb50 => ?_) (fun hb50 => ?_)
 ·try simp only [zA,zO,zN,zM,zP,zQ,zD,zF,gd] at hb50
  have hk : (verbA e.verb.toNat).2.2 = 1 := hb50
  rw [dataB, if_pos hk] at hx
  refine AC_seq (AC_region ?_)
  refine fl 2 ?_
  refine ld 0 ?_
  refine p_ (S_neS rfl (.tmp rfl) (AEv.S _)) ?_
  refine mv rfl rfl rfl rfl ?_
  refine g_ (fun _ => fA 2) ?_
  refine g_ (fun _ => lA 0) ?_
  refine g_ (fun _ => S_lenS (ts := #[]) rfl (AEv.cd (.tmp rfl)) (by kernel_rfl)) ?_
  refine g_ (fun _ => S_leq rfl (AEv.cd (.tmp rfl)) (AEv.const _)) ?_
  refine an ?_
  refine as_ rfl rfl rfl rfl ?_
  refine AL_nil (AC_ret ?_)
  refine ret_tmp st rfl rfl (Sub.l (List.sublist_cons_self _ _)) (Conv.refl (Sub.l (List.sublist_cons_self _ _)) _) ⟨congrArg AV.bool (by rw [hx]; simp), rfl⟩ (.inl rfl)
 try simp only [zA,zO,zN,zM,zP,zQ,zD,zF,gd] at hb50
 have hk1 : ¬ (verbA e.verb.toNat).2.2 = 1 := hb50
 refine AC_seq (AC_region ?_)
 refine p_ (S_eql rfl (.tmp rfl) (AEv.const _)) ?_
 refine as_ rfl rfl rfl rfl ?_
 refine AL_nil ?_
 refine AC_cond (.tmp rfl) (fun hb64 => ?_) (fun hb64 => ?_)
 ·try simp only [zA,zO,zN,zM,zP,zQ,zD,zF,gd] at hb64
  have hk : (verbA e.verb.toNat).2.2 = 2 := hb64
  rw [dataB, if_neg hk1, if_pos hk] at hx
  refine AC_seq (AC_region ?_)
  refine fl 2 ?_
  refine ld 0 ?_
  refine p_ (S_gcall rfl (AEvs.cons (.tmp rfl) AEvs.nil) ((text_Name_ok e.data) _ (fun p hp => by first | exact hG p hp | exact List.mem_cons_of_mem _ (hG p hp)))) ?_
  refine p_ (S_eql rfl (.tmp rfl) (AEv.const _)) ?_
  refine as_ rfl rfl rfl rfl ?_
  refine AL_nil (AC_ret ?_)
  refine ret_tmp st rfl rfl (Sub.l (List.sublist_cons_self _ _)) (Conv.refl (Sub.l (List.sublist_cons_self _ _)) _) ⟨congrArg AV.bool (by rw [hx]; simp [saysV]), rfl⟩ (.inl rfl)
 try simp only [zA,zO,zN,zM,zP,zQ,zD,zF,gd] at hb64
 have hk2 : ¬ (verbA e.verb.toNat).2.2 = 2 := hb64
 rw [dataB, if_neg hk1, if_neg hk2] at hx
 refine AC_skip ?_
 refine AC_seq (AC_region ?_)
 refine fl 2 ?_
 refine ld 0 ?_
 refine p_ (S_eqS rfl (.tmp rfl) (AEv.S _)) ?_
 refine as_ rfl rfl rfl rfl ?_
 refine AL_nil (AC_ret ?_)
 refine ret_tmp st rfl rfl (Sub.l (List.sublist_cons_self _ _)) (Conv.refl (Sub.l (List.sublist_cons_self _ _)) _) ⟨congrArg AV.bool (by rw [hx]), rfl⟩ (.inl rfl)
theorem law45_light_ok (e : Ent) : PCalls Tryz.prog 5 [entAV e] (.bool (decide ((e.n.length : Int) ≤ 20) && decide ((e.data.length : Int) ≤ 1200))) := by
 intro st
 refine co 13 Tryz.func5 ?_
 refine AC_seq (AC_region ?_)
 refine s_ (S_box rfl (.tmp rfl)) ?_
 rintro _ _ ⟨b1, rfl, rfl⟩
 refine ac rfl rfl rfl ?_
 refine AL_nil (AC_seq (AC_region ?_))
 refine fl 1 ?_
 refine ld 0 ?_
 refine p_ (by first | exact S_lenM (e := 3) rfl (.tmp rfl) (by kernel_rfl) | exact S_len (e := 3) rfl (.tmp rfl) (by kernel_rfl)) ?_
 refine p_ (S_leq rfl (.tmp rfl) (AEv.const _)) ?_
 refine mv rfl rfl rfl rfl ?_
 refine g_ (fun _ => fA 2) ?_
 refine g_ (fun _ => lA 0) ?_
 refine g_ (fun _ => S_lenS (ts := #[]) rfl (AEv.cd (.tmp rfl)) (by kernel_rfl)) ?_
 refine g_ (fun _ => S_leq rfl (AEv.cd (.tmp rfl)) (AEv.const _)) ?_
 refine an ?_
 refine as_ rfl rfl rfl rfl ?_
 refine AL_nil (AC_ret ?_)
 refine ret_tmp st rfl rfl (Sub.l (List.sublist_cons_self _ _)) (Conv.refl (Sub.l (List.sublist_cons_self _ _)) _) ⟨rfl, rfl⟩ (.inl rfl)
theorem law45_To_ok (e : Ent) : PCalls Tryz.prog 8 [entAV e] (entAV e) := by
 intro st
 refine co 10 Tryz.func8 ?_
 refine AC_seq (AC_region ?_)
 refine s_ (S_box rfl (.tmp rfl)) ?_
 rintro _ _ ⟨b1, rfl, rfl⟩
 refine s_ (S_alloc [.int .i64 0, .slice none 0 0, .string ⟨#[]⟩] rfl (by kernel_rfl)) ?_
 rintro _ _ ⟨b2, rfl, rfl⟩
 refine AL_nil (AC_seq (AC_region ?_))
 refine fl 0 ?_
 refine ld 1 ?_
 refine fl 1 ?_
 refine ld 1 ?_
 refine fl 2 ?_
 refine ld 1 ?_
 refine p_ (S_build (t := 36) (pl := [(0, 1), (1, 1), (2, 1)]) (zs := [.int .i64 0, .slice none 0 0, .string ⟨#[]⟩]) rfl (AEvs.cons (.tmp rfl) (AEvs.cons (.tmp rfl) (AEvs.cons (.tmp rfl) AEvs.nil))) (by kernel_rfl) rfl) ?_
 refine stW 0 ?_
 refine AL_nil (AC_ret ?_)
 refine ret_cell 0 st rfl rfl rfl (by kernel_rfl) (Sub.l ((List.sublist_cons_self _ _).trans (List.sublist_cons_self _ _))) (Conv.refl (Sub.l ((List.sublist_cons_self _ _).trans (List.sublist_cons_self _ _))) _) ⟨rfl, rfl⟩ (.inl rfl)
end Go.Proofs.YtfpkefhjomeeeaaGreatDoor

set_option maxRecDepth 100000
namespace Go.Proofs.YtfpkefhjomeeeaaGreatDoor
open Go.AL Go.NumSpec
theorem strings_IndexByte_ok (s : List UInt8) (c : UInt8) : PCalls Tryz.prog 111 [.S s, .int .u8 (c.toNat : Int)] (.int .i64 (idxV s c)) := by
 intro st
 refine co 8 Tryz.func111 ?_
 refine AC_seq (AC_region ?_)
 refine ac rfl rfl rfl ?_
 refine AL_nil (AC_seq (AC_region ?_))
 refine mv rfl rfl rfl rfl ?_
 refine mv rfl rfl rfl rfl ?_
 refine p_ (S_pcall rfl (AEvs.cons (.tmp rfl) (AEvs.cons (.tmp rfl) AEvs.nil)) (lite_IndexByte_ok s c)) ?_
 refine as_ rfl rfl rfl rfl ?_
 refine AL_nil (AC_ret ?_)
 refine ret_tmp st rfl rfl (Sub.l (List.Sublist.refl _)) (Conv.refl (Sub.l (List.Sublist.refl _)) _) ⟨rfl, rfl⟩ (.inl rfl)
theorem toHex_ok (s : List UInt8) (hs : s.length ≤ 1000000) : PCalls Tryz.prog 43 [.S s] (.S (toHexL s)) := by
 intro st
 refine co 24 Tryz.func43 ?_
 refine AC_seq (AC_region ?_)
 refine p_ (S_assign rfl (AEv.S _)) ?_
 refine AL_nil (AC_seq (AC_region ?_))
 refine s_ (S_allocB (e := 145) [.slice none 0 0] rfl (by kernel_rfl)) ?_
 rintro _ _ ⟨b3, rfl, rfl⟩
 refine AL_nil ?_
 refine AC_seq ?_
 refine AC_seq (AC_region ?_)
 refine mv rfl rfl rfl rfl ?_
 refine p_ (S_lenS (ts := #[]) rfl (.tmp rfl) (by kernel_rfl)) ?_
 refine p_ (S_move rfl (AEv.const _)) ?_
 refine AL_nil ?_
 refine AC_block ?_
 refine AC_loopK (G := Nat × Bool × Buf) [(0, _), (2, _), (3, _), (6, _)] (fun g => g.1 ≤ s.length ∧ g.2.2.ok (toHexL (s.take g.1))) (fun g => [(7, .int .i64 (g.1 : Int))]) (fun g => (b3, .cells (addrB g.2.1 b3 145 2 :: bufAV g.2.2 (toHexL (s.take g.1)) :: [])) :: (bufSt g.2.2 5 (toHexL (s.take g.1)) ++ st)) (fun g => s.length - g.1) ((0, false, .nil)) (⟨Nat.zero_le _, rfl⟩) (Sub.l (List.Sublist.refl _)) (.cons rfl (Le.refl _) (.cons rfl (Le.refl _) (.cons rfl (Le.refl _) (.cons rfl (Le.refl _) .nil)))) (.cons rfl (by first | exact Le.refl _ | exact Le.nils | exact Le.row _ _ _ _ | exact Le.of_eq (by first | rfl | (simp; done) | (push_cast; rfl) | (simp; omega))) .nil) ?_
 rintro ⟨i, u, q⟩ ⟨hi, hq⟩
 try dsimp only
 simp only [List.cons_append, List.nil_append]
 dsimp only at hi hq
 refine AC_seq (AC_region ?_)
 refine p_ (S_lss rfl (.tmp rfl) (.tmp rfl)) ?_
 refine AL_nil ?_
 refine AC_seq ?_
 refine AC_cond (.tmp rfl) (fun hb1 => ?_) (fun hb1 => ?_)
 ·try simp only [zA,zO,zN,zM,zP,zQ,zD,zF,gd] at hb1
  have hil : i < s.length := by omega
  have hc := (s[i]'hil).toNat_lt
  refine AC_skip ?_
  refine AC_seq ?_
  refine AC_block ?_
  refine AC_seq (AC_region ?_)
  refine mv rfl rfl rfl rfl ?_
  refine as_ rfl rfl rfl rfl ?_
  refine AL_nil (AC_seq (AC_region ?_))
  refine mv rfl rfl rfl rfl ?_
  refine mv rfl rfl rfl rfl ?_
  refine p_ ((S_index rfl (.tmp rfl) (.tmp rfl) (by kernel_rfl) (by omega) (by omega)).ofV (V' := .int .u8 ((s[i]'hil).toNat : Int)) (congrArg (AV.int .u8) (by first | exact atL_get hil | (rw [show (((2 * b.length : Nat) : Int) + 1) = ((2 * b.length + 1 : Nat) : Int) by omega]; exact atL_get hil)))) ?_
  refine p_ ((S_shift rfl (by simp) (.tmp rfl) (AEv.const _) (shift_shr _ _ _ _ (by omega) (by simp only [IntKind.bits]; omega))).ofV (V' := .int .u8 (((s[i]'hil).toNat / 16 : Nat) : Int)) (congrArg (AV.int .u8) (by rw [show (2 : Int) ^ ((4 : Int).toNat) = 16 from rfl]; omega))) ?_
  refine p_ ((S_index rfl (AEv.S _) (.tmp rfl) (by kernel_rfl) (by omega) (by show _ < ((16 : Nat) : Int); omega)).ofV (V' := byteV (hexD ((s[i]'hil).toNat / 16))) (congrArg (AV.int .u8) (digits_at (by omega)))) ?_
  refine s_ (S_call rfl (AEvs.cons (.tmp rfl) (AEvs.cons (.tmp rfl) AEvs.nil)) (WriteByte_ok b3 u q (toHexL (s.take i)) _ 145 2 [] hq (by first | (rw [toHex_len, List.length_take]; omega) | (rw [List.length_append, toHex_len, List.length_take]; simp only [List.length_singleton]; omega) | omega) (by decide) (by kernel_rfl) _)) ?_
  rintro _ _ ⟨_, ⟨q2, hq2, rfl, rfl⟩, rfl⟩
  refine AL_nil ?_
  refine AC_region ?_
  refine mv rfl rfl rfl rfl ?_
  refine mv rfl rfl rfl rfl ?_
  refine p_ ((S_index rfl (.tmp rfl) (.tmp rfl) (by kernel_rfl) (by omega) (by omega)).ofV (V' := .int .u8 ((s[i]'hil).toNat : Int)) (congrArg (AV.int .u8) (by first | exact atL_get hil | (rw [show (((2 * b.length : Nat) : Int) + 1) = ((2 * b.length + 1 : Nat) : Int) by omega]; exact atL_get hil)))) ?_
  refine p_ ((S_bits rfl (by simp) (.tmp rfl) (AEv.const _)).ofV (V' := .int .u8 (((s[i]'hil).toNat % 16 : Nat) : Int)) (congrArg (AV.int .u8) (bits_15 hc))) ?_
  refine p_ ((S_index rfl (AEv.S _) (.tmp rfl) (by kernel_rfl) (by omega) (by show _ < ((16 : Nat) : Int); omega)).ofV (V' := byteV (hexD ((s[i]'hil).toNat % 16))) (congrArg (AV.int .u8) (digits_at (by omega)))) ?_
  refine s_ (S_call rfl (AEvs.cons (.tmp rfl) (AEvs.cons (.tmp rfl) AEvs.nil)) (WriteByte_ok b3 true q2 (toHexL (s.take i) ++ [hexD ((s[i]'hil).toNat / 16)]) _ 145 2 [] hq2 (by first | (rw [toHex_len, List.length_take]; omega) | (rw [List.length_append, toHex_len, List.length_take]; simp only [List.length_singleton]; omega) | omega) (by decide) (by kernel_rfl) _)) ?_
  rintro _ _ ⟨_, ⟨q2, hq2, rfl, rfl⟩, rfl⟩
  refine AL_nil ?_
  refine AC_region ?_
  refine p_ (S_addI rfl (.tmp rfl) (AEv.const _) (by omega) (by omega)) ?_
  refine mv rfl rfl rfl rfl ?_
  refine AL_nil ?_
  refine ⟨(i + 1, true, q2), ⟨by dsimp only; omega, by dsimp only; rw [toHex_next hil]; exact hq2⟩, by dsimp only; omega, ?_, (.cons rfl (by first | exact Le.refl _ | exact Le.nils | exact Le.row _ _ _ _ | exact Le.of_eq (by first | rfl | (simp; done) | (push_cast; rfl) | (simp; omega))) .nil), (.cons rfl (Le.refl _) (.cons rfl (Le.refl _) (.cons rfl (Le.refl _) (.cons rfl (Le.refl _) .nil))))⟩
  dsimp only
  rw [toHex_next hil]
  exact (Sub.l (List.Sublist.refl _))
 try simp only [zA,zO,zN,zM,zP,zQ,zD,zF,gd] at hb1
 have hx : s.take i = s := List.take_of_length_le (by omega)
 rw [hx] at hq ⊢
 refine AC_exit ?_
 refine AC_seq (AC_region ?_)
 refine s_ (S_call rfl (AEvs.cons (.tmp rfl) AEvs.nil) (String_ok b3 q (toHexL s) _ [] hq st)) ?_
 rintro _ _ ⟨_, ⟨rfl, rfl⟩, rfl⟩
 refine as_ rfl rfl rfl rfl ?_
 refine AL_nil (AC_ret ?_)
 refine ret_tmp st rfl rfl (Sub.l (List.sublist_cons_self _ _)) (Conv.refl (Sub.l (List.sublist_cons_self _ _)) _) ⟨rfl, rfl⟩ (.inl rfl)
theorem ofHex_ok (s : List UInt8) (hs : s.length ≤ 1000000) : PCalls Tryz.prog 76 [.S s] (.tup [.S (ofHexV s).1, .bool (ofHexV s).2]) := by
 intro st
 refine co 40 Tryz.func76 ?_
 refine AC_seq (AC_region ?_)
 refine p_ (S_assign rfl (AEv.S _)) ?_
 refine ac rfl rfl rfl ?_
 refine AL_nil ?_
 refine AC_seq ?_
 refine AC_seq (AC_region ?_)
 refine mv rfl rfl rfl rfl ?_
 refine p_ (S_lenS (ts := #[]) rfl (.tmp rfl) (by kernel_rfl)) ?_
 refine p_ (S_rem rfl (.tmp rfl) (AEv.const _) (by omega)) ?_
 refine p_ (S_neq rfl (.tmp rfl) (AEv.const _)) ?_
 refine AL_nil ?_
 refine AC_cond (.tmp rfl) (fun hb1 => ?_) (fun hb1 => ?_)
 ·try simp only [zA,zO,zN,zM,zP,zQ,zD,zF,gd] at hb1
  rw [Int.tmod_eq_emod_of_nonneg (by omega)] at hb1
  have hx := ofHex_no (s := s) fun d hd => by have h9 := toHex_len d; rw [hd] at h9; omega
  refine AC_seq (AC_region ?_)
  refine p_ (S_assign rfl (AEv.S _)) ?_
  refine ac rfl rfl rfl ?_
  refine AL_nil (AC_ret ?_)
  refine ret_tmps (ts := [2, 3]) st rfl (by decide) rfl (Sub.l (List.Sublist.refl _)) (Conv.refl (Sub.l (List.Sublist.refl _)) _) ⟨by rw [hx], rfl⟩ (.inl rfl)
 try simp only [zA,zO,zN,zM,zP,zQ,zD,zF,gd] at hb1
 rw [Int.tmod_eq_emod_of_nonneg (by omega)] at hb1
 have hev : s.length % 2 = 0 := by omega
 refine AC_skip ?_
 refine AC_seq (AC_region ?_)
 refine s_ (S_allocB (e := 145) [.slice none 0 0] rfl (by kernel_rfl)) ?_
 rintro _ _ ⟨b4, rfl, rfl⟩
 refine AL_nil ?_
 refine AC_seq ?_
 refine AC_seq (AC_region ?_)
 refine ac rfl rfl rfl ?_
 refine AL_nil ?_
 refine AC_block ?_
 refine AC_loopK (G := List UInt8 × Bool × Buf) [(0, _), (4, _)] (fun g => 2 * g.1.length ≤ s.length ∧ toHexL g.1 = s.take (2 * g.1.length) ∧ g.2.2.ok g.1) (fun g => [(5, .int .i64 ((2 * g.1.length : Nat) : Int))]) (fun g => (b4, .cells (addrB g.2.1 b4 145 2 :: bufAV g.2.2 (g.1) :: [])) :: (bufSt g.2.2 5 (g.1) ++ st)) (fun g => s.length + 1 - 2 * g.1.length) (([], false, .nil)) (⟨Nat.zero_le _, rfl, rfl⟩) (Sub.l (List.Sublist.refl _)) (.cons rfl (Le.refl _) (.cons rfl (Le.refl _) .nil)) (.cons rfl (by first | exact Le.refl _ | exact Le.nils | exact Le.row _ _ _ _ | exact Le.of_eq (by first | rfl | (simp; done) | (push_cast; rfl) | (simp; omega))) .nil) ?_
 rintro ⟨b, u, q⟩ ⟨hz1, hz2, hq⟩
 try dsimp only
 simp only [List.cons_append, List.nil_append]
 dsimp only at hz1 hz2 hq
 refine AC_seq ?_
 refine AC_seq (AC_region ?_)
 refine mv rfl rfl rfl rfl ?_
 refine mv rfl rfl rfl rfl ?_
 refine p_ (S_lenS (ts := #[]) rfl (.tmp rfl) (by kernel_rfl)) ?_
 refine p_ (S_lss rfl (.tmp rfl) (.tmp rfl)) ?_
 refine AL_nil ?_
 refine AC_cond (.tmp rfl) (fun hb2 => ?_) (fun hb2 => ?_)
 ·try simp only [zA,zO,zN,zM,zP,zQ,zD,zF,gd] at hb2
  have hi1 : 2 * b.length < s.length := by omega
  have hi2 : 2 * b.length + 1 < s.length := by omega
  refine AC_skip ?_
  refine AC_seq ?_
  refine AC_block ?_
  refine AC_seq ?_
  refine AC_draw (by kernel_rfl) (by kernel_rfl) (.cons rfl (Q_p rfl (S_move rfl (.tmp rfl))) <|
    .cons rfl (Q_p rfl (S_move rfl (.tmp rfl))) <|
    .cons rfl (Q_p rfl ((S_index rfl (.tmp rfl) (.tmp rfl) (by kernel_rfl) (by omega) (by omega)).ofV (V' := .int .u8 ((s[2 * b.length]'hi1).toNat : Int)) (congrArg (AV.int .u8) (by first | exact atL_get hi1 | (rw [show (((2 * b.length : Nat) : Int) + 1) = ((2 * b.length + 1 : Nat) : Int) by omega]; exact atL_get hi1))))) <|
    .cons rfl (Q_p rfl ((S_pcall rfl (AEvs.cons (y := .S digitsB) (AEv.S _) (AEvs.cons (.tmp rfl) AEvs.nil)) (strings_IndexByte_ok digitsB (s[2 * b.length]'hi1))).ofV (V' := .int .i64 (hexV (s[2 * b.length]'hi1))) (congrArg (AV.int .i64) (idx_digits _)))) <|
    .cons rfl (Q_p rfl (S_move rfl (.tmp rfl))) <|
    .cons rfl (Q_p rfl (S_move rfl (.tmp rfl))) <|
    .cons rfl (Q_p rfl (S_addI rfl (.tmp rfl) (AEv.const _) (by omega) (by omega))) <|
    .cons rfl (Q_p rfl ((S_index rfl (.tmp rfl) (.tmp rfl) (by kernel_rfl) (by omega) (by omega)).ofV (V' := .int .u8 ((s[2 * b.length + 1]'hi2).toNat : Int)) (congrArg (AV.int .u8) (by first | exact atL_get hi2 | (rw [show (((2 * b.length : Nat) : Int) + 1) = ((2 * b.length + 1 : Nat) : Int) by omega]; exact atL_get hi2))))) <|
    .cons rfl (Q_p rfl ((S_pcall rfl (AEvs.cons (y := .S digitsB) (AEv.S _) (AEvs.cons (.tmp rfl) AEvs.nil)) (strings_IndexByte_ok digitsB (s[2 * b.length + 1]'hi2))).ofV (V' := .int .i64 (hexV (s[2 * b.length + 1]'hi2))) (congrArg (AV.int .i64) (idx_digits _)))) <|
    .cons rfl (Q_p rfl (S_assign rfl (.tmp rfl))) <|
    .cons rfl (Q_p rfl (S_assign rfl (.tmp rfl))) <|
    .nil) ?_
  refine AC_seq ?_
  refine AC_seq (AC_region ?_)
  refine mv rfl rfl rfl rfl ?_
  refine p_ (S_lss rfl (.tmp rfl) (AEv.const _)) ?_
  refine mv rfl rfl rfl rfl ?_
  refine g_ (fun _ => mA) ?_
  refine g_ (fun _ => S_lss rfl (AEv.cd (.tmp rfl)) (AEv.const _)) ?_
  refine p_ (S_or rfl (.tmp rfl) (fun hp9 => (AEv.cd (.tmp rfl)))) ?_
  refine AL_nil ?_
  refine AC_cond (.tmp rfl) (fun hb10 => ?_) (fun hb10 => ?_)
  ·try simp only [zA,zO,zN,zM,zP,zQ,zD,zF,gd] at hb10
   have hx := ofHex_no (s := s) fun d hd => by have h8 := toHex_at hd hi1; have h9 := toHex_at hd hi2; omega
   refine AC_seq (AC_region ?_)
   refine p_ (S_assign rfl (AEv.S _)) ?_
   refine ac rfl rfl rfl ?_
   refine AL_nil (AC_ret ?_)
   refine ret_tmps (ts := [2, 3]) st rfl (by decide) rfl (Sub.l ((List.sublist_append_right _ _).cons _)) (Conv.refl (Sub.l ((List.sublist_append_right _ _).cons _)) _) ⟨by rw [hx], rfl⟩ (.inl rfl)
  try simp only [zA,zO,zN,zM,zP,zQ,zD,zF,gd] at hb10
  have hx1 : 0 ≤ hexV (s[2 * b.length]'hi1) := by omega
  have hx2 : 0 ≤ hexV (s[2 * b.length + 1]'hi2) := by omega
  have hy1 := (hexV_some hx1).1
  have hy2 := (hexV_some hx2).1
  obtain ⟨n1, e1⟩ := Int.eq_ofNat_of_zero_le hx1
  obtain ⟨n2, e2⟩ := Int.eq_ofNat_of_zero_le hx2
  have hn1 : n1 < 16 := by omega
  have hn2 : n2 < 16 := by omega
  refine AC_skip ?_
  refine AC_region ?_
  refine mv rfl rfl rfl rfl ?_
  refine p_ ((S_shift rfl (by simp) (.tmp rfl) (AEv.const _) (shift_shl _ _ _ _ (by omega) (by simp only [IntKind.bits]; omega))).ofV (V' := .int .i64 ((16 * n1 : Nat) : Int)) (congrArg (AV.int .i64) (by rw [e1, show (2 : Int) ^ ((4 : Int).toNat) = 16 from rfl, wrap_i64 (by omega) (by omega)]; omega))) ?_
  refine mv rfl rfl rfl rfl ?_
  refine p_ ((S_bits rfl (by simp) (.tmp rfl) (.tmp rfl)).ofV (V' := .int .i64 ((16 * n1 + n2 : Nat) : Int)) (congrArg (AV.int .i64) (by rw [e2]; exact bits_16 hn1 hn2))) ?_
  refine p_ ((S_conv (k' := .u8) rfl (.tmp rfl) (by kernel_rfl) (by kernel_rfl)).ofV (V' := byteV (UInt8.ofNat (16 * hexV (s[2 * b.length]'hi1) + hexV (s[2 * b.length + 1]'hi2)).toNat)) (congrArg (AV.int .u8) (by rw [e1, e2, UInt8.toNat_ofNat', wrap_u8 (by omega) (by omega)]; omega))) ?_
  refine s_ (S_call rfl (AEvs.cons (.tmp rfl) (AEvs.cons (.tmp rfl) AEvs.nil)) (WriteByte_ok b4 u q (b) _ 145 2 [] hq (by first | (rw [toHex_len, List.length_take]; omega) | (rw [List.length_append, toHex_len, List.length_take]; simp only [List.length_singleton]; omega) | omega) (by decide) (by kernel_rfl) _)) ?_
  rintro _ _ ⟨_, ⟨q2, hq2, rfl, rfl⟩, rfl⟩
  refine AL_nil ?_
  refine AC_region ?_
  refine mv rfl rfl rfl rfl ?_
  refine p_ (S_addI rfl (.tmp rfl) (AEv.const _) (by omega) (by omega)) ?_
  refine as_ rfl rfl rfl rfl ?_
  refine AL_nil ?_
  refine ⟨(b ++ [UInt8.ofNat (16 * hexV (s[2 * b.length]'hi1) + hexV (s[2 * b.length + 1]'hi2)).toNat], true, q2), ⟨by dsimp only; simp only [List.length_append, List.length_singleton]; omega, by dsimp only; rw [List.length_append, List.length_singleton]; exact hex_more hi2 hz2 hx1 hx2, hq2⟩, by dsimp only; simp only [List.length_append, List.length_singleton]; omega, (Sub.l (List.Sublist.refl _)), (.cons rfl (by first | exact Le.refl _ | exact Le.nils | exact Le.row _ _ _ _ | exact Le.of_eq (by first | rfl | (simp; done) | (push_cast; rfl) | (simp; omega))) .nil), (.cons rfl (Le.refl _) (.cons rfl (Le.refl _) .nil))⟩
 try simp only [zA,zO,zN,zM,zP,zQ,zD,zF,gd] at hb2
 have hx := ofHex_yes (d := b) (s := s) (by rw [hz2, List.take_of_length_le (by omega)])
 refine AC_exit ?_
 refine AC_seq (AC_region ?_)
 refine s_ (S_call rfl (AEvs.cons (.tmp rfl) AEvs.nil) (String_ok b4 q b _ [] hq st)) ?_
 rintro _ _ ⟨_, ⟨rfl, rfl⟩, rfl⟩
 refine as_ rfl rfl rfl rfl ?_
 refine ac rfl rfl rfl ?_
 refine AL_nil (AC_ret ?_)
 refine ret_tmps (ts := [2, 3]) st rfl (by decide) rfl (Sub.l (List.sublist_cons_self _ _)) (Conv.refl (Sub.l (List.sublist_cons_self _ _)) _) ⟨by rw [hx], rfl⟩ (.inl rfl)
theorem find_ok (w : List UInt8) : GCalls Tryz.prog tabs 38 [.S w] (.int .i64 ((findV w : Nat) : Int)) := by
 intro st hG
 refine co 20 Tryz.func38 ?_
 refine AC_seq (AC_region ?_)
 refine ac rfl rfl rfl ?_
 refine AL_nil ?_
 refine AC_seq ?_
 refine AC_seq (AC_region ?_)
 refine p_ (S_loadKs (vs := verbsV) (m := 72) rfl (AEv.global _) (hG _ tab_verbs) (by kernel_rfl) (by decide)) ?_
 refine p_ (S_move rfl (AEv.const _)) ?_
 refine AL_nil ?_
 refine AC_block ?_
 refine AC_loopK (G := Nat) [(0, _), (5, _)] (fun g => g ≤ 24 ∧ ∀ j, j < 24 → j < g → 0 < j → (verbA j).1 ≠ w) (fun g => [(6, .int .i64 (g : Int))]) (fun g => st) (fun g => 24 - g) (0) (⟨Nat.zero_le _, fun j _ h => absurd h (Nat.not_lt_zero _)⟩) (Sub.l (List.Sublist.refl _)) (.cons rfl (Le.refl _) (.cons rfl (Le.refl _) .nil)) (.cons rfl (by first | exact Le.refl _ | exact Le.nils | exact Le.row _ _ _ _ | exact Le.of_eq (by first | rfl | (simp; done) | (push_cast; rfl) | (simp; omega))) .nil) ?_
 rintro i ⟨hi, hall⟩
 try dsimp only
 simp only [List.cons_append, List.nil_append]
 refine AC_seq (AC_region ?_)
 refine p_ (S_lss rfl (.tmp rfl) (AEv.const _)) ?_
 refine AL_nil ?_
 refine AC_seq ?_
 refine AC_cond (.tmp rfl) (fun hb1 => ?_) (fun hb1 => ?_)
 ·try simp only [zA,zO,zN,zM,zP,zQ,zD,zF,gd] at hb1
  have hil : i < 24 := by omega
  refine AC_skip ?_
  refine AC_seq ?_
  refine AC_block ?_
  refine AC_seq (AC_region ?_)
  refine mv rfl rfl rfl rfl ?_
  refine p_ ((S_idxRow (e := 92) (len := 24) (m := 3) rfl (.tmp rfl) (.tmp rfl) (by kernel_rfl) (by kernel_rfl) (by omega) (by omega) (by rw [show (((verbsV.drop 0).take 72).map AV.lit).length = 72 from rfl]; omega)).ofV (V' := .agg [.S (verbA (i : Int).toNat).1, .int .i64 (verbA (i : Int).toNat).2.1, .int .i64 (verbA (i : Int).toNat).2.2]) (congrArg AV.agg (verbs_cell (by omega) (by omega)))) ?_
  refine s_ (S_alloc [.string ⟨#[]⟩, .int .i64 0, .int .i64 0] rfl (by kernel_rfl)) ?_
  rintro _ _ ⟨b4, rfl, rfl⟩
  refine as_ rfl rfl rfl rfl ?_
  refine stW 0 ?_
  refine AL_nil (AC_seq (AC_region ?_))
  refine mv rfl rfl rfl rfl ?_
  refine p_ (S_gtr rfl (.tmp rfl) (AEv.const _)) ?_
  refine mv rfl rfl rfl rfl ?_
  refine g_ (fun _ => fA 0) ?_
  refine g_ (fun _ => lA 0) ?_
  refine g_ (fun _ => mA) ?_
  refine g_ (fun _ => S_eqS rfl (AEv.cd (.tmp rfl)) (AEv.cd (.tmp rfl))) ?_
  refine an ?_
  refine AL_nil ?_
  refine AC_cond (.tmp rfl) (fun hb16 => ?_) (fun hb16 => ?_)
  ·try simp only [zA,zO,zN,zM,zP,zQ,zD,zF,gd] at hb16
   have hx := find_hit (w := w) (i := i) (by omega) hil (by simpa using hb16.2)
   refine AC_seq (AC_region ?_)
   refine mv rfl rfl rfl rfl ?_
   refine as_ rfl rfl rfl rfl ?_
   refine AL_nil (AC_ret ?_)
   refine ret_tmp st rfl rfl (Sub.l (List.sublist_cons_self _ _)) (Conv.refl (Sub.l (List.sublist_cons_self _ _)) _) ⟨by rw [hx], rfl⟩ (.inl rfl)
  try simp only [zA,zO,zN,zM,zP,zQ,zD,zF,gd] at hb16
  have hno : 0 < i → (verbA i).1 ≠ w := fun h0 h9 => hb16.elim (fun h => h (by omega)) fun h => h (by simpa using h9)
  refine AC_skip ?_
  refine AC_region ?_
  refine p_ (S_addI rfl (.tmp rfl) (AEv.const _) (by omega) (by omega)) ?_
  refine mv rfl rfl rfl rfl ?_
  refine AL_nil ?_
  refine ⟨i + 1, ⟨by omega, fun j hj h h0 => ?_⟩, by omega, (Sub.l (List.sublist_cons_self _ _)), (.cons rfl (by first | exact Le.refl _ | exact Le.nils | exact Le.row _ _ _ _ | exact Le.of_eq (by first | rfl | (simp; done) | (push_cast; rfl) | (simp; omega))) .nil), (.cons rfl (Le.refl _) (.cons rfl (Le.refl _) .nil))⟩
  rcases Nat.lt_or_ge j i with h9 | h9
  ·exact hall j hj h9 h0
  ·have e9 : j = i := by omega
   subst e9
   exact hno h0
 try simp only [zA,zO,zN,zM,zP,zQ,zD,zF,gd] at hb1
 have hx := find_none (w := w) fun j hj h0 => hall j hj (by omega) h0
 refine AC_exit ?_
 refine AC_seq (AC_region ?_)
 refine ac rfl rfl rfl ?_
 refine AL_nil (AC_ret ?_)
 refine ret_tmp st rfl rfl (Sub.l (List.Sublist.refl _)) (Conv.refl (Sub.l (List.Sublist.refl _)) _) ⟨by rw [hx]; rfl, rfl⟩ (.inl rfl)
theorem data_ok (k : Int) (l : List (List UInt8)) (hl : ∀ x ∈ l, x.length ≤ 1000000) : PCalls Tryz.prog 40 [.int .i64 k, .sl (strsV l)] (.tup [.S (dataV k l).1, .bool (dataV k l).2]) := by
 intro st
 refine co 28 Tryz.func40 ?_
 refine AC_seq (AC_region ?_)
 refine p_ (S_assign rfl (AEv.S _)) ?_
 refine ac rfl rfl rfl ?_
 refine AL_nil ?_
 refine AC_seq ?_
 refine AC_block ?_
 refine AC_seq (AC_region ?_)
 refine mv rfl rfl rfl rfl ?_
 refine p_ (S_eql rfl (.tmp rfl) (AEv.const _)) ?_
 refine as_ rfl rfl rfl rfl ?_
 refine AL_nil ?_
 refine AC_cond (.tmp rfl) (fun hb1 => ?_) (fun hb1 => ?_)
 ·try simp only [zA,zO,zN,zM,zP,zQ,zD,zF,gd] at hb1
  have hx : dataV k l = ([], decide ((l.length : Int) = 0)) := by unfold dataV; rw [if_pos hb1]; exact congrArg _ (decide_eq_decide.2 (by rw [← List.length_eq_zero_iff]; omega))
  refine AC_seq (AC_region ?_)
  refine mv rfl rfl rfl rfl ?_
  refine p_ (by first | exact S_lenM (e := 9) rfl (.tmp rfl) (by kernel_rfl) | exact S_len (e := 9) rfl (.tmp rfl) (by kernel_rfl)) ?_
  refine p_ (S_eql rfl (.tmp rfl) (AEv.const _)) ?_
  refine p_ (S_assign rfl (AEv.S _)) ?_
  refine as_ rfl rfl rfl rfl ?_
  refine AL_nil (AC_ret ?_)
  refine ret_tmps (ts := [4, 5]) st rfl (by decide) rfl (Sub.l (List.Sublist.refl _)) (Conv.refl (Sub.l (List.Sublist.refl _)) _) ⟨by rw [hx], rfl⟩ (.inl rfl)
 try simp only [zA,zO,zN,zM,zP,zQ,zD,zF,gd] at hb1
 have hk0 : ¬ k = 0 := hb1
 refine AC_seq (AC_region ?_)
 refine mv rfl rfl rfl rfl ?_
 refine p_ (by first | exact S_lenM (e := 9) rfl (.tmp rfl) (by kernel_rfl) | exact S_len (e := 9) rfl (.tmp rfl) (by kernel_rfl)) ?_
 refine p_ (S_neq rfl (.tmp rfl) (AEv.const _)) ?_
 refine as_ rfl rfl rfl rfl ?_
 refine AL_nil ?_
 refine AC_cond (.tmp rfl) (fun hb2 => ?_) (fun hb2 => ?_)
 ·try simp only [zA,zO,zN,zM,zP,zQ,zD,zF,gd] at hb2
  have hx : dataV k l = ([], false) := by unfold dataV; rw [if_neg hk0, if_pos (by omega)]
  refine AC_seq (AC_region ?_)
  refine p_ (S_assign rfl (AEv.S _)) ?_
  refine ac rfl rfl rfl ?_
  refine AL_nil (AC_ret ?_)
  refine ret_tmps (ts := [4, 5]) st rfl (by decide) rfl (Sub.l (List.Sublist.refl _)) (Conv.refl (Sub.l (List.Sublist.refl _)) _) ⟨by rw [hx], rfl⟩ (.inl rfl)
 try simp only [zA,zO,zN,zM,zP,zQ,zD,zF,gd] at hb2
 have hl1 : l.length = 1 := by omega
 have hl0 : 0 < l.length := by omega
 have hhd : l.headD [] = (l[0]'hl0) := by obtain ⟨x, rfl⟩ := List.length_eq_one_iff.1 hl1; rfl
 refine AC_seq (AC_region ?_)
 refine mv rfl rfl rfl rfl ?_
 refine p_ (S_eql rfl (.tmp rfl) (AEv.const _)) ?_
 refine as_ rfl rfl rfl rfl ?_
 refine AL_nil ?_
 refine AC_cond (.tmp rfl) (fun hb3 => ?_) (fun hb3 => ?_)
 ·try simp only [zA,zO,zN,zM,zP,zQ,zD,zF,gd] at hb3
  have hx : dataV k l = ofHexV (l[0]'hl0) := by unfold dataV; rw [if_neg hk0, if_neg (by omega), if_pos hb3, hhd]
  refine AC_seq (AC_region ?_)
  refine mv rfl rfl rfl rfl ?_
  refine p_ (S_elemN (e := 9) (i := 0) 1 rfl (.tmp rfl) (AEv.const _) (by kernel_rfl) (by kernel_rfl) (by omega) (fun _ => rfl)) ?_
  refine p_ (S_loadP rfl (.tmp rfl) rfl (by kernel_rfl)) ?_
  refine p_ (S_pcall rfl (AEvs.cons (.tmp rfl) AEvs.nil) (ofHex_ok (l[0]'hl0) (hl _ (List.getElem_mem hl0)))) ?_
  refine ex 0 ?_
  refine ex 1 ?_
  refine as_ rfl rfl rfl rfl ?_
  refine as_ rfl rfl rfl rfl ?_
  refine AL_nil (AC_ret ?_)
  refine ret_tmps (ts := [4, 5]) st rfl (by decide) rfl (Sub.l (List.Sublist.refl _)) (Conv.refl (Sub.l (List.Sublist.refl _)) _) ⟨by rw [hx], rfl⟩ (.inl rfl)
 try simp only [zA,zO,zN,zM,zP,zQ,zD,zF,gd] at hb3
 have hx : dataV k l = ((l[0]'hl0), true) := by unfold dataV; rw [if_neg hk0, if_neg (by omega), if_neg hb3, hhd]
 refine AC_skip ?_
 refine AC_seq (AC_region ?_)
 refine mv rfl rfl rfl rfl ?_
 refine p_ (S_elemN (e := 9) (i := 0) 1 rfl (.tmp rfl) (AEv.const _) (by kernel_rfl) (by kernel_rfl) (by omega) (fun _ => rfl)) ?_
 refine p_ (S_loadP rfl (.tmp rfl) rfl (by kernel_rfl)) ?_
 refine as_ rfl rfl rfl rfl ?_
 refine ac rfl rfl rfl ?_
 refine AL_nil (AC_ret ?_)
 refine ret_tmps (ts := [4, 5]) st rfl (by decide) rfl (Sub.l (List.Sublist.refl _)) (Conv.refl (Sub.l (List.Sublist.refl _)) _) ⟨by rw [hx], rfl⟩ (.inl rfl)
end Go.Proofs.YtfpkefhjomeeeaaGreatDoor

set_option maxRecDepth 100000
namespace Go.Proofs.YtfpkefhjomeeeaaGreatDoor
open Go.AL Go.NumSpec
theorem scr_Line_ok (e : Ent) (hn : e.n.length ≤ 1000000) : GCalls Tryz.prog tabs 18 [entAV e] (.S (lineV e)) := by
 intro st hG
 refine co 49 Tryz.func18 ?_
 refine AC_seq (AC_region ?_)
 refine s_ (S_box rfl (.tmp rfl)) ?_
 rintro _ _ ⟨b1, rfl, rfl⟩
 refine p_ (S_assign rfl (AEv.S _)) ?_
 refine AL_nil ?_
 refine AC_seq ?_
 refine AC_seq (AC_region ?_)
 refine ldN 3 0 ?_
 refine p_ (S_gcall rfl (AEvs.cons (.tmp rfl) AEvs.nil) ((scr_Right_ok e hn) _ (fun p hp => by first | exact hG p hp | exact List.mem_cons_of_mem _ (hG p hp)))) ?_
 refine p_ (S_not rfl (.tmp rfl)) ?_
 refine AL_nil ?_
 refine AC_cond (.tmp rfl) (fun hb2 => ?_) (fun hb2 => ?_)
 ·try simp only [zA,zO,zN,zM,zP,zQ,zD,zF,gd] at hb2
  have hx : lineV e = [] := by unfold lineV; rw [if_neg (by simpa using hb2)]
  refine AC_seq (AC_region ?_)
  refine p_ (S_assign rfl (AEv.S _)) ?_
  refine AL_nil (AC_ret ?_)
  refine ret_tmp st rfl rfl (Sub.l (List.sublist_cons_self _ _)) (Conv.refl (Sub.l (List.sublist_cons_self _ _)) _) ⟨by rw [hx], rfl⟩ (.inl rfl)
 try simp only [zA,zO,zN,zM,zP,zQ,zD,zF,gd] at hb2
 have hr : rightB e = true := by simpa using hb2
 have hx : lineV e = lineE e := by unfold lineV; rw [if_pos hr]
 obtain ⟨hv1, hv2, hv3, hv4, hv5⟩ := right_spec hr
 have hdl := data_len hr
 have hnf := right_fits hr
 refine AC_skip ?_
 refine AC_seq (AC_region ?_)
 refine fl 0 ?_
 refine ld 0 ?_
 refine p_ (S_elemA (e := 92) (len := 24) (i := e.verb) 3 rfl (AEv.global _) (.tmp rfl) (by kernel_rfl) (by kernel_rfl) (by omega) (by omega)) ?_
 refine p_ ((S_loadKs (vs := verbsV) (m := 3) rfl (.tmp rfl) (List.mem_cons_of_mem _ (hG _ tab_verbs)) (by kernel_rfl) (by rw [show verbsV.length = 72 from rfl]; omega)).ofV (V' := .agg [.S (verbA e.verb.toNat).1, .int .i64 (verbA e.verb.toNat).2.1, .int .i64 (verbA e.verb.toNat).2.2]) (congrArg AV.agg (verbs_row (by omega) (by omega)))) ?_
 refine s_ (S_alloc [.string ⟨#[]⟩, .int .i64 0, .int .i64 0] rfl (by kernel_rfl)) ?_
 rintro _ _ ⟨b3, rfl, rfl⟩
 refine stW 0 ?_
 refine AL_nil (AC_seq (AC_region ?_))
 refine fl 0 ?_
 refine ld 0 ?_
 refine s_ (S_buildOwn (e := 9) 1 rfl (AEvs.cons (.tmp rfl) AEvs.nil) rfl (by kernel_rfl) (by kernel_rfl) (by simp [AV.flat, AV.one, AV.cells, Value.oneCell']) (by decide) (by decide) (by decide)) ?_
 rintro _ _ ⟨b4, rfl, rfl⟩
 refine as_ rfl rfl rfl rfl ?_
 refine AL_nil ?_
 refine AC_seq ?_
 refine AC_seq (AC_region ?_)
 refine fl 1 ?_
 refine ld 2 ?_
 refine p_ (by first | exact S_lenM (e := 3) rfl (.tmp rfl) (by kernel_rfl) | exact S_len (e := 3) rfl (.tmp rfl) (by kernel_rfl)) ?_
 refine p_ (S_move rfl (AEv.const _)) ?_
 refine AL_nil ?_
 refine AC_block ?_
 refine AC_loopK (G := Nat × Own) [(1, _), (2, _), (3, _), (18, _), (19, _)] (fun g => g.1 ≤ e.n.length ∧ g.2.ok ((partsN e g.1).map AV.S)) (fun g => [(4, ownAV g.2 1 ((partsN e g.1).map AV.S)), (20, .int .i64 (g.1 : Int))]) (fun g => ownSt g.2 9 1 ((partsN e g.1).map AV.S) ++ ((b3, .cells [.S (verbA e.verb.toNat).1, .int .i64 (verbA e.verb.toNat).2.1, .int .i64 (verbA e.verb.toNat).2.2]) :: (b1, .cells (entL e)) :: st)) (fun g => e.n.length - g.1) ((0, .row b4 0 1)) (⟨Nat.zero_le _, by simp [Own.ok, partsN]⟩) (Sub.l (List.Sublist.refl _)) (.cons rfl (Le.refl _) (.cons rfl (Le.refl _) (.cons rfl (Le.refl _) (.cons rfl (Le.refl _) (.cons rfl (Le.refl _) .nil))))) (.cons rfl (by first | exact Le.refl _ | exact Le.nils | exact Le.row _ _ _ _ | exact Le.of_eq (by first | rfl | (simp; done) | (push_cast; rfl) | (simp; omega))) (.cons rfl (by first | exact Le.refl _ | exact Le.nils | exact Le.row _ _ _ _ | exact Le.of_eq (by first | rfl | (simp; done) | (push_cast; rfl) | (simp; omega))) .nil)) ?_
 rintro ⟨i, p⟩ ⟨hi, hq⟩
 try dsimp only
 simp only [List.cons_append, List.nil_append]
 dsimp only at hi hq
 have hpn := partsN_len e i
 refine AC_seq (AC_region ?_)
 refine p_ (S_lss rfl (.tmp rfl) (.tmp rfl)) ?_
 refine AL_nil ?_
 refine AC_seq ?_
 refine AC_cond (.tmp rfl) (fun hb4 => ?_) (fun hb4 => ?_)
 ·try simp only [zA,zO,zN,zM,zP,zQ,zD,zF,gd] at hb4
  have hil : i < e.n.length := by omega
  refine AC_skip ?_
  refine AC_seq ?_
  refine AC_block ?_
  refine AC_seq (AC_region ?_)
  refine p_ (S_elemN (e := 3) 1 rfl (.tmp rfl) (.tmp rfl) (by kernel_rfl) (by kernel_rfl) (by omega) (fun _ => rfl)) ?_
  refine p_ (S_loadP rfl (.tmp rfl) rfl (by kernel_rfl)) ?_
  refine as_ rfl rfl rfl rfl ?_
  refine AL_nil ?_
  refine AC_region ?_
  refine mv rfl rfl rfl rfl ?_
  refine mv rfl rfl rfl rfl ?_
  refine p_ (S_pcall rfl (AEvs.cons (.tmp rfl) AEvs.nil) (num_Text_ok (e.n[i]'hil) (hnf _ (List.getElem_mem hil)))) ?_
  refine p_ (S_buildSlice (e := 9) 1 rfl (AEvs.cons (.tmp rfl) AEvs.nil) rfl (by kernel_rfl) (by kernel_rfl) (by intro y hy; simp only [List.mem_cons, List.not_mem_nil, or_false] at hy; rcases hy with rfl <;> exact ⟨rfl, rfl⟩) (by decide) (by decide) (by decide)) ?_
  refine s_ (S_appendM (f := AV.S) (l := partsN e i) (l2 := [textL (e.n[i]'hil)]) (e := 9) (size := 1) (bytes := 16) (p := p) ([]) (((b3, .cells [.S (verbA e.verb.toNat).1, .int .i64 (verbA e.verb.toNat).2.1, .int .i64 (verbA e.verb.toNat).2.2]) :: (b1, .cells (entL e)) :: st)) rfl (.tmp rfl) (.tmp rfl) rfl hq (by kernel_rfl) (by simp) (fun _ => ⟨rfl, rfl⟩) (by simp only [List.length_singleton]; omega) (by simp only [List.length_singleton]; omega)) ?_
  rintro _ _ ⟨b8, k8, cap8, hx8, rfl, rfl⟩
  refine as_ rfl rfl rfl rfl ?_
  refine AL_nil ?_
  refine AC_region ?_
  refine p_ (S_addI rfl (.tmp rfl) (AEv.const _) (by omega) (by omega)) ?_
  refine mv rfl rfl rfl rfl ?_
  refine AL_nil ?_
  exact ⟨(i + 1, .row b8 k8 cap8), ⟨by dsimp only; omega, by dsimp only; rw [partsN_next hil]; exact hx8⟩, by dsimp only; omega, by dsimp only; rw [partsN_next hil]; exact (Sub.l (List.Sublist.refl _)), (.cons rfl (Le.of_eq (by dsimp only; rw [partsN_next hil])) (.cons rfl (by first | exact Le.refl _ | exact Le.nils | exact Le.row _ _ _ _ | exact Le.of_eq (by first | rfl | (simp; done) | (push_cast; rfl) | (simp; omega))) .nil)), (.cons rfl (Le.refl _) (.cons rfl (Le.refl _) (.cons rfl (Le.refl _) (.cons rfl (Le.refl _) (.cons rfl (Le.refl _) .nil)))))⟩
 try simp only [zA,zO,zN,zM,zP,zQ,zD,zF,gd] at hb4
 have hpa := partsN_all (e := e) (i := i) (by omega)
 refine AC_exit ?_
 refine AC_joinK (G := Own) [(1, _), (2, _), (3, _)] (fun p => p.ok ((partsE e).map AV.S)) (fun g => [(4, ownAV g 1 ((partsE e).map AV.S))]) (fun g => ownSt g 9 1 ((partsE e).map AV.S) ++ ((b3, .cells [.S (verbA e.verb.toNat).1, .int .i64 (verbA e.verb.toNat).2.1, .int .i64 (verbA e.verb.toNat).2.2]) :: (b1, .cells (entL e)) :: st)) (.cons rfl (Le.refl _) (.cons rfl (Le.refl _) (.cons rfl (Le.refl _) .nil))) ?_ ?_
 ·refine AC_seq (AC_region ?_)
  refine fl 2 ?_
  refine p_ (S_loadM rfl (.tmp rfl) (List.mem_append_right _ List.mem_cons_self) rfl (by kernel_rfl)) ?_
  refine AL_nil ?_
  refine AC_block ?_
  refine AC_seq (AC_region ?_)
  refine p_ (S_eql rfl (.tmp rfl) (AEv.const _)) ?_
  refine as_ rfl rfl rfl rfl ?_
  refine AL_nil ?_
  refine AC_cond (.tmp rfl) (fun hb7 => ?_) (fun hb7 => ?_)
  ·try simp only [zA,zO,zN,zM,zP,zQ,zD,zF,gd] at hb7
   have hk : (verbA e.verb.toNat).2.2 = 1 := hb7
   have hpe : partsE e = partsN e i ++ [toHexL e.data] := by rw [hpa]; unfold dataP; rw [if_pos hk]
   refine AC_region ?_
   refine mv rfl rfl rfl rfl ?_
   refine fl 2 ?_
   refine p_ (S_loadM rfl (.tmp rfl) (List.mem_append_right _ (List.mem_cons_of_mem _ List.mem_cons_self)) rfl (by kernel_rfl)) ?_
   refine p_ (S_pcall rfl (AEvs.cons (.tmp rfl) AEvs.nil) (toHex_ok e.data (by omega))) ?_
   refine p_ (S_buildSlice (e := 9) 1 rfl (AEvs.cons (.tmp rfl) AEvs.nil) rfl (by kernel_rfl) (by kernel_rfl) (by intro y hy; simp only [List.mem_cons, List.not_mem_nil, or_false] at hy; rcases hy with rfl <;> exact ⟨rfl, rfl⟩) (by decide) (by decide) (by decide)) ?_
   refine s_ (S_appendM (f := AV.S) (l := partsN e i) (l2 := [toHexL e.data]) (e := 9) (size := 1) (bytes := 16) (p := p) ([]) (((b3, .cells [.S (verbA e.verb.toNat).1, .int .i64 (verbA e.verb.toNat).2.1, .int .i64 (verbA e.verb.toNat).2.2]) :: (b1, .cells (entL e)) :: st)) rfl (.tmp rfl) (.tmp rfl) rfl hq (by kernel_rfl) (by simp) (fun _ => ⟨rfl, rfl⟩) (by simp only [List.length_singleton]; omega) (by simp only [List.length_singleton]; omega)) ?_
   rintro _ _ ⟨b8, k8, cap8, hx8, rfl, rfl⟩
   refine as_ rfl rfl rfl rfl ?_
   refine AL_nil ?_
   rw [← hpe] at hx8
   exact ⟨.row b8 k8 cap8, hx8, by rw [hpe]; exact (Sub.l (List.Sublist.refl _)), (.cons rfl (Le.of_eq (by rw [hpe])) .nil), (.cons rfl (Le.refl _) (.cons rfl (Le.refl _) (.cons rfl (Le.refl _) .nil)))⟩
  try simp only [zA,zO,zN,zM,zP,zQ,zD,zF,gd] at hb7
  have hk1 : ¬ (verbA e.verb.toNat).2.2 = 1 := hb7
  refine AC_seq (AC_region ?_)
  refine p_ (S_eql rfl (.tmp rfl) (AEv.const _)) ?_
  refine as_ rfl rfl rfl rfl ?_
  refine AL_nil ?_
  refine AC_cond (.tmp rfl) (fun hb10 => ?_) (fun hb10 => ?_)
  ·try simp only [zA,zO,zN,zM,zP,zQ,zD,zF,gd] at hb10
   have hk : (verbA e.verb.toNat).2.2 = 2 := hb10
   have hpe : partsE e = partsN e i ++ [e.data] := by rw [hpa]; unfold dataP; rw [if_neg hk1, if_pos hk]
   refine AC_region ?_
   refine mv rfl rfl rfl rfl ?_
   refine fl 2 ?_
   refine p_ (S_loadM rfl (.tmp rfl) (List.mem_append_right _ (List.mem_cons_of_mem _ List.mem_cons_self)) rfl (by kernel_rfl)) ?_
   refine p_ (S_buildSlice (e := 9) 1 rfl (AEvs.cons (.tmp rfl) AEvs.nil) rfl (by kernel_rfl) (by kernel_rfl) (by intro y hy; simp only [List.mem_cons, List.not_mem_nil, or_false] at hy; rcases hy with rfl <;> exact ⟨rfl, rfl⟩) (by decide) (by decide) (by decide)) ?_
   refine s_ (S_appendM (f := AV.S) (l := partsN e i) (l2 := [e.data]) (e := 9) (size := 1) (bytes := 16) (p := p) ([]) (((b3, .cells [.S (verbA e.verb.toNat).1, .int .i64 (verbA e.verb.toNat).2.1, .int .i64 (verbA e.verb.toNat).2.2]) :: (b1, .cells (entL e)) :: st)) rfl (.tmp rfl) (.tmp rfl) rfl hq (by kernel_rfl) (by simp) (fun _ => ⟨rfl, rfl⟩) (by simp only [List.length_singleton]; omega) (by simp only [List.length_singleton]; omega)) ?_
   rintro _ _ ⟨b8, k8, cap8, hx8, rfl, rfl⟩
   refine as_ rfl rfl rfl rfl ?_
   refine AL_nil ?_
   rw [← hpe] at hx8
   exact ⟨.row b8 k8 cap8, hx8, by rw [hpe]; exact (Sub.l (List.Sublist.refl _)), (.cons rfl (Le.of_eq (by rw [hpe])) .nil), (.cons rfl (Le.refl _) (.cons rfl (Le.refl _) (.cons rfl (Le.refl _) .nil)))⟩
  try simp only [zA,zO,zN,zM,zP,zQ,zD,zF,gd] at hb10
  have hk2 : ¬ (verbA e.verb.toNat).2.2 = 2 := hb10
  have hpe : partsE e = partsN e i := by rw [hpa]; unfold dataP; rw [if_neg hk1, if_neg hk2, List.append_nil]
  refine AC_skip ?_
  exact ⟨p, by rw [hpe]; exact hq, by rw [hpe]; exact (Sub.l (List.Sublist.refl _)), (.cons rfl (Le.of_eq (by rw [hpe])) .nil), (.cons rfl (Le.refl _) (.cons rfl (Le.refl _) (.cons rfl (Le.refl _) .nil)))⟩
 rintro p9 hq9
 try dsimp only
 simp only [List.cons_append, List.nil_append]
 refine AC_seq (AC_region ?_)
 refine mv rfl rfl rfl rfl ?_
 refine p_ (S_pcall rfl (AEvs.cons ((AEv.tmp rfl).le (Le_own hq9)) (AEvs.cons (AEv.S _) AEvs.nil)) (join_ok (partsE e) [32] (by have := (parts_short hr).2; omega) (by have := line_len hr; unfold lineE at this; omega))) ?_
 refine as_ rfl rfl rfl rfl ?_
 refine AL_nil (AC_ret ?_)
 refine ret_tmp st rfl rfl (Sub.l ((List.sublist_append_of_sublist_right ((List.sublist_cons_self _ _).trans (List.sublist_cons_self _ _))))) (Conv.refl (Sub.l ((List.sublist_append_of_sublist_right ((List.sublist_cons_self _ _).trans (List.sublist_cons_self _ _))))) _) ⟨by rw [hx]; rfl, rfl⟩ (.inl rfl)
theorem scr_Parse_ok (s : List UInt8) (hs : s.length ≤ 1000000) : GCalls Tryz.prog tabs 16 [.S s] (entP (parseE s)) := by
 intro st hG
 refine co 83 Tryz.func16 ?_
 obtain ⟨w, l, hps⟩ : ∃ w l, partsB 32 s = w :: l := by
  cases h : partsB 32 s with
  | nil => exact absurd h (partsB_ne 32 s)
  | cons w l => exact ⟨w, l, rfl⟩
 have hpl : ∀ x ∈ w :: l, x.length ≤ s.length := by rw [← hps]; exact partsB_le 32 s
 have hpc : (w :: l).length ≤ s.length + 1 := by rw [← hps]; exact parts_few 32 s
 have hflt := find_lt w
 obtain ⟨hv1, hv2, hv3, hv4, hv5, hv6, hv7⟩ := verb_facts (find_lt w)
 simp only [List.length_cons] at hpc
 have hcons : (w :: l).length = l.length + 1 := rfl
 refine AC_seq (AC_region ?_)
 refine s_ (S_alloc [.int .i64 0, .slice none 0 0, .string ⟨#[]⟩] rfl (by kernel_rfl)) ?_
 rintro _ _ ⟨b2, rfl, rfl⟩
 refine ac rfl rfl rfl ?_
 refine AL_nil (AC_seq (AC_region ?_))
 refine mv rfl rfl rfl rfl ?_
 refine p_ (S_pcall rfl (AEvs.cons (.tmp rfl) (AEvs.cons (AEv.S _) AEvs.nil)) ((strings_Split_ok s 32 (by omega)).of_eq (congrArg (fun x => AV.sl (strsV x)) hps))) ?_
 refine as_ rfl rfl rfl rfl ?_
 refine AL_nil (AC_seq (AC_region ?_))
 refine mv rfl rfl rfl rfl ?_
 refine p_ (S_elemN (e := 9) (i := 0) 1 rfl (.tmp rfl) (AEv.const _) (by kernel_rfl) (by kernel_rfl) (by simp only [List.length_cons]; omega) (fun _ => rfl)) ?_
 refine p_ (S_loadP rfl (.tmp rfl) rfl (by kernel_rfl)) ?_
 refine p_ (S_gcall rfl (AEvs.cons (.tmp rfl) AEvs.nil) ((find_ok w) _ (fun p hp => by repeat (first | exact hG p hp | exact hG p (List.mem_cons_of_mem _ hp) | refine List.mem_cons_of_mem _ ?_ | refine List.mem_append_right _ ?_)))) ?_
 refine p_ (S_build (t := 36) (pl := [(0, 1), (1, 1), (2, 1)]) (zs := [.int .i64 0, .slice none 0 0, .string ⟨#[]⟩]) rfl (AEvs.cons (.tmp rfl) AEvs.nil) (by kernel_rfl) rfl) ?_
 refine s_ (S_alloc [.int .i64 0, .slice none 0 0, .string ⟨#[]⟩] rfl (by kernel_rfl)) ?_
 rintro _ _ ⟨b5, rfl, rfl⟩
 refine stW 0 ?_
 refine AL_nil (AC_seq (AC_region ?_))
 refine fl 0 ?_
 refine ld 0 ?_
 refine p_ (S_elemA (e := 92) (len := 24) (i := ((findV w : Nat) : Int)) 3 rfl (AEv.global _) (.tmp rfl) (by kernel_rfl) (by kernel_rfl) (by omega) (by omega)) ?_
 refine p_ ((S_loadKs (vs := verbsV) (m := 3) rfl (.tmp rfl) (List.mem_cons_of_mem _ (List.mem_cons_of_mem _ (hG _ tab_verbs))) (by kernel_rfl) (by rw [show verbsV.length = 72 from rfl]; omega)).ofV (V' := .agg [.S (verbA (findV w)).1, .int .i64 (verbA (findV w)).2.1, .int .i64 (verbA (findV w)).2.2]) (congrArg AV.agg (verbs_row (v := ((findV w : Nat) : Int)) (by omega) (by omega)))) ?_
 refine s_ (S_alloc [.string ⟨#[]⟩, .int .i64 0, .int .i64 0] rfl (by kernel_rfl)) ?_
 rintro _ _ ⟨b6, rfl, rfl⟩
 refine stW 0 ?_
 refine AL_nil ?_
 refine AC_seq ?_
 refine AC_seq (AC_region ?_)
 refine fl 0 ?_
 refine ld 1 ?_
 refine p_ (S_eql rfl (.tmp rfl) (AEv.const _)) ?_
 refine mv rfl rfl rfl rfl ?_
 refine g_ (fun _ => mA) ?_
 refine g_ (fun _ => by first | exact S_lenM (e := 9) rfl (AEv.cd (.tmp rfl)) (by kernel_rfl) | exact S_len (e := 9) rfl (AEv.cd (.tmp rfl)) (by kernel_rfl)) ?_
 refine g_ (fun _ => S_subI rfl (AEv.cd (.tmp rfl)) (AEv.const _) (by (try simp only [gd, Bool.and_eq_true, Bool.or_eq_true, Bool.not_eq_true', Bool.not_eq_false', decide_eq_true_eq, decide_eq_false_iff_not, Bool.or_eq_false_iff, Bool.and_eq_false_iff] at *); omega) (by (try simp only [gd, Bool.and_eq_true, Bool.or_eq_true, Bool.not_eq_true', Bool.not_eq_false', decide_eq_true_eq, decide_eq_false_iff_not, Bool.or_eq_false_iff, Bool.and_eq_false_iff] at *); omega)) ?_
 refine g_ (fun _ => fA 1) ?_
 refine g_ (fun _ => lA 0) ?_
 refine g_ (fun _ => S_lss rfl (AEv.cd (.tmp rfl)) (AEv.cd (.tmp rfl))) ?_
 refine p_ (S_or rfl (.tmp rfl) (fun hp22 => (AEv.cd (.tmp rfl)))) ?_
 refine AL_nil ?_
 refine AC_cond (.tmp rfl) (fun hb23 => ?_) (fun hb23 => ?_)
 ·try simp only [zA,zO,zN,zM,zP,zQ,zD,zF,gd] at hb23
  have hx : parseE s = none := by
   rcases hb23 with h | h
   ·exact parse_noverb hps (by omega)
   ·exact parse_few hps (by simp only [List.length_cons] at h; omega)
  refine AC_seq (AC_region ?_)
  refine p_ (S_build (t := 36) (pl := [(0, 1), (1, 1), (2, 1)]) (zs := [.int .i64 0, .slice none 0 0, .string ⟨#[]⟩]) rfl AEvs.nil (by kernel_rfl) rfl) ?_
  refine stW 2 ?_
  refine ac rfl rfl rfl ?_
  refine AL_nil (AC_ret ?_)
  refine ret_outs st rfl (by decide) (OutsR.row 2 rfl rfl (by kernel_rfl) (OutsR.tmp rfl OutsR.nil)) (Sub.l (List.Sublist.cons _ (List.Sublist.cons _ (List.Sublist.cons _ (List.Sublist.refl _))))) (Conv.le (Sub.l (List.Sublist.cons _ (List.Sublist.cons _ (List.Sublist.cons _ (List.Sublist.refl _))))) (Les.tup (.cons (Les.agg (.cons (Le.refl _) (.cons Le.nils (.cons (Le.refl _) .nil)))) (.cons (Le.refl _) .nil)))) ⟨by rw [hx]; rfl, rfl⟩ (.inl rfl)
 try simp only [zA,zO,zN,zM,zP,zQ,zD,zF,gd] at hb23
 simp only [List.length_cons] at hb23
 have h0 : findV w ≠ 0 := by omega
 have hlk : (verbA (findV w)).2.1 ≤ (l.length : Int) := by omega
 have hlk2 : (l.take (verbA (findV w)).2.1.toNat).length = (verbA (findV w)).2.1.toNat := by rw [List.length_take]; omega
 refine AC_skip ?_
 refine AC_seq ?_
 refine AC_seq (AC_region ?_)
 refine mv rfl rfl rfl rfl ?_
 refine fl 1 ?_
 refine ld 0 ?_
 refine p_ (S_addI rfl (AEv.const _) (.tmp rfl) (by omega) (by omega)) ?_
 refine p_ ((S_cutLHM (e := 9) (i := 1) (j := 1 + (verbA (findV w)).2.1.toNat) 1 rfl (.tmp rfl) (AEv.const _) ((AEv.tmp rfl).le (Le.of_eq (congrArg (AV.int _) (by omega)))) (by kernel_rfl) (by kernel_rfl) (fun _ => rfl) (by omega) (by simp only [List.length_cons]; omega)).ofV (V' := .sl (strsV (l.take (verbA (findV w)).2.1.toNat))) (congrArg (fun x => AV.sl (strsV x)) (by rw [Nat.add_comm, List.take_succ_cons]; rfl))) ?_
 refine p_ (by first | exact S_lenM (e := 9) rfl (.tmp rfl) (by kernel_rfl) | exact S_len (e := 9) rfl (.tmp rfl) (by kernel_rfl)) ?_
 refine p_ (S_move rfl (AEv.const _)) ?_
 refine AL_nil ?_
 refine AC_block ?_
 refine AC_loopK (G := Nat × Own) [(2, _), (4, _), (5, _), (6, _), (40, _), (41, _)] (fun g => g.1 ≤ (l.take (verbA (findV w)).2.1.toNat).length ∧ g.2.ok (intsV (numsOf (l.take (g.1)))) ∧ ∀ j (hj : j < l.length), j < g.1 → (parseV l[j] 1073741824).2 = true) (fun g => [(42, .int .i64 (g.1 : Int))]) (fun g => (b6, .cells [.S (verbA (findV w)).1, .int .i64 (verbA (findV w)).2.1, .int .i64 (verbA (findV w)).2.2]) :: (b5, .cells [.int .i64 ((findV w : Nat) : Int), ownAV g.2 1 (intsV (numsOf (l.take (g.1)))), .S []]) :: (b2, .cells [.int .i64 0, .nils, .S []]) :: (ownSt g.2 3 1 (intsV (numsOf (l.take (g.1)))) ++ st)) (fun g => (l.take (verbA (findV w)).2.1.toNat).length - g.1) ((0, .nil)) (⟨Nat.zero_le _, rfl, fun j _ h => absurd h (Nat.not_lt_zero _)⟩) (Sub.l (List.Sublist.refl _)) (.cons rfl (Le.refl _) (.cons rfl (Le.refl _) (.cons rfl (Le.refl _) (.cons rfl (Le.refl _) (.cons rfl (Le.refl _) (.cons rfl (Le.refl _) .nil)))))) (.cons rfl (by first | exact Le.refl _ | exact Le.nils | exact Le.row _ _ _ _ | exact Le.of_eq (by first | rfl | (simp; done) | (push_cast; rfl) | (simp; omega))) .nil) ?_
 rintro ⟨i, p⟩ ⟨hi, hq, hall⟩
 try dsimp only
 simp only [List.cons_append, List.nil_append]
 dsimp only at hi hq hall
 have hnl := nums_len (l.take i)
 rw [List.length_take] at hnl
 refine AC_seq (AC_region ?_)
 refine p_ (S_lss rfl (.tmp rfl) (.tmp rfl)) ?_
 refine AL_nil ?_
 refine AC_seq ?_
 refine AC_cond (.tmp rfl) (fun hb24 => ?_) (fun hb24 => ?_)
 ·try simp only [zA,zO,zN,zM,zP,zQ,zD,zF,gd] at hb24
  have hik : i < (l.take (verbA (findV w)).2.1.toNat).length := by omega
  have hil : i < l.length := by rw [List.length_take] at hik; omega
  refine AC_skip ?_
  refine AC_seq ?_
  refine AC_block ?_
  refine AC_seq (AC_region ?_)
  refine p_ (S_elemN (e := 9) 1 rfl (.tmp rfl) (.tmp rfl) (by kernel_rfl) (by kernel_rfl) (by omega) (fun _ => rfl)) ?_
  refine p_ ((S_loadP rfl (.tmp rfl) rfl (by kernel_rfl)).ofV (V' := .S (l[i]'hil)) (congrArg AV.S List.getElem_take)) ?_
  refine as_ rfl rfl rfl rfl ?_
  refine AL_nil (AC_seq (AC_region ?_))
  refine mv rfl rfl rfl rfl ?_
  refine p_ (S_pcall rfl (AEvs.cons (.tmp rfl) (AEvs.cons (AEv.const _) AEvs.nil)) (num_Parse_ok (l[i]'hil) 1073741824)) ?_
  refine mv rfl rfl rfl rfl ?_
  refine ex 0 ?_
  refine ex 1 ?_
  refine as_ rfl rfl rfl rfl ?_
  refine as_ rfl rfl rfl rfl ?_
  refine AL_nil ?_
  refine AC_seq ?_
  refine AC_seq (AC_region ?_)
  refine mv rfl rfl rfl rfl ?_
  refine p_ (S_not rfl (.tmp rfl)) ?_
  refine AL_nil ?_
  refine AC_cond (.tmp rfl) (fun hb25 => ?_) (fun hb25 => ?_)
  ·try simp only [zA,zO,zN,zM,zP,zQ,zD,zF,gd] at hb25
   have hx := parse_nonum hps (by omega) hil (by simpa using hb25)
   refine AC_seq (AC_region ?_)
   refine p_ (S_build (t := 36) (pl := [(0, 1), (1, 1), (2, 1)]) (zs := [.int .i64 0, .slice none 0 0, .string ⟨#[]⟩]) rfl AEvs.nil (by kernel_rfl) rfl) ?_
   refine stW 2 ?_
   refine ac rfl rfl rfl ?_
   refine AL_nil (AC_ret ?_)
   refine ret_outs st rfl (by decide) (OutsR.row 2 rfl rfl (by kernel_rfl) (OutsR.tmp rfl OutsR.nil)) (Sub.l ((((List.sublist_append_right _ _).cons _).cons _).cons _)) (Conv.le (Sub.l ((((List.sublist_append_right _ _).cons _).cons _).cons _)) (Les.tup (.cons (Les.agg (.cons (Le.refl _) (.cons Le.nils (.cons (Le.refl _) .nil)))) (.cons (Le.refl _) .nil)))) ⟨by rw [hx]; rfl, rfl⟩ (.inl rfl)
  try simp only [zA,zO,zN,zM,zP,zQ,zD,zF,gd] at hb25
  have hok : (parseV (l[i]'hil) 1073741824).2 = true := by simpa using hb25
  refine AC_skip ?_
  refine AC_region ?_
  refine fl 1 ?_
  refine ld 1 ?_
  refine mv rfl rfl rfl rfl ?_
  refine p_ (S_buildSlice (e := 3) 1 rfl (AEvs.cons (.tmp rfl) AEvs.nil) rfl (by kernel_rfl) (by kernel_rfl) (by intro y hy; simp only [List.mem_cons, List.not_mem_nil, or_false] at hy; rcases hy with rfl <;> exact ⟨rfl, rfl⟩) (by decide) (by decide) (by decide)) ?_
  refine s_ (S_appendM (f := (fun n : Int => AV.int .i64 n)) (l := numsOf (l.take i)) (l2 := [(parseV (l[i]'hil) 1073741824).1]) (e := 3) (size := 1) (bytes := 8) (p := p) ([_, _, _]) (st) rfl (.tmp rfl) (.tmp rfl) rfl hq (by kernel_rfl) (by simp) (fun _ => ⟨rfl, rfl⟩) (by rw [nums_len, List.length_take]; simp only [List.length_singleton]; omega) (by rw [nums_len, List.length_take]; simp only [List.length_singleton]; omega)) ?_
  rintro _ _ ⟨b8, k8, cap8, hx8, rfl, rfl⟩
  refine fl 1 ?_
  refine s_ (S_store 1 rfl (.tmp rfl) (.tmp rfl) rfl (by first | exact Nat.le_of_ble_eq_true rfl | simp) (by first | rfl | exact ownAV_one _ _ _) (by kernel_rfl)) ?_
  rintro _ _ ⟨rfl, rfl⟩
  refine AL_nil ?_
  refine AC_region ?_
  refine p_ (S_addI rfl (.tmp rfl) (AEv.const _) (by omega) (by omega)) ?_
  refine mv rfl rfl rfl rfl ?_
  refine AL_nil ?_
  refine ⟨(i + 1, .row b8 k8 cap8), ⟨by dsimp only; omega, by dsimp only; rw [nums_next hil]; exact hx8, fun j hj h => ?_⟩, by dsimp only; omega, by dsimp only; rw [nums_next hil]; exact (Sub.l (List.Sublist.refl _)), (.cons rfl (by first | exact Le.refl _ | exact Le.nils | exact Le.row _ _ _ _ | exact Le.of_eq (by first | rfl | (simp; done) | (push_cast; rfl) | (simp; omega))) .nil), (.cons rfl (Le.refl _) (.cons rfl (Le.refl _) (.cons rfl (Le.refl _) (.cons rfl (Le.refl _) (.cons rfl (Le.refl _) (.cons rfl (Le.refl _) .nil))))))⟩
  rcases Nat.lt_or_ge j i with h9 | h9
  ·exact hall j hj h9
  ·have e9 : j = i := by dsimp only at h; omega
   subst e9; exact hok
 try simp only [zA,zO,zN,zM,zP,zQ,zD,zF,gd] at hb24
 have hik : i = (verbA (findV w)).2.1.toNat := by omega
 subst hik
 have hcand := parse_cand hps h0 hlk fun j hj h => hall j hj (by omega)
 refine AC_exit ?_
 refine AC_seq ?_
 refine AC_draw (by kernel_rfl) (by kernel_rfl) (.cons rfl (Q_p rfl (S_field 2 rfl (.tmp rfl) (by kernel_rfl))) <|
   .cons rfl (Q_p rfl (S_load 0 rfl (.tmp rfl) rfl rfl (by kernel_rfl))) <|
   .cons rfl (Q_p rfl (S_move rfl (.tmp rfl))) <|
   .cons rfl (Q_p rfl (S_field 1 rfl (.tmp rfl) (by kernel_rfl))) <|
   .cons rfl (Q_p rfl (S_load 0 rfl (.tmp rfl) rfl rfl (by kernel_rfl))) <|
   .cons rfl (Q_p rfl (S_addI rfl (AEv.const _) (.tmp rfl) (by omega) (by omega))) <|
   .cons rfl (Q_p rfl ((S_cutLM (e := 9) (i := 1 + (verbA (findV w)).2.1.toNat) 1 rfl (.tmp rfl) ((AEv.tmp rfl).le (Le.of_eq (congrArg (AV.int _) (by omega)))) (by kernel_rfl) (by kernel_rfl) (fun _ => rfl) (by simp only [List.length_cons]; omega)).ofV (V' := .sl (strsV (l.drop (verbA (findV w)).2.1.toNat))) (congrArg (fun x => AV.sl (strsV x)) (by rw [Nat.add_comm, List.drop_succ_cons])))) <|
   .cons rfl (Q_p rfl (S_pcall rfl (AEvs.cons (.tmp rfl) (AEvs.cons (.tmp rfl) AEvs.nil)) (data_ok (verbA (findV w)).2.2 (l.drop (verbA (findV w)).2.1.toNat) (fun x hx => by have := hpl x (List.mem_cons_of_mem _ (List.mem_of_mem_drop hx)); omega)))) <|
   .cons rfl (Q_p rfl (S_move rfl (.tmp rfl))) <|
   .cons rfl (Q_p rfl (S_extract 0 rfl (.tmp rfl) rfl)) <|
   .cons rfl (Q_p rfl (S_extract 1 rfl (.tmp rfl) rfl)) <|
   .cons rfl (Q_p rfl (S_assign rfl (.tmp rfl))) <|
   .cons rfl (Q_p rfl (S_assign rfl (.tmp rfl))) <|
   .nil) ?_
 refine AC_seq ?_
 refine AC_seq (AC_region ?_)
 refine mv rfl rfl rfl rfl ?_
 refine fl 2 ?_
 refine st1 1 ?_
 refine AL_nil (AC_seq (AC_region ?_))
 refine mv rfl rfl rfl rfl ?_
 refine p_ (S_not rfl (.tmp rfl)) ?_
 refine mv rfl rfl rfl rfl ?_
 refine g_ (fun _ => (S_loadN (m := 3) 1 rfl (.tmp rfl) rfl (by kernel_rfl) (by exact Nat.le_of_ble_eq_true rfl)).leV (V' := entAV (candE w l)) (by exact (Les.agg (.cons (Le.refl _) (.cons (Le_own hq) (.cons (Le.refl _) .nil)))))) ?_
 refine g_ (fun _ => S_gcall rfl (AEvs.cons (AEv.cd (.tmp rfl)) AEvs.nil) ((scr_Right_ok (candE w l) (by show (numsOf _).length ≤ _; rw [nums_len, List.length_take]; omega)) _ (fun p hp => by repeat (first | exact hG p hp | exact hG p (List.mem_cons_of_mem _ hp) | refine List.mem_cons_of_mem _ ?_ | refine List.mem_append_right _ ?_)))) ?_
 refine g_ (fun _ => S_not rfl (AEv.cd (.tmp rfl))) ?_
 refine p_ (S_or rfl (.tmp rfl) (fun hp37 => (AEv.cd (.tmp rfl)))) ?_
 refine AL_nil ?_
 refine AC_cond (.tmp rfl) (fun hb38 => ?_) (fun hb38 => ?_)
 ·try simp only [zA,zO,zN,zM,zP,zQ,zD,zF,gd] at hb38
  have hx : parseE s = none := by rw [hcand, if_neg (fun h => hb38.elim (fun k => by rw [h.1] at k; cases k) (fun k => by rw [h.2] at k; cases k))]
  refine AC_seq (AC_region ?_)
  refine p_ (S_build (t := 36) (pl := [(0, 1), (1, 1), (2, 1)]) (zs := [.int .i64 0, .slice none 0 0, .string ⟨#[]⟩]) rfl AEvs.nil (by kernel_rfl) rfl) ?_
  refine stW 2 ?_
  refine ac rfl rfl rfl ?_
  refine AL_nil (AC_ret ?_)
  refine ret_outs st rfl (by decide) (OutsR.row 2 rfl rfl (by kernel_rfl) (OutsR.tmp rfl OutsR.nil)) (Sub.l ((((List.sublist_append_right _ _).cons _).cons _).cons _)) (Conv.le (Sub.l ((((List.sublist_append_right _ _).cons _).cons _).cons _)) (Les.tup (.cons (Les.agg (.cons (Le.refl _) (.cons Le.nils (.cons (Le.refl _) .nil)))) (.cons (Le.refl _) .nil)))) ⟨by rw [hx]; rfl, rfl⟩ (.inl rfl)
 try simp only [zA,zO,zN,zM,zP,zQ,zD,zF,gd] at hb38
 have hx : parseE s = some (candE w l) := by rw [hcand, if_pos hb38]
 refine AC_skip ?_
 refine AC_seq (AC_region ?_)
 refine p_ ((S_loadN (m := 3) 1 rfl (.tmp rfl) rfl (by kernel_rfl) (by exact Nat.le_of_ble_eq_true rfl)).leV (V' := entAV (candE w l)) (by exact (Les.agg (.cons (Le.refl _) (.cons (Le_own hq) (.cons (Le.refl _) .nil)))))) ?_
 refine stW 2 ?_
 refine ac rfl rfl rfl ?_
 refine AL_nil (AC_ret ?_)
 refine ret_outs st rfl (by decide) (OutsR.row 2 rfl rfl (by kernel_rfl) (OutsR.tmp rfl OutsR.nil)) (Sub.l ((((List.sublist_append_right _ _).cons _).cons _).cons _)) (Conv.refl (Sub.l ((((List.sublist_append_right _ _).cons _).cons _).cons _)) _) ⟨by rw [hx]; rfl, rfl⟩ (.inl rfl)
theorem scr_Read_ok (s : List UInt8) (hs : s.length ≤ 1000000) : GCalls Tryz.prog tabs 17 [.S s] (.tup [.sl ((readV s).1.map entAV), erV 45 185 (lineEr (readV s).2)]) := by
 intro st hG
 refine co 44 Tryz.func17 ?_
 have hpl := partsB_le 10 s
 have hpc := parts_few 10 s
 have hel0 := ents_len
 refine AC_seq (AC_region ?_)
 refine ac rfl rfl rfl ?_
 refine ac rfl rfl rfl ?_
 refine AL_nil (AC_seq (AC_region ?_))
 refine ac rfl rfl rfl ?_
 refine AL_nil ?_
 refine AC_seq ?_
 refine AC_seq (AC_region ?_)
 refine mv rfl rfl rfl rfl ?_
 refine p_ (S_pcall rfl (AEvs.cons (.tmp rfl) (AEvs.cons (AEv.S _) AEvs.nil)) (strings_Split_ok s 10 (by omega))) ?_
 refine p_ (by first | exact S_lenM (e := 9) rfl (.tmp rfl) (by kernel_rfl) | exact S_len (e := 9) rfl (.tmp rfl) (by kernel_rfl)) ?_
 refine p_ (S_move rfl (AEv.const _)) ?_
 refine AL_nil ?_
 refine AC_block ?_
 refine AC_loopK (G := Nat × Own) [(10, _), (11, _)] (fun g => g.1 ≤ (partsB 10 s).length ∧ g.2.ok ((entsOf ((partsB 10 s).take g.1)).map entAV) ∧ ∀ j (hj : j < (partsB 10 s).length), j < g.1 → badB (partsB 10 s)[j] = false) (fun g => [(4, ownAV g.2 3 ((entsOf ((partsB 10 s).take g.1)).map entAV)), (12, .int .i64 (g.1 : Int))]) (fun g => ownSt g.2 36 3 ((entsOf ((partsB 10 s).take (g.1))).map entAV) ++ st) (fun g => (partsB 10 s).length - g.1) ((0, .nil)) (⟨Nat.zero_le _, rfl, fun j _ h => absurd h (Nat.not_lt_zero _)⟩) (Sub.l (List.Sublist.refl _)) (.cons rfl (Le.refl _) (.cons rfl (Le.refl _) .nil)) (.cons rfl (by first | exact Le.refl _ | exact Le.nils | exact Le.row _ _ _ _ | exact Le.of_eq (by first | rfl | (simp; done) | (push_cast; rfl) | (simp; omega))) (.cons rfl (by first | exact Le.refl _ | exact Le.nils | exact Le.row _ _ _ _ | exact Le.of_eq (by first | rfl | (simp; done) | (push_cast; rfl) | (simp; omega))) .nil)) ?_
 rintro ⟨i, p⟩ ⟨hi, hq, hall⟩
 try dsimp only
 simp only [List.cons_append, List.nil_append]
 dsimp only at hi hq hall
 have hel := hel0 ((partsB 10 s).take i)
 rw [List.length_take] at hel
 refine AC_seq (AC_region ?_)
 refine p_ (S_lss rfl (.tmp rfl) (.tmp rfl)) ?_
 refine AL_nil ?_
 refine AC_seq ?_
 refine AC_cond (.tmp rfl) (fun hb1 => ?_) (fun hb1 => ?_)
 ·try simp only [zA,zO,zN,zM,zP,zQ,zD,zF,gd] at hb1
  have hil : i < (partsB 10 s).length := by omega
  refine AC_skip ?_
  refine AC_seq ?_
  refine AC_block ?_
  refine AC_seq (AC_region ?_)
  refine mv rfl rfl rfl rfl ?_
  refine p_ (S_elemN (e := 9) 1 rfl (.tmp rfl) (.tmp rfl) (by kernel_rfl) (by kernel_rfl) (by omega) (fun _ => rfl)) ?_
  refine p_ (S_loadP rfl (.tmp rfl) rfl (by kernel_rfl)) ?_
  refine as_ rfl rfl rfl rfl ?_
  refine as_ rfl rfl rfl rfl ?_
  refine AL_nil ?_
  refine AC_seq ?_
  refine AC_seq (AC_region ?_)
  refine mv rfl rfl rfl rfl ?_
  refine p_ (S_eqS rfl (.tmp rfl) (AEv.S _)) ?_
  refine mv rfl rfl rfl rfl ?_
  refine g_ (fun _ => mA) ?_
  refine g_ (fun _ => S_index rfl (AEv.cd (.tmp rfl)) (AEv.const _) (by kernel_rfl) (by omega) (by (try simp only [gd, Bool.not_eq_true', Bool.not_eq_false', decide_eq_true_eq, decide_eq_false_iff_not] at *); exact Int.natCast_pos.2 (List.length_pos_iff.2 (by assumption)))) ?_
  refine g_ (fun _ => S_eql rfl (AEv.cd (.tmp rfl)) (AEv.const _)) ?_
  refine p_ (S_or rfl (.tmp rfl) (fun hp11 => (AEv.cd (.tmp rfl)))) ?_
  refine AL_nil ?_
  refine AC_cond (.tmp rfl) (fun hb12 => ?_) (fun hb12 => ?_)
  ·try simp only [zA,zO,zN,zM,zP,zQ,zD,zF,gd] at hb12
   have hsk : skipB ((partsB 10 s)[i]'hil) = true := skip_yes hb12
   refine AC_exit ?_
   refine AC_region ?_
   refine p_ (S_addI rfl (.tmp rfl) (AEv.const _) (by omega) (by omega)) ?_
   refine mv rfl rfl rfl rfl ?_
   refine AL_nil ?_
   refine ⟨(i + 1, p), ⟨by dsimp only; omega, by dsimp only; rw [ents_skip hil hsk]; exact hq, fun j hj h => ?_⟩, by dsimp only; omega, by dsimp only; rw [ents_skip hil hsk]; exact (Sub.l (List.Sublist.refl _)), (.cons rfl (Le.of_eq (by dsimp only; first | rw [ents_skip hil hsk] | rw [ents_nextD hil hsk hso])) (.cons rfl (by first | exact Le.refl _ | exact Le.nils | exact Le.row _ _ _ _ | exact Le.of_eq (by first | rfl | (simp; done) | (push_cast; rfl) | (simp; omega))) .nil)), (.cons rfl (Le.refl _) (.cons rfl (Le.refl _) .nil))⟩
   rcases Nat.lt_or_ge j i with h9 | h9
   ·exact hall j hj h9
   ·have e9 : j = i := by dsimp only at h; omega
    subst e9; exact bad_skip hsk
  try simp only [zA,zO,zN,zM,zP,zQ,zD,zF,gd] at hb12
  have hsk : ¬ skipB ((partsB 10 s)[i]'hil) = true := skip_no hb12.1 hb12.2
  refine AC_skip ?_
  refine AC_seq (AC_region ?_)
  refine mv rfl rfl rfl rfl ?_
  refine p_ (S_gcall rfl (AEvs.cons (.tmp rfl) AEvs.nil) ((scr_Parse_ok ((partsB 10 s)[i]'hil) (by have := hpl _ (List.getElem_mem hil); omega)) _ (fun p hp => by repeat (first | exact hG p hp | exact hG p (List.mem_cons_of_mem _ hp) | refine List.mem_cons_of_mem _ ?_ | refine List.mem_append_right _ ?_)))) ?_
  refine mv rfl rfl rfl rfl ?_
  refine ex 0 ?_
  refine ex 1 ?_
  refine s_ (S_alloc [.int .i64 0, .slice none 0 0, .string ⟨#[]⟩] rfl (by kernel_rfl)) ?_
  rintro _ _ ⟨b7, rfl, rfl⟩
  refine stW 0 ?_
  refine as_ rfl rfl rfl rfl ?_
  refine AL_nil ?_
  refine AC_seq ?_
  refine AC_seq (AC_region ?_)
  refine mv rfl rfl rfl rfl ?_
  refine p_ (S_neq rfl (.tmp rfl) (AEv.const _)) ?_
  refine AL_nil ?_
  refine AC_cond (.tmp rfl) (fun hb14 => ?_) (fun hb14 => ?_)
  ·try simp only [zA,zO,zN,zM,zP,zQ,zD,zF,gd] at hb14
   have hno := code_none hb14
   have hx : readV s = ([], i + 1) := by
    have h9 := bad_hit hil (bad_yes hsk hno) fun j hj h => hall j hj h
    unfold readV; rw [h9, if_neg (by omega)]
   refine AC_seq (AC_region ?_)
   refine mv rfl rfl rfl rfl ?_
   refine mv rfl rfl rfl rfl ?_
   refine p_ (S_addI rfl (.tmp rfl) (AEv.const _) (by omega) (by omega)) ?_
   refine p_ (S_pcall rfl (AEvs.cons (.tmp rfl) AEvs.nil) (num_Text_ok ((i : Int) + 1) ⟨by omega, by omega⟩)) ?_
   refine p_ (S_cat rfl (AEv.S _) (.tmp rfl) (by first | omega | (have := textL_len (a := (i : Int) + 1) ⟨by omega, by omega⟩; simp only [List.length_cons, List.length_nil]; omega))) ?_
   refine p_ (S_buildSlice (e := 9) 1 rfl (AEvs.cons (.tmp rfl) AEvs.nil) rfl (by kernel_rfl) (by kernel_rfl) (by intro y hy; simp only [List.mem_cons, List.not_mem_nil, or_false] at hy; rcases hy with rfl <;> exact ⟨rfl, rfl⟩) (by decide) (by decide) (by decide)) ?_
   refine p_ (S_pcall rfl (AEvs.cons (y := .int .i64 460) ((AEv.tmp rfl).le (Le.of_eq (by rw [hno]; rfl))) (AEvs.cons (.tmp rfl) AEvs.nil)) (fail_New_ok 460 [[108, 105, 110, 101, 32] ++ textL ((i : Int) + 1)] (by simp))) ?_
   refine ac rfl rfl rfl ?_
   refine as_ rfl rfl rfl rfl ?_
   refine AL_nil (AC_ret ?_)
   refine ret_tmps (ts := [2, 3]) st rfl (by decide) rfl (Sub.l ((List.sublist_append_right _ _).cons _)) (Conv.le (Sub.l ((List.sublist_append_right _ _).cons _)) (Les.tup (.cons Le.nils (.cons (Le.refl _) .nil)))) ⟨by rw [hx]; rfl, rfl⟩ (.inl rfl)
  try simp only [zA,zO,zN,zM,zP,zQ,zD,zF,gd] at hb14
  have hso := code_some hb14
  refine AC_skip ?_
  refine AC_region ?_
  refine mv rfl rfl rfl rfl ?_
  refine ldN 3 0 ?_
  refine p_ (S_buildSlice (e := 36) 3 rfl (AEvs.cons (.tmp rfl) AEvs.nil) rfl (by kernel_rfl) (by kernel_rfl) (by intro y hy; simp only [List.mem_cons, List.not_mem_nil, or_false] at hy; rcases hy with rfl <;> exact ⟨rfl, rfl⟩) (by decide) (by decide) (by decide)) ?_
  refine s_ (S_appendM (f := entAV) (l := entsOf ((partsB 10 s).take i)) (l2 := [((parseE ((partsB 10 s)[i]'hil)).getD ent0)]) (e := 36) (size := 3) (bytes := 48) (p := p) ([_]) (st) rfl (.tmp rfl) (.tmp rfl) rfl hq (by kernel_rfl) (by simp) (fun _ => ⟨rfl, rfl⟩) (by simp only [List.length_singleton]; omega) (by simp only [List.length_singleton]; omega)) ?_
  rintro _ _ ⟨b8, k8, cap8, hx8, rfl, rfl⟩
  refine as_ rfl rfl rfl rfl ?_
  refine AL_nil ?_
  refine AC_region ?_
  refine p_ (S_addI rfl (.tmp rfl) (AEv.const _) (by omega) (by omega)) ?_
  refine mv rfl rfl rfl rfl ?_
  refine AL_nil ?_
  refine ⟨(i + 1, .row b8 k8 cap8), ⟨by dsimp only; omega, by dsimp only; rw [ents_nextD hil hsk hso]; exact hx8, fun j hj h => ?_⟩, by dsimp only; omega, by dsimp only; rw [ents_nextD hil hsk hso]; exact (Sub.l (List.sublist_cons_self _ _)), (.cons rfl (Le.of_eq (by dsimp only; first | rw [ents_skip hil hsk] | rw [ents_nextD hil hsk hso])) (.cons rfl (by first | exact Le.refl _ | exact Le.nils | exact Le.row _ _ _ _ | exact Le.of_eq (by first | rfl | (simp; done) | (push_cast; rfl) | (simp; omega))) .nil)), (.cons rfl (Le.refl _) (.cons rfl (Le.refl _) .nil))⟩
  rcases Nat.lt_or_ge j i with h9 | h9
  ·exact hall j hj h9
  ·have e9 : j = i := by dsimp only at h; omega
   subst e9; exact bad_some hso
 try simp only [zA,zO,zN,zM,zP,zQ,zD,zF,gd] at hb1
 have hx : readV s = (entsOf (partsB 10 s), 0) := by
  have h9 := bad_none (ls := (partsB 10 s)) fun j hj => hall j hj (by omega)
  unfold readV; rw [h9, if_pos rfl]
 rw [List.take_of_length_le (by omega)] at hq ⊢
 refine AC_exit ?_
 refine AC_seq (AC_region ?_)
 refine mv rfl rfl rfl rfl ?_
 refine as_ rfl rfl rfl rfl ?_
 refine ac rfl rfl rfl ?_
 refine AL_nil (AC_ret ?_)
 refine ret_tmps (ts := [2, 3]) st rfl (by decide) rfl (Sub.l (List.sublist_append_right _ _)) (Conv.le (Sub.l (List.sublist_append_right _ _)) (Les.tup (.cons (Le_own hq) (.cons (Le.refl _) .nil)))) ⟨by rw [hx]; rfl, rfl⟩ (.inl rfl)
end Go.Proofs.YtfpkefhjomeeeaaGreatDoor

set_option maxRecDepth 100000
namespace Go.Proofs.YtfpkefhjomeeeaaGreatDoor
open Go.AL Go.NumSpec
theorem law45_works_ok : GCalls Tryz.prog tabs 6 [] (.bool true) := by
 intro st hG
 refine co 54 Tryz.func6 ?_
 refine AC_seq (AC_region ?_)
 refine ac rfl rfl rfl ?_
 refine AL_nil (AC_seq (AC_region ?_))
 refine p_ (S_gcall rfl (AEvs.cons (AEv.S _) AEvs.nil) ((GCalls.of_eq (scr_Parse_ok [103, 101, 116, 32, 49, 32, 53] (by decide)) (congrArg entP works_get)) _ (fun p hp => by repeat (first | exact hG p hp | exact hG p (List.mem_cons_of_mem _ hp) | refine List.mem_cons_of_mem _ ?_ | refine List.mem_append_right _ ?_)))) ?_
 refine mv rfl rfl rfl rfl ?_
 refine ex 0 ?_
 refine ex 1 ?_
 refine s_ (S_alloc [.int .i64 0, .slice none 0 0, .string ⟨#[]⟩] rfl (by kernel_rfl)) ?_
 rintro _ _ ⟨b1, rfl, rfl⟩
 refine stW 0 ?_
 refine as_ rfl rfl rfl rfl ?_
 refine AL_nil (AC_seq (AC_region ?_))
 refine p_ (S_gcall rfl (AEvs.cons (AEv.S _) AEvs.nil) ((GCalls.of_eq (scr_Read_ok [35, 32, 97, 10, 10, 116, 105, 99, 107, 10, 114, 111, 117, 110, 100, 10] (by decide)) (congrArg (fun x : List Ent × Nat => AV.tup [.sl (x.1.map entAV), erV 45 185 (lineEr x.2)]) works_txt)) _ (fun p hp => by repeat (first | exact hG p hp | exact hG p (List.mem_cons_of_mem _ hp) | refine List.mem_cons_of_mem _ ?_ | refine List.mem_append_right _ ?_)))) ?_
 refine mv rfl rfl rfl rfl ?_
 refine ex 0 ?_
 refine ex 1 ?_
 refine as_ rfl rfl rfl rfl ?_
 refine as_ rfl rfl rfl rfl ?_
 refine AL_nil (AC_seq (AC_region ?_))
 refine mv rfl rfl rfl rfl ?_
 refine p_ (S_eql rfl (.tmp rfl) (AEv.const _)) ?_
 refine mv rfl rfl rfl rfl ?_
 refine g_ (fun _ => fA 0) ?_
 refine g_ (fun _ => lA 0) ?_
 refine g_ (fun _ => S_eql rfl (AEv.cd (.tmp rfl)) (AEv.const _)) ?_
 refine an ?_
 refine mv rfl rfl rfl rfl ?_
 refine g_ (fun _ => fA 1) ?_
 refine g_ (fun _ => lA 0) ?_
 refine g_ (fun _ => by first | exact S_lenM (e := 3) rfl (AEv.cd (.tmp rfl)) (by kernel_rfl) | exact S_len (e := 3) rfl (AEv.cd (.tmp rfl)) (by kernel_rfl)) ?_
 refine g_ (fun _ => S_eql rfl (AEv.cd (.tmp rfl)) (AEv.const _)) ?_
 refine an ?_
 refine mv rfl rfl rfl rfl ?_
 refine g_ (fun _ => fA 1) ?_
 refine g_ (fun _ => lA 0) ?_
 refine g_ (fun _ => S_elemD (e := 3) (i := 1) (f := (fun n : Int => AV.int .i64 n)) (l := [1, 5]) (0 : Int) 1 rfl (AEv.cd (.tmp rfl)) (AEv.const _) (by kernel_rfl) (by kernel_rfl) (by decide) (fun _ => rfl)) ?_
 refine g_ (fun _ => S_loadP rfl (AEv.cd (.tmp rfl)) rfl (by kernel_rfl)) ?_
 refine g_ (fun _ => S_eql rfl (AEv.cd (.tmp rfl)) (AEv.const _)) ?_
 refine an ?_
 refine mv rfl rfl rfl rfl ?_
 refine g_ (fun _ => S_loadN (m := 3) 0 rfl (.tmp rfl) rfl (by kernel_rfl) (by first | exact Nat.le_of_ble_eq_true rfl | (simp; omega) | simp)) ?_
 refine g_ (fun _ => S_gcall rfl (AEvs.cons (AEv.cd (.tmp rfl)) AEvs.nil) ((GCalls.of_eq (scr_Line_ok ⟨14, [1, 5], []⟩ (by decide)) (congrArg AV.S works_line)) _ (fun p hp => by repeat (first | exact hG p hp | exact hG p (List.mem_cons_of_mem _ hp) | refine List.mem_cons_of_mem _ ?_ | refine List.mem_append_right _ ?_)))) ?_
 refine g_ (fun _ => S_eqS rfl (AEv.cd (.tmp rfl)) (AEv.S _)) ?_
 refine an ?_
 refine mv rfl rfl rfl rfl ?_
 refine g_ (fun _ => mA) ?_
 refine g_ (fun _ => S_eqlE (er_is 45 185 (lineEr 0)) rfl (AEv.cd (.tmp rfl)) (by kernel_rfl)) ?_
 refine an ?_
 refine mv rfl rfl rfl rfl ?_
 refine g_ (fun _ => mA) ?_
 refine g_ (fun _ => by first | exact S_lenM (e := 36) rfl (AEv.cd (.tmp rfl)) (by kernel_rfl) | exact S_len (e := 36) rfl (AEv.cd (.tmp rfl)) (by kernel_rfl)) ?_
 refine g_ (fun _ => S_eql rfl (AEv.cd (.tmp rfl)) (AEv.const _)) ?_
 refine an ?_
 refine mv rfl rfl rfl rfl ?_
 refine g_ (fun _ => mA) ?_
 refine g_ (fun _ => S_elemD (e := 36) (i := 1) (f := entAV) (l := [⟨5, [], []⟩, ⟨6, [], []⟩]) (⟨0, [], []⟩ : Ent) 3 rfl (AEv.cd (.tmp rfl)) (AEv.const _) (by kernel_rfl) (by kernel_rfl) (by decide) (fun _ => rfl)) ?_
 refine g_ (fun _ => S_fieldP 0 rfl (AEv.cd (.tmp rfl)) (by kernel_rfl)) ?_
 refine g_ (fun _ => S_loadP rfl (AEv.cd (.tmp rfl)) rfl (by kernel_rfl)) ?_
 refine g_ (fun _ => S_eql rfl (AEv.cd (.tmp rfl)) (AEv.const _)) ?_
 refine an ?_
 refine as_ rfl rfl rfl rfl ?_
 refine AL_nil (AC_ret ?_)
 refine ret_tmp st rfl rfl (Sub.l (List.sublist_cons_self _ _)) (Conv.refl (Sub.l (List.sublist_cons_self _ _)) _) ⟨by rfl, rfl⟩ (.inl rfl)
end Go.Proofs.YtfpkefhjomeeeaaGreatDoor

set_option maxRecDepth 100000
namespace Go.Proofs.YtfpkefhjomeeeaaGreatDoor
open Go.AL Go.NumSpec
theorem scr_run_ok (e : Ent) (hn : (e.n.length : Int) = 4) : PCalls Tryz.prog 20 [entAV e] (calAV { cal0 1 with spec := runS e }) := by
 intro st
 refine co 24 Tryz.func20 ?_
 refine AC_seq (AC_region ?_)
 refine s_ (S_box rfl (.tmp rfl)) ?_
 rintro _ _ ⟨b1, rfl, rfl⟩
 refine s_ (S_alloc [.int .i64 0, .int .i64 0, .int .u64 0, .string ⟨#[]⟩, .slice none 0 0, .slice none 0 0, .slice none 0 0, .int .i64 0, .int .i64 0, .int .i64 0, .int .i64 0, .int .i64 0, .int .i64 0, .int .i64 0, .string ⟨#[]⟩, .slice none 0 0] rfl (by kernel_rfl)) ?_
 rintro _ _ ⟨b2, rfl, rfl⟩
 refine AL_nil ?_
 refine AC_seq ?_
 refine AC_plan (σ := [(0, 0), (1, 0), (2, 0), (3, 0), (4, 0), (5, 0), (6, 0), (7, 0), (8, 0), (9, 0), (10, 3), (11, 2)]) (by kernel_rfl) [_, _] (by kernel_rfl) (fun r hr => List.mem_append_left _ hr) ?_
 refine AG.f rfl rfl (fun st' hst => Q_p rfl (S_field 1 rfl (.tmp rfl) (by kernel_rfl))) ?_
 refine AG.f rfl rfl (fun st' hst => Q_p rfl (S_loadM rfl (.tmp rfl) (hst _ (List.mem_of_getElem? (i := 1) rfl)) rfl (by kernel_rfl))) ?_
 refine AG.f rfl rfl (fun st' hst => Q_p rfl (S_elemD (e := 3) (i := 2) (0 : Int) 1 rfl (.tmp rfl) (AEv.const _) (by kernel_rfl) (by kernel_rfl) (by omega) (fun _ => rfl))) ?_
 refine AG.f rfl rfl (fun st' hst => Q_p rfl (S_loadP rfl (.tmp rfl) rfl (by kernel_rfl))) ?_
 refine AG.f rfl rfl (fun st' hst => Q_p rfl (S_field 1 rfl (.tmp rfl) (by kernel_rfl))) ?_
 refine AG.f rfl rfl (fun st' hst => Q_p rfl (S_loadM rfl (.tmp rfl) (hst _ (List.mem_of_getElem? (i := 1) rfl)) rfl (by kernel_rfl))) ?_
 refine AG.f rfl rfl (fun st' hst => Q_p rfl (S_elemD (e := 3) (i := 3) (0 : Int) 1 rfl (.tmp rfl) (AEv.const _) (by kernel_rfl) (by kernel_rfl) (by omega) (fun _ => rfl))) ?_
 refine AG.f rfl rfl (fun st' hst => Q_p rfl (S_loadP rfl (.tmp rfl) rfl (by kernel_rfl))) ?_
 refine AG.f rfl rfl (fun st' hst => Q_p rfl (S_build (t := 63) (pl := [(0, 1), (1, 1), (2, 1)]) (zs := [.int .i64 0, .int .i64 0, .int .i64 0]) rfl (AEvs.cons (.tmp rfl) (AEvs.cons (.tmp rfl) AEvs.nil)) (by kernel_rfl) rfl)) ?_
 refine AG.f rfl rfl (fun st' hst => Q_p rfl (S_build (t := 67) (pl := [(0, 1), (1, 1), (2, 3), (5, 3), (8, 1), (9, 2)]) (zs := [.string ⟨#[]⟩, .string ⟨#[]⟩, .int .i64 0, .int .i64 0, .int .i64 0, .int .i64 0, .int .i64 0, .int .i64 0, .slice none 0 0, .int .i64 0, .int .i64 0]) rfl (AEvs.cons (AEv.S _) (AEvs.cons (AEv.S _) (AEvs.cons (.tmp rfl) AEvs.nil))) (by kernel_rfl) rfl)) ?_
 refine AG.al [(10, 3, [.string ⟨#[]⟩, .string ⟨#[]⟩, .int .i64 0, .int .i64 0, .int .i64 0, .int .i64 0, .int .i64 0, .int .i64 0, .slice none 0 0, .int .i64 0, .int .i64 0])] (by simp) (by simp) (AllocsAt.all (AllocsAt.cons rfl rfl rfl (by decide) rfl (by kernel_rfl) AllocsAt.nil)) (by simp) (fun β => ?_)
 simp only [allocEnv, allocSt, List.foldl_cons, List.foldl_nil, List.map_cons, List.map_nil, List.cons_append, List.nil_append]
 generalize β 3 = b3
 refine AG.h rfl rfl rfl (S_storeW 0 rfl (.tmp rfl) ((AEv.tmp rfl).le (z := ctrAV (runC e)) (by exact (Les.agg (.cons (Le.refl _) (.cons (Le.refl _) (.cons (Le.refl _) (.cons (Le.refl _) (.cons (Le.refl _) (.cons (Le.refl _) (.cons (Le.refl _) (.cons (Le.refl _) (.cons Le.nils (.cons (Le.refl _) (.cons (Le.refl _) .nil)))))))))))))) rfl rfl rfl (by kernel_rfl)) ?_
 rintro _ _ ⟨rfl, rfl⟩
 refine AG.nil ?_
 refine AC_seq ?_
 refine AC_plan (σ := [(0, 0), (1, 0), (2, 0), (3, 0), (4, 0), (5, 0), (6, 0), (7, 0), (8, 0), (9, 0), (10, 2)]) (by kernel_rfl) [_, _, _] (by kernel_rfl) (fun r hr => List.mem_append_left _ hr) ?_
 refine AG.f rfl rfl (fun st' hst => Q_p rfl (S_field 2 rfl (.tmp rfl) (by kernel_rfl))) ?_
 refine AG.f rfl rfl (fun st' hst => Q_p rfl (S_loadM rfl (.tmp rfl) (hst _ (List.mem_of_getElem? (i := 2) rfl)) rfl (by kernel_rfl))) ?_
 refine AG.f rfl rfl (fun st' hst => Q_p rfl (S_loadNM (m := 11) rfl (.tmp rfl) (hst _ (List.mem_of_getElem? (i := 0) rfl)) (by kernel_rfl) (by first | exact Nat.le_of_ble_eq_true rfl | (simp; omega) | simp))) ?_
 refine AG.f rfl rfl (fun st' hst => Q_p rfl (S_buildSlice (e := 67) 11 rfl (AEvs.cons (.tmp rfl) AEvs.nil) rfl (by kernel_rfl) (by kernel_rfl) (by intro y hy; simp only [List.mem_cons, List.not_mem_nil, or_false] at hy; rcases hy with rfl <;> exact ⟨rfl, rfl⟩) (by decide) (by decide) (by decide))) ?_
 refine AG.f rfl rfl (fun st' hst => Q_p rfl (S_field 1 rfl (.tmp rfl) (by kernel_rfl))) ?_
 refine AG.f rfl rfl (fun st' hst => Q_p rfl (S_loadM rfl (.tmp rfl) (hst _ (List.mem_of_getElem? (i := 2) rfl)) rfl (by kernel_rfl))) ?_
 refine AG.f rfl rfl (fun st' hst => Q_p rfl (S_elemD (e := 3) (i := 1) (0 : Int) 1 rfl (.tmp rfl) (AEv.const _) (by kernel_rfl) (by kernel_rfl) (by omega) (fun _ => rfl))) ?_
 refine AG.f rfl rfl (fun st' hst => Q_p rfl (S_loadP rfl (.tmp rfl) rfl (by kernel_rfl))) ?_
 refine AG.f rfl rfl (fun st' hst => Q_p rfl (S_build (t := 31) (pl := [(0, 1), (1, 1), (2, 1), (3, 1), (4, 1), (5, 1), (6, 1)]) (zs := [.string ⟨#[]⟩, .slice none 0 0, .slice none 0 0, .slice none 0 0, .int .i64 0, .int .i64 0, .int .i64 0]) rfl (AEvs.cons (.tmp rfl) (AEvs.cons (.tmp rfl) (AEvs.cons (.tmp rfl) AEvs.nil))) (by kernel_rfl) rfl)) ?_
 refine AG.f rfl rfl (fun st' hst => Q_p rfl (S_build (t := 33) (pl := [(0, 1), (1, 1), (2, 1), (3, 7), (10, 1), (11, 1), (12, 1), (13, 1), (14, 1), (15, 1)]) (zs := [.int .i64 0, .int .i64 0, .int .u64 0, .string ⟨#[]⟩, .slice none 0 0, .slice none 0 0, .slice none 0 0, .int .i64 0, .int .i64 0, .int .i64 0, .int .i64 0, .int .i64 0, .int .i64 0, .int .i64 0, .string ⟨#[]⟩, .slice none 0 0]) rfl (AEvs.cons (AEv.const _) (AEvs.cons (.tmp rfl) AEvs.nil)) (by kernel_rfl) rfl)) ?_
 refine AG.h rfl rfl rfl (S_storeW 1 rfl (.tmp rfl) ((AEv.tmp rfl).le (z := calAV { cal0 1 with spec := runS e }) (by exact (Les.agg (.cons (Le.refl _) (.cons (Le.refl _) (.cons (Le.refl _) (.cons (Le.refl _) (.cons (Le.nils) (.cons (Le.nils) (.cons (Le.refl _) (.cons (Le.refl _) (.cons (Le.refl _) (.cons (Le.refl _) (.cons (Le.refl _) (.cons (Le.refl _) (.cons (Le.refl _) (.cons (Le.refl _) (.cons (Le.refl _) (.cons (Le.nils) .nil))))))))))))))))))) rfl rfl rfl (by kernel_rfl)) ?_
 rintro _ _ ⟨rfl, rfl⟩
 refine AG.nil ?_
 refine AC_ret ?_
 refine ret_cell 1 st rfl rfl rfl (by kernel_rfl) (Sub.l (.cons _ (.cons _ (.cons _ (List.Sublist.refl _))))) (Conv.refl (Sub.l (.cons _ (.cons _ (.cons _ (List.Sublist.refl _))))) _) ⟨rfl, rfl⟩ (.inl rfl)
set_option maxHeartbeats 2000000 in
theorem scr_Call_ok (e : Ent) (hn : e.n.length ≤ 1000000) : GCalls Tryz.prog tabs 7 [entAV e] (.tup [calAV (callA e), .bool (okE e)]) := by
 intro st hG
 refine co 101 Tryz.func7 ?_
 refine AC_seq (AC_region ?_)
 refine s_ (S_box rfl (.tmp rfl)) ?_
 rintro _ _ ⟨b1, rfl, rfl⟩
 refine s_ (S_alloc [.int .i64 0, .int .i64 0, .int .u64 0, .string ⟨#[]⟩, .slice none 0 0, .slice none 0 0, .slice none 0 0, .int .i64 0, .int .i64 0, .int .i64 0, .int .i64 0, .int .i64 0, .int .i64 0, .int .i64 0, .string ⟨#[]⟩, .slice none 0 0] rfl (by kernel_rfl)) ?_
 rintro _ _ ⟨b2, rfl, rfl⟩
 refine ac rfl rfl rfl ?_
 refine AL_nil ?_
 refine AC_seq ?_
 refine AC_seq (AC_region ?_)
 refine ldN 3 1 ?_
 refine p_ (S_gcall rfl (AEvs.cons (y := entAV e) (.tmp rfl) AEvs.nil) ((scr_Right_ok e hn) _ (fun p hp => by repeat (first | exact hG p hp | refine List.mem_cons_of_mem _ ?_ | refine List.mem_append_right _ ?_)))) ?_
 refine p_ (S_not rfl (.tmp rfl)) ?_
 refine mv rfl rfl rfl rfl ?_
 refine g_ (fun _ => fA 0) ?_
 refine g_ (fun _ => lA 1) ?_
 refine g_ (fun _ => S_lss rfl (AEv.cd (.tmp rfl)) (AEv.const _)) ?_
 refine p_ (S_or rfl (.tmp rfl) (fun hp12 => (AEv.cd (.tmp rfl)))) ?_
 refine AL_nil ?_
 refine AC_cond (.tmp rfl) (fun hb13 => ?_) (fun hb13 => ?_)
 ·try simp only [zA,zO,zN,zM,zP,zQ,zD,zF,gd] at hb13
  have hx : okE e = false := by
   unfold okE
   rcases hb13 with h | h
   ·rw [h]; rfl
   ·rw [decide_eq_false (by omega), Bool.and_false]
  have hy : callA e = cal0 0 := if_neg (by rw [hx]; decide)
  refine AC_seq (AC_region ?_)
  refine p_ (S_build (t := 33) (pl := [(0, 1), (1, 1), (2, 1), (3, 7), (10, 1), (11, 1), (12, 1), (13, 1), (14, 1), (15, 1)]) (zs := [.int .i64 0, .int .i64 0, .int .u64 0, .string ⟨#[]⟩, .slice none 0 0, .slice none 0 0, .slice none 0 0, .int .i64 0, .int .i64 0, .int .i64 0, .int .i64 0, .int .i64 0, .int .i64 0, .int .i64 0, .string ⟨#[]⟩, .slice none 0 0]) rfl AEvs.nil (by kernel_rfl) rfl) ?_
  refine stW 0 ?_
  refine ac rfl rfl rfl ?_
  refine AL_nil (AC_ret ?_)
  refine ret_outs st rfl (by decide) (OutsR.row 0 rfl rfl (by kernel_rfl) (OutsR.tmp rfl OutsR.nil)) (Sub.l (.cons _ (.cons _ (List.Sublist.refl _)))) (Conv.le (Sub.l (.cons _ (.cons _ (List.Sublist.refl _)))) (Les.tup (.cons (Les.agg (.cons (Le.refl _) (.cons (Le.refl _) (.cons (Le.refl _) (.cons (Le.refl _) (.cons (Le.nils) (.cons (Le.nils) (.cons (Le.nils) (.cons (Le.refl _) (.cons (Le.refl _) (.cons (Le.refl _) (.cons (Le.refl _) (.cons (Le.refl _) (.cons (Le.refl _) (.cons (Le.refl _) (.cons (Le.refl _) (.cons (Le.nils) .nil))))))))))))))))) (.cons (Le.refl _) .nil)))) ⟨by rw [hx, hy] <;> rfl, rfl⟩ (.inl rfl)
 try simp only [zA,zO,zN,zM,zP,zQ,zD,zF,gd] at hb13
 have hr : rightB e = true := by simpa using hb13.1
 have hv0 : 13 ≤ e.verb := by have := hb13.2; omega
 obtain ⟨_, hv24, hrl, _, _⟩ := right_spec hr
 have hx : okE e = true := by unfold okE; rw [hr, decide_eq_true hv0]; rfl
 have hy : callA e = callE e := if_pos hx
 have hb1 := nE_bnd hr 1
 refine AC_skip ?_
 refine AC_seq (AC_region ?_)
 refine p_ (S_build (t := 33) (pl := [(0, 1), (1, 1), (2, 1), (3, 7), (10, 1), (11, 1), (12, 1), (13, 1), (14, 1), (15, 1)]) (zs := [.int .i64 0, .int .i64 0, .int .u64 0, .string ⟨#[]⟩, .slice none 0 0, .slice none 0 0, .slice none 0 0, .int .i64 0, .int .i64 0, .int .i64 0, .int .i64 0, .int .i64 0, .int .i64 0, .int .i64 0, .string ⟨#[]⟩, .slice none 0 0]) rfl AEvs.nil (by kernel_rfl) rfl) ?_
 refine s_ (S_alloc [.int .i64 0, .int .i64 0, .int .u64 0, .string ⟨#[]⟩, .slice none 0 0, .slice none 0 0, .slice none 0 0, .int .i64 0, .int .i64 0, .int .i64 0, .int .i64 0, .int .i64 0, .int .i64 0, .int .i64 0, .string ⟨#[]⟩, .slice none 0 0] rfl (by kernel_rfl)) ?_
 rintro _ _ ⟨b4, rfl, rfl⟩
 refine s_ (S_storeW 0 rfl (.tmp rfl) ((AEv.tmp rfl).le (z := calAV (cal0 0)) (by exact (Les.agg (.cons (Le.refl _) (.cons (Le.refl _) (.cons (Le.refl _) (.cons (Le.refl _) (.cons (Le.nils) (.cons (Le.nils) (.cons (Le.nils) (.cons (Le.refl _) (.cons (Le.refl _) (.cons (Le.refl _) (.cons (Le.refl _) (.cons (Le.refl _) (.cons (Le.refl _) (.cons (Le.refl _) (.cons (Le.refl _) (.cons (Le.nils) .nil))))))))))))))))))) rfl rfl rfl (by kernel_rfl)) ?_
 rintro _ _ ⟨rfl, rfl⟩
 refine AL_nil ?_
 refine AC_joinK (G := Unit) [(1, _), (2, _), (3, _), (4, _)] (fun _ => True) (fun _ => []) (fun _ => (b4, .cells (calL (callE e))) :: (b2, .cells [.int .i64 0, .int .i64 0, .int .u64 0, .S [], .nils, .nils, .nils, .int .i64 0, .int .i64 0, .int .i64 0, .int .i64 0, .int .i64 0, .int .i64 0, .int .i64 0, .S [], .nils]) :: (b1, .cells (entL e)) :: st) (.cons rfl (Le.refl _) (.cons rfl (Le.refl _) (.cons rfl (Le.refl _) (.cons rfl (Le.refl _) .nil)))) ?_ ?_
 ·refine AC_seq (AC_region ?_)
  refine fl 0 ?_
  refine ld 2 ?_
  refine AL_nil ?_
  refine AC_block ?_
  refine AC_seq (AC_region ?_)
  refine p_ (S_eql rfl (.tmp rfl) (AEv.const _)) ?_
  refine as_ rfl rfl rfl rfl ?_
  refine AL_nil ?_
  refine AC_cond (.tmp rfl) (fun hb15 => ?_) (fun hb15 => ?_)
  ·try simp only [zA,zO,zN,zM,zP,zQ,zD,zF,gd] at hb15
   have hv9 : e.verb = 13 := by omega
   have hpe : callE e = cal0 9 := by unfold callE; simp [hv9]
   have hn13 : (e.n.length : Int) = 1 := by have h9 := hrl; rw [hv9] at h9; exact h9
   refine AC_region ?_
   refine fl 0 ?_
   refine s_ (S_store 0 rfl (.tmp rfl) (AEv.const _) rfl (by first | exact Nat.le_of_ble_eq_true rfl | simp) rfl (by kernel_rfl)) ?_
   rintro _ _ ⟨rfl, rfl⟩
   refine AL_nil ?_
   exact ⟨(), trivial, by rw [hpe]; exact (Sub.l (List.Sublist.refl _)), .nil, (.cons rfl (Le.refl _) (.cons rfl (Le.refl _) (.cons rfl (Le.refl _) (.cons rfl (Le.refl _) .nil))))⟩
  try simp only [zA,zO,zN,zM,zP,zQ,zD,zF,gd] at hb15
  have hv13 : ¬ e.verb = 13 := by omega
  refine AC_seq (AC_region ?_)
  refine p_ (S_eql rfl (.tmp rfl) (AEv.const _)) ?_
  refine as_ rfl rfl rfl rfl ?_
  refine AL_nil ?_
  refine AC_cond (.tmp rfl) (fun hb16 => ?_) (fun hb16 => ?_)
  ·try simp only [zA,zO,zN,zM,zP,zQ,zD,zF,gd] at hb16
   have hv9 : e.verb = 14 := by omega
   have hpe : callE e = { cal0 10 with uid := nE e 1 } := by unfold callE; simp [hv9]
   have hn14 : (e.n.length : Int) = 2 := by have h9 := hrl; rw [hv9] at h9; exact h9
   refine AC_region ?_
   refine fl 1 ?_
   refine ld 2 ?_
   refine p_ (S_elemD (e := 3) (i := 1) (0 : Int) 1 rfl (.tmp rfl) (AEv.const _) (by kernel_rfl) (by kernel_rfl) (by omega) (fun _ => rfl)) ?_
   refine p_ (S_loadP rfl (.tmp rfl) rfl (by kernel_rfl)) ?_
   refine p_ (S_build (t := 33) (pl := [(0, 1), (1, 1), (2, 1), (3, 7), (10, 1), (11, 1), (12, 1), (13, 1), (14, 1), (15, 1)]) (zs := [.int .i64 0, .int .i64 0, .int .u64 0, .string ⟨#[]⟩, .slice none 0 0, .slice none 0 0, .slice none 0 0, .int .i64 0, .int .i64 0, .int .i64 0, .int .i64 0, .int .i64 0, .int .i64 0, .int .i64 0, .string ⟨#[]⟩, .slice none 0 0]) rfl (AEvs.cons (AEv.const _) (AEvs.cons (.tmp rfl) AEvs.nil)) (by kernel_rfl) rfl) ?_
   refine s_ (S_storeW 0 rfl (.tmp rfl) ((AEv.tmp rfl).le (z := calAV { cal0 10 with uid := nE e 1 }) (by exact (Les.agg (.cons (Le.refl _) (.cons (Le.refl _) (.cons (Le.refl _) (.cons (Le.refl _) (.cons (Le.nils) (.cons (Le.nils) (.cons (Le.nils) (.cons (Le.refl _) (.cons (Le.refl _) (.cons (Le.refl _) (.cons (Le.refl _) (.cons (Le.refl _) (.cons (Le.refl _) (.cons (Le.refl _) (.cons (Le.refl _) (.cons (Le.nils) .nil))))))))))))))))))) rfl rfl rfl (by kernel_rfl)) ?_
   rintro _ _ ⟨rfl, rfl⟩
   refine AL_nil ?_
   exact ⟨(), trivial, by rw [hpe]; exact (Sub.l (List.Sublist.refl _)), .nil, (.cons rfl (Le.refl _) (.cons rfl (Le.refl _) (.cons rfl (Le.refl _) (.cons rfl (Le.refl _) .nil))))⟩
  try simp only [zA,zO,zN,zM,zP,zQ,zD,zF,gd] at hb16
  have hv14 : ¬ e.verb = 14 := by omega
  refine AC_seq (AC_region ?_)
  refine p_ (S_eql rfl (.tmp rfl) (AEv.const _)) ?_
  refine as_ rfl rfl rfl rfl ?_
  refine AL_nil ?_
  refine AC_cond (.tmp rfl) (fun hb17 => ?_) (fun hb17 => ?_)
  ·try simp only [zA,zO,zN,zM,zP,zQ,zD,zF,gd] at hb17
   have hv9 : e.verb = 15 := by omega
   have hpe : callE e = { cal0 8 with uid := nE e 1 } := by unfold callE; simp [hv9]
   have hn15 : (e.n.length : Int) = 2 := by have h9 := hrl; rw [hv9] at h9; exact h9
   refine AC_region ?_
   refine fl 1 ?_
   refine ld 2 ?_
   refine p_ (S_elemD (e := 3) (i := 1) (0 : Int) 1 rfl (.tmp rfl) (AEv.const _) (by kernel_rfl) (by kernel_rfl) (by omega) (fun _ => rfl)) ?_
   refine p_ (S_loadP rfl (.tmp rfl) rfl (by kernel_rfl)) ?_
   refine p_ (S_build (t := 33) (pl := [(0, 1), (1, 1), (2, 1), (3, 7), (10, 1), (11, 1), (12, 1), (13, 1), (14, 1), (15, 1)]) (zs := [.int .i64 0, .int .i64 0, .int .u64 0, .string ⟨#[]⟩, .slice none 0 0, .slice none 0 0, .slice none 0 0, .int .i64 0, .int .i64 0, .int .i64 0, .int .i64 0, .int .i64 0, .int .i64 0, .int .i64 0, .string ⟨#[]⟩, .slice none 0 0]) rfl (AEvs.cons (AEv.const _) (AEvs.cons (.tmp rfl) AEvs.nil)) (by kernel_rfl) rfl) ?_
   refine s_ (S_storeW 0 rfl (.tmp rfl) ((AEv.tmp rfl).le (z := calAV { cal0 8 with uid := nE e 1 }) (by exact (Les.agg (.cons (Le.refl _) (.cons (Le.refl _) (.cons (Le.refl _) (.cons (Le.refl _) (.cons (Le.nils) (.cons (Le.nils) (.cons (Le.nils) (.cons (Le.refl _) (.cons (Le.refl _) (.cons (Le.refl _) (.cons (Le.refl _) (.cons (Le.refl _) (.cons (Le.refl _) (.cons (Le.refl _) (.cons (Le.refl _) (.cons (Le.nils) .nil))))))))))))))))))) rfl rfl rfl (by kernel_rfl)) ?_
   rintro _ _ ⟨rfl, rfl⟩
   refine AL_nil ?_
   exact ⟨(), trivial, by rw [hpe]; exact (Sub.l (List.Sublist.refl _)), .nil, (.cons rfl (Le.refl _) (.cons rfl (Le.refl _) (.cons rfl (Le.refl _) (.cons rfl (Le.refl _) .nil))))⟩
  try simp only [zA,zO,zN,zM,zP,zQ,zD,zF,gd] at hb17
  have hv15 : ¬ e.verb = 15 := by omega
  refine AC_seq (AC_region ?_)
  refine p_ (S_eql rfl (.tmp rfl) (AEv.const _)) ?_
  refine as_ rfl rfl rfl rfl ?_
  refine AL_nil ?_
  refine AC_cond (.tmp rfl) (fun hb18 => ?_) (fun hb18 => ?_)
  ·try simp only [zA,zO,zN,zM,zP,zQ,zD,zF,gd] at hb18
   have hv9 : e.verb = 16 := by omega
   have hpe : callE e = { cal0 3 with uid := nE e 1, grace := nE e 2 } := by unfold callE; simp [hv9]
   have hn16 : (e.n.length : Int) = 3 := by have h9 := hrl; rw [hv9] at h9; exact h9
   refine AC_plan (σ := [(0, 0), (1, 0), (2, 0), (3, 0), (4, 0), (5, 0), (6, 0), (7, 0), (8, 0), (9, 2)]) (by kernel_rfl) [_, _, _] (by kernel_rfl) (fun r hr => List.mem_append_left _ hr) ?_
   refine AG.f rfl rfl (fun st' hst => Q_p rfl (S_field 1 rfl (.tmp rfl) (by kernel_rfl))) ?_
   refine AG.f rfl rfl (fun st' hst => Q_p rfl (S_loadM rfl (.tmp rfl) (hst _ (List.mem_of_getElem? (i := 2) rfl)) rfl (by kernel_rfl))) ?_
   refine AG.f rfl rfl (fun st' hst => Q_p rfl (S_elemD (e := 3) (i := 1) (0 : Int) 1 rfl (.tmp rfl) (AEv.const _) (by kernel_rfl) (by kernel_rfl) (by omega) (fun _ => rfl))) ?_
   refine AG.f rfl rfl (fun st' hst => Q_p rfl (S_loadP rfl (.tmp rfl) rfl (by kernel_rfl))) ?_
   refine AG.f rfl rfl (fun st' hst => Q_p rfl (S_field 1 rfl (.tmp rfl) (by kernel_rfl))) ?_
   refine AG.f rfl rfl (fun st' hst => Q_p rfl (S_loadM rfl (.tmp rfl) (hst _ (List.mem_of_getElem? (i := 2) rfl)) rfl (by kernel_rfl))) ?_
   refine AG.f rfl rfl (fun st' hst => Q_p rfl (S_elemD (e := 3) (i := 2) (0 : Int) 1 rfl (.tmp rfl) (AEv.const _) (by kernel_rfl) (by kernel_rfl) (by omega) (fun _ => rfl))) ?_
   refine AG.f rfl rfl (fun st' hst => Q_p rfl (S_loadP rfl (.tmp rfl) rfl (by kernel_rfl))) ?_
   refine AG.f rfl rfl (fun st' hst => Q_p rfl (S_build (t := 33) (pl := [(0, 1), (1, 1), (2, 1), (3, 7), (10, 1), (11, 1), (12, 1), (13, 1), (14, 1), (15, 1)]) (zs := [.int .i64 0, .int .i64 0, .int .u64 0, .string ⟨#[]⟩, .slice none 0 0, .slice none 0 0, .slice none 0 0, .int .i64 0, .int .i64 0, .int .i64 0, .int .i64 0, .int .i64 0, .int .i64 0, .int .i64 0, .string ⟨#[]⟩, .slice none 0 0]) rfl (AEvs.cons (AEv.const _) (AEvs.cons (.tmp rfl) (AEvs.cons (.tmp rfl) AEvs.nil))) (by kernel_rfl) rfl)) ?_
   refine AG.h rfl rfl rfl (S_storeW 0 rfl (.tmp rfl) ((AEv.tmp rfl).le (z := calAV { cal0 3 with uid := nE e 1, grace := nE e 2 }) (by exact (Les.agg (.cons (Le.refl _) (.cons (Le.refl _) (.cons (Le.refl _) (.cons (Le.refl _) (.cons (Le.nils) (.cons (Le.nils) (.cons (Le.nils) (.cons (Le.refl _) (.cons (Le.refl _) (.cons (Le.refl _) (.cons (Le.refl _) (.cons (Le.refl _) (.cons (Le.refl _) (.cons (Le.refl _) (.cons (Le.refl _) (.cons (Le.nils) .nil))))))))))))))))))) rfl rfl rfl (by kernel_rfl)) ?_
   rintro _ _ ⟨rfl, rfl⟩
   refine AG.nil ?_
   exact ⟨(), trivial, by rw [hpe]; exact (Sub.l (List.Sublist.refl _)), .nil, (.cons rfl (Le.refl _) (.cons rfl (Le.refl _) (.cons rfl (Le.refl _) (.cons rfl (Le.refl _) .nil))))⟩
  try simp only [zA,zO,zN,zM,zP,zQ,zD,zF,gd] at hb18
  have hv16 : ¬ e.verb = 16 := by omega
  refine AC_seq (AC_region ?_)
  refine p_ (S_eql rfl (.tmp rfl) (AEv.const _)) ?_
  refine as_ rfl rfl rfl rfl ?_
  refine AL_nil ?_
  refine AC_cond (.tmp rfl) (fun hb19 => ?_) (fun hb19 => ?_)
  ·try simp only [zA,zO,zN,zM,zP,zQ,zD,zF,gd] at hb19
   have hv9 : e.verb = 17 := by omega
   have hpe : callE e = { cal0 4 with uid := nE e 1, ctr := nE e 2 } := by unfold callE; simp [hv9]
   have hn17 : (e.n.length : Int) = 3 := by have h9 := hrl; rw [hv9] at h9; exact h9
   refine AC_plan (σ := [(0, 0), (1, 0), (2, 0), (3, 0), (4, 0), (5, 0), (6, 0), (7, 0), (8, 0), (9, 2)]) (by kernel_rfl) [_, _, _] (by kernel_rfl) (fun r hr => List.mem_append_left _ hr) ?_
   refine AG.f rfl rfl (fun st' hst => Q_p rfl (S_field 1 rfl (.tmp rfl) (by kernel_rfl))) ?_
   refine AG.f rfl rfl (fun st' hst => Q_p rfl (S_loadM rfl (.tmp rfl) (hst _ (List.mem_of_getElem? (i := 2) rfl)) rfl (by kernel_rfl))) ?_
   refine AG.f rfl rfl (fun st' hst => Q_p rfl (S_elemD (e := 3) (i := 1) (0 : Int) 1 rfl (.tmp rfl) (AEv.const _) (by kernel_rfl) (by kernel_rfl) (by omega) (fun _ => rfl))) ?_
   refine AG.f rfl rfl (fun st' hst => Q_p rfl (S_loadP rfl (.tmp rfl) rfl (by kernel_rfl))) ?_
   refine AG.f rfl rfl (fun st' hst => Q_p rfl (S_field 1 rfl (.tmp rfl) (by kernel_rfl))) ?_
   refine AG.f rfl rfl (fun st' hst => Q_p rfl (S_loadM rfl (.tmp rfl) (hst _ (List.mem_of_getElem? (i := 2) rfl)) rfl (by kernel_rfl))) ?_
   refine AG.f rfl rfl (fun st' hst => Q_p rfl (S_elemD (e := 3) (i := 2) (0 : Int) 1 rfl (.tmp rfl) (AEv.const _) (by kernel_rfl) (by kernel_rfl) (by omega) (fun _ => rfl))) ?_
   refine AG.f rfl rfl (fun st' hst => Q_p rfl (S_loadP rfl (.tmp rfl) rfl (by kernel_rfl))) ?_
   refine AG.f rfl rfl (fun st' hst => Q_p rfl (S_build (t := 33) (pl := [(0, 1), (1, 1), (2, 1), (3, 7), (10, 1), (11, 1), (12, 1), (13, 1), (14, 1), (15, 1)]) (zs := [.int .i64 0, .int .i64 0, .int .u64 0, .string ⟨#[]⟩, .slice none 0 0, .slice none 0 0, .slice none 0 0, .int .i64 0, .int .i64 0, .int .i64 0, .int .i64 0, .int .i64 0, .int .i64 0, .int .i64 0, .string ⟨#[]⟩, .slice none 0 0]) rfl (AEvs.cons (AEv.const _) (AEvs.cons (.tmp rfl) (AEvs.cons (.tmp rfl) AEvs.nil))) (by kernel_rfl) rfl)) ?_
   refine AG.h rfl rfl rfl (S_storeW 0 rfl (.tmp rfl) ((AEv.tmp rfl).le (z := calAV { cal0 4 with uid := nE e 1, ctr := nE e 2 }) (by exact (Les.agg (.cons (Le.refl _) (.cons (Le.refl _) (.cons (Le.refl _) (.cons (Le.refl _) (.cons (Le.nils) (.cons (Le.nils) (.cons (Le.nils) (.cons (Le.refl _) (.cons (Le.refl _) (.cons (Le.refl _) (.cons (Le.refl _) (.cons (Le.refl _) (.cons (Le.refl _) (.cons (Le.refl _) (.cons (Le.refl _) (.cons (Le.nils) .nil))))))))))))))))))) rfl rfl rfl (by kernel_rfl)) ?_
   rintro _ _ ⟨rfl, rfl⟩
   refine AG.nil ?_
   exact ⟨(), trivial, by rw [hpe]; exact (Sub.l (List.Sublist.refl _)), .nil, (.cons rfl (Le.refl _) (.cons rfl (Le.refl _) (.cons rfl (Le.refl _) (.cons rfl (Le.refl _) .nil))))⟩
  try simp only [zA,zO,zN,zM,zP,zQ,zD,zF,gd] at hb19
  have hv17 : ¬ e.verb = 17 := by omega
  refine AC_seq (AC_region ?_)
  refine p_ (S_eql rfl (.tmp rfl) (AEv.const _)) ?_
  refine as_ rfl rfl rfl rfl ?_
  refine AL_nil ?_
  refine AC_cond (.tmp rfl) (fun hb20 => ?_) (fun hb20 => ?_)
  ·try simp only [zA,zO,zN,zM,zP,zQ,zD,zF,gd] at hb20
   have hv9 : e.verb = 18 := by omega
   have hpe : callE e = { cal0 5 with id := nE e 1, data := e.data } := by unfold callE; simp [hv9]
   have hn18 : (e.n.length : Int) = 2 := by have h9 := hrl; rw [hv9] at h9; exact h9
   refine AC_plan (σ := [(0, 0), (1, 0), (2, 0), (3, 0), (4, 0), (5, 0), (6, 0), (7, 2)]) (by kernel_rfl) [_, _, _] (by kernel_rfl) (fun r hr => List.mem_append_left _ hr) ?_
   refine AG.f rfl rfl (fun st' hst => Q_p rfl (S_field 1 rfl (.tmp rfl) (by kernel_rfl))) ?_
   refine AG.f rfl rfl (fun st' hst => Q_p rfl (S_loadM rfl (.tmp rfl) (hst _ (List.mem_of_getElem? (i := 2) rfl)) rfl (by kernel_rfl))) ?_
   refine AG.f rfl rfl (fun st' hst => Q_p rfl (S_elemD (e := 3) (i := 1) (0 : Int) 1 rfl (.tmp rfl) (AEv.const _) (by kernel_rfl) (by kernel_rfl) (by omega) (fun _ => rfl))) ?_
   refine AG.f rfl rfl (fun st' hst => Q_p rfl (S_loadP rfl (.tmp rfl) rfl (by kernel_rfl))) ?_
   refine AG.f rfl rfl (fun st' hst => Q_p rfl (S_field 2 rfl (.tmp rfl) (by kernel_rfl))) ?_
   refine AG.f rfl rfl (fun st' hst => Q_p rfl (S_loadM rfl (.tmp rfl) (hst _ (List.mem_of_getElem? (i := 2) rfl)) rfl (by kernel_rfl))) ?_
   refine AG.f rfl rfl (fun st' hst => Q_p rfl (S_build (t := 33) (pl := [(0, 1), (1, 1), (2, 1), (3, 7), (10, 1), (11, 1), (12, 1), (13, 1), (14, 1), (15, 1)]) (zs := [.int .i64 0, .int .i64 0, .int .u64 0, .string ⟨#[]⟩, .slice none 0 0, .slice none 0 0, .slice none 0 0, .int .i64 0, .int .i64 0, .int .i64 0, .int .i64 0, .int .i64 0, .int .i64 0, .int .i64 0, .string ⟨#[]⟩, .slice none 0 0]) rfl (AEvs.cons (AEv.const _) (AEvs.cons (.tmp rfl) (AEvs.cons (.tmp rfl) AEvs.nil))) (by kernel_rfl) rfl)) ?_
   refine AG.h rfl rfl rfl (S_storeW 0 rfl (.tmp rfl) ((AEv.tmp rfl).le (z := calAV { cal0 5 with id := nE e 1, data := e.data }) (by exact (Les.agg (.cons (Le.refl _) (.cons (Le.refl _) (.cons (Le.refl _) (.cons (Le.refl _) (.cons (Le.nils) (.cons (Le.nils) (.cons (Le.nils) (.cons (Le.refl _) (.cons (Le.refl _) (.cons (Le.refl _) (.cons (Le.refl _) (.cons (Le.refl _) (.cons (Le.refl _) (.cons (Le.refl _) (.cons (Le.refl _) (.cons (Le.nils) .nil))))))))))))))))))) rfl rfl rfl (by kernel_rfl)) ?_
   rintro _ _ ⟨rfl, rfl⟩
   refine AG.nil ?_
   exact ⟨(), trivial, by rw [hpe]; exact (Sub.l (List.Sublist.refl _)), .nil, (.cons rfl (Le.refl _) (.cons rfl (Le.refl _) (.cons rfl (Le.refl _) (.cons rfl (Le.refl _) .nil))))⟩
  try simp only [zA,zO,zN,zM,zP,zQ,zD,zF,gd] at hb20
  have hv18 : ¬ e.verb = 18 := by omega
  refine AC_seq (AC_region ?_)
  refine p_ (S_eql rfl (.tmp rfl) (AEv.const _)) ?_
  refine as_ rfl rfl rfl rfl ?_
  refine AL_nil ?_
  refine AC_cond (.tmp rfl) (fun hb21 => ?_) (fun hb21 => ?_)
  ·try simp only [zA,zO,zN,zM,zP,zQ,zD,zF,gd] at hb21
   have hv9 : e.verb = 19 := by omega
   have hpe : callE e = { cal0 6 with id := nE e 1, most := nE e 2 } := by unfold callE; simp [hv9]
   have hn19 : (e.n.length : Int) = 3 := by have h9 := hrl; rw [hv9] at h9; exact h9
   refine AC_plan (σ := [(0, 0), (1, 0), (2, 0), (3, 0), (4, 0), (5, 0), (6, 0), (7, 0), (8, 0), (9, 2)]) (by kernel_rfl) [_, _, _] (by kernel_rfl) (fun r hr => List.mem_append_left _ hr) ?_
   refine AG.f rfl rfl (fun st' hst => Q_p rfl (S_field 1 rfl (.tmp rfl) (by kernel_rfl))) ?_
   refine AG.f rfl rfl (fun st' hst => Q_p rfl (S_loadM rfl (.tmp rfl) (hst _ (List.mem_of_getElem? (i := 2) rfl)) rfl (by kernel_rfl))) ?_
   refine AG.f rfl rfl (fun st' hst => Q_p rfl (S_elemD (e := 3) (i := 1) (0 : Int) 1 rfl (.tmp rfl) (AEv.const _) (by kernel_rfl) (by kernel_rfl) (by omega) (fun _ => rfl))) ?_
   refine AG.f rfl rfl (fun st' hst => Q_p rfl (S_loadP rfl (.tmp rfl) rfl (by kernel_rfl))) ?_
   refine AG.f rfl rfl (fun st' hst => Q_p rfl (S_field 1 rfl (.tmp rfl) (by kernel_rfl))) ?_
   refine AG.f rfl rfl (fun st' hst => Q_p rfl (S_loadM rfl (.tmp rfl) (hst _ (List.mem_of_getElem? (i := 2) rfl)) rfl (by kernel_rfl))) ?_
   refine AG.f rfl rfl (fun st' hst => Q_p rfl (S_elemD (e := 3) (i := 2) (0 : Int) 1 rfl (.tmp rfl) (AEv.const _) (by kernel_rfl) (by kernel_rfl) (by omega) (fun _ => rfl))) ?_
   refine AG.f rfl rfl (fun st' hst => Q_p rfl (S_loadP rfl (.tmp rfl) rfl (by kernel_rfl))) ?_
   refine AG.f rfl rfl (fun st' hst => Q_p rfl (S_build (t := 33) (pl := [(0, 1), (1, 1), (2, 1), (3, 7), (10, 1), (11, 1), (12, 1), (13, 1), (14, 1), (15, 1)]) (zs := [.int .i64 0, .int .i64 0, .int .u64 0, .string ⟨#[]⟩, .slice none 0 0, .slice none 0 0, .slice none 0 0, .int .i64 0, .int .i64 0, .int .i64 0, .int .i64 0, .int .i64 0, .int .i64 0, .int .i64 0, .string ⟨#[]⟩, .slice none 0 0]) rfl (AEvs.cons (AEv.const _) (AEvs.cons (.tmp rfl) (AEvs.cons (.tmp rfl) AEvs.nil))) (by kernel_rfl) rfl)) ?_
   refine AG.h rfl rfl rfl (S_storeW 0 rfl (.tmp rfl) ((AEv.tmp rfl).le (z := calAV { cal0 6 with id := nE e 1, most := nE e 2 }) (by exact (Les.agg (.cons (Le.refl _) (.cons (Le.refl _) (.cons (Le.refl _) (.cons (Le.refl _) (.cons (Le.nils) (.cons (Le.nils) (.cons (Le.nils) (.cons (Le.refl _) (.cons (Le.refl _) (.cons (Le.refl _) (.cons (Le.refl _) (.cons (Le.refl _) (.cons (Le.refl _) (.cons (Le.refl _) (.cons (Le.refl _) (.cons (Le.nils) .nil))))))))))))))))))) rfl rfl rfl (by kernel_rfl)) ?_
   rintro _ _ ⟨rfl, rfl⟩
   refine AG.nil ?_
   exact ⟨(), trivial, by rw [hpe]; exact (Sub.l (List.Sublist.refl _)), .nil, (.cons rfl (Le.refl _) (.cons rfl (Le.refl _) (.cons rfl (Le.refl _) (.cons rfl (Le.refl _) .nil))))⟩
  try simp only [zA,zO,zN,zM,zP,zQ,zD,zF,gd] at hb21
  have hv19 : ¬ e.verb = 19 := by omega
  refine AC_seq (AC_region ?_)
  refine p_ (S_eql rfl (.tmp rfl) (AEv.const _)) ?_
  refine as_ rfl rfl rfl rfl ?_
  refine AL_nil ?_
  refine AC_cond (.tmp rfl) (fun hb22 => ?_) (fun hb22 => ?_)
  ·try simp only [zA,zO,zN,zM,zP,zQ,zD,zF,gd] at hb22
   have hv9 : e.verb = 20 := by omega
   have hpe : callE e = { cal0 7 with id := nE e 1 } := by unfold callE; simp [hv9]
   have hn20 : (e.n.length : Int) = 2 := by have h9 := hrl; rw [hv9] at h9; exact h9
   refine AC_region ?_
   refine fl 1 ?_
   refine ld 2 ?_
   refine p_ (S_elemD (e := 3) (i := 1) (0 : Int) 1 rfl (.tmp rfl) (AEv.const _) (by kernel_rfl) (by kernel_rfl) (by omega) (fun _ => rfl)) ?_
   refine p_ (S_loadP rfl (.tmp rfl) rfl (by kernel_rfl)) ?_
   refine p_ (S_build (t := 33) (pl := [(0, 1), (1, 1), (2, 1), (3, 7), (10, 1), (11, 1), (12, 1), (13, 1), (14, 1), (15, 1)]) (zs := [.int .i64 0, .int .i64 0, .int .u64 0, .string ⟨#[]⟩, .slice none 0 0, .slice none 0 0, .slice none 0 0, .int .i64 0, .int .i64 0, .int .i64 0, .int .i64 0, .int .i64 0, .int .i64 0, .int .i64 0, .string ⟨#[]⟩, .slice none 0 0]) rfl (AEvs.cons (AEv.const _) (AEvs.cons (.tmp rfl) AEvs.nil)) (by kernel_rfl) rfl) ?_
   refine s_ (S_storeW 0 rfl (.tmp rfl) ((AEv.tmp rfl).le (z := calAV { cal0 7 with id := nE e 1 }) (by exact (Les.agg (.cons (Le.refl _) (.cons (Le.refl _) (.cons (Le.refl _) (.cons (Le.refl _) (.cons (Le.nils) (.cons (Le.nils) (.cons (Le.nils) (.cons (Le.refl _) (.cons (Le.refl _) (.cons (Le.refl _) (.cons (Le.refl _) (.cons (Le.refl _) (.cons (Le.refl _) (.cons (Le.refl _) (.cons (Le.refl _) (.cons (Le.nils) .nil))))))))))))))))))) rfl rfl rfl (by kernel_rfl)) ?_
   rintro _ _ ⟨rfl, rfl⟩
   refine AL_nil ?_
   exact ⟨(), trivial, by rw [hpe]; exact (Sub.l (List.Sublist.refl _)), .nil, (.cons rfl (Le.refl _) (.cons rfl (Le.refl _) (.cons rfl (Le.refl _) (.cons rfl (Le.refl _) .nil))))⟩
  try simp only [zA,zO,zN,zM,zP,zQ,zD,zF,gd] at hb22
  have hv20 : ¬ e.verb = 20 := by omega
  refine AC_seq (AC_region ?_)
  refine p_ (S_eql rfl (.tmp rfl) (AEv.const _)) ?_
  refine as_ rfl rfl rfl rfl ?_
  refine AL_nil ?_
  refine AC_cond (.tmp rfl) (fun hb23 => ?_) (fun hb23 => ?_)
  ·try simp only [zA,zO,zN,zM,zP,zQ,zD,zF,gd] at hb23
   have hv9 : e.verb = 21 := by omega
   have hpe : callE e = { cal0 11 with rev := (nE e 1).toNat } := by unfold callE; simp [hv9]
   have hn21 : (e.n.length : Int) = 2 := by have h9 := hrl; rw [hv9] at h9; exact h9
   refine AC_region ?_
   refine fl 1 ?_
   refine ld 2 ?_
   refine p_ (S_elemD (e := 3) (i := 1) (0 : Int) 1 rfl (.tmp rfl) (AEv.const _) (by kernel_rfl) (by kernel_rfl) (by omega) (fun _ => rfl)) ?_
   refine p_ (S_loadP rfl (.tmp rfl) rfl (by kernel_rfl)) ?_
   refine p_ ((S_conv (k' := .u64) rfl (.tmp rfl) (by kernel_rfl) (by kernel_rfl)).ofV (V' := .int .u64 (((nE e 1).toNat : Nat) : Int)) (congrArg (AV.int .u64) (by rw [u64w]; have h7 := hb1.1; have h8 := hb1.2; unfold nE at *; omega))) ?_
   refine p_ (S_build (t := 33) (pl := [(0, 1), (1, 1), (2, 1), (3, 7), (10, 1), (11, 1), (12, 1), (13, 1), (14, 1), (15, 1)]) (zs := [.int .i64 0, .int .i64 0, .int .u64 0, .string ⟨#[]⟩, .slice none 0 0, .slice none 0 0, .slice none 0 0, .int .i64 0, .int .i64 0, .int .i64 0, .int .i64 0, .int .i64 0, .int .i64 0, .int .i64 0, .string ⟨#[]⟩, .slice none 0 0]) rfl (AEvs.cons (AEv.const _) (AEvs.cons (.tmp rfl) AEvs.nil)) (by kernel_rfl) rfl) ?_
   refine s_ (S_storeW 0 rfl (.tmp rfl) ((AEv.tmp rfl).le (z := calAV { cal0 11 with rev := (nE e 1).toNat }) (by exact (Les.agg (.cons (Le.refl _) (.cons (Le.refl _) (.cons (Le.refl _) (.cons (Le.refl _) (.cons (Le.nils) (.cons (Le.nils) (.cons (Le.nils) (.cons (Le.refl _) (.cons (Le.refl _) (.cons (Le.refl _) (.cons (Le.refl _) (.cons (Le.refl _) (.cons (Le.refl _) (.cons (Le.refl _) (.cons (Le.refl _) (.cons (Le.nils) .nil))))))))))))))))))) rfl rfl rfl (by kernel_rfl)) ?_
   rintro _ _ ⟨rfl, rfl⟩
   refine AL_nil ?_
   exact ⟨(), trivial, by rw [hpe]; exact (Sub.l (List.Sublist.refl _)), .nil, (.cons rfl (Le.refl _) (.cons rfl (Le.refl _) (.cons rfl (Le.refl _) (.cons rfl (Le.refl _) .nil))))⟩
  try simp only [zA,zO,zN,zM,zP,zQ,zD,zF,gd] at hb23
  have hv21 : ¬ e.verb = 21 := by omega
  refine AC_seq (AC_region ?_)
  refine p_ (S_eql rfl (.tmp rfl) (AEv.const _)) ?_
  refine as_ rfl rfl rfl rfl ?_
  refine AL_nil ?_
  refine AC_cond (.tmp rfl) (fun hb24 => ?_) (fun hb24 => ?_)
  ·try simp only [zA,zO,zN,zM,zP,zQ,zD,zF,gd] at hb24
   have hv9 : e.verb = 22 := by omega
   have hpe : callE e = { cal0 12 with id := nE e 1 } := by unfold callE; simp [hv9]
   have hn22 : (e.n.length : Int) = 2 := by have h9 := hrl; rw [hv9] at h9; exact h9
   refine AC_region ?_
   refine fl 1 ?_
   refine ld 2 ?_
   refine p_ (S_elemD (e := 3) (i := 1) (0 : Int) 1 rfl (.tmp rfl) (AEv.const _) (by kernel_rfl) (by kernel_rfl) (by omega) (fun _ => rfl)) ?_
   refine p_ (S_loadP rfl (.tmp rfl) rfl (by kernel_rfl)) ?_
   refine p_ (S_build (t := 33) (pl := [(0, 1), (1, 1), (2, 1), (3, 7), (10, 1), (11, 1), (12, 1), (13, 1), (14, 1), (15, 1)]) (zs := [.int .i64 0, .int .i64 0, .int .u64 0, .string ⟨#[]⟩, .slice none 0 0, .slice none 0 0, .slice none 0 0, .int .i64 0, .int .i64 0, .int .i64 0, .int .i64 0, .int .i64 0, .int .i64 0, .int .i64 0, .string ⟨#[]⟩, .slice none 0 0]) rfl (AEvs.cons (AEv.const _) (AEvs.cons (.tmp rfl) AEvs.nil)) (by kernel_rfl) rfl) ?_
   refine s_ (S_storeW 0 rfl (.tmp rfl) ((AEv.tmp rfl).le (z := calAV { cal0 12 with id := nE e 1 }) (by exact (Les.agg (.cons (Le.refl _) (.cons (Le.refl _) (.cons (Le.refl _) (.cons (Le.refl _) (.cons (Le.nils) (.cons (Le.nils) (.cons (Le.nils) (.cons (Le.refl _) (.cons (Le.refl _) (.cons (Le.refl _) (.cons (Le.refl _) (.cons (Le.refl _) (.cons (Le.refl _) (.cons (Le.refl _) (.cons (Le.refl _) (.cons (Le.nils) .nil))))))))))))))))))) rfl rfl rfl (by kernel_rfl)) ?_
   rintro _ _ ⟨rfl, rfl⟩
   refine AL_nil ?_
   exact ⟨(), trivial, by rw [hpe]; exact (Sub.l (List.Sublist.refl _)), .nil, (.cons rfl (Le.refl _) (.cons rfl (Le.refl _) (.cons rfl (Le.refl _) (.cons rfl (Le.refl _) .nil))))⟩
  try simp only [zA,zO,zN,zM,zP,zQ,zD,zF,gd] at hb24
  have hv9 : e.verb = 23 := by omega
  have hpe : callE e = { cal0 1 with spec := runS e } := by unfold callE; simp [hv9]
  have hn23 : (e.n.length : Int) = 4 := by have h9 := hrl; rw [hv9] at h9; exact h9
  refine AC_region ?_
  refine ldN 3 2 ?_
  refine p_ (S_pcall rfl (AEvs.cons (y := entAV e) (.tmp rfl) AEvs.nil) (scr_run_ok e hn23)) ?_
  refine stW 0 ?_
  refine AL_nil ?_
  exact ⟨(), trivial, by rw [hpe]; exact (Sub.l (List.Sublist.refl _)), .nil, (.cons rfl (Le.refl _) (.cons rfl (Le.refl _) (.cons rfl (Le.refl _) (.cons rfl (Le.refl _) .nil))))⟩
 rintro _ _
 try dsimp only
 simp only [List.cons_append, List.nil_append]
 refine AC_seq (AC_region ?_)
 refine ldN 16 0 ?_
 refine stW 1 ?_
 refine ac rfl rfl rfl ?_
 refine AL_nil (AC_ret ?_)
 refine ret_outs st rfl (by decide) (OutsR.row 1 rfl rfl (by kernel_rfl) (OutsR.tmp rfl OutsR.nil)) (Sub.l (.cons _ (.cons _ (.cons _ (List.Sublist.refl _))))) (Conv.refl (Sub.l (.cons _ (.cons _ (.cons _ (List.Sublist.refl _))))) _) ⟨by rw [hx, hy] <;> rfl, rfl⟩ (.inl rfl)
end Go.Proofs.YtfpkefhjomeeeaaGreatDoor

set_option maxRecDepth 100000
namespace Go.Proofs.YtfpkefhjomeeeaaGreatDoor
open Go.AL Go.NumSpec
theorem frame_PutG_ok (t : List UInt8) : PCalls Tryz.prog 23 [.S t] (.tup [.S (putF t).1, .int .i64 (putF t).2]) := by
 intro st
 refine co 18 Tryz.func23 ?_
 refine AC_seq (AC_region ?_)
 refine p_ (S_assign rfl (AEv.S _)) ?_
 refine ac rfl rfl rfl ?_
 refine AL_nil ?_
 refine AC_seq ?_
 refine AC_seq (AC_region ?_)
 refine mv rfl rfl rfl rfl ?_
 refine p_ (S_lenS (ts := #[]) rfl (.tmp rfl) (by kernel_rfl)) ?_
 refine p_ (S_gtr rfl (.tmp rfl) (AEv.const _)) ?_
 refine AL_nil ?_
 refine AC_cond (.tmp rfl) (fun hb1 => ?_) (fun hb1 => ?_)
 ·try simp only [zA,zO,zN,zM,zP,zQ,zD,zF,gd] at hb1
  have hx := putF_long (t := t) (by omega)
  refine AC_seq (AC_region ?_)
  refine p_ (S_assign rfl (AEv.S _)) ?_
  refine ac rfl rfl rfl ?_
  refine AL_nil (AC_ret ?_)
  refine ret_tmps (ts := [2, 3]) st rfl (by decide) rfl (Sub.l (List.Sublist.refl _)) (Conv.refl (Sub.l (List.Sublist.refl _)) _) ⟨by rw [hx] <;> rfl, rfl⟩ (.inl rfl)
 try simp only [zA,zO,zN,zM,zP,zQ,zD,zF,gd] at hb1
 have hx := putF_good (t := t) (by omega)
 refine AC_skip ?_
 refine AC_seq (AC_region ?_)
 refine mv rfl rfl rfl rfl ?_
 refine p_ (S_lenS (ts := #[]) rfl (.tmp rfl) (by kernel_rfl)) ?_
 refine p_ ((S_conv (k' := .u8) rfl (.tmp rfl) (by kernel_rfl) (by kernel_rfl)).ofV (V' := .int .u8 ((UInt8.ofNat t.length).toNat : Int)) (congrArg (AV.int .u8) (wrap_len _))) ?_
 refine mv rfl rfl rfl rfl ?_
 refine p_ (S_lenS (ts := #[]) rfl (.tmp rfl) (by kernel_rfl)) ?_
 refine p_ ((S_shift rfl (by simp) (.tmp rfl) (AEv.const _) (shift_shr _ _ _ _ (by omega) (by simp only [IntKind.bits]; omega))).ofV (V' := .int .i64 ((t.length / 256 : Nat) : Int)) (congrArg (AV.int .i64) (shr_eight _))) ?_
 refine p_ ((S_conv (k' := .u8) rfl (.tmp rfl) (by kernel_rfl) (by kernel_rfl)).ofV (V' := .int .u8 ((UInt8.ofNat (t.length / 256)).toNat : Int)) (congrArg (AV.int .u8) (wrap_len _))) ?_
 refine p_ (S_buildSlice (e := 5) 1 rfl (AEvs.cons (.tmp rfl) (AEvs.cons (.tmp rfl) AEvs.nil)) rfl (by kernel_rfl) (by kernel_rfl) (by intro y hy; simp only [List.mem_cons, List.not_mem_nil, or_false] at hy; rcases hy with rfl | rfl <;> exact ⟨rfl, rfl⟩) (by decide) (by decide) (by decide)) ?_
 refine p_ (S_bytesSl (e := 5) [UInt8.ofNat t.length, UInt8.ofNat (t.length / 256)] rfl (.tmp rfl) rfl (by kernel_rfl) (by kernel_rfl) (by kernel_rfl)) ?_
 refine mv rfl rfl rfl rfl ?_
 refine p_ (S_cat rfl (.tmp rfl) (.tmp rfl) (by first | omega | (simp; done) | (simp; omega))) ?_
 refine as_ rfl rfl rfl rfl ?_
 refine ac rfl rfl rfl ?_
 refine AL_nil (AC_ret ?_)
 refine ret_tmps (ts := [2, 3]) st rfl (by decide) rfl (Sub.l (List.Sublist.refl _)) (Conv.refl (Sub.l (List.Sublist.refl _)) _) ⟨by rw [hx] <;> rfl, rfl⟩ (.inl rfl)
theorem scr_Frame_ok (e : Ent) (hn : e.n.length ≤ 1000000) : GCalls Tryz.prog tabs 10 [entAV e] (.tup [.S (frameE e), .bool (fineE e)]) := by
 intro st hG
 refine co 34 Tryz.func10 ?_
 refine AC_seq (AC_region ?_)
 refine s_ (S_box rfl (.tmp rfl)) ?_
 rintro _ _ ⟨b1, rfl, rfl⟩
 refine p_ (S_assign rfl (AEv.S _)) ?_
 refine ac rfl rfl rfl ?_
 refine AL_nil (AC_seq (AC_region ?_))
 refine ldN 3 0 ?_
 refine p_ (S_gcall rfl (AEvs.cons (y := entAV e) (.tmp rfl) AEvs.nil) ((scr_Call_ok e hn) _ (fun p hp => by repeat (first | exact hG p hp | refine List.mem_cons_of_mem _ ?_ | refine List.mem_append_right _ ?_)))) ?_
 refine mv rfl rfl rfl rfl ?_
 refine ex 0 ?_
 refine ex 1 ?_
 refine s_ (S_alloc [.int .i64 0, .int .i64 0, .int .u64 0, .string ⟨#[]⟩, .slice none 0 0, .slice none 0 0, .slice none 0 0, .int .i64 0, .int .i64 0, .int .i64 0, .int .i64 0, .int .i64 0, .int .i64 0, .int .i64 0, .string ⟨#[]⟩, .slice none 0 0] rfl (by kernel_rfl)) ?_
 rintro _ _ ⟨b4, rfl, rfl⟩
 refine stW 0 ?_
 refine as_ rfl rfl rfl rfl ?_
 refine AL_nil ?_
 refine AC_seq ?_
 refine AC_seq (AC_region ?_)
 refine mv rfl rfl rfl rfl ?_
 refine p_ (S_not rfl (.tmp rfl)) ?_
 refine AL_nil ?_
 refine AC_cond (.tmp rfl) (fun hb3 => ?_) (fun hb3 => ?_)
 ·try simp only [zA,zO,zN,zM,zP,zQ,zD,zF,gd] at hb3
  have ho : okE e = false := by simpa using hb3
  have hf : fineE e = false := by unfold fineE; rw [ho]; rfl
  have hx := fine_no hf
  refine AC_seq (AC_region ?_)
  refine p_ (S_assign rfl (AEv.S _)) ?_
  refine ac rfl rfl rfl ?_
  refine AL_nil (AC_ret ?_)
  refine ret_tmps (ts := [2, 3]) st rfl (by decide) rfl (Sub.l ((List.sublist_cons_self _ _).trans (List.sublist_cons_self _ _))) (Conv.refl (Sub.l ((List.sublist_cons_self _ _).trans (List.sublist_cons_self _ _))) _) ⟨by rw [hf, hx] <;> rfl, rfl⟩ (.inl rfl)
 try simp only [zA,zO,zN,zM,zP,zQ,zD,zF,gd] at hb3
 have ho : okE e = true := by simpa using hb3
 refine AC_skip ?_
 refine AC_seq (AC_region ?_)
 refine ldN 16 0 ?_
 refine p_ (S_gcall rfl (AEvs.cons (y := calAV (callA e)) (.tmp rfl) AEvs.nil) ((ask_Bytes_ok (callA e) (callA_short e) (callA_rev e)) _ (fun p hp => by repeat (first | exact hG p hp | refine List.mem_cons_of_mem _ ?_ | refine List.mem_append_right _ ?_)))) ?_
 refine mv rfl rfl rfl rfl ?_
 refine ex 0 ?_
 refine ex 1 ?_
 refine as_ rfl rfl rfl rfl ?_
 refine as_ rfl rfl rfl rfl ?_
 refine AL_nil (AC_seq (AC_region ?_))
 refine mv rfl rfl rfl rfl ?_
 refine p_ (S_pcall rfl (AEvs.cons (.tmp rfl) AEvs.nil) (frame_PutG_ok (if checkA (callA e) = none then calB (callA e) else []))) ?_
 refine mv rfl rfl rfl rfl ?_
 refine ex 0 ?_
 refine ex 1 ?_
 refine as_ rfl rfl rfl rfl ?_
 refine as_ rfl rfl rfl rfl ?_
 refine AL_nil ?_
 refine AC_seq ?_
 refine AC_seq (AC_region ?_)
 refine mv rfl rfl rfl rfl ?_
 refine p_ (S_neq rfl (.tmp rfl) (AEv.const _)) ?_
 refine mv rfl rfl rfl rfl ?_
 refine g_ (fun _ => mA) ?_
 refine g_ (fun _ => S_neq rfl (AEv.cd (.tmp rfl)) (AEv.const _)) ?_
 refine p_ (S_or rfl (.tmp rfl) (fun hp10 => (AEv.cd (.tmp rfl)))) ?_
 refine AL_nil ?_
 refine AC_cond (.tmp rfl) (fun hb11 => ?_) (fun hb11 => ?_)
 ·try simp only [zA,zO,zN,zM,zP,zQ,zD,zF,gd] at hb11
  have hf : fineE e = false := by
   by_cases hk : checkA (callA e) = none
   ·rw [if_pos hk] at hb11
    have h9 : 2048 < (calB (callA e)).length := Classical.byContradiction fun h => by
     rw [putF_good h, hk] at hb11; simp [erCode] at hb11
    unfold fineE; rw [decide_eq_false (by omega), Bool.and_false]
   ·unfold fineE; rw [show (checkA (callA e)).isNone = false by cases h : checkA (callA e) with | none => exact absurd h hk | some x => rfl]; simp
  have hx := fine_no hf
  refine AC_seq (AC_region ?_)
  refine p_ (S_assign rfl (AEv.S _)) ?_
  refine ac rfl rfl rfl ?_
  refine AL_nil (AC_ret ?_)
  refine ret_tmps (ts := [2, 3]) st rfl (by decide) rfl (Sub.l ((List.sublist_cons_self _ _).trans (List.sublist_cons_self _ _))) (Conv.refl (Sub.l ((List.sublist_cons_self _ _).trans (List.sublist_cons_self _ _))) _) ⟨by rw [hf, hx] <;> rfl, rfl⟩ (.inl rfl)
 try simp only [zA,zO,zN,zM,zP,zQ,zD,zF,gd] at hb11
 have hk : checkA (callA e) = none := check_code (by have := hb11.1; simpa using this)
 rw [if_pos hk] at hb11 ⊢
 have h9 : ¬ 2048 < (calB (callA e)).length := fun h => by rw [putF_long h] at hb11; simp at hb11
 have hf : fineE e = true := by unfold fineE; rw [ho, hk, decide_eq_true (by omega)]; rfl
 have hx := (fine_yes hf).1
 rw [putF_good h9]
 refine AC_skip ?_
 refine AC_seq (AC_region ?_)
 refine mv rfl rfl rfl rfl ?_
 refine as_ rfl rfl rfl rfl ?_
 refine ac rfl rfl rfl ?_
 refine AL_nil (AC_ret ?_)
 refine ret_tmps (ts := [2, 3]) st rfl (by decide) rfl (Sub.l ((List.sublist_cons_self _ _).trans (List.sublist_cons_self _ _))) (Conv.refl (Sub.l ((List.sublist_cons_self _ _).trans (List.sublist_cons_self _ _))) _) ⟨by rw [hf, hx] <;> rfl, rfl⟩ (.inl rfl)
set_option maxHeartbeats 1000000 in
theorem law_ScriptFrames (e : Ent) : GCalls Tryz.prog tabs 4 [entAV e] (.bool true) := by
 intro st hG
 refine co 72 Tryz.func4 ?_
 refine AC_seq (AC_region ?_)
 refine s_ (S_box rfl (.tmp rfl)) ?_
 rintro _ _ ⟨b1, rfl, rfl⟩
 refine ac rfl rfl rfl ?_
 refine AL_nil ?_
 refine AC_seq ?_
 refine AC_seq (AC_region ?_)
 refine p_ (S_gcall rfl AEvs.nil ((law45_works_ok) _ (fun p hp => by repeat (first | exact hG p hp | refine List.mem_cons_of_mem _ ?_ | refine List.mem_append_right _ ?_)))) ?_
 refine p_ (S_not rfl (.tmp rfl)) ?_
 refine AL_nil ?_
 refine AC_cond (.tmp rfl) (fun hb2 => ?_) (fun hb2 => ?_)
 ·simp at hb2; done
 try simp only [zA,zO,zN,zM,zP,zQ,zD,zF,gd] at hb2
 refine AC_skip ?_
 refine AC_seq ?_
 refine AC_seq (AC_region ?_)
 refine ldN 3 0 ?_
 refine p_ (S_pcall rfl (AEvs.cons (y := entAV e) (.tmp rfl) AEvs.nil) (law45_light_ok e)) ?_
 refine p_ (S_not rfl (.tmp rfl)) ?_
 refine AL_nil ?_
 refine AC_cond (.tmp rfl) (fun hb3 => ?_) (fun hb3 => ?_)
 ·try simp only [zA,zO,zN,zM,zP,zQ,zD,zF,gd] at hb3
  refine AC_seq (AC_region ?_)
  refine ac rfl rfl rfl ?_
  refine AL_nil (AC_ret ?_)
  refine ret_tmp st rfl rfl (Sub.l (List.sublist_cons_self _ _)) (Conv.refl (Sub.l (List.sublist_cons_self _ _)) _) ⟨rfl, rfl⟩ (.inl rfl)
 try simp only [zA,zO,zN,zM,zP,zQ,zD,zF,gd] at hb3
 have hn : e.n.length ≤ 1000000 := by first | (have h9 := hb3.1; omega) | (simp at hb3; omega)
 refine AC_skip ?_
 refine AC_seq (AC_region ?_)
 refine ldN 3 0 ?_
 refine p_ (S_pcall rfl (AEvs.cons (y := entAV e) (.tmp rfl) AEvs.nil) (law45_To_ok e)) ?_
 refine p_ (S_gcall rfl (AEvs.cons (y := entAV e) (.tmp rfl) AEvs.nil) ((scr_Frame_ok e hn) _ (fun p hp => by repeat (first | exact hG p hp | refine List.mem_cons_of_mem _ ?_ | refine List.mem_append_right _ ?_)))) ?_
 refine mv rfl rfl rfl rfl ?_
 refine ex 0 ?_
 refine ex 1 ?_
 refine as_ rfl rfl rfl rfl ?_
 refine as_ rfl rfl rfl rfl ?_
 refine AL_nil (AC_seq (AC_region ?_))
 refine ldN 3 0 ?_
 refine p_ (S_pcall rfl (AEvs.cons (y := entAV e) (.tmp rfl) AEvs.nil) (law45_To_ok e)) ?_
 refine p_ (S_gcall rfl (AEvs.cons (y := entAV e) (.tmp rfl) AEvs.nil) ((scr_Call_ok e hn) _ (fun p hp => by repeat (first | exact hG p hp | refine List.mem_cons_of_mem _ ?_ | refine List.mem_append_right _ ?_)))) ?_
 refine mv rfl rfl rfl rfl ?_
 refine ex 0 ?_
 refine ex 1 ?_
 refine s_ (S_alloc [.int .i64 0, .int .i64 0, .int .u64 0, .string ⟨#[]⟩, .slice none 0 0, .slice none 0 0, .slice none 0 0, .int .i64 0, .int .i64 0, .int .i64 0, .int .i64 0, .int .i64 0, .int .i64 0, .int .i64 0, .string ⟨#[]⟩, .slice none 0 0] rfl (by kernel_rfl)) ?_
 rintro _ _ ⟨b5, rfl, rfl⟩
 refine stW 0 ?_
 refine as_ rfl rfl rfl rfl ?_
 refine AL_nil ?_
 refine AC_seq ?_
 refine AC_seq (AC_region ?_)
 refine mv rfl rfl rfl rfl ?_
 refine p_ (S_not rfl (.tmp rfl)) ?_
 refine AL_nil ?_
 refine AC_cond (.tmp rfl) (fun hb5 => ?_) (fun hb5 => ?_)
 ·try simp only [zA,zO,zN,zM,zP,zQ,zD,zF,gd] at hb5
  have hx : frameE e = [] := fine_no (by simpa using hb5)
  refine AC_seq (AC_region ?_)
  refine mv rfl rfl rfl rfl ?_
  refine p_ (S_eqS rfl (.tmp rfl) (AEv.S _)) ?_
  refine as_ rfl rfl rfl rfl ?_
  refine AL_nil (AC_ret ?_)
  refine ret_tmp st rfl rfl (Sub.l ((List.sublist_cons_self _ _).trans (List.sublist_cons_self _ _))) (Conv.refl (Sub.l ((List.sublist_cons_self _ _).trans (List.sublist_cons_self _ _))) _) ⟨congrArg AV.bool (by rw [hx]; simp), rfl⟩ (.inl rfl)
 try simp only [zA,zO,zN,zM,zP,zQ,zD,zF,gd] at hb5
 have hf : fineE e = true := by simpa using hb5
 obtain ⟨hx1, hx2, hx3, hx4⟩ := fine_yes hf
 have hfd : feedC [] false [] (frameE e) = ([], false, [calB (callA e)], 0) := by rw [hx1]; exact feed_frame hx4
 obtain ⟨hc1, hc2⟩ := call_of hf
 refine AC_skip ?_
 refine AC_seq (AC_region ?_)
 refine s_ (S_call rfl AEvs.nil (conn_New_ok _)) ?_
 rintro _ _ ⟨_, ⟨bc, bx, rfl, rfl⟩, rfl⟩
 refine as_ rfl rfl rfl rfl ?_
 refine AL_nil ?_
 refine AC_seq ?_
 refine AC_seq (AC_region ?_)
 refine mv rfl rfl rfl rfl ?_
 refine p_ (S_eqlNil rfl (.tmp rfl) (AEv.const _) (by kernel_rfl)) ?_
 refine mv rfl rfl rfl rfl ?_
 refine g_ (fun _ => mA) ?_
 refine g_ (fun _ => S_not rfl (AEv.cd (.tmp rfl))) ?_
 refine p_ (S_or rfl (.tmp rfl) (fun hp12 => (AEv.cd (.tmp rfl)))) ?_
 refine AL_nil ?_
 refine AC_cond (.tmp rfl) (fun hb13 => ?_) (fun hb13 => ?_)
 ·exfalso; revert hb13; simp [hx2]
 try simp only [zA,zO,zN,zM,zP,zQ,zD,zF,gd] at hb13
 refine AC_skip ?_
 refine AC_seq (AC_region ?_)
 refine mv rfl rfl rfl rfl ?_
 refine mv rfl rfl rfl rfl ?_
 refine s_ (S_call rfl (AEvs.cons (.tmp rfl) (AEvs.cons (.tmp rfl) AEvs.nil)) (conn_Feed_ok bc bx .nil [] [] false _ 0 rfl (frameE e) (by decide) (by rw [hx1, frameB_len]; omega) (by decide) _)) ?_
 rintro _ _ ⟨_, ⟨p1, hp1, rfl, rfl⟩, rfl⟩
 rw [hfd] at hp1 ⊢
 dsimp only at hp1 ⊢
 refine mv rfl rfl rfl rfl ?_
 refine ex 0 ?_
 refine ex 1 ?_
 refine as_ rfl rfl rfl rfl ?_
 refine as_ rfl rfl rfl rfl ?_
 refine AL_nil (AC_seq (AC_region ?_))
 refine mv rfl rfl rfl rfl ?_
 refine s_ (S_call rfl (AEvs.cons (.tmp rfl) AEvs.nil) (conn_Next_ok bc bx p1 [calB (callA e)] [] false _ 0 hp1 (by simp) (by decide) _ (fun r hr => List.mem_cons_of_mem _ (List.mem_cons_of_mem _ (hG r hr))))) ?_
 rintro _ _ ⟨_, ⟨p2, hp2, rfl, rfl⟩, rfl⟩
 refine mv rfl rfl rfl rfl ?_
 refine ex 0 ?_
 refine ex 1 ?_
 refine s_ (S_alloc [.int .i64 0, .int .i64 0, .int .i64 0, .int .u64 0, .string ⟨#[]⟩, .slice none 0 0, .slice none 0 0, .slice none 0 0, .int .i64 0, .int .i64 0, .int .i64 0, .int .i64 0, .int .i64 0, .int .i64 0, .int .i64 0, .string ⟨#[]⟩, .slice none 0 0, .int .i64 0, .string ⟨#[]⟩] rfl (by kernel_rfl)) ?_
 rintro _ _ ⟨b10, rfl, rfl⟩
 refine stW 0 ?_
 refine as_ rfl rfl rfl rfl ?_
 refine AL_nil (AC_seq (AC_region ?_))
 refine mv rfl rfl rfl rfl ?_
 refine p_ (S_eql rfl (.tmp rfl) (AEv.const _)) ?_
 refine mv rfl rfl rfl rfl ?_
 refine g_ (fun _ => mA) ?_
 refine g_ (fun _ => S_eql rfl (AEv.cd (.tmp rfl)) (AEv.const _)) ?_
 refine an ?_
 refine mv rfl rfl rfl rfl ?_
 refine g_ (fun _ => mA) ?_
 refine g_ (fun _ => S_eql rfl (AEv.cd (.tmp rfl)) (AEv.const _)) ?_
 refine an ?_
 refine mv rfl rfl rfl rfl ?_
 refine g_ (fun _ => fA 17) ?_
 refine g_ (fun _ => lA 0) ?_
 refine g_ (fun _ => S_eql rfl (AEv.cd (.tmp rfl)) (AEv.const _)) ?_
 refine an ?_
 refine mv rfl rfl rfl rfl ?_
 refine g_ (fun _ => fA 1) ?_
 refine g_ (fun _ => lN 16 0) ?_
 refine g_ (fun _ => S_loadNM (m := 16) rfl (.tmp rfl) (by repeat (first | exact List.mem_cons_self | refine List.mem_append_right _ ?_ | refine List.mem_cons_of_mem _ ?_)) (by kernel_rfl) (by first | exact Nat.le_of_ble_eq_true rfl | (simp; omega) | simp)) ?_
 refine g_ (fun _ => S_pcall rfl (AEvs.cons (y := calAV (ofA (calB (callA e)))) (AEv.cd (.tmp rfl)) (AEvs.cons (y := calAV (callA e)) (AEv.cd (.tmp rfl)) AEvs.nil)) (book_SameCall_ok (ofA (calB (callA e))) (callA e) (ofA_short _) (callA_short e))) ?_
 refine an ?_
 refine as_ rfl rfl rfl rfl ?_
 refine AL_nil (AC_ret ?_)
 refine ret_tmp st rfl rfl (Sub.l (.cons _ (.cons _ (.cons _ ((List.Sublist.cons _ (List.Sublist.cons _ (List.Sublist.refl _))).trans (List.sublist_append_right _ _)))))) (Conv.refl (Sub.l (.cons _ (.cons _ (.cons _ ((List.Sublist.cons _ (List.Sublist.cons _ (List.Sublist.refl _))).trans (List.sublist_append_right _ _)))))) _) ⟨congrArg AV.bool (by simp [waitC, hc1, hc2, erCode, sameA_refl]), rfl⟩ (.inl rfl)
end Go.Proofs.YtfpkefhjomeeeaaGreatDoor
