/- A part of the proof: laws of the logic and of the data, no program in sight.
Conditions: none beyond each theorem's own. -/
import Derived.Test.YtdnjeianoioieaaGreatDoorL2
import Derived.LaidMore
import Derived.Lib.LaidTab
import Derived.OpenShut
/-
Specs as bytes.
Conditions: none; no program is in sight.
-/
set_option linter.unusedVariables false
set_option linter.unusedSimpArgs false
namespace Go.AL
open Go.RowKit Go.NumSpec
abbrev MR : Int := 1099511627776
def labRd : Rd Lab := seqR (textRd 33) (textRd 16)
def labB (x : Lab) : List UInt8 := textB x.1 ++ textB x.2
def LabOk (x : Lab) : Prop := (x.1.length : Int) ≤ 33 ∧ (x.2.length : Int) ≤ 16
theorem labC : Codec labRd labB LabOk := seqC (textC (by decide) (by decide)) (textC (by decide) (by decide))
def labsRd : Rd (List Lab) := allR labRd 4
def labsB (l : List Lab) : List UInt8 := listB labB l
def LabsOk (l : List Lab) : Prop := (l.length : Int) ≤ 4 ∧ ∀ x ∈ l, LabOk x
theorem labsC : Codec labsRd labsB LabsOk := listC labC (by decide) (by decide)
def triRd : Rd Tri := seqR (numRd MR) (seqR (numRd MR) (numRd MR))
def triB (r : Tri) : List UInt8 := numB r.1 ++ (numB r.2.1 ++ numB r.2.2)
def TriOk (r : Tri) : Prop := (0 ≤ r.1 ∧ r.1 ≤ MR) ∧ ((0 ≤ r.2.1 ∧ r.2.1 ≤ MR) ∧ (0 ≤ r.2.2 ∧ r.2.2 ≤ MR))
theorem triC : Codec triRd triB TriOk := seqC (numC (by decide) (by decide)) (seqC (numC (by decide) (by decide)) (numC (by decide) (by decide)))
def portsRd : Rd (List Int) := allR (numRd 65535) 3
def portsB (l : List Int) : List UInt8 := listB numB l
def PortsOk (l : List Int) : Prop := (l.length : Int) ≤ 3 ∧ ∀ x ∈ l, 0 ≤ x ∧ x ≤ 65535
theorem portsC : Codec portsRd portsB PortsOk := listC (numC (by decide) (by decide)) (by decide) (by decide)
abbrev CtrT := List UInt8 × (List UInt8 × (Tri × (Tri × (List Int × (Int × Int)))))
def ctrOf (x : CtrT) : Ctr := ⟨x.1, x.2.1, x.2.2.1, x.2.2.2.1, x.2.2.2.2.1, x.2.2.2.2.2⟩
def ctrTo (c : Ctr) : CtrT := (c.name, (c.image, (c.req, (c.lim, (c.ports, c.probe)))))
def ctrRd : Rd Ctr := mapR ctrOf (seqR (textRd 16) (seqR (textRd 33) (seqR triRd (seqR triRd (seqR portsRd (seqR (numRd 1000) (numRd 10)))))))
def ctrB (c : Ctr) : List UInt8 := textB c.name ++ (textB c.image ++ (triB c.req ++ (triB c.lim ++ (portsB c.ports ++ (numB c.probe.1 ++ numB c.probe.2)))))
def CtrOk (c : Ctr) : Prop := (c.name.length : Int) ≤ 16 ∧ ((c.image.length : Int) ≤ 33 ∧ (TriOk c.req ∧ (TriOk c.lim ∧ (PortsOk c.ports ∧ ((0 ≤ c.probe.1 ∧ c.probe.1 ≤ 1000) ∧ (0 ≤ c.probe.2 ∧ c.probe.2 ≤ 10))))))
theorem ctrC : Codec ctrRd ctrB CtrOk :=
  mapC (h := ctrOf) (k := ctrTo) (fun _ => rfl) (fun _ => rfl) (seqC (textC (by decide) (by decide)) (seqC (textC (by decide) (by decide)) (seqC triC (seqC triC (seqC portsC (seqC (numC (by decide) (by decide)) (numC (by decide) (by decide))))))))
def ctrsB (l : List Ctr) : List UInt8 := listB ctrB l
def CtrsOk (n : Int) (l : List Ctr) : Prop := (l.length : Int) ≤ n ∧ ∀ x ∈ l, CtrOk x
abbrev SpcT := List UInt8 × (List Lab × (List Ctr × (List Ctr × (Int × (Int × Int)))))
def spcOf (x : SpcT) : Spc := ⟨x.1, x.2.1, x.2.2.1, x.2.2.2.1, x.2.2.2.2.1, x.2.2.2.2.2.1, x.2.2.2.2.2.2⟩
def spcTo (s : Spc) : SpcT := (s.name, (s.labels, (s.init, (s.main, (s.restart, (s.grace, s.prio))))))
def spcRd : Rd Spc := mapR spcOf (seqR (textRd 16) (seqR labsRd (seqR (allR ctrRd 3) (seqR (allR ctrRd 4) (seqR (numRd 3) (seqR (numRd 1000) (numRd 10)))))))
def spcB (s : Spc) : List UInt8 := textB s.name ++ (labsB s.labels ++ (ctrsB s.init ++ (ctrsB s.main ++ (numB s.restart ++ (numB s.grace ++ numB s.prio)))))
def SpcOk (s : Spc) : Prop := (s.name.length : Int) ≤ 16 ∧ (LabsOk s.labels ∧ (CtrsOk 3 s.init ∧ (CtrsOk 4 s.main ∧ ((0 ≤ s.restart ∧ s.restart ≤ 3) ∧ ((0 ≤ s.grace ∧ s.grace ≤ 1000) ∧ (0 ≤ s.prio ∧ s.prio ≤ 10))))))
theorem spcC : Codec spcRd spcB SpcOk :=
  mapC (h := spcOf) (k := spcTo) (fun _ => rfl) (fun _ => rfl) (seqC (textC (by decide) (by decide)) (seqC labsC (seqC (listC ctrC (by decide) (by decide)) (seqC (listC ctrC (by decide) (by decide)) (seqC (numC (by decide) (by decide)) (seqC (numC (by decide) (by decide)) (numC (by decide) (by decide))))))))
/-! What may be is within its bounds -/
theorem atMost_none {name : List UInt8} {n lo hi : Int} (h : atMostE name n lo hi = none) : lo ≤ n ∧ n ≤ hi := by
  unfold atMostE at h
  split at h
  · cases h
  · omega
theorem new_none {b : Bool} {c : Int} {ps : List (List UInt8)} (hc : c ≠ 0) (h : erNew (saysV b c) ps = none) : b = true := by
  unfold erNew at h
  split at h
  · rename_i h1; exact (says_zero hc).1 h1
  · cases h
theorem image_len {s : List UInt8} (h : (tparts s).2.2 = true) : (s.length : Int) ≤ 33 := by
  unfold tparts at h
  split at h
  · rename_i h1
    have h2 := cutV_len h1.1
    have h3 := h1.2.1
    have h4 := h1.2.2
    unfold repoV at h3; unfold tagV at h4
    simp only [Bool.and_eq_true, decide_eq_true_eq] at h3 h4
    have := h3.1; have := h4.1.2
    omega
  · cases h
theorem req_ok {r : Tri} (h : reqE r = none) : TriOk r := by
  have h0 := erIn_none h
  exact ⟨within_none (firstE_none h0 _ List.mem_cons_self), within_none (firstE_none h0 (withinE [109, 101, 109] r.2.1 0 1099511627776) (by simp)), within_none (firstE_none h0 (withinE [112, 105, 100, 115] r.2.2 0 1099511627776) (by simp))⟩
theorem most_ok {name : List UInt8} {n lo : Int} (h0 : 0 ≤ lo) (h : mostE name n lo = none) : 0 ≤ n ∧ n ≤ MR := by
  unfold mostE at h
  split at h
  · rename_i h1; subst h1; exact ⟨by decide, by decide⟩
  · have := within_none h
    unfold MR; omega
theorem lim_ok {l r : Tri} (hr : TriOk r) (h : limE l r = none) : TriOk l := by
  have h0 := erIn_none h
  exact ⟨most_ok hr.1.1 (firstE_none h0 _ List.mem_cons_self), most_ok hr.2.1.1 (firstE_none h0 (mostE [109, 101, 109] l.2.1 r.2.1) (by simp)), most_ok hr.2.2.1 (firstE_none h0 (mostE [112, 105, 100, 115] l.2.2 r.2.2) (by simp))⟩
theorem port_ok {ps l : List Int} {n : Int} (hn : n ≤ 3) (h : portE ps l n = none) : PortsOk l := by
  obtain ⟨h1, h2⟩ := portE_out h
  refine ⟨by have := atMost_none h1; omega, fun x hx => ?_⟩
  obtain ⟨j, hj, rfl⟩ := List.mem_iff_getElem.1 hx
  have := within_none (portAt_out (h2 j hj)).1
  rw [List.getD_eq_getElem?_getD, List.getElem?_eq_getElem hj] at this
  simp only [Option.getD_some] at this
  omega
theorem ctr_ok {ns : List (List UInt8)} {ps : List Int} {c : Ctr} {a b : Int} (ha : a ≤ 3) (hb : b ≤ 1000) (h : ctrE ns ps c a b = none) : CtrOk c := by
  have h1 := new_none (by decide) (nameE_out (firstE_none h (nameE ns c.name) (by simp))).1
  have h2 := new_none (by decide) (firstE_none h (erNew (saysV (tparts c.image).2.2 33) [[105, 109, 97, 103, 101]]) (by simp))
  have h3 := req_ok (firstE_none h (reqE c.req) (by simp))
  have h4 := lim_ok h3 (firstE_none h (limE c.lim c.req) (by simp))
  have h5 := port_ok ha (firstE_none h (portE ps c.ports a) (by simp))
  have h6 := erIn_none (firstE_none h (probeE c.probe b) (by simp))
  have h7 := within_none (firstE_none h6 _ List.mem_cons_self)
  have h8 := within_none (firstE_none h6 _ (List.mem_cons_of_mem _ List.mem_cons_self))
  have h9 := nameV_len h1
  refine ⟨by omega, image_len h2, h3, h4, h5, by omega, ?_⟩
  by_cases hp : c.probe.1 = 0
  · rw [if_pos hp, if_pos hp] at h8; omega
  · rw [if_neg hp, if_neg hp] at h8; omega
theorem ctrs_ok {name : List UInt8} {ns : List (List UInt8)} {ps : List Int} {l : List Ctr} {a b : Int} (ha : a ≤ 3) (hb : b ≤ 1000) (h : ctrsE name ns ps l a b = none) : ∀ x ∈ l, CtrOk x := fun x hx => by
  obtain ⟨j, hj, rfl⟩ := List.mem_iff_getElem.1 hx
  have := erIn_none (eachE_none h j hj)
  rw [ctrAt_at hj] at this
  exact ctr_ok ha hb this
theorem check_ok {s : Spc} (h : checkE s = none) : SpcOk s := by
  obtain ⟨h1, h2, h3⟩ := check_all h
  have n1 := nameV_len (new_none (by decide) (firstE_none h1 _ List.mem_cons_self))
  have n2 := labels_out (firstE_none h1 (labelsE labelsN s.labels) (by simp))
  have n3 := atMost_none (firstE_none h1 (atMostE initN (s.init.length : Int) 0 3) (by simp))
  have n4 := ctrs_ok (by decide) (by decide) (firstE_none h2 (ctrsE initN [] [] s.init 0 0) (by simp))
  have n5 := atMost_none (firstE_none h2 (atMostE mainN (s.main.length : Int) 1 4) (by simp))
  have n6 := ctrs_ok (by decide) (by decide) (firstE_none h3 _ List.mem_cons_self)
  have n7 := within_none (firstE_none h3 (withinE [114, 101, 115, 116, 97, 114, 116] s.restart 1 3) (by simp))
  have n8 := within_none (firstE_none h3 (withinE [103, 114, 97, 99, 101] s.grace 0 1000) (by simp))
  have n9 := within_none (firstE_none h3 (withinE [112, 114, 105, 111] s.prio 0 10) (by simp))
  refine ⟨by omega, ⟨by have := n2.1; omega, fun x hx => ?_⟩, ⟨n3.2, n4⟩, ⟨n5.2, n6⟩, by omega, n8, n9⟩
  have := n2.2.2 x hx
  have k1 := key_short this.1
  have k2 := val_short this.2
  exact ⟨by omega, by omega⟩
/-! How long -/
theorem ACalls.preQ {P : Program} {f : FuncId} {args : List AV} {foot pre F : St} {K : AV → St → Prop} (hc : ACalls P f args (foot ++ (pre ++ F)) fun x st' => ∃ foot', K x foot' ∧ st' = foot' ++ (pre ++ F)) : ACalls P f args (pre ++ (foot ++ F)) fun x st' => ∃ foot', K x foot' ∧ st' = pre ++ (foot' ++ F) := by
  have perm : ∀ (a : St), (pre ++ (a ++ F)).Perm (a ++ (pre ++ F)) := fun a => by
    rw [← List.append_assoc, ← List.append_assoc]
    exact List.Perm.append_right F List.perm_append_comm
  refine ⟨hc.enters, fun w vs hrel hs hr => ?_⟩
  have hx : Ext (pre ++ (foot ++ F)) w (foot ++ (pre ++ F)) w := Ext.sub fun p hp => (perm foot).mem_iff.2 hp
  have hrel2 : Rel (foot ++ (pre ++ F)) w := hrel.sub (fun p hp => (perm foot).mem_iff.2 hp) (((perm foot).map (·.1)).nodup_iff.1 hrel.nodup)
  refine (hc.calls w vs hrel2 hs fun i x v h1 h2 => (hr i x v h1 h2).mono hx hrel.nodup).mono ?_
  rintro e w' ⟨r, x, st', he, ⟨foot', hk, rfl⟩, hr', hrel', hext⟩
  have hy : Ext (foot' ++ (pre ++ F)) w' (pre ++ (foot' ++ F)) w' := Ext.sub fun p hp => (perm foot').mem_iff.1 hp
  exact ⟨r, x, _, he, ⟨foot', hk, rfl⟩, hr'.mono hy hrel'.nodup, hrel'.sub (fun p hp => (perm foot').mem_iff.1 hp) (((perm foot').map (·.1)).nodup_iff.2 hrel'.nodup), (hx.trans hext hrel.nodup).trans hy hrel.nodup⟩
end Go.AL

/-
Specs that are read.
Conditions: none; no program is in sight.
-/
set_option linter.unusedVariables false
set_option linter.unusedSimpArgs false
namespace Go.AL
open Go.RowKit Go.NumSpec
def spc0 : Spc := ⟨[], [], [], [], 0, 0, 0⟩
theorem labRd_short (s : List UInt8) (c : Int) : (labRd s c).1.1.length ≤ 33 ∧ (labRd s c).1.2.length ≤ 16 := by
  have h1 := wtextR_short s c (most := 33) (by decide)
  have h2 := wtextR_short (wtextR s c 33).2.1 (wtextR s c 33).2.2 (most := 16) (by decide)
  exact ⟨by show (wtextR s c 33).1.length ≤ 33; omega, by show (wtextR (wtextR s c 33).2.1 (wtextR s c 33).2.2 16).1.length ≤ 16; omega⟩
theorem ctrRd_light (s : List UInt8) (c : Int) : lightC (ctrRd s c).1 = true := by
  have h1 := wtextR_short s c (most := 16) (by decide)
  have h2 := wtextR_short (wtextR s c 16).2.1 (wtextR s c 16).2.2 (most := 33) (by decide)
  have h3 : (((ctrRd s c).1.ports.length : Nat) : Int) ≤ 3 := allR_few (f := numRd 65535) (most := 3) (by decide) _ _
  unfold lightC
  refine decide_eq_true ⟨?_, ?_, by omega⟩
  · show (wtextR s c 16).1.length ≤ 100; omega
  · show (wtextR (wtextR s c 16).2.1 (wtextR s c 16).2.2 33).1.length ≤ 100; omega
theorem allR_all {α : Type} {f : Rd α} {p : α → Prop} (hp : ∀ s c, p (f s c).1) (most : Int) (s : List UInt8) (c : Int) : ∀ x ∈ (allR f most s c).1, p x := takeN_all hp _ _ _
theorem light_inP {s : Spc} (h1 : s.name.length ≤ 100) (h2 : s.labels.length ≤ 10) (h3 : s.init.length ≤ 8) (h4 : s.main.length ≤ 8) (h5 : ∀ x ∈ s.labels, x.1.length ≤ 100 ∧ x.2.length ≤ 100) (h6 : ∀ x ∈ s.init, lightC x = true) (h7 : ∀ x ∈ s.main, lightC x = true) : lightS s = true := by
  unfold lightS
  simp only [Bool.and_eq_true, decide_eq_true_eq, List.all_eq_true]
  exact ⟨⟨⟨h1, h2, h3, h4⟩, fun x hx => by unfold lightL; exact decide_eq_true (h5 x hx)⟩, h6, h7⟩
theorem spcRd_light (s : List UInt8) (c : Int) : lightS (spcRd s c).1 = true := by
  have h1 := wtextR_short s c (most := 16) (by decide)
  have h2 : (((spcRd s c).1.labels.length : Nat) : Int) ≤ 4 := allR_few (f := labRd) (most := 4) (by decide) _ _
  have h3 : (((spcRd s c).1.init.length : Nat) : Int) ≤ 3 := allR_few (f := ctrRd) (most := 3) (by decide) _ _
  have h4 : (((spcRd s c).1.main.length : Nat) : Int) ≤ 4 := allR_few (f := ctrRd) (most := 4) (by decide) _ _
  have h5 : ∀ x ∈ (spcRd s c).1.labels, x.1.length ≤ 33 ∧ x.2.length ≤ 16 := allR_all (f := labRd) labRd_short 4 _ _
  have h6 : ∀ x ∈ (spcRd s c).1.init, lightC x = true := allR_all (f := ctrRd) ctrRd_light 3 _ _
  have h7 : ∀ x ∈ (spcRd s c).1.main, lightC x = true := allR_all (f := ctrRd) ctrRd_light 4 _ _
  refine light_inP ?_ (by omega) (by omega) (by omega) (fun x hx => by have := h5 x hx; omega) h6 h7
  show (wtextR s c 16).1.length ≤ 100; omega
abbrev wireN : List UInt8 := [119, 105, 114, 101]
theorem spc0_light : lightS spc0 = true := by decide
end Go.AL

/-
Calls as bytes.
Conditions: none; no program is in sight.
-/
set_option linter.unusedVariables false
set_option linter.unusedSimpArgs false
namespace Go.AL
open Go.RowKit Go.NumSpec
structure Cal where
  kind : Int
  uid : Int
  rev : Nat
  spec : Spc
  grace : Int
  ctr : Int
  id : Int
  most : Int
  data : List UInt8
  sel : List Lab
def calL (c : Cal) : List AV := [.int .i64 c.kind, .int .i64 c.uid, .int .u64 (c.rev : Int)] ++ (spcL c.spec ++ [.int .i64 c.grace, .int .i64 c.ctr, .int .i64 c.id, .int .i64 c.most, .S c.data, .sl (labsV c.sel)])
def calAV (c : Cal) : AV := .agg (calL c)
def cal0 (k : Int) : Cal := ⟨k, 0, 0, spc0, 0, 0, 0, 0, [], []⟩
/-- each kind's name and its fields' letters -/
def kindsT : List (List UInt8 × List UInt8) := [([], []), ([114, 117, 110], [115]), ([117, 112, 100, 97, 116, 101], [117, 114, 115]), ([107, 105, 108, 108], [117, 103]), ([111, 112, 101, 110], [117, 99]), ([119, 114, 105, 116, 101], [105, 100]), ([114, 101, 97, 100], [105, 109]), ([99, 108, 111, 115, 101], [105]), ([115, 116, 97, 116, 115], [117]), ([108, 105, 115, 116], [108]), ([103, 101, 116], [117]), ([119, 97, 116, 99, 104], [114, 108]), ([99, 97, 110, 99, 101, 108], [105])]
def kindsV : List Value := kindsT.flatMap fun x => [.string ⟨x.1.toArray⟩, .string ⟨x.2.toArray⟩]
abbrev kindA (i : Nat) : List UInt8 × List UInt8 := kindsT.getD i ([], [])
/-! Reading -/
def bigRd : Rd Nat := fun s c => bigR s c
theorem bigC : Codec bigRd putL (fun n => n < 18446744073709551616) where
  back x t hx := bigR_put x t hx
  canon s hs := ⟨canon_big hs, bigR_lt s 0⟩
  err s c hc := by unfold bigRd; rw [bigR_err hc]; exact ⟨rfl, rfl⟩
  cut x p hx hp hl := by unfold bigRd; rw [bigR_lack (lacks_cut hx hp hl)]
  len s c := bigR_len s c
def oneR (f : UInt8) (x : Cal) : Rd Cal :=
  if f = 117 then mapR (fun n => { x with uid := n }) (numRd 1073741824) else if f = 114 then mapR (fun n => { x with rev := n }) bigRd else if f = 115 then mapR (fun v => { x with spec := v }) spcRd else if f = 103 then mapR (fun n => { x with grace := n }) (numRd 1000)
  else if f = 99 then mapR (fun n => { x with ctr := n }) (numRd 3) else if f = 105 then mapR (fun n => { x with id := n }) (numRd 1073741824) else if f = 109 then mapR (fun n => { x with most := n }) (numRd 32) else if f = 100 then mapR (fun v => { x with data := v }) (textRd 32) else if f = 108 then mapR (fun v => { x with sel := v }) labsRd else fun s c => (x, s, c)
def rdF : List UInt8 → Cal → Rd Cal
  | [], x, s, c => (x, s, c)
  | f :: fs, x, s, c => rdF fs (oneR f x s c).1 (oneR f x s c).2.1 (oneR f x s c).2.2
def calRd : Rd Cal := fun s c => rdF (kindA (numR s c 12).1.toNat).2 (cal0 (numR s c 12).1) (numR s c 12).2.1 (numR s c 12).2.2
/-! Writing -/
def fieldB (x : Cal) (f : UInt8) : List UInt8 :=
  if f = 117 then numB x.uid else if f = 114 then putL x.rev else if f = 115 then spcB x.spec else if f = 103 then numB x.grace else if f = 99 then numB x.ctr else if f = 105 then numB x.id else if f = 109 then numB x.most else if f = 100 then textB x.data else if f = 108 then labsB x.sel else []
def calB (x : Cal) : List UInt8 := numB x.kind ++ (kindA x.kind.toNat).2.flatMap (fieldB x)
def FieldOk (x : Cal) (f : UInt8) : Prop :=
  if f = 117 then 0 ≤ x.uid ∧ x.uid ≤ 1073741824 else if f = 114 then x.rev < 18446744073709551616 else if f = 115 then SpcOk x.spec else if f = 103 then 0 ≤ x.grace ∧ x.grace ≤ 1000 else if f = 99 then 0 ≤ x.ctr ∧ x.ctr ≤ 3 else if f = 105 then 0 ≤ x.id ∧ x.id ≤ 1073741824 else if f = 109 then 0 ≤ x.most ∧ x.most ≤ 32 else if f = 100 then (x.data.length : Int) ≤ 32 else if f = 108 then LabsOk x.sel else True
/-- what stays of a call, if only some fields are copied -/
def onlyA (fs : List UInt8) (x : Cal) : Cal := ⟨x.kind, if 117 ∈ fs then x.uid else 0, if 114 ∈ fs then x.rev else 0, if 115 ∈ fs then x.spec else spc0, if 103 ∈ fs then x.grace else 0, if 99 ∈ fs then x.ctr else 0, if 105 ∈ fs then x.id else 0, if 109 ∈ fs then x.most else 0, if 100 ∈ fs then x.data else [], if 108 ∈ fs then x.sel else []⟩
def KindOk (x : Cal) : Prop := 1 ≤ x.kind ∧ x.kind ≤ 12
def CalOk (x : Cal) : Prop := KindOk x ∧ (∀ f ∈ (kindA x.kind.toNat).2, FieldOk x f) ∧ onlyA (kindA x.kind.toNat).2 x = x
theorem mapC2 {α β : Type} {h : α → β} {k : β → α} {f : Rd α} {e : α → List UInt8} {ok : α → Prop} (hkh : ∀ x, k (h x) = x) (hf : Codec f e ok) : Codec (mapR h f) (fun y => e (k y)) (fun y => ok (k y) ∧ h (k y) = y) where
  back x t hx := by unfold mapR; rw [hf.back (k x) t hx.1]; dsimp only; rw [hx.2]
  canon s hs := by
    unfold mapR; dsimp only; rw [hkh]
    exact ⟨(hf.canon s hs).1, (hf.canon s hs).2, rfl⟩
  err s c hc := hf.err s c hc
  cut x p hx hp hl := hf.cut (k x) p hx.1 hp hl
  len s c := hf.len s c
abbrev uC := numC (most := 1073741824) (by decide) (by decide)
theorem Codec.of {α : Type} {f g : Rd α} {e d : α → List UInt8} {ok ok' : α → Prop} (h : Codec f e ok) (hf : g = f) (he : ∀ x, ok' x → ok x ∧ d x = e x) (hb : ∀ x, ok x → ok' x) : Codec g d ok' where
  back x t hx := by rw [hf, (he x hx).2]; exact h.back x t (he x hx).1
  canon s hs := by
    rw [hf] at hs ⊢
    obtain ⟨h1, h2⟩ := h.canon s hs
    have h3 := hb _ h2
    exact ⟨by rw [(he _ h3).2]; exact h1, h3⟩
  err s c hc := by rw [hf]; exact h.err s c hc
  cut x p hx hp hl := by
    rw [hf]
    rw [(he x hx).2] at hp hl
    exact h.cut x p (he x hx).1 hp hl
  len s c := by rw [hf]; exact h.len s c
/-- the fields of one kind -/
def KOk (k : Int) (x : Cal) : Prop := x.kind = k ∧ (∀ f ∈ (kindA k.toNat).2, FieldOk x f) ∧ onlyA (kindA k.toNat).2 x = x
def KB (k : Int) (x : Cal) : List UInt8 := (kindA k.toNat).2.flatMap (fieldB x)
def KR (k : Int) : Rd Cal := rdF (kindA k.toNat).2 (cal0 k)
theorem cal_ext {a b : Cal} (h1 : a.kind = b.kind) (h2 : a.uid = b.uid) (h3 : a.rev = b.rev) (h4 : a.spec = b.spec) (h5 : a.grace = b.grace) (h6 : a.ctr = b.ctr) (h7 : a.id = b.id) (h8 : a.most = b.most) (h9 : a.data = b.data) (h10 : a.sel = b.sel) : a = b := by
  cases a; cases b; simp only at *; subst h1 h2 h3 h4 h5 h6 h7 h8 h9 h10; rfl
theorem kF1 : (kindA (1 : Int).toNat).2 = [115] := rfl
theorem kC1 : Codec (KR 1) (KB 1) (KOk 1) := (mapC2 (h := fun v => { cal0 1 with spec := v }) (k := fun x => x.spec) (fun _ => rfl) spcC).of rfl
  (fun x hx => by
    obtain ⟨h1, h2, h3⟩ := hx
    rw [kF1] at h2 h3
    refine ⟨⟨h2 115 (by decide), ?_⟩, by unfold KB; rw [kF1]; simp [fieldB]⟩
    conv => rhs; rw [← h3]
    unfold onlyA; rw [h1]; rfl)
  (fun x hx => by
    obtain ⟨h1, h2⟩ := hx
    refine ⟨by rw [← h2]; rfl, fun f hf => ?_, by rw [kF1, ← h2]; rfl⟩
    rw [kF1] at hf
    simp only [List.mem_cons, List.not_mem_nil, or_false] at hf
    rcases hf with rfl
    · exact h1)
theorem kF2 : (kindA (2 : Int).toNat).2 = [117, 114, 115] := rfl
theorem kC2 : Codec (KR 2) (KB 2) (KOk 2) := (mapC2 (h := fun v => { cal0 2 with uid := v.1, rev := v.2.1, spec := v.2.2 }) (k := fun x => (x.uid, (x.rev, x.spec))) (fun _ => rfl) (seqC uC (seqC bigC spcC))).of rfl
  (fun x hx => by
    obtain ⟨h1, h2, h3⟩ := hx
    rw [kF2] at h2 h3
    refine ⟨⟨⟨h2 117 (by decide), h2 114 (by decide), h2 115 (by decide)⟩, ?_⟩, by unfold KB; rw [kF2]; simp [fieldB]⟩
    conv => rhs; rw [← h3]
    unfold onlyA; rw [h1]; rfl)
  (fun x hx => by
    obtain ⟨h1, h2⟩ := hx
    refine ⟨by rw [← h2]; rfl, fun f hf => ?_, by rw [kF2, ← h2]; rfl⟩
    rw [kF2] at hf
    simp only [List.mem_cons, List.not_mem_nil, or_false] at hf
    rcases hf with rfl | rfl | rfl
    · exact h1.1
    · exact h1.2.1
    · exact h1.2.2)
theorem kF3 : (kindA (3 : Int).toNat).2 = [117, 103] := rfl
theorem kC3 : Codec (KR 3) (KB 3) (KOk 3) := (mapC2 (h := fun v => { cal0 3 with uid := v.1, grace := v.2 }) (k := fun x => (x.uid, x.grace)) (fun _ => rfl) (seqC uC (numC (most := 1000) (by decide) (by decide)))).of rfl
  (fun x hx => by
    obtain ⟨h1, h2, h3⟩ := hx
    rw [kF3] at h2 h3
    refine ⟨⟨⟨h2 117 (by decide), h2 103 (by decide)⟩, ?_⟩, by unfold KB; rw [kF3]; simp [fieldB]⟩
    conv => rhs; rw [← h3]
    unfold onlyA; rw [h1]; rfl)
  (fun x hx => by
    obtain ⟨h1, h2⟩ := hx
    refine ⟨by rw [← h2]; rfl, fun f hf => ?_, by rw [kF3, ← h2]; rfl⟩
    rw [kF3] at hf
    simp only [List.mem_cons, List.not_mem_nil, or_false] at hf
    rcases hf with rfl | rfl
    · exact h1.1
    · exact h1.2)
theorem kF4 : (kindA (4 : Int).toNat).2 = [117, 99] := rfl
theorem kC4 : Codec (KR 4) (KB 4) (KOk 4) := (mapC2 (h := fun v => { cal0 4 with uid := v.1, ctr := v.2 }) (k := fun x => (x.uid, x.ctr)) (fun _ => rfl) (seqC uC (numC (most := 3) (by decide) (by decide)))).of rfl
  (fun x hx => by
    obtain ⟨h1, h2, h3⟩ := hx
    rw [kF4] at h2 h3
    refine ⟨⟨⟨h2 117 (by decide), h2 99 (by decide)⟩, ?_⟩, by unfold KB; rw [kF4]; simp [fieldB]⟩
    conv => rhs; rw [← h3]
    unfold onlyA; rw [h1]; rfl)
  (fun x hx => by
    obtain ⟨h1, h2⟩ := hx
    refine ⟨by rw [← h2]; rfl, fun f hf => ?_, by rw [kF4, ← h2]; rfl⟩
    rw [kF4] at hf
    simp only [List.mem_cons, List.not_mem_nil, or_false] at hf
    rcases hf with rfl | rfl
    · exact h1.1
    · exact h1.2)
theorem kF5 : (kindA (5 : Int).toNat).2 = [105, 100] := rfl
theorem kC5 : Codec (KR 5) (KB 5) (KOk 5) := (mapC2 (h := fun v => { cal0 5 with id := v.1, data := v.2 }) (k := fun x => (x.id, x.data)) (fun _ => rfl) (seqC uC (textC (most := 32) (by decide) (by decide)))).of rfl
  (fun x hx => by
    obtain ⟨h1, h2, h3⟩ := hx
    rw [kF5] at h2 h3
    refine ⟨⟨⟨h2 105 (by decide), h2 100 (by decide)⟩, ?_⟩, by unfold KB; rw [kF5]; simp [fieldB]⟩
    conv => rhs; rw [← h3]
    unfold onlyA; rw [h1]; rfl)
  (fun x hx => by
    obtain ⟨h1, h2⟩ := hx
    refine ⟨by rw [← h2]; rfl, fun f hf => ?_, by rw [kF5, ← h2]; rfl⟩
    rw [kF5] at hf
    simp only [List.mem_cons, List.not_mem_nil, or_false] at hf
    rcases hf with rfl | rfl
    · exact h1.1
    · exact h1.2)
theorem kF6 : (kindA (6 : Int).toNat).2 = [105, 109] := rfl
theorem kC6 : Codec (KR 6) (KB 6) (KOk 6) := (mapC2 (h := fun v => { cal0 6 with id := v.1, most := v.2 }) (k := fun x => (x.id, x.most)) (fun _ => rfl) (seqC uC (numC (most := 32) (by decide) (by decide)))).of rfl
  (fun x hx => by
    obtain ⟨h1, h2, h3⟩ := hx
    rw [kF6] at h2 h3
    refine ⟨⟨⟨h2 105 (by decide), h2 109 (by decide)⟩, ?_⟩, by unfold KB; rw [kF6]; simp [fieldB]⟩
    conv => rhs; rw [← h3]
    unfold onlyA; rw [h1]; rfl)
  (fun x hx => by
    obtain ⟨h1, h2⟩ := hx
    refine ⟨by rw [← h2]; rfl, fun f hf => ?_, by rw [kF6, ← h2]; rfl⟩
    rw [kF6] at hf
    simp only [List.mem_cons, List.not_mem_nil, or_false] at hf
    rcases hf with rfl | rfl
    · exact h1.1
    · exact h1.2)
theorem kF7 : (kindA (7 : Int).toNat).2 = [105] := rfl
theorem kC7 : Codec (KR 7) (KB 7) (KOk 7) := (mapC2 (h := fun v => { cal0 7 with id := v }) (k := fun x => x.id) (fun _ => rfl) uC).of rfl
  (fun x hx => by
    obtain ⟨h1, h2, h3⟩ := hx
    rw [kF7] at h2 h3
    refine ⟨⟨h2 105 (by decide), ?_⟩, by unfold KB; rw [kF7]; simp [fieldB]⟩
    conv => rhs; rw [← h3]
    unfold onlyA; rw [h1]; rfl)
  (fun x hx => by
    obtain ⟨h1, h2⟩ := hx
    refine ⟨by rw [← h2]; rfl, fun f hf => ?_, by rw [kF7, ← h2]; rfl⟩
    rw [kF7] at hf
    simp only [List.mem_cons, List.not_mem_nil, or_false] at hf
    rcases hf with rfl
    · exact h1)
theorem kF8 : (kindA (8 : Int).toNat).2 = [117] := rfl
theorem kC8 : Codec (KR 8) (KB 8) (KOk 8) := (mapC2 (h := fun v => { cal0 8 with uid := v }) (k := fun x => x.uid) (fun _ => rfl) uC).of rfl
  (fun x hx => by
    obtain ⟨h1, h2, h3⟩ := hx
    rw [kF8] at h2 h3
    refine ⟨⟨h2 117 (by decide), ?_⟩, by unfold KB; rw [kF8]; simp [fieldB]⟩
    conv => rhs; rw [← h3]
    unfold onlyA; rw [h1]; rfl)
  (fun x hx => by
    obtain ⟨h1, h2⟩ := hx
    refine ⟨by rw [← h2]; rfl, fun f hf => ?_, by rw [kF8, ← h2]; rfl⟩
    rw [kF8] at hf
    simp only [List.mem_cons, List.not_mem_nil, or_false] at hf
    rcases hf with rfl
    · exact h1)
theorem kF9 : (kindA (9 : Int).toNat).2 = [108] := rfl
theorem kC9 : Codec (KR 9) (KB 9) (KOk 9) := (mapC2 (h := fun v => { cal0 9 with sel := v }) (k := fun x => x.sel) (fun _ => rfl) labsC).of rfl
  (fun x hx => by
    obtain ⟨h1, h2, h3⟩ := hx
    rw [kF9] at h2 h3
    refine ⟨⟨h2 108 (by decide), ?_⟩, by unfold KB; rw [kF9]; simp [fieldB]⟩
    conv => rhs; rw [← h3]
    unfold onlyA; rw [h1]; rfl)
  (fun x hx => by
    obtain ⟨h1, h2⟩ := hx
    refine ⟨by rw [← h2]; rfl, fun f hf => ?_, by rw [kF9, ← h2]; rfl⟩
    rw [kF9] at hf
    simp only [List.mem_cons, List.not_mem_nil, or_false] at hf
    rcases hf with rfl
    · exact h1)
theorem kF10 : (kindA (10 : Int).toNat).2 = [117] := rfl
theorem kC10 : Codec (KR 10) (KB 10) (KOk 10) := (mapC2 (h := fun v => { cal0 10 with uid := v }) (k := fun x => x.uid) (fun _ => rfl) uC).of rfl
  (fun x hx => by
    obtain ⟨h1, h2, h3⟩ := hx
    rw [kF10] at h2 h3
    refine ⟨⟨h2 117 (by decide), ?_⟩, by unfold KB; rw [kF10]; simp [fieldB]⟩
    conv => rhs; rw [← h3]
    unfold onlyA; rw [h1]; rfl)
  (fun x hx => by
    obtain ⟨h1, h2⟩ := hx
    refine ⟨by rw [← h2]; rfl, fun f hf => ?_, by rw [kF10, ← h2]; rfl⟩
    rw [kF10] at hf
    simp only [List.mem_cons, List.not_mem_nil, or_false] at hf
    rcases hf with rfl
    · exact h1)
theorem kF11 : (kindA (11 : Int).toNat).2 = [114, 108] := rfl
theorem kC11 : Codec (KR 11) (KB 11) (KOk 11) := (mapC2 (h := fun v => { cal0 11 with rev := v.1, sel := v.2 }) (k := fun x => (x.rev, x.sel)) (fun _ => rfl) (seqC bigC labsC)).of rfl
  (fun x hx => by
    obtain ⟨h1, h2, h3⟩ := hx
    rw [kF11] at h2 h3
    refine ⟨⟨⟨h2 114 (by decide), h2 108 (by decide)⟩, ?_⟩, by unfold KB; rw [kF11]; simp [fieldB]⟩
    conv => rhs; rw [← h3]
    unfold onlyA; rw [h1]; rfl)
  (fun x hx => by
    obtain ⟨h1, h2⟩ := hx
    refine ⟨by rw [← h2]; rfl, fun f hf => ?_, by rw [kF11, ← h2]; rfl⟩
    rw [kF11] at hf
    simp only [List.mem_cons, List.not_mem_nil, or_false] at hf
    rcases hf with rfl | rfl
    · exact h1.1
    · exact h1.2)
theorem kF12 : (kindA (12 : Int).toNat).2 = [105] := rfl
theorem kC12 : Codec (KR 12) (KB 12) (KOk 12) := (mapC2 (h := fun v => { cal0 12 with id := v }) (k := fun x => x.id) (fun _ => rfl) uC).of rfl
  (fun x hx => by
    obtain ⟨h1, h2, h3⟩ := hx
    rw [kF12] at h2 h3
    refine ⟨⟨h2 105 (by decide), ?_⟩, by unfold KB; rw [kF12]; simp [fieldB]⟩
    conv => rhs; rw [← h3]
    unfold onlyA; rw [h1]; rfl)
  (fun x hx => by
    obtain ⟨h1, h2⟩ := hx
    refine ⟨by rw [← h2]; rfl, fun f hf => ?_, by rw [kF12, ← h2]; rfl⟩
    rw [kF12] at hf
    simp only [List.mem_cons, List.not_mem_nil, or_false] at hf
    rcases hf with rfl
    · exact h1)
theorem kC {k : Int} (h1 : 1 ≤ k) (h2 : k ≤ 12) : Codec (KR k) (KB k) (KOk k) := by
  have h : k = 1 ∨ k = 2 ∨ k = 3 ∨ k = 4 ∨ k = 5 ∨ k = 6 ∨ k = 7 ∨ k = 8 ∨ k = 9 ∨ k = 10 ∨ k = 11 ∨ k = 12 := by omega
  rcases h with rfl | rfl | rfl | rfl | rfl | rfl | rfl | rfl | rfl | rfl | rfl | rfl
  · exact kC1
  · exact kC2
  · exact kC3
  · exact kC4
  · exact kC5
  · exact kC6
  · exact kC7
  · exact kC8
  · exact kC9
  · exact kC10
  · exact kC11
  · exact kC12
theorem cal_ok {x : Cal} (h : CalOk x) : KOk x.kind x := ⟨rfl, h.2.1, h.2.2⟩
theorem cal_back {x : Cal} (h : CalOk x) (t : List UInt8) : calRd (calB x ++ t) 0 = (x, t, 0) := by
  have h1 := (numC (most := 12) (by decide) (by decide)).back x.kind (KB x.kind x ++ t) ⟨by have := h.1.1; omega, h.1.2⟩
  have h2 := (kC h.1.1 h.1.2).back x t (cal_ok h)
  have h1' : numR (calB x ++ t) 0 12 = (x.kind, KB x.kind x ++ t, 0) := by
    unfold calB; rw [List.append_assoc]; exact h1
  unfold calRd
  rw [h1']
  exact h2
/-! What may be -/
abbrev kindN : List UInt8 := [107, 105, 110, 100]
abbrev callN : List UInt8 := [99, 97, 108, 108]
def fieldE (x : Cal) (f : UInt8) : Er :=
  if f = 117 then withinE [117, 105, 100] x.uid 1 1073741824 else if f = 115 then erIn (checkE x.spec) [115, 112, 101, 99] else if f = 103 then withinE [103, 114, 97, 99, 101] x.grace 0 1000 else if f = 99 then withinE [99, 116, 114] x.ctr 0 3 else if f = 105 then withinE [105, 100] x.id 1 1073741824 else if f = 109 then withinE [109, 111, 115, 116] x.most 1 32
  else if f = 108 then labelsE [115, 101, 108] x.sel else if f = 100 then (if 32 < (x.data.length : Int) then some (2, [[100, 97, 116, 97]]) else none) else none
def cleanB (o x : Cal) : Bool := (decide (o.uid = x.uid) && decide (o.rev = x.rev) && decide (o.grace = x.grace) && decide (o.ctr = x.ctr) && decide (o.id = x.id) && decide (o.most = x.most)) && (decide (o.data = x.data) && (decide (o.sel.length = x.sel.length) && sameS o.spec x.spec))
def checkA (x : Cal) : Er := if x.kind < 1 ∨ 12 < x.kind then some (80, [kindN]) else match firstE ((kindA x.kind.toNat).2.map (fieldE x)) with | some e => some e | none => if cleanB (onlyA (kindA x.kind.toNat).2 x) x = true then none else some (4, [callN])
theorem clean_iff {fs : List UInt8} {x : Cal} : cleanB (onlyA fs x) x = true ↔ onlyA fs x = x := by
  unfold cleanB
  simp only [Bool.and_eq_true, decide_eq_true_eq, sameS_iff]
  constructor
  · rintro ⟨⟨⟨⟨⟨⟨h1, h2⟩, h3⟩, h4⟩, h5⟩, h6⟩, h7, h8, h9⟩
    refine cal_ext rfl h1 h2 h9 h3 h4 h5 h6 h7 ?_
    show (if 108 ∈ fs then x.sel else []) = x.sel
    have h8' : (if 108 ∈ fs then x.sel else []).length = x.sel.length := h8
    split
    · rfl
    · rename_i hn
      rw [if_neg hn] at h8'
      exact (List.eq_nil_of_length_eq_zero h8'.symm).symm
  · intro h
    rw [h]; simp
theorem field_ok {x : Cal} {f : UInt8} (hu : x.rev < 18446744073709551616) (h : fieldE x f = none) : FieldOk x f := by
  unfold fieldE at h; unfold FieldOk
  split at h
  · rename_i hf; rw [if_pos hf]; have := within_none h; omega
  · rename_i h117; rw [if_neg h117]
    split
    · exact hu
    · split at h
      · rename_i hf; rw [if_pos hf]; exact check_ok (erIn_none h)
      · rename_i h115; rw [if_neg h115]
        split at h
        · rename_i hf; rw [if_pos hf]; have := within_none h; omega
        · rename_i h103; rw [if_neg h103]
          split at h
          · rename_i hf; rw [if_pos hf]; have := within_none h; omega
          · rename_i h99; rw [if_neg h99]
            split at h
            · rename_i hf; rw [if_pos hf]; have := within_none h; omega
            · rename_i h105; rw [if_neg h105]
              split at h
              · rename_i hf; rw [if_pos hf]; have := within_none h; omega
              · rename_i h109; rw [if_neg h109]
                split
                · rename_i hf
                  subst hf
                  rw [if_neg (by decide), if_pos rfl] at h
                  split at h
                  · cases h
                  · omega
                · split
                  · rename_i hf
                    rw [if_pos hf] at h
                    have hl := labels_out h
                    refine ⟨by have := hl.1; omega, fun y hy => ?_⟩
                    have h9 := hl.2.2 y hy
                    have k1 := key_short h9.1
                    have k2 := val_short h9.2
                    exact ⟨by omega, by omega⟩
                  · trivial
theorem checkA_ok {x : Cal} (hu : x.rev < 18446744073709551616) (h : checkA x = none) : CalOk x ∧ ∀ f ∈ (kindA x.kind.toNat).2, fieldE x f = none := by
  unfold checkA at h
  split at h
  · cases h
  · rename_i hk
    split at h
    · cases h
    · rename_i hf
      split at h
      · rename_i hc
        have hall : ∀ f ∈ (kindA x.kind.toNat).2, fieldE x f = none := fun f hm => firstE_none hf _ (List.mem_map.2 ⟨f, hm, rfl⟩)
        exact ⟨⟨⟨by omega, by omega⟩, fun f hm => field_ok hu (hall f hm), clean_iff.1 hc⟩, hall⟩
      · cases h
/-- the call of bytes, or the error -/
def wireA (s : List UInt8) : Er := if (calRd s 0).2.2 = 0 ∧ 0 < (calRd s 0).1.kind then erNew (endR (calRd s 0).2.1 (calRd s 0).2.2) [wireN] else erNew (calRd s 0).2.2 [wireN]
def ofAE (s : List UInt8) : Er := firstE [wireA s, checkA (calRd s 0).1]
def ofA (s : List UInt8) : Cal := if ofAE s = none then (calRd s 0).1 else cal0 0
theorem firstE_two {a b : Er} : firstE [a, b] = none ↔ a = none ∧ b = none := by cases a <;> cases b <;> simp [firstE]
theorem ofA_some {s : List UInt8} (h : ofAE s ≠ none) : ofA s = cal0 0 := by unfold ofA; rw [if_neg h]
theorem askOf_bytes {x : Cal} (hu : x.rev < 18446744073709551616) (h : checkA x = none) : ofAE (calB x) = none ∧ ofA (calB x) = x := by
  have hc := (checkA_ok hu h).1
  have h1 := cal_back hc []
  rw [List.append_nil] at h1
  have h2 : ofAE (calB x) = none := by
    refine firstE_two.2 ⟨?_, by rw [h1]; exact h⟩
    unfold wireA; rw [h1]; dsimp only
    rw [if_pos ⟨rfl, by have := hc.1.1; omega⟩]; rfl
  exact ⟨h2, by unfold ofA; rw [if_pos h2, h1]⟩
/-! The walks' steps -/
def copyA (f : UInt8) (o x : Cal) : Cal :=
  if f = 117 then { o with uid := x.uid } else if f = 114 then { o with rev := x.rev } else if f = 115 then { o with spec := x.spec } else if f = 103 then { o with grace := x.grace } else if f = 99 then { o with ctr := x.ctr } else if f = 105 then { o with id := x.id } else if f = 109 then { o with most := x.most } else if f = 108 then { o with sel := x.sel } else if f = 100 then { o with data := x.data } else o
theorem copy_uid (f : UInt8) (o x : Cal) : (copyA f o x).uid = if f = 117 then x.uid else o.uid := by
  by_cases hf : f = 117
  · subst hf; rfl
  · rw [if_neg hf]; unfold copyA
    repeat (first | rfl | (split; first | rfl | (rename_i h9; exact absurd h9 hf)))
theorem copy_rev (f : UInt8) (o x : Cal) : (copyA f o x).rev = if f = 114 then x.rev else o.rev := by
  by_cases hf : f = 114
  · subst hf; rfl
  · rw [if_neg hf]; unfold copyA
    repeat (first | rfl | (split; first | rfl | (rename_i h9; exact absurd h9 hf)))
theorem copy_spec (f : UInt8) (o x : Cal) : (copyA f o x).spec = if f = 115 then x.spec else o.spec := by
  by_cases hf : f = 115
  · subst hf; rfl
  · rw [if_neg hf]; unfold copyA
    repeat (first | rfl | (split; first | rfl | (rename_i h9; exact absurd h9 hf)))
theorem copy_grace (f : UInt8) (o x : Cal) : (copyA f o x).grace = if f = 103 then x.grace else o.grace := by
  by_cases hf : f = 103
  · subst hf; rfl
  · rw [if_neg hf]; unfold copyA
    repeat (first | rfl | (split; first | rfl | (rename_i h9; exact absurd h9 hf)))
theorem copy_ctr (f : UInt8) (o x : Cal) : (copyA f o x).ctr = if f = 99 then x.ctr else o.ctr := by
  by_cases hf : f = 99
  · subst hf; rfl
  · rw [if_neg hf]; unfold copyA
    repeat (first | rfl | (split; first | rfl | (rename_i h9; exact absurd h9 hf)))
theorem copy_id (f : UInt8) (o x : Cal) : (copyA f o x).id = if f = 105 then x.id else o.id := by
  by_cases hf : f = 105
  · subst hf; rfl
  · rw [if_neg hf]; unfold copyA
    repeat (first | rfl | (split; first | rfl | (rename_i h9; exact absurd h9 hf)))
theorem copy_most (f : UInt8) (o x : Cal) : (copyA f o x).most = if f = 109 then x.most else o.most := by
  by_cases hf : f = 109
  · subst hf; rfl
  · rw [if_neg hf]; unfold copyA
    repeat (first | rfl | (split; first | rfl | (rename_i h9; exact absurd h9 hf)))
theorem copy_data (f : UInt8) (o x : Cal) : (copyA f o x).data = if f = 100 then x.data else o.data := by
  by_cases hf : f = 100
  · subst hf; rfl
  · rw [if_neg hf]; unfold copyA
    repeat (first | rfl | (split; first | rfl | (rename_i h9; exact absurd h9 hf)))
theorem copy_sel (f : UInt8) (o x : Cal) : (copyA f o x).sel = if f = 108 then x.sel else o.sel := by
  by_cases hf : f = 108
  · subst hf; rfl
  · rw [if_neg hf]; unfold copyA
    repeat (first | rfl | (split; first | rfl | (rename_i h9; exact absurd h9 hf)))
theorem copy_kind (f : UInt8) (o x : Cal) : (copyA f o x).kind = o.kind := by
  unfold copyA
  repeat (first | rfl | (split; first | rfl | skip))
theorem pick_next {α : Type} {l : List UInt8} {f L : UInt8} {v z : α} : (if L ∈ l ++ [f] then v else z) = (if f = L then v else (if L ∈ l then v else z)) := by
  by_cases hf : f = L
  · subst hf; rw [if_pos rfl, if_pos (by simp)]
  · rw [if_neg hf]
    by_cases hl : L ∈ l
    · rw [if_pos hl, if_pos (by simp [hl])]
    · rw [if_neg hl, if_neg (by simp only [List.mem_append, List.mem_singleton]; rintro (k | k); exact hl k; exact hf k.symm)]
theorem only_next {fs : List UInt8} {x : Cal} {i : Nat} (h : i < fs.length) : onlyA (fs.take (i + 1)) x = copyA fs[i] (onlyA (fs.take i) x) x := by
  rw [List.take_succ_eq_append_getElem h]
  refine cal_ext (by rw [copy_kind]; rfl) (by rw [copy_uid]; exact pick_next) (by rw [copy_rev]; exact pick_next) (by rw [copy_spec]; exact pick_next) (by rw [copy_grace]; exact pick_next) (by rw [copy_ctr]; exact pick_next) (by rw [copy_id]; exact pick_next) (by rw [copy_most]; exact pick_next) (by rw [copy_data]; exact pick_next) (by rw [copy_sel]; exact pick_next)
theorem kindsT_len : kindsT.length = 13 := rfl
theorem kind_at {i : Nat} (h : i < 13) : kindsV[2 * i]? = some (.string ⟨(kindA i).1.toArray⟩) ∧ kindsV[2 * i + 1]? = some (.string ⟨(kindA i).2.toArray⟩) := by
  match i, h with
  | 0, _ => exact ⟨rfl, rfl⟩
  | 1, _ => exact ⟨rfl, rfl⟩
  | 2, _ => exact ⟨rfl, rfl⟩
  | 3, _ => exact ⟨rfl, rfl⟩
  | 4, _ => exact ⟨rfl, rfl⟩
  | 5, _ => exact ⟨rfl, rfl⟩
  | 6, _ => exact ⟨rfl, rfl⟩
  | 7, _ => exact ⟨rfl, rfl⟩
  | 8, _ => exact ⟨rfl, rfl⟩
  | 9, _ => exact ⟨rfl, rfl⟩
  | 10, _ => exact ⟨rfl, rfl⟩
  | 11, _ => exact ⟨rfl, rfl⟩
  | 12, _ => exact ⟨rfl, rfl⟩
  | k + 13, h => omega
theorem kind_row {v : Int} (h0 : 0 ≤ v) (h : v < 13) : ((kindsV.drop (0 + v.toNat * 2)).take 2).map AV.lit = [.S (kindA v.toNat).1, .S (kindA v.toNat).2] := by
  have : ∀ i, i < 13 → ((kindsV.drop (0 + i * 2)).take 2).map AV.lit = [.S (kindA i).1, .S (kindA i).2] := fun i hi => match i, hi with
    | 0, _ => rfl
    | 1, _ => rfl
    | 2, _ => rfl
    | 3, _ => rfl
    | 4, _ => rfl
    | 5, _ => rfl
    | 6, _ => rfl
    | 7, _ => rfl
    | 8, _ => rfl
    | 9, _ => rfl
    | 10, _ => rfl
    | 11, _ => rfl
    | 12, _ => rfl
    | k + 13, h => absurd h (by omega)
  exact this _ (by omega)
theorem fields_few (i : Nat) : (kindA i).2.length ≤ 3 := by
  rcases Nat.lt_or_ge i 13 with h | h
  · have : ∀ j, j < 13 → (kindA j).2.length ≤ 3 := by decide
    exact this i h
  · unfold kindA
    rw [List.getD_eq_getElem?_getD, List.getElem?_eq_none (by rw [kindsT_len]; omega)]; decide
end Go.AL

/-
The logic AL: function values: a function's name, a closure over variables of one's own, and calls of them.
Conditions: none; no program is in sight.
-/
set_option linter.unusedVariables false
set_option linter.unusedSimpArgs false
namespace Go.AL
open Go.RowKit
section
variable {P : Program} {N : Nat} {env : Env} {st : St} {o : Oper}
/-- A function's value: what it is, and what it holds. -/
abbrev AV.fn (f : FuncId) (caps : List Value) : AV := .lit (.func (.func f) #[] caps.toArray)
theorem AEv.fn (f : FuncId) : AEv env (.func f) (.fn f []) := AEv.func f
theorem S_makeFunc {f : FuncId} {xs : List Operand} {caps : List Value} (ho : o.op = .makeFunc (.func f) #[] xs.toArray) (hc : AEvs env xs (caps.map .lit)) : PStep P N o env st (.fn f caps) :=
  .of_val fun a w hg => by
    obtain ⟨hl, hr⟩ := hc.at_ hg
    have e : xs.map a.eval = caps := by
      refine List.ext_getElem? fun i => ?_
      simp only [List.getElem?_map]
      have hl' : caps.length = xs.length := by simpa using hl.symm
      cases hx : xs[i]? with
      | none =>
        have : xs.length ≤ i := by simpa using hx
        simp; omega
      | some x =>
        have hi : i < caps.length := by have := (List.getElem?_eq_some_iff.1 hx).1; omega
        have := hr i (.lit caps[i]) x (by simp [hi]) hx
        have := this.lit_inv
        simp [hi, this]
    refine ⟨.func (.func f) #[] caps.toArray, ?_, .lit _⟩
    simp [execOp, ho, Instr.makeFunc, e]

theorem S_callF {f : FuncId} {x : Operand} {caps : List Value} {xs : List Operand} {ts : Array TypeId} {args : List AV} {K : AV → St → Prop} (ho : o.op = .call { callee := .value x, args := xs.toArray, argTypes := ts }) (hx : AEv env x (.fn f caps)) (hargs : AEvs env xs args) (hc : ACalls P f (args ++ caps.map .lit) st K) : Step P N o env st K := by
  intro a w hg next Q hn
  obtain ⟨hl, hr⟩ := hargs.at_ hg
  have hf := (hx _ _ _ _ hg).lit_inv
  have hrun : (execOp a.eval o).run P w = .ok (.enter f ((xs.map a.eval) ++ caps).toArray) w := by
    simp [execOp, ho, resolve, Deferred.ofValue, hf, invoke, run_callFunc' hc.enters]
  unfold Oper.wp
  rw [hrun]
  have hl2 : args.length = xs.length := hl.symm
  refine (hc.calls w _ hg.rel (by simp [hl2]) fun i y v hy hv => ?_).mono ?_
  · simp only [List.getElem?_toArray] at hv
    rcases Nat.lt_or_ge i args.length with hi | hi
    · rw [List.getElem?_append_left hi] at hy
      rw [List.getElem?_append_left (by simp; omega)] at hv
      simp at hv
      obtain ⟨u, hu, rfl⟩ := hv
      exact hr i y u hy hu
    · rw [List.getElem?_append_right hi] at hy
      rw [List.getElem?_append_right (by simp; omega)] at hv
      simp only [List.length_map] at hv
      rw [← hl2] at hv
      simp only [List.getElem?_map, hv, Option.map_some, Option.some.injEq] at hy
      subst hy
      exact .lit v
  · rintro e w' ⟨r, y, st', rfl, k, h1, h2, h3⟩
    exact hn y st' r w' k h1 h2 h3
end
end Go.AL

/-
The logic AL: load of several cells of a table.
Conditions: none; no program is in sight.
-/
set_option linter.unusedVariables false
set_option linter.unusedSimpArgs false
namespace Go.AL
open Go.RowKit
section
variable {P : Program} {N : Nat} {env : Env} {st : St} {o : Oper} {w : World}
theorem S_loadKs {t : TypeId} {x : Operand} {b off m : Nat} {vs : List Value} (ho : o.op = .load t x) (hx : AEv env x (.ptr b off)) (hst : (b, Ob.konst vs) ∈ st) (ht : rowT P t m = true) (hm : off + m ≤ vs.length) : PStep P N o env st (.agg (((vs.drop off).take m).map AV.lit)) :=
  .of_val fun a w hg => by
    obtain ⟨d, hu, hd, hi⟩ := rowT_spec ht
    have e := eval_ptr hx hg
    have hlen : ((vs.drop off).take m).length = m := by simp; omega
    refine ⟨.agg ((vs.drop off).take m).toArray, ?_, .agg _ _ (by simp) fun i c v hc hv => ?_⟩
    · have hr : w.rangeAt b off ((vs.drop off).take m) := fun j v hv => by
        have hj : j < m := by have := (List.getElem?_eq_some_iff.1 hv).1; omega
        rw [List.getElem?_take_of_lt hj, List.getElem?_drop] at hv
        exact (hg.rel.konst b vs hst).2 _ _ hv
      simp only [execOp, ho, e, Sem.run_bind, run_loadAt_mid (P := P) w b off t _ d hr hu hd (by rw [hi, hlen]), Result.andThen_ok, Sem.run_pure]
    · rw [List.getElem?_toArray] at hv
      rw [List.getElem?_map, hv] at hc
      rw [← Option.some.inj hc]
      exact .lit _
end
end Go.AL

/-
The logic AL: a region that draws its order, every order walked by itself.
Conditions: none; no program is in sight.
-/
set_option linter.unusedVariables false
set_option linter.unusedSimpArgs false
namespace Go.AL
open Go.RowKit
section
variable {P : Program} {N : Nat} {Q : Post} {env : Env} {st : St} {ops : Array Oper}
theorem AC_mono {c : Code} {Q' : Post} (h : AC P N c Q' env st) (hq : ∀ e env' st', Q' e env' st' → Q e env' st') : AC P N c Q env st := fun a w hg =>
  wp_mono (h a w hg) fun e a' w' ⟨env', st', h1, h2, h3⟩ => ⟨env', st', hq _ _ _ h1, h2, h3⟩
def AO (P : Program) (N : Nat) (ops : Array Oper) (Q : Post) (fuel : Nat) (listed : Array Bool) (env : Env) (st : St) : Prop :=
  ∀ (st0 : St) (w0 : World) (a : Act) (w : World), (st0.map (·.1)).Nodup → Good N env st a w → Ext st0 w0 st w → wpAny P .any ops (Sat N Q st0 w0) fuel listed a w
inductive AllI (p : Nat → Prop) : List Nat → Prop
  | nil : AllI p []
  | cons {i : Nat} {l : List Nat} (h : p i) (t : AllI p l) : AllI p (i :: l)
theorem AllI.at_ {p : Nat → Prop} : ∀ {l : List Nat}, AllI p l → ∀ i ∈ l, p i
  | _, .cons h t, i, hi => by
    rcases List.mem_cons.1 hi with rfl | hi
    · exact h
    · exact t.at_ i hi
def AO1 (P : Program) (N : Nat) (ops : Array Oper) (Q : Post) (fuel : Nat) (listed : Array Bool) (env : Env) (st : St) (i : Nat) : Prop :=
  ∃ (o : Oper) (K : AV → St → Prop), ops[i]? = some o ∧ o.guard = none ∧ dstIn N o.dst = true ∧ Step P N o env st K ∧ ∀ x st', K x st' → AO P N ops Q fuel (listed.setIfInBounds i true) (putE o.dst x env) st'
theorem AO1.mk' {fuel i : Nat} {listed : Array Bool} {o : Oper} {K : AV → St → Prop} (ho : ops[i]? = some o) (hgd : o.guard = none) (hd : dstIn N o.dst = true) (hs : Step P N o env st K) (h : ∀ x st', K x st' → AO P N ops Q fuel (listed.setIfInBounds i true) (putE o.dst x env) st') : AO1 P N ops Q fuel listed env st i := ⟨o, K, ho, hgd, hd, hs, h⟩
theorem AO_step {fuel : Nat} {listed : Array Bool} {rs : List Nat} (hr : Region.ready .any ops listed = rs) (hne : rs.isEmpty = false) (h : AllI (AO1 P N ops Q fuel listed env st) rs) : AO P N ops Q (fuel + 1) listed env st := by
  intro st0 w0 a w hn hg hx
  refine ⟨fun k => ?_, fun i hi => ?_⟩
  · rw [hr] at k; rw [k] at hne; cases hne
  · rw [hr] at hi
    obtain ⟨o, K, ho, hgd, hd, hs, hk⟩ := h.at_ i hi
    unfold wpOp
    rw [ho]
    dsimp only
    rw [if_pos (by simp [Region.wanted, hgd])]
    exact .inl (hs a w hg _ _ fun x st' v w' hkx hr' hrel hext => hk x st' hkx st0 w0 _ _ hn (hg.put (dstIn_spec hd) hr' hrel hext) (hx.trans hext hn))
theorem AO_fin {fuel : Nat} {listed : Array Bool} (hr : Region.ready .any ops listed = []) (h : Q .normal env st) : AO P N ops Q fuel listed env st := by
  intro st0 w0 a w hn hg hx
  have hs : Sat N Q st0 w0 .normal a w := ⟨env, st, h, hg, hx⟩
  cases fuel with
  | zero => exact ⟨hr, hs⟩
  | succ fuel => exact ⟨fun _ => hs, fun i hi => by rw [hr] at hi; cases hi⟩
/-- Every order comes to K. -/
theorem AC_ords {id : Nat} {l : List Oper} (K : Env → St → Prop) (hm : P.follows .mixedOrders = true) (h : AO P N l.toArray (fun e env' st' => e = .normal ∧ K env' st') l.toArray.size (Array.replicate l.toArray.size false) env st) (hk : ∀ env' st', K env' st' → Q .normal env' st') : AC P N (.region id l.toArray true) Q env st := by
  refine AC_mono (Q' := fun e env' st' => e = .normal ∧ K env' st') (fun a0 w0 hg => ?_) fun e env' st' ⟨h1, h2⟩ => by rw [h1]; exact hk env' st' h2
  have hn := hg.rel.nodup
  have hdrew : Ext st w0 st { w0 with drawn := w0.drawn + 1 } := ⟨rfl, rfl, rfl, fun _ _ => rfl, Nat.le_refl _, fun _ _ _ => rfl, fun _ _ _ _ _ _ _ _ _ => rfl, fun _ _ _ h => h, fun _ _ _ _ => rfl⟩
  have hrel : Rel st { w0 with drawn := w0.drawn + 1 } := ⟨hn, fun b cs hbm => let ⟨vs, T, k1, k2, k3⟩ := hg.rel.cells b cs hbm; ⟨vs, T, k1, k2, fun i c v hc hv => (k3 i c v hc hv).mono hdrew hn⟩, hg.rel.grow, hg.rel.konst⟩
  refine wp_region_any hm (h st w0 a0 _ hn ⟨hg.size, hg.defers, fun t x hx => ?_, hrel⟩ hdrew)
  obtain ⟨v, hv, hr⟩ := hg.env t x hx
  exact ⟨v, hv, hr.mono hdrew hn⟩
end
end Go.AL

/-
The walks' steps over calls.
Conditions: none; no program is in sight.
-/
set_option linter.unusedVariables false
set_option linter.unusedSimpArgs false
namespace Go.AL
open Go.RowKit Go.NumSpec
theorem u8_eq {f k : UInt8} (h : (f.toNat : Int) = (k.toNat : Int)) : f = k := UInt8.toNat_inj.1 (Int.ofNat_inj.1 h)
theorem kind_out {v : Int} (h : v < 1 ∨ 13 ≤ v) : kindA v.toNat = ([], []) := by
  rcases h with h | h
  · rw [show v.toNat = 0 by omega]; rfl
  · unfold kindA
    rw [List.getD_eq_getElem?_getD, List.getElem?_eq_none (by rw [kindsT_len]; omega)]; rfl
/-- what a call must be for the walks -/
def ShortA (x : Cal) : Prop := lightS x.spec = true ∧ x.sel.length ≤ 1000000 ∧ ∀ y ∈ x.sel, y.1.length ≤ 1000000 ∧ y.2.length ≤ 1000000
theorem cal0_short (k : Int) : ShortA (cal0 k) := ⟨spc0_light, Nat.zero_le _, fun y hy => absurd hy List.not_mem_nil⟩
/-- alike -/
def sameA (a b : Cal) : Bool := decide (a.kind = b.kind) && decide (a.uid = b.uid) && decide (a.rev = b.rev) && sameS a.spec b.spec && decide (a.grace = b.grace) && decide (a.ctr = b.ctr) && decide (a.id = b.id) && decide (a.most = b.most) && decide (a.data = b.data) && decide (a.sel = b.sel)
theorem sameA_iff {a b : Cal} : sameA a b = true ↔ a = b := by
  unfold sameA
  simp only [Bool.and_eq_true, decide_eq_true_eq, sameS_iff]
  constructor
  · rintro ⟨⟨⟨⟨⟨⟨⟨⟨⟨h1, h2⟩, h3⟩, h4⟩, h5⟩, h6⟩, h7⟩, h8⟩, h9⟩, h10⟩
    exact cal_ext h1 h2 h3 h4 h5 h6 h7 h8 h9 h10
  · intro h; subst h; simp
theorem sameA_refl (a : Cal) : sameA a a = true := sameA_iff.2 rfl
theorem field_data (x : Cal) : fieldE x 100 = if 32 < (x.data.length : Int) then some (2, [[100, 97, 116, 97]]) else none := rfl
/-! Sizes -/
/-! What is read is light -/
theorem rdF_snoc (fs : List UInt8) (f : UInt8) (x : Cal) (s : List UInt8) (c : Int) : rdF (fs ++ [f]) x s c = oneR f (rdF fs x s c).1 (rdF fs x s c).2.1 (rdF fs x s c).2.2 := by
  induction fs generalizing x s c with
  | nil => rfl
  | cons g fs ih => exact ih _ _ _
theorem rdF_take {fs : List UInt8} {i : Nat} (h : i < fs.length) (x : Cal) (s : List UInt8) (c : Int) : rdF (fs.take (i + 1)) x s c = oneR fs[i] (rdF (fs.take i) x s c).1 (rdF (fs.take i) x s c).2.1 (rdF (fs.take i) x s c).2.2 := by
  rw [List.take_succ_eq_append_getElem h, rdF_snoc]
theorem labsRd_short (s : List UInt8) (c : Int) : (labsRd s c).1.length ≤ 1000000 ∧ ∀ y ∈ (labsRd s c).1, y.1.length ≤ 1000000 ∧ y.2.length ≤ 1000000 := by
  have h2 : (((labsRd s c).1.length : Nat) : Int) ≤ 4 := allR_few (f := labRd) (most := 4) (by decide) _ _
  have h5 : ∀ x ∈ (labsRd s c).1, x.1.length ≤ 33 ∧ x.2.length ≤ 16 := allR_all (f := labRd) labRd_short 4 _ _
  exact ⟨by omega, fun y hy => ⟨by have := (h5 y hy).1; omega, by have := (h5 y hy).2; omega⟩⟩
theorem oneR_short (f : UInt8) (x : Cal) (s : List UInt8) (c : Int) (h : ShortA x) : ShortA (oneR f x s c).1 := by
  unfold oneR
  by_cases h1 : f = 117
  · rw [if_pos h1]; exact h
  · rw [if_neg h1]
    by_cases h2 : f = 114
    · rw [if_pos h2]; exact h
    · rw [if_neg h2]
      by_cases h3 : f = 115
      · rw [if_pos h3]; exact ⟨spcRd_light s c, h.2⟩
      · rw [if_neg h3]
        by_cases h4 : f = 103
        · rw [if_pos h4]; exact h
        · rw [if_neg h4]
          by_cases h5 : f = 99
          · rw [if_pos h5]; exact h
          · rw [if_neg h5]
            by_cases h6 : f = 105
            · rw [if_pos h6]; exact h
            · rw [if_neg h6]
              by_cases h7 : f = 109
              · rw [if_pos h7]; exact h
              · rw [if_neg h7]
                by_cases h8 : f = 100
                · rw [if_pos h8]; exact h
                · rw [if_neg h8]
                  by_cases h9 : f = 108
                  · rw [if_pos h9]; exact ⟨h.1, labsRd_short s c⟩
                  · rw [if_neg h9]; exact h
theorem rdF_short (fs : List UInt8) (x : Cal) (s : List UInt8) (c : Int) (h : ShortA x) : ShortA (rdF fs x s c).1 := by
  induction fs generalizing x s c with
  | nil => exact h
  | cons f fs ih => exact ih _ _ _ (oneR_short f x s c h)
theorem calRd_short (s : List UInt8) : ShortA (calRd s 0).1 := rdF_short _ _ _ _ (cal0_short _)
theorem ofA_short (s : List UInt8) : ShortA (ofA s) := by
  unfold ofA
  split
  · exact calRd_short s
  · exact cal0_short 0
end Go.AL

/-
Calls: the check, step by step.
Conditions: none; no program is in sight.
-/
set_option linter.unusedVariables false
set_option linter.unusedSimpArgs false
namespace Go.AL
open Go.RowKit Go.NumSpec
theorem only_light {fs : List UInt8} {x : Cal} (h : lightS x.spec = true) : lightS (onlyA fs x).spec = true := by
  show lightS (if 115 ∈ fs then x.spec else spc0) = true
  split
  · exact h
  · exact spc0_light
theorem check_kind {x : Cal} (h : 1 ≤ x.kind → 13 ≤ x.kind) : checkA x = some (80, [kindN]) := by
  unfold checkA; rw [if_pos (by omega)]
theorem firstA_at {l : List Er} {i : Nat} (hi : i < l.length) (hall : ∀ j (h : j < l.length), j < i → l[j] = none) (h : l[i] ≠ none) : firstE l = l[i] := by
  induction l generalizing i with
  | nil => exact absurd hi (Nat.not_lt_zero _)
  | cons a l ih =>
    cases i with
    | zero =>
      cases a with
      | none => exact absurd rfl h
      | some e => simp [firstE]
    | succ i =>
      have h0 := hall 0 (Nat.zero_lt_succ _) (Nat.zero_lt_succ _)
      simp only [List.getElem_cons_zero] at h0
      subst h0
      have h9 := ih (i := i) (by simpa using hi) (fun j hj hji => by have := hall (j + 1) (by simpa using hj) (by omega); simpa using this) (by simpa using h)
      simpa [firstE] using h9
theorem check_field {x : Cal} {i : Nat} (hk : 1 ≤ x.kind ∧ x.kind < 13) (hil : i < (kindA x.kind.toNat).2.length) (hall : ∀ j (h : j < (kindA x.kind.toNat).2.length), j < i → fieldE x ((kindA x.kind.toNat).2[j]) = none) (h : fieldE x ((kindA x.kind.toNat).2[i]) ≠ none) : checkA x = fieldE x ((kindA x.kind.toNat).2[i]) := by
  have h1 : firstE ((kindA x.kind.toNat).2.map (fieldE x)) = fieldE x ((kindA x.kind.toNat).2[i]) := by
    have h2 := firstA_at (l := (kindA x.kind.toNat).2.map (fieldE x)) (i := i) (by rw [List.length_map]; exact hil) (fun j hj hji => by rw [List.getElem_map]; exact hall j (by rw [List.length_map] at hj; exact hj) hji) (by rw [List.getElem_map]; exact h)
    rw [h2, List.getElem_map]
  unfold checkA
  rw [if_neg (by omega), h1]
  cases he : fieldE x ((kindA x.kind.toNat).2[i]) with
  | none => exact absurd he h
  | some e => rfl
theorem firstA_nones {l : List Er} (h : ∀ e ∈ l, e = none) : firstE l = none := by
  induction l with
  | nil => rfl
  | cons a l ih =>
    have h0 := h a List.mem_cons_self
    subst h0
    simpa [firstE] using ih fun e he => h e (List.mem_cons_of_mem _ he)
theorem check_rest {x : Cal} (hk : 1 ≤ x.kind ∧ x.kind < 13) (hf : ∀ f ∈ (kindA x.kind.toNat).2, fieldE x f = none) : checkA x = if cleanB (onlyA (kindA x.kind.toNat).2 x) x = true then none else some (4, [callN]) := by
  unfold checkA
  rw [if_neg (by omega), firstA_nones (l := (kindA x.kind.toNat).2.map (fieldE x)) fun e he => by
    obtain ⟨f, hm, rfl⟩ := List.mem_map.1 he
    exact hf f hm]
theorem check_unclean {x : Cal} (hk : 1 ≤ x.kind ∧ x.kind < 13) (hf : ∀ f ∈ (kindA x.kind.toNat).2, fieldE x f = none) (h : cleanB (onlyA (kindA x.kind.toNat).2 x) x = false) : checkA x = some (4, [callN]) := by
  rw [check_rest hk hf, if_neg (by rw [h]; simp)]
theorem check_clean {x : Cal} (hk : 1 ≤ x.kind ∧ x.kind < 13) (hf : ∀ f ∈ (kindA x.kind.toNat).2, fieldE x f = none) (h : cleanB (onlyA (kindA x.kind.toNat).2 x) x = true) : checkA x = none := by
  rw [check_rest hk hf, if_pos h]
/-! What is read -/
theorem calRd_at (s : List UInt8) : calRd s 0 = rdF (kindA (numR s 0 12).1.toNat).2 (cal0 (numR s 0 12).1) (numR s 0 12).2.1 (numR s 0 12).2.2 := rfl
theorem er0_iff {c : Int} {p : List (List UInt8)} : erNew c p = none ↔ c = 0 := by
  unfold erNew; split
  · rename_i h; simp [h]
  · rename_i h; simp [h]
theorem wire_end {s : List UInt8} (h1 : (erNew (calRd s 0).2.2 [wireN]).isNone = true) (h2 : 0 < (calRd s 0).1.kind) : wireA s = erNew (endR (calRd s 0).2.1 (calRd s 0).2.2) [wireN] := by
  unfold wireA
  rw [if_pos ⟨er0_iff.1 (Option.isNone_iff_eq_none.1 h1), h2⟩]
theorem wire_code {s : List UInt8} (h : (erNew (calRd s 0).2.2 [wireN]).isNone = false ∨ ¬ 0 < (calRd s 0).1.kind) : wireA s = erNew (calRd s 0).2.2 [wireN] := by
  unfold wireA
  rw [if_neg]
  rintro ⟨h1, h2⟩
  rcases h with h | h
  · rw [er0_iff.2 h1] at h; simp at h
  · exact h h2
end Go.AL

/-
Calls: what the laws say of them.
Conditions: none; no program is in sight.
-/
set_option linter.unusedVariables false
set_option linter.unusedSimpArgs false
namespace Go.AL
open Go.RowKit Go.NumSpec
def wA : Cal := { cal0 12 with id := 5 }
theorem wA_check : checkA wA = none := by decide +kernel
theorem wA_calB : calB wA = [12, 5] := by decide +kernel
theorem wA_of : (ofA [12, 5], ofAE [12, 5]) = (wA, none) := by
  have h := askOf_bytes (x := wA) (by decide) wA_check
  rw [wA_calB] at h
  rw [h.1, h.2]
end Go.AL

/-
Kinds' names.
Conditions: none; no program is in sight.
-/
set_option linter.unusedVariables false
set_option linter.unusedSimpArgs false
namespace Go.AL
open Go.RowKit Go.NumSpec
end Go.AL

/-
Calls: the reference's check.
Conditions: none; no program is in sight.
-/
set_option linter.unusedVariables false
set_option linter.unusedSimpArgs false
namespace Go.AL
open Go.RowKit Go.NumSpec
end Go.AL

/-
A connection: frames that come, texts that wait, and what is taken.
Conditions: none; no program is in sight.
-/
set_option linter.unusedVariables false
set_option linter.unusedSimpArgs false
namespace Go.AL
open Go.RowKit Go.NumSpec
/-- the length that a frame's head tells -/
def frN : List UInt8 → Nat
  | a :: b :: _ => a.toNat + b.toNat * 256
  | _ => 0
/-- the next text of bytes: it, the code, what is left, and whether it is closed then -/
def nextS (s : List UInt8) : List UInt8 × Int × List UInt8 × Bool :=
  if s.length < 2 then ([], 6, s, false)
  else if 2048 < frN s then ([], 2, [], true)
  else if s.length < 2 + frN s then ([], 6, s, false)
  else ((s.drop 2).take (frN s), 0, s.drop (2 + frN s), false)
def nextX (s : List UInt8) (c : Bool) : List UInt8 × Int × List UInt8 × Bool := if c = true then ([], 400, s, true) else nextS s
theorem nextS_short {s : List UInt8} (h : s.length < 2) : nextS s = ([], 6, s, false) := if_pos h
theorem nextS_long {s : List UInt8} (h : ¬ s.length < 2) (h2 : 2048 < frN s) : nextS s = ([], 2, [], true) := by unfold nextS; rw [if_neg h, if_pos h2]
theorem nextS_wait {s : List UInt8} (h : ¬ s.length < 2) (h2 : ¬ 2048 < frN s) (h3 : s.length < 2 + frN s) : nextS s = ([], 6, s, false) := by unfold nextS; rw [if_neg h, if_neg h2, if_pos h3]
theorem nextS_text {s : List UInt8} (h : ¬ s.length < 2) (h2 : ¬ 2048 < frN s) (h3 : ¬ s.length < 2 + frN s) : nextS s = ((s.drop 2).take (frN s), 0, s.drop (2 + frN s), false) := by unfold nextS; rw [if_neg h, if_neg h2, if_neg h3]
theorem nextS_cases (s : List UInt8) : nextS s = ([], 6, s, false) ∨ nextS s = ([], 2, [], true) ∨ (2 ≤ s.length ∧ nextS s = ((s.drop 2).take (frN s), 0, s.drop (2 + frN s), false)) := by
  by_cases h : s.length < 2
  · exact .inl (nextS_short h)
  · by_cases h2 : 2048 < frN s
    · exact .inr (.inl (nextS_long h h2))
    · by_cases h3 : s.length < 2 + frN s
      · exact .inl (nextS_wait h h2 h3)
      · exact .inr (.inr ⟨by omega, nextS_text h h2 h3⟩)
theorem nextS_less {s : List UInt8} (h : (nextS s).2.1 = 0) : (nextS s).2.2.1.length < s.length ∧ (nextS s).2.2.2 = false := by
  rcases nextS_cases s with h1 | h1 | ⟨h2, h1⟩
  · rw [h1] at h; cases h
  · rw [h1] at h; cases h
  · rw [h1]; refine ⟨?_, rfl⟩; show (s.drop _).length < _; rw [List.length_drop]; omega
/-- all texts of bytes wait -/
def drainC (s : List UInt8) (w : List (List UInt8)) : List UInt8 × Bool × List (List UInt8) × Int :=
  if h : (nextS s).2.1 = 0 then
    if 32 ≤ w.length then ([], true, w, 2) else drainC (nextS s).2.2.1 (w ++ [(nextS s).1])
  else ((nextS s).2.2.1, (nextS s).2.2.2, w, if (nextS s).2.1 = 6 then 0 else (nextS s).2.1)
termination_by s.length
decreasing_by exact (nextS_less h).1
/-- bytes come -/
def feedC (s : List UInt8) (c : Bool) (w : List (List UInt8)) (t : List UInt8) : List UInt8 × Bool × List (List UInt8) × Int :=
  if c = true then (s, true, w, 400) else if 8192 < s.length + t.length then ([], true, w, 2) else drainC (s ++ t) w
theorem drain_none {s : List UInt8} {w : List (List UInt8)} (h : (nextS s).2.1 = 6) : drainC s w = (s, false, w, 0) := by
  rw [drainC, dif_neg (by rw [h]; decide), if_pos h]
  rcases nextS_cases s with h1 | h1 | ⟨_, h1⟩ <;> rw [h1] at h ⊢ <;> first | rfl | cases h
theorem drain_bad {s : List UInt8} {w : List (List UInt8)} (h0 : (nextS s).2.1 ≠ 0) (h : (nextS s).2.1 ≠ 6) : drainC s w = ((nextS s).2.2.1, true, w, (nextS s).2.1) := by
  rw [drainC, dif_neg h0, if_neg h]
  rcases nextS_cases s with h1 | h1 | ⟨_, h1⟩ <;> rw [h1] at h h0 ⊢ <;> first | rfl | exact absurd rfl h | exact absurd rfl h0
theorem drain_full {s : List UInt8} {w : List (List UInt8)} (h0 : (nextS s).2.1 = 0) (h : 32 ≤ w.length) : drainC s w = ([], true, w, 2) := by
  rw [drainC, dif_pos h0, if_pos h]
theorem drain_more {s : List UInt8} {w : List (List UInt8)} (h0 : (nextS s).2.1 = 0) (h : ¬ 32 ≤ w.length) : drainC s w = drainC (nextS s).2.2.1 (w ++ [(nextS s).1]) := by
  rw [drainC, dif_pos h0, if_neg h]
/-- what holds of what a feeding leaves -/
structure FedOk (n : Nat) (w : List (List UInt8)) (r : List UInt8 × Bool × List (List UInt8) × Int) : Prop where
  len : r.1.length ≤ n
  few : r.2.2.1.length ≤ 32
  more : w.length ≤ r.2.2.1.length
  code : (r.2.2.2 = 0 ∧ r.2.1 = false) ∨ (r.2.2.2 = 2 ∧ r.2.1 = true)
theorem drain_ok : ∀ (n : Nat) (s : List UInt8) (w : List (List UInt8)), s.length ≤ n → w.length ≤ 32 → FedOk s.length w (drainC s w) := by
  intro n
  induction n with
  | zero =>
    intro s w hs hw
    rw [drain_none (by rw [nextS_short (by omega)])]
    exact ⟨Nat.le_refl _, hw, Nat.le_refl _, .inl ⟨rfl, rfl⟩⟩
  | succ n ih =>
    intro s w hs hw
    rcases nextS_cases s with h1 | h1 | ⟨_, h1⟩
    · rw [drain_none (by rw [h1])]; exact ⟨Nat.le_refl _, hw, Nat.le_refl _, .inl ⟨rfl, rfl⟩⟩
    · rw [drain_bad (by rw [h1]; decide) (by rw [h1]; decide), h1]; exact ⟨Nat.zero_le _, hw, Nat.le_refl _, .inr ⟨rfl, rfl⟩⟩
    · have h0 : (nextS s).2.1 = 0 := by rw [h1]
      by_cases hf : 32 ≤ w.length
      · rw [drain_full h0 hf]; exact ⟨Nat.zero_le _, hw, Nat.le_refl _, .inr ⟨rfl, rfl⟩⟩
      · rw [drain_more h0 hf]
        have hl := (nextS_less h0).1
        have := ih (nextS s).2.2.1 (w ++ [(nextS s).1]) (by omega) (by rw [List.length_append, List.length_singleton]; omega)
        exact ⟨by have := this.len; omega, this.few, by have := this.more; rw [List.length_append, List.length_singleton] at this; omega, this.code⟩
theorem feed_open {s t : List UInt8} {w : List (List UInt8)} (hs : s.length ≤ 8192) (hw : w.length ≤ 32) : FedOk 8192 w (feedC s false w t) := by
  unfold feedC
  rw [if_neg (by decide)]
  by_cases h : 8192 < s.length + t.length
  · rw [if_pos h]; exact ⟨Nat.zero_le _, hw, Nat.le_refl _, .inr ⟨rfl, rfl⟩⟩
  · rw [if_neg h]
    have := drain_ok _ (s ++ t) w (Nat.le_refl _) hw
    exact ⟨by have := this.len; rw [List.length_append] at this; omega, this.few, this.more, this.code⟩
theorem feed_closed (s t : List UInt8) (w : List (List UInt8)) : feedC s true w t = (s, true, w, 400) := if_pos rfl
/-- a text's frame -/
def frameB (x : List UInt8) : List UInt8 := UInt8.ofNat x.length :: UInt8.ofNat (x.length / 256) :: x
def framesB (l : List (List UInt8)) : List UInt8 := l.flatMap frameB
theorem frameB_len (x : List UInt8) : (frameB x).length = x.length + 2 := rfl
theorem frN_frame {x t : List UInt8} (h : x.length ≤ 2048) : frN (frameB x ++ t) = x.length := by
  show (UInt8.ofNat x.length).toNat + (UInt8.ofNat (x.length / 256)).toNat * 256 = x.length
  rw [UInt8.toNat_ofNat', UInt8.toNat_ofNat']; omega
theorem next_frame {x t : List UInt8} (h : x.length ≤ 2048) : nextS (frameB x ++ t) = (x, 0, t, false) := by
  have hl : (frameB x ++ t).length = x.length + 2 + t.length := by rw [List.length_append, frameB_len]
  rw [nextS_text (by omega) (by rw [frN_frame h]; omega) (by rw [frN_frame h]; omega), frN_frame h]
  have h1 : (frameB x ++ t).drop 2 = x ++ t := rfl
  have h2 : (frameB x ++ t).drop (2 + x.length) = t := by rw [← List.drop_drop, h1, List.drop_left]
  rw [h2, h1, List.take_left]
theorem next_part {x s all t : List UInt8} (h : x.length ≤ 2048) (he : s ++ all = frameB x ++ t) (hl : s.length < x.length + 2) : (nextS s).2.1 = 6 := by
  by_cases h2 : s.length < 2
  · rw [nextS_short h2]
  · match s, h2, he, hl with
    | a :: b :: r, h2, he, hl =>
      have hn : frN (a :: b :: r) = x.length := by
        rw [← frN_frame (t := t) h, ← he]; rfl
      rw [nextS_wait h2 (by rw [hn]; omega) (by rw [hn]; omega)]
    | [], h2, _, _ => exact absurd (by decide) h2
    | [_], h2, _, _ => exact absurd (by decide : (1 : Nat) < 2) h2
theorem drain_frames : ∀ (l : List (List UInt8)) (s all : List UInt8) (w : List (List UInt8)), (∀ x ∈ l, x.length ≤ 2048) → s ++ all = framesB l → w.length + l.length ≤ 32 →
    ∃ (j : Nat) (s' : List UInt8), j ≤ l.length ∧ drainC s w = (s', false, w ++ l.take j, 0) ∧ s' ++ all = framesB (l.drop j) ∧ (nextS s').2.1 = 6 ∧ s'.length ≤ s.length := by
  intro l
  induction l with
  | nil =>
    intro s all w _ he _
    have hs : s = [] := (List.append_eq_nil_iff.1 he).1
    subst hs
    exact ⟨0, [], Nat.le_refl _, by rw [drain_none (by rw [nextS_short (by decide)]), List.take_nil, List.append_nil], he, by rw [nextS_short (by decide)], Nat.le_refl _⟩
  | cons x l ih =>
    intro s all w hx he hw
    have hx0 := hx x List.mem_cons_self
    have he' : s ++ all = frameB x ++ framesB l := he
    by_cases hl : s.length < x.length + 2
    · have h6 := next_part hx0 he' hl
      exact ⟨0, s, Nat.zero_le _, by rw [drain_none h6, List.take_zero, List.append_nil], he, h6, Nat.le_refl _⟩
    · obtain ⟨s2, rfl⟩ : ∃ s2, s = frameB x ++ s2 := by
        refine ⟨s.drop (x.length + 2), ?_⟩
        have h1 : s = (s ++ all).take s.length := by rw [List.take_left]
        have h2 : s.take (x.length + 2) = frameB x := by
          have h3 : (s ++ all).take (x.length + 2) = s.take (x.length + 2) := List.take_append_of_le_length (by omega)
          rw [← h3, he', ← frameB_len x, List.take_left]
        conv => lhs; rw [← List.take_append_drop (x.length + 2) s, h2]
      have he2 : s2 ++ all = framesB l := by rw [List.append_assoc] at he'; exact List.append_cancel_left he'
      have hn := next_frame (t := s2) hx0
      simp only [List.length_cons] at hw
      obtain ⟨j, s', h1, h2, h3, h4, h5⟩ := ih s2 all (w ++ [x]) (fun y hy => hx y (List.mem_cons_of_mem _ hy)) he2 (by rw [List.length_append, List.length_singleton]; omega)
      refine ⟨j + 1, s', by rw [List.length_cons]; omega, ?_, h3, h4, by rw [List.length_append]; omega⟩
      rw [drain_more (by rw [hn]) (by omega), hn]
      rw [h2, List.append_assoc]; rfl
theorem frames_end {l : List (List UInt8)} (hx : ∀ x ∈ l, x.length ≤ 2048) (h : (nextS (framesB l)).2.1 = 6) : l = [] := by
  cases l with
  | nil => rfl
  | cons x l =>
    have h1 : framesB (x :: l) = frameB x ++ framesB l := rfl
    rw [h1, next_frame (hx x List.mem_cons_self)] at h; cases h
theorem frames_len : ∀ (l : List (List UInt8)) (n : Nat), (∀ x ∈ l, x.length ≤ n) → (framesB l).length ≤ l.length * (n + 2) := by
  intro l n
  induction l with
  | nil => intro _; exact Nat.zero_le _
  | cons x l ih =>
    intro h
    have h1 : (framesB (x :: l)).length = (frameB x).length + (framesB l).length := by show (frameB x ++ framesB l).length = _; rw [List.length_append]
    have h2 := ih fun y hy => h y (List.mem_cons_of_mem _ hy)
    have h3 := h x List.mem_cons_self
    rw [h1, frameB_len, List.length_cons, Nat.succ_mul]; omega
theorem frames_snoc {l : List (List UInt8)} {i : Nat} (h : i < l.length) : framesB (l.take (i + 1)) = framesB (l.take i) ++ frameB l[i] := by
  rw [List.take_succ_eq_append_getElem h]; unfold framesB; rw [List.flatMap_append]; simp
/-- what came so far of all frames -/
structure Came (l : List (List UInt8)) (s all : List UInt8) (w : List (List UInt8)) : Prop where
  few : w.length ≤ l.length
  took : w = l.take w.length
  left : s ++ all = framesB (l.drop w.length)
  stuck : (nextS s).2.1 = 6
theorem Came.start (l : List (List UInt8)) : Came l [] (framesB l) [] := ⟨Nat.zero_le _, rfl, rfl, by rw [nextS_short (by decide)]⟩
theorem Came.feed {l : List (List UInt8)} {s all : List UInt8} {w : List (List UInt8)} (h : Came l s all w) (hl : l.length ≤ 20) (hx : ∀ x ∈ l, x.length ≤ 200) (n : Nat) (hn : n ≤ all.length) :
    ∃ s' w', feedC s false w (all.take n) = (s', false, w', 0) ∧ Came l s' (all.drop n) w' ∧ w.length ≤ w'.length ∧ s'.length ≤ 8192 ∧ w'.length ≤ 20 := by
  have hfl := frames_len (l.drop w.length) 200 fun x hxx => hx x (List.mem_of_mem_drop hxx)
  have h9 : (l.drop w.length).length ≤ 20 := by rw [List.length_drop]; omega
  have hf2 : (framesB (l.drop w.length)).length ≤ 20 * 202 := Nat.le_trans hfl (Nat.mul_le_mul_right _ h9)
  have hsa : s.length + all.length ≤ 4040 := by rw [← h.left, List.length_append] at hf2; omega
  have hd : (s ++ all.take n) ++ all.drop n = framesB (l.drop w.length) := by rw [List.append_assoc, List.take_append_drop]; exact h.left
  have hwf := h.few
  obtain ⟨j, s', h1, h2, h3, h4, h5⟩ := drain_frames (l.drop w.length) (s ++ all.take n) (all.drop n) w (fun x hxx => by have := hx x (List.mem_of_mem_drop hxx); omega) hd (by rw [List.length_drop]; omega)
  rw [List.length_drop] at h1
  have htl : (all.take n).length ≤ all.length := List.length_take_le' _ _
  rw [List.length_append] at h5
  have hwl : (w ++ (l.drop w.length).take j).length = w.length + j := by rw [List.length_append, List.length_take, List.length_drop]; omega
  refine ⟨s', w ++ (l.drop w.length).take j, ?_, ⟨by rw [hwl]; omega, ?_, ?_, h4⟩, by rw [hwl]; omega, by omega, by rw [hwl]; omega⟩
  · unfold feedC; rw [if_neg (by decide), if_neg (by omega), h2]
  · rw [hwl, List.take_add]; exact congrArg (· ++ (l.drop w.length).take j) h.took
  · rw [hwl, h3, List.drop_drop]
theorem Came.done {l : List (List UInt8)} {s : List UInt8} {w : List (List UInt8)} (h : Came l s [] w) (hx : ∀ x ∈ l, x.length ≤ 200) : w = l ∧ s = [] := by
  have hl := h.left
  rw [List.append_nil] at hl
  have hs := h.stuck
  rw [hl] at hs
  have he := frames_end (fun x hxx => by have := hx x (List.mem_of_mem_drop hxx); omega) hs
  have hf := h.few
  have hlen : l.length ≤ w.length := by have := congrArg List.length he; rw [List.length_drop] at this; simp at this; omega
  refine ⟨?_, by rw [hl, he]; rfl⟩
  rw [h.took, List.take_of_length_le hlen]
/-- the error of any bytes is short -/
theorem short_fieldS {x : Cal} (hl : ShortA x) (f : UInt8) : ShortE 600 (fieldE x f) := by
  unfold fieldE
  repeat' split
  all_goals first | exact short_within (by decide) _ _ _ | exact (short_in (check_short hl.1) _).mono (by decide) | exact (short_labels (by decide) hl.2.1).mono (by decide) | exact short_none _ | exact short_one (by decide)
theorem short_AS {x : Cal} (hl : ShortA x) : ShortE 600 (checkA x) := by
  unfold checkA
  split
  · exact short_one (by decide)
  · split
    · rename_i e h
      rw [← h]
      refine short_first fun e he => ?_
      obtain ⟨f, _, rfl⟩ := List.mem_map.1 he
      exact short_fieldS hl f
    · split
      · exact short_none _
      · exact short_one (by decide)
theorem ofAE_short (s : List UInt8) : ShortE 600 (ofAE s) := short_first fun e he => by
  simp only [List.mem_cons, List.not_mem_nil, or_false] at he
  rcases he with rfl | rfl
  · unfold wireA; split <;> exact short_new (by decide)
  · exact short_AS (calRd_short s)
/-- the works' frame -/
theorem works_feed : feedC [] false [] [2, 0, 12, 5] = ([], false, [[12, 5]], 0) := by
  have h1 : ([2, 0, 12, 5] : List UInt8) = framesB [[12, 5]] := by decide
  obtain ⟨s', w', h2, h3, _⟩ := (Came.start [[12, 5]]).feed (by decide) (by decide) 4 (by decide)
  have h4 : (framesB [[12, 5]]).take 4 = [2, 0, 12, 5] := by decide
  have h5 : (framesB [[12, 5]]).drop 4 = [] := by decide
  rw [h4] at h2; rw [h5] at h3
  obtain ⟨h6, h7⟩ := h3.done (by decide)
  rw [h2, h6, h7]
/-- a feeding in two steps: the bytes, and the texts -/
def putS (s : List UInt8) (c : Bool) (t : List UInt8) : List UInt8 × Bool × Int := if c = true then (s, true, 400) else if 8192 < s.length + t.length then ([], true, 2) else (s ++ t, false, 0)
theorem putS_closed {s t : List UInt8} {c : Bool} (h : c = true) : putS s c t = (s, true, 400) := if_pos h
theorem putS_long {s t : List UInt8} {c : Bool} (h : ¬ c = true) (h2 : 8192 < s.length + t.length) : putS s c t = ([], true, 2) := by unfold putS; rw [if_neg h, if_pos h2]
theorem putS_good {s t : List UInt8} {c : Bool} (h : ¬ c = true) (h2 : ¬ 8192 < s.length + t.length) : putS s c t = (s ++ t, false, 0) := by unfold putS; rw [if_neg h, if_neg h2]
theorem feed_bad {s t : List UInt8} {c : Bool} {w : List (List UInt8)} (h : (putS s c t).2.2 ≠ 0) : feedC s c w t = ((putS s c t).1, (putS s c t).2.1, w, (putS s c t).2.2) := by
  unfold putS at h ⊢; unfold feedC
  split at h
  · rename_i hc; rw [if_pos hc, if_pos hc]
  · rename_i hc
    split at h
    · rename_i h2; rw [if_neg hc, if_neg hc, if_pos h2, if_pos h2]
    · exact absurd rfl h
theorem feed_good {s t : List UInt8} {c : Bool} {w : List (List UInt8)} (h : (putS s c t).2.2 = 0) : putS s c t = (s ++ t, false, 0) ∧ feedC s c w t = drainC (s ++ t) w ∧ (s ++ t).length ≤ 8192 ∧ c = false := by
  unfold putS at h ⊢; unfold feedC
  split at h
  · cases h
  · rename_i hc
    split at h
    · cases h
    · rename_i h2
      rw [if_neg hc, if_neg hc, if_neg h2, if_neg h2]
      exact ⟨rfl, rfl, by rw [List.length_append]; omega, by simpa using hc⟩
theorem next_six {s : List UInt8} (h : (nextS s).2.1 = 6) : nextS s = ([], 6, s, false) := by
  rcases nextS_cases s with h1 | h1 | ⟨_, h1⟩ <;> rw [h1] at h ⊢ <;> cases h
theorem next_bad {s : List UInt8} (h : (nextS s).2.1 ≠ 6) (h0 : (nextS s).2.1 ≠ 0) : nextS s = ([], 2, [], true) := by
  rcases nextS_cases s with h1 | h1 | ⟨_, h1⟩ <;> rw [h1] at h h0 ⊢
  · exact absurd rfl h
  · exact absurd rfl h0
theorem nextX_open {s : List UInt8} : nextX s false = nextS s := rfl
/-- what a connection's call for the first text gives -/
def waitC : List (List UInt8) → Cal × Er × Int
  | [] => (cal0 0, none, 6)
  | t :: _ => (ofA t, ofAE t, 0)
def askL (n : Int) (c : Cal) (e : Er) : List AV := .int .i64 n :: (calL c ++ [.int .i64 (erCode e), .S (Lib.join (erPath e) [46])])
def askN (w : List (List UInt8)) (tk : Int) : Int := if w = [] then 0 else tk + 1
def tookN (w : List (List UInt8)) (tk : Int) : Int := if w = [] then tk else tk + 1
theorem strsV_one (l : List (List UInt8)) : ∀ y, y ∈ strsV l → y.cells.length = 1 ∧ y.cells.all AV.one = true := by
  intro y hy; obtain ⟨r, _, rfl⟩ := List.mem_map.1 hy; exact ⟨rfl, rfl⟩
theorem bits_or64 (m n : Nat) (hm : m < 9223372036854775808) (hn : n < 9223372036854775808) : bits .or .i64 (m : Int) (n : Int) = IntKind.i64.wrap ((m ||| n : Nat) : Int) := by
  simp only [bits]
  congr 2
  rw [BitVec.toNat_or, BitVec.toNat_ofInt, BitVec.toNat_ofInt]
  have : (2 ^ IntKind.i64.bits : Nat) = 18446744073709551616 := by decide
  rw [this]
  congr 1 <;> omega
theorem or_bytes (h0 h1 : UInt8) {r : List UInt8} : bits .or .i64 (h0.toNat : Int) ((h1.toNat * 256 : Nat) : Int) = ((frN (h0 :: h1 :: r) : Nat) : Int) := by
  have a0 := h0.toNat_lt
  have a1 := h1.toNat_lt
  rw [bits_or64 _ _ (by omega) (by omega), or_add h0.toNat h1.toNat 8 (by omega), wrap_i64 (by omega) (by omega)]
  rfl
theorem shl_eight {n : Nat} (h : n < 256) : IntKind.i64.wrap ((n : Int) * 2 ^ Int.toNat 8) = ((n * 256 : Nat) : Int) := by
  rw [show (2 : Int) ^ Int.toNat 8 = 256 from rfl, wrap_i64 (by omega) (by omega)]; omega
theorem shr_eight (n : Nat) : (n : Int) / 2 ^ Int.toNat 8 = ((n / 256 : Nat) : Int) := by
  rw [show (2 : Int) ^ Int.toNat 8 = 256 from rfl]; omega
theorem cut_two (l : List UInt8) (n : Nat) : (l.take (2 + (n : Int)).toNat).drop (2 : Int).toNat = (l.drop 2).take n := by
  rw [show (2 + (n : Int)).toNat = 2 + n by omega, show (2 : Int).toNat = 2 from rfl, List.drop_take]
  congr 1; omega
theorem wrap_len (n : Nat) : IntKind.u8.wrap (n : Int) = ((UInt8.ofNat n).toNat : Int) := by
  rw [wrap_u8', UInt8.toNat_ofNat']; omega
theorem tup_zero (a : Nat) (y : AV) : AV.tup [.int .i64 ((a : Int) - (a : Int)), y] = .tup [.int .i64 0, y] := by rw [Int.sub_self]
theorem feed_case {s t : List UInt8} {c : Bool} {w : List (List UInt8)} (hs : s.length ≤ 8192) (hw : w.length ≤ 32) :
    ((feedC s c w t).1.length ≤ 8192 ∧ (feedC s c w t).2.2.1.length ≤ 32 ∧ w.length ≤ (feedC s c w t).2.2.1.length) ∧ ((c = true ∧ feedC s c w t = (s, true, w, 400)) ∨ (c = false ∧ (feedC s c w t).2.2.2 = 0 ∧ (feedC s c w t).2.1 = false) ∨ (c = false ∧ (feedC s c w t).2.2.2 = 2 ∧ (feedC s c w t).2.1 = true)) := by
  cases c with
  | true => rw [feed_closed]; exact ⟨⟨hs, hw, Nat.le_refl _⟩, .inl ⟨rfl, rfl⟩⟩
  | false =>
    have h := feed_open (t := t) hs hw
    refine ⟨⟨h.len, h.few, h.more⟩, .inr ?_⟩
    rcases h.code with h1 | h1
    · exact .inl ⟨rfl, h1⟩
    · exact .inr ⟨rfl, h1⟩
theorem took_sub {w v : List (List UInt8)} : tookN v ((w.length : Int) - (v.length : Int)) = (w.length : Int) - (v.tail.length : Int) := by
  cases v with
  | nil => simp [tookN]
  | cons a b => simp [tookN]; omega
theorem wA_ofA : ofA [12, 5] = wA := congrArg Prod.fst wA_of
theorem wA_ofE : ofAE [12, 5] = none := congrArg Prod.snd wA_of
def belowI (x n : Int) : Int := if x.tmod n < 0 then x.tmod n + n else x.tmod n
theorem tmod_bnd (x : Int) {n : Int} (h : 0 < n) : -n < x.tmod n ∧ x.tmod n < n := by
  refine ⟨?_, Int.tmod_lt_of_pos _ h⟩
  have h1 := Int.tmod_lt_of_pos (-x) h
  rw [Int.neg_tmod] at h1; omega
theorem belowI_bnd (x : Int) {n : Int} (h : 0 < n) : 0 ≤ belowI x n ∧ belowI x n < n := by
  have := tmod_bnd x h
  unfold belowI; split <;> omega
end Go.AL

/-
What is known of specs, containers and labels that came in: their numbers fit.
Conditions: none; no program is in sight.
-/
set_option linter.unusedVariables false
set_option linter.unusedSimpArgs false
namespace Go.AL
open Go.RowKit Go.NumSpec
def okLab (x : Lab) : Prop := x.1.length ≤ 9223372036854775807 ∧ x.2.length ≤ 9223372036854775807
def okCtr (c : Ctr) : Prop := fits3 c.req ∧ fits3 c.lim ∧ (∀ p ∈ c.ports, fits p) ∧ fits c.probe.1 ∧ fits c.probe.2
def okSpc (s : Spc) : Prop := (∀ c ∈ s.init, okCtr c) ∧ (∀ c ∈ s.main, okCtr c) ∧ fits s.restart ∧ fits s.grace ∧ fits s.prio
end Go.AL

/-
What a row's list of laid variables says of one table of integers, wherever it stands in the list.
Conditions: none; no program is in sight.
-/
set_option linter.unusedVariables false
namespace Go.AL
theorem tabIs_of_mem {P : Program} {W : World} {name : String} {k : IntKind} {zs : List Int} {g : Nat} {t e : TypeId} {n : Nat}
    (hg : P.globalNamed name = some g) (hty : (P.globals[g]?).map (·.type) = some t) (ht : P.underlying t = some (.array n e)) (he : P.underlying e = some (.int k)) (hce : P.cellsOf e = 1) (hct : P.cellsOf t = n) :
    ∀ {l : List (String × DataW Unit)} {ps : List MemPlace}, (name, Lib.tabData k zs) ∈ l → DataW.LaidVars P W l ps → Lib.TabIs P W name k zs
  | [], _, hm, _ => nomatch hm
  | (m, d) :: r, _, hm, h => by
    obtain ⟨g', t', cs, fuel, p, q, hg', ht', hvar, hd, hr, _⟩ := h
    rcases List.mem_cons.1 hm with hm | hm
    · cases hm
      obtain rfl := Option.some.inj (hg.symm.trans hg')
      obtain rfl := Option.some.inj (hty.symm.trans ht')
      unfold Lib.TabIs
      rw [hvar, ← Lib.cells_of_tab ht he hce hct hd]
    · exact tabIs_of_mem hg hty ht he hce hct hm hr
theorem tabIs_of_laid {P : Program} {W : World} {name : String} {k : IntKind} {zs : List Int} {g : Nat} {t e : TypeId} {n : Nat}
    (hg : P.globalNamed name = some g) (hty : (P.globals[g]?).map (·.type) = some t) (ht : P.underlying t = some (.array n e)) (he : P.underlying e = some (.int k)) (hce : P.cellsOf e = 1) (hct : P.cellsOf t = n)
    {l : List (String × DataW Unit)} (hm : (name, Lib.tabData k zs) ∈ l) (h : laidMet P l W) : Lib.TabIs P W name k zs := by
  obtain ⟨ps, h1, _⟩ := h
  exact tabIs_of_mem hg hty ht he hce hct hm h1
end Go.AL

/-
Scripts: the verbs.
Conditions: none; no program is in sight.
-/
set_option linter.unusedVariables false
set_option linter.unusedSimpArgs false
namespace Go.AL
open Go.RowKit Go.NumSpec
abbrev v0 : List UInt8 × Int × Int := ([], 0, 0)
structure Ent where
  verb : Int
  n : List Int
  data : List UInt8
end Go.AL

/-
What a row's list of laid variables says of the table of verbs.
Conditions: none; no program is in sight.
-/
set_option linter.unusedVariables false
namespace Go.AL
theorem laid_mem {P : Program} {W : World} {name : String} {d : DataW Unit} : ∀ {l : List (String × DataW Unit)} {ps : List MemPlace}, (name, d) ∈ l → DataW.LaidVars P W l ps →
    ∃ g t cs fuel p, P.globalNamed name = some g ∧ (P.globals[g]?).map (·.type) = some t ∧ W.var? P name = some cs ∧ DataW.trod (fun _ => ()) P W 0 (fun _ => true) false fuel t cs.toList = some (d, p)
  | [], _, hm, _ => nomatch hm
  | (m, d') :: r, _, hm, h => by
    obtain ⟨g', t', cs, fuel, p, q, hg', ht', hvar, hd, hr, _⟩ := h
    rcases List.mem_cons.1 hm with hm | hm
    · cases hm
      exact ⟨g', t', cs, fuel, p, hg', ht', hvar, hd⟩
    · exact laid_mem hm hr
section
variable {H : Type} {enc : TypeId × Value → H} {P : Program} {w : World} {base : Nat} {sp : Nat → Bool} {held : Bool} {fuel : Nat} {t e : TypeId}
end
end Go.AL

/-
What a row's list of laid variables says of the table of kinds.
Conditions: none; no program is in sight.
-/
set_option linter.unusedVariables false
namespace Go.AL
section
variable {H : Type} {enc : TypeId × Value → H} {P : Program} {w : World} {base : Nat} {sp : Nat → Bool} {held : Bool} {fuel : Nat} {t e : TypeId}
theorem row2_cells {f0 f1 : Field} {xs : List Value} {a b : List UInt8} {p : List MemPlace} (he : P.underlying e = some (.struct #[f0, f1])) (hc : P.cellsOf e = 2) (o0 : f0.offset = 0) (o1 : f1.offset = 1) (c0 : P.cellsOf f0.type = 1) (c1 : P.cellsOf f1.type = 1) (t0 : P.underlying f0.type = some .string) (t1 : P.underlying f1.type = some .string)
    (h : DataW.trod enc P w base sp held fuel e xs = some (.agg [.lit (.string a), .lit (.string b)], p)) : xs = [.string ⟨a.toArray⟩, .string ⟨b.toArray⟩] := by
  obtain ⟨ys, n, _, hx, hl, hlen, hf⟩ := DataW.trod_struct he h
  match ys, hlen with
  | [y0, y1], _ =>
    simp only [Prod.mk.injEq, DataW.agg.injEq, List.map_cons, List.map_nil, List.cons.injEq, and_true] at hx
    have h0 : DataW.trod enc P w base sp held n f0.type ((xs.drop f0.offset).take (P.cellsOf f0.type)) = some y0 := by simpa using hf 0 f0 rfl
    have h1 : DataW.trod enc P w base sp held n f1.type ((xs.drop f1.offset).take (P.cellsOf f1.type)) = some y1 := by simpa using hf 1 f1 rfl
    rw [o0, c0] at h0; rw [o1, c1] at h1
    obtain ⟨s, k0, k1, _⟩ := DataW.trod_string t0 h0
    obtain ⟨s2, k2, k3, _⟩ := DataW.trod_string t1 h1
    have hl2 : xs.length = 2 := by rw [hl, hc]
    match xs, hl2 with
    | [x0, x1], _ =>
      simp at k0 k2
      subst k0 k2
      rw [k1, k3] at hx
      simp at hx
      obtain ⟨⟨ha, hb⟩, _⟩ := hx
      rw [ha, hb]
theorem kinds_cells {f0 f1 : Field} {cs : List Value} {p : List MemPlace} (ht : P.underlying t = some (.array 13 e)) (hct : P.cellsOf t = 26) (he : P.underlying e = some (.struct #[f0, f1])) (hc : P.cellsOf e = 2) (o0 : f0.offset = 0) (o1 : f1.offset = 1) (c0 : P.cellsOf f0.type = 1) (c1 : P.cellsOf f1.type = 1) (t0 : P.underlying f0.type = some .string) (t1 : P.underlying f1.type = some .string)
    (h : DataW.trod enc P w base sp held fuel t cs = some (.agg (kindsT.map fun x => .agg [.lit (.string x.1), .lit (.string x.2)]), p)) : ∀ (j : Nat) u, kindsV[j]? = some u → cs[j]? = some u := by
  obtain ⟨xs, m, _, hx, hl, hlen, hf⟩ := DataW.trod_array ht h
  have hx1 : xs.map (·.1) = kindsT.map fun x => .agg [.lit (.string x.1), .lit (.string x.2)] := by
    have := congrArg Prod.fst hx
    simpa using this.symm
  have hrow : ∀ i, i < 13 → (cs.drop (i * 2)).take 2 = [.string ⟨(kindA i).1.toArray⟩, .string ⟨(kindA i).2.toArray⟩] := fun i hi => by
    have h1 := hf i hi
    rw [hc] at h1
    have hi2 : i < xs.length := by omega
    rw [List.getElem?_eq_getElem hi2] at h1
    have h2 : (xs[i]).1 = .agg [.lit (.string (kindA i).1), .lit (.string (kindA i).2)] := by
      have h3 := congrArg (·[i]?) hx1
      simp only [List.getElem?_map, List.getElem?_eq_getElem hi2, List.getElem?_eq_getElem (show i < kindsT.length from hi), Option.map_some, Option.some.injEq] at h3
      rw [h3]
      have e9 : kindA i = kindsT[i]'(show i < kindsT.length from hi) := by unfold kindA; rw [List.getD_eq_getElem?_getD, List.getElem?_eq_getElem (show i < kindsT.length from hi)]; rfl
      rw [e9]
    refine row2_cells (p := (xs[i]).2) he hc o0 o1 c0 c1 t0 t1 (h1.trans ?_)
    rw [← h2]
  intro j u hu
  have hj : j < 26 := (List.getElem?_eq_some_iff.1 hu).1
  have hr := hrow (j / 2) (by omega)
  have hv := kind_at (i := j / 2) (by omega)
  have e1 : cs[j]? = ((cs.drop (j / 2 * 2)).take 2)[j % 2]? := by
    rw [List.getElem?_take_of_lt (by omega), List.getElem?_drop]
    congr 1; omega
  rw [e1, hr, ← hu]
  have h3 : j % 2 = 0 ∨ j % 2 = 1 := by omega
  rcases h3 with h3 | h3
  · rw [h3, show j = 2 * (j / 2) by omega, hv.1]; rw [show (2 * (j / 2)) / 2 = j / 2 by omega]; rfl
  · rw [h3, show j = 2 * (j / 2) + 1 by omega, hv.2]; rw [show (2 * (j / 2) + 1) / 2 = j / 2 by omega]; rfl
end
end Go.AL
