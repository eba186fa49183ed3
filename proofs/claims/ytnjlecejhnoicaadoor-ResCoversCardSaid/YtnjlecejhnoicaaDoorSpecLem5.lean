/-
What a spec's error is; what a spec asks for.
Conditions: none; no program is in sight.
-/
import Derived.Test.YtnjlecejhnoicaaDoorSpecLem4
import Derived.Test.YtnjlecejhnoicaaDoorResLem
set_option linter.unusedVariables false
set_option linter.unusedSimpArgs false
namespace Go.AL
open Go.RowKit Go.NumSpec
abbrev nameN : List UInt8 := [110, 97, 109, 101]
abbrev labelsN : List UInt8 := [108, 97, 98, 101, 108, 115]
abbrev initN : List UInt8 := [105, 110, 105, 116]
abbrev mainN : List UInt8 := [109, 97, 105, 110]
abbrev check1 (s : Spc) : List Er := [erNew (saysV (nameV s.name) 30) [nameN], labelsE labelsN s.labels, atMostE initN (s.init.length : Int) 0 3]
abbrev check2 (s : Spc) : List Er := [ctrsE initN [] [] s.init 0 0, atMostE mainN (s.main.length : Int) 1 4]
abbrev check3 (s : Spc) : List Er := [ctrsE mainN (namesTo [] s.init s.init.length) (portsTo [] s.init s.init.length) s.main 3 1000, withinE [114, 101, 115, 116, 97, 114, 116] s.restart 1 3, withinE [103, 114, 97, 99, 101] s.grace 0 1000, withinE [112, 114, 105, 111] s.prio 0 10]
def checkE (s : Spc) : Er := match firstE (check1 s) with | some x => some x | none => match firstE (check2 s) with | some x => some x | none => firstE (check3 s)
theorem check_bad1 {s : Spc} {x : Int × List (List UInt8)} (h : firstE (check1 s) = some x) : checkE s = some x := by unfold checkE; rw [h]
theorem check_bad2 {s : Spc} {x : Int × List (List UInt8)} (h : firstE (check1 s) = none) (h2 : firstE (check2 s) = some x) : checkE s = some x := by unfold checkE; rw [h, h2]
theorem check_good {s : Spc} (h : firstE (check1 s) = none) (h2 : firstE (check2 s) = none) : checkE s = firstE (check3 s) := by unfold checkE; rw [h, h2]
theorem check_all {s : Spc} (h : checkE s = none) : firstE (check1 s) = none ∧ firstE (check2 s) = none ∧ firstE (check3 s) = none := by
  unfold checkE at h
  cases h1 : firstE (check1 s) with
  | some x => rw [h1] at h; cases h
  | none =>
    rw [h1] at h
    cases h2 : firstE (check2 s) with
    | some x => rw [h2] at h; cases h
    | none => rw [h2] at h; exact ⟨rfl, rfl, h⟩
theorem lightS_out {s : Spc} (h : lightS s = true) : s.name.length ≤ 100 ∧ s.labels.length ≤ 10 ∧ s.init.length ≤ 8 ∧ s.main.length ≤ 8 ∧ (∀ x ∈ s.labels, x.1.length ≤ 1000000 ∧ x.2.length ≤ 1000000) ∧ (∀ c ∈ s.init, lightC c = true) ∧ ∀ c ∈ s.main, lightC c = true := by
  unfold lightS at h
  simp only [Bool.and_eq_true, decide_eq_true_eq, List.all_eq_true] at h
  obtain ⟨⟨⟨h1, h2, h3, h4⟩, h5⟩, h6, h7⟩ := h
  refine ⟨h1, h2, h3, h4, fun x hx => ?_, h6, h7⟩
  have := h5 x hx
  unfold lightL at this
  rw [decide_eq_true_eq] at this
  omega

theorem check_seen {s : Spc} (h : firstE (check1 s) = none) (hc : ∀ c ∈ s.init, lightC c = true) : (namesTo [] s.init s.init.length).length ≤ 100 ∧ (portsTo [] s.init s.init.length).length ≤ 100 := by
  have h3 := firstE_none h (atMostE initN (s.init.length : Int) 0 3) (List.mem_cons_of_mem _ (List.mem_cons_of_mem _ List.mem_cons_self))
  have h3 : s.init.length ≤ 3 := by
    unfold atMostE at h3
    split at h3
    · cases h3
    · omega
  have h1 := flat_le (l := s.init) fun c h => (of_decide_eq_true (hc c h)).2.2
  unfold namesTo portsTo
  rw [List.take_length, List.length_append, List.length_append, List.length_map]
  simp only [List.length_nil]
  omega

def reqs (l : List Ctr) : List Tri := l.map Ctr.req
theorem ress_reqs (l : List Ctr) : l.map (fun c => resAV c.req) = ress (reqs l) := by simp [ress, reqs]
def maxTo (t : Tri) (l : List Ctr) : Tri := l.foldl (fun t c => maxR t c.req) t
def ofR (s : Spc) : Tri × Bool := if (sumR (0, 0, 0) (reqs s.main)).2 = true then (maxTo (sumR (0, 0, 0) (reqs s.main)).1 s.init, true) else ((0, 0, 0), false)
theorem ofR_bad {s : Spc} (h : (sumR (0, 0, 0) (reqs s.main)).2 = false) : ofR s = ((0, 0, 0), false) := by unfold ofR; rw [if_neg (by rw [h]; simp)]
theorem ofR_ok {s : Spc} (h : (sumR (0, 0, 0) (reqs s.main)).2 = true) : ofR s = (maxTo (sumR (0, 0, 0) (reqs s.main)).1 s.init, true) := by unfold ofR; rw [if_pos h]
theorem maxTo_next {t : Tri} {l : List Ctr} {i : Nat} (h : i < l.length) : maxTo t (l.take (i + 1)) = maxR (maxTo t (l.take i)) l[i].req := by
  unfold maxTo; rw [List.take_succ_eq_append_getElem h, List.foldl_append]; rfl
theorem maxTo_fits {l : List Ctr} : ∀ {t : Tri}, fits3 t → (∀ c ∈ l, fits3 c.req) → fits3 (maxTo t l) := by
  induction l with
  | nil => intro t h _; exact h
  | cons c l ih => intro t h hl; exact ih (maxR_fits h (hl c List.mem_cons_self)) fun x hx => hl x (List.mem_cons_of_mem _ hx)

/-! ### What a pod asks for covers all -/
def leR (a b : Tri) : Prop := a.1 ≤ b.1 ∧ a.2.1 ≤ b.2.1 ∧ a.2.2 ≤ b.2.2
theorem leR_fits {a b : Tri} (h : leR a b) : fitsR a b = true := decide_eq_true h
theorem leR.refl (a : Tri) : leR a a := ⟨Int.le_refl _, Int.le_refl _, Int.le_refl _⟩
theorem leR.trans {a b c : Tri} (h : leR a b) (k : leR b c) : leR a c := ⟨Int.le_trans h.1 k.1, Int.le_trans h.2.1 k.2.1, Int.le_trans h.2.2 k.2.2⟩
theorem le_max_l (a b : Tri) : leR a (maxR a b) := ⟨Int.le_max_left _ _, Int.le_max_left _ _, Int.le_max_left _ _⟩
theorem le_max_r (a b : Tri) : leR b (maxR a b) := ⟨Int.le_max_right _ _, Int.le_max_right _ _, Int.le_max_right _ _⟩
theorem max_mono {a b c : Tri} (h : leR a b) : leR (maxR a c) (maxR b c) := by
  obtain ⟨h1, h2, h3⟩ := h
  refine ⟨?_, ?_, ?_⟩ <;> simp only [maxR] <;> omega
theorem maxTo_ge (l : List Ctr) : ∀ t : Tri, leR t (maxTo t l) := by
  induction l with
  | nil => exact leR.refl
  | cons c l ih => intro t; exact (le_max_l t c.req).trans (ih _)
theorem maxTo_mem {l : List Ctr} : ∀ {t : Tri} {c : Ctr}, c ∈ l → leR c.req (maxTo t l) := by
  induction l with
  | nil => intro t c h; cases h
  | cons d l ih =>
    intro t c h
    rcases List.mem_cons.1 h with rfl | h
    · exact (le_max_r t c.req).trans (maxTo_ge l _)
    · exact ih h
theorem maxTo_mono {l : List Ctr} : ∀ {a b : Tri}, leR a b → leR (maxTo a l) (maxTo b l) := by
  induction l with
  | nil => exact id
  | cons c l ih => intro a b h; exact ih (max_mono h)
/-- What Check says of what a container asks for. -/
def reqOk (c : Ctr) : Prop := inK 1099511627776 c.req
theorem within_none {name : List UInt8} {n lo hi : Int} (h : withinE name n lo hi = none) : lo ≤ n ∧ n ≤ hi := by
  unfold withinE at h
  split at h
  · cases h
  · omega
theorem erIn_none {e : Er} {p : List UInt8} (h : erIn e p = none) : e = none := by cases e with | none => rfl | some x => cases h
theorem ctrE_req {ns : List (List UInt8)} {ps : List Int} {c : Ctr} {ports every : Int} (h : ctrE ns ps c ports every = none) : reqOk c := by
  have h1 := erIn_none (firstE_none h (reqE c.req) (by simp))
  have h2 := within_none (firstE_none h1 _ (List.mem_cons_self))
  have h3 := within_none (firstE_none h1 _ (List.mem_cons_of_mem _ List.mem_cons_self))
  have h4 := within_none (firstE_none h1 _ (List.mem_cons_of_mem _ (List.mem_cons_of_mem _ List.mem_cons_self)))
  exact ⟨h2, h3, h4⟩
theorem ctrsE_each {name : List UInt8} {ns : List (List UInt8)} {ps : List Int} {l : List Ctr} {ports every : Int} (h : ctrsE name ns ps l ports every = none) {i : Nat} (hi : i < l.length) : ctrE (namesTo ns l i) (portsTo ps l i) l[i] ports every = none := by
  have := erIn_none (eachE_none h i hi)
  rwa [ctrAt_at hi] at this
theorem ctrsE_req {name : List UInt8} {ns : List (List UInt8)} {ps : List Int} {l : List Ctr} {ports every : Int} (h : ctrsE name ns ps l ports every = none) : ∀ c ∈ l, reqOk c := fun c hc => by
  obtain ⟨i, hi, rfl⟩ := List.mem_iff_getElem.1 hc
  exact ctrE_req (ctrsE_each h hi)
theorem check_reqs {s : Spc} (h : checkE s = none) : (∀ c ∈ s.init, reqOk c) ∧ (∀ c ∈ s.main, reqOk c) ∧ s.main.length ≤ 4 := by
  obtain ⟨_, h2, h3⟩ := check_all h
  refine ⟨ctrsE_req (firstE_none h2 _ List.mem_cons_self), ctrsE_req (firstE_none h3 _ List.mem_cons_self), ?_⟩
  have := firstE_none h2 (atMostE mainN (s.main.length : Int) 1 4) (by simp)
  unfold atMostE at this
  split at this
  · cases this
  · omega
theorem reqOk_small {c : Ctr} (h : reqOk c) : smallR c.req = true := by
  obtain ⟨h1, h2, h3⟩ := h
  unfold smallR
  simp only [Bool.and_eq_true, decide_eq_true_eq]
  omega
theorem sum_reqs {l : List Ctr} (h : ∀ c ∈ l, reqOk c) (hl : l.length ≤ 8) : sumR (0, 0, 0) (reqs l) = (tot (reqs l), true) :=
  sum_small (fun r hr => by obtain ⟨c, hc, rfl⟩ := List.mem_map.1 hr; exact reqOk_small (h c hc)) (by simp [reqs]; omega)
theorem ofR_good {s : Spc} (h : ∀ c ∈ s.main, reqOk c) (hl : s.main.length ≤ 8) : ofR s = (maxTo (tot (reqs s.main)) s.init, true) := by
  have h1 := sum_reqs h hl
  rw [ofR_ok (by rw [h1]), h1]
theorem tot_nonneg {l : List Ctr} (h : ∀ c ∈ l, reqOk c) : leR (0, 0, 0) (tot (reqs l)) ∧ leR (tot (reqs l)) (l.length * 36028797018963968, l.length * 36028797018963968, l.length * 36028797018963968) := by
  have := tot_in (l := reqs l) (fun r hr => by obtain ⟨c, hc, rfl⟩ := List.mem_map.1 hr; exact reqOk_small (h c hc))
  have hl : (reqs l).length = l.length := by simp [reqs]
  rw [hl] at this
  obtain ⟨⟨a1, a2⟩, ⟨b1, b2⟩, c1, c2⟩ := this
  exact ⟨⟨a1, b1, c1⟩, ⟨a2, b2, c2⟩⟩
def dropC (l : List Ctr) (i : Nat) : List Ctr := l.take i ++ l.drop (i + 1)
theorem dropC_mem {l : List Ctr} {i : Nat} {c : Ctr} (h : c ∈ dropC l i) : c ∈ l := by
  rcases List.mem_append.1 h with h | h
  · exact List.mem_of_mem_take h
  · exact List.mem_of_mem_drop h
theorem dropC_len {l : List Ctr} {i : Nat} : (dropC l i).length ≤ l.length := by
  unfold dropC; rw [List.length_append, List.length_take, List.length_drop]; omega
theorem tot_drop {l : List Ctr} {i : Nat} (h : i < l.length) : tot (reqs l) = ((tot (reqs (dropC l i))).1 + l[i].req.1, (tot (reqs (dropC l i))).2.1 + l[i].req.2.1, (tot (reqs (dropC l i))).2.2 + l[i].req.2.2) := by
  have e0 : l = l.take i ++ (l[i] :: l.drop (i + 1)) := by rw [← List.drop_eq_getElem_cons h, List.take_append_drop]
  have e : reqs l = reqs (l.take i) ++ ([l[i].req] ++ reqs (l.drop (i + 1))) := (congrArg reqs e0).trans (by simp only [reqs, List.map_append, List.map_cons]; rfl)
  have e2 : reqs (dropC l i) = reqs (l.take i) ++ reqs (l.drop (i + 1)) := by simp [reqs, dropC]
  rw [e, e2]
  simp only [tot_append]
  simp only [tot, Int.add_zero]
  refine Prod.ext ?_ (Prod.ext ?_ ?_) <;> simp only <;> omega
/-- What ResCovers asks at a main container. -/
theorem covers_main {s : Spc} (h : checkE s = none) {i : Nat} (hi : i < s.main.length) (hl : s.main.length ≤ 8) :
    (ofR { s with main := dropC s.main i }).2 = true ∧ fitsR (ofR { s with main := dropC s.main i }).1 (ofR s).1 = true ∧ fitsR s.main[i].req (ofR s).1 = true ∧
    (ofR ⟨[], [], [], dropC s.main i, 0, 0, 0⟩).2 = true ∧ (addR (ofR ⟨[], [], [], dropC s.main i, 0, 0, 0⟩).1 s.main[i].req).2 = true ∧ fitsR (addR (ofR ⟨[], [], [], dropC s.main i, 0, 0, 0⟩).1 s.main[i].req).1 (ofR s).1 = true := by
  obtain ⟨h1, h2, h3⟩ := check_reqs h
  have hd : ∀ c ∈ dropC s.main i, reqOk c := fun c hc => h2 c (dropC_mem hc)
  have hdl : (dropC s.main i).length ≤ 8 := Nat.le_trans dropC_len hl
  have e1 := ofR_good h2 hl
  have e2 : ofR { s with main := dropC s.main i } = (maxTo (tot (reqs (dropC s.main i))) s.init, true) := ofR_good (s := { s with main := dropC s.main i }) hd hdl
  have e3 : ofR ⟨[], [], [], dropC s.main i, 0, 0, 0⟩ = (tot (reqs (dropC s.main i)), true) := ofR_good (s := ⟨[], [], [], dropC s.main i, 0, 0, 0⟩) hd hdl
  obtain ⟨n1, n2⟩ := tot_nonneg hd
  obtain ⟨m1, m2⟩ := tot_nonneg h2
  have hr := h2 _ (List.getElem_mem hi)
  obtain ⟨⟨r1, r2⟩, ⟨r3, r4⟩, r5, r6⟩ := hr
  have ht := tot_drop hi
  have hle : leR (tot (reqs (dropC s.main i))) (tot (reqs s.main)) := by rw [ht]; refine ⟨?_, ?_, ?_⟩ <;> simp only <;> omega
  have hle2 : leR s.main[i].req (tot (reqs s.main)) := by rw [ht]; obtain ⟨n3, n4, n5⟩ := n1; simp only at n3 n4 n5; refine ⟨?_, ?_, ?_⟩ <;> simp only <;> omega
  have hg := maxTo_ge s.init (tot (reqs s.main))
  rw [e1, e2, e3]
  have ha : addR (tot (reqs (dropC s.main i))) s.main[i].req = (tot (reqs s.main), true) := by
    obtain ⟨m3, m4, m5⟩ := m1; obtain ⟨m6, m7, m8⟩ := m2
    simp only at m3 m4 m5 m6 m7 m8
    rw [ht] at m3 m4 m5 m6 m7 m8
    simp only at m3 m4 m5 m6 m7 m8
    rw [addR, if_pos, ht]
    refine ⟨?_, ?_, ?_⟩ <;> unfold fits <;> omega
  rw [ha]
  exact ⟨rfl, leR_fits (maxTo_mono hle), leR_fits (hle2.trans hg), rfl, rfl, leR_fits hg⟩
theorem covers_init {s : Spc} (h : checkE s = none) {i : Nat} (hi : i < s.init.length) (hl : s.main.length ≤ 8) : fitsR s.init[i].req (ofR s).1 = true := by
  obtain ⟨h1, h2, h3⟩ := check_reqs h
  rw [ofR_good h2 hl]
  exact leR_fits (maxTo_mem (List.getElem_mem hi))
theorem ofR_fits {s : Spc} (h : ∀ c ∈ s.init, fits3 c.req) (k : ∀ c ∈ s.main, fits3 c.req) : fits3 (ofR s).1 := by
  unfold ofR
  split
  · exact maxTo_fits (sumR_fits _ _ (by decide)) h
  · decide
end Go.AL
