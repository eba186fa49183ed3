/- A part of the proof: laws of the logic and of the data, no program in sight.
Conditions: none beyond each theorem's own. -/
import Derived.Test.YtfdcadnaginnpaaGreatDoorL2
import Derived.Laws.RangeString
import Derived.LaidMore
import Derived.Lib.LaidTab
set_option linter.unusedVariables false
set_option linter.unusedSimpArgs false
namespace Go.AL
open Go.RowKit Go.NumSpec
/-! images -/
theorem name_ascii {s : List UInt8} (h : nameV s = true) : ∀ c ∈ s, c.toNat < 128 := fun c hc => by
  unfold nameV at h
  simp only [Bool.and_eq_true] at h
  have := List.all_eq_true.1 h.1.1.2 c hc
  unfold inC smallB at this
  simp at this
  omega
theorem repo_ascii {s : List UInt8} (h : repoV s = true) : ∀ c ∈ s, c.toNat < 128 := by
  rw [repo_eq] at h
  simp only [Bool.and_eq_true] at h
  have key : ∀ n, ∀ s : List UInt8, s.length ≤ n → (partsB 47 s).all nameV = true → ∀ c ∈ s, c.toNat < 128 := fun n => by
    induction n with
    | zero => intro s hs _; have : s = [] := List.eq_nil_of_length_eq_zero (by omega); subst this; simp
    | succ n ih =>
      intro s hs hall
      cases hc : (cutV 47 s).2.2 with
      | false =>
        rw [partsB_cut, hc, if_neg (by simp)] at hall
        exact name_ascii (by simpa using hall)
      | true =>
        rw [partsB_cut, hc, if_pos rfl] at hall
        simp only [List.all_cons, Bool.and_eq_true] at hall
        have hl := cutV_len hc
        have h2 := ih _ (by omega) hall.2
        have hj := cutV_join hc
        intro c hcm
        rw [← hj] at hcm
        simp only [List.mem_append, List.mem_cons] at hcm
        rcases hcm with h | rfl | h
        · exact name_ascii hall.1 c h
        · decide
        · exact h2 c h
  exact key _ s (Nat.le_refl _) h.2
theorem tag_ascii {s : List UInt8} (h : tagV s = true) : ∀ c ∈ s, c.toNat < 128 := fun c hc => by
  unfold tagV at h
  simp only [Bool.and_eq_true] at h
  have := List.all_eq_true.1 h.2 c hc
  unfold inC smallB at this
  simp at this
  omega
theorem img_split {s : List UInt8} (h : (tparts s).2.2 = true) : ∃ r t, s = r ++ 58 :: t ∧ repoV r = true ∧ tagV t = true ∧ (58 : UInt8) ∉ r := by
  unfold tparts at h
  split at h
  · rename_i hc
    exact ⟨(cutV 58 s).1, (cutV 58 s).2.1, (cutV_join hc.1).symm, hc.2.1, hc.2.2, repo_no58 hc.2.1⟩
  · simp at h
theorem img_ascii {s : List UInt8} (h : (tparts s).2.2 = true) : ∀ c ∈ s, c.toNat < 128 := fun c hc => by
  obtain ⟨r, t, rfl, hr, ht, _⟩ := img_split h
  simp only [List.mem_append, List.mem_cons] at hc
  rcases hc with h | rfl | h
  · exact repo_ascii hr c h
  · decide
  · exact tag_ascii ht c h
theorem img_end {s : List UInt8} (h : (tparts s).2.2 = true) (hn : ∀ j (hj : j < s.length), s[j] ≠ 58) : False := by
  obtain ⟨r, t, rfl, _⟩ := img_split h
  exact hn r.length (by simp) (by simp)
theorem img_parts {r t : List UInt8} (hr : repoV r = true) (ht : tagV t = true) : tparts (r ++ 58 :: t) = (r, t, true) := by
  unfold tparts
  rw [cutV_sep (repo_no58 hr), if_pos ⟨rfl, hr, ht⟩]
theorem img_new {s : List UInt8} {i : Nat} (h : (tparts s).2.2 = true) (hi : i < s.length) (he : s[i] = 58) (hn : ∀ j (hj : j < s.length), j < i → s[j] ≠ 58) : sameV s (s.take i ++ [58, 57]) = true := by
  obtain ⟨r, t, rfl, hr, ht, h58⟩ := img_split h
  have hir : i = r.length := by
    rcases Nat.lt_trichotomy i r.length with h1 | h1 | h1
    · rw [List.getElem_append_left h1] at he
      exact absurd (he ▸ List.getElem_mem h1) h58
    · exact h1
    · exact absurd (by simp) (hn r.length (by simp) h1)
  subst hir
  rw [List.take_left]
  unfold sameV
  rw [img_parts hr ht, show r ++ [58, 57] = r ++ 58 :: [57] from rfl, img_parts hr (by decide +kernel)]
  simp
/-! updates -/
def updC (s to : Spc) (k : Nat) (c : Ctr) : Spc := ⟨s.name, to.labels, s.init, s.main.set k c, to.restart, to.grace, to.prio⟩
theorem alike_img (c : Ctr) (t : List UInt8) : alikeC c { c with image := t } = true ∧ alikeC { c with image := t } c = true := by simp [alikeC]
theorem froz_one {s to : Spc} {k : Nat} {c : Ctr} (hk : k < s.main.length) (ha : alikeC s.main[k] c = true) (hb : alikeC c s.main[k] = true) (hs : sameV s.main[k].image c.image = true) : frozenE s (updC s to k c) = none ∧ frozenE (updC s to k c) s = none := by
  have hl : (updC s to k c).main.length = s.main.length := by simp [updC]
  have hs' := hs
  rw [sameV_comm] at hs'
  constructor
  · unfold frozenE
    rw [if_neg (by simp [updC]), if_neg (by show ¬ sameL exactC s.init s.init = false; rw [sameL_refl exactC_refl]; simp), if_neg (by rw [hl]; simp)]
    refine eachE_all fun j hj => ?_
    have hj' : j < (updC s to k c).main.length := by omega
    rw [frozenAt_at hj hj']
    by_cases hjk : j = k
    · subst hjk
      have e : (updC s to j c).main[j]'hj' = c := by simp [updC]
      rw [e, if_neg (by rw [ha]; simp), if_neg (by rw [hs]; simp)]
    · have e : (updC s to k c).main[j]'hj' = s.main[j] := by simp only [updC]; rw [List.getElem_set_ne (Ne.symm hjk)]
      rw [e, if_neg (by rw [alikeC_refl]; simp), if_neg (by simp)]
  · unfold frozenE
    rw [if_neg (by simp [updC]), if_neg (by show ¬ sameL exactC s.init s.init = false; rw [sameL_refl exactC_refl]; simp), if_neg (by rw [hl]; simp)]
    refine eachE_all fun j hj' => ?_
    have hj : j < s.main.length := by omega
    rw [frozenAt_at hj' hj]
    by_cases hjk : j = k
    · subst hjk
      have e : (updC s to j c).main[j]'hj' = c := by simp [updC]
      rw [e, if_neg (by rw [hb]; simp), if_neg (by rw [hs']; simp)]
    · have e : (updC s to k c).main[j]'hj' = s.main[j] := by simp only [updC]; rw [List.getElem_set_ne (Ne.symm hjk)]
      rw [e, if_neg (by rw [alikeC_refl]; simp), if_neg (by simp)]
theorem froz_two {s to : Spc} {k : Nat} {c : Ctr} (hk : k < s.main.length) (ha : alikeC s.main[k] c = false) : frozenE s (updC s to k c) = some (4, [atT mainN (k : Int)]) := by
  have hl : (updC s to k c).main.length = s.main.length := by simp [updC]
  unfold frozenE
  rw [if_neg (by simp [updC]), if_neg (by show ¬ sameL exactC s.init s.init = false; rw [sameL_refl exactC_refl]; simp), if_neg (by rw [hl]; simp)]
  refine eachE_at hk ?_ fun j hj => ?_
  · have e : (updC s to k c).main[k]'(by omega) = c := by simp [updC]
    rw [frozenAt_at hk (by omega), e, if_pos ha]
  · rw [frozenAt_at (by omega) (by omega)]
    have e : (updC s to k c).main[j]'(by omega) = s.main[j]'(by omega) := by simp only [updC]; rw [List.getElem_set_ne (by omega)]
    rw [e, if_neg (by rw [alikeC_refl]; simp), if_neg (by simp)]
theorem cpu_alike (c : Ctr) (t : List UInt8) : alikeC c { c with image := t, req := (c.req.1 + 1, c.req.2) } = false := by
  have : ¬ c.req = (c.req.1 + 1, c.req.2) := fun h => by have := congrArg Prod.fst h; simp only at this; omega
  simp [alikeC, this]
theorem upd_differs {s to : Spc} {k : Nat} {c : Ctr} (hk : k < s.main.length) (h : s.main[k] ≠ c) : sameS s (updC s to k c) = false := by
  cases hs : sameS s (updC s to k c) with
  | false => rfl
  | true =>
    have e := sameS_iff.1 hs
    refine absurd ?_ h
    have e2 : s.main = s.main.set k c := congrArg Spc.main e
    have : s.main[k] = (s.main.set k c)[k]'(by simpa using hk) := by congr 1
    rw [this, List.getElem_set_self]
/-! what a spec that may be has -/
theorem main_image {s : Spc} (h : checkE s = none) : ∀ c ∈ s.main, (tparts c.image).2.2 = true := fun c hc => by
  obtain ⟨h1, h2, h3⟩ := check_all h
  obtain ⟨i, hi, rfl⟩ := List.mem_iff_getElem.1 hc
  have := ctrsE_each (firstE_none h3 _ List.mem_cons_self) hi
  exact new_none (by decide) (firstE_none this (erNew (saysV (tparts s.main[i].image).2.2 33) [[105, 109, 97, 103, 101]]) (by simp))
theorem main_some {s : Spc} (h : checkE s = none) : 1 ≤ s.main.length ∧ s.main.length ≤ 4 := by
  obtain ⟨h1, h2, h3⟩ := check_all h
  have n5 := atMost_none (firstE_none h2 (atMostE mainN (s.main.length : Int) 1 4) (by simp))
  omega
theorem main_cpu {s : Spc} (h : checkE s = none) : ∀ c ∈ s.main, 0 ≤ c.req.1 ∧ c.req.1 ≤ 1099511627776 := fun c hc => by
  have h4 := ((check_ok h).2.2.2.1.2 c hc).2.2.1.1
  unfold MR at h4
  exact h4
theorem upd_short {s to : Spc} {k : Nat} {c : Ctr} (hs : lightS s = true) (ht : lightS to = true) (hk : k < s.main.length) (hp : c.ports = s.main[k].ports) : shortS (updC s to k c) := by
  obtain ⟨a1, a2, a3, a4, a5⟩ := light_short hs
  obtain ⟨b1, b2, b3, b4, b5⟩ := light_short ht
  refine ⟨b1, a2, by show (s.main.set k c).length ≤ _; rw [List.length_set]; exact a3, a4, fun x hx => ?_⟩
  rcases List.mem_or_eq_of_mem_set (show x ∈ s.main.set k c from hx) with h | rfl
  · exact a5 x h
  · rw [hp]; exact a5 _ (List.getElem_mem hk)
theorem light_images {s : Spc} (h : lightS s = true) : ∀ c ∈ s.main, c.image.length ≤ 100 := by
  obtain ⟨⟨h1, h2, h3, h4⟩, h5, h6, h7⟩ := light_out h
  exact fun c hc => by have := (of_decide_eq_true (h7 c hc)).2.1; omega
theorem upd_pre {s to : Spc} {k : Nat} {c : Ctr} (hs : lightS s = true) (hk : k < s.main.length) (hp : c.ports = s.main[k].ports) (hi : c.image.length ≤ 1000000) : ∀ x : Spc, x = s ∨ x = updC s to k c → (∀ y ∈ x.init, y.ports.length ≤ 1000000) ∧ ∀ y ∈ x.main, y.ports.length ≤ 1000000 ∧ y.image.length ≤ 1000000 := fun x hx => by
  obtain ⟨a1, a2, a3, a4, a5⟩ := light_short hs
  have him := light_images hs
  rcases hx with rfl | rfl
  · exact ⟨a4, fun y hy => ⟨a5 y hy, by have := him y hy; omega⟩⟩
  · refine ⟨a4, fun y hy => ?_⟩
    rcases List.mem_or_eq_of_mem_set (show y ∈ s.main.set k c from hy) with h | rfl
    · exact ⟨a5 y h, by have := him y h; omega⟩
    · rw [hp]; exact ⟨a5 _ (List.getElem_mem hk), hi⟩
theorem upd_len {s to : Spc} {k : Nat} {c : Ctr} : (updC s to k c).main.length = s.main.length := by simp [updC]
/-! memory -/
def updO (ms : List CO) (k : Nat) (h : k < ms.length) (c : Ctr) : List CO := ms.set k ⟨c, ms[k].p⟩
theorem coSt_set : ∀ {ms : List CO} {k : Nat} (h : k < ms.length) (c : Ctr), c.ports = ms[k].c.ports → coSt (updO ms k h c) = coSt ms
  | x :: ms, 0, h, c, hp => by
    simp only [List.getElem_cons_zero] at hp
    simp only [updO, List.getElem_cons_zero, List.set_cons_zero, coSt, hp]
  | x :: ms, k + 1, h, c, hp => by
    simp only [List.getElem_cons_succ] at hp
    have := coSt_set (ms := ms) (k := k) (by simpa using h) c hp
    simp only [updO] at this
    simp only [updO, List.getElem_cons_succ, List.set_cons_succ, coSt, this]
theorem updO_len {ms : List CO} {k : Nat} {h : k < ms.length} {c : Ctr} : (updO ms k h c).length = ms.length := by simp [updO]
theorem updO_at {ms : List CO} {k : Nat} {h : k < ms.length} {c : Ctr} : ((updO ms k h c)[k]'(by rw [updO_len]; exact h)) = ⟨c, ms[k].p⟩ := by simp [updO]
theorem updO_map {ms : List CO} {k : Nat} {h : k < ms.length} {c : Ctr} : (updO ms k h c).map CO.c = (ms.map CO.c).set k c := by simp [updO, List.map_set]
theorem updO_ok {ms : List CO} {k : Nat} {h : k < ms.length} {c : Ctr} (hm : coOk ms) (hp : c.ports = ms[k].c.ports) : coOk (updO ms k h c) := fun x hx => by
  rcases List.mem_or_eq_of_mem_set hx with h1 | h1
  · exact hm x h1
  · subst h1; show Vec.ok _ (intsV c.ports); rw [hp]; exact hm _ (List.getElem_mem h)
theorem upd_cells {ms : List CO} {k j cap : Nat} {c : Ctr} {a : AV} (h : k < ms.length) (hj : j < 11) (hc : (coL ms[k]).set j a = coL ⟨c, ms[k].p⟩) : (vecCells 11 cap (cosV ms)).set (0 + (k : Int).toNat * 11 + j) a = vecCells 11 cap (cosV (updO ms k h c)) := by
  have hg : (cosV ms)[k]? = some (.agg (coL ms[k])) := by
    unfold cosV; rw [List.getElem?_map, List.getElem?_eq_getElem h]; rfl
  rw [Int.toNat_natCast, Nat.zero_add, vecCells_set (cosV_size _) hg hj, hc]
  unfold updO cosV
  rw [List.map_set]
  rfl
def nowL (nm : List UInt8) (to : Spc) (iq mq : Vec) (ni nm' : Nat) : List AV := [.S nm, .sl (labsV to.labels), .lit (vecV iq ni), .lit (vecV mq nm'), .int .i64 to.restart, .int .i64 to.grace, .int .i64 to.prio]
theorem now_lends {st st' : St} {s to : Spc} {iq mq : Vec} {is ms : List CO} {n : Nat} (hn : n = (cosV ms).length) (his : is.map CO.c = s.init) (hi : iq.ok (cosV is)) (hio : coOk is) (hm : mq.ok (cosV ms)) (hmo : coOk ms) (hle : MutLe st st')
    (h1 : ∀ p, p ∈ ctrsSt iq is → p ∈ st) (h2 : ∀ p, p ∈ ctrsSt mq ms → p ∈ st) (n1 : ∀ b ob, (b, ob) ∈ ctrsSt iq is → ∀ o, (b, o) ∉ st') (n2 : ∀ b ob, (b, ob) ∈ ctrsSt mq ms → ∀ o, (b, o) ∉ st') {k : Nat} {c : Ctr} (hms : ms.map CO.c = s.main.set k c) :
    LendsG st st' (nowL s.name to iq mq (cosV is).length n) (spcL (updC s to k c)) := by
  subst hn
  have e : spcL (updC s to k c) = [.S s.name, .sl (labsV to.labels), .sl (ctrsV (is.map CO.c)), .sl (ctrsV (ms.map CO.c)), .int .i64 to.restart, .int .i64 to.grace, .int .i64 to.prio] := by rw [his, hms]; rfl
  rw [e]
  exact .cons (Conv.lits _) (.cons (Conv.mut hle (Le.refl _)) (.cons (ctrs_conv hi hio h1 n1) (.cons (ctrs_conv hm hmo h2 n2) (.cons (Conv.lits _) (.cons (Conv.lits _) (.cons (Conv.lits _) .nil))))))
theorem StConv.dropL {st st' a b : St} : ∀ (D : St), StConv st st' a b → StConv st st' (D ++ a) b
  | [], h => h
  | _ :: D, h => .drop (StConv.dropL D h)
theorem MutLe.cons2 {st rest : St} {b : Nat} {cs ds : List AV} (hb : (b, Ob.cells cs) ∈ st) (h : ∀ p ∈ rest, p ∈ st) : MutLe st ((b, .cells ds) :: rest) := fun k off ⟨o, ho, hop⟩ => by
  rcases List.mem_cons.1 ho with h1 | h1
  · cases h1; exact ⟨_, hb, trivial⟩
  · exact ⟨o, h _ h1, hop⟩
theorem not_kept {b7 : Nat} {X Y : Ob} {D R : St} (hn : ((((b7, X) :: (D ++ R)) : St).map (·.1)).Nodup) : ∀ b ob, (b, ob) ∈ D → ∀ o, (b, o) ∉ ((b7, Y) :: R : St) := fun b ob hb o ho => by
  rw [List.map_cons, List.nodup_cons, List.map_append, List.nodup_append] at hn
  rcases List.mem_cons.1 ho with h1 | h1
  · cases h1
    exact hn.1 (List.mem_append_left _ (List.mem_map_of_mem (f := (·.1)) hb))
  · exact hn.2.2.2 b (List.mem_map_of_mem (f := (·.1)) hb) b (List.mem_map_of_mem (f := (·.1)) h1) rfl
theorem cells_table {st : St} {gs : List (Nat × List Value)} (hn : (st.map (·.1)).Nodup) (hG : ∀ p, p ∈ Gs gs → p ∈ st) {q : Vec} {l : List CO} (hm : ∀ p, p ∈ ctrsSt q l → p ∈ st) : ∀ b ob, (b, ob) ∈ ctrsSt q l → ∀ o, (b, o) ∉ Gs gs := fun b ob hb => by
  obtain ⟨cs, rfl⟩ := (ctrsSt_stay q l).cellsOf hb
  exact not_table hn hG (hm _ hb)
end Go.AL
namespace Go.AL
open Go.RowKit Go.NumSpec
theorem LendsG.nd {st g : St} {as bs : List AV} (hl : as.length = bs.length) (h : (st.map (·.1)).Nodup → LendsG st g as bs) : LendsG st g as bs := LendsG.ofAt hl fun i a b ha hb => Conv.nd fun hn => by
  obtain ⟨x, hx, hc⟩ := (h hn).at_ i b hb
  rw [ha] at hx; cases hx; exact hc
/-- A spec of one's own is written no more. -/
theorem now_freeze {s to : Spc} {iq lq : Vec} {is ms : List CO} {lb : List Lab} {b7 b9 cap n k : Nat} {c : Ctr} {C R : St} (hC : coSt ms = C) (hn : n = (cosV ms).length) (his : is.map CO.c = s.init) (hi : iq.ok (cosV is)) (hio : coOk is) (hm : (Vec.at b9 cap).ok (cosV ms)) (hmo : coOk ms) (hms : ms.map CO.c = s.main.set k c) :
    StConv ((b7, .cells (nowL s.name to iq (.at b9 cap) (cosV is).length n)) :: (b9, .cells (vecCells 11 cap (cosV ms))) :: (C ++ (vecSt iq 11 (cosV is) ++ (coSt is ++ (vecSt lq 2 (labsV lb) ++ R))))) ((b7, .cells (spcL (updC s to k c))) :: R)
      ((b7, .cells (nowL s.name to iq (.at b9 cap) (cosV is).length n)) :: (b9, .cells (vecCells 11 cap (cosV ms))) :: (C ++ (vecSt iq 11 (cosV is) ++ (coSt is ++ (vecSt lq 2 (labsV lb) ++ R))))) ((b7, .cells (spcL (updC s to k c))) :: R) := by
  subst hC
  have eD : (b9, Ob.cells (vecCells 11 cap (cosV ms))) :: (coSt ms ++ (vecSt iq 11 (cosV is) ++ (coSt is ++ (vecSt lq 2 (labsV lb) ++ R)))) = ((b9, Ob.cells (vecCells 11 cap (cosV ms))) :: (coSt ms ++ (vecSt iq 11 (cosV is) ++ (coSt is ++ vecSt lq 2 (labsV lb))))) ++ R := by simp
  rw [eD]
  generalize hD : (b9, Ob.cells (vecCells 11 cap (cosV ms))) :: (coSt ms ++ (vecSt iq 11 (cosV is) ++ (coSt is ++ vecSt lq 2 (labsV lb)))) = D
  have hle : MutLe ((b7, .cells (nowL s.name to iq (.at b9 cap) (cosV is).length n)) :: (D ++ R)) ((b7, .cells (spcL (updC s to k c))) :: R) := MutLe.cons2 List.mem_cons_self fun p hp => List.mem_cons_of_mem _ (List.mem_append_right _ hp)
  have m1 : ∀ p, p ∈ ctrsSt iq is → p ∈ D := fun p hp => by
    rw [← hD]
    rcases List.mem_append.1 hp with h | h
    · exact List.mem_cons_of_mem _ (List.mem_append_right _ (List.mem_append_left _ h))
    · exact List.mem_cons_of_mem _ (List.mem_append_right _ (List.mem_append_right _ (List.mem_append_left _ h)))
  have m2 : ∀ p, p ∈ ctrsSt (.at b9 cap) ms → p ∈ D := fun p hp => by
    rw [← hD]
    rcases List.mem_append.1 hp with h | h
    · rw [List.mem_singleton.1 h]; exact List.mem_cons_self
    · exact List.mem_cons_of_mem _ (List.mem_append_left _ h)
  have w : ∀ p, p ∈ D → p ∈ ((b7, Ob.cells (nowL s.name to iq (.at b9 cap) (cosV is).length n)) :: (D ++ R) : St) := fun p hp => List.mem_cons_of_mem _ (List.mem_append_left _ hp)
  exact .cellsL (LendsG.nd rfl fun hnd => now_lends hn his hi hio hm hmo hle (fun p hp => w p (m1 p hp)) (fun p hp => w p (m2 p hp)) (fun b ob hb => not_kept hnd b ob (m1 _ hb)) (fun b ob hb => not_kept hnd b ob (m2 _ hb)) hms) (StConv.dropL D (.rest _ fun x => Conv.mut hle (Le.refl x)))
end Go.AL

namespace Go.AL
open Go.RowKit
section
variable {P : Program} {N : Nat} {st : St} {w : World}
def World.turned (w : World) (b : Nat) (s : ByteArray) (p : Nat) : World := { w with heap := w.heap.setIfInBounds b (.stringIter s p) }
theorem turned_at {b : Nat} {s : ByteArray} {p p' : Nat} (h : w.heap[b]? = some (.stringIter s p)) : (World.turned w b s p').heap[b]? = some (.stringIter s p') := by
  have hb : b < w.heap.size := (Array.getElem?_eq_some_iff.1 h).1
  simp [World.turned, hb]
theorem turned_ne {b b' : Nat} {s : ByteArray} {p' : Nat} (h : b' ≠ b) : (World.turned w b s p').heap[b']? = w.heap[b']? := by
  simp [World.turned, Array.getElem?_setIfInBounds, h.symm]
theorem turned_cell {b : Nat} {s : ByteArray} {p p' : Nat} (h : w.heap[b]? = some (.stringIter s p)) (a : Addr) : (World.turned w b s p').cell? a = w.cell? a := by
  unfold World.cell?
  by_cases hb : a.block = b
  · rw [hb, turned_at h, h]
  · rw [turned_ne hb]
theorem turned_shape {b : Nat} {s : ByteArray} {p p' : Nat} (h : w.heap[b]? = some (.stringIter s p)) (k : Nat) : (World.turned w b s p').shape? k = w.shape? k := by
  unfold World.shape?
  by_cases hb : k = b
  · rw [hb, turned_at h, h]
  · rw [turned_ne hb]
theorem turned_size {b : Nat} {s : ByteArray} {p' : Nat} : (World.turned w b s p').heap.size = w.heap.size := by simp [World.turned]
theorem R.turned {b : Nat} {s : ByteArray} {p p' : Nat} (h : w.heap[b]? = some (.stringIter s p)) {a : AV} {v : Value} (hr : R st w a v) : R st (World.turned w b s p') a v := by
  have hf : ∀ {k off u}, Fz st w k off u → Fz st (World.turned w b s p') k off u := fun ⟨h1, h2⟩ => ⟨by rw [turned_cell h]; exact h1, h2⟩
  induction hr with
  | any v => exact .any v
  | lit v => exact .lit v
  | agg cs vs hl _ ih => exact .agg cs vs hl ih
  | tup cs vs hl _ ih => exact .tup cs vs hl ih
  | ifc T x v _ ih => exact .ifc T x v ih
  | cond c a v _ h' ih => exact .cond c a v ih h'
  | sl0 a cap => exact .sl0 a cap
  | sl xs b off cap size f h1 h2 h3 _ ih => exact .sl xs b off cap size f h1 h2 (fun i x j c hx hc => hf (h3 i x j c hx hc)) ih
  | row xs b off cap size f h1 h2 h3 _ ih => exact .row xs b off cap size f h1 h2 (fun i x j c hx hc => hf (h3 i x j c hx hc)) ih
  | ip cs b off f h3 _ ih => exact .ip cs b off f (fun j c hc => hf (h3 j c hc)) ih
  | nilB b T n hb h1 => exact .nilB b T n (by rw [turned_size]; exact hb) (by rw [turned_shape h]; exact h1)
theorem Rel.turned {b : Nat} {s : ByteArray} {p p' : Nat} (h : w.heap[b]? = some (.stringIter s p)) (hn : ∀ o, (b, o) ∉ st) (hr : Rel st w) : Rel st (World.turned w b s p') := by
  have hne : ∀ k o, (k, o) ∈ st → k ≠ b := fun k o ho hk => hn o (hk ▸ ho)
  exact ⟨hr.nodup, fun k cs hk => let ⟨vs, T, k1, k2, k3⟩ := hr.cells k cs hk; ⟨vs, T, by rw [turned_ne (hne _ _ hk)]; exact k1, k2, fun i c v hc hv => (k3 i c v hc hv).turned h⟩,
    fun k e size n cap hk => let ⟨vs, k1, k2⟩ := hr.grow k e size n cap hk; ⟨vs, by rw [turned_ne (hne _ _ hk)]; exact k1, k2⟩,
    fun k vs hk => ⟨by rw [turned_size]; exact (hr.konst k vs hk).1, fun j v hv => by rw [turned_cell h]; exact (hr.konst k vs hk).2 j v hv⟩⟩
theorem Ext.turned {w' : World} {b : Nat} {s : ByteArray} {p p' : Nat} {st' : St} (h : w'.heap[b]? = some (.stringIter s p)) (hb : w.heap.size ≤ b) (hx : Ext st w st' w') : Ext st w st' (World.turned w' b s p') :=
  ⟨hx.os, hx.tape, hx.output, fun k hk => by rw [turned_shape h]; exact hx.shape k hk, by rw [turned_size]; exact hx.size, fun k hk hn => by rw [turned_ne (by omega)]; exact hx.keep k hk hn,
    fun k e size n cap hk hg off ho => by rw [turned_cell h]; exact hx.keepGrow k e size n cap hk hg off ho, hx.opens, fun k vs hk hg => by rw [turned_ne (by omega)]; exact hx.konst k vs hk hg⟩
theorem Good.turned {env : Env} {a : Act} {b : Nat} {s : ByteArray} {p p' : Nat} (h : w.heap[b]? = some (.stringIter s p)) (hn : ∀ o, (b, o) ∉ st) (hg : Good N env st a w) : Good N env st a (World.turned w b s p') :=
  ⟨hg.size, hg.defers, fun i x hi => let ⟨v, h1, h2⟩ := hg.env i x hi; ⟨v, h1, h2.turned h⟩, hg.rel.turned h hn⟩
theorem run_next_in (w : World) (s : ByteArray) (pos b : Nat) (ty : TypeId) (hb : w.heap[b]? = some (.stringIter s pos)) (h : pos < s.size) (ha : (s[pos]'h).toNat < 128) :
    (Instr.next (.pointer (some ⟨b, 0, none⟩)) true ty).run P w = .ok (.tuple #[.bool true, .int .i64 pos, .int .i32 (s[pos]'h).toNat]) (World.turned w b s (pos + 1)) := by
  simp only [Instr.next, getObj, setObj, Sem.run_bind, Sem.run, hb, Result.andThen, h, if_true, decode_ascii s pos h ha, World.turned]
  simp [goInt, Sem.run, hb]
theorem run_next_out (w : World) (s : ByteArray) (pos b : Nat) (ty : TypeId) (hb : w.heap[b]? = some (.stringIter s pos)) (h : ¬ pos < s.size) :
    (Instr.next (.pointer (some ⟨b, 0, none⟩)) true ty).run P w = .ok (.tuple #[.bool false]) w := by
  simp [Instr.next, getObj, Sem.run, hb, h]
theorem iter_ext (w : World) (s : ByteArray) (p : Nat) : Ext st w st (w.iter s p) :=
  ⟨rfl, rfl, rfl, fun b hb => by simp only [World.shape?, World.iter, Below.heap_alloc w _ b hb], by simp [World.iter], fun b hb _ => Below.heap_alloc w _ b hb, fun b e size n cap hb _ off _ => World.cell?_of_block (w := w) (Below.heap_alloc w _ b hb), fun _ _ _ h => h, fun b vs hb _ => Below.heap_alloc w _ b hb⟩
theorem iter_rel {w : World} (s : ByteArray) (p : Nat) (hr : Rel st w) : Rel st (w.iter s p) := by
  have hk : ∀ b o, (b, o) ∈ st → (w.iter s p).heap[b]? = w.heap[b]? := fun b o ho => Below.heap_alloc w _ b (key_lt hr ho)
  have hx : Ext st w st (w.iter s p) := iter_ext w s p
  exact ⟨hr.nodup, fun k cs hk' => let ⟨vs, T, k1, k2, k3⟩ := hr.cells k cs hk'; ⟨vs, T, by rw [hk _ _ hk']; exact k1, k2, fun i c v hc hv => (k3 i c v hc hv).mono hx hr.nodup⟩,
    fun k e size n cap hk' => let ⟨vs, k1, k2⟩ := hr.grow k e size n cap hk'; ⟨vs, by rw [hk _ _ hk']; exact k1, k2⟩, fun k vs hk' => hx.konst_rel hr hk'⟩
/-- A range over a text of plain letters. -/
theorem AC_rangeS {G : Type} {id id2 B : Nat} {o1 o2 o3 o4 : Oper} {t52 t53 tn tk ty : Nat} {x : Operand} {body : Code} {env : Env} {Q : Post} (s : List UInt8)
    (I : G → Prop) (envI : G → Env) (pos : G → Nat) (g0 : G)
    (h1 : o1.op = .move x ∧ o1.dst = some t52 ∧ o1.guard = none) (h2 : o2.op = .range ty (.tmp t52) ∧ o2.dst = some t53 ∧ o2.guard = none) (h3 : o3.op = .next (.tmp t53) true ∧ o3.dst = some tn ∧ o3.guard = none) (h4 : o4.op = .extract (.tmp tn) 0 ∧ o4.dst = some tk ∧ o4.guard = none)
    (hd : t52 < N ∧ t53 < N ∧ tn < N ∧ tk < N) (hty : P.underlying ty = some .string)
    (hx : AEv env x (.S s)) (ha : ∀ c ∈ s, c.toNat < 128) (hI : I g0) (hp0 : pos g0 = 0)
    (henv : ∀ b, EnvLe ((t53, .ptr b 0) :: (t52, .S s) :: env) ((t53, .ptr b 0) :: envI g0))
    (round : ∀ g b (h : pos g < s.length), I g → AC P N (.seq (.cond (.tmp tk) .skip (.exit B)) body) (thenP (fun env' st' => ∃ g', I g' ∧ pos g' = pos g + 1 ∧ st' = st ∧ EnvLe env' ((t53, .ptr b 0) :: envI g')) (inB B Q)) ((tk, .bool true) :: (tn, .tup [.bool true, .int .i64 (pos g : Int), .int .i32 ((s[pos g]'h).toNat : Int)]) :: (t53, .ptr b 0) :: envI g) st)
    (last : ∀ g b, I g → pos g = s.length → AC P N (.seq (.cond (.tmp tk) .skip (.exit B)) body) (thenP (fun env' st' => False) (inB B Q)) ((tk, .bool false) :: (tn, .tup [.bool false]) :: (t53, .ptr b 0) :: envI g) st) :
    AC P N (.seq (.region id [o1, o2].toArray false) (.block B (.loop (.seq (.region id2 [o3, o4].toArray false) (.seq (.cond (.tmp tk) .skip (.exit B)) body))))) Q env st := by
  intro a w hg
  have hn := hg.rel.nodup
  have reg : (Code.region id [o1, o2].toArray false).wp P (fun e a1 w1 => e = .normal ∧ ∃ b, (∀ o, (b, o) ∉ st) ∧ w.heap.size ≤ b ∧ Good N ((t53, .ptr b 0) :: (t52, .S s) :: env) st a1 w1 ∧ w1.heap[b]? = some (.stringIter ⟨s.toArray⟩ 0) ∧ Ext st w st w1) a w := by
    refine wp_region_lit ?_
    unfold wpList
    rw [if_pos (by simp [Region.wanted, h1.2.2])]
    refine .inl (S_move h1.1 hx a w hg _ _ ?_)
    rintro _ _ v1 w1 ⟨rfl, rfl⟩ hr1 hrel1 hx1
    have g1 := hg.put (d := o1.dst) (fun t ht => by rw [h1.2.1] at ht; cases ht; exact hd.1) hr1 hrel1 hx1
    rw [h1.2.1] at g1 ⊢
    have e1 := ((AEv.tmp (env := putE (some t52) (.S s) env) (t := t52) (y := .S s) (by simp [putE])) _ _ _ _ g1).lit_inv
    unfold wpList
    rw [if_pos (by simp [Region.wanted, h2.2.2])]
    refine .inl ?_
    have hrun : (execOp (a.put (some t52) v1).eval o2).run P w1 = .ok (.value (.pointer (some ⟨w1.heap.size, 0, none⟩))) (w1.iter ⟨s.toArray⟩ 0) := by
      simp only [execOp, h2.1, e1, Sem.run_bind, run_range_string w1 ty ⟨s.toArray⟩ hty, Result.andThen_ok, Sem.run_pure]
    unfold Oper.wp
    rw [hrun]
    have g2 := g1.put (d := o2.dst) (x := .ptr w1.heap.size 0) (fun t ht => by rw [h2.2.1] at ht; cases ht; exact hd.2.1) (.lit _) (iter_rel ⟨s.toArray⟩ 0 g1.rel) (iter_ext w1 ⟨s.toArray⟩ 0)
    simp only [Oper.upon]
    rw [h2.2.1] at g2 ⊢
    unfold wpList
    refine ⟨rfl, w1.heap.size, fun o ho => Nat.lt_irrefl _ (key_lt g1.rel ho), hx1.size, g2, World.iter_heap _ _ _, hx1.trans (iter_ext w1 _ 0) hn⟩
  refine wp_seq (wp_mono reg ?_)
  rintro e a1 w1 ⟨rfl, b, hnew, hbw, g1, hit, hx1⟩
  let QL : Post := inB B Q
  have loop : (Code.loop (.seq (.region id2 [o3, o4].toArray false) (.seq (.cond (.tmp tk) .skip (.exit B)) body))).wp P (Sat N QL st w) a1 w1 := by
    refine wp_loop_ghost (fun n a' w' => ∃ g, I g ∧ s.length - pos g = n ∧ pos g ≤ s.length ∧ Good N ((t53, .ptr b 0) :: envI g) st a' w' ∧ Ext st w st w' ∧ w'.heap[b]? = some (.stringIter ⟨s.toArray⟩ (pos g))) (s.length - pos g0) ⟨g0, hI, rfl, by omega, g1.weak (henv b), hx1, by rw [hp0]; exact hit⟩ ?_
    rintro n a2 w2 ⟨g, hig, rfl, hle, g2, hx2, hit2⟩
    have ep := ((AEv.tmp (env := (t53, .ptr b 0) :: envI g) (t := t53) (y := .ptr b 0) (by simp)) _ _ _ _ g2).lit_inv
    have hbs : b < w2.heap.size := (Array.getElem?_eq_some_iff.1 hit2).1
    have fin : ∀ (env3 : Env) (q3 : Post) a3 w3, Good N env3 st a3 w3 → Ext st w st w3 → b < w3.heap.size → AC P N (.seq (.cond (.tmp tk) .skip (.exit B)) body) (thenP (fun env' st' => q3 .normal env' st') QL) env3 st →
        (∀ env' st' a4 w4, q3 .normal env' st' → Good N env' st' a4 w4 → Ext st w st' w4 → w4.heap[b]? = w3.heap[b]? → ∃ n', n' < s.length - pos g ∧ ∃ g', I g' ∧ s.length - pos g' = n' ∧ pos g' ≤ s.length ∧ Good N ((t53, .ptr b 0) :: envI g') st a4 w4 ∧ Ext st w st w4 ∧ w4.heap[b]? = some (.stringIter ⟨s.toArray⟩ (pos g'))) →
        (Code.seq (.cond (.tmp tk) .skip (.exit B)) body).wp P (Exit.then (fun a' w' => ∃ n', n' < s.length - pos g ∧ ∃ g', I g' ∧ s.length - pos g' = n' ∧ pos g' ≤ s.length ∧ Good N ((t53, .ptr b 0) :: envI g') st a' w' ∧ Ext st w st w' ∧ w'.heap[b]? = some (.stringIter ⟨s.toArray⟩ (pos g'))) (Sat N QL st w)) a3 w3 := fun env3 q3 a3 w3 g3 hx3 hb3 hac hnext => by
      refine wp_mono (hac a3 w3 g3) ?_
      rintro e a4 w4 ⟨env4, st4, q, g4, x4⟩
      cases e with
      | normal => exact hnext env4 st4 a4 w4 q g4 (hx3.trans x4 hn) (x4.keep b hb3 hnew)
      | _ => exact ⟨env4, st4, q, g4, hx3.trans x4 hn⟩
    by_cases hp : pos g < s.length
    · have reg2 : (Code.region id2 [o3, o4].toArray false).wp P (fun e a3 w3 => e = .normal ∧ Good N ((tk, .bool true) :: (tn, .tup [.bool true, .int .i64 (pos g : Int), .int .i32 ((s[pos g]'hp).toNat : Int)]) :: (t53, .ptr b 0) :: envI g) st a3 w3 ∧ w3.heap[b]? = some (.stringIter ⟨s.toArray⟩ (pos g + 1)) ∧ Ext st w st w3) a2 w2 := by
        refine wp_region_lit ?_
        unfold wpList
        rw [if_pos (by simp [Region.wanted, h3.2.2])]
        refine .inl ?_
        have hps : pos g < (⟨s.toArray⟩ : ByteArray).size := by simpa [ByteArray.size] using hp
        have hsp : ((⟨s.toArray⟩ : ByteArray)[pos g]'hps) = s[pos g]'hp := by
          show s.toArray[pos g]'_ = _
          simp
        have hrun : (execOp a2.eval o3).run P w2 = .ok (.value (.tuple #[.bool true, .int .i64 (pos g), .int .i32 (s[pos g]'hp).toNat])) (World.turned w2 b ⟨s.toArray⟩ (pos g + 1)) := by
          have := run_next_in (P := P) w2 ⟨s.toArray⟩ (pos g) b o3.type hit2 hps (by rw [hsp]; exact ha _ (List.getElem_mem hp))
          rw [hsp] at this
          simp only [execOp, h3.1, ep, Sem.run_bind, this, Result.andThen_ok, Sem.run_pure]
        unfold Oper.wp
        rw [hrun]
        have hrelT := g2.rel.turned (p' := pos g + 1) hit2 hnew
        have gT := g2.turned (p' := pos g + 1) hit2 hnew
        have hxT := hx2.turned (p' := pos g + 1) hit2 hbw
        have g3 := gT.put (d := o3.dst) (x := .tup [.bool true, .int .i64 (pos g : Int), .int .i32 ((s[pos g]'hp).toNat : Int)]) (v := .tuple #[.bool true, .int .i64 (pos g), .int .i32 (s[pos g]'hp).toNat]) (fun t ht => by rw [h3.2.1] at ht; cases ht; exact hd.2.2.1)
          (.tup _ _ rfl fun i c v hc hv => by
            match i, hc, hv with
            | 0, hc, hv => simp at hc hv; subst hc; subst hv; exact .lit _
            | 1, hc, hv => simp at hc hv; subst hc; subst hv; exact .lit _
            | 2, hc, hv => simp at hc hv; subst hc; subst hv; exact .lit _
            | i + 3, hc, hv => simp at hc) gT.rel (.refl _ _)
        simp only [Oper.upon]
        rw [h3.2.1] at g3 ⊢
        unfold wpList
        rw [if_pos (by simp [Region.wanted, h4.2.2])]
        refine .inl (S_extract 0 h4.1 (AEv.tmp (y := .tup [.bool true, .int .i64 (pos g : Int), .int .i32 ((s[pos g]'hp).toNat : Int)]) (by simp [putE])) rfl _ _ g3 _ _ ?_)
        rintro _ _ v4 w4 ⟨rfl, rfl⟩ hr4 hrel4 hx4
        have g4 := g3.put (d := o4.dst) (fun t ht => by rw [h4.2.1] at ht; cases ht; exact hd.2.2.2) hr4 hrel4 hx4
        rw [h4.2.1] at g4 ⊢
        unfold wpList
        exact ⟨rfl, g4, (hx4.keep b (by rw [turned_size]; exact hbs) hnew).trans (turned_at hit2), hxT.trans hx4 hn⟩
      refine wp_seq (wp_mono reg2 ?_)
      rintro e a3 w3 ⟨rfl, g3, hit3, hx3⟩
      refine fin _ (fun _ env' st' => ∃ g', I g' ∧ pos g' = pos g + 1 ∧ st' = st ∧ EnvLe env' ((t53, .ptr b 0) :: envI g')) a3 w3 g3 hx3 (Array.getElem?_eq_some_iff.1 hit3).1 (round g b hp hig) ?_
      rintro env4 st4 a4 w4 ⟨g', hI', hp', rfl, hle'⟩ g4 hx4 hk
      exact ⟨s.length - pos g', by omega, g', hI', rfl, by omega, g4.weak hle', hx4, by rw [hk, hit3, hp']⟩
    · have hpe : pos g = s.length := by omega
      have reg2 : (Code.region id2 [o3, o4].toArray false).wp P (fun e a3 w3 => e = .normal ∧ Good N ((tk, .bool false) :: (tn, .tup [.bool false]) :: (t53, .ptr b 0) :: envI g) st a3 w3 ∧ b < w3.heap.size ∧ Ext st w st w3) a2 w2 := by
        refine wp_region_lit ?_
        unfold wpList
        rw [if_pos (by simp [Region.wanted, h3.2.2])]
        refine .inl ?_
        have hps : ¬ pos g < (⟨s.toArray⟩ : ByteArray).size := by simpa [ByteArray.size] using hp
        have hrun : (execOp a2.eval o3).run P w2 = .ok (.value (.tuple #[.bool false])) w2 := by
          have := run_next_out (P := P) w2 ⟨s.toArray⟩ (pos g) b o3.type hit2 hps
          simp only [execOp, h3.1, ep, Sem.run_bind, this, Result.andThen_ok, Sem.run_pure]
        unfold Oper.wp
        rw [hrun]
        have g3 := g2.put (d := o3.dst) (x := .tup [.bool false]) (v := .tuple #[.bool false]) (fun t ht => by rw [h3.2.1] at ht; cases ht; exact hd.2.2.1)
          (.tup _ _ rfl fun i c v hc hv => by
            match i, hc, hv with
            | 0, hc, hv => simp at hc hv; subst hc; subst hv; exact .lit _
            | i + 1, hc, hv => simp at hc) g2.rel (.refl _ _)
        simp only [Oper.upon]
        rw [h3.2.1] at g3 ⊢
        unfold wpList
        rw [if_pos (by simp [Region.wanted, h4.2.2])]
        refine .inl (S_extract 0 h4.1 (AEv.tmp (y := .tup [.bool false]) (by simp [putE])) rfl _ _ g3 _ _ ?_)
        rintro _ _ v4 w4 ⟨rfl, rfl⟩ hr4 hrel4 hx4
        have g4 := g3.put (d := o4.dst) (fun t ht => by rw [h4.2.1] at ht; cases ht; exact hd.2.2.2) hr4 hrel4 hx4
        rw [h4.2.1] at g4 ⊢
        unfold wpList
        exact ⟨rfl, g4, Nat.lt_of_lt_of_le hbs hx4.size, hx2.trans hx4 hn⟩
      refine wp_seq (wp_mono reg2 ?_)
      rintro e a3 w3 ⟨rfl, g3, hb3, hx3⟩
      exact fin _ (fun _ _ _ => False) a3 w3 g3 hx3 hb3 (last g b hig hpe) fun _ _ _ _ h => h.elim
  refine wp_block (wp_mono loop ?_)
  rintro e a1 w1 ⟨env1, st1, hq, hg1, hx⟩
  cases e with
  | exit id' =>
    simp only [QL, inB] at hq
    simp only [Exit.inBlock]
    split at hq
    · rename_i h; rw [if_pos h]; exact ⟨env1, st1, hq, hg1, hx⟩
    · rename_i h; rw [if_neg h]; exact ⟨env1, st1, hq, hg1, hx⟩
  | _ => exact ⟨env1, st1, hq, hg1, hx⟩
end
end Go.AL

namespace Go.AL
open Go.RowKit Go.NumSpec
def okLab (x : Lab) : Prop := x.1.length ≤ 9223372036854775807 ∧ x.2.length ≤ 9223372036854775807
def okCtr (c : Ctr) : Prop := fits3 c.req ∧ fits3 c.lim ∧ (∀ p ∈ c.ports, fits p) ∧ fits c.probe.1 ∧ fits c.probe.2
def okSpc (s : Spc) : Prop := (∀ c ∈ s.init, okCtr c) ∧ (∀ c ∈ s.main, okCtr c) ∧ fits s.restart ∧ fits s.grace ∧ fits s.prio
end Go.AL

namespace Go.AL
theorem tabIs_of_mem {P : Program} {W : World} {name : String} {k : IntKind} {zs : List Int} {g : Nat} {t e : TypeId} {n : Nat}
    (hg : P.globalNamed name = some g) (hty : (P.globals[g]?).map (·.type) = some t) (ht : P.underlying t = some (.array n e)) (he : P.underlying e = some (.int k)) (hce : P.cellsOf e = 1) (hct : P.cellsOf t = n) :
    ∀ {l : List (String × DataW Unit)} {ps : List MemPlace}, (name, Lib.tabData k zs) ∈ l → DataW.LaidVars P W l ps → Lib.TabIs P W name k zs
  | [], _, hm, _ => nomatch hm
  | (m, d) :: r, _, hm, h => by
    obtain ⟨g', t', cs, fuel, p, q, hg', ht', hvar, hd, hr, _⟩ := h
    rcases List.mem_cons.1 hm with hm | hm
    · cases hm
      obtain rfl := Option.some.inj (hg.symm.trans hg')
      obtain rfl := Option.some.inj (hty.symm.trans ht')
      unfold Lib.TabIs
      rw [hvar, ← Lib.cells_of_tab ht he hce hct hd]
    · exact tabIs_of_mem hg hty ht he hce hct hm hr
theorem tabIs_of_laid {P : Program} {W : World} {name : String} {k : IntKind} {zs : List Int} {g : Nat} {t e : TypeId} {n : Nat}
    (hg : P.globalNamed name = some g) (hty : (P.globals[g]?).map (·.type) = some t) (ht : P.underlying t = some (.array n e)) (he : P.underlying e = some (.int k)) (hce : P.cellsOf e = 1) (hct : P.cellsOf t = n)
    {l : List (String × DataW Unit)} (hm : (name, Lib.tabData k zs) ∈ l) (h : laidMet P l W) : Lib.TabIs P W name k zs := by
  obtain ⟨ps, h1, _⟩ := h
  exact tabIs_of_mem hg hty ht he hce hct hm h1
end Go.AL
