/-
  A region that draws its order, walked once, whose last operations come one by one and may write what was there: XRegion's theory, and behind its order a tail. Conditions: those of the check at the beginning.
-/
import Derived.Test.YtgplmbchlahbkaaRegion
namespace Go.Proofs.Ytgplmbchlahbkaa
open Go Go.Sort Go.RowKit
set_option linter.unusedVariables false

/-- Operations that enter no function; the check for nil among them. -/
def tame2 (o : Oper) : Bool := tame o || match o.op with
  | .nilCheck _ => true
  | _ => false
theorem bind_value {P : Program} {β : Type} (s : Sem β) (f : β → Sem Next) (h : ∀ b w, (∃ v w', (f b).run P w = .ok (.value v) w') ∨ ∃ x w', (f b).run P w = .halt x w') (w : World) : (∃ v w', (s >>= f).run P w = .ok (.value v) w') ∨ ∃ x w', (s >>= f).run P w = .halt x w' := by
  rw [Sem.run_bind]
  cases s.run P w with
  | ok v w' => exact h v w'
  | halt x w' => exact .inr ⟨x, w', rfl⟩
theorem nil_run {P : Program} {o : Oper} {x : Operand} (ho : o.op = .nilCheck x) (ρ : Operand → Value) (w : World) : (∃ v w', (execOp ρ o).run P w = .ok (.value v) w') ∨ ∃ h w', (execOp ρ o).run P w = .halt h w' := by
  unfold execOp
  rw [ho]
  simp only []
  split
  · exact .inr ⟨_, _, rfl⟩
  · exact .inr ⟨_, _, rfl⟩
  · exact .inr ⟨_, _, rfl⟩
  · split
    · exact .inr ⟨_, _, rfl⟩
    · refine bind_value _ _ (fun b w => ?_) w
      refine bind_value _ _ (fun b w => ?_) w
      split
      · refine bind_value _ _ (fun b w => ?_) w
        exact .inl ⟨_, _, rfl⟩
      · exact .inl ⟨_, _, rfl⟩
    · exact .inl ⟨_, _, rfl⟩
  · exact .inl ⟨_, _, rfl⟩
theorem tame2_yields {P : Program} {o : Oper} (ht : tame2 o = true) {a : Act} {C : World → Prop} {w : World} {v : Value} (h : o.quietAt P a C w v) : (execOp a.eval o).run P w = .ok (.value v) w := by
  unfold tame2 at ht
  rw [Bool.or_eq_true] at ht
  rcases ht with ht | ht
  · exact tame_yields ht h
  · cases ho : o.op <;> rw [ho] at ht <;> simp at ht
    rename_i x
    unfold Oper.quietAt at h
    rcases nil_run (P := P) ho a.eval w with ⟨u, w', e⟩ | ⟨y, w', e⟩
    · rw [e] at h
      obtain ⟨rfl, rfl⟩ := h
      exact e
    · rw [e] at h
      exact h.elim

section
variable {P : Program} {ops : Array Oper} {md : Region.Mode} {Q : Exit → Act → World → Prop} {S : World → Prop} {tl : Nat → Bool}

/-- All that a listed operation waits for is listed. -/
def ClosedL (md : Region.Mode) (ops : Array Oper) (listed : Array Bool) : Prop := ∀ (j : Nat) (oj : Oper), ops[j]? = some oj → listed.getD j false = true → ∀ e ∈ oj.after, Region.binds md e = true → listed.getD e.on false = true
/-- Operation j waits for i. -/
def reach (md : Region.Mode) (ops : Array Oper) : Nat → Nat → Nat → Bool
  | 0, _, _ => false
  | n + 1, j, i => match ops[j]? with
    | none => false
    | some o => o.after.any fun e => Region.binds md e && (e.on == i || reach md ops n e.on i)
theorem reach_listed {listed : Array Bool} (hc : ClosedL md ops listed) {i : Nat} : ∀ (n j : Nat), listed.getD j false = true → reach md ops n j i = true → listed.getD i false = true
  | 0, j, _, h => by simp [reach] at h
  | n + 1, j, hj, h => by
    rw [reach] at h
    cases ho : ops[j]? with
    | none => rw [ho] at h; cases h
    | some o =>
      rw [ho] at h
      simp only [Array.any_eq_true'] at h
      obtain ⟨e, he, h⟩ := h
      rw [Bool.and_eq_true, Bool.or_eq_true] at h
      have h1 := hc j o ho hj e he h.1
      rcases h.2 with h2 | h2
      · rw [← eq_of_beq h2]; exact h1
      · exact reach_listed hc n e.on h1 h2
theorem getD_true_of {listed : Array Bool} {i : Nat} (h : listed.getD i true = false) : listed.getD i false = false := by
  rcases Nat.lt_or_ge i listed.size with h' | h'
  · simp [h'] at h ⊢; exact h
  · simp [Array.getElem?_eq_none h'] at h
/-- Whatever order is picked from here on, and S holds behind every operation that is carried out, but for those of the tail. -/
def wpAnyT (P : Program) (md : Region.Mode) (ops : Array Oper) (Q : Exit → Act → World → Prop) (S : World → Prop) (tl : Nat → Bool) : Nat → Array Bool → Act → World → Prop
  | 0, listed, a, w => Region.ready md ops listed = [] ∧ Q .normal a w
  | fuel + 1, listed, a, w =>
    (Region.ready md ops listed = [] → Q .normal a w) ∧
    ∀ i ∈ Region.ready md ops listed, wpOp P ops Q i (fun a' w' => (tl i = false → S w') ∧ wpAnyT P md ops Q S tl fuel (listed.setIfInBounds i true) a' w') a w
theorem wpAny_of_T : ∀ (fuel : Nat) (listed : Array Bool) (a : Act) (w : World), wpAnyT P md ops Q S tl fuel listed a w → wpAny P md ops Q fuel listed a w
  | 0, _, _, _, h => h
  | fuel + 1, _, _, _, h => ⟨h.1, fun i hi => wpOp_mono (fun a' w' h' => wpAny_of_T fuel _ a' w' h'.2) (h.2 i hi)⟩
theorem closed_set {listed : Array Bool} (hc : ClosedL md ops listed) {j : Nat} (hj : j ∈ Region.ready md ops listed) : ClosedL md ops (listed.setIfInBounds j true) := by
  intro k ok hk hl e he hb
  obtain ⟨hjun, oj, hoj, hall⟩ := mem_ready.1 hj
  have up : ∀ m, listed.getD m false = true → (listed.setIfInBounds j true).getD m false = true := by
    intro m hm
    by_cases hmj : m = j
    · subst hmj
      rw [getD_true_of hjun] at hm
      cases hm
    · simp only [Array.getD_eq_getD_getElem?] at hm ⊢
      rw [Array.getElem?_setIfInBounds_ne (Ne.symm hmj)]
      exact hm
  by_cases hkj : k = j
  · subst hkj
    rw [hk] at hoj
    cases hoj
    exact up _ (hall e he hb)
  · refine up _ (hc k ok hk ?_ e he hb)
    simp only [Array.getD_eq_getD_getElem?] at hl ⊢
    rw [Array.getElem?_setIfInBounds_ne (Ne.symm hkj)] at hl
    exact hl
/-- An operation that may come up now may be taken first, if every one of the tail waits for it. -/
theorem wpAnyT_first {i : Nat} {oi : Oper} {v : Value} {n : Nat} (hi : ops[i]? = some oi) (hsel : ∀ (j : Nat) (o : Oper) cs b, ops[j]? = some o → o.op ≠ .select cs b)
    (hQ : ∀ c a w, Q (.panic c) (a.put oi.dst v) w → Q (.panic c) a w) (hti : tl i = false) (htl : ∀ j, tl j = true → j < ops.size → reach md ops n j i = true) :
    ∀ (fuel : Nat) (listed : Array Bool) (a : Act) (w : World), ClosedL md ops listed →
      (∀ j oj, ops[j]? = some oj → j ≠ i → listed.getD j true = false → (∀ e ∈ oj.after, Region.binds md e = true → e.on ≠ i) → oi.apart ops oj = true) →
      i ∈ Region.ready md ops listed → YieldsIf P ops S oi v a → S w →
      wpAnyT P md ops Q S tl fuel (listed.setIfInBounds i true) (a.put oi.dst v) w → wpAnyT P md ops Q S tl (fuel + 1) listed a w := by
  intro fuel
  induction fuel with
  | zero =>
    intro listed a w _ _ hr hy hS H
    refine ⟨fun h => (by rw [h] at hr; cases hr), fun j hj => ?_⟩
    by_cases hji : j = i
    · subst hji; exact hy.wpOp hi hS ⟨fun _ => hS, H⟩
    · have := ready_mono hj hji
      rw [H.1] at this
      cases this
  | succ fuel ih =>
    intro listed a w hcl hfree hr hy hS H
    refine ⟨fun h => (by rw [h] at hr; cases hr), fun j hj => ?_⟩
    by_cases hji : j = i
    · subst hji; exact hy.wpOp hi hS ⟨fun _ => hS, H⟩
    · have h1 := H.2 j (ready_mono hj hji)
      obtain ⟨hjun, oj, hoj, hall⟩ := mem_ready.1 hj
      have hiun := getD_true_of (mem_ready.1 hr).1
      have hnot : ∀ e ∈ oj.after, Region.binds md e = true → e.on ≠ i := fun e he hb heq => by
        have h1 := hall e he hb
        rw [heq, hiun] at h1
        cases h1
      have htj : tl j = false := by
        cases ht : tl j
        · rfl
        · exfalso
          have hr2 := htl j ht (Array.getElem?_eq_some_iff.1 hoj).1
          cases n with
          | zero => simp [reach] at hr2
          | succ n =>
            rw [reach, hoj] at hr2
            simp only [Array.any_eq_true'] at hr2
            obtain ⟨e, he, h⟩ := hr2
            rw [Bool.and_eq_true, Bool.or_eq_true] at h
            have h3 := hall e he h.1
            rcases h.2 with h4 | h4
            · exact hnot e he h.1 (eq_of_beq h4)
            · have := reach_listed hcl n e.on h3 h4
              rw [hiun] at this
              cases this
      have h2 := wpOp_putIf hoj (hfree j oj hoj hji hjun hnot) (fun cs b => hsel i oi cs b hi) (fun cs b => hsel j oj cs b hoj) hQ hy h1
      have hfree' : ∀ k ok, ops[k]? = some ok → k ≠ i → (listed.setIfInBounds j true).getD k true = false →
          (∀ e ∈ ok.after, Region.binds md e = true → e.on ≠ i) → oi.apart ops ok = true := fun k ok hk hki hun hno => by
        refine hfree k ok hk hki ?_ hno
        by_cases hjk : j = k
        · subst hjk; exact hjun
        · rw [getD_set_ne true hjk] at hun; exact hun
      refine wpOp_mono (fun a' w' h3 => ⟨h3.2.1, ih (listed.setIfInBounds j true) a' w' (closed_set hcl hj) hfree' (ready_mono hr (Ne.symm hji)) h3.1 (h3.2.1 htj) ?_⟩) h2
      rw [Array.setIfInBounds_comm _ _ hji]
      exact h3.2.2
theorem wpAnyT_take {i : Nat} {oi : Oper} {v : Value} {n fuel : Nat} {listed : Array Bool} {a : Act} {w : World} (hi : ops[i]? = some oi)
    (hs : Region.noSelect ops = true) (hf : Region.free md ops listed i = true) (hr : (Region.ready md ops listed).contains i = true)
    (hQ : ∀ c a w, Q (.panic c) (a.put oi.dst v) w → Q (.panic c) a w) (hti : tl i = false) (htl : ∀ j, tl j = true → j < ops.size → reach md ops n j i = true) (hcl : ClosedL md ops listed) (hy : YieldsIf P ops S oi v a) (hS : S w)
    (h : wpAnyT P md ops Q S tl fuel (listed.setIfInBounds i true) (a.put oi.dst v) w) : wpAnyT P md ops Q S tl (fuel + 1) listed a w :=
  wpAnyT_first hi (Region.noSelect_spec hs) hQ hti htl fuel listed a w hcl (Region.free_spec hi hf) (by simpa using hr) hy hS h
theorem wpAnyT_all {rs : List Nat} {fuel : Nat} {listed : Array Bool} {a : Act} {w : World} (hr : Region.ready md ops listed = rs) (hne : rs ≠ [])
    (h : ∀ i ∈ rs, wpOp P ops Q i (fun a' w' => (tl i = false → S w') ∧ wpAnyT P md ops Q S tl fuel (listed.setIfInBounds i true) a' w') a w) : wpAnyT P md ops Q S tl (fuel + 1) listed a w :=
  ⟨fun h0 => absurd (hr ▸ h0) hne, hr ▸ h⟩
theorem wpAnyT_done {listed : Array Bool} {a : Act} {w : World} (hr : Region.ready md ops listed = []) (h : Q .normal a w) : ∀ fuel, wpAnyT P md ops Q S tl fuel listed a w
  | 0 => ⟨hr, h⟩
  | _ + 1 => ⟨fun _ => h, by rw [hr]; simp⟩

/-- The check of the tail: each one is the only one that may come. -/
def schedT (md : Region.Mode) (ops : Array Oper) : List Nat → Array Bool → Bool
  | [], listed => (Region.ready md ops listed).isEmpty
  | i :: r, listed => Region.ready md ops listed == [i] && schedT md ops r (listed.setIfInBounds i true)
/-- The check of the whole: XRegion's, and each one of the tail waits for what is taken first. -/
def schedA (md : Region.Mode) (ops : Array Oper) (n : Nat) (tail : List Nat) : List Nat → Array Bool → Bool
  | [], listed => schedT md ops tail listed
  | i :: r, listed =>
    (match ops[i]? with
    | none => false
    | some o => if tame2 o then (Region.ready md ops listed).contains i && Region.free md ops listed i && tail.all (fun j => reach md ops n j i) else Region.ready md ops listed == [i]) && !tail.contains i && schedA md ops n tail r (listed.setIfInBounds i true)
/-- The walk of the tail. -/
def RT (P : Program) (ol : List Oper) (Q : Exit → Act → World → Prop) : List Nat → Act → World → Prop
  | [], a, w => Q .normal a w
  | i :: r, a, w => ∃ o, ol[i]? = some o ∧ if Region.wanted o (yielded ol.toArray a.tmps) then o.wp P a w (fun a' w' => RT P ol Q r a' w') Q else RT P ol Q r (a.put o.dst undef) w
/-- The walk in the order of the list, and behind it the tail. -/
def RA (P : Program) (ol : List Oper) (Q : Exit → Act → World → Prop) (tail : List Nat) : List Nat → Act → World → Prop
  | [], a, w => RT P ol Q tail a w
  | i :: r, a, w => ∃ o, ol[i]? = some o ∧
    if Region.wanted o (yielded ol.toArray a.tmps) then
      if tame2 o then o.quiet P a (fun w' => ∃ p : Regrown, w' = grow (redrawn w p.d) p.os) (fun a' => RA P ol Q tail r a' w)
      else o.wp P a w (fun a' w' => Ext w w' ∧ RA P ol Q tail r a' w') Q
    else RA P ol Q tail r (a.put o.dst undef) w
theorem RT.any {ol : List Oper} {tail : List Nat} : ∀ (l : List Nat) (listed : Array Bool) (a : Act) (w : World), (∀ i ∈ l, i ∈ tail) → schedT md ol.toArray l listed = true → RT P ol Q l a w → wpAnyT P md ol.toArray Q S (fun i => tail.contains i) l.length listed a w
  | [], listed, a, w, _, hB, h => wpAnyT_done (by simpa [schedT] using hB) h _
  | i :: r, listed, a, w, hm, hB, h => by
    obtain ⟨o, ho', h⟩ := h
    have ho : ol.toArray[i]? = some o := by simpa using ho'
    simp only [schedT, Bool.and_eq_true] at hB
    have hr : Region.ready md ol.toArray listed = [i] := by simpa using hB.1
    refine wpAnyT_all hr (by simp) (fun j hj => ?_)
    obtain rfl : j = i := by simpa using hj
    have hti : tail.contains j = true := by simpa using hm j (by simp)
    unfold wpOp
    simp only [ho]
    by_cases hw : Region.wanted o (yielded ol.toArray a.tmps) = true
    · rw [if_pos hw] at h
      rw [if_pos hw]
      exact .inl (Oper.wp_mono (fun a' w' h1 => ⟨(fun h2 => absurd (hti.symm.trans h2) (by decide)), RT.any r _ _ w' (fun k hk => hm k (by simp [hk])) hB.2 h1⟩) h)
    · rw [if_neg hw] at h
      rw [if_neg hw]
      exact ⟨(fun h2 => absurd (hti.symm.trans h2) (by decide)), RT.any r _ _ w (fun k hk => hm k (by simp [hk])) hB.2 h⟩
theorem wpAnyT_stronger {S' : World → Prop} (hS : ∀ w, S' w → S w) : ∀ (fuel : Nat) (listed : Array Bool) (a : Act) (w : World), wpAnyT P md ops Q S' tl fuel listed a w → wpAnyT P md ops Q S tl fuel listed a w
  | 0, _, _, _, h => h
  | fuel + 1, _, _, _, h => ⟨h.1, fun i hi => wpOp_mono (fun a1 w1 h1 => ⟨fun ht => hS _ (h1.1 ht), wpAnyT_stronger hS fuel _ a1 w1 h1.2⟩) (h.2 i hi)⟩
theorem RA.any {ol : List Oper} {n : Nat} {tail : List Nat} (hs : Region.noSelect ol.toArray = true) (hQ : ∀ c (a : Act) d v w, Q (.panic c) (a.put d v) w → Q (.panic c) a w) :
    ∀ (l : List Nat) (listed : Array Bool) (a : Act) (w : World), ClosedL md ol.toArray listed → schedA md ol.toArray n tail l listed = true → RA P ol Q tail l a w → wpAnyT P md ol.toArray Q (fun w' => Ext w w') (fun i => tail.contains i) (l.length + tail.length) listed a w
  | [], listed, a, w, _, hB, h => by
    rw [List.length_nil, Nat.zero_add]
    exact RT.any tail listed a w (fun _ h => h) hB h
  | i :: r, listed, a, w, hcl, hB, h => by
    obtain ⟨o, ho', h⟩ := h
    have ho : ol.toArray[i]? = some o := by simpa using ho'
    simp only [schedA, ho, Bool.and_eq_true] at hB
    obtain ⟨⟨hB1, hBt⟩, hB2⟩ := hB
    have hti : tail.contains i = false := by simpa using hBt
    rw [show (i :: r).length + tail.length = (r.length + tail.length) + 1 by simp; omega]
    by_cases ht : tame2 o = true
    · rw [if_pos ht, Bool.and_eq_true, Bool.and_eq_true] at hB1
      obtain ⟨⟨hr, hf⟩, hall⟩ := hB1
      have htl : ∀ j, tail.contains j = true → j < ol.toArray.size → reach md ol.toArray n j i = true := fun j hj _ => List.all_eq_true.1 hall j (by simpa using hj)
      have hri : i ∈ Region.ready md ol.toArray listed := by simpa using hr
      have hc2 := closed_set hcl hri
      by_cases hw : Region.wanted o (yielded ol.toArray a.tmps) = true
      · rw [if_pos hw, if_pos ht] at h
        obtain ⟨v, hv, hn⟩ := h
        exact wpAnyT_take ho hs hf hr (fun c a w => hQ c a o.dst v w) hti htl hcl (Or.inl ⟨hw, fun w' hx => tame2_yields ht (hv w' (cls_of_ext hx))⟩) (Ext.rfl' w) (RA.any hs hQ r _ _ w hc2 hB2 hn)
      · rw [if_neg hw] at h
        exact wpAnyT_take ho hs hf hr (fun c a w => hQ c a o.dst undef w) hti htl hcl (Or.inr ⟨by simpa using hw, rfl⟩) (Ext.rfl' w) (RA.any hs hQ r _ _ w hc2 hB2 h)
    · rw [if_neg ht] at hB1
      have hr : Region.ready md ol.toArray listed = [i] := by simpa using hB1
      have hc2 := closed_set hcl (show i ∈ Region.ready md ol.toArray listed by rw [hr]; simp)
      refine wpAnyT_all hr (by simp) (fun j hj => ?_)
      obtain rfl : j = i := by simpa using hj
      unfold wpOp
      simp only [ho]
      by_cases hw : Region.wanted o (yielded ol.toArray a.tmps) = true
      · rw [if_pos hw, if_neg ht] at h
        rw [if_pos hw]
        exact .inl (Oper.wp_mono (fun a' w' h1 => ⟨fun _ => h1.1, wpAnyT_stronger (fun x hx => h1.1.tr hx) _ _ _ _ (RA.any hs hQ r _ _ w' hc2 hB2 h1.2)⟩) h)
      · rw [if_neg hw] at h
        rw [if_neg hw]
        exact ⟨fun _ => Ext.rfl' w, RA.any hs hQ r _ _ w hc2 hB2 h⟩
theorem closed_none (n : Nat) : ClosedL md ops (Array.replicate n false) := by
  intro j oj _ h
  exfalso
  simp only [Array.getD_eq_getD_getElem?, Array.getElem?_replicate] at h
  split at h <;> simp at h
theorem ra_start {id : Nat} {a : Act} {w : World} {l : List Oper} (sch tail : List Nat) (hm : P.follows .mixedOrders = true)
    (hB : (Region.noSelect l.toArray && (sch.length + tail.length == l.length) && schedA .any l.toArray l.length tail sch (Array.replicate l.toArray.size false)) = true) (hQ : ∀ c (a : Act) d v w, Q (.panic c) (a.put d v) w → Q (.panic c) a w)
    (h : RA P l Q tail sch a w.drew) : (Code.region id l.toArray true).wp P Q a w := by
  simp only [Bool.and_eq_true, beq_iff_eq] at hB
  have := RA.any (P := P) (md := .any) (Q := Q) hB.1.1 hQ sch _ a w.drew (closed_none _) hB.2 h
  rw [hB.1.2] at this
  exact wp_region_any hm (wpAny_of_T _ _ _ _ (by simpa using this))
theorem ra_nil {ol : List Oper} {tail : List Nat} {a : Act} {w : World} (h : RT P ol Q tail a w) : RA P ol Q tail [] a w := h
theorem rt_nil {ol : List Oper} {a : Act} {w : World} (h : Q .normal a w) : RT P ol Q [] a w := h
theorem rt_op {ol : List Oper} {i : Nat} {r : List Nat} {a : Act} {w : World} {o : Oper} (ho : ol[i]? = some o) (hw : Region.wanted o (yielded ol.toArray a.tmps) = true)
    (h : ∀ K : Act → World → Prop, (∀ a' w', RT P ol Q r a' w' → K a' w') → o.wp P a w K Q) : RT P ol Q (i :: r) a w :=
  ⟨o, ho, by rw [if_pos hw]; exact h _ fun _ _ h => h⟩
theorem ra_skip {ol : List Oper} {tail : List Nat} {i : Nat} {r : List Nat} {a : Act} {w : World} {dst : Option Tmp} {op : Op} {ty : TypeId} {pos : String} {aft : Array Edge} {gd : Option (Nat × Bool)} (ho : ol[i]? = some ⟨dst, op, ty, pos, aft, gd⟩) (hw : Region.wanted ⟨dst, op, ty, pos, aft, gd⟩ (yielded ol.toArray a.tmps) = false)
    (h : ∀ K : Act → Prop, (∀ a', RA P ol Q tail r a' w → K a') → Oper.quiet P ⟨dst, .move (.const undef), ty, pos, aft, none⟩ a (fun _ => True) K) : RA P ol Q tail (i :: r) a w := by
  refine ⟨_, ho, ?_⟩
  rw [if_neg (by rw [hw]; exact Bool.false_ne_true)]
  obtain ⟨v, hv, hk⟩ := h _ fun _ h => h
  have h1 := hv w trivial
  unfold Oper.quietAt at h1
  rw [BigFrame.run_move (.const undef) rfl] at h1
  obtain ⟨h2, h3⟩ := h1
  have h3 : v = undef := by
    first
      | exact h3
      | exact h3.symm
  subst h3
  exact hk
theorem ra_quiet {ol : List Oper} {tail : List Nat} {i : Nat} {r : List Nat} {a : Act} {w : World} {o : Oper} (ho : ol[i]? = some o) (ht : tame2 o = true) (hw : Region.wanted o (yielded ol.toArray a.tmps) = true)
    (h : ∀ K : Act → Prop, (∀ a', RA P ol Q tail r a' w → K a') → o.quiet P a (fun w' => ∃ p : Regrown, w' = grow (redrawn w p.d) p.os) K) : RA P ol Q tail (i :: r) a w :=
  ⟨o, ho, by rw [if_pos hw, if_pos ht]; exact h _ fun _ h => h⟩
theorem ra_call {ol : List Oper} {tail : List Nat} {i : Nat} {r : List Nat} {a : Act} {w : World} {o : Oper} (ho : ol[i]? = some o) (ht : tame2 o = false) (hw : Region.wanted o (yielded ol.toArray a.tmps) = true)
    (h : ∀ K : Act → World → Prop, (∀ a' w', Ext w w' → RA P ol Q tail r a' w' → K a' w') → o.wp P a w K Q) : RA P ol Q tail (i :: r) a w :=
  ⟨o, ho, by rw [if_pos hw, if_neg (by rw [ht]; exact Bool.false_ne_true)]; exact h _ fun _ _ h k => ⟨h, k⟩⟩
end
end Go.Proofs.Ytgplmbchlahbkaa
