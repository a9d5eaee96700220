/-
  A region that draws its order, walked along a tree: where two operations that make or write memory may both come next, either is walked; what only reads is shown to yield one value in every world of a class, which a call may narrow. Conditions: those of the check at the beginning.
-/
import Derived.Test.YtbhgbkbdojhofaaRegion3
namespace Go.Proofs.Ytbhgbkbdojhofaa
open Go Go.Sort Go.RowKit
set_option linter.unusedVariables false

/-- The order, parted where two may come next. -/
inductive Sch where
  | fin : Sch
  | one : Nat → Sch → Sch
  | two : Nat → Sch → Nat → Sch → Sch
def sched3 (md : Region.Mode) (ops : Array Oper) : Nat → Sch → Array Bool → Bool
  | 0, .fin, listed => (Region.ready md ops listed).isEmpty
  | n + 1, .one i r, listed =>
    (match ops[i]? with
    | none => false
    | some o => if tame2 o then (Region.ready md ops listed).contains i && Region.free md ops listed i else Region.ready md ops listed == [i]) && sched3 md ops n r (listed.setIfInBounds i true)
  | n + 1, .two i r j s, listed =>
    (match ops[i]? with | none => false | some o => !tame2 o) && (match ops[j]? with | none => false | some o => !tame2 o) && (Region.ready md ops listed == [i, j])
      && sched3 md ops n r (listed.setIfInBounds i true) && sched3 md ops n s (listed.setIfInBounds j true)
  | _, _, _ => false

section
variable {P : Program} {ops : Array Oper} {md : Region.Mode}

def RF (P : Program) (ol : List Oper) (Q : Exit → Act → World → Prop) : Sch → (World → Prop) → Act → World → Prop
  | .fin, _, a, w => Q .normal a w
  | .one i r, S, a, w => ∃ o, ol[i]? = some o ∧
    if Region.wanted o (yielded ol.toArray a.tmps) then
      if tame2 o then o.quiet P a (fun w' => ∃ p : Wrap S, w' = p.w) (fun a' => RF P ol Q r S a' w)
      else o.wp P a w (fun a' w' => ∃ S' : World → Prop, (∀ x, S' x → S x) ∧ S' w' ∧ RF P ol Q r S' a' w') Q
    else RF P ol Q r S (a.put o.dst undef) w
  | .two i r j s, S, a, w =>
    (∃ o, ol[i]? = some o ∧ Region.wanted o (yielded ol.toArray a.tmps) = true ∧ o.wp P a w (fun a' w' => ∃ S' : World → Prop, (∀ x, S' x → S x) ∧ S' w' ∧ RF P ol Q r S' a' w') Q) ∧
    (∃ o, ol[j]? = some o ∧ Region.wanted o (yielded ol.toArray a.tmps) = true ∧ o.wp P a w (fun a' w' => ∃ S' : World → Prop, (∀ x, S' x → S x) ∧ S' w' ∧ RF P ol Q s S' a' w') Q)
theorem RF.held {ol : List Oper} {Q : Exit → Act → World → Prop} (hs : Region.noSelect ol.toArray = true) (hQ : ∀ c (a : Act) d v w, Q (.panic c) (a.put d v) w → Q (.panic c) a w) :
    ∀ (n : Nat) (l : Sch) (S : World → Prop) (listed : Array Bool) (a : Act) (w : World), S w → sched3 md ol.toArray n l listed = true → RF P ol Q l S a w → wpAnyH P md ol.toArray Q S n listed a w
  | 0, .fin, S, listed, a, w, _, hB, h => wpAnyH_done (by simpa [sched3] using hB) h _
  | 0, .one _ _, S, listed, a, w, _, hB, h => by simp [sched3] at hB
  | 0, .two _ _ _ _, S, listed, a, w, _, hB, h => by simp [sched3] at hB
  | n + 1, .fin, S, listed, a, w, _, hB, h => by simp [sched3] at hB
  | n + 1, .one i r, S, listed, a, w, hS, hB, h => by
    obtain ⟨o, ho', h⟩ := h
    have ho : ol.toArray[i]? = some o := by simpa using ho'
    simp only [sched3, ho, Bool.and_eq_true] at hB
    obtain ⟨hB1, hB2⟩ := hB
    by_cases ht : tame2 o = true
    · rw [if_pos ht, Bool.and_eq_true] at hB1
      by_cases hw : Region.wanted o (yielded ol.toArray a.tmps) = true
      · rw [if_pos hw, if_pos ht] at h
        obtain ⟨v, hv, hn⟩ := h
        exact wpAnyH_take ho hs hB1.2 hB1.1 (fun c a w => hQ c a o.dst v w) (Or.inl ⟨hw, fun w' hx => tame2_yields ht (hv w' ⟨⟨w', hx⟩, rfl⟩)⟩) hS (RF.held hs hQ n r S _ _ w hS hB2 hn)
      · rw [if_neg hw] at h
        exact wpAnyH_take ho hs hB1.2 hB1.1 (fun c a w => hQ c a o.dst undef w) (Or.inr ⟨by simpa using hw, rfl⟩) hS (RF.held hs hQ n r S _ _ w hS hB2 h)
    · rw [if_neg ht] at hB1
      have hr : Region.ready md ol.toArray listed = [i] := by simpa using hB1
      refine wpAnyH_all hr (by simp) (fun j hj => ?_)
      obtain rfl : j = i := by simpa using hj
      unfold wpOp
      simp only [ho]
      by_cases hw : Region.wanted o (yielded ol.toArray a.tmps) = true
      · rw [if_pos hw, if_neg ht] at h
        rw [if_pos hw]
        refine .inl (Oper.wp_mono (fun a' w' h1 => ?_) h)
        obtain ⟨S', hsub, hS', h2⟩ := h1
        exact ⟨hsub _ hS', wpAnyH_stronger hsub _ _ _ _ (RF.held hs hQ n r S' _ _ w' hS' hB2 h2)⟩
      · rw [if_neg hw] at h
        rw [if_neg hw]
        exact ⟨hS, RF.held hs hQ n r S _ _ w hS hB2 h⟩
  | n + 1, .two i r j s, S, listed, a, w, hS, hB, h => by
    obtain ⟨⟨o, ho', hw, h1⟩, ⟨q, hq', hw2, h2⟩⟩ := h
    have ho : ol.toArray[i]? = some o := by simpa using ho'
    have hq : ol.toArray[j]? = some q := by simpa using hq'
    simp only [sched3, ho, hq, Bool.and_eq_true] at hB
    obtain ⟨⟨⟨⟨-, -⟩, hr⟩, hB1⟩, hB2⟩ := hB
    have hr : Region.ready md ol.toArray listed = [i, j] := by simpa using hr
    refine wpAnyH_all hr (by simp) (fun k hk => ?_)
    rcases (by simpa using hk : k = i ∨ k = j) with rfl | rfl
    · unfold wpOp
      simp only [ho]
      rw [if_pos hw]
      refine .inl (Oper.wp_mono (fun a' w' h1 => ?_) h1)
      obtain ⟨S', hsub, hS', h2⟩ := h1
      exact ⟨hsub _ hS', wpAnyH_stronger hsub _ _ _ _ (RF.held hs hQ n r S' _ _ w' hS' hB1 h2)⟩
    · unfold wpOp
      simp only [hq]
      rw [if_pos hw2]
      refine .inl (Oper.wp_mono (fun a' w' h1 => ?_) h2)
      obtain ⟨S', hsub, hS', h2⟩ := h1
      exact ⟨hsub _ hS', wpAnyH_stronger hsub _ _ _ _ (RF.held hs hQ n s S' _ _ w' hS' hB2 h2)⟩
theorem rf_start {id : Nat} {Q : Exit → Act → World → Prop} {a : Act} {w : World} {l : List Oper} (sch : Sch) (S : World → Prop) (hm : P.follows .mixedOrders = true)
    (hB : (Region.noSelect l.toArray && sched3 .any l.toArray l.length sch (Array.replicate l.toArray.size false)) = true) (hQ : ∀ c (a : Act) d v w, Q (.panic c) (a.put d v) w → Q (.panic c) a w)
    (hS : S w.drew) (h : Nonempty (Wrap S) → RF P l Q sch S a w.drew) : (Code.region id l.toArray true).wp P Q a w := by
  simp only [Bool.and_eq_true] at hB
  refine wp_region_held (S := S) hm ?_
  have := RF.held (md := .any) hB.1 hQ _ sch S _ a w.drew hS hB.2 (h ⟨⟨_, hS⟩⟩)
  simpa using this
theorem rf_nil {ol : List Oper} {Q : Exit → Act → World → Prop} {S : World → Prop} {a : Act} {w : World} (h : Q .normal a w) : RF P ol Q .fin S a w := h
theorem rf_skip {ol : List Oper} {Q : Exit → Act → World → Prop} {S : World → Prop} {i : Nat} {r : Sch} {a : Act} {w : World} {dst : Option Tmp} {op : Op} {ty : TypeId} {pos : String} {aft : Array Edge} {gd : Option (Nat × Bool)} (ho : ol[i]? = some ⟨dst, op, ty, pos, aft, gd⟩) (hw : Region.wanted ⟨dst, op, ty, pos, aft, gd⟩ (yielded ol.toArray a.tmps) = false)
    (h : ∀ K : Act → Prop, (∀ a', RF P ol Q r S a' w → K a') → Oper.quiet P ⟨dst, .move (.const undef), ty, pos, aft, none⟩ a (fun _ => True) K) : RF P ol Q (.one i r) S a w := by
  refine ⟨_, ho, ?_⟩
  rw [if_neg (by rw [hw]; exact Bool.false_ne_true)]
  obtain ⟨v, hv, hk⟩ := h _ fun _ h => h
  have h1 := hv w trivial
  unfold Oper.quietAt at h1
  rw [BigFrame.run_move (.const undef) rfl] at h1
  obtain ⟨h2, h3⟩ := h1
  have h3 : v = undef := by
    first
      | exact h3
      | exact h3.symm
  subst h3
  exact hk
theorem rf_quiet {ol : List Oper} {Q : Exit → Act → World → Prop} {S : World → Prop} {i : Nat} {r : Sch} {a : Act} {w : World} {o : Oper} (ho : ol[i]? = some o) (ht : tame2 o = true) (hw : Region.wanted o (yielded ol.toArray a.tmps) = true)
    (h : ∀ K : Act → Prop, (∀ a', RF P ol Q r S a' w → K a') → o.quiet P a (fun w' => ∃ p : Wrap S, w' = p.w) K) : RF P ol Q (.one i r) S a w :=
  ⟨o, ho, by rw [if_pos hw, if_pos ht]; exact h _ fun _ h => h⟩
theorem rf_call {ol : List Oper} {Q : Exit → Act → World → Prop} {S : World → Prop} {i : Nat} {r : Sch} {a : Act} {w : World} {o : Oper} (ho : ol[i]? = some o) (ht : tame2 o = false) (hw : Region.wanted o (yielded ol.toArray a.tmps) = true)
    (h : ∀ K : Act → World → Prop, (∀ (S' : World → Prop) a' w', (∀ x, S' x → S x) → S' w' → (Nonempty (Wrap S') → RF P ol Q r S' a' w') → K a' w') → o.wp P a w K Q) : RF P ol Q (.one i r) S a w :=
  ⟨o, ho, by rw [if_pos hw, if_neg (by rw [ht]; exact Bool.false_ne_true)]; exact h _ fun S' _ _ h1 h2 h3 => ⟨S', h1, h2, h3 ⟨⟨_, h2⟩⟩⟩⟩
theorem rf_two {ol : List Oper} {Q : Exit → Act → World → Prop} {S : World → Prop} {i j : Nat} {r s : Sch} {a : Act} {w : World} {o q : Oper} (ho : ol[i]? = some o) (hq : ol[j]? = some q) (hw : Region.wanted o (yielded ol.toArray a.tmps) = true) (hw2 : Region.wanted q (yielded ol.toArray a.tmps) = true)
    (h : ∀ K : Act → World → Prop, (∀ (S' : World → Prop) a' w', (∀ x, S' x → S x) → S' w' → (Nonempty (Wrap S') → RF P ol Q r S' a' w') → K a' w') → o.wp P a w K Q)
    (h2 : ∀ K : Act → World → Prop, (∀ (S' : World → Prop) a' w', (∀ x, S' x → S x) → S' w' → (Nonempty (Wrap S') → RF P ol Q s S' a' w') → K a' w') → q.wp P a w K Q) : RF P ol Q (.two i r j s) S a w :=
  ⟨⟨o, ho, hw, h _ fun S' _ _ h1 h2 h3 => ⟨S', h1, h2, h3 ⟨⟨_, h2⟩⟩⟩⟩, ⟨q, hq, hw2, h2 _ fun S' _ _ h1 h2 h3 => ⟨S', h1, h2, h3 ⟨⟨_, h2⟩⟩⟩⟩⟩
end
end Go.Proofs.Ytbhgbkbdojhofaa
