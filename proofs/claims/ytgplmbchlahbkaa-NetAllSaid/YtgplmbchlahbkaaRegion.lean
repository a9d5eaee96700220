/-
  A region that draws its order, walked once: what only reads is taken as early as it may come, a call when nothing else may come. One walk serves every order. Conditions: those of the check at the beginning; each operation that only reads yields one value in every world that extends the one at hand.
-/
import Derived.Test.YtgplmbchlahbkaaKit
import Derived.OrdersHeld
import Derived.Lib.QuietBelow
namespace Go.Proofs.Ytgplmbchlahbkaa
open Go Go.Sort Go.RowKit
set_option linter.unusedVariables false

/-- Operations that enter no function. -/
def tame (o : Oper) : Bool :=
  match o.op with
  | .move _ => true
  | .assign _ => true
  | .pick _ _ _ => true
  | .load _ _ => true
  | .binOp _ _ _ _ _ => true
  | .unOp _ _ _ => true
  | .convert _ _ _ => true
  | .slice _ _ _ _ _ => true
  | .fieldAddr _ _ _ => true
  | .field _ _ _ => true
  | .indexAddr _ _ _ => true
  | .index _ _ _ => true
  | .extract _ _ => true
  | .call c => match c.callee with
    | .builtin .len => true
    | .builtin .min => true
    | .builtin .max => true
    | _ => false
  | _ => false

/-- The worlds that extend w. -/
def Cls (w : World) : World → Prop := fun w' => ∃ p : Regrown, w' = grow (redrawn w p.d) p.os
theorem cls_of_ext {w w' : World} (h : Ext w w') : Cls w w' := regrown_of_below h
theorem Cls.ext {w w' : World} (h : Cls w w') : Ext w w' := by obtain ⟨p, rfl⟩ := h; exact below_regrown w p.d p.os
theorem Ext.reg (w : World) (d : Nat) (os : Array Obj) : Ext w (grow (redrawn w d) os) := below_regrown w d os

section
variable {P : Program} {ops : Array Oper} {md : Region.Mode}

theorem run_value (s : Sem Value) (w : World) : (∃ v w', (do pure (Next.value (← s)) : Sem Next).run P w = .ok (.value v) w') ∨ ∃ h w', (do pure (Next.value (← s)) : Sem Next).run P w = .halt h w' := by
  rw [Sem.run_bind]
  cases s.run P w with
  | ok v w' => exact .inl ⟨v, w', rfl⟩
  | halt h w' => exact .inr ⟨h, w', rfl⟩
theorem tame_run {o : Oper} (ht : tame o = true) (ρ : Operand → Value) (w : World) : (∃ v w', (execOp ρ o).run P w = .ok (.value v) w') ∨ ∃ h w', (execOp ρ o).run P w = .halt h w' := by
  unfold tame at ht
  unfold execOp
  cases hop : o.op <;> rw [hop] at ht <;> simp only [Bool.false_eq_true] at ht <;> simp only []
  all_goals first
    | exact .inl ⟨_, _, rfl⟩
    | exact run_value _ _
    | skip
  case pick c a b =>
    rw [Sem.run_bind]
    cases (asBool (ρ c)).run P w with
    | ok v w' => exact .inl ⟨_, _, rfl⟩
    | halt h w' => exact .inr ⟨_, _, rfl⟩
  case call c =>
    rcases c with ⟨callee, args, argTypes⟩
    cases callee with
    | value f => simp at ht
    | invoke r m => simp at ht
    | builtin b =>
      cases b <;> simp at ht
      all_goals exact run_value _ _

theorem tame_yields {o : Oper} (ht : tame o = true) {a : Act} {C : World → Prop} {w : World} {v : Value} (h : o.quietAt P a C w v) : (execOp a.eval o).run P w = .ok (.value v) w := by
  unfold Oper.quietAt at h
  rcases tame_run (P := P) ht a.eval w with ⟨u, w', e⟩ | ⟨x, w', e⟩
  · rw [e] at h
    obtain ⟨rfl, rfl⟩ := h
    exact e
  · rw [e] at h
    exact h.elim

/-- The check: each operation in turn may come; one that only reads may be taken first; a call is the only one that may come. -/
def sched (md : Region.Mode) (ops : Array Oper) : List Nat → Array Bool → Bool
  | [], listed => (Region.ready md ops listed).isEmpty
  | i :: r, listed =>
    (match ops[i]? with
    | none => false
    | some o => if tame o then (Region.ready md ops listed).contains i && Region.free md ops listed i else Region.ready md ops listed == [i]) && sched md ops r (listed.setIfInBounds i true)

/-- The walk in the order of the list. -/
def RW (P : Program) (ol : List Oper) (Q : Exit → Act → World → Prop) : List Nat → Act → World → Prop
  | [], a, w => Q .normal a w
  | i :: r, a, w => ∃ o, ol[i]? = some o ∧
    if Region.wanted o (yielded ol.toArray a.tmps) then
      if tame o then o.quiet P a (fun w' => ∃ p : Regrown, w' = grow (redrawn w p.d) p.os) (fun a' => RW P ol Q r a' w)
      else o.wp P a w (fun a' w' => Ext w w' ∧ RW P ol Q r a' w') Q
    else RW P ol Q r (a.put o.dst undef) w

theorem RW.held {ol : List Oper} {Q : Exit → Act → World → Prop} (hs : Region.noSelect ol.toArray = true) (hQ : ∀ c (a : Act) d v w, Q (.panic c) (a.put d v) w → Q (.panic c) a w) :
    ∀ (l : List Nat) (listed : Array Bool) (a : Act) (w : World), sched md ol.toArray l listed = true → RW P ol Q l a w → wpAnyH P md ol.toArray Q (fun w' => Ext w w') l.length listed a w
  | [], listed, a, w, hB, h => wpAnyH_done (by simpa [sched] using hB) h _
  | i :: r, listed, a, w, hB, h => by
    obtain ⟨o, ho', h⟩ := h
    have ho : ol.toArray[i]? = some o := by simpa using ho'
    simp only [sched, ho, Bool.and_eq_true] at hB
    obtain ⟨hB1, hB2⟩ := hB
    have stronger : ∀ (fuel : Nat) (listed : Array Bool) (a' : Act) (w' w'' : World), Ext w w' → wpAnyH P md ol.toArray Q (fun x => Ext w' x) fuel listed a' w'' → wpAnyH P md ol.toArray Q (fun x => Ext w x) fuel listed a' w'' := by
      intro fuel
      induction fuel with
      | zero => intro listed a' w' w'' _ h; exact h
      | succ fuel ih =>
        intro listed a' w' w'' hx h
        exact ⟨h.1, fun i hi => wpOp_mono (fun a1 w1 h1 => ⟨hx.tr h1.1, ih _ a1 w' w1 hx h1.2⟩) (h.2 i hi)⟩
    by_cases ht : tame o = true
    · rw [if_pos ht, Bool.and_eq_true] at hB1
      by_cases hw : Region.wanted o (yielded ol.toArray a.tmps) = true
      · rw [if_pos hw, if_pos ht] at h
        obtain ⟨v, hv, hn⟩ := h
        exact wpAnyH_take ho hs hB1.2 hB1.1 (fun c a w => hQ c a o.dst v w) (Or.inl ⟨hw, fun w' hx => tame_yields ht (hv w' (cls_of_ext hx))⟩) (Ext.rfl' w) (RW.held hs hQ r _ _ w hB2 hn)
      · rw [if_neg hw] at h
        exact wpAnyH_take ho hs hB1.2 hB1.1 (fun c a w => hQ c a o.dst undef w) (Or.inr ⟨by simpa using hw, rfl⟩) (Ext.rfl' w) (RW.held hs hQ r _ _ w hB2 h)
    · rw [if_neg ht] at hB1
      have hr : Region.ready md ol.toArray listed = [i] := by simpa using hB1
      refine wpAnyH_all hr (by simp) (fun j hj => ?_)
      obtain rfl : j = i := by simpa using hj
      unfold wpOp
      simp only [ho]
      by_cases hw : Region.wanted o (yielded ol.toArray a.tmps) = true
      · rw [if_pos hw, if_neg ht] at h
        rw [if_pos hw]
        exact .inl (Oper.wp_mono (fun a' w' h1 => ⟨h1.1, stronger _ _ _ w' _ h1.1 (RW.held hs hQ r _ _ w' hB2 h1.2)⟩) h)
      · rw [if_neg hw] at h
        rw [if_neg hw]
        exact ⟨Ext.rfl' w, RW.held hs hQ r _ _ w hB2 h⟩

theorem rw_start {id : Nat} {Q : Exit → Act → World → Prop} {a : Act} {w : World} {l : List Oper} (sch : List Nat) (hm : P.follows .mixedOrders = true)
    (hB : (Region.noSelect l.toArray && (sch.length == l.length) && sched .any l.toArray sch (Array.replicate l.toArray.size false)) = true) (hQ : ∀ c (a : Act) d v w, Q (.panic c) (a.put d v) w → Q (.panic c) a w)
    (h : RW P l Q sch a w.drew) : (Code.region id l.toArray true).wp P Q a w := by
  simp only [Bool.and_eq_true, beq_iff_eq] at hB
  refine wp_region_held (S := fun w' => Ext w.drew w') hm ?_
  have := RW.held (md := .any) hB.1.1 hQ sch _ a w.drew hB.2 h
  rw [hB.1.2] at this
  simpa using this

theorem rw_nil {ol : List Oper} {Q : Exit → Act → World → Prop} {a : Act} {w : World} (h : Q .normal a w) : RW P ol Q [] a w := h
theorem rw_skip {ol : List Oper} {Q : Exit → Act → World → Prop} {i : Nat} {r : List Nat} {a : Act} {w : World} {dst : Option Tmp} {op : Op} {ty : TypeId} {pos : String} {aft : Array Edge} {gd : Option (Nat × Bool)} (ho : ol[i]? = some ⟨dst, op, ty, pos, aft, gd⟩) (hw : Region.wanted ⟨dst, op, ty, pos, aft, gd⟩ (yielded ol.toArray a.tmps) = false)
    (h : ∀ K : Act → Prop, (∀ a', RW P ol Q r a' w → K a') → Oper.quiet P ⟨dst, .move (.const undef), ty, pos, aft, none⟩ a (fun _ => True) K) : RW P ol Q (i :: r) a w := by
  refine ⟨_, ho, ?_⟩
  rw [if_neg (by rw [hw]; exact Bool.false_ne_true)]
  obtain ⟨v, hv, hk⟩ := h _ fun _ h => h
  have h1 := hv w trivial
  unfold Oper.quietAt at h1
  rw [BigFrame.run_move (.const undef) rfl] at h1
  obtain ⟨h2, h3⟩ := h1
  have h3 : v = undef := by
    first
      | exact h3
      | exact h3.symm
      | exact h2
      | exact h2.symm
  subst h3
  exact hk
theorem rw_quiet {ol : List Oper} {Q : Exit → Act → World → Prop} {i : Nat} {r : List Nat} {a : Act} {w : World} {o : Oper} (ho : ol[i]? = some o) (ht : tame o = true) (hw : Region.wanted o (yielded ol.toArray a.tmps) = true)
    (h : ∀ K : Act → Prop, (∀ a', RW P ol Q r a' w → K a') → o.quiet P a (fun w' => ∃ p : Regrown, w' = grow (redrawn w p.d) p.os) K) : RW P ol Q (i :: r) a w :=
  ⟨o, ho, by rw [if_pos hw, if_pos ht]; exact h _ fun _ h => h⟩
theorem rw_call {ol : List Oper} {Q : Exit → Act → World → Prop} {i : Nat} {r : List Nat} {a : Act} {w : World} {o : Oper} (ho : ol[i]? = some o) (ht : tame o = false) (hw : Region.wanted o (yielded ol.toArray a.tmps) = true)
    (h : ∀ K : Act → World → Prop, (∀ a' w', Ext w w' → RW P ol Q r a' w' → K a' w') → o.wp P a w K Q) : RW P ol Q (i :: r) a w :=
  ⟨o, ho, by rw [if_pos hw, if_neg (by rw [ht]; exact Bool.false_ne_true)]; exact h _ fun _ _ h k => ⟨h, k⟩⟩
end
end Go.Proofs.Ytgplmbchlahbkaa
