/-
  A region that draws its order, walked once, whose calls may write what was there: what only reads is shown to yield one value in every world of a class, and every call keeps within the class (it may narrow it). One walk serves every order. Conditions: those of the check at the beginning.
-/
import Derived.Test.YtgplmbchlahbkaaRegion2
namespace Go.Proofs.Ytgplmbchlahbkaa
open Go Go.Sort Go.RowKit
set_option linter.unusedVariables false

/-- A world of the class S. -/
structure Wrap (S : World → Prop) where
  w : World
  h : S w
/-- XRegion's check, the check for nil among what only reads. -/
def sched2 (md : Region.Mode) (ops : Array Oper) : List Nat → Array Bool → Bool
  | [], listed => (Region.ready md ops listed).isEmpty
  | i :: r, listed =>
    (match ops[i]? with
    | none => false
    | some o => if tame2 o then (Region.ready md ops listed).contains i && Region.free md ops listed i else Region.ready md ops listed == [i]) && sched2 md ops r (listed.setIfInBounds i true)

section
variable {P : Program} {ops : Array Oper} {md : Region.Mode}

/-- The walk in the order of the list, in a class of worlds. -/
def RG (P : Program) (ol : List Oper) (Q : Exit → Act → World → Prop) : List Nat → (World → Prop) → Act → World → Prop
  | [], _, a, w => Q .normal a w
  | i :: r, S, a, w => ∃ o, ol[i]? = some o ∧
    if Region.wanted o (yielded ol.toArray a.tmps) then
      if tame2 o then o.quiet P a (fun w' => ∃ p : Wrap S, w' = p.w) (fun a' => RG P ol Q r S a' w)
      else o.wp P a w (fun a' w' => ∃ S' : World → Prop, (∀ x, S' x → S x) ∧ S' w' ∧ RG P ol Q r S' a' w') Q
    else RG P ol Q r S (a.put o.dst undef) w
theorem wpAnyH_stronger {Q : Exit → Act → World → Prop} {S S' : World → Prop} (hs : ∀ x, S' x → S x) : ∀ (fuel : Nat) (listed : Array Bool) (a : Act) (w : World), wpAnyH P md ops Q S' fuel listed a w → wpAnyH P md ops Q S fuel listed a w
  | 0, _, _, _, h => h
  | fuel + 1, _, _, _, h => ⟨h.1, fun i hi => wpOp_mono (fun a1 w1 h1 => ⟨hs _ h1.1, wpAnyH_stronger hs fuel _ a1 w1 h1.2⟩) (h.2 i hi)⟩
theorem RG.held {ol : List Oper} {Q : Exit → Act → World → Prop} (hs : Region.noSelect ol.toArray = true) (hQ : ∀ c (a : Act) d v w, Q (.panic c) (a.put d v) w → Q (.panic c) a w) :
    ∀ (l : List Nat) (S : World → Prop) (listed : Array Bool) (a : Act) (w : World), S w → sched2 md ol.toArray l listed = true → RG P ol Q l S a w → wpAnyH P md ol.toArray Q S l.length listed a w
  | [], S, listed, a, w, _, hB, h => wpAnyH_done (by simpa [sched2] using hB) h _
  | i :: r, S, listed, a, w, hS, hB, h => by
    obtain ⟨o, ho', h⟩ := h
    have ho : ol.toArray[i]? = some o := by simpa using ho'
    simp only [sched2, ho, Bool.and_eq_true] at hB
    obtain ⟨hB1, hB2⟩ := hB
    by_cases ht : tame2 o = true
    · rw [if_pos ht, Bool.and_eq_true] at hB1
      by_cases hw : Region.wanted o (yielded ol.toArray a.tmps) = true
      · rw [if_pos hw, if_pos ht] at h
        obtain ⟨v, hv, hn⟩ := h
        exact wpAnyH_take ho hs hB1.2 hB1.1 (fun c a w => hQ c a o.dst v w) (Or.inl ⟨hw, fun w' hx => tame2_yields ht (hv w' ⟨⟨w', hx⟩, rfl⟩)⟩) hS (RG.held hs hQ r S _ _ w hS hB2 hn)
      · rw [if_neg hw] at h
        exact wpAnyH_take ho hs hB1.2 hB1.1 (fun c a w => hQ c a o.dst undef w) (Or.inr ⟨by simpa using hw, rfl⟩) hS (RG.held hs hQ r S _ _ w hS hB2 h)
    · rw [if_neg ht] at hB1
      have hr : Region.ready md ol.toArray listed = [i] := by simpa using hB1
      refine wpAnyH_all hr (by simp) (fun j hj => ?_)
      obtain rfl : j = i := by simpa using hj
      unfold wpOp
      simp only [ho]
      by_cases hw : Region.wanted o (yielded ol.toArray a.tmps) = true
      · rw [if_pos hw, if_neg ht] at h
        rw [if_pos hw]
        refine .inl (Oper.wp_mono (fun a' w' h1 => ?_) h)
        obtain ⟨S', hsub, hS', h2⟩ := h1
        exact ⟨hsub _ hS', wpAnyH_stronger hsub _ _ _ _ (RG.held hs hQ r S' _ _ w' hS' hB2 h2)⟩
      · rw [if_neg hw] at h
        rw [if_neg hw]
        exact ⟨hS, RG.held hs hQ r S _ _ w hS hB2 h⟩
theorem rg_start {id : Nat} {Q : Exit → Act → World → Prop} {a : Act} {w : World} {l : List Oper} (sch : List Nat) (S : World → Prop) (hm : P.follows .mixedOrders = true)
    (hB : (Region.noSelect l.toArray && (sch.length == l.length) && sched2 .any l.toArray sch (Array.replicate l.toArray.size false)) = true) (hQ : ∀ c (a : Act) d v w, Q (.panic c) (a.put d v) w → Q (.panic c) a w)
    (hS : S w.drew) (h : Nonempty (Wrap S) → RG P l Q sch S a w.drew) : (Code.region id l.toArray true).wp P Q a w := by
  simp only [Bool.and_eq_true, beq_iff_eq] at hB
  refine wp_region_held (S := S) hm ?_
  have := RG.held (md := .any) hB.1.1 hQ sch S _ a w.drew hS hB.2 (h ⟨⟨_, hS⟩⟩)
  rw [hB.1.2] at this
  simpa using this
theorem rg_nil {ol : List Oper} {Q : Exit → Act → World → Prop} {S : World → Prop} {a : Act} {w : World} (h : Q .normal a w) : RG P ol Q [] S a w := h
theorem rg_skip {ol : List Oper} {Q : Exit → Act → World → Prop} {S : World → Prop} {i : Nat} {r : List Nat} {a : Act} {w : World} {dst : Option Tmp} {op : Op} {ty : TypeId} {pos : String} {aft : Array Edge} {gd : Option (Nat × Bool)} (ho : ol[i]? = some ⟨dst, op, ty, pos, aft, gd⟩) (hw : Region.wanted ⟨dst, op, ty, pos, aft, gd⟩ (yielded ol.toArray a.tmps) = false)
    (h : ∀ K : Act → Prop, (∀ a', RG P ol Q r S a' w → K a') → Oper.quiet P ⟨dst, .move (.const undef), ty, pos, aft, none⟩ a (fun _ => True) K) : RG P ol Q (i :: r) S a w := by
  refine ⟨_, ho, ?_⟩
  rw [if_neg (by rw [hw]; exact Bool.false_ne_true)]
  obtain ⟨v, hv, hk⟩ := h _ fun _ h => h
  have h1 := hv w trivial
  unfold Oper.quietAt at h1
  rw [BigFrame.run_move (.const undef) rfl] at h1
  obtain ⟨h2, h3⟩ := h1
  have h3 : v = undef := by
    first
      | exact h3
      | exact h3.symm
  subst h3
  exact hk
theorem rg_quiet {ol : List Oper} {Q : Exit → Act → World → Prop} {S : World → Prop} {i : Nat} {r : List Nat} {a : Act} {w : World} {o : Oper} (ho : ol[i]? = some o) (ht : tame2 o = true) (hw : Region.wanted o (yielded ol.toArray a.tmps) = true)
    (h : ∀ K : Act → Prop, (∀ a', RG P ol Q r S a' w → K a') → o.quiet P a (fun w' => ∃ p : Wrap S, w' = p.w) K) : RG P ol Q (i :: r) S a w :=
  ⟨o, ho, by rw [if_pos hw, if_pos ht]; exact h _ fun _ h => h⟩
theorem rg_call {ol : List Oper} {Q : Exit → Act → World → Prop} {S : World → Prop} {i : Nat} {r : List Nat} {a : Act} {w : World} {o : Oper} (ho : ol[i]? = some o) (ht : tame2 o = false) (hw : Region.wanted o (yielded ol.toArray a.tmps) = true)
    (h : ∀ K : Act → World → Prop, (∀ (S' : World → Prop) a' w', (∀ x, S' x → S x) → S' w' → (Nonempty (Wrap S') → RG P ol Q r S' a' w') → K a' w') → o.wp P a w K Q) : RG P ol Q (i :: r) S a w :=
  ⟨o, ho, by rw [if_pos hw, if_neg (by rw [ht]; exact Bool.false_ne_true)]; exact h _ fun S' _ _ h1 h2 h3 => ⟨S', h1, h2, h3 ⟨⟨_, h2⟩⟩⟩⟩
end
end Go.Proofs.Ytgplmbchlahbkaa
