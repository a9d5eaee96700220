/-
  The plain law of drift: which readings keep a bound, and which one is the first that does not. No program in sight.
-/
import Derived.Test.YtjghjnnmndibcaaSpanB
namespace Go.Proofs.Ytjghjnnmndibcaa
set_option linter.unusedVariables false

abbrev RdD := Int × Int
def keepB (a b : RdD) (p : Int) : Bool := decide (0 ≤ b.2 - a.2) && (decide ((b.1 - a.1) * (1000000 - p) - 1000000 ≤ (b.2 - a.2) * 1000000) && decide ((b.2 - a.2) * 1000000 ≤ (b.1 - a.1) * (1000000 + p) + 1000000))
def gd (l : List RdD) (i : Nat) : RdD := l.getD i (0, 0)
def okAt (l : List RdD) (i : Nat) : Bool := isT (gd l i).1 && isT (gd l i).2 && (decide (i = 0) || decide ((gd l (i - 1)).1 ≤ (gd l i).1))
def allOk (l : List RdD) : Bool := (List.range l.length).all (okAt l)
def rowOk (l : List RdD) (p : Int) (i : Nat) : Bool := (List.range i).all fun k => keepB (gd l k) (gd l i) p
def fault (l : List RdD) (p : Int) : Int :=
  if okP p && allOk l then match (List.range l.length).find? (fun i => !rowOk l p i) with
    | some i => (i : Int) + 1
    | none => -1
  else 0
theorem fault_p {l : List RdD} {p : Int} (h : okP p = false) : fault l p = 0 := by unfold fault; rw [h]; rfl
theorem fault_bad {l : List RdD} {p : Int} {k : Nat} (hk : k < l.length) (h : okAt l k = false) : fault l p = 0 := by
  have : allOk l = false := List.all_eq_false.2 ⟨k, List.mem_range.2 hk, by rw [h]; decide⟩
  unfold fault
  rw [this, Bool.and_false]
  rfl
theorem allOk_of {l : List RdD} (h : ∀ i, i < l.length → okAt l i = true) : allOk l = true := List.all_eq_true.2 fun i hi => h i (List.mem_range.1 hi)
theorem find_first {n k : Nat} {q : Nat → Bool} (hk : k < n) (h : q k = true) (hb : ∀ i, i < k → q i = false) : (List.range n).find? q = some k := by
  rw [List.find?_range_eq_some]
  exact ⟨h, List.mem_range.2 hk, fun j hj => by rw [hb j hj]; rfl⟩
theorem fault_at {l : List RdD} {p : Int} {k : Nat} (hp : okP p = true) (ha : ∀ i, i < l.length → okAt l i = true) (hk : k < l.length) (hb : ∀ i, i < k → rowOk l p i = true) (h : rowOk l p k = false) : fault l p = (k : Int) + 1 := by
  unfold fault
  rw [hp, allOk_of ha, find_first hk (by rw [h]; rfl) (fun i hi => by rw [hb i hi]; rfl)]
  rfl
theorem fault_none {l : List RdD} {p : Int} (hp : okP p = true) (ha : ∀ i, i < l.length → okAt l i = true) (hb : ∀ i, i < l.length → rowOk l p i = true) : fault l p = -1 := by
  unfold fault
  have : (List.range l.length).find? (fun i => !rowOk l p i) = none := by
    rw [List.find?_range_eq_none]
    intro i hi
    rw [hb i hi]
    decide
  rw [hp, allOk_of ha, this]
  rfl
theorem row_all {l : List RdD} {p : Int} {i : Nat} (h : ∀ k, k < i → keepB (gd l k) (gd l i) p = true) : rowOk l p i = true := List.all_eq_true.2 fun k hk => h k (List.mem_range.1 hk)
theorem row_not {l : List RdD} {p : Int} {i k : Nat} (hk : k < i) (h : keepB (gd l k) (gd l i) p = false) : rowOk l p i = false := List.all_eq_false.2 ⟨k, List.mem_range.2 hk, by rw [h]; decide⟩
theorem row_is {l : List RdD} {p : Int} {i : Nat} (h : rowOk l p i = true) : ∀ k, k < i → keepB (gd l k) (gd l i) p = true := fun k hk => List.all_eq_true.1 h k (List.mem_range.2 hk)
/-- What 'no fault' says. -/
theorem fault_iff {l : List RdD} {p : Int} : fault l p = -1 ↔ okP p = true ∧ (∀ i, i < l.length → okAt l i = true) ∧ ∀ i, i < l.length → ∀ k, k < i → keepB (gd l k) (gd l i) p = true := by
  constructor
  · intro h
    cases hp : okP p
    · rw [fault_p hp] at h; omega
    · have ha : ∀ i, i < l.length → okAt l i = true := by
        intro i hi
        cases ho : okAt l i
        · rw [fault_bad hi ho] at h; omega
        · rfl
      refine ⟨rfl, ha, fun i hi k hk => ?_⟩
      unfold fault at h
      rw [hp, allOk_of ha] at h
      simp only [Bool.and_self, if_true] at h
      cases hf : (List.range l.length).find? (fun i => !rowOk l p i) with
      | some j => rw [hf] at h; simp at h; omega
      | none =>
        rw [List.find?_range_eq_none] at hf
        have := hf i hi
        exact row_is (by simpa using this) k hk
  · rintro ⟨hp, ha, hb⟩
    exact fault_none hp ha fun i hi => row_all (hb i hi)
theorem okAt_T {l : List RdD} {i : Nat} (h : okAt l i = true) : isT (gd l i).1 = true ∧ isT (gd l i).2 = true ∧ (0 < i → (gd l (i - 1)).1 ≤ (gd l i).1) := by
  unfold okAt at h
  simp only [Bool.and_eq_true, Bool.or_eq_true, decide_eq_true_eq] at h
  exact ⟨h.1.1, h.1.2, fun hi => by rcases h.2 with h | h <;> omega⟩
theorem okAt_up {l : List RdD} {n : Nat} (h : ∀ i, i < n → okAt l i = true) : ∀ (i k : Nat), k ≤ i → i < n → (gd l k).1 ≤ (gd l i).1
  | 0, k, hk, hi => by obtain rfl : k = 0 := by omega
                       exact Int.le_refl _
  | i + 1, k, hk, hi => by
    rcases Nat.lt_or_ge k (i + 1) with h1 | h1
    · have := okAt_up h i k (by omega) (by omega)
      have h2 := (okAt_T (h (i + 1) hi)).2.2 (by omega)
      simp only [Nat.add_sub_cancel] at h2
      omega
    · obtain rfl : k = i + 1 := by omega
      exact Int.le_refl _
theorem rat_keeps {r c p : Int} : (rat r (1000000 - p) 1000000 true - 1 ≤ c ↔ r * (1000000 - p) - 1000000 ≤ c * 1000000) ∧ (c ≤ rat r (1000000 + p) 1000000 false + 1 ↔ c * 1000000 ≤ r * (1000000 + p) + 1000000) := by
  unfold rat
  simp only [if_true, Bool.false_eq_true, if_false]
  generalize r * (1000000 - p) = x
  generalize r * (1000000 + p) = y
  omega
end Go.Proofs.Ytjghjnnmndibcaa
