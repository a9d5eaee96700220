/-
  Structs in blocks of their own, a list of cells each: what is read, what stays, what is filled in. No program in sight. Conditions stand at each.
-/
import Derived.Test.YtgplmbchlahbkaaKit
namespace Go.Proofs.Ytgplmbchlahbkaa
open Go Go.RowKit
set_option linter.unusedVariables false

/-- The block g, from base on, holds the values vs, a cell each, and may be written. -/
structure BoxV (w : World) (base g : Nat) (vs : List Value) : Prop where
  lo : base ≤ g
  hi : g < w.heap.size
  c : ∀ (j : Nat) (v : Value), vs[j]? = some v → w.cell? ⟨g, j, none⟩ = some v
  f : ∀ j, w.frozen? ⟨g, j, none⟩ = false
theorem BoxV.ext {w w' : World} {base g : Nat} {vs : List Value} (h : BoxV w base g vs) (k : Ext w w') : BoxV w' base g vs :=
  ⟨h.lo, Nat.lt_of_lt_of_le h.hi k.size, fun j v hv => Ext.cell k (h.c j v hv), fun j => by rw [Below.frozen k (p := ⟨g, j, none⟩) h.hi]; exact h.f j⟩
theorem BoxV.base {w : World} {base base' g : Nat} {vs : List Value} (h : BoxV w base g vs) (hb : base' ≤ base) : BoxV w base' g vs := ⟨Nat.le_trans hb h.lo, h.hi, h.c, h.f⟩
theorem BoxV.new (w : World) (base : Nat) (cur : Array Value) (vs : List Value) (t : TypeId) (g : Nat) (hg : g = w.heap.size) (hb : base ≤ g) (hc : cur.toList = vs) : BoxV (w.alloc (.cells cur t)) base g vs := by
  subst hg
  refine ⟨hb, by simp, fun j v hv => ?_, fun j => World.frozen?_alloc_at _ _ _ _ rfl⟩
  rw [World.cell?_alloc_mark, ← Array.getElem?_toList, hc, hv]
theorem BoxV.other {w w' : World} {base g : Nat} {row : Option Nat} {vs : List Value} (h : BoxV w base g vs) (k : w.grownBy w' row) (hne : row ≠ some g) : BoxV w' base g vs := by
  have hb := k.block g h.hi (fun e => hne e.symm)
  refine ⟨h.lo, Nat.lt_of_lt_of_le h.hi k.size, fun j v hv => (World.cell?_of_block hb).trans (h.c j v hv), fun j => ?_⟩
  have := h.f j
  simp only [World.frozen?, hb] at this ⊢
  exact this
/-- What is stored, cell by cell. -/
def fillV (w : World) (g : Nat) : Nat → List Value → World
  | _, [] => w
  | j, v :: vs => fillV (w.setCell ⟨g, j, none⟩ v) g (j + 1) vs
theorem fillV_grown (g : Nat) : ∀ (vs : List Value) (j : Nat) (w0 w : World), w0.grownBy w (some g) → w0.grownBy (fillV w g j vs) (some g)
  | [], _, _, _, h => h
  | v :: vs, j, w0, w, h => fillV_grown g vs (j + 1) w0 _ ⟨h.os, h.tape, h.output, by simpa [World.setCell] using h.size, fun i hi hne => (Below.heap_setCell w ⟨g, j, none⟩ v i (by rintro rfl; exact hne rfl)).trans (h.block i hi hne)⟩
theorem fillV_size (g : Nat) : ∀ (vs : List Value) (j : Nat) (w : World), (fillV w g j vs).heap.size = w.heap.size
  | [], _, _ => rfl
  | v :: vs, j, w => by rw [fillV, fillV_size g vs]; simp [World.setCell]
theorem fillV_frozen (g : Nat) (a : Addr) : ∀ (vs : List Value) (j : Nat) (w : World), (fillV w g j vs).frozen? a = w.frozen? a
  | [], _, _ => rfl
  | v :: vs, j, w => by rw [fillV, fillV_frozen g a vs]; simp
theorem fillV_low (g : Nat) (k : Nat) : ∀ (vs : List Value) (j : Nat) (w : World), k < j → (fillV w g j vs).cell? ⟨g, k, none⟩ = w.cell? ⟨g, k, none⟩
  | [], _, _, _ => rfl
  | v :: vs, j, w, h => by
    rw [fillV, fillV_low g k vs (j + 1) _ (by omega)]
    exact World.cell?_setCell_other (h := by simp <;> omega) ..
theorem fillV_cell (g : Nat) (k : Nat) : ∀ (vs : List Value) (j : Nat) (w : World) (v : Value), (∀ i, i < vs.length → ∃ u, w.cell? ⟨g, j + i, none⟩ = some u) → vs[k]? = some v → (fillV w g j vs).cell? ⟨g, j + k, none⟩ = some v
  | [], _, _, _, _, h => by simp at h
  | u :: vs, j, w, v, hw, h => by
    rw [fillV]
    cases k with
    | zero =>
      simp at h
      subst h
      show (fillV (w.setCell ⟨g, j, none⟩ u) g (j + 1) vs).cell? ⟨g, j, none⟩ = some u
      rw [fillV_low g j vs (j + 1) _ (by omega)]
      obtain ⟨x, hx⟩ := hw 0 (by simp)
      exact World.cell?_setCell_same (h := hx) ..
    | succ k =>
      have := fillV_cell g k vs (j + 1) (w.setCell ⟨g, j, none⟩ u) v (fun i hi => by
        obtain ⟨x, hx⟩ := hw (i + 1) (by simp; omega)
        refine ⟨x, ?_⟩
        rw [World.cell?_setCell_other (h := by simp <;> omega)]
        rwa [show j + 1 + i = j + (i + 1) by omega]) (by simpa using h)
      rwa [show j + 1 + k = j + (k + 1) by omega] at this
theorem BoxV.fill {w : World} {base g : Nat} {us vs : List Value} (h : BoxV w base g us) (hl : vs.length ≤ us.length) : BoxV (fillV w g 0 vs) base g vs :=
  ⟨h.lo, by rw [fillV_size]; exact h.hi, fun j v hv => by
    have := fillV_cell g j vs 0 w v (fun i hi => by
      have : i < us.length := by omega
      exact ⟨us[i], by rw [Nat.zero_add]; exact h.c i _ (by simp)⟩) hv
    rwa [Nat.zero_add] at this, fun j => by rw [fillV_frozen]; exact h.f j⟩
/-- One cell is stored. -/
theorem BoxV.put {w : World} {base g : Nat} {vs : List Value} (h : BoxV w base g vs) (j : Nat) (v : Value) : BoxV (w.setCell ⟨g, j, none⟩ v) base g (vs.set j v) :=
  ⟨h.lo, by simpa [World.setCell] using h.hi, fun i u hu => by
    rw [List.getElem?_set] at hu
    by_cases hij : j = i
    · subst hij
      rw [if_pos rfl] at hu
      split at hu
      · rename_i hlt
        cases hu
        exact World.cell?_setCell_same (h := h.c j _ (List.getElem?_eq_getElem hlt)) ..
      · cases hu
    · rw [if_neg hij] at hu
      rw [World.cell?_setCell_other (h := by simp <;> omega)]
      exact h.c i u hu, fun i => by simp [h.f i]⟩
theorem grown_put {a w : World} {g : Nat} (h : a.grownBy w (some g)) (o : Nat) (u : Value) : a.grownBy (w.setCell ⟨g, o, none⟩ u) (some g) :=
  ⟨h.os, h.tape, h.output, by simpa [World.setCell] using h.size, fun i hi hne => (Below.heap_setCell w ⟨g, o, none⟩ u i (by rintro rfl; exact hne rfl)).trans (h.block i hi hne)⟩
theorem grown_refl (w : World) (row : Option Nat) : w.grownBy w row := World.grownBy.refl _ _
theorem grown_ext {a w : World} (h : Ext a w) (row : Option Nat) : a.grownBy w row := ⟨h.os, h.tape, h.output, h.size, fun i hi _ => h.block i hi⟩
theorem grown_below {base g : Nat} {w w' : World} (h : w.grownBy w' (some g)) (hb : base ≤ g) (hs : base ≤ w.heap.size) : Below base w w' := (Below.refl _ _).grown h hs (fun k hk => by cases hk; exact hb)
theorem grown_tr {a b c : World} {row : Option Nat} (h : a.grownBy b row) (k : b.grownBy c row) : a.grownBy c row :=
  ⟨k.os.trans h.os, k.tape.trans h.tape, k.output.trans h.output, Nat.le_trans h.size k.size, fun i hi hne => (k.block i (Nat.lt_of_lt_of_le hi h.size) hne).trans (h.block i hi hne)⟩
/-- Writes from base on. -/
theorem below_ext {base : Nat} {w w' w'' : World} (h : Below base w w') (k : Ext w' w'') (hs : base ≤ w'.heap.size) : Below base w w'' := Below.trans h (k.mono hs)
theorem fillV_below {base : Nat} {w0 w : World} {g : Nat} (h : Below base w0 w) (hg : base ≤ g) : ∀ (vs : List Value) (j : Nat), Below base w0 (fillV w g j vs)
  | vs, j => by
    induction vs generalizing w j with
    | nil => exact h
    | cons v vs ih => exact ih (h.setCell hg _) (j + 1)
theorem BoxV.kept {w w' : World} {base b0 g : Nat} {vs : List Value} (h : BoxV w base g vs) (k : Below b0 w w') (hb : g < b0) : BoxV w' base g vs :=
  ⟨h.lo, Nat.lt_of_lt_of_le h.hi k.size, fun j v hv => by rw [Below.cell k hb]; exact h.c j v hv, fun j => by rw [Below.frozen k (p := ⟨g, j, none⟩) hb]; exact h.f j⟩
end Go.Proofs.Ytgplmbchlahbkaa
