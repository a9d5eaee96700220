/-
  Lemmas on slices of numbers in the model's memory. No program in sight. Conditions stand at each.
-/
import Derived.Test.YtgplmbchlahbkaaKit
namespace Go.Proofs.Ytgplmbchlahbkaa
open Go.RowKit
set_option linter.unusedVariables false

/-- The slice (p, n, cap) holds the numbers zs of the kind kd in the world w. -/
structure SlI (kd : IntKind) (w : World) (p : Option Addr) (n cap : Nat) (zs : List Int) : Prop where
  len : zs.length = n
  le : n ≤ cap
  max : cap ≤ 9223372036854775807
  nil : p = none → cap = 0
  cells : 0 < n → ∃ b o, p = some ⟨b, o, none⟩ ∧ ∀ i x, zs[i]? = some x → w.cell? ⟨b, o + i, none⟩ = some (.int kd x)
  wf : ∀ x ∈ zs, (Lit.int kd x).wf = true
theorem SlI.ext {kd : IntKind} {w w' : World} {p : Option Addr} {n cap : Nat} {zs : List Int} (h : SlI kd w p n cap zs) (he : Ext w w') : SlI kd w' p n cap zs :=
  ⟨h.len, h.le, h.max, h.nil, fun hn => by
    obtain ⟨b, o, hp, hh⟩ := h.cells hn
    exact ⟨b, o, hp, fun i x hx => Ext.cell he (hh i x hx)⟩, h.wf⟩
theorem SlI.empty (kd : IntKind) (w : World) : SlI kd w none 0 0 [] := ⟨rfl, Nat.le_refl _, by decide, fun _ => rfl, fun h => absurd h (Nat.lt_irrefl _), fun x hx => by cases hx⟩
theorem SlI.take {kd : IntKind} {w : World} {p : Option Addr} {n cap : Nat} {zs : List Int} (h : SlI kd w p n cap zs) (k : Nat) (hk : k ≤ n) : SlI kd w p k cap (zs.take k) :=
  ⟨by rw [List.length_take, h.len]; omega, by have := h.le; omega, h.max, h.nil, (fun hl => by
    obtain ⟨b, o, hp, hh⟩ := h.cells (by omega)
    refine ⟨b, o, hp, fun i x hx => hh i x ?_⟩
    rw [List.getElem?_take] at hx
    split at hx
    · exact hx
    · cases hx), fun x hx => h.wf x (List.mem_of_mem_take hx)⟩
theorem SlI.at {kd : IntKind} {w : World} {p : Option Addr} {n cap : Nat} {zs : List Int} (h : SlI kd w p n cap zs) (k : Nat) (hk : k < n) : ∃ b o x, p = some ⟨b, o, none⟩ ∧ zs[k]? = some x ∧ w.cell? ⟨b, o + k, none⟩ = some (.int kd x) ∧ (Lit.int kd x).wf = true := by
  obtain ⟨b, o, hp, hh⟩ := h.cells (by omega)
  have hkl : k < zs.length := by rw [h.len]; exact hk
  exact ⟨b, o, zs[k], hp, by simp, hh k _ (by simp), h.wf _ (by simp)⟩
theorem SlI.lit (kd : IntKind) (e : TypeId) (w : World) (n : Nat) (cur : Array Value) (mark : Nat × Nat) (zs : List Int) (hl : zs.length = n) (hcur : cur.toList = zs.map (Value.int kd)) (hn : n ≤ 140737488355328) (hw : ∀ x ∈ zs, (Lit.int kd x).wf = true) :
    SlI kd (w.alloc (.cells cur e mark)) (some ⟨w.heap.size, 0, none⟩) n n zs :=
  ⟨hl, Nat.le_refl _, by omega, (fun h => by cases h), fun _ => ⟨w.heap.size, 0, rfl, fun i x hx => by
    rw [World.cell?_alloc_mark, Nat.zero_add, ← Array.getElem?_toList, hcur, List.getElem?_map, hx]
    rfl⟩, hw⟩
theorem sli_of_row {kd : IntKind} {w : World} {x : Addr} {n cap : Nat} {zs : List Int} (hl : n ≤ cap) (hm : cap ≤ maxLen) (hz : zs.length = cap) (hc : ∀ i, i < zs.length → w.cell? (x.add i) = some (.int kd (zs.getD i 0))) (hw : ∀ k ∈ zs, (Lit.int kd k).wf = true) :
    ∃ l, SlI kd w (some x) n cap l := by
  refine ⟨zs.take n, by simp [hz]; omega, hl, by unfold maxLen at hm; omega, (fun h => by cases h), fun hn => ?_, fun y hy => hw y (List.mem_of_mem_take hy)⟩
  obtain ⟨b, o, sp⟩ := x
  have h0 := hc 0 (by omega)
  have hsp : sp = none := by simpa [Addr.add] using World.cell?_spot h0
  subst hsp
  refine ⟨b, o, rfl, fun i y hy => ?_⟩
  rw [List.getElem?_take] at hy
  split at hy
  · have hi : i < zs.length := (List.getElem?_eq_some_iff.1 hy).1
    have h1 := hc i hi
    rw [Addr.add_lit] at h1
    rw [h1, List.getD_eq_getElem?_getD, hy]
    rfl
  · cases hy

end Go.Proofs.Ytgplmbchlahbkaa
