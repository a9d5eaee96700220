/-
  Lemmas on slices of structs in the model's memory, whatever the number of their fields of one cell each. No program in sight. Conditions stand at each.
-/
import Derived.Test.YtgplmbchlahbkaaInts
import Derived.Deep.Slices
import Derived.Deep.Fields
import Derived.ChangeSame
namespace Go.Proofs.Ytgplmbchlahbkaa
open Go Go.RowKit Go.ChangeShapes Go.WideShapes Go.Deep
set_option linter.unusedVariables false

/-- The slice (p, n, cap) holds the rows L, of K cells each, in the world w. -/
structure SlS (K : Nat) (w : World) (p : Option Addr) (n cap : Nat) (L : List (List Value)) : Prop where
  len : L.length = n
  le : n ≤ cap
  max : cap ≤ 9223372036854775807
  nil : p = none → cap = 0
  wid : ∀ x ∈ L, x.length = K
  cells : 0 < n → ∃ b o, p = some ⟨b, o, none⟩ ∧ ∀ (i : Nat) (x : List Value), L[i]? = some x → ∀ (j : Nat) (v : Value), x[j]? = some v → w.cell? ⟨b, o + (i * K + j), none⟩ = some v
theorem SlS.ext {K : Nat} {w w' : World} {p : Option Addr} {n cap : Nat} {L : List (List Value)} (h : SlS K w p n cap L) (he : Ext w w') : SlS K w' p n cap L :=
  ⟨h.len, h.le, h.max, h.nil, h.wid, fun hn => by
    obtain ⟨b, o, hp, hh⟩ := h.cells hn
    exact ⟨b, o, hp, fun i x hx j v hv => Ext.cell he (hh i x hx j v hv)⟩⟩
theorem SlS.empty (K : Nat) (w : World) : SlS K w none 0 0 [] := ⟨rfl, Nat.le_refl _, by decide, fun _ => rfl, (fun x hx => by cases hx), fun h => absurd h (Nat.lt_irrefl _)⟩
theorem SlS.take {K : Nat} {w : World} {p : Option Addr} {n cap : Nat} {L : List (List Value)} (h : SlS K w p n cap L) (k : Nat) (hk : k ≤ n) : SlS K w p k cap (L.take k) :=
  ⟨by rw [List.length_take, h.len]; omega, by have := h.le; omega, h.max, h.nil, (fun x hx => h.wid x (List.mem_of_mem_take hx)), fun hl => by
    obtain ⟨b, o, hp, hh⟩ := h.cells (by omega)
    refine ⟨b, o, hp, fun i x hx => hh i x ?_⟩
    rw [List.getElem?_take] at hx
    split at hx
    · exact hx
    · cases hx⟩
/-- The address of v[k:], elements of K cells. -/
def tailS (K : Nat) (p : Option Addr) (cap k : Nat) : Option Addr := if cap = k then p else p.map (·.add (k * K))
theorem SlS.drop {K : Nat} {w : World} {p : Option Addr} {n cap : Nat} {L : List (List Value)} (h : SlS K w p n cap L) (k : Nat) (hk : k ≤ n) : SlS K w (tailS K p cap k) (n - k) (cap - k) (L.drop k) :=
  ⟨by rw [List.length_drop, h.len], by have := h.le; omega, by have := h.max; omega, (fun hp => by
    unfold tailS at hp
    split at hp
    · omega
    · cases p with
      | none => have := h.nil rfl; omega
      | some a => simp at hp), (fun x hx => h.wid x (List.mem_of_mem_drop hx)), fun hl => by
    obtain ⟨b, o, hp, hh⟩ := h.cells (by omega)
    refine ⟨b, o + k * K, ?_, fun i x hx j v hv => ?_⟩
    · have := h.le
      unfold tailS
      rw [if_neg (by omega), hp]
      simp [Addr.add_lit]
    · rw [List.getElem?_drop] at hx
      have := hh (k + i) x hx j v hv
      rw [show o + k * K + (i * K + j) = o + ((k + i) * K + j) by rw [Nat.add_mul]; omega]
      exact this⟩
/-- The k-th row. -/
theorem SlS.at {K : Nat} {w : World} {p : Option Addr} {n cap : Nat} {L : List (List Value)} (h : SlS K w p n cap L) (k : Nat) (hk : k < n) : ∃ b o x, p = some ⟨b, o, none⟩ ∧ L[k]? = some x ∧ x.length = K ∧ ∀ (j : Nat) (v : Value), x[j]? = some v → w.cell? ⟨b, o + k * K + j, none⟩ = some v := by
  obtain ⟨b, o, hp, hh⟩ := h.cells (by omega)
  have hkl : k < L.length := by rw [h.len]; exact hk
  exact ⟨b, o, L[k], hp, by simp, h.wid _ (by simp), fun j v hv => by rw [Nat.add_assoc]; exact hh k _ (by simp) j v hv⟩

section
variable {H : Type} {enc : TypeId × Value → H} {P : Program} {w : World} {base : Nat} {spare : Nat → Bool} {held : Bool}
/-- What an argument's reading says of a slice of structs: its rows, and each field's own reading. -/
theorem sls_of_arg {t e : TypeId} {fs : Array Field} {fuel : Nat} {p : Option Addr} {n cap : Nat} {x : DataW H × List MemPlace} (ht : P.underlying t = some (.slice e)) (he : P.underlying e = some (.struct fs))
    (hone : oneCellFields P fs = true) (hC : P.cellsOf e = fs.size) (hpos : 0 < fs.size) (h : DataW.trod enc P w base spare held fuel t [.slice p n cap] = some x) :
    ∃ L, SlS fs.size w p n cap L ∧ ∀ r ∈ L, ∀ (j : Nat) (f : Field), fs[j]? = some f → ∃ (v : Value) (y : DataW H × List MemPlace) (m : Nat), r[j]? = some v ∧ DataW.trod enc P w base spare held m f.type [v] = some y := by
  rcases open_slice ht h with ⟨h0, -⟩ | ⟨a, len, cap', m, fl, D, Pl, hcs, hb, hl, hm, hmm, hx, hi⟩
  · simp at h0
    obtain ⟨rfl, rfl, rfl⟩ := h0
    exact ⟨[], SlS.empty _ _, fun r hr => by cases hr⟩
  · simp at hcs
    obtain ⟨rfl, rfl, rfl⟩ := hcs
    have hlm : n ≤ m := by rw [hmm]; split <;> omega
    have hi2 : ∀ i, i < n → ∃ cs' : List Value, cs'.length = fs.size ∧ (∀ j, j < fs.size → w.cell? (a.add (i * fs.size + j)) = cs'[j]?) ∧ ∀ (j : Nat) (f : Field), fs[j]? = some f → ∃ (v : Value) (y : DataW H × List MemPlace) (m : Nat), cs'[j]? = some v ∧ DataW.trod enc P w base spare held m f.type [v] = some y := by
      intro i hin
      obtain ⟨cs', hc, ht'⟩ := hi i (by omega)
      rw [hC] at hc
      obtain ⟨ys, n', hn', hy, hlen, hyl, hf⟩ := DataW.trod_struct he ht'
      obtain ⟨_, hcl, hat⟩ := World.cells?_some hc
      refine ⟨cs', hcl, fun j hj => by rw [← Go.Deep.add_add]; exact hat j hj, fun j f hj => ?_⟩
      obtain ⟨ho, hk⟩ := hone_of hone j f hj
      have hjl : j < fs.size := (Array.getElem?_eq_some_iff.1 hj).1
      have h1 := hf j f hj
      rw [ho, hk] at h1
      have hone' : (cs'.drop j).take 1 = [cs'[j]'(by omega)] := by
        rw [List.drop_eq_getElem_cons (by omega)]
        rfl
      rw [hone'] at h1
      have hys : ys[j]? = some (ys[j]'(by omega)) := List.getElem?_eq_getElem (by omega)
      exact ⟨_, _, _, List.getElem?_eq_getElem (by omega), h1.trans hys⟩
    obtain ⟨f, hf⟩ := choose_lt hi2
    have hlen : ((List.range n).map f).length = n := by simp
    refine ⟨(List.range n).map f, ⟨hlen, hl, by unfold maxLen at hm; omega, (fun hp => by cases hp), ?_, fun hn => ?_⟩, fun r hr => ?_⟩
    · intro x hx
      obtain ⟨i, hir, rfl⟩ := List.mem_map.1 hx
      exact (hf i (List.mem_range.1 hir)).1
    · obtain ⟨b, o, sp⟩ := a
      obtain ⟨h1, h2, -⟩ := hf 0 hn
      have h0 := h2 0 hpos
      rw [List.getElem?_eq_getElem (by omega)] at h0
      have hsp : sp = none := by simpa [Addr.add] using World.cell?_spot h0
      subst hsp
      refine ⟨b, o, rfl, fun i x hx j v hv => ?_⟩
      have hin : i < n := by
        have := (List.getElem?_eq_some_iff.1 hx).1
        rw [hlen] at this
        exact this
      rw [List.getElem?_map, List.getElem?_range hin] at hx
      simp at hx
      subst hx
      obtain ⟨k1, k2, -⟩ := hf i hin
      have hj : j < fs.size := by rw [← k1]; exact (List.getElem?_eq_some_iff.1 hv).1
      have := k2 j hj
      rw [Addr.add_lit, hv] at this
      exact this
    · obtain ⟨i, hir, rfl⟩ := List.mem_map.1 hr
      exact (hf i (List.mem_range.1 hir)).2.2
end
theorem list_typed {α : Type} {E : α → List Value} {ok : α → Prop} : ∀ (L : List (List Value)), (∀ r ∈ L, ∃ a, r = E a ∧ ok a) → ∃ xs : List α, L = xs.map E ∧ ∀ a ∈ xs, ok a
  | [], _ => ⟨[], rfl, fun a h => by cases h⟩
  | r :: L, h => by
    obtain ⟨a, rfl, ha⟩ := h r (by simp)
    obtain ⟨xs, rfl, hx⟩ := list_typed L (fun r hr => h r (by simp [hr]))
    exact ⟨a :: xs, rfl, fun b hb => by
      rcases List.mem_cons.1 hb with rfl | hb
      · exact ha
      · exact hx b hb⟩
end Go.Proofs.Ytgplmbchlahbkaa
