/-
  Lemmas on rows of structs of which one is deleted; the contract of slices.Delete at net's mails. Conditions stand at each.
-/
import Derived.Test.YtgplmbchlahbkaaStructs2
import Derived.Test.YtgplmbchlahbkaaBox
import Derived.Deep.RegionLaw
namespace Go.Proofs.Ytgplmbchlahbkaa
open Go Go.RowKit
set_option linter.unusedVariables false

/-- Values stored one behind the other from place j on. -/
def layV (xs : List Value) : Nat → List Value → List Value
  | _, [] => xs
  | j, v :: vs => layV (xs.set j v) (j + 1) vs
theorem layV_app : ∀ (vs a c : List Value), vs.length ≤ c.length → layV (a ++ c) a.length vs = a ++ vs ++ c.drop vs.length
  | [], a, c, _ => by simp [layV]
  | v :: vs, a, c, h => by
    cases c with
    | nil => simp at h
    | cons x c =>
      have e : (a ++ x :: c).set a.length v = (a ++ [v]) ++ c := by simp
      have l : a.length + 1 = (a ++ [v]).length := by simp
      have := layV_app vs (a ++ [v]) c (by simpa using h)
      rw [layV, e, l, this]
      simp
theorem owns_lay {e : TypeId} {K base g n cap : Nat} : ∀ (vs : List Value) (j : Nat) (w : World) (xs : List Value), w.ownsRow base e K (.slice (some ⟨g, 0, none⟩) n cap) n xs →
    (w.setCells g j vs).ownsRow base e K (.slice (some ⟨g, 0, none⟩) n cap) n (layV xs j vs) ∧ w.grownBy (w.setCells g j vs) (some g)
  | [], _, _, _, h => ⟨h, World.grownBy.refl _ _⟩
  | v :: vs, j, w, xs, h => by
    obtain ⟨h1, g1⟩ := h.stored j v
    obtain ⟨h2, g2⟩ := owns_lay vs (j + 1) (w.setCell ⟨g, j, none⟩ v) (xs.set j v) h1
    exact ⟨h2, grown_tr g1 g2⟩
theorem owns_less {e : TypeId} {K base g n cap m : Nat} {w : World} {xs : List Value} (h : w.ownsRow base e K (.slice (some ⟨g, 0, none⟩) n cap) n xs) (hm : m ≤ n) :
    w.ownsRow base e K (.slice (some ⟨g, 0, none⟩) m cap) m (xs.take (m * K)) := by
  have hl : m * K ≤ n * K := Nat.mul_le_mul_right _ hm
  rcases h.2 with ⟨h', _⟩ | ⟨g', cap', cur, h', hb, hg, hnc, hcm, hcs, htake⟩
  · cases h'
  · cases h'
    refine ⟨by rw [List.length_take, h.1]; omega, .inr ⟨g, cap, cur, rfl, hb, hg, by omega, hcm, hcs, ?_⟩⟩
    rw [← htake, List.take_take, Nat.min_eq_left hl]
theorem flat_split {L : List (List Value)} {i : Nat} (hi : i < L.length) : L.flatten = (L.take i).flatten ++ (L[i] ++ (L.drop (i + 1)).flatten) := by
  conv => lhs; rw [← List.take_append_drop i L, List.flatten_append, List.drop_eq_getElem_cons hi, List.flatten_cons]
theorem flat_erase {L : List (List Value)} {i : Nat} (hi : i < L.length) : (L.eraseIdx i).flatten = (L.take i).flatten ++ (L.drop (i + 1)).flatten := by
  rw [List.eraseIdx_eq_take_drop_succ, List.flatten_append]
/-- What the row holds when its i-th struct was deleted: those behind it moved ahead, zero values behind. -/
theorem owns_erase {E : TypeId} {K base g n cap i : Nat} {w : World} {L : List (List Value)} {zs : List Value} (h : OwS E K w base (some ⟨g, 0, none⟩) n cap L) (hi : i < n) (hz : zs.length = K) :
    OwS E K ((w.setCells g (i * K) (L.drop (i + 1)).flatten).setCells g ((n - 1) * K) zs) base (some ⟨g, 0, none⟩) (n - 1) cap (L.eraseIdx i) ∧ w.grownBy ((w.setCells g (i * K) (L.drop (i + 1)).flatten).setCells g ((n - 1) * K) zs) (some g) := by
  obtain ⟨hl, hw, ho⟩ := h
  have hiL : i < L.length := by omega
  have a1 : (L.take i).flatten.length = i * K := by rw [flatten_len _ (fun y hy => hw y (List.mem_of_mem_take hy)), List.length_take]; congr 1; omega
  have a2 : (L.drop (i + 1)).flatten.length = (n - 1 - i) * K := by rw [flatten_len _ (fun y hy => hw y (List.mem_of_mem_drop hy)), List.length_drop]; congr 1; omega
  have a3 : L[i].length = K := hw _ (by simp)
  have a4 : i * K + (n - 1 - i) * K = (n - 1) * K := by rw [← Nat.add_mul]; congr 1; omega
  obtain ⟨o1, g1⟩ := owns_lay (L.drop (i + 1)).flatten (i * K) w _ ho
  rw [flat_split hiL, ← a1, layV_app _ _ _ (by rw [List.length_append]; omega), a1] at o1
  obtain ⟨o2, g2⟩ := owns_lay zs ((n - 1) * K) _ _ o1
  have e2 : (n - 1) * K = ((L.take i).flatten ++ (L.drop (i + 1)).flatten).length := by rw [List.length_append, a1, a2, a4]
  have d1 : ((L[i] ++ (L.drop (i + 1)).flatten).drop (L.drop (i + 1)).flatten.length).length = K := by rw [List.length_drop, List.length_append]; omega
  rw [e2, layV_app _ _ _ (by rw [hz, d1]; exact Nat.le_refl _), ← e2] at o2
  have o3 := owns_less o2 (show n - 1 ≤ n by omega)
  refine ⟨⟨by rw [List.length_eraseIdx, if_pos hiL, hl], fun x hx => hw x (List.mem_of_mem_eraseIdx hx), ?_⟩, grown_tr g1 g2⟩
  rw [flat_erase hiL]
  rw [List.append_assoc ((L.take i).flatten ++ _), e2, List.take_left, ← e2] at o3
  exact o3
/-- clear(v) at one struct. -/
theorem run_clear_one {P : Program} (w : World) (t e ty : TypeId) (z : Value) (zs : List Value) (ht : P.underlying t = some (.slice e)) (hv : ∀ w, (zeroValue e).run P w = .ok z w) (hz : z.cells = zs.toArray) (h1 : ∀ v ∈ zs, v.oneCell' = true) (b o c : Nat)
    (hc : ∀ j, j < zs.length → (w.cell? ⟨b, o + j, none⟩).isSome = true) (hf : ∀ j, j < zs.length → w.frozen? ⟨b, o + j, none⟩ = false) :
    (Builtin.clear_ #[t] ty #[.slice (some ⟨b, o, none⟩) 1 c]).run P w = .ok (.tuple #[]) (w.setCells b o zs) := by
  have hzc : (Builtin.zeroCells z.cells 1).toList = zs := by
    rw [hz]
    simp [Builtin.zeroCells]
    apply List.ext_getElem
    · simp
    · intro i h1 h2
      simp at h1
      simp [Nat.mod_eq_of_lt h1, List.getElem?_eq_getElem h1]
  have hst := run_storeCells_cells (P := P) b o zs 0 w (by simpa using hc) (by simpa using hf) h1
  simp only [Nat.add_zero] at hst
  simp [Builtin.clear_, run_underlying ht, hv, hzc, hst]
end Go.Proofs.Ytgplmbchlahbkaa
