/-
  The walks of SpanRound, SpanWithin, SpanBack, SpanGrows: whatever the numbers of 64 bits, the law returns true. No condition.
-/
import Derived.Test.YtbhgbkbdojhofaaSpan4
namespace Go.Proofs.Ytbhgbkbdojhofaa
open Go Go.RowKit
set_option linter.unusedVariables false

/-! ### Upwards and downwards -/
theorem ceil_le {x q y : Int} (hq : 1 ≤ q) (h : x ≤ y * q) : (x + q - 1) / q ≤ y := by
  have : (x + q - 1) / q < y + 1 := (Int.ediv_lt_iff_lt_mul (by omega)).2 (by rw [Int.add_mul]; omega)
  omega
theorem ceil_ge {x q : Int} (hq : 1 ≤ q) : x ≤ (x + q - 1) / q * q := by
  have h1 := Int.mul_ediv_add_emod (x + q - 1) q
  have h2 := Int.emod_lt_of_pos (x + q - 1) (show 0 < q by omega)
  rw [Int.mul_comm] at h1
  omega
theorem ceil_nonneg {x q : Int} (hq : 1 ≤ q) (hx : 0 ≤ x) : 0 ≤ (x + q - 1) / q := Int.ediv_nonneg (by omega) (by omega)
theorem floor_le {x q : Int} (hq : 1 ≤ q) : x / q * q ≤ x := Int.ediv_mul_le x (by omega)
theorem le_floor {x q y : Int} (hq : 1 ≤ q) (h : y * q ≤ x) : y ≤ x / q := (Int.le_ediv_iff_mul_le (by omega)).2 h
theorem mul_mono {a b c d : Int} (h1 : a ≤ b) (h2 : c ≤ d) (h3 : 0 ≤ c) (h4 : 0 ≤ b) : a * c ≤ b * d := Int.mul_le_mul h1 h2 h3 h4

/-! ### What Most and Least are, where they are -/
theorem most_is {a p : Int} (h0 : 0 ≤ a) (h1 : a ≤ 366503875925) (hp : 0 ≤ p) (hp2 : p ≤ 500000) :
    mostOk a p = true ∧ mostV a p = (a * (1000000 + p) + (1000000 - p) - 1) / (1000000 - p) ∧ 0 ≤ mostV a p ∧ mostV a p ≤ 3 * a ∧ a * (1000000 + p) ≤ mostV a p * (1000000 - p) := by
  have hq : 1 ≤ 1000000 - p := by omega
  have hx : 0 ≤ a * (1000000 + p) := Int.mul_nonneg h0 (by omega)
  have e0 : rat a (1000000 + p) (1000000 - p) true = (a * (1000000 + p) + (1000000 - p) - 1) / (1000000 - p) := rfl
  have b1 := ceil_nonneg hq hx
  have b2 : (a * (1000000 + p) + (1000000 - p) - 1) / (1000000 - p) ≤ 3 * a := by
    refine ceil_le hq ?_
    have : a * (1000000 + p) ≤ a * (3 * (1000000 - p)) := Int.mul_le_mul_of_nonneg_left (by omega) h0
    calc a * (1000000 + p) ≤ a * (3 * (1000000 - p)) := this
      _ = 3 * a * (1000000 - p) := by rw [← Int.mul_assoc, Int.mul_comm a 3]
  have ho : mostOk a p = true := by
    unfold mostOk
    rw [e0, decide_eq_true h0, (isT_iff a).2 (by omega), (isT_iff _).2 (by omega)]
    simp [okP, hp, hp2]
  have hv : mostV a p = (a * (1000000 + p) + (1000000 - p) - 1) / (1000000 - p) := by unfold mostV; rw [ho, if_pos rfl, e0]
  rw [hv]
  exact ⟨ho, rfl, b1, b2, ceil_ge hq⟩
theorem least_is {a p : Int} (h0 : 0 ≤ a) (h1 : a ≤ 1099511627776) (hp : 0 ≤ p) (hp2 : p ≤ 500000) :
    leastOk a p = true ∧ leastV a p = a * (1000000 - p) / (1000000 + p) ∧ 0 ≤ leastV a p ∧ leastV a p ≤ a ∧ leastV a p * (1000000 + p) ≤ a * (1000000 - p) := by
  have hq : 1 ≤ 1000000 + p := by omega
  have hx : 0 ≤ a * (1000000 - p) := Int.mul_nonneg h0 (by omega)
  have e0 : rat a (1000000 - p) (1000000 + p) false = a * (1000000 - p) / (1000000 + p) := rfl
  have b1 : 0 ≤ a * (1000000 - p) / (1000000 + p) := Int.ediv_nonneg hx (by omega)
  have b2 : a * (1000000 - p) / (1000000 + p) ≤ a := by
    have : a * (1000000 - p) / (1000000 + p) < a + 1 := (Int.ediv_lt_iff_lt_mul (by omega)).2 (by
      have : a * (1000000 - p) ≤ a * (1000000 + p) := Int.mul_le_mul_of_nonneg_left (by omega) h0
      rw [Int.add_mul]; omega)
    omega
  have ho : leastOk a p = true := by
    unfold leastOk
    rw [e0, decide_eq_true h0, (isT_iff a).2 (by omega), (isT_iff _).2 (by omega)]
    simp [okP, hp, hp2]
  have hv : leastV a p = a * (1000000 - p) / (1000000 + p) := by unfold leastV; rw [ho, if_pos rfl, e0]
  rw [hv]
  exact ⟨ho, rfl, b1, b2, floor_le hq⟩
theorem most_ge {a p : Int} (h0 : 0 ≤ a) (h1 : a ≤ 366503875925) (hp : 0 ≤ p) (hp2 : p ≤ 500000) : a ≤ mostV a p := by
  obtain ⟨_, _, k1, _, k2⟩ := most_is h0 h1 hp hp2
  have h3 : a * (1000000 - p) ≤ a * (1000000 + p) := Int.mul_le_mul_of_nonneg_left (by omega) h0
  exact Int.le_of_mul_le_mul_right (show a * (1000000 - p) ≤ mostV a p * (1000000 - p) by omega) (by omega)
theorem most_zero {a : Int} (h0 : 0 ≤ a) (h1 : a ≤ 366503875925) : mostV a 0 = a := by
  obtain ⟨_, hv, _⟩ := most_is h0 h1 (show (0 : Int) ≤ 0 by omega) (by omega)
  rw [hv]; omega
theorem least_zero {a : Int} (h0 : 0 ≤ a) (h1 : a ≤ 1099511627776) : leastV a 0 = a := by
  obtain ⟨_, hv, _⟩ := least_is h0 h1 (show (0 : Int) ≤ 0 by omega) (by omega)
  rw [hv]; omega
theorem back_up {a p : Int} (h0 : 0 ≤ a) (h1 : a ≤ 274877906944) (hp : 0 ≤ p) (hp2 : p ≤ 500000) : a ≤ leastV (mostV a p) p := by
  obtain ⟨_, _, k1, k2, k3⟩ := most_is h0 (by omega) hp hp2
  obtain ⟨_, hv, _⟩ := least_is k1 (by omega) hp hp2
  rw [hv]
  exact le_floor (by omega) k3
theorem back_down {a p : Int} (h0 : 0 ≤ a) (h1 : a ≤ 274877906944) (hp : 0 ≤ p) (hp2 : p ≤ 500000) : mostV (leastV a p) p ≤ a := by
  obtain ⟨_, _, k1, k2, k3⟩ := least_is h0 (by omega) hp hp2
  obtain ⟨_, hv, _⟩ := most_is k1 (by omega) hp hp2
  rw [hv]
  exact ceil_le (by omega) k3
theorem most_grows {a b p r : Int} (h0 : 0 ≤ a) (hab : a ≤ b) (h1 : b ≤ 274877906944) (hp : 0 ≤ p) (hpr : p ≤ r) (hr : r ≤ 500000) : mostV a p ≤ mostV b r := by
  obtain ⟨_, hv, _⟩ := most_is h0 (by omega) hp (show p ≤ 500000 by omega)
  obtain ⟨_, _, k1, _, k3⟩ := most_is (show 0 ≤ b by omega) (by omega) (show 0 ≤ r by omega) hr
  rw [hv]
  refine ceil_le (by omega) ?_
  calc a * (1000000 + p) ≤ b * (1000000 + r) := mul_mono hab (by omega) (by omega) (by omega)
    _ ≤ mostV b r * (1000000 - r) := k3
    _ ≤ mostV b r * (1000000 - p) := Int.mul_le_mul_of_nonneg_left (by omega) k1
theorem least_grows {a b p r : Int} (h0 : 0 ≤ a) (hab : a ≤ b) (h1 : b ≤ 274877906944) (hp : 0 ≤ p) (hpr : p ≤ r) (hr : r ≤ 500000) : leastV a r ≤ leastV b p := by
  obtain ⟨_, _, k1, _, k3⟩ := least_is h0 (by omega) (show 0 ≤ r by omega) hr
  obtain ⟨_, hv, _⟩ := least_is (show 0 ≤ b by omega) (by omega) hp (show p ≤ 500000 by omega)
  rw [hv]
  refine le_floor (by omega) ?_
  calc leastV a r * (1000000 + p) ≤ leastV a r * (1000000 + r) := Int.mul_le_mul_of_nonneg_left (by omega) k1
    _ ≤ a * (1000000 - r) := k3
    _ ≤ b * (1000000 - p) := mul_mono hab (by omega) (by omega) (by omega)

theorem i64_small {a : Int} (h : 0 ≤ a) (h2 : a ≤ 1099511627776) : J64 a := by unfold J64; omega
theorem add_comm_v (a b : Int) : addOk b a = addOk a b ∧ addV b a = addV a b := by
  have e : addOk b a = addOk a b := by unfold addOk; rw [Int.add_comm b a, Bool.and_comm (isT b)]
  exact ⟨e, by unfold addV; rw [e, Int.add_comm b a]⟩
theorem add_no {a b : Int} (h : addOk a b = false) : addV a b = 0 := by unfold addV; rw [h]; rfl
theorem add_yes {a b : Int} (h : addOk a b = true) : addV a b = a + b ∧ J64 a ∧ J64 b ∧ J64 (a + b) ∧ subOk (a + b) b = true ∧ subV (a + b) b = a := by
  have hh := h
  unfold addOk at hh
  simp only [Bool.and_eq_true] at hh
  have h1 := isT_yes hh.1.1
  have h2 := isT_yes hh.1.2
  have h3 := isT_yes hh.2
  have e : a + b - b = a := by omega
  have ho : subOk (a + b) b = true := by unfold subOk; rw [e, hh.2, hh.1.2, hh.1.1]; rfl
  exact ⟨by unfold addV; rw [h, if_pos rfl], by unfold J64; omega, by unfold J64; omega, by unfold J64; omega, ho, by unfold subV; rw [ho, if_pos rfl, e]⟩

end Go.Proofs.Ytbhgbkbdojhofaa
