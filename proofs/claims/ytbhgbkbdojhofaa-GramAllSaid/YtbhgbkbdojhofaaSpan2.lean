/-
  Contracts of span.Add, Sub, Up, Most, Least and of the references' Add, Sub, Ratio, Longest, Shortest. No condition beyond those written at each.
-/
import Derived.Test.YtbhgbkbdojhofaaSpan
namespace Go.Proofs.Ytbhgbkbdojhofaa
open Go Go.RowKit
set_option linter.unusedVariables false

def addOk (a b : Int) : Bool := isT a && isT b && isT (a + b)
def addV (a b : Int) : Int := if addOk a b then a + b else 0
def subOk (a b : Int) : Bool := isT a && isT b && isT (a - b)
def subV (a b : Int) : Int := if subOk a b then a - b else 0

theorem two_wf {a b : Int} (ha : J64 a) (hb : J64 b) : ∀ x ∈ [a, b], (Lit.int .i64 x).wf = true := by
  intro y hy
  simp at hy
  rcases hy with rfl | rfl
  · exact j64_wf ha
  · exact j64_wf hb

set_option maxHeartbeats 400000 in
theorem sub_any (a b : Int) (ha : J64 a) (hb : J64 b) (w : World) : Calls Try.prog 42 #[.int .i64 a, .int .i64 b] w fun e w' => e = .returned (.tuple #[.int .i64 (subV a b), .bool (subOk a b)]) ∧ Ext w w' := by
  have HS := Lib.hid (fun (w : World) (cur : Array Value) (h : cur.toList = [a, b].map (Value.int .i64)) => SlI.lit .i64 2 w 2 cur (0, 0) [a, b] rfl h (by omega) (two_wf ha hb))
  cases h : (isT a && isT b)
  · have e1 : subOk a b = false := by unfold subOk; rw [h]; rfl
    have e2 : subV a b = 0 := by unfold subV; rw [e1]; rfl
    rw [e1, e2]
    clear e1 e2 ha hb
    go_enter Try.func42, Try.ntmps42
    go_wp2_with fail
    refine (time_any (HS.out w _ rfl)).mono ?_
    rw [show [a, b].all isT = false by simpa using h]
    rintro e w1 ⟨rfl, rfl⟩
    clear h
    go_wp2
    go_ret2
    exact ⟨rfl, Ext.alloc w _⟩
  · have hA : isT a = true := by simp at h; exact h.1
    have hB : isT b = true := by simp at h; exact h.2
    obtain ⟨a1, a2⟩ := isT_yes hA
    obtain ⟨b1, b2⟩ := isT_yes hB
    have e1 : subOk a b = isT (a - b) := by unfold subOk; rw [h]; rfl
    have e2 : subV a b = if isT (a - b) then a - b else 0 := by unfold subV; rw [e1]
    rw [e1, e2]
    clear e1 e2 ha hb hA hB
    go_enter Try.func42, Try.ntmps42
    go_wp2_with fail
    refine (time_any (HS.out w _ rfl)).mono ?_
    rw [show [a, b].all isT = true by simpa using h]
    rintro e w1 ⟨rfl, rfl⟩
    clear h
    go_wp2_with fail
    refine (told_any (a - b) (by unfold J64; omega) _).mono ?_
    rintro e w1 ⟨rfl, x1⟩
    have X1 := Lib.hid ((Ext.alloc w _).tr x1)
    clear x1
    go_wp2
    all_goals
      go_ret2
      exact ⟨rfl, X1.out⟩

set_option maxHeartbeats 400000 in
theorem up_any (a b : Int) (ha : 0 ≤ a) (ha2 : a ≤ 9000000000000000000) (hb : 1 ≤ b) (hb2 : b ≤ 2000000) (w : World) : Calls Try.prog 44 #[.int .i64 a, .int .i64 b] w fun e w' => e = .returned (.int .i64 ((a + b - 1) / b)) ∧ w = w' := by
  have h1 : 0 ≤ (a + b - 1) / b := Int.ediv_nonneg (by omega) (by omega)
  have h2 : (a + b - 1) / b ≤ a + b - 1 := Int.ediv_le_self _ (by omega)
  have h3 : (b == 0) = false := beq_eq_false_iff_ne.2 (by omega)
  go_enter Try.func44, Try.ntmps44
  go_wp2
  go_ret
  exact ⟨rfl, rfl⟩

/-! ### Ratios -/
def rat (a p q : Int) (up : Bool) : Int := if up then (a * p + q - 1) / q else a * p / q
theorem ceil_split {z q : Int} (hz : 0 ≤ z) (hq : 1 ≤ q) : (z + q - 1) / q = z / q + (if z % q = 0 then 0 else 1) := by
  have h1 := Int.mul_ediv_add_emod z q
  have h2 := Int.emod_nonneg z (show q ≠ 0 by omega)
  have h3 := Int.emod_lt_of_pos z (show 0 < q by omega)
  generalize z / q = c at *
  generalize z % q = d at *
  have e : z + q - 1 = (d + q - 1) + q * c := by omega
  rw [e, Int.add_mul_ediv_left _ _ (by omega)]
  split
  · rw [Int.ediv_eq_zero_of_lt (by omega) (by omega)]; omega
  · have e2 : d + q - 1 = (d - 1) + q * 1 := by omega
    rw [e2, Int.add_mul_ediv_left _ _ (by omega), Int.ediv_eq_zero_of_lt (by omega) (by omega)]; omega
theorem rat_split (a p q : Int) (hq : 1 ≤ q) : a * p = (a % q * p) + q * (a / q * p) := by
  have h1 := Int.mul_ediv_add_emod a q
  calc a * p = (q * (a / q) + a % q) * p := by rw [h1]
    _ = _ := by rw [Int.add_mul, Int.mul_assoc, Int.add_comm]
theorem rat_down (a p q : Int) (hq : 1 ≤ q) : a * p / q = a / q * p + a % q * p / q := by
  rw [rat_split a p q hq, Int.add_mul_ediv_left _ _ (by omega), Int.add_comm]
theorem rat_up (a p q : Int) (ha : 0 ≤ a) (hp : 0 ≤ p) (hq : 1 ≤ q) : (a * p + q - 1) / q = a / q * p + a % q * p / q + (if a % q * p % q = 0 then 0 else 1) := by
  have hz : 0 ≤ a % q * p := Int.mul_nonneg (Int.emod_nonneg _ (by omega)) hp
  have e : a * p + q - 1 = (a % q * p + q - 1) + q * (a / q * p) := by rw [rat_split a p q hq]; omega
  rw [e, Int.add_mul_ediv_left _ _ (by omega), ceil_split hz hq]
  omega
theorem mul_bd {a p A P : Int} (ha : 0 ≤ a) (ha2 : a ≤ A) (hp : 0 ≤ p) (hp2 : p ≤ P) : 0 ≤ a * p ∧ a * p ≤ A * P :=
  ⟨Int.mul_nonneg ha hp, Int.mul_le_mul ha2 hp2 hp (by omega)⟩

set_option maxHeartbeats 1000000 in
/-- The reference's Ratio -/
theorem ratio_any (a p q : Int) (up : Bool) (ha : 0 ≤ a) (ha2 : a ≤ 1099511627776) (hp : 0 ≤ p) (hp2 : p ≤ 1500000) (hq : 1 ≤ q) (hq2 : q ≤ 1500000) (w : World) :
    Calls Try.prog 31 #[.int .i64 a, .int .i64 p, .int .i64 q, .bool up] w fun e w' => e = .returned (.int .i64 (rat a p q up)) ∧ w = w' := by
  have h1 : 0 ≤ a / q := Int.ediv_nonneg ha (by omega)
  have h2 : a / q ≤ a := Int.ediv_le_self _ ha
  have h3 := Int.emod_nonneg a (show q ≠ 0 by omega)
  have h4 := Int.emod_lt_of_pos a (show 0 < q by omega)
  obtain ⟨h5, h6⟩ := mul_bd h1 (show a / q ≤ 1099511627776 by omega) hp hp2
  obtain ⟨h7, h8⟩ := mul_bd h3 (show a % q ≤ 1500000 by omega) hp hp2
  have h9 : 0 ≤ a % q * p / q := Int.ediv_nonneg h7 (by omega)
  have h10 : a % q * p / q ≤ a % q * p := Int.ediv_le_self _ h7
  have h11 := Int.emod_nonneg (a % q * p) (show q ≠ 0 by omega)
  have h12 : (q == 0) = false := beq_eq_false_iff_ne.2 (by omega)
  have hd := Lib.hid (rat_down a p q hq)
  have hu := Lib.hid (rat_up a p q ha hp hq)
  cases up
  · have e : rat a p q false = a / q * p + a % q * p / q := hd.out
    rw [e]
    clear e
    go_enter Try.func31, Try.ntmps31
    go_wp2
    go_ret
    exact ⟨rfl, rfl⟩
  · by_cases hz : a % q * p % q = 0
    · have e : rat a p q true = a / q * p + a % q * p / q := by
        have := hu.out
        rw [if_pos hz, Int.add_zero] at this
        exact this
      rw [e]
      have hz2 : (a % q * p % q != 0) = false := by rw [hz]; rfl
      clear e hz
      go_enter Try.func31, Try.ntmps31
      go_wp2
      go_ret
      exact ⟨rfl, rfl⟩
    · have e : rat a p q true = a / q * p + a % q * p / q + 1 := by
        have := hu.out
        rw [if_neg hz] at this
        exact this
      rw [e]
      have hz2 : (a % q * p % q != 0) = true := bne_iff_ne.2 hz
      clear e hz
      go_enter Try.func31, Try.ntmps31
      go_wp2
      go_ret
      exact ⟨rfl, rfl⟩

def mostOk (a p : Int) : Bool := decide (0 ≤ a) && isT a && okP p && isT (rat a (1000000 + p) (1000000 - p) true)
def mostV (a p : Int) : Int := if mostOk a p then rat a (1000000 + p) (1000000 - p) true else 0
def leastOk (a p : Int) : Bool := decide (0 ≤ a) && isT a && okP p && isT (rat a (1000000 - p) (1000000 + p) false)
def leastV (a p : Int) : Int := if leastOk a p then rat a (1000000 - p) (1000000 + p) false else 0

theorem long_pre (d : Int) : okP d = true → 0 ≤ 1000000 + d ∧ 1000000 + d ≤ 1500000 ∧ 1 ≤ 1000000 - d ∧ 1000000 - d ≤ 1500000 := fun h => by have := okP_yes h; omega
theorem short_pre (d : Int) : okP d = true → 0 ≤ 1000000 - d ∧ 1000000 - d ≤ 1500000 ∧ 1 ≤ 1000000 + d ∧ 1000000 + d ≤ 1500000 := fun h => by have := okP_yes h; omega
end Go.Proofs.Ytbhgbkbdojhofaa
