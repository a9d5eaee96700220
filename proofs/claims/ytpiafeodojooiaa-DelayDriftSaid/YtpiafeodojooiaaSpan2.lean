/-
  Contracts of span.Add, Sub, Up, Most, Least and of the references' Add, Sub, Ratio, Longest, Shortest. No condition beyond those written at each.
-/
import Derived.Test.YtpiafeodojooiaaSpan
namespace Go.Proofs.Ytpiafeodojooiaa
open Go Go.RowKit
set_option linter.unusedVariables false

def addOk (a b : Int) : Bool := isT a && isT b && isT (a + b)
def addV (a b : Int) : Int := if addOk a b then a + b else 0
def subOk (a b : Int) : Bool := isT a && isT b && isT (a - b)
def subV (a b : Int) : Int := if subOk a b then a - b else 0

theorem two_wf {a b : Int} (ha : I64 a) (hb : I64 b) : ∀ x ∈ [a, b], (Lit.int .i64 x).wf = true := by
  intro y hy
  simp at hy
  rcases hy with rfl | rfl
  · exact i64_wf ha
  · exact i64_wf hb

set_option maxHeartbeats 400000 in
theorem add_any (a b : Int) (ha : I64 a) (hb : I64 b) (w : World) : Calls Try.prog 17 #[.int .i64 a, .int .i64 b] w fun e w' => e = .returned (.tuple #[.int .i64 (addV a b), .bool (addOk a b)]) ∧ Ext w w' := by
  have HS := Lib.hid (fun (w : World) (cur : Array Value) (h : cur.toList = [a, b].map (Value.int .i64)) => SlI.lit .i64 2 w 2 cur (0, 0) [a, b] rfl h (by omega) (two_wf ha hb))
  cases h : (isT a && isT b)
  · have e1 : addOk a b = false := by unfold addOk; rw [h]; rfl
    have e2 : addV a b = 0 := by unfold addV; rw [e1]; rfl
    rw [e1, e2]
    clear e1 e2 ha hb
    go_enter Try.func17, Try.ntmps17
    go_wp2_with fail
    refine (time_any (HS.out w _ rfl)).mono ?_
    rw [show [a, b].all isT = false by simpa using h]
    rintro e w1 ⟨rfl, rfl⟩
    clear h
    go_wp2
    go_ret2
    exact ⟨rfl, Ext.alloc w _⟩
  · have hA : isT a = true := by simp at h; exact h.1
    have hB : isT b = true := by simp at h; exact h.2
    obtain ⟨a1, a2⟩ := isT_yes hA
    obtain ⟨b1, b2⟩ := isT_yes hB
    have e1 : addOk a b = isT (a + b) := by unfold addOk; rw [h]; rfl
    have e2 : addV a b = if isT (a + b) then a + b else 0 := by unfold addV; rw [e1]
    rw [e1, e2]
    clear e1 e2 ha hb hA hB
    go_enter Try.func17, Try.ntmps17
    go_wp2_with fail
    refine (time_any (HS.out w _ rfl)).mono ?_
    rw [show [a, b].all isT = true by simpa using h]
    rintro e w1 ⟨rfl, rfl⟩
    clear h
    go_wp2_with fail
    refine (told_any (a + b) (by unfold I64; omega) _).mono ?_
    rintro e w1 ⟨rfl, x1⟩
    have X1 := Lib.hid ((Ext.alloc w _).tr x1)
    clear x1
    go_wp2
    all_goals
      go_ret2
      exact ⟨rfl, X1.out⟩

set_option maxHeartbeats 400000 in
theorem sub_any (a b : Int) (ha : I64 a) (hb : I64 b) (w : World) : Calls Try.prog 19 #[.int .i64 a, .int .i64 b] w fun e w' => e = .returned (.tuple #[.int .i64 (subV a b), .bool (subOk a b)]) ∧ Ext w w' := by
  have HS := Lib.hid (fun (w : World) (cur : Array Value) (h : cur.toList = [a, b].map (Value.int .i64)) => SlI.lit .i64 2 w 2 cur (0, 0) [a, b] rfl h (by omega) (two_wf ha hb))
  cases h : (isT a && isT b)
  · have e1 : subOk a b = false := by unfold subOk; rw [h]; rfl
    have e2 : subV a b = 0 := by unfold subV; rw [e1]; rfl
    rw [e1, e2]
    clear e1 e2 ha hb
    go_enter Try.func19, Try.ntmps19
    go_wp2_with fail
    refine (time_any (HS.out w _ rfl)).mono ?_
    rw [show [a, b].all isT = false by simpa using h]
    rintro e w1 ⟨rfl, rfl⟩
    clear h
    go_wp2
    go_ret2
    exact ⟨rfl, Ext.alloc w _⟩
  · have hA : isT a = true := by simp at h; exact h.1
    have hB : isT b = true := by simp at h; exact h.2
    obtain ⟨a1, a2⟩ := isT_yes hA
    obtain ⟨b1, b2⟩ := isT_yes hB
    have e1 : subOk a b = isT (a - b) := by unfold subOk; rw [h]; rfl
    have e2 : subV a b = if isT (a - b) then a - b else 0 := by unfold subV; rw [e1]
    rw [e1, e2]
    clear e1 e2 ha hb hA hB
    go_enter Try.func19, Try.ntmps19
    go_wp2_with fail
    refine (time_any (HS.out w _ rfl)).mono ?_
    rw [show [a, b].all isT = true by simpa using h]
    rintro e w1 ⟨rfl, rfl⟩
    clear h
    go_wp2_with fail
    refine (told_any (a - b) (by unfold I64; omega) _).mono ?_
    rintro e w1 ⟨rfl, x1⟩
    have X1 := Lib.hid ((Ext.alloc w _).tr x1)
    clear x1
    go_wp2
    all_goals
      go_ret2
      exact ⟨rfl, X1.out⟩

set_option maxHeartbeats 400000 in
theorem up_any (a b : Int) (ha : 0 ≤ a) (ha2 : a ≤ 9000000000000000000) (hb : 1 ≤ b) (hb2 : b ≤ 2000000) (w : World) : Calls Try.prog 26 #[.int .i64 a, .int .i64 b] w fun e w' => e = .returned (.int .i64 ((a + b - 1) / b)) ∧ w = w' := by
  have h1 : 0 ≤ (a + b - 1) / b := Int.ediv_nonneg (by omega) (by omega)
  have h2 : (a + b - 1) / b ≤ a + b - 1 := Int.ediv_le_self _ (by omega)
  have h3 : (b == 0) = false := beq_eq_false_iff_ne.2 (by omega)
  go_enter Try.func26, Try.ntmps26
  go_wp2
  go_ret
  exact ⟨rfl, rfl⟩

/-! ### Ratios -/
def rat (a p q : Int) (up : Bool) : Int := if up then (a * p + q - 1) / q else a * p / q
theorem ceil_split {z q : Int} (hz : 0 ≤ z) (hq : 1 ≤ q) : (z + q - 1) / q = z / q + (if z % q = 0 then 0 else 1) := by
  have h1 := Int.mul_ediv_add_emod z q
  have h2 := Int.emod_nonneg z (show q ≠ 0 by omega)
  have h3 := Int.emod_lt_of_pos z (show 0 < q by omega)
  generalize z / q = c at *
  generalize z % q = d at *
  have e : z + q - 1 = (d + q - 1) + q * c := by omega
  rw [e, Int.add_mul_ediv_left _ _ (by omega)]
  split
  · rw [Int.ediv_eq_zero_of_lt (by omega) (by omega)]; omega
  · have e2 : d + q - 1 = (d - 1) + q * 1 := by omega
    rw [e2, Int.add_mul_ediv_left _ _ (by omega), Int.ediv_eq_zero_of_lt (by omega) (by omega)]; omega
theorem rat_split (a p q : Int) (hq : 1 ≤ q) : a * p = (a % q * p) + q * (a / q * p) := by
  have h1 := Int.mul_ediv_add_emod a q
  calc a * p = (q * (a / q) + a % q) * p := by rw [h1]
    _ = _ := by rw [Int.add_mul, Int.mul_assoc, Int.add_comm]
theorem rat_down (a p q : Int) (hq : 1 ≤ q) : a * p / q = a / q * p + a % q * p / q := by
  rw [rat_split a p q hq, Int.add_mul_ediv_left _ _ (by omega), Int.add_comm]
theorem rat_up (a p q : Int) (ha : 0 ≤ a) (hp : 0 ≤ p) (hq : 1 ≤ q) : (a * p + q - 1) / q = a / q * p + a % q * p / q + (if a % q * p % q = 0 then 0 else 1) := by
  have hz : 0 ≤ a % q * p := Int.mul_nonneg (Int.emod_nonneg _ (by omega)) hp
  have e : a * p + q - 1 = (a % q * p + q - 1) + q * (a / q * p) := by rw [rat_split a p q hq]; omega
  rw [e, Int.add_mul_ediv_left _ _ (by omega), ceil_split hz hq]
  omega
theorem mul_bd {a p A P : Int} (ha : 0 ≤ a) (ha2 : a ≤ A) (hp : 0 ≤ p) (hp2 : p ≤ P) : 0 ≤ a * p ∧ a * p ≤ A * P :=
  ⟨Int.mul_nonneg ha hp, Int.mul_le_mul ha2 hp2 hp (by omega)⟩

set_option maxHeartbeats 1000000 in
/-- The reference's Ratio -/
theorem ratio_any (a p q : Int) (up : Bool) (ha : 0 ≤ a) (ha2 : a ≤ 1099511627776) (hp : 0 ≤ p) (hp2 : p ≤ 1500000) (hq : 1 ≤ q) (hq2 : q ≤ 1500000) (w : World) :
    Calls Try.prog 13 #[.int .i64 a, .int .i64 p, .int .i64 q, .bool up] w fun e w' => e = .returned (.int .i64 (rat a p q up)) ∧ w = w' := by
  have h1 : 0 ≤ a / q := Int.ediv_nonneg ha (by omega)
  have h2 : a / q ≤ a := Int.ediv_le_self _ ha
  have h3 := Int.emod_nonneg a (show q ≠ 0 by omega)
  have h4 := Int.emod_lt_of_pos a (show 0 < q by omega)
  obtain ⟨h5, h6⟩ := mul_bd h1 (show a / q ≤ 1099511627776 by omega) hp hp2
  obtain ⟨h7, h8⟩ := mul_bd h3 (show a % q ≤ 1500000 by omega) hp hp2
  have h9 : 0 ≤ a % q * p / q := Int.ediv_nonneg h7 (by omega)
  have h10 : a % q * p / q ≤ a % q * p := Int.ediv_le_self _ h7
  have h11 := Int.emod_nonneg (a % q * p) (show q ≠ 0 by omega)
  have h12 : (q == 0) = false := beq_eq_false_iff_ne.2 (by omega)
  have hd := Lib.hid (rat_down a p q hq)
  have hu := Lib.hid (rat_up a p q ha hp hq)
  cases up
  · have e : rat a p q false = a / q * p + a % q * p / q := hd.out
    rw [e]
    clear e
    go_enter Try.func13, Try.ntmps13
    go_wp2
    go_ret
    exact ⟨rfl, rfl⟩
  · by_cases hz : a % q * p % q = 0
    · have e : rat a p q true = a / q * p + a % q * p / q := by
        have := hu.out
        rw [if_pos hz, Int.add_zero] at this
        exact this
      rw [e]
      have hz2 : (a % q * p % q != 0) = false := by rw [hz]; rfl
      clear e hz
      go_enter Try.func13, Try.ntmps13
      go_wp2
      go_ret
      exact ⟨rfl, rfl⟩
    · have e : rat a p q true = a / q * p + a % q * p / q + 1 := by
        have := hu.out
        rw [if_neg hz] at this
        exact this
      rw [e]
      have hz2 : (a % q * p % q != 0) = true := bne_iff_ne.2 hz
      clear e hz
      go_enter Try.func13, Try.ntmps13
      go_wp2
      go_ret
      exact ⟨rfl, rfl⟩

def mostOk (a p : Int) : Bool := decide (0 ≤ a) && isT a && okP p && isT (rat a (1000000 + p) (1000000 - p) true)
def mostV (a p : Int) : Int := if mostOk a p then rat a (1000000 + p) (1000000 - p) true else 0
def leastOk (a p : Int) : Bool := decide (0 ≤ a) && isT a && okP p && isT (rat a (1000000 - p) (1000000 + p) false)
def leastV (a p : Int) : Int := if leastOk a p then rat a (1000000 - p) (1000000 + p) false else 0

set_option maxHeartbeats 1000000 in
theorem most_any (a p : Int) (ha : I64 a) (hp : I64 p) (w : World) : Calls Try.prog 21 #[.int .i64 a, .int .i64 p] w fun e w' => e = .returned (.tuple #[.int .i64 (mostV a p), .bool (mostOk a p)]) ∧ Ext w w' := by
  have HS := Lib.hid (fun (w : World) (cur : Array Value) (h : cur.toList = [a].map (Value.int .i64)) => SlI.lit .i64 2 w 1 cur (0, 0) [a] rfl h (by omega) (by intro y hy; simp at hy; subst hy; exact i64_wf ha))
  have no : (decide (0 ≤ a) && isT a && okP p) = false → mostOk a p = false ∧ mostV a p = 0 := by
    intro h
    have e1 : mostOk a p = false := by unfold mostOk; rw [h]; rfl
    exact ⟨e1, by unfold mostV; rw [e1]; rfl⟩
  have NO := Lib.hid no
  clear no
  by_cases h1 : a < 0
  · obtain ⟨e1, e2⟩ := NO.out (by rw [decide_eq_false (by omega)]; rfl)
    rw [e1, e2]
    clear e1 e2 ha hp
    go_enter Try.func21, Try.ntmps21
    go_wp2
    go_ret2
    exact ⟨rfl, Ext.rfl' w⟩
  cases h2 : isT a
  · obtain ⟨e1, e2⟩ := NO.out (by rw [h2]; simp)
    rw [e1, e2]
    clear e1 e2 ha hp
    go_enter Try.func21, Try.ntmps21
    go_wp2_with fail
    refine (time_any (HS.out w _ rfl)).mono ?_
    rw [show [a].all isT = false by simpa using h2]
    rintro e w1 ⟨rfl, rfl⟩
    clear h2
    go_wp2
    go_ret2
    exact ⟨rfl, Ext.alloc w _⟩
  obtain ⟨a1, a2⟩ := isT_yes h2
  cases h3 : okP p
  · obtain ⟨e1, e2⟩ := NO.out (by rw [h3]; simp)
    rw [e1, e2]
    clear e1 e2 ha hp
    go_enter Try.func21, Try.ntmps21
    go_wp2_with fail
    refine (time_any (HS.out w _ rfl)).mono ?_
    rw [show [a].all isT = true by simpa using h2]
    rintro e w1 ⟨rfl, rfl⟩
    clear h2
    go_wp2_with fail
    refine (drift_any p _).mono ?_
    rw [h3]
    rintro e w1 ⟨rfl, rfl⟩
    clear h3
    go_wp2
    go_ret2
    exact ⟨rfl, Ext.alloc w _⟩
  · obtain ⟨p1, p2⟩ := okP_yes h3
    obtain ⟨hm1, hm2⟩ := mul_bd (show 0 ≤ a by omega) a2 (show 0 ≤ (1000000 + p) by omega) (show (1000000 + p) ≤ 1500000 by omega)
    have hv : rat a (1000000 + p) (1000000 - p) true = ((a * (1000000 + p) + (1000000 - p) - 1) / (1000000 - p)) := rfl
    have hb1 : 0 ≤ ((a * (1000000 + p) + (1000000 - p) - 1) / (1000000 - p)) := Int.ediv_nonneg (by omega) (by omega)
    have hb2 : ((a * (1000000 + p) + (1000000 - p) - 1) / (1000000 - p)) ≤ 9000000000000000000 := Int.le_trans (Int.ediv_le_self _ (by omega)) (by omega)
    have e1 : mostOk a p = isT ((a * (1000000 + p) + (1000000 - p) - 1) / (1000000 - p)) := by unfold mostOk; rw [h2, h3, decide_eq_true (show 0 ≤ a by omega), hv]; rfl
    have e2 : mostV a p = if isT ((a * (1000000 + p) + (1000000 - p) - 1) / (1000000 - p)) then ((a * (1000000 + p) + (1000000 - p) - 1) / (1000000 - p)) else 0 := by unfold mostV; rw [e1, hv]
    have hz : ((1000000 - p) == 0) = false := beq_eq_false_iff_ne.2 (by omega)
    rw [e1, e2]
    clear e1 e2 ha hp hv
    go_enter Try.func21, Try.ntmps21
    go_wp2_with fail
    refine (time_any (HS.out w _ rfl)).mono ?_
    rw [show [a].all isT = true by simpa using h2]
    rintro e w1 ⟨rfl, rfl⟩
    clear h2
    go_wp2_with fail
    refine (drift_any p _).mono ?_
    rw [h3]
    rintro e w1 ⟨rfl, rfl⟩
    clear h3
    go_wp2_with fail
    refine (up_any _ _ hm1 (by omega) (by omega) (by omega) _).mono ?_
    rintro e w2 ⟨rfl, rfl⟩
    go_wp2_with fail
    refine (told_any _ (by unfold I64; omega) _).mono ?_
    rintro e w1 ⟨rfl, x1⟩
    have X1 := Lib.hid ((Ext.alloc w _).tr x1)
    clear x1
    go_wp2
    all_goals
      go_ret2
      exact ⟨rfl, X1.out⟩

set_option maxHeartbeats 1000000 in
theorem least_any (a p : Int) (ha : I64 a) (hp : I64 p) (w : World) : Calls Try.prog 23 #[.int .i64 a, .int .i64 p] w fun e w' => e = .returned (.tuple #[.int .i64 (leastV a p), .bool (leastOk a p)]) ∧ Ext w w' := by
  have HS := Lib.hid (fun (w : World) (cur : Array Value) (h : cur.toList = [a].map (Value.int .i64)) => SlI.lit .i64 2 w 1 cur (0, 0) [a] rfl h (by omega) (by intro y hy; simp at hy; subst hy; exact i64_wf ha))
  have no : (decide (0 ≤ a) && isT a && okP p) = false → leastOk a p = false ∧ leastV a p = 0 := by
    intro h
    have e1 : leastOk a p = false := by unfold leastOk; rw [h]; rfl
    exact ⟨e1, by unfold leastV; rw [e1]; rfl⟩
  have NO := Lib.hid no
  clear no
  by_cases h1 : a < 0
  · obtain ⟨e1, e2⟩ := NO.out (by rw [decide_eq_false (by omega)]; rfl)
    rw [e1, e2]
    clear e1 e2 ha hp
    go_enter Try.func23, Try.ntmps23
    go_wp2
    go_ret2
    exact ⟨rfl, Ext.rfl' w⟩
  cases h2 : isT a
  · obtain ⟨e1, e2⟩ := NO.out (by rw [h2]; simp)
    rw [e1, e2]
    clear e1 e2 ha hp
    go_enter Try.func23, Try.ntmps23
    go_wp2_with fail
    refine (time_any (HS.out w _ rfl)).mono ?_
    rw [show [a].all isT = false by simpa using h2]
    rintro e w1 ⟨rfl, rfl⟩
    clear h2
    go_wp2
    go_ret2
    exact ⟨rfl, Ext.alloc w _⟩
  obtain ⟨a1, a2⟩ := isT_yes h2
  cases h3 : okP p
  · obtain ⟨e1, e2⟩ := NO.out (by rw [h3]; simp)
    rw [e1, e2]
    clear e1 e2 ha hp
    go_enter Try.func23, Try.ntmps23
    go_wp2_with fail
    refine (time_any (HS.out w _ rfl)).mono ?_
    rw [show [a].all isT = true by simpa using h2]
    rintro e w1 ⟨rfl, rfl⟩
    clear h2
    go_wp2_with fail
    refine (drift_any p _).mono ?_
    rw [h3]
    rintro e w1 ⟨rfl, rfl⟩
    clear h3
    go_wp2
    go_ret2
    exact ⟨rfl, Ext.alloc w _⟩
  · obtain ⟨p1, p2⟩ := okP_yes h3
    obtain ⟨hm1, hm2⟩ := mul_bd (show 0 ≤ a by omega) a2 (show 0 ≤ (1000000 - p) by omega) (show (1000000 - p) ≤ 1500000 by omega)
    have hv : rat a (1000000 - p) (1000000 + p) false = (a * (1000000 - p) / (1000000 + p)) := rfl
    have hb1 : 0 ≤ (a * (1000000 - p) / (1000000 + p)) := Int.ediv_nonneg (by omega) (by omega)
    have hb2 : (a * (1000000 - p) / (1000000 + p)) ≤ 9000000000000000000 := Int.le_trans (Int.ediv_le_self _ (by omega)) (by omega)
    have e1 : leastOk a p = isT (a * (1000000 - p) / (1000000 + p)) := by unfold leastOk; rw [h2, h3, decide_eq_true (show 0 ≤ a by omega), hv]; rfl
    have e2 : leastV a p = if isT (a * (1000000 - p) / (1000000 + p)) then (a * (1000000 - p) / (1000000 + p)) else 0 := by unfold leastV; rw [e1, hv]
    have hz : ((1000000 + p) == 0) = false := beq_eq_false_iff_ne.2 (by omega)
    rw [e1, e2]
    clear e1 e2 ha hp hv
    go_enter Try.func23, Try.ntmps23
    go_wp2_with fail
    refine (time_any (HS.out w _ rfl)).mono ?_
    rw [show [a].all isT = true by simpa using h2]
    rintro e w1 ⟨rfl, rfl⟩
    clear h2
    go_wp2_with fail
    refine (drift_any p _).mono ?_
    rw [h3]
    rintro e w1 ⟨rfl, rfl⟩
    clear h3
    go_wp2_with fail
    refine (told_any _ (by unfold I64; omega) _).mono ?_
    rintro e w1 ⟨rfl, x1⟩
    have X1 := Lib.hid ((Ext.alloc w _).tr x1)
    clear x1
    go_wp2
    all_goals
      go_ret2
      exact ⟨rfl, X1.out⟩

set_option maxHeartbeats 1000000 in
/-- The reference's scaled -/
theorem scaled_any (a p q d : Int) (up : Bool) (hq : okP d = true → 0 ≤ p ∧ p ≤ 1500000 ∧ 1 ≤ q ∧ q ≤ 1500000) (w : World) :
    Calls Try.prog 30 #[.int .i64 a, .int .i64 p, .int .i64 q, .int .i64 d, .bool up] w fun e w' =>
      e = .returned (.tuple #[.int .i64 (if (decide (0 ≤ a) && isT a && okP d && isT (rat a p q up)) then rat a p q up else 0), .bool (decide (0 ≤ a) && isT a && okP d && isT (rat a p q up))]) ∧ w = w' := by
  obtain ⟨k, hk⟩ : ∃ k, k = (decide (0 ≤ a) && isT a && okP d && isT (rat a p q up)) := ⟨_, rfl⟩
  rw [← hk]
  have HQ := Lib.hid hq
  clear hq
  by_cases h1 : a < 0
  · rw [decide_eq_false (by omega)] at hk
    simp only [Bool.false_and] at hk
    subst hk
    go_enter Try.func30, Try.ntmps30
    go_wp2
    go_ret2
    exact ⟨rfl, rfl⟩
  cases h2 : isT a
  · rw [h2] at hk
    simp only [Bool.and_false, Bool.false_and] at hk
    subst hk
    go_enter Try.func30, Try.ntmps30
    go_wp2_with fail
    refine (rtime_any a _).mono ?_
    rw [h2]
    rintro e w1 ⟨rfl, rfl⟩
    clear h2
    go_wp2
    go_ret2
    exact ⟨rfl, rfl⟩
  obtain ⟨a1, a2⟩ := isT_yes h2
  cases h3 : okP d
  · rw [h3] at hk
    simp only [Bool.and_false, Bool.false_and] at hk
    subst hk
    rcases okP_no h3 with h4 | h4
    · clear h3
      go_enter Try.func30, Try.ntmps30
      go_wp2_with fail
      refine (rtime_any a _).mono ?_
      rw [h2]
      rintro e w1 ⟨rfl, rfl⟩
      clear h2
      go_wp2
      go_ret2
      exact ⟨rfl, rfl⟩
    · clear h3
      have h5 : ¬ d < 0 := by omega
      go_enter Try.func30, Try.ntmps30
      go_wp2_with fail
      refine (rtime_any a _).mono ?_
      rw [h2]
      rintro e w1 ⟨rfl, rfl⟩
      clear h2
      go_wp2
      go_ret2
      exact ⟨rfl, rfl⟩
  · obtain ⟨d1, d2⟩ := okP_yes h3
    obtain ⟨q1, q2, q3, q4⟩ := HQ.out h3
    rw [h2, h3, decide_eq_true (show 0 ≤ a by omega)] at hk
    simp only [Bool.true_and] at hk
    have hd1 : ¬ d < 0 := by omega
    have hd2 : ¬ 500000 < d := by omega
    have HK := Lib.hid hk
    clear hk h3
    cases k
    all_goals
      go_enter Try.func30, Try.ntmps30
      go_wp2_with fail
      refine (rtime_any a _).mono ?_
      rw [h2]
      rintro e w1 ⟨rfl, rfl⟩
      clear h2
      go_wp2_with fail
      refine (ratio_any a p q up (by omega) a2 q1 q2 q3 q4 _).mono ?_
      rintro e w1 ⟨rfl, rfl⟩
      go_wp2_with fail
      refine (rtime_any _ _).mono ?_
      rw [← HK.out]
      rintro e w1 ⟨rfl, rfl⟩
      go_wp2
      go_ret2
      exact ⟨rfl, rfl⟩

theorem long_pre (d : Int) : okP d = true → 0 ≤ 1000000 + d ∧ 1000000 + d ≤ 1500000 ∧ 1 ≤ 1000000 - d ∧ 1000000 - d ≤ 1500000 := fun h => by have := okP_yes h; omega
theorem short_pre (d : Int) : okP d = true → 0 ≤ 1000000 - d ∧ 1000000 - d ≤ 1500000 ∧ 1 ≤ 1000000 + d ∧ 1000000 + d ≤ 1500000 := fun h => by have := okP_yes h; omega
end Go.Proofs.Ytpiafeodojooiaa
