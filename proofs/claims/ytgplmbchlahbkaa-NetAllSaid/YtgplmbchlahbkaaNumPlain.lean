/-
  Numbers as bytes, plainly: what is written, what is read. No program in sight; conditions stand at each.
-/
namespace Go.Proofs.Ytgplmbchlahbkaa
set_option linter.unusedVariables false

def zig (x : Int) : Nat := if x < 0 then (-(2 * x) - 1).toNat else (2 * x).toNat
def unzig (u : Nat) : Int := if u % 2 = 1 then -((u / 2 : Nat) : Int) - 1 else ((u / 2 : Nat) : Int)
theorem unzig_zig (x : Int) : unzig (zig x) = x := by
  unfold unzig zig
  split <;> split <;> omega
theorem zig_lt {x : Int} (h : -9223372036854775808 ≤ x) (h2 : x ≤ 9223372036854775807) : zig x < 18446744073709551616 := by
  unfold zig
  split <;> omega
theorem unzig_in {u : Nat} (h : u < 18446744073709551616) : -9223372036854775808 ≤ unzig u ∧ unzig u ≤ 9223372036854775807 := by
  unfold unzig
  split <;> omega

def enc (u : Nat) : List UInt8 := if h : u < 128 then [UInt8.ofNat u] else UInt8.ofNat (u % 128 + 128) :: enc (u / 128)
termination_by u
decreasing_by omega
theorem enc_last {u : Nat} (h : u < 128) : enc u = [UInt8.ofNat u] := by rw [enc]; simp [h]
theorem enc_more {u : Nat} (h : ¬ u < 128) : enc u = UInt8.ofNat (u % 128 + 128) :: enc (u / 128) := by rw [enc]; simp [h]
theorem enc_pos (u : Nat) : 0 < (enc u).length := by
  by_cases h : u < 128
  · rw [enc_last h]; simp
  · rw [enc_more h]; simp
theorem enc_len (k : Nat) : ∀ u, u < 128 ^ (k + 1) → (enc u).length ≤ k + 1 := by
  induction k with
  | zero => intro u h; rw [enc_last (by simpa using h)]; simp
  | succ k ih =>
    intro u h
    by_cases h1 : u < 128
    · rw [enc_last h1]; simp
    · rw [enc_more h1]
      have := ih (u / 128) (by rw [Nat.div_lt_iff_lt_mul (by omega)]; rw [Nat.pow_succ] at h; exact h)
      simp; omega
theorem enc_ten {u : Nat} (h : u < 18446744073709551616) : (enc u).length ≤ 10 := enc_len 9 u (by omega)

/-- From the i-th byte on, u being what was read before. -/
def getF : Nat → Nat → List UInt8 → Int × Nat × Int
  | _, _, [] => (0, 0, 2)
  | i, u, c :: r =>
    if i = 9 ∧ 1 < c.toNat then (0, 0, 1)
    else if 127 < c.toNat then getF (i + 1) (u + c.toNat % 128 * 128 ^ i) r
    else if 0 < i ∧ c.toNat = 0 then (0, 0, 1)
    else (unzig (u + c.toNat % 128 * 128 ^ i), i + 1, 0)
def getL (l : List UInt8) : Int × Nat × Int := getF 0 0 l

theorem pow_step (v i : Nat) : v % 128 * 128 ^ i + v / 128 * 128 ^ (i + 1) = v * 128 ^ i := by
  have h := Nat.mod_add_div v 128
  rw [Nat.pow_succ, show v / 128 * (128 ^ i * 128) = 128 * (v / 128) * 128 ^ i by rw [Nat.mul_comm (128 ^ i) 128, ← Nat.mul_assoc, Nat.mul_comm (v / 128) 128], ← Nat.add_mul, h]
theorem nine {v i : Nat} (hi : i ≤ 9) (hv : v * 128 ^ i < 18446744073709551616) (h : ¬ v < 128) : i < 9 := by
  rcases Nat.lt_or_ge i 9 with h1 | h1
  · exact h1
  · obtain rfl : i = 9 := by omega
    omega
theorem getF_enc (rest : List UInt8) : ∀ (n v i u : Nat), v ≤ n → i ≤ 9 → v * 128 ^ i < 18446744073709551616 → (0 < i → v ≠ 0) → getF i u (enc v ++ rest) = (unzig (u + v * 128 ^ i), i + (enc v).length, 0) := by
  intro n
  induction n with
  | zero =>
    intro v i u hn hi hv h0
    obtain rfl : v = 0 := by omega
    have : i = 0 := by omega
    subst this
    rw [enc_last (by omega)]
    simp [getF]
  | succ n ih =>
    intro v i u hn hi hv h0
    by_cases h : v < 128
    · rw [enc_last h]
      have hc : (UInt8.ofNat v).toNat = v := by rw [UInt8.toNat_ofNat']; omega
      have h9 : ¬ (i = 9 ∧ 1 < v) := by rintro ⟨rfl, h1⟩; omega
      have hz : ¬ (0 < i ∧ v = 0) := fun ⟨h1, h2⟩ => h0 h1 h2
      simp only [List.cons_append, List.nil_append, getF, hc, if_neg h9, if_neg (show ¬ 127 < v by omega), if_neg hz, List.length_cons, List.length_nil]
      rw [Nat.mod_eq_of_lt h]
    · have hi9 := nine hi hv h
      rw [enc_more h]
      have hc : (UInt8.ofNat (v % 128 + 128)).toNat = v % 128 + 128 := by rw [UInt8.toNat_ofNat']; omega
      simp only [List.cons_append, getF, hc, if_neg (show ¬ (i = 9 ∧ 1 < v % 128 + 128) by omega), if_pos (show 127 < v % 128 + 128 by omega), List.length_cons]
      have hs := pow_step v i
      rw [ih (v / 128) (i + 1) _ (by omega) (by omega) (by omega) (by omega), show (v % 128 + 128) % 128 = v % 128 by omega, Nat.add_assoc, hs]
      congr 2
      omega
theorem getL_enc {v : Nat} (hv : v < 18446744073709551616) (rest : List UInt8) : getL (enc v ++ rest) = (unzig v, (enc v).length, 0) := by
  have := getF_enc rest v v 0 0 (Nat.le_refl _) (by omega) (by simpa using hv) (by omega)
  simpa [getL] using this
theorem getF_cut : ∀ (n v i u j : Nat), v ≤ n → i ≤ 9 → v * 128 ^ i < 18446744073709551616 → j < (enc v).length → getF i u ((enc v).take j) = (0, 0, 2) := by
  intro n
  induction n with
  | zero =>
    intro v i u j hn hi hv hj
    rw [enc_last (by omega)] at hj ⊢
    have : j = 0 := by simpa using hj
    subst this
    rfl
  | succ n ih =>
    intro v i u j hn hi hv hj
    by_cases h : v < 128
    · rw [enc_last h] at hj ⊢
      have : j = 0 := by simpa using hj
      subst this
      rfl
    · have hi9 := nine hi hv h
      rw [enc_more h] at hj ⊢
      cases j with
      | zero => rfl
      | succ j =>
        have hc : (UInt8.ofNat (v % 128 + 128)).toNat = v % 128 + 128 := by rw [UInt8.toNat_ofNat']; omega
        simp only [List.take_succ_cons, getF, hc, if_neg (show ¬ (i = 9 ∧ 1 < v % 128 + 128) by omega), if_pos (show 127 < v % 128 + 128 by omega)]
        have hs := pow_step v i
        exact ih (v / 128) (i + 1) _ j (by omega) (by omega) (by omega) (by simpa using hj)
theorem getL_cut {v j : Nat} (hv : v < 18446744073709551616) (hj : j < (enc v).length) : getL ((enc v).take j) = (0, 0, 2) :=
  getF_cut v v 0 0 j (Nat.le_refl _) (by omega) (by simpa using hv) hj

/-- What is told of any bytes. -/
theorem getF_in (l : List UInt8) : ∀ i u, i ≤ 9 → u < 128 ^ i → ((getF i u l).2.2 = 0 ∧ i < (getF i u l).2.1 ∧ (getF i u l).2.1 ≤ i + l.length ∧ (getF i u l).2.1 ≤ 10 ∧ -9223372036854775808 ≤ (getF i u l).1 ∧ (getF i u l).1 ≤ 9223372036854775807) ∨ ((getF i u l).1 = 0 ∧ (getF i u l).2.1 = 0 ∧ ((getF i u l).2.2 = 1 ∨ (getF i u l).2.2 = 2)) := by
  induction l with
  | nil => intro i u hi hu; right; simp [getF]
  | cons c r ih =>
    intro i u hi hu
    have hc := c.toNat_lt
    simp only [getF]
    split
    · right; simp
    next h9 =>
      split
      next h127 =>
        have h2 : u + c.toNat % 128 * 128 ^ i < 128 ^ (i + 1) := by
          rw [Nat.pow_succ]
          have : c.toNat % 128 * 128 ^ i ≤ 127 * 128 ^ i := Nat.mul_le_mul_right _ (by omega)
          omega
        rcases ih (i + 1) _ (by omega) h2 with ⟨a, b, c1, d, e⟩ | h
        · exact .inl ⟨a, by omega, by rw [List.length_cons]; omega, d, e⟩
        · exact .inr h
      · split
        · right; simp
        · left
          refine ⟨rfl, Nat.lt_succ_self _, by simp, by simp; omega, ?_⟩
          refine unzig_in ?_
          by_cases h8 : i = 9
          · subst h8
            omega
          · have h3 : 128 ^ (i + 1) ≤ 128 ^ 9 := Nat.pow_le_pow_right (by omega) (by omega)
            have h2 : u + c.toNat % 128 * 128 ^ i < 128 ^ (i + 1) := by
              rw [Nat.pow_succ]
              have : c.toNat % 128 * 128 ^ i ≤ 127 * 128 ^ i := Nat.mul_le_mul_right _ (by omega)
              omega
            omega
theorem getL_in (l : List UInt8) : ((getL l).2.2 = 0 ∧ 0 < (getL l).2.1 ∧ (getL l).2.1 ≤ l.length ∧ (getL l).2.1 ≤ 10 ∧ -9223372036854775808 ≤ (getL l).1 ∧ (getL l).1 ≤ 9223372036854775807) ∨ ((getL l).1 = 0 ∧ (getL l).2.1 = 0 ∧ ((getL l).2.2 = 1 ∨ (getL l).2.2 = 2)) := by
  have := getF_in l 0 0 (by omega) (by omega)
  simpa [getL] using this

/-- A text: its length, and itself. -/
def txt (s : List UInt8) : List UInt8 := enc (zig s.length) ++ s
def textL (l : List UInt8) : List UInt8 × Nat × Int :=
  if (getL l).2.2 ≠ 0 then ([], 0, (getL l).2.2)
  else if (getL l).1 < 0 ∨ 65536 < (getL l).1 then ([], 0, 1)
  else if ((l.length - (getL l).2.1 : Nat) : Int) < (getL l).1 then ([], 0, 2)
  else ((l.drop (getL l).2.1).take (getL l).1.toNat, (getL l).2.1 + (getL l).1.toNat, 0)
theorem zig_nat (n : Nat) : zig (n : Int) = 2 * n := by unfold zig; rw [if_neg (by omega)]; omega
theorem textL_txt {s : List UInt8} (hs : s.length ≤ 65536) (rest : List UInt8) : textL (txt s ++ rest) = (s, (txt s).length, 0) := by
  have hz : zig s.length < 18446744073709551616 := zig_lt (by omega) (by omega)
  have h := getL_enc hz (s ++ rest)
  rw [unzig_zig, ← List.append_assoc] at h
  unfold textL
  rw [show txt s ++ rest = enc (zig s.length) ++ s ++ rest from rfl, h]
  simp only [ne_eq, not_true_eq_false, if_false, List.length_append]
  rw [if_neg (by omega), if_neg (by omega)]
  simp [txt, List.append_assoc]
theorem textL_cut {s : List UInt8} (hs : s.length ≤ 65536) {j : Nat} (hj : j < (txt s).length) : textL ((txt s).take j) = ([], 0, 2) := by
  have hz : zig s.length < 18446744073709551616 := zig_lt (by omega) (by omega)
  unfold textL txt
  unfold txt at hj
  rcases Nat.lt_or_ge j (enc (zig s.length)).length with h | h
  · rw [List.take_append_of_le_length (by omega), getL_cut hz h]
    simp
  · rw [List.take_append, List.take_of_length_le h, getL_enc hz, unzig_zig]
    rw [List.length_append] at hj
    simp only [ne_eq, not_true_eq_false, if_false, List.length_append, List.length_take]
    rw [if_neg (by omega), if_pos (by omega)]
end Go.Proofs.Ytgplmbchlahbkaa
