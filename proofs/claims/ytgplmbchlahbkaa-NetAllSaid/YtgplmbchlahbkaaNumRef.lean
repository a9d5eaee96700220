/-
  The contract of the reference's Get: what the bytes tell. Condition: a length up to 2^46.
-/
import Derived.Test.YtgplmbchlahbkaaNumGet
namespace Go.Proofs.Ytgplmbchlahbkaa
open Go Go.Sort Go.RowKit
set_option linter.unusedVariables false

theorem sum_step {y z k W : Nat} (hW : W = 128 ^ k) (hz : z < 256) (hk : k ≤ 9) (hz9 : k = 9 → z ≤ 1) (hy : y < 128 ^ k) :
    IntKind.u64.wrap ((y : Int) + IntKind.u64.wrap ((z : Int) % 128 * (W : Int))) = ((y + z % 128 * 128 ^ k : Nat) : Int) := by
  obtain ⟨-, h1, -⟩ := or_step hz hk hz9 hy
  rw [← hW] at h1 ⊢
  have e : (z : Int) % 128 * (W : Int) = ((z % 128 * W : Nat) : Int) := by push_cast; rfl
  rw [e]
  generalize z % 128 * W = q at *
  rw [IntKind.wrap_u64, IntKind.wrap_u64]
  omega
theorem pow_next {k W : Nat} (hW : W = 128 ^ k) (hk : k < 9) : IntKind.u64.wrap ((W : Int) * 128) = ((128 ^ (k + 1) : Nat) : Int) := by
  have h3 : 128 ^ k ≤ 128 ^ 8 := Nat.pow_le_pow_right (by omega) (by omega)
  rw [Nat.pow_succ, ← hW]
  rw [← hW] at h3
  rw [IntKind.wrap_u64]
  omega
theorem ref_odd {F : Int} {v : Nat} (hE : F = (v : Int)) (hv : v < 18446744073709551616) (h : (F.tmod 2 == 1) = true) : wrap64 (wrap64 (-wrap64 (IntKind.u64.wrap (F.tdiv 2))) - 1) = unzig v := by
  subst hE
  have h2 : v % 2 = 1 := by
    have := beq_iff_eq.1 h
    rw [Int.tmod_eq_emod_of_nonneg (by omega)] at this
    omega
  unfold unzig
  rw [if_pos h2, Int.tdiv_eq_ediv_of_nonneg (by omega), IntKind.wrap_u64]
  unfold wrap64
  omega
theorem ref_even {F : Int} {v : Nat} (hE : F = (v : Int)) (hv : v < 18446744073709551616) (h : (F.tmod 2 == 1) = false) : wrap64 (IntKind.u64.wrap (F.tdiv 2)) = unzig v := by
  subst hE
  have h2 : ¬ v % 2 = 1 := by
    have := beq_eq_false_iff_ne.1 h
    rw [Int.tmod_eq_emod_of_nonneg (by omega)] at this
    omega
  unfold unzig
  rw [if_neg h2, Int.tdiv_eq_ediv_of_nonneg (by omega), IntKind.wrap_u64]
  unfold wrap64
  omega

end Go.Proofs.Ytgplmbchlahbkaa
