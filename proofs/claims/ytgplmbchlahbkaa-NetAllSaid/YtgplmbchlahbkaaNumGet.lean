/-
  The contracts of num.Get and its reference: what the bytes tell. Condition: a length up to 2^46.
-/
import Derived.Test.YtgplmbchlahbkaaNumPut
namespace Go.Proofs.Ytgplmbchlahbkaa
open Go Go.Sort Go.RowKit
set_option linter.unusedVariables false

theorem getF_end {k y : Nat} {l : List UInt8} {n : Nat} (hl : l.length = n) (hk : ¬ k < n) : getF k y (l.drop k) = (0, 0, 2) := by
  rw [List.drop_of_length_le (by omega)]; rfl
theorem getF_at {k y : Nat} {l : List UInt8} {c : UInt8} (hc : l[k]? = some c) : getF k y (l.drop k) =
    if k = 9 ∧ 1 < c.toNat then (0, 0, 1)
    else if 127 < c.toNat then getF (k + 1) (y + c.toNat % 128 * 128 ^ k) (l.drop (k + 1))
    else if 0 < k ∧ c.toNat = 0 then (0, 0, 1)
    else (unzig (y + c.toNat % 128 * 128 ^ k), k + 1, 0) := by
  have hk : k < l.length := (List.getElem?_eq_some_iff.1 hc).1
  have he : l[k] = c := (List.getElem?_eq_some_iff.1 hc).2
  rw [List.drop_eq_getElem_cons hk, he, getF]

theorem or_step {y z k : Nat} (hz : z < 256) (hk : k ≤ 9) (hz9 : k = 9 → z ≤ 1) (hy : y < 128 ^ k) :
    bits .or .u64 (y : Int) (IntKind.u64.wrap (IntKind.u64.wrap (bits .and .u8 (z : Int) 127) * 2 ^ (7 * k))) = ((y + z % 128 * 128 ^ k : Nat) : Int) ∧ y + z % 128 * 128 ^ k < 18446744073709551616 ∧ (k < 9 → y + z % 128 * 128 ^ k < 128 ^ (k + 1)) := by
  have e128 : (128 : Nat) ^ k = 2 ^ (7 * k) := by rw [Nat.pow_mul]
  have hlt : y + z % 128 * 128 ^ k < 18446744073709551616 := by
    by_cases h9 : k = 9
    · subst h9
      have := hz9 rfl
      omega
    · have h3 : 128 ^ k ≤ 128 ^ 8 := Nat.pow_le_pow_right (by omega) (by omega)
      have : z % 128 * 128 ^ k ≤ 127 * 128 ^ k := Nat.mul_le_mul_right _ (by omega)
      omega
  have hup : k < 9 → y + z % 128 * 128 ^ k < 128 ^ (k + 1) := fun _ => by
    rw [Nat.pow_succ]
    have : z % 128 * 128 ^ k ≤ 127 * 128 ^ k := Nat.mul_le_mul_right _ (by omega)
    omega
  refine ⟨?_, hlt, hup⟩
  have h1 : IntKind.u64.wrap (bits .and .u8 (z : Int) 127) = ((z % 128 : Nat) : Int) := by
    rw [u8_and127 _ (by omega) (by omega), IntKind.wrap_u64]; omega
  have h2 : IntKind.u64.wrap (((z % 128 : Nat) : Int) * 2 ^ (7 * k)) = ((z % 128 * 128 ^ k : Nat) : Int) := by
    have : ((z % 128 : Nat) : Int) * 2 ^ (7 * k) = ((z % 128 * 128 ^ k : Nat) : Int) := by rw [e128]; push_cast; rfl
    rw [this, IntKind.wrap_u64]
    exact Int.emod_eq_of_lt (by omega) (by omega)
  rw [h1, h2, (bits_nat .u64 64 (by decide) wraps_u64 y (z % 128 * 128 ^ k) (by omega) (by omega)).2]
  have h3 := Nat.two_pow_add_eq_or_of_lt (i := 7 * k) (b := y) (by rw [← e128]; exact hy) (z % 128)
  rw [← e128, Nat.mul_comm] at h3
  rw [Nat.or_comm, ← h3, Nat.add_comm]
theorem un_odd {E : Int} {v : Nat} (hE : E = (v : Int)) (hv : v < 18446744073709551616) (h : (bits .and .u64 E 1 == 1) = true) : bits .xor .i64 (-1) (wrap64 (E / 2)) = unzig v := by
  subst hE
  rw [Lib.u64_and1 _ (by omega) (by omega)] at h
  have h2 : v % 2 = 1 := by have := beq_iff_eq.1 h; omega
  have e : wrap64 ((v : Int) / 2) = ((v / 2 : Nat) : Int) := by unfold wrap64; omega
  rw [e, Lib.i64_not _ (by omega)]
  unfold unzig
  rw [if_pos h2]
theorem un_even {E : Int} {v : Nat} (hE : E = (v : Int)) (hv : v < 18446744073709551616) (h : (bits .and .u64 E 1 == 1) = false) : wrap64 (E / 2) = unzig v := by
  subst hE
  rw [Lib.u64_and1 _ (by omega) (by omega)] at h
  have h2 : ¬ v % 2 = 1 := by have := beq_eq_false_iff_ne.1 h; omega
  have e : wrap64 ((v : Int) / 2) = ((v / 2 : Nat) : Int) := by unfold wrap64; omega
  rw [e]
  unfold unzig
  rw [if_neg h2]

set_option maxRecDepth 8000 in
set_option maxHeartbeats 1000000 in
/-- num.Get -/
theorem get_any {p : Option Addr} {n cap : Nat} {l : List UInt8} {w : World} (h : SlP w p n cap l) (hn : n ≤ 70368744177664) :
    Calls Try.prog 54 #[.slice p n cap] w fun e w' => e = .returned (.tuple #[.int .i64 (getL l).1, .int .i64 ((getL l).2.1 : Int), .int .i64 (getL l).2.2]) ∧ w = w' := by
  have hsg : IntKind.u64.signed = false := rfl
  have hmx : IntKind.u64.max = 18446744073709551615 := rfl
  have H := Lib.hid h
  clear h
  obtain ⟨r, hr⟩ : ∃ r, r = getL l := ⟨_, rfl⟩
  rw [← hr]
  have HR := Lib.hid hr
  clear hr
  go_enter Try.func54, Try.ntmps54
  go_wp2
  go_loop [5, 11] (fun u i => ∃ k y : Nat, i = .int .i64 (k : Int) ∧ u = .int .u64 (y : Int) ∧ k ≤ n ∧ k ≤ 9 ∧ Hid (y < 128 ^ k) ∧ Hid (getF k y (l.drop k) = r)) (fun _ i => n - (intOf i).toNat)
  case atStart => exact ⟨0, 0, rfl, rfl, by omega, by omega, Lib.hid (by omega), Lib.hid HR.out.symm⟩
  case round =>
    obtain ⟨k, y, rfl, rfl, hk, hk9, HY, HG⟩ := hrel
    by_cases hlt : k < n
    · obtain ⟨b, off, c, rfl, hc, hcell⟩ := H.out.at k hlt
      have hc256 := c.toNat_lt
      have hx := getF_at (y := y) hc
      rw [HG.out] at hx
      have HX := Lib.hid hx
      clear hc hx HG
      generalize c.toNat = z at *
      by_cases h9 : k = 9
      · subst h9
        by_cases h1 : 1 < z
        · have hr := HX.out
          rw [if_pos ⟨rfl, h1⟩] at hr
          subst hr
          go_wp2
          go_ret3
          exact ⟨rfl, rfl⟩
        · have OS := Lib.hid (or_step (show z < 256 by omega) hk9 (fun _ => by omega) HY.out)
          have hr := HX.out
          rw [if_neg (by omega), if_neg (by omega)] at hr
          by_cases hz0 : z = 0
          · rw [if_pos ⟨by omega, hz0⟩] at hr
            subst hr
            go_wp2
            go_ret3
            exact ⟨rfl, rfl⟩
          · rw [if_neg (by omega)] at hr
            subst hr
            clear HY
            have e9 := OS.out.1
            rw [show (2 : Int) ^ (7 * 9) = 9223372036854775808 from by decide, show (128 : Nat) ^ 9 = 9223372036854775808 from by decide] at e9
            have E9 := Lib.hid e9
            have l9 := OS.out.2.1
            rw [show (128 : Nat) ^ 9 = 9223372036854775808 from by decide] at l9
            clear e9
            go_wp2
            · go_ret3
              rw [un_odd E9.out l9 (by assumption)]
              exact ⟨rfl, rfl⟩
            · go_ret3
              rw [un_even E9.out l9 (by assumption)]
              exact ⟨rfl, rfl⟩
      · have OS := Lib.hid (or_step (show z < 256 by omega) hk9 (fun _ => by omega) HY.out)
        have hr := HX.out
        rw [if_neg (by omega)] at hr
        by_cases hz : 127 < z
        · rw [if_pos hz] at hr
          have HR2 := Lib.hid hr
          clear hr HX
          go_wp2
          go_round
          case rel => exact ⟨k + 1, _, by go_num, by rw [OS.out.1], by omega, by omega, Lib.hid (OS.out.2.2 (by omega)), Lib.hid HR2.out.symm⟩
          case measure => simp [intOf]; omega
        · rw [if_neg hz] at hr
          by_cases h0 : k = 0
          · rw [if_neg (by omega)] at hr
            subst hr
            subst h0
            clear HY
            rw [Nat.add_zero] at hcell
            have e0 := OS.out.1
            rw [show (2 : Int) ^ (7 * 0) = 1 from rfl, Int.mul_one, Nat.pow_zero, Nat.mul_one] at e0
            have E0 := Lib.hid e0
            have l0 := OS.out.2.1
            rw [Nat.pow_zero, Nat.mul_one] at l0
            clear e0
            go_wp2
            · go_ret3
              rw [un_odd E0.out l0 (by assumption)]
              exact ⟨rfl, rfl⟩
            · go_ret3
              rw [un_even E0.out l0 (by assumption)]
              exact ⟨rfl, rfl⟩
          · by_cases hz0 : z = 0
            · rw [if_pos ⟨by omega, hz0⟩] at hr
              subst hr
              go_wp2
              go_ret3
              exact ⟨rfl, rfl⟩
            · rw [if_neg (by omega)] at hr
              subst hr
              go_wp2
              · go_ret3
                rw [un_odd OS.out.1 OS.out.2.1 (by assumption)]
                exact ⟨rfl, rfl⟩
              · go_ret3
                rw [un_even OS.out.1 OS.out.2.1 (by assumption)]
                exact ⟨rfl, rfl⟩
    · go_wp2
      go_ret3
      have hx := HG.out
      rw [getF_end H.out.len hlt] at hx
      subst hx
      exact ⟨rfl, rfl⟩
end Go.Proofs.Ytgplmbchlahbkaa
