/-
  Contracts of the functions of package crc, of their references, and of bytes.Clone and bytes.Equal, each at any slice of bytes that can be read. Conditions: lengths up to 2^46.
-/
import Derived.Test.YtgplmbchlahbkaaRows
import Derived.Test.YtgplmbchlahbkaaCrcPlain
namespace Go.Proofs.Ytgplmbchlahbkaa
open Go.RowKit
set_option linter.unusedVariables false

theorem sz5 : ∀ w, (sizeOf 5).run Try.prog w = .ok 1 w := fun w => by kernel_rfl
theorem info5 : (Try.prog.info? 5).map (fun i => (i.zero, i.size, i.bytes)) = some (some (.int .u8 0), 1, 1) := by kernel_rfl
theorem cut_to (p : Option Addr) (n cap k : Nat) (hk : k ≤ cap) (w : World) : (Instr.slice 35 (.slice p n cap) none (some (.int .i64 (k : Int))) none).run Try.prog w = .ok (.slice p k cap) w :=
  run_cut_to 35 5 Try.underlying35 sz5 p n cap k hk w
theorem cut_from (p : Option Addr) (n cap k : Nat) (hk : k ≤ n) (w : World) : (Instr.slice 35 (.slice p n cap) (some (.int .i64 (k : Int))) none none).run Try.prog w = .ok (.slice (tailP p cap k) (n - k) (cap - k)) w :=
  run_cut_from 35 5 Try.underlying35 sz5 p n cap k hk w
theorem str_of {w : World} {p : Option Addr} {n cap : Nat} {l : List UInt8} (h : SlP w p n cap l) : (convert 35 9 (.slice p n cap)).run Try.prog w = .ok (.string ⟨l.toArray⟩) w :=
  run_str 35 5 9 Try.underlying35 Try.underlying5 Try.underlying9 h

theorem u32_lt (x : Nat) (h : x < 4294967296) : (IntKind.u32.wrap (x : Int)) = x := by rw [IntKind.wrap_u32']; omega
theorem neg_bit (z : Nat) : -((z % 2 : Nat) : Int) % 4294967296 = (((if z % 2 = 1 then 4294967295 else 0 : Nat)) : Int) := by
  rcases Nat.mod_two_eq_zero_or_one z with h | h <;> rw [h] <;> decide
/-- The bit's step as the program has it. -/
theorem stp_bits (z : Nat) (hz : z < 4294967296) : bits .xor .u32 ((z : Int) / 2) (bits .and .u32 3988292384 (-bits .and .u32 (z : Int) 1 % 4294967296)) = ((stp z : Nat) : Int) := by
  have e1 : bits .and .u32 (z : Int) 1 = ((z % 2 : Nat) : Int) := by
    have := u32_and_nat z 1 hz (by omega)
    rw [Nat.and_one_is_mod] at this
    simpa using this
  rw [e1, neg_bit]
  have e2 : (z : Int) / 2 = ((z / 2 : Nat) : Int) := by omega
  rw [e2]
  unfold stp
  rcases Nat.mod_two_eq_zero_or_one z with h | h
  · rw [if_neg (by omega), if_neg (by omega)]
    have e3 := u32_and_nat 3988292384 0 (by omega) (by omega)
    have e4 := u32_xor_nat (z / 2) 0 (by omega) (by omega)
    simp at e3 e4 ⊢
    rw [e3, e4]
  · rw [if_pos h, if_pos h]
    have e3 := u32_and_nat 3988292384 4294967295 (by omega) (by omega)
    have e4 := u32_xor_nat (z / 2) 3988292384 (by omega) (by omega)
    have e5 : 3988292384 &&& 4294967295 = 3988292384 := by decide
    rw [e5] at e3
    simp at e3 e4 ⊢
    rw [e3, e4]
theorem xor_bits (y : Nat) (c : UInt8) (hy : y < 4294967296) : bits .xor .u32 (y : Int) (c.toNat : Int) = ((y ^^^ c.toNat : Nat) : Int) := u32_xor_nat y c.toNat hy (byte_lt c)
theorem not_bits (y : Nat) (hy : y < 4294967296) : bits .xor .u32 4294967295 (y : Int) = ((4294967295 ^^^ y : Nat) : Int) := u32_xor_nat 4294967295 y (by omega) hy

theorem int_eq {k : IntKind} {a b : Int} (h : a = b) : Value.int k a = Value.int k b := by rw [h]
theorem ret_int {k : IntKind} {a b : Int} (h : a = b) : Ending.returned (.int k a) = .returned (.int k b) := by rw [h]

set_option maxHeartbeats 400000 in
/-- crc.Sum -/
theorem sum_any {p : Option Addr} {n cap : Nat} {l : List UInt8} {w : World} (h : SlP w p n cap l) (hn : n ≤ 70368744177664) :
    Calls Try.prog 65 #[.slice p n cap] w fun e w' => e = .returned (.int .u32 (crc l : Int)) ∧ w = w' := by
  have hsg : IntKind.u32.signed = false := rfl
  have hmx : IntKind.u32.max = 4294967295 := rfl
  have H := Lib.hid h
  clear h
  go_enter Try.func65, Try.ntmps65
  go_wp2
  go_loop [3, 5, 8] (fun x _ i => ∃ k : Nat, ∃ y : Nat, y < 4294967296 ∧ k ≤ n ∧ y = crcF 4294967295 (l.take k) ∧ i = .int .i64 k ∧ x = .int .u32 (y : Int)) (fun _ _ i => n - (intOf i).toNat)
  case atStart => exact ⟨0, 4294967295, by omega, by omega, rfl, rfl, rfl⟩
  case round =>
    obtain ⟨k, y, hy, hk, hyk, rfl, rfl⟩ := hrel
    have HY := Lib.hid hyk
    clear hyk
    by_cases hlt : k < n
    · obtain ⟨b, off, c, rfl, hc, hcell⟩ := H.out.at k hlt
      have hb2 := c.toNat_lt
      have HC := Lib.hid hc
      have HX := Lib.hid (xor_bits y c hy)
      clear hc
      go_wp2
      go_loop [3, 16] (fun x i => ∃ j : Nat, ∃ z : Nat, z < 4294967296 ∧ j ≤ 8 ∧ z = stps j (y ^^^ c.toNat) ∧ i = .int .i64 j ∧ x = .int .u32 (z : Int)) (fun _ i => 8 - (intOf i).toNat)
      case atStart => exact ⟨0, y ^^^ c.toNat, xor_lt32 hy (byte_lt c), by omega, rfl, rfl, int_eq HX.out⟩
      case round =>
        obtain ⟨j, z, hz, hj, hzj, rfl, rfl⟩ := hrel
        have HZ := Lib.hid hzj
        clear hzj
        by_cases hlt : j < 8
        · go_wp2
          go_round
          case rel => exact ⟨j + 1, stp z, stp_lt hz, by omega, by rw [HZ.out]; rfl, by go_num, int_eq (stp_bits z hz)⟩
          case measure => simp [intOf]; omega
        · go_wp2
          go_round
          case rel => exact ⟨k + 1, z, hz, by omega, (by have e : j = 8 := (by omega); rw [crcF_take l _ k c HC.out, ← HY.out, HZ.out, e]; rfl), by go_num, rfl⟩
          case measure => simp [intOf]; omega
    · go_wp2
      go_ret
      refine ⟨ret_int ?_, rfl⟩
      rw [not_bits y hy]
      unfold crc
      rw [HY.out, List.take_of_length_le (by rw [H.out.len]; omega)]

set_option maxHeartbeats 400000 in
/-- The reference's Sum. -/
theorem rsum_any {p : Option Addr} {n cap : Nat} {l : List UInt8} {w : World} (h : SlP w p n cap l) (hn : n ≤ 70368744177664) :
    Calls Try.prog 58 #[.slice p n cap] w fun e w' => e = .returned (.int .u32 (crc l : Int)) ∧ w = w' := by
  have hsg : IntKind.u32.signed = false := rfl
  have hmx : IntKind.u32.max = 4294967295 := rfl
  have H := Lib.hid h
  clear h
  go_enter Try.func58, Try.ntmps58
  go_wp2
  go_loop [3, 4] (fun x i => ∃ k : Nat, ∃ y : Nat, y < 4294967296 ∧ k ≤ n ∧ y = crcF 4294967295 (l.take k) ∧ i = .int .i64 k ∧ x = .int .u32 (y : Int)) (fun _ i => n - (intOf i).toNat)
  case atStart => exact ⟨0, 4294967295, by omega, by omega, rfl, rfl, rfl⟩
  case round =>
    obtain ⟨k, y, hy, hk, hyk, rfl, rfl⟩ := hrel
    have HY := Lib.hid hyk
    clear hyk
    by_cases hlt : k < n
    · obtain ⟨b, off, c, rfl, hc, hcell⟩ := H.out.at k hlt
      have hb2 := c.toNat_lt
      have HC := Lib.hid hc
      have HX := Lib.hid (xor_bits y c hy)
      clear hc
      go_wp2
      go_loop [3, 5] (fun x i => ∃ j : Nat, ∃ z : Nat, z < 4294967296 ∧ j ≤ 8 ∧ z = stps j (y ^^^ c.toNat) ∧ i = .int .i64 j ∧ x = .int .u32 (z : Int)) (fun _ i => 8 - (intOf i).toNat)
      case atStart => exact ⟨0, y ^^^ c.toNat, xor_lt32 hy (byte_lt c), by omega, rfl, rfl, int_eq HX.out⟩
      case round =>
        obtain ⟨j, z, hz, hj, hzj, rfl, rfl⟩ := hrel
        have HZ := Lib.hid hzj
        clear hzj
        by_cases hlt : j < 8
        · by_cases hb : z % 2 = 1
          · go_wp2
            go_round
            case rel =>
              refine ⟨j + 1, stp z, stp_lt hz, by omega, by rw [HZ.out]; rfl, by go_num, int_eq ?_⟩
              have e4 := u32_xor_nat (z / 2) 3988292384 (by omega) (by omega)
              unfold stp
              rw [if_pos hb, ← e4]
              simp
            case measure => simp [intOf]; omega
          · go_wp2
            go_round
            case rel =>
              refine ⟨j + 1, stp z, stp_lt hz, by omega, by rw [HZ.out]; rfl, by go_num, int_eq ?_⟩
              unfold stp
              rw [if_neg hb]
              omega
            case measure => simp [intOf]; omega
        · go_wp2
          go_round
          case rel => exact ⟨k + 1, z, hz, by omega, (by have e : j = 8 := (by omega); rw [crcF_take l _ k c HC.out, ← HY.out, HZ.out, e]; rfl), by go_num, rfl⟩
          case measure => simp [intOf]; omega
    · go_wp2
      go_ret
      refine ⟨ret_int ?_, rfl⟩
      rw [not_bits y hy]
      unfold crc
      rw [HY.out, List.take_of_length_le (by rw [H.out.len]; omega)]
end Go.Proofs.Ytgplmbchlahbkaa
