/-
  The walk of the statement CrcBurst: whatever the input, the law returns true and nothing that was there is changed. No condition.
-/
import Derived.Test.YtnahlgokjppcoaaCrcLaws2
namespace Go.Proofs.Ytnahlgokjppcoaa
open Go Go.Sort Go.RowKit
set_option linter.unusedVariables false

theorem ne_zero (c : UInt8) : (((c.toNat : Int)) != 0) = (c != 0) := by
  by_cases h : c = 0
  · subst h; rfl
  · have : (c.toNat : Int) ≠ 0 := fun e => h (UInt8.toNat_inj.1 (by simpa using e))
    rw [bne_iff_ne.2 h, bne_iff_ne.2 this]

set_option maxHeartbeats 2000000 in
theorem walk_CrcBurst {p q : Option Addr} {n1 n2 c1 c2 : Nat} {l0 x0 : List UInt8} {a : Int} {w : World} (h1 : SlP w p n1 c1 l0) (h2 : -9223372036854775808 ≤ a ∧ a ≤ 9223372036854775807) (h3 : SlP w q n2 c2 x0) :
    Calls Try.prog 4 #[.slice p n1 c1, .int .i64 a, .slice q n2 c2] w fun e w' => e = .returned (.bool true) ∧ Below w.heap.size w w' := by
  obtain ⟨ha1, ha2⟩ := h2
  have hm1 : n1 ≤ 9223372036854775807 := Nat.le_trans h1.le h1.max
  have hm2 : n2 ≤ 9223372036854775807 := Nat.le_trans h3.le h3.max
  have H1 := Lib.hid h1
  have H2 := Lib.hid h3
  clear h1 h3
  go_enter Try.func4, Try.ntmps4
  go_wp2_with fail
  refine (begun2 w).mono ?_
  rintro e w1 ⟨rfl, x1⟩
  have X1 := Lib.hid x1
  clear x1
  go_wp2_with fail
  refine (short_any (H1.out.ext X1.out) 200 (by omega)).mono ?_
  rintro e w2 ⟨rfl, rfl⟩
  go_wp2_with fail
  refine (short_any (H2.out.ext X1.out) 4 (by omega)).mono ?_
  rintro e w2 ⟨rfl, rfl⟩
  have A1 := Lib.hid ((H1.out.ext X1.out).take (min n1 200) (by omega))
  have A2 := Lib.hid ((H2.out.ext X1.out).take (min n2 4) (by omega))
  have hn : min n1 200 ≤ 200 := by omega
  have hm : min n2 4 ≤ 4 := by omega
  generalize min n1 200 = n at A1 hn ⊢
  generalize min n2 4 = m at A2 hm ⊢
  generalize l0.take n = l at A1
  generalize x0.take m = x at A2
  clear H1 H2
  go_wp2_with fail
  go_loop [8, 9] (fun s i => ∃ k : Nat, k ≤ m ∧ i = .int .i64 k ∧ s = .bool ((x.take k).any (· != 0))) (fun _ i => m - (intOf i).toNat)
  case atStart => exact ⟨0, by omega, rfl, rfl⟩
  case round =>
    obtain ⟨k, hk, rfl, rfl⟩ := hrel
    by_cases hkm : k < m
    · obtain ⟨b, o, c, rfl, hc, hcell⟩ := A2.out.at k hkm
      have ST := Lib.hid (any_step x k c hc)
      have hz := ne_zero c
      clear hc
      have hk0 : (0 : Int) ≤ (k : Int) := by omega
      have hk1 : (k : Int) < (m : Int) := by omega
      cases hs : (x.take k).any (· != 0)
      · cases hcz : (c != 0)
        all_goals
          rw [hs, hcz] at ST
          rw [hcz] at hz
          go_wp2
          go_round
          case rel => exact ⟨k + 1, by omega, by go_num, by rw [ST.out]; rfl⟩
          case measure => simp [intOf]; omega
      · rw [hs] at ST
        go_wp2
        go_round
        case rel => exact ⟨k + 1, by omega, by go_num, by rw [ST.out]; rfl⟩
        case measure => simp [intOf]; omega
    · obtain rfl : k = m := by omega
      have e0 : x.take k = x := List.take_of_length_le (by rw [A2.out.len]; omega)
      rw [e0]
      clear e0
      obtain ⟨s, hs⟩ : ∃ s, s = x.any (· != 0) := ⟨_, rfl⟩
      rw [← hs]
      have HS := Lib.hid hs
      clear hs
      go_wp2_with fail
      refine (seal_any A1.out (by omega)).mono ?_
      rintro e w2 ⟨p2, c3, rfl, h2, x2⟩
      have S2 := Lib.hid h2
      have X2 := Lib.hid x2
      clear x2 h2
      by_cases c1 : a < 0
      · go_wp2
        go_ret
        exact ⟨rfl, X1.out.tr X2.out⟩
      · by_cases c2 : (n : Int) - (k : Int) < a
        · go_wp2
          go_ret
          exact ⟨rfl, X1.out.tr X2.out⟩
        · cases s
          · go_wp2
            go_ret
            exact ⟨rfl, X1.out.tr X2.out⟩
          · obtain ⟨i, rfl⟩ := Int.eq_ofNat_of_zero_le (show 0 ≤ a by omega)
            have hik : i + k ≤ n := by omega
            have hxl := Lib.hid A2.out.len
            have hll := Lib.hid A1.out.len
            have hsl : (sealL l).length = n + 4 := by rw [sealL_length, hll.out]
            have HSL := Lib.hid hsl
            clear hsl
            go_wp2_with fail
            go_loopw [11] (fun v wr => ∃ j : Nat, j ≤ k ∧ v = .int .i64 j ∧ OwP wr w1.heap.size p2 (n + 4) c3 (bur (sealL l) i (x.take j)) ∧ Below w1.heap.size w1 wr) (fun v _ => k - (intOf v).toNat)
            case atStart => exact ⟨0, by omega, rfl, by rw [List.take_zero, bur_nil _ _ (by rw [HSL.out]; omega)]; exact S2.out, X2.out⟩
            case round =>
              obtain ⟨j, hj, rfl, ho, hx2⟩ := hrel
              have HO := Lib.hid ho
              have HX := Lib.hid hx2
              clear ho hx2
              by_cases hjk : j < k
              · obtain ⟨b, o, c, rfl, hc, hcell⟩ := (A2.out.ext HX.out).at j hjk
                obtain ⟨g, y, rfl, hg, hy, hcy, hf, hst⟩ := HO.out.store (i + j) (by omega)
                obtain ⟨z, hz⟩ : ∃ z, z = y ^^^ c := ⟨_, rfl⟩
                have hzz : bits .xor .u8 (y.toNat : Int) (c.toNat : Int) = (z.toNat : Int) := by rw [hz]; exact xor_u8 y c
                have st := hst z
                rw [hz, bur_step (sealL l) i j x c y hc (by rw [hxl.out, HSL.out]; omega) hy, ← hz] at st
                have ST := Lib.hid st
                have hj0 : (0 : Int) ≤ (j : Int) := by omega
                have hj1 : (j : Int) < (k : Int) := by omega
                have hj2 : (0 : Int) ≤ (i : Int) + (j : Int) := by omega
                have hj3 : (i : Int) + (j : Int) < (n : Int) + 4 := by omega
                clear st hst hz hy hc
                go_wp2_with fail
                go_region
                go_wp2
                go_roundw
                case rel => exact ⟨j + 1, by omega, by go_num, ST.out.1, Below.drew (HX.out.grown ST.out.2 HX.out.size (fun q hq => by cases hq; exact hg))⟩
                case measure => simp [intOf]; omega
              · obtain rfl : j = k := by omega
                have e0 : x.take j = x := List.take_of_length_le (by rw [hxl.out]; omega)
                rw [e0] at HO
                clear e0
                have HB := Lib.hid (opens_bur l i x (by rw [hxl.out]; exact hm) (by rw [hxl.out, hll.out]; exact hik) HS.out.symm)
                go_wp2_with fail
                refine (open_any HO.out.sl (by omega)).mono ?_
                rw [HB.out]
                rintro e w4 ⟨p4, c4, rfl, h4, x4⟩
                have X4 := Lib.hid (Ext.tr X1.out (Ext.tr HX.out x4))
                clear h4 x4
                go_wp2
                go_ret
                exact ⟨rfl, X4.out⟩
end Go.Proofs.Ytnahlgokjppcoaa
