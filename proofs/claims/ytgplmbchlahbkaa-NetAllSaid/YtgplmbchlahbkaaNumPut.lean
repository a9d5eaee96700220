/-
  The contracts of num.Put and its reference: what was there, and behind it the bytes of the number. Conditions: the row is the call's own, its length up to 2^40.
-/
import Derived.Test.YtgplmbchlahbkaaCrcSeal
import Derived.Test.YtgplmbchlahbkaaNumPlain
import Derived.Lib.Zigzag
import Derived.Lib.VarintBits
namespace Go.Proofs.Ytgplmbchlahbkaa
open Go Go.Sort Go.RowKit
set_option linter.unusedVariables false

/-- The one byte that is appended, as a block. -/
theorem one_sl (w : World) (z : Int) (mark : Nat × Nat) (c : UInt8) (h : z = (c.toNat : Int)) : SlP (w.alloc (.cells #[.int .u8 z] 5 mark)) (some ⟨w.heap.size, 0, none⟩) 1 1 [c] :=
  SlP.lit w 1 _ mark [c] rfl (by rw [h]; rfl) (by omega)

/-- Behind the block, and behind a growth of the own row: what was below is there yet. -/
theorem _root_.Go.RowKit.Below.own1 {base : Nat} {w w1 w2 : World} {o : Obj} {p : Option Addr} {n cap : Nat} {l : List UInt8} (h : Below base w w1) (hb : base ≤ w1.heap.size) (ho : OwP w1 base p n cap l) (g : (w1.alloc o).grownBy w2 (p.map (·.block))) : Below base w w2 :=
  Below.grown (h.alloc hb o) g (by simp; omega) (fun k hk => (ho.lt k hk).1)
theorem zig_bits {x : Int} (h : -9223372036854775808 ≤ x) (hx : x < 0) : bits .xor .u64 18446744073709551615 (IntKind.u64.wrap (IntKind.u64.wrap x * 2)) = ((zig x : Nat) : Int) := by
  have := Lib.zigzag_neg h hx
  rw [show IntKind.u64.max = 18446744073709551615 from rfl] at this
  rw [this]
  unfold Lib.zigzag zig
  rw [if_neg (by omega), if_pos hx]
  congr 2
  omega
theorem zig_pos {x : Int} (hx : ¬ x < 0) : x * 2 = ((zig x : Nat) : Int) := by
  unfold zig
  rw [if_neg hx]
  omega
theorem or_cont (v : Nat) : bits .or .u8 ((v : Int) % 256) 128 = ((UInt8.ofNat (v % 128 + 128)).toNat : Int) := by
  rw [Lib.u8_or128_any _ (by omega) (by omega), u8_ofNat]
  omega

set_option maxHeartbeats 1000000 in
/-- num.Put -/
theorem put_any {base : Nat} {p : Option Addr} {n cap : Nat} {l : List UInt8} {x : Int} {w : World} (h : OwP w base p n cap l) (hb : base ≤ w.heap.size) (hn : n ≤ 1099511627776) (h1 : -9223372036854775808 ≤ x) (h2 : x ≤ 9223372036854775807) :
    Calls Try.prog 50 #[.slice p n cap, .int .i64 x] w fun e w' => ∃ p' cap', e = .returned (.slice p' (n + (enc (zig x)).length) cap') ∧ OwP w' base p' (n + (enc (zig x)).length) cap' (l ++ enc (zig x)) ∧ Below base w w' := by
  have hsg : IntKind.u64.signed = false := rfl
  have hmx : IntKind.u64.max = 18446744073709551615 := rfl
  have H := Lib.hid h
  have hln := h.1
  clear h
  have hz := zig_lt h1 h2
  have hzt := enc_ten hz
  obtain ⟨L, hL⟩ : ∃ L, L = l ++ enc (zig x) := ⟨_, rfl⟩
  obtain ⟨N, hN⟩ : ∃ N, N = n + (enc (zig x)).length := ⟨_, rfl⟩
  rw [← hL, ← hN]
  have HL := Lib.hid hL
  have hNL : L.length = N := by rw [hL, hN, List.length_append, hln]
  have HN := Lib.hid hNL
  have hN2 : N ≤ 1099511627786 := by omega
  clear hL hNL hzt hN
  by_cases hx : x < 0
  all_goals
    have HX := Lib.hid hx
    go_enter Try.func50, Try.ntmps50
    go_wp2
    go_loopw [0, 5] (fun b u wr => ∃ p' n' c' l' v, b = .slice p' n' c' ∧ u = .int .u64 ((v : Nat) : Int) ∧ v < 18446744073709551616 ∧ OwP wr base p' n' c' l' ∧ l' ++ enc v = L ∧ Below base w wr) (fun _ u _ => (intOf u).toNat)
    case atStart => 
      refine ⟨_, _, _, _, zig x, rfl, ?_, hz, H.out, HL.out.symm, Below.refl _ _⟩
      first | rw [zig_bits h1 HX.out] | rw [zig_pos (by have := HX.out; omega)]
    case round => 
      obtain ⟨p1, n1, c1, l1, v, rfl, rfl, hv, ho, hl, hbl⟩ := hrel
      have HO := Lib.hid ho
      have HLL := Lib.hid hl
      have HB := Lib.hid hbl
      have hnn : n1 + (enc v).length = N := by rw [← HN.out, ← hl, List.length_append, ho.1]
      have hsz := hbl.size
      have hp := enc_pos v
      clear ho hl hbl
      by_cases hlt : v < 128
      · go_wp2_with (at_builtin; refine wpList_app rfl _ _ 35 rfl base Try.underlying35 info5 p1 n1 c1 l1 rfl (HO.out.alloc _) (some ⟨_, 0, none⟩) 1 1 [UInt8.ofNat v] rfl (one_sl _ _ _ _ ?hone) (by omega) (by simp; omega) ?_)
        case hone => rw [u8_ofNat]; omega
        intro p3 c3 w3 h3 g3
        have H3 := Lib.hid h3
        have G3 := Lib.hid g3
        clear h3 g3
        go_wp2
        go_ret
        have e1 : n1 + 1 = N := by rw [← hnn, enc_last hlt]; rfl
        have e2 : l1 ++ [UInt8.ofNat v] = L := by rw [← HLL.out, enc_last hlt]
        rw [e1, e2] at H3
        refine ⟨_, _, by rw [e1]; rfl, H3.out, ?_⟩
        exact Below.own1 HB.out (by omega) HO.out G3.out
      · obtain ⟨c, hc⟩ : ∃ c, c = UInt8.ofNat (v % 128 + 128) := ⟨_, rfl⟩
        have HC := Lib.hid hc
        clear hc
        go_wp2_with (at_builtin; refine wpList_app rfl _ _ 35 rfl base Try.underlying35 info5 p1 n1 c1 l1 rfl (HO.out.alloc _) (some ⟨_, 0, none⟩) 1 1 [c] rfl (one_sl _ _ _ _ ?hone) (by omega) (by simp; omega) ?_)
        case hone => rw [HC.out]; exact or_cont v
        intro p3 c3 w3 h3 g3
        have H3 := Lib.hid h3
        have G3 := Lib.hid g3
        clear h3 g3
        go_wp2
        go_round
        case rel =>
          refine ⟨_, _, _, _, v / 128, rfl, by go_num, by omega, H3.out, ?_, ?_⟩
          · rw [← HLL.out, enc_more hlt, List.append_assoc, HC.out]; rfl
          · exact Below.own1 HB.out (by omega) HO.out G3.out
        case measure => simp [intOf]; omega
set_option maxRecDepth 8000 in
set_option maxHeartbeats 1000000 in
/-- The reference's Put -/
theorem rput_base {base : Nat} {x : Int} {w : World} (hb : base ≤ w.heap.size) (h1 : -9223372036854775808 ≤ x) (h2 : x ≤ 9223372036854775807) :
    Calls Try.prog 38 #[.int .i64 x] w fun e w' => ∃ p' cap', e = .returned (.slice p' ((enc (zig x)).length) cap') ∧ OwP w' base p' ((enc (zig x)).length) cap' (enc (zig x)) ∧ Below base w w' := by
  have hsg : IntKind.u64.signed = false := rfl
  have hmx : IntKind.u64.max = 18446744073709551615 := rfl
  have hz := zig_lt h1 h2
  have hzt := enc_ten hz
  obtain ⟨L, hL⟩ : ∃ L, L = enc (zig x) := ⟨_, rfl⟩
  obtain ⟨N, hN⟩ : ∃ N, N = (enc (zig x)).length := ⟨_, rfl⟩
  rw [← hN, ← hL]
  have HL := Lib.hid hL
  have hNL : L.length = N := by rw [hL, hN]
  have HN := Lib.hid hNL
  have hN2 : N ≤ 10 := by omega
  clear hL hNL hzt hN
  by_cases hx : x < 0
  all_goals
    have HX := Lib.hid hx
    go_enter Try.func38, Try.ntmps38
    go_wp2
    go_loopw [4, 3] (fun b u wr => ∃ p' n' c' l' v, b = .slice p' n' c' ∧ u = .int .u64 ((v : Nat) : Int) ∧ v < 18446744073709551616 ∧ OwP wr base p' n' c' l' ∧ l' ++ enc v = L ∧ Below base w wr) (fun _ u _ => (intOf u).toNat)
    case atStart => 
      refine ⟨_, _, _, _, zig x, rfl, ?_, hz, OwP.nil _ _, HL.out.symm, Below.refl _ _⟩
      first | rw [zig_bits h1 HX.out] | rw [zig_pos (by have := HX.out; omega)]
    case round => 
      obtain ⟨p1, n1, c1, l1, v, rfl, rfl, hv, ho, hl, hbl⟩ := hrel
      have HO := Lib.hid ho
      have HLL := Lib.hid hl
      have HB := Lib.hid hbl
      have hnn : n1 + (enc v).length = N := by rw [← HN.out, ← hl, List.length_append, ho.1]
      have hsz := hbl.size
      have hp := enc_pos v
      have HNN := Lib.hid hnn
      have HN2 := Lib.hid hN2
      clear ho hl hbl hnn hN2
      by_cases hlt : v < 128
      · go_wp2_with (at_builtin; refine wpList_app rfl _ _ 35 rfl base Try.underlying35 info5 p1 n1 c1 l1 rfl (HO.out.alloc _) (some ⟨_, 0, none⟩) 1 1 [UInt8.ofNat v] rfl (one_sl _ _ _ _ ?hone) (by have := HNN.out; have := HN2.out; omega) (by simp; omega) ?_)
        case hone => rw [u8_ofNat]; omega
        intro p3 c3 w3 h3 g3
        have H3 := Lib.hid h3
        have G3 := Lib.hid g3
        clear h3 g3
        go_wp2
        go_ret
        have e1 : n1 + 1 = N := by rw [← HNN.out, enc_last hlt]; rfl
        have e2 : l1 ++ [UInt8.ofNat v] = L := by rw [← HLL.out, enc_last hlt]
        rw [e1, e2] at H3
        refine ⟨_, _, by rw [e1]; rfl, H3.out, ?_⟩
        exact Below.own1 HB.out (by omega) HO.out G3.out
      · obtain ⟨c, hc⟩ : ∃ c, c = UInt8.ofNat (v % 128 + 128) := ⟨_, rfl⟩
        have HC := Lib.hid hc
        clear hc
        go_wp2_with (at_builtin; refine wpList_app rfl _ _ 35 rfl base Try.underlying35 info5 p1 n1 c1 l1 rfl (HO.out.alloc _) (some ⟨_, 0, none⟩) 1 1 [c] rfl (one_sl _ _ _ _ ?hone) (by have := HNN.out; have := HN2.out; omega) (by simp; omega) ?_)
        case hone => rw [HC.out, u8_ofNat]; omega
        intro p3 c3 w3 h3 g3
        have H3 := Lib.hid h3
        have G3 := Lib.hid g3
        clear h3 g3
        go_wp2
        go_round
        case rel =>
          refine ⟨_, _, _, _, v / 128, rfl, by go_num, by omega, H3.out, ?_, ?_⟩
          · rw [← HLL.out, enc_more hlt, List.append_assoc, HC.out]; rfl
          · exact Below.own1 HB.out (by omega) HO.out G3.out
        case measure => simp [intOf]; omega
theorem rput_any {x : Int} {w : World} (h1 : -9223372036854775808 ≤ x) (h2 : x ≤ 9223372036854775807) :
    Calls Try.prog 38 #[.int .i64 x] w fun e w' => ∃ p' cap', e = .returned (.slice p' (enc (zig x)).length cap') ∧ OwP w' w.heap.size p' (enc (zig x)).length cap' (enc (zig x)) ∧ Ext w w' := rput_base (Nat.le_refl _) h1 h2
end Go.Proofs.Ytgplmbchlahbkaa
