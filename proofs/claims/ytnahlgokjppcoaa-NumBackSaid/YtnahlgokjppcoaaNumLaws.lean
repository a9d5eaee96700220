/-
  The statements' begun, and the walks of NumAny, NumLong, NumCut: whatever the arguments, the law returns true. Condition: an argument's length is a length.
-/
import Derived.Test.YtnahlgokjppcoaaNumText
namespace Go.Proofs.Ytnahlgokjppcoaa
open Go Go.Sort Go.RowKit
set_option linter.unusedVariables false

theorem txt_ab : txt [97, 98] = [4, 97, 98] := by
  unfold txt
  rw [enc_last (by decide +kernel)]
  rfl
theorem enc_m1 : enc (zig (-1)) = [1] := by
  rw [enc_last (by decide +kernel)]
  rfl
set_option maxRecDepth 8000 in
set_option maxHeartbeats 2000000 in
theorem begunN (w : World) : Calls Try.prog 20 #[] w fun e w' => e = .returned (.bool true) ∧ Ext w w' := by
  have g1 : getL [128, 1] = (64, 2, 0) := by decide +kernel
  have g2 : getL [] = (0, 0, 2) := by decide +kernel
  have g3 : textL [4, 97, 98] = ([97, 98], 3, 0) := by decide +kernel
  have G1 := Lib.hid g1
  have G2 := Lib.hid g2
  have G3 := Lib.hid g3
  clear g1 g2 g3
  go_enter Try.func20, Try.ntmps20
  go_wp2_with fail
  refine (get_any (SlP.lit w 2 _ _ [128, 1] rfl rfl (by omega)) (by omega)).mono ?_
  rw [G1.out]
  rintro e w1 ⟨rfl, rfl⟩
  go_wp2_with fail
  refine (get_any (SlP.empty _) (by omega)).mono ?_
  rw [G2.out]
  rintro e w1 ⟨rfl, rfl⟩
  go_wp2_with fail
  refine (puttext_any (base := w.heap.size) (OwP.nil _ _) (by simp) (by omega) (s := ⟨#[97, 98]⟩) (by decide)).mono ?_
  rw [show (⟨#[97, 98]⟩ : ByteArray).data.toList = [97, 98] from rfl, txt_ab]
  rintro e w1 ⟨p1, c1, rfl, h1, x1⟩
  have H1 := Lib.hid h1
  have X1 := Lib.hid (Below.trans ((Below.refl _ _).alloc (Nat.le_refl _) _) x1 : Below w.heap.size w w1)
  have z1 := X1.out.size
  clear h1 x1
  go_wp2_with fail
  refine (gettext_any H1.out.sl (by simp)).mono ?_
  rw [List.nil_append, G3.out]
  rintro e w2 ⟨rfl, rfl⟩
  go_wp2_with fail
  refine (put_any (base := w.heap.size) (x := -1) (OwP.nil _ _) (by omega) (by omega) (by omega) (by omega)).mono ?_
  rw [enc_m1, List.nil_append]
  rintro e w2 ⟨p2, c2, rfl, h2, x2⟩
  have hs := str_of h2.sl
  rw [show 0 + [(1 : UInt8)].length = 1 from rfl] at hs
  have X2 := Lib.hid (Below.trans X1.out x2)
  clear h2 x2
  go_wp2
  go_ret
  exact ⟨rfl, X2.out⟩

set_option maxRecDepth 8000 in
set_option maxHeartbeats 2000000 in
theorem walk_NumAny {p : Option Addr} {n cap : Nat} {l : List UInt8} {w : World} (h : SlP w p n cap l) :
    Calls Try.prog 8 #[.slice p n cap] w fun e w' => e = .returned (.bool true) ∧ Below w.heap.size w w' := by
  have H := Lib.hid h
  have hle := h.le
  have hmax := h.max
  clear h
  go_enter Try.func8, Try.ntmps8
  go_wp2_with fail
  refine (begunN _).mono ?_
  rintro e w1 ⟨rfl, x1⟩
  have X := Lib.hid x1
  clear x1
  go_wp2_with fail
  refine (short_any (H.out.ext X.out) 60 (by omega)).mono ?_
  rintro e w2 ⟨rfl, rfl⟩
  have B := Lib.hid ((H.out.ext X.out).take (min n 60) (by omega))
  generalize l.take (min n 60) = b at *
  have hm : min n 60 ≤ 60 := by omega
  generalize min n 60 = m at *
  go_wp2_with fail
  refine (get_any B.out (by omega)).mono ?_
  rintro e w2 ⟨rfl, rfl⟩
  go_wp2_with fail
  refine (rget_any B.out (by omega)).mono ?_
  rintro e w2 ⟨rfl, rfl⟩
  go_wp2_with fail
  refine (gettext_any B.out (by omega)).mono ?_
  rintro e w2 ⟨rfl, rfl⟩
  go_wp2_with fail
  refine (rgettext_any B.out (by omega)).mono ?_
  rintro e w2 ⟨rfl, rfl⟩
  go_wp2
  go_ret
  exact ⟨rfl, X.out⟩

theorem u8_some {a : Int} (h : 0 ≤ a ∧ a ≤ 255) : ∃ c : UInt8, a = (c.toNat : Int) ∧ bits .or .u8 a 128 = ((UInt8.ofNat (c.toNat % 128 + 128)).toNat : Int) := by
  obtain ⟨c, rfl⟩ := u8_of h
  refine ⟨c, rfl, ?_⟩
  rw [Lib.u8_or128_any _ (by omega) (by omega), u8_ofNat]
  omega
set_option maxRecDepth 8000 in
set_option maxHeartbeats 2000000 in
theorem walk_NumLong {n last fill : Int} {w : World} (hn : -9223372036854775808 ≤ n ∧ n ≤ 9223372036854775807) (hl : 0 ≤ last ∧ last ≤ 255) (hf : 0 ≤ fill ∧ fill ≤ 255) :
    Calls Try.prog 9 #[.int .i64 n, .int .u8 last, .int .u8 fill] w fun e w' => e = .returned (.bool true) ∧ Below w.heap.size w w' := by
  by_cases c0 : n < 0
  · go_enter Try.func9, Try.ntmps9
    go_wp2_with fail
    refine (begunN _).mono ?_
    rintro e w1 ⟨rfl, x1⟩
    have X := Lib.hid x1
    clear x1
    go_wp2
    go_ret
    exact ⟨rfl, X.out⟩
  by_cases c1 : 14 < n
  · go_enter Try.func9, Try.ntmps9
    go_wp2_with fail
    refine (begunN _).mono ?_
    rintro e w1 ⟨rfl, x1⟩
    have X := Lib.hid x1
    clear x1
    go_wp2
    go_ret
    exact ⟨rfl, X.out⟩
  obtain ⟨N, rfl⟩ := Int.eq_ofNat_of_zero_le (show 0 ≤ n by omega)
  have hN : N ≤ 14 := by omega
  obtain ⟨lb, rfl⟩ := u8_of hl
  obtain ⟨c, -, hor⟩ := u8_some hf
  obtain ⟨d, hd⟩ : ∃ d, d = UInt8.ofNat (c.toNat % 128 + 128) := ⟨_, rfl⟩
  rw [← hd] at hor
  have HO := Lib.hid hor
  have hN0 : (0 : Int) ≤ (N : Int) := by omega
  clear hd hor hn hl c0 c1
  go_enter Try.func9, Try.ntmps9
  go_wp2_with fail
  refine (begunN _).mono ?_
  rintro e w1 ⟨rfl, x1⟩
  have X := Lib.hid x1
  have z1 := x1.size
  clear x1
  go_wp2
  go_loopw [8, 9] (fun b i wr => ∃ p' c' l' k, b = .slice p' k c' ∧ i = .int .i64 ((k : Nat) : Int) ∧ k ≤ N ∧ OwP wr w.heap.size p' k c' l' ∧ Below w.heap.size w wr) (fun _ i _ => N - (intOf i).toNat)
  case atStart => exact ⟨_, _, _, 0, rfl, rfl, by omega, OwP.nil _ _, X.out⟩
  case round =>
    obtain ⟨p1, c1, l1, k, rfl, rfl, hk, ho, hbl⟩ := hrel
    have HOW := Lib.hid ho
    have HB := Lib.hid hbl
    have hsz := hbl.size
    clear ho hbl
    by_cases hlt : k < N
    · go_wp2_with (at_builtin; refine wpList_app rfl _ _ 22 rfl w.heap.size Try.underlying22 info5 p1 k c1 l1 rfl (HOW.out.alloc _) (some ⟨_, 0, none⟩) 1 1 [d] rfl (one_sl _ _ _ _ HO.out) (by omega) (by simp; omega) ?_)
      intro p3 c3 w3 h3 g3
      have H3 := Lib.hid h3
      have G3 := Lib.hid g3
      clear h3 g3
      go_wp2
      go_round
      case rel => exact ⟨_, _, _, k + 1, rfl, by go_num, by omega, H3.out, Below.own1 HB.out (by omega) HOW.out G3.out⟩
      case measure => simp [intOf]; omega
    · go_wp2_with (at_builtin; refine wpList_app rfl _ _ 22 rfl w.heap.size Try.underlying22 info5 p1 k c1 l1 rfl (HOW.out.alloc _) (some ⟨_, 0, none⟩) 1 1 [lb] rfl (one_sl _ _ _ _ rfl) (by omega) (by simp; omega) ?_)
      intro p3 c3 w3 h3 g3
      have H3 := Lib.hid h3.sl
      have X3 := Lib.hid (Below.own1 HB.out (by omega) HOW.out g3)
      clear h3 g3
      go_wp2_with fail
      refine (get_any H3.out (by omega)).mono ?_
      rintro e w4 ⟨rfl, rfl⟩
      go_wp2_with fail
      refine (rget_any H3.out (by omega)).mono ?_
      rintro e w4 ⟨rfl, rfl⟩
      go_wp2
      go_ret
      exact ⟨rfl, X3.out⟩

set_option maxRecDepth 8000 in
set_option maxHeartbeats 4000000 in
theorem walk_NumCut {n cut : Int} {s : ByteArray} {w : World} (hn : -9223372036854775808 ≤ n ∧ n ≤ 9223372036854775807) (hs : s.size ≤ maxLen) (hc : -9223372036854775808 ≤ cut ∧ cut ≤ 9223372036854775807) :
    Calls Try.prog 11 #[.int .i64 n, .string s, .int .i64 cut] w fun e w' => e = .returned (.bool true) ∧ Below w.heap.size w w' := by
  have hs2 : s.size ≤ 9223372036854775807 := by unfold maxLen at hs; omega
  have hz := zig_lt hn.1 hn.2
  have K1 := Lib.hid (fun j (hj : j < (enc (zig n)).length) => getL_cut hz hj)
  have KE := Lib.hid (enc_ten hz)
  have HN := Lib.hid hn
  clear hn hz hs
  go_enter Try.func11, Try.ntmps11
  go_wp2_with fail
  refine (begunN _).mono ?_
  rintro e w1 ⟨rfl, x1⟩
  have X := Lib.hid x1
  have z1 := x1.size
  clear x1
  go_wp2_with fail
  refine (cut_any 100 (by omega) hs2).mono ?_
  rintro e w2 ⟨t, ht, rfl, rfl⟩
  go_wp2_with fail
  refine (put_any (base := w.heap.size) (x := n) (OwP.nil _ _) (by omega) (by omega) HN.out.1 HN.out.2).mono ?_
  rw [List.nil_append, Nat.zero_add]
  rintro e w2 ⟨p1, c1, rfl, h1, x1⟩
  have H1 := Lib.hid h1.sl
  replace X := Lib.hid (Below.trans X.out x1)
  have z2 := X.out.size
  clear h1 x1 z1
  go_wp2_with fail
  refine (puttext_any (base := w2.heap.size) (s := t) (OwP.nil _ _) (by omega) (by omega) (by omega)).mono ?_
  rw [List.nil_append, Nat.zero_add]
  rintro e w3 ⟨p2, c2, rfl, h2, x2⟩
  have H2 := Lib.hid h2.sl
  replace H1 := Lib.hid (H1.out.ext x2)
  replace X := Lib.hid (Ext.tr X.out x2)
  have K2 := Lib.hid (fun j (hj : j < (txt t.data.toList).length) => textL_cut (s := t.data.toList) (by simp; omega) hj)
  have hll : (txt t.data.toList).length ≤ 110 := by
    unfold txt
    have hq : t.data.toList.length = t.size := by simp
    have := enc_ten (zig_lt (x := (t.data.toList.length : Int)) (by omega) (by omega))
    rw [List.length_append]
    omega
  have hle := KE.out
  clear h2 x2 z2 KE HN
  generalize enc (zig n) = E at *
  generalize txt t.data.toList = T at *
  generalize hel : E.length = a at *
  generalize htl : T.length = b at *
  have HEL := Lib.hid hel
  have HTL := Lib.hid htl
  clear hel htl
  have q1 := H1.out.le
  have q2 := H2.out.le
  by_cases c0 : cut < 1
  · go_wp2
    go_ret
    exact ⟨rfl, X.out⟩
  obtain ⟨k, rfl⟩ := Int.eq_ofNat_of_zero_le (show 0 ≤ cut by omega)
  by_cases d1 : k ≤ a
  · have g1 := cut_to p1 a c1 (a - k) (by omega) w3
    rw [Int.ofNat_sub d1] at g1
    by_cases d2 : k ≤ b
    · have g2 := cut_to p2 b c2 (b - k) (by omega) w3
      rw [Int.ofNat_sub d2] at g2
      go_wp2_with fail
      refine (get_any (H1.out.take (a - k) (by omega)) (by omega)).mono ?_
      rw [K1.out (a - k) (by omega)]
      rintro e w4 ⟨rfl, rfl⟩
      go_wp2_with fail
      refine (gettext_any (H2.out.take (b - k) (by omega)) (by omega)).mono ?_
      rw [K2.out (b - k) (by omega)]
      rintro e w4 ⟨rfl, rfl⟩
      go_wp2
      go_ret
      exact ⟨rfl, X.out⟩
    · go_wp2_with fail
      refine (get_any (H1.out.take (a - k) (by omega)) (by omega)).mono ?_
      rw [K1.out (a - k) (by omega)]
      rintro e w4 ⟨rfl, rfl⟩
      go_wp2
      go_ret
      exact ⟨rfl, X.out⟩
  · by_cases d2 : k ≤ b
    · have g2 := cut_to p2 b c2 (b - k) (by omega) w3
      rw [Int.ofNat_sub d2] at g2
      go_wp2_with fail
      refine (gettext_any (H2.out.take (b - k) (by omega)) (by omega)).mono ?_
      rw [K2.out (b - k) (by omega)]
      rintro e w4 ⟨rfl, rfl⟩
      go_wp2
      go_ret
      exact ⟨rfl, X.out⟩
    · go_wp2
      go_ret
      exact ⟨rfl, X.out⟩
end Go.Proofs.Ytnahlgokjppcoaa
