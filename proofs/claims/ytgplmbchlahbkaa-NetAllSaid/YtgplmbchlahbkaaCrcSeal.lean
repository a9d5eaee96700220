/-
  Contracts: crc.four, crc.Seal, crc.Open, the references' Seal and Open, bytes.Clone, bytes.Equal, and the statements' own Short. Conditions: lengths up to 2^46.
-/
import Derived.Test.YtgplmbchlahbkaaCrcWalks
import Derived.Deep.RegionHeld3
import Derived.Test.YtgplmbchlahbkaaRegion
namespace Go.Proofs.Ytgplmbchlahbkaa
open Go Go.Sort Go.RowKit
set_option linter.unusedVariables false

theorem u8_ofNat (x : Nat) : ((UInt8.ofNat x).toNat : Int) = (x : Int) % 256 := by
  rw [UInt8.toNat_ofNat']; omega

/-- The four bytes as the program makes them. -/
theorem b4_cells (x : Nat) (hx : x < 4294967296) : [Value.int .u8 ((x : Int) / 16777216), .int .u8 ((x : Int) / 65536 % 256), .int .u8 ((x : Int) / 256 % 256), .int .u8 ((x : Int) % 256)] = (b4 x).map bv := by
  simp only [b4, List.map_cons, List.map_nil, bv, u8_ofNat]
  simp only [List.cons.injEq, Value.int.injEq, true_and, and_true]
  omega

set_option maxHeartbeats 400000 in
/-- crc.four -/
theorem four_any (x : Nat) (hx : x < 4294967296) (w : World) :
    Calls Try.prog 64 #[.int .u32 (x : Int)] w fun e w' => ∃ p cap, e = .returned (.slice p 4 cap) ∧ OwP w' w.heap.size p 4 cap (b4 x) ∧ Ext w w' := by
  go_enter Try.func64, Try.ntmps64
  go_wp2
  go_ret
  refine ⟨_, _, rfl, OwP.made w _ 4 _ (b4 x) (Nat.le_refl _) rfl ?_ (by omega), Ext.alloc w _⟩
  exact b4_cells x hx

set_option maxHeartbeats 400000 in
/-- bytes.Clone -/
theorem clone_any {p : Option Addr} {n cap : Nat} {l : List UInt8} {w : World} (h : SlP w p n cap l) (hn : n ≤ 70368744177664) :
    Calls Try.prog 37 #[.slice p n cap] w fun e w' => ∃ p' cap', e = .returned (.slice p' n cap') ∧ OwP w' w.heap.size p' n cap' l ∧ Ext w w' := by
  have q22 : ∀ (w : World) (a : Option Addr) (n c n' c' : Nat), (binOp .eql 35 (.slice a n c) (.slice none n' c')).run Try.prog w = .ok (.bool a.isNone) w := fun w a n c n' c' => Lib.run_eql_slice_nil w _ _ a n c n' c' Try.underlying35
  cases p with
  | none =>
    have hc0 := h.nil rfl
    have hle := h.le
    have hl := h.len
    obtain rfl : cap = 0 := hc0
    obtain rfl : n = 0 := by omega
    obtain rfl : l = [] := List.eq_nil_of_length_eq_zero hl
    clear h hl hle
    go_enter Try.func37, Try.ntmps37
    go_wp2
    go_ret
    exact ⟨_, _, rfl, OwP.nil _ _, Ext.rfl' _⟩
  | some a =>
    have H := Lib.hid h
    clear h
    go_enter Try.func37, Try.ntmps37
    go_wp2_with (at_builtin; refine wpList_app rfl _ _ 35 rfl w.heap.size Try.underlying35 info5 (some ⟨w.heap.size, 0, none⟩) 0 0 [] rfl ⟨rfl, World.ownsRow_made w #[] 0 (Nat.le_refl _) (Nat.zero_le _) rfl⟩ (some a) n cap l rfl (H.out.alloc _) (by omega) (by simp) ?_)
    intro p' cap' w1 hown hg
    have HO := Lib.hid hown
    clear hown
    go_wp2
    go_ret
    exact ⟨_, _, rfl, HO.out, Below.grown (Ext.alloc w _) hg (by simp) (fun k hk => by simp at hk; omega)⟩

set_option maxHeartbeats 400000 in
/-- bytes.Equal -/
theorem equal_any {p q : Option Addr} {n m c d : Nat} {l k : List UInt8} {w : World} (h1 : SlP w p n c l) (h2 : SlP w q m d k) :
    Calls Try.prog 56 #[.slice p n c, .slice q m d] w fun e w' => e = .returned (.bool (l == k)) ∧ w = w' := by
  have e1 := str_of h1
  have e2 := str_of h2
  clear h1 h2
  go_enter Try.func56, Try.ntmps56
  go_wp2
  go_ret
  exact ⟨rfl, rfl⟩

set_option maxHeartbeats 400000 in
/-- The statements' Short. -/
theorem short_any {p : Option Addr} {n cap : Nat} {l : List UInt8} {w : World} (h : SlP w p n cap l) (k : Nat) (hk : k ≤ 1000) :
    Calls Try.prog 32 #[.slice p n cap, .int .i64 (k : Int)] w fun e w' => e = .returned (.slice p (min n k) cap) ∧ w = w' := by
  have hle := h.le
  have hmax := h.max
  clear h
  by_cases hlt : k < n
  · have ec := cut_to p n cap k (by omega) w
    have em : min n k = k := by omega
    rw [em]
    clear em
    go_enter Try.func32, Try.ntmps32
    go_wp2
    go_ret
    exact ⟨rfl, rfl⟩
  · have em : min n k = n := by omega
    rw [em]
    clear em
    go_enter Try.func32, Try.ntmps32
    go_wp2
    go_ret
    exact ⟨rfl, rfl⟩
set_option maxHeartbeats 400000 in
/-- crc.Seal -/
theorem seal_any {p : Option Addr} {n cap : Nat} {l : List UInt8} {w : World} (h : SlP w p n cap l) (hn : n ≤ 35184372088832) :
    Calls Try.prog 51 #[.slice p n cap] w fun e w' => ∃ p' cap', e = .returned (.slice p' (n + 4) cap') ∧ OwP w' w.heap.size p' (n + 4) cap' (sealL l) ∧ Ext w w' := by
  have H := Lib.hid h
  clear h
  go_enter Try.func51, Try.ntmps51
  go_wp2_with fail
  refine (clone_any H.out (by omega)).mono ?_
  rintro e w1 ⟨p1, c1, rfl, h1, x1⟩
  have H1 := Lib.hid h1
  have X1 := Lib.hid x1
  clear h1 x1
  go_wp2_with fail
  refine (sum_any (H.out.ext X1.out) (by omega)).mono ?_
  rintro e w2 ⟨rfl, rfl⟩
  go_wp2_with fail
  refine (four_any (crc l) (crc_lt l) _).mono ?_
  rintro e w2 ⟨p2, c2, rfl, h2, x2⟩
  have H2 := Lib.hid h2
  have X2 := Lib.hid x2
  clear h2 x2
  go_wp2_with (at_builtin; refine wpList_app rfl _ _ 35 rfl w.heap.size Try.underlying35 info5 p1 n c1 l rfl (H1.out.ext X2.out) p2 4 c2 (b4 (crc l)) rfl H2.out.sl (by omega) (by have := X1.out.size; have := X2.out.size; omega) ?_)
  intro p3 c3 w3 h3 g3
  have H3 := Lib.hid h3
  have G3 := Lib.hid g3
  clear h3 g3
  go_wp2
  go_ret
  refine ⟨_, _, rfl, H3.out, ?_⟩
  exact Ext.own (X1.out.tr X2.out) (H1.out.ext X2.out) G3.out rfl
set_option maxHeartbeats 400000 in
/-- The reference's Seal -/
theorem rseal_any {p : Option Addr} {n cap : Nat} {l : List UInt8} {w : World} (h : SlP w p n cap l) (hn : n ≤ 35184372088832) :
    Calls Try.prog 39 #[.slice p n cap] w fun e w' => ∃ p' cap', e = .returned (.slice p' (n + 4) cap') ∧ OwP w' w.heap.size p' (n + 4) cap' (sealL l) ∧ Ext w w' := by
  have H := Lib.hid h
  clear h
  have hx := crc_lt l
  go_enter Try.func39, Try.ntmps39
  go_wp2_with fail
  refine (rsum_any H.out (by omega)).mono ?_
  rintro e w1 ⟨rfl, rfl⟩
  go_wp2_with (at_builtin; refine wpList_app (o := ⟨some 7, _, _, _, _, _⟩) rfl _ _ 35 rfl w.heap.size Try.underlying35 info5 none 0 0 [] rfl (OwP.nil _ _) p n cap l rfl H.out (by omega) (by omega) ?_)
  intro p1 c1 w1 h1 g1
  have H1 := Lib.hid h1
  have G1 := Lib.hid g1
  clear h1 g1
  have X1 : Hid (Ext w w1) := Ext.own (Ext.rfl' w) (OwP.nil w _) G1.out rfl
  have hz : w.heap.size ≤ w1.heap.size := X1.out.size
  go_wp2_with (at_builtin; refine wpList_app rfl _ _ 35 rfl w.heap.size Try.underlying35 info5 p1 n c1 l rfl (H1.out.alloc _) (some ⟨w1.heap.size, 0, none⟩) 4 4 (b4 (crc l)) rfl (OwP.made w1 0 4 _ (b4 (crc l)) (by omega) rfl ?hcells (by omega)).sl (by omega) ?hbase ?_)
  case hcells => exact b4_cells (crc l) hx
  case hbase => simp; omega
  intro p3 c3 w3 h3 g3
  have H3 := Lib.hid h3
  have G3 := Lib.hid g3
  clear h3 g3
  go_wp2
  go_ret
  refine ⟨_, _, rfl, H3.out, ?_⟩
  exact Ext.own (X1.out.tr (Ext.alloc w1 _)) (H1.out.alloc _) G3.out rfl

/-- Nothing is opened. -/
theorem open_no {l : List UInt8} {w w' : World} (h : opens l = false) (hx : Ext w w') : ∃ p' cap', Ending.returned (.tuple #[.slice none 0 0, .bool false]) = .returned (.tuple #[.slice p' (openL l).length cap', .bool (opens l)]) ∧ OwP w' w.heap.size p' (openL l).length cap' (openL l) ∧ Ext w w' := by
  have e : openL l = [] := by unfold openL; rw [h]; rfl
  rw [e, h]
  exact ⟨none, 0, rfl, OwP.nil _ _, hx⟩

set_option maxHeartbeats 400000 in
/-- crc.Open -/
theorem open_any {p : Option Addr} {n cap : Nat} {l : List UInt8} {w : World} (h : SlP w p n cap l) (hn : n ≤ 35184372088832) :
    Calls Try.prog 53 #[.slice p n cap] w fun e w' => ∃ p' cap', e = .returned (.tuple #[.slice p' (openL l).length cap', .bool (opens l)]) ∧ OwP w' w.heap.size p' (openL l).length cap' (openL l) ∧ Ext w w' := by
  have H := Lib.hid h
  have hle := h.le
  have hmax := h.max
  have hlen := Lib.hid h.len
  clear h
  by_cases h4 : n < 4
  · have ho : opens l = false := by
      unfold opens
      rw [hlen.out, decide_eq_false (by omega)]
      rfl
    have hO := Lib.hid ho
    clear ho
    have hlt : decide ((n : Int) - 4 < 0) = true := by simp; omega
    go_enter Try.func53, Try.ntmps53
    go_wp2_with fail
    go_quiet (fail)
    go_wp2
    go_ret2
    exact open_no hO.out (Ext.drewN w _)
  · obtain ⟨m, rfl⟩ : ∃ m, n = m + 4 := ⟨n - 4, by omega⟩
    have ht := H.out.take m (by omega)
    have hd := H.out.drop m (by omega)
    have e4 : m + 4 - m = 4 := by omega
    rw [e4] at hd
    clear e4
    have HT := Lib.hid ht
    have HD := Lib.hid hd
    clear ht hd
    have c1 := cut_to p (m + 4) cap m (by omega)
    have c2 := cut_from p (m + 4) cap m (by omega)
    have hneg : decide ((m : Int) < 0) = false := decide_eq_false (by omega)
    have ho : opens l = (b4 (crc (l.take m)) == l.drop m) := by
      have h44 : 4 ≤ m + 4 := Nat.le_add_left _ _
      unfold opens
      rw [hlen.out, decide_eq_true h44, Nat.add_sub_cancel, Bool.true_and]
    have hO := Lib.hid ho
    clear ho
    cases heq : (b4 (crc (l.take m)) == l.drop m)
    · rw [heq] at hO
      go_enter Try.func53, Try.ntmps53
      go_wp2_with fail
      go_region_held3 (fun w' => Ext w w') (first | exact Ext.rfl' _ | exact Ext.drew _ | assumption | exact Ext.tr (by assumption) (by assumption))
        (first
          | (go_at_call 65; refine (sum_any (l := l.take m) (by exact HT.out.ext (by assumption)) (by omega)).mono ?_; rintro e w' ⟨rfl, rfl⟩)
          | (go_at_call 64; refine (four_any (crc (l.take m)) (crc_lt _) _).mono ?_; rintro e w' ⟨p2, k2, rfl, h2, x2⟩; have HS := Lib.hid h2.sl; clear h2)
          | (go_at_call 56; refine (equal_any (l := b4 (crc (l.take m))) (k := l.drop m) (by exact HS.out) (by exact HD.out.ext (by assumption))).mono ?_; rintro e w' ⟨rfl, rfl⟩))
      go_wp2
      go_ret2
      exact open_no hO.out (by assumption)
    · rw [heq] at hO
      go_enter Try.func53, Try.ntmps53
      go_wp2_with fail
      go_region_held3 (fun w' => Ext w w') (first | exact Ext.rfl' _ | exact Ext.drew _ | assumption | exact Ext.tr (by assumption) (by assumption))
        (first
          | (go_at_call 65; refine (sum_any (l := l.take m) (by exact HT.out.ext (by assumption)) (by omega)).mono ?_; rintro e w' ⟨rfl, rfl⟩)
          | (go_at_call 64; refine (four_any (crc (l.take m)) (crc_lt _) _).mono ?_; rintro e w' ⟨p2, k2, rfl, h2, x2⟩; have HS := Lib.hid h2.sl; clear h2)
          | (go_at_call 56; refine (equal_any (l := b4 (crc (l.take m))) (k := l.drop m) (by exact HS.out) (by exact HD.out.ext (by assumption))).mono ?_; rintro e w' ⟨rfl, rfl⟩))
      have HK : Hid (openL l = l.take m) := by
        show openL l = l.take m
        unfold openL
        rw [hO.out, if_pos rfl, hlen.out, Nat.add_sub_cancel]
      have hm : m ≤ l.length := by have := hlen.out; omega
      have HM : Hid (m = (openL l).length) := by
        show m = (openL l).length
        rw [HK.out, List.length_take]; omega
      clear hm
      go_wp2_with fail
      refine (clone_any (HT.out.ext (by assumption)) (by omega)).mono ?_
      rintro e w3 ⟨p3, c3, rfl, h3, x3⟩
      have H3 := Lib.hid h3
      have X3 : Hid (Ext w w3) := Ext.tr (by assumption) x3
      clear h3
      go_wp2
      go_ret2
      refine ⟨p3, c3, ?_, ?_, X3.out⟩
      · rw [← HM.out, hO.out]
        rfl
      · rw [← HM.out, HK.out]
        exact H3.out.mono (Below.size (by assumption))

theorem opens_str (l : List UInt8) (m : Nat) (hl : l.length = m + 4) : opens l = (sealL (l.take m) == l) := by
  rw [Bool.eq_iff_iff, opens_iff, beq_iff_eq]
  constructor
  · rintro ⟨k, rfl⟩
    have : m = k.length := by rw [sealL_length] at hl; omega
    subst this
    unfold sealL
    rw [List.take_left' rfl]
  · intro h
    exact ⟨_, h.symm⟩
theorem openL_take (l : List UInt8) (m : Nat) (hl : l.length = m + 4) (ho : opens l = true) : openL l = l.take m := by
  unfold openL
  rw [ho, if_pos rfl, hl, Nat.add_sub_cancel]

end Go.Proofs.Ytgplmbchlahbkaa
