/-
  The walks of the statements on package crc: whatever the slices, the law returns true and nothing that was there is changed. No condition.
-/
import Derived.Test.YtnahlgokjppcoaaCrcSeal
import Derived.Lib.SlBytesConst
namespace Go.Proofs.Ytnahlgokjppcoaa
open Go Go.Sort Go.RowKit
set_option linter.unusedVariables false

set_option maxHeartbeats 400000 in
/-- The statements' own beginning. -/
theorem begun2 (w : World) : Calls Try.prog 12 #[] w fun e w' => e = .returned (.bool true) ∧ Ext w w' := by
  have kc := fun (w : World) (C : Array Value) (n c : Nat) => Lib.run_convert_bytes_const (P := Try.prog) w 22 5 C n c Try.underlying22 Try.underlying5
  go_enter Try.func12, Try.ntmps12
  go_wp2_with fail
  refine (seal_any (l := [97]) (SlP.lit w 1 _ _ [97] rfl rfl (by omega)) (by omega)).mono ?_
  rintro e w1 ⟨p1, c1, rfl, h1, x1⟩
  have H1 := Lib.hid h1
  have X1 := Lib.hid (Ext.tr (Ext.alloc w _) x1)
  clear h1 x1
  go_wp2_with fail
  refine (open_any H1.out.sl (by omega)).mono ?_
  rw [openL_seal, opens_seal]
  rintro e w2 ⟨p2, c2, rfl, h2, x2⟩
  have H2 := Lib.hid h2
  have X2 := Lib.hid (X1.out.tr x2)
  clear h2 x2
  go_wp2_with fail
  refine (open_any (l := [1]) (SlP.lit w2 1 _ _ [1] rfl rfl (by omega)) (by omega)).mono ?_
  rw [show opens [1] = false from rfl, show openL [1] = [] from rfl]
  rintro e w3 ⟨p3, c3, rfl, h3, x3⟩
  have X3 := Lib.hid (Ext.tr X2.out (Ext.tr (Ext.alloc w2 _) x3))
  have E2 := Lib.hid (Ext.tr (Ext.alloc w2 _) x3)
  clear h3 x3
  go_wp2_with fail
  refine (sum_any (l := [49, 50, 51, 52, 53, 54, 55, 56, 57]) (SlP.lit w3 9 _ _ _ rfl rfl (by omega)) (by omega)).mono ?_
  rw [show crc [49, 50, 51, 52, 53, 54, 55, 56, 57] = 3421780262 from by decide +kernel]
  rintro e w4 ⟨rfl, rfl⟩
  go_wp2_with fail
  refine (sum_any (SlP.empty _) (by omega)).mono ?_
  rw [show crc [] = 0 from by decide +kernel]
  rintro e w4 ⟨rfl, rfl⟩
  have es : ∀ o, (convert 22 9 (.slice p2 1 c2)).run Try.prog (w3.alloc o) = .ok (.string ⟨[97].toArray⟩) (w3.alloc o) := fun o => str_of (H2.out.sl.ext (E2.out.tr (Ext.alloc w3 o)))
  go_wp2
  go_ret
  exact ⟨rfl, X3.out.tr (Ext.alloc w3 _)⟩

set_option maxHeartbeats 1000000 in
theorem walk_CrcAll {p q : Option Addr} {n m c d : Nat} {l k : List UInt8} {w : World} (h1 : SlP w p n c l) (h2 : SlP w q m d k) :
    Calls Try.prog 3 #[.slice p n c, .slice q m d] w fun e w' => e = .returned (.bool true) ∧ Below w.heap.size w w' := by
  have H1 := Lib.hid h1
  have H2 := Lib.hid h2
  clear h1 h2
  go_enter Try.func3, Try.ntmps3
  go_wp2_with fail
  refine (begun2 w).mono ?_
  rintro e w1 ⟨rfl, x1⟩
  have X1 := Lib.hid x1
  clear x1
  go_wp2_with fail
  refine (short_any (H1.out.ext X1.out) 300 (by omega)).mono ?_
  rintro e w2 ⟨rfl, rfl⟩
  go_wp2_with fail
  refine (short_any (H2.out.ext X1.out) 40 (by omega)).mono ?_
  rintro e w2 ⟨rfl, rfl⟩
  have A1 := Lib.hid ((H1.out.ext X1.out).take (min n 300) (by omega))
  have A2 := Lib.hid ((H2.out.ext X1.out).take (min m 40) (by omega))
  have hn : min n 300 ≤ 300 := by omega
  have hm : min m 40 ≤ 40 := by omega
  generalize min n 300 = n1 at A1 hn ⊢
  generalize min m 40 = m1 at A2 hm ⊢
  generalize l.take n1 = l1 at A1
  generalize k.take m1 = k1 at A2
  go_wp2_with fail
  refine (seal_any A1.out (by omega)).mono ?_
  rintro e w2 ⟨p2, c2, rfl, h2, x2⟩
  have S2 := Lib.hid h2
  have X2 := Lib.hid x2
  clear h2 x2
  go_wp2_with fail
  refine (open_any S2.out.sl (by omega)).mono ?_
  rw [openL_seal, opens_seal, A1.out.len]
  rintro e w3 ⟨p3, c3, rfl, h3, x3⟩
  have S3 := Lib.hid h3
  have X3 := Lib.hid x3
  clear h3 x3
  go_wp2_with fail
  refine (open_any (A2.out.ext (X2.out.tr X3.out)) (by omega)).mono ?_
  rintro e w4 ⟨p4, c4, rfl, h4, x4⟩
  have S4 := Lib.hid h4
  have X4 := Lib.hid x4
  clear h4 x4
  go_wp2_with fail
  refine (ropen_any (A2.out.ext (X2.out.tr (X3.out.tr X4.out))) (by omega)).mono ?_
  rintro e w5 ⟨p5, c5, rfl, h5, x5⟩
  have S5 := Lib.hid h5
  have X5 := Lib.hid x5
  clear h5 x5
  have B1 := Lib.hid (A1.out.ext (X2.out.tr (X3.out.tr (X4.out.tr X5.out))))
  have B2 := Lib.hid (S2.out.sl.ext (X3.out.tr (X4.out.tr X5.out)))
  have B3 := Lib.hid (S3.out.sl.ext (X4.out.tr X5.out))
  have B4 := Lib.hid (S4.out.sl.ext X5.out)
  have X := Lib.hid (X1.out.tr (X2.out.tr (X3.out.tr (X4.out.tr X5.out))))
  clear A1 A2 S2 S3 S4 X1 X2 X3 X4 X5 H1 H2
  generalize (openL k1).length = n4 at *
  have e1 : (b4 0 == b4 0) = true := rfl
  clear e1
  cases ho : opens k1
  all_goals
    go_wp2_with fail
    refine rw_start [0, 2, 1, 3, 4, 5, 6, 7, 8, 9, 10, 11, 12, 13, 14, 15, 16, 17, 18, 19, 20, 21, 22, 23, 24, 25, 26, 27, 28, 29, 30, 31, 32, 33, 34, 35] (by kernel_rfl) (by kernel_rfl) (fun _ _ d _ _ h => by cases d <;> exact h) ?_
    have cv := fun d os => str_of (B2.out.ext ((Ext.drew w5).tr (Ext.reg _ d os)))
    repeat (first | (refine rw_quiet rfl (by rfl) (by rfl) (fun K hK => ?_); go_big_quiet_op; refine hK _ ?_; clear hK K) | (refine rw_skip rfl (by rfl) ?_))
    refine rw_call rfl (by rfl) (by rfl) (fun K hK => ?_)
    go_simp
    refine (sum_any (B1.out.ext (Ext.drew w5)) (by omega)).mono ?_
    rintro e w6 ⟨rfl, rfl⟩
    refine hK _ _ (Ext.rfl' _) ?_; clear hK K
    repeat (first | (refine rw_quiet rfl (by rfl) (by rfl) (fun K hK => ?_); go_big_quiet_op; refine hK _ ?_; clear hK K) | (refine rw_skip rfl (by rfl) ?_))
    refine rw_call rfl (by rfl) (by rfl) (fun K hK => ?_)
    go_simp
    refine (rsum_any (B1.out.ext (Ext.drew w5)) (by omega)).mono ?_
    rintro e w6 ⟨rfl, rfl⟩
    refine hK _ _ (Ext.rfl' _) ?_; clear hK K
    repeat (first | (refine rw_quiet rfl (by rfl) (by rfl) (fun K hK => ?_); go_big_quiet_op; refine hK _ ?_; clear hK K) | (refine rw_skip rfl (by rfl) ?_))
    clear cv
    refine rw_call rfl (by rfl) (by rfl) (fun K hK => ?_)
    go_simp
    refine (rseal_any (B1.out.ext (Ext.drew w5)) (by omega)).mono ?_
    rintro e w6 ⟨p6, c6, rfl, h6, x6⟩
    refine hK _ _ x6 ?_
    clear hK K
    have X6 := Lib.hid ((Ext.drew w5).tr x6)
    have cv6 := fun d os => str_of (h6.sl.ext (Ext.reg w6 d os))
    clear h6 x6
    have cv1 := fun d os => str_of (B1.out.ext (X6.out.tr (Ext.reg w6 d os)))
    have cv3 := fun d os => str_of (B3.out.ext (X6.out.tr (Ext.reg w6 d os)))
    have cv4 := fun d os => str_of (B4.out.ext (X6.out.tr (Ext.reg w6 d os)))
    have cv5 := fun d os => str_of (S5.out.ext (X6.out.tr (Ext.reg w6 d os)))
    repeat (first | (refine rw_quiet rfl (by rfl) (by rfl) (fun K hK => ?_); go_big_quiet_op; refine hK _ ?_; clear hK K) | (refine rw_skip rfl (by rfl) ?_))
    refine rw_nil ?_
    clear cv6 cv1 cv3 cv4 cv5
    go_wp2
    go_ret
    exact ⟨rfl, X.out.tr X6.out⟩

/-- What a row is that is filled from its head on. -/
def filled (zs : List UInt8) (k : Nat) : List UInt8 := zs.take k ++ List.replicate (zs.length - k) 0
theorem filled_start (zs : List UInt8) : filled zs 0 = List.replicate zs.length 0 := by simp [filled]
theorem filled_end (zs : List UInt8) : filled zs zs.length = zs := by simp [filled]
theorem filled_step (zs : List UInt8) (k : Nat) (x : UInt8) (hx : zs[k]? = some x) : (filled zs k).set k x = filled zs (k + 1) := by
  have hk : k < zs.length := (List.getElem?_eq_some_iff.1 hx).1
  unfold filled
  rw [List.take_add_one, hx, List.set_append_right _ _ (by rw [List.length_take]; omega)]
  have e : zs.length - k = (zs.length - (k + 1)) + 1 := by omega
  rw [e, List.replicate_succ, List.length_take, Nat.min_eq_left (by omega), Nat.sub_self, List.set_cons_zero]
  simp

def zip3 (a b c : List UInt8) : List UInt8 := List.zipWith (· ^^^ ·) (List.zipWith (· ^^^ ·) a b) c
theorem zip3_at (a b c : List UInt8) (k : Nat) (x y z : UInt8) (hx : a[k]? = some x) (hy : b[k]? = some y) (hz : c[k]? = some z) : (zip3 a b c)[k]? = some (x ^^^ y ^^^ z) := by
  simp [zip3, List.getElem?_zipWith, hx, hy, hz]
theorem xor_u8 (x y : UInt8) : bits .xor .u8 (x.toNat : Int) (y.toNat : Int) = ((x ^^^ y).toNat : Int) := by
  have h1 := x.toNat_lt
  have h2 := y.toNat_lt
  rw [u8_xor_nat x.toNat y.toNat (by omega) (by omega), UInt8.toNat_xor]
theorem xor_u32 (x y : Nat) (hx : x < 4294967296) (hy : y < 4294967296) : bits .xor .u32 (x : Int) (y : Int) = ((x ^^^ y : Nat) : Int) := u32_xor_nat x y hx hy

set_option maxHeartbeats 1000000 in
theorem walk_CrcThree {p q r : Option Addr} {n1 n2 n3 c1 c2 c3 : Nat} {l1 l2 l3 : List UInt8} {w : World} (h1 : SlP w p n1 c1 l1) (h2 : SlP w q n2 c2 l2) (h3 : SlP w r n3 c3 l3) :
    Calls Try.prog 5 #[.slice p n1 c1, .slice q n2 c2, .slice r n3 c3] w fun e w' => e = .returned (.bool true) ∧ Below w.heap.size w w' := by
  have hm1 : n1 ≤ 9223372036854775807 := Nat.le_trans h1.le h1.max
  have hm2 : n2 ≤ 9223372036854775807 := Nat.le_trans h2.le h2.max
  have hm3 : n3 ≤ 9223372036854775807 := Nat.le_trans h3.le h3.max
  have H1 := Lib.hid h1
  have H2 := Lib.hid h2
  have H3 := Lib.hid h3
  clear h1 h2 h3
  obtain ⟨a1, ha1⟩ : ∃ n, n = min n1 100 := ⟨_, rfl⟩
  obtain ⟨a2, ha2⟩ : ∃ n, n = min n2 n3 := ⟨_, rfl⟩
  obtain ⟨n, hn⟩ : ∃ n, n = min a1 a2 := ⟨_, rfl⟩
  have k1 : n ≤ n1 := by omega
  have k2 : n ≤ n2 := by omega
  have k3 : n ≤ n3 := by omega
  have k4 : n ≤ 100 := by omega
  have M1 : ∀ ts t w, (Builtin.min_ ts t #[.int .i64 (n1 : Int), .int .i64 100]).run Try.prog w = .ok (.int .i64 (a1 : Int)) w := run_min (P := Try.prog) n1 100 a1 ha1
  have M2 := run_min (P := Try.prog) n2 n3 a2 ha2
  have M3 := run_min (P := Try.prog) a1 a2 n hn
  clear hn ha1 ha2
  go_enter Try.func5, Try.ntmps5
  go_wp2_with fail
  refine (begun2 w).mono ?_
  rintro e w1 ⟨rfl, x1⟩
  have X1 := Lib.hid x1
  have hz1 := x1.size
  clear x1
  go_wp2_with (at_make; refine wpList_mk rfl _ _ _ rfl w1.heap.size Try.underlying22 info5 n rfl rfl (by omega) (by omega) ?_)
  intro pd w2 h4 g4
  have H4 := Lib.hid h4
  have X2 := Lib.hid (Ext.grown g4 (fun k hk => by cases hk))
  clear h4 g4 M1 M2 M3
  go_wp2_with fail
  have T1 := Lib.hid ((H1.out.ext X1.out).take n k1)
  have T2 := Lib.hid ((H2.out.ext X1.out).take n k2)
  have T3 := Lib.hid ((H3.out.ext X1.out).take n k3)
  have hz : (zip3 (l1.take n) (l2.take n) (l3.take n)).length = n := by
    have := T1.out.len
    have := T2.out.len
    have := T3.out.len
    unfold zip3
    rw [List.length_zipWith, List.length_zipWith]
    omega
  have HZ := Lib.hid hz
  clear hz
  go_loopw [10] (fun i wr => ∃ k : Nat, k ≤ n ∧ i = .int .i64 k ∧ OwP wr w1.heap.size pd n n (filled (zip3 (l1.take n) (l2.take n) (l3.take n)) k) ∧ Below w1.heap.size w1 wr) (fun i _ => n - (intOf i).toNat)
  case atStart => exact ⟨0, by omega, rfl, by rw [filled_start, HZ.out]; exact H4.out, X2.out⟩
  case round =>
    obtain ⟨k, hk, rfl, ho, hx⟩ := hrel
    have HO := Lib.hid ho
    have HX := Lib.hid hx
    clear ho hx
    by_cases hlt : k < n
    · obtain ⟨b1, o1, x1, rfl, e1, d1⟩ := (T1.out.ext HX.out).at k hlt
      obtain ⟨b2, o2, x2, rfl, e2, d2⟩ := (T2.out.ext HX.out).at k hlt
      obtain ⟨b3, o3, x3, rfl, e3, d3⟩ := (T3.out.ext HX.out).at k hlt
      obtain ⟨g, x4, rfl, hg, -, hc, hf, hst⟩ := HO.out.store k hlt
      have E := Lib.hid (zip3_at _ _ _ k x1 x2 x3 e1 e2 e3)
      have ST := Lib.hid hst
      clear hst
      have E1 := Lib.hid e1
      have E2 := Lib.hid e2
      have E3 := Lib.hid e3
      clear e1 e2 e3
      have hlt0 : (0 : Int) ≤ (k : Int) := by omega
      have hlt1 : (k : Int) < (n : Int) := by omega
      go_wp2_with fail
      go_region
      go_wp2
      go_roundw
      case rel =>
        rw [xor_u8, xor_u8]
        have st := ST.out (x1 ^^^ x2 ^^^ x3)
        rw [filled_step _ k _ E.out] at st
        exact ⟨k + 1, by omega, by go_num, st.1, Below.drew (HX.out.grown st.2 HX.out.size (fun j hj => by cases hj; exact hg))⟩
      case measure => simp [intOf]; omega
    · have hkn : k = n := by omega
      subst hkn
      have hfe : filled (zip3 (l1.take k) (l2.take k) (l3.take k)) k = zip3 (l1.take k) (l2.take k) (l3.take k) := by
        conv => lhs; arg 2; rw [← HZ.out]
        exact filled_end _
      rw [hfe] at HO
      clear hfe
      have t1 := cut_to p n1 c1 k (by have := H1.out.le; omega)
      have t2 := cut_to q n2 c2 k (by have := H2.out.le; omega)
      have t3 := cut_to r n3 c3 k (by have := H3.out.le; omega)
      have S1 := Lib.hid (T1.out.ext HX.out)
      have S2 := Lib.hid (T2.out.ext HX.out)
      have S3 := Lib.hid (T3.out.ext HX.out)
      have law : crc (zip3 (l1.take k) (l2.take k) (l3.take k)) = crc (l1.take k) ^^^ crc (l2.take k) ^^^ crc (l3.take k) := crc_three _ _ _ (by rw [T1.out.len, T2.out.len]) (by rw [T1.out.len, T3.out.len])
      have yes : ((crc (zip3 (l1.take k) (l2.take k) (l3.take k)) : Int) == ((crc (l1.take k) ^^^ crc (l2.take k) ^^^ crc (l3.take k) : Nat) : Int)) = true := by rw [law]; exact beq_self_eq_true _
      clear law
      have q1 := xor_u32 _ _ (crc_lt (l1.take k)) (crc_lt (l2.take k))
      have q2 := xor_u32 _ _ (xor_lt32 (crc_lt (l1.take k)) (crc_lt (l2.take k))) (crc_lt (l3.take k))
      generalize l1.take k = L1 at *
      generalize l2.take k = L2 at *
      generalize l3.take k = L3 at *
      go_wp2_with fail
      refine rw_start [0, 2, 3, 4, 6, 7, 8, 11, 12, 13, 1, 5, 9, 10, 14, 15, 16, 17] (by kernel_rfl) (by kernel_rfl) (fun _ _ d _ _ h => by cases d <;> exact h) ?_
      repeat (first | (refine rw_quiet rfl (by rfl) (by rfl) (fun K hK => ?_); go_big_quiet_op; refine hK _ ?_; clear hK K) | (refine rw_skip rfl (by rfl) ?_))
      refine rw_call rfl (by rfl) (by rfl) (fun K hK => ?_)
      go_simp
      refine (sum_any (HO.out.sl.ext (Ext.drew wr)) (by omega)).mono ?_
      rintro e w6 ⟨rfl, rfl⟩
      refine hK _ _ (Ext.rfl' _) ?_; clear hK K
      repeat (first | (refine rw_quiet rfl (by rfl) (by rfl) (fun K hK => ?_); go_big_quiet_op; refine hK _ ?_; clear hK K) | (refine rw_skip rfl (by rfl) ?_))
      refine rw_call rfl (by rfl) (by rfl) (fun K hK => ?_)
      go_simp
      refine (sum_any (S1.out.ext (Ext.drew wr)) (by omega)).mono ?_
      rintro e w6 ⟨rfl, rfl⟩
      refine hK _ _ (Ext.rfl' _) ?_; clear hK K
      repeat (first | (refine rw_quiet rfl (by rfl) (by rfl) (fun K hK => ?_); go_big_quiet_op; refine hK _ ?_; clear hK K) | (refine rw_skip rfl (by rfl) ?_))
      refine rw_call rfl (by rfl) (by rfl) (fun K hK => ?_)
      go_simp
      refine (sum_any (S2.out.ext (Ext.drew wr)) (by omega)).mono ?_
      rintro e w6 ⟨rfl, rfl⟩
      refine hK _ _ (Ext.rfl' _) ?_; clear hK K
      repeat (first | (refine rw_quiet rfl (by rfl) (by rfl) (fun K hK => ?_); go_big_quiet_op; refine hK _ ?_; clear hK K) | (refine rw_skip rfl (by rfl) ?_))
      refine rw_call rfl (by rfl) (by rfl) (fun K hK => ?_)
      go_simp
      refine (sum_any (S3.out.ext (Ext.drew wr)) (by omega)).mono ?_
      rintro e w6 ⟨rfl, rfl⟩
      refine hK _ _ (Ext.rfl' _) ?_; clear hK K
      repeat (first | (refine rw_quiet rfl (by rfl) (by rfl) (fun K hK => ?_); go_big_quiet_op; refine hK _ ?_; clear hK K) | (refine rw_skip rfl (by rfl) ?_))
      refine rw_nil ?_
      go_wp2
      go_ret
      exact ⟨rfl, X1.out.tr (Ext.tr HX.out (Ext.drew wr))⟩
end Go.Proofs.Ytnahlgokjppcoaa
