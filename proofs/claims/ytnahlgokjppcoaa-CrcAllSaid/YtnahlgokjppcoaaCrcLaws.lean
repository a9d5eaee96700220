/-
  The walks of the statements on package crc: whatever the slices, the law returns true and nothing that was there is changed. No condition.
-/
import Derived.Test.YtnahlgokjppcoaaCrcSeal
import Derived.Lib.SlBytesConst
namespace Go.Proofs.Ytnahlgokjppcoaa
open Go Go.Sort Go.RowKit
set_option linter.unusedVariables false

set_option maxHeartbeats 400000 in
/-- The statements' own beginning. -/
theorem begun2 (w : World) : Calls Try.prog 12 #[] w fun e w' => e = .returned (.bool true) ∧ Ext w w' := by
  have kc := fun (w : World) (C : Array Value) (n c : Nat) => Lib.run_convert_bytes_const (P := Try.prog) w 22 5 C n c Try.underlying22 Try.underlying5
  go_enter Try.func12, Try.ntmps12
  go_wp2_with fail
  refine (seal_any (l := [97]) (SlP.lit w 1 _ _ [97] rfl rfl (by omega)) (by omega)).mono ?_
  rintro e w1 ⟨p1, c1, rfl, h1, x1⟩
  have H1 := Lib.hid h1
  have X1 := Lib.hid (Ext.tr (Ext.alloc w _) x1)
  clear h1 x1
  go_wp2_with fail
  refine (open_any H1.out.sl (by omega)).mono ?_
  rw [openL_seal, opens_seal]
  rintro e w2 ⟨p2, c2, rfl, h2, x2⟩
  have H2 := Lib.hid h2
  have X2 := Lib.hid (X1.out.tr x2)
  clear h2 x2
  go_wp2_with fail
  refine (open_any (l := [1]) (SlP.lit w2 1 _ _ [1] rfl rfl (by omega)) (by omega)).mono ?_
  rw [show opens [1] = false from rfl, show openL [1] = [] from rfl]
  rintro e w3 ⟨p3, c3, rfl, h3, x3⟩
  have X3 := Lib.hid (Ext.tr X2.out (Ext.tr (Ext.alloc w2 _) x3))
  have E2 := Lib.hid (Ext.tr (Ext.alloc w2 _) x3)
  clear h3 x3
  go_wp2_with fail
  refine (sum_any (l := [49, 50, 51, 52, 53, 54, 55, 56, 57]) (SlP.lit w3 9 _ _ _ rfl rfl (by omega)) (by omega)).mono ?_
  rw [show crc [49, 50, 51, 52, 53, 54, 55, 56, 57] = 3421780262 from by decide +kernel]
  rintro e w4 ⟨rfl, rfl⟩
  go_wp2_with fail
  refine (sum_any (SlP.empty _) (by omega)).mono ?_
  rw [show crc [] = 0 from by decide +kernel]
  rintro e w4 ⟨rfl, rfl⟩
  have es : ∀ o, (convert 22 9 (.slice p2 1 c2)).run Try.prog (w3.alloc o) = .ok (.string ⟨[97].toArray⟩) (w3.alloc o) := fun o => str_of (H2.out.sl.ext (E2.out.tr (Ext.alloc w3 o)))
  go_wp2
  go_ret
  exact ⟨rfl, X3.out.tr (Ext.alloc w3 _)⟩

set_option maxHeartbeats 1000000 in
theorem walk_CrcAll {p q : Option Addr} {n m c d : Nat} {l k : List UInt8} {w : World} (h1 : SlP w p n c l) (h2 : SlP w q m d k) :
    Calls Try.prog 3 #[.slice p n c, .slice q m d] w fun e w' => e = .returned (.bool true) ∧ Below w.heap.size w w' := by
  have H1 := Lib.hid h1
  have H2 := Lib.hid h2
  clear h1 h2
  go_enter Try.func3, Try.ntmps3
  go_wp2_with fail
  refine (begun2 w).mono ?_
  rintro e w1 ⟨rfl, x1⟩
  have X1 := Lib.hid x1
  clear x1
  go_wp2_with fail
  refine (short_any (H1.out.ext X1.out) 300 (by omega)).mono ?_
  rintro e w2 ⟨rfl, rfl⟩
  go_wp2_with fail
  refine (short_any (H2.out.ext X1.out) 40 (by omega)).mono ?_
  rintro e w2 ⟨rfl, rfl⟩
  have A1 := Lib.hid ((H1.out.ext X1.out).take (min n 300) (by omega))
  have A2 := Lib.hid ((H2.out.ext X1.out).take (min m 40) (by omega))
  have hn : min n 300 ≤ 300 := by omega
  have hm : min m 40 ≤ 40 := by omega
  generalize min n 300 = n1 at A1 hn ⊢
  generalize min m 40 = m1 at A2 hm ⊢
  generalize l.take n1 = l1 at A1
  generalize k.take m1 = k1 at A2
  go_wp2_with fail
  refine (seal_any A1.out (by omega)).mono ?_
  rintro e w2 ⟨p2, c2, rfl, h2, x2⟩
  have S2 := Lib.hid h2
  have X2 := Lib.hid x2
  clear h2 x2
  go_wp2_with fail
  refine (open_any S2.out.sl (by omega)).mono ?_
  rw [openL_seal, opens_seal, A1.out.len]
  rintro e w3 ⟨p3, c3, rfl, h3, x3⟩
  have S3 := Lib.hid h3
  have X3 := Lib.hid x3
  clear h3 x3
  go_wp2_with fail
  refine (open_any (A2.out.ext (X2.out.tr X3.out)) (by omega)).mono ?_
  rintro e w4 ⟨p4, c4, rfl, h4, x4⟩
  have S4 := Lib.hid h4
  have X4 := Lib.hid x4
  clear h4 x4
  go_wp2_with fail
  refine (ropen_any (A2.out.ext (X2.out.tr (X3.out.tr X4.out))) (by omega)).mono ?_
  rintro e w5 ⟨p5, c5, rfl, h5, x5⟩
  have S5 := Lib.hid h5
  have X5 := Lib.hid x5
  clear h5 x5
  have B1 := Lib.hid (A1.out.ext (X2.out.tr (X3.out.tr (X4.out.tr X5.out))))
  have B2 := Lib.hid (S2.out.sl.ext (X3.out.tr (X4.out.tr X5.out)))
  have B3 := Lib.hid (S3.out.sl.ext (X4.out.tr X5.out))
  have B4 := Lib.hid (S4.out.sl.ext X5.out)
  have X := Lib.hid (X1.out.tr (X2.out.tr (X3.out.tr (X4.out.tr X5.out))))
  clear A1 A2 S2 S3 S4 X1 X2 X3 X4 X5 H1 H2
  generalize (openL k1).length = n4 at *
  have e1 : (b4 0 == b4 0) = true := rfl
  clear e1
  cases ho : opens k1
  all_goals
    go_wp2_with fail
    refine rw_start [0, 2, 1, 3, 4, 5, 6, 7, 8, 9, 10, 11, 12, 13, 14, 15, 16, 17, 18, 19, 20, 21, 22, 23, 24, 25, 26, 27, 28, 29, 30, 31, 32, 33, 34, 35] (by kernel_rfl) (by kernel_rfl) (fun _ _ d _ _ h => by cases d <;> exact h) ?_
    have cv := fun d os => str_of (B2.out.ext ((Ext.drew w5).tr (Ext.reg _ d os)))
    repeat (first | (refine rw_quiet rfl (by rfl) (by rfl) (fun K hK => ?_); go_big_quiet_op; refine hK _ ?_; clear hK K) | (refine rw_skip rfl (by rfl) ?_))
    refine rw_call rfl (by rfl) (by rfl) (fun K hK => ?_)
    go_simp
    refine (sum_any (B1.out.ext (Ext.drew w5)) (by omega)).mono ?_
    rintro e w6 ⟨rfl, rfl⟩
    refine hK _ _ (Ext.rfl' _) ?_; clear hK K
    repeat (first | (refine rw_quiet rfl (by rfl) (by rfl) (fun K hK => ?_); go_big_quiet_op; refine hK _ ?_; clear hK K) | (refine rw_skip rfl (by rfl) ?_))
    refine rw_call rfl (by rfl) (by rfl) (fun K hK => ?_)
    go_simp
    refine (rsum_any (B1.out.ext (Ext.drew w5)) (by omega)).mono ?_
    rintro e w6 ⟨rfl, rfl⟩
    refine hK _ _ (Ext.rfl' _) ?_; clear hK K
    repeat (first | (refine rw_quiet rfl (by rfl) (by rfl) (fun K hK => ?_); go_big_quiet_op; refine hK _ ?_; clear hK K) | (refine rw_skip rfl (by rfl) ?_))
    clear cv
    refine rw_call rfl (by rfl) (by rfl) (fun K hK => ?_)
    go_simp
    refine (rseal_any (B1.out.ext (Ext.drew w5)) (by omega)).mono ?_
    rintro e w6 ⟨p6, c6, rfl, h6, x6⟩
    refine hK _ _ x6 ?_
    clear hK K
    have X6 := Lib.hid ((Ext.drew w5).tr x6)
    have cv6 := fun d os => str_of (h6.sl.ext (Ext.reg w6 d os))
    clear h6 x6
    have cv1 := fun d os => str_of (B1.out.ext (X6.out.tr (Ext.reg w6 d os)))
    have cv3 := fun d os => str_of (B3.out.ext (X6.out.tr (Ext.reg w6 d os)))
    have cv4 := fun d os => str_of (B4.out.ext (X6.out.tr (Ext.reg w6 d os)))
    have cv5 := fun d os => str_of (S5.out.ext (X6.out.tr (Ext.reg w6 d os)))
    repeat (first | (refine rw_quiet rfl (by rfl) (by rfl) (fun K hK => ?_); go_big_quiet_op; refine hK _ ?_; clear hK K) | (refine rw_skip rfl (by rfl) ?_))
    refine rw_nil ?_
    clear cv6 cv1 cv3 cv4 cv5
    go_wp2
    go_ret
    exact ⟨rfl, X.out.tr X6.out⟩
end Go.Proofs.Ytnahlgokjppcoaa
