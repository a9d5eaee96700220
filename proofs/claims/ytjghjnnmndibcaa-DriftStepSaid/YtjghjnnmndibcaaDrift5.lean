/-
  The contract of drift.Bounds within small numbers, the statements' begun, the walk of DriftAll.
-/
import Derived.Test.YtjghjnnmndibcaaDrift4
namespace Go.Proofs.Ytjghjnnmndibcaa
open Go Go.Sort Go.RowKit Go.Deep
set_option linter.unusedVariables false

def loB (n p : Int) : Int := (max (n * (1000000 - p) - 1000000) 0 + 1000000 - 1) / 1000000
def hiB (n p : Int) : Int := (n * (1000000 + p) + 1000000) / 1000000
theorem lo_hi {n p : Int} (h0 : 0 ≤ n) (h1 : n ≤ 1073741824) (h2 : 0 ≤ p) (h3 : p ≤ 500000) : 0 ≤ loB n p ∧ loB n p ≤ 2147483648 ∧ 0 ≤ hiB n p ∧ hiB n p ≤ 2147483648 := by
  obtain ⟨h5, h6⟩ := mul_bd h0 h1 (show 0 ≤ 1000000 - p by omega) (show 1000000 - p ≤ 1500000 by omega)
  obtain ⟨h7, h8⟩ := mul_bd h0 h1 (show 0 ≤ 1000000 + p by omega) (show 1000000 + p ≤ 1500000 by omega)
  unfold loB hiB
  omega
theorem add_small {a b : Int} (h0 : 0 ≤ a) (h1 : a ≤ 4294967296) (h2 : 0 ≤ b) (h3 : b ≤ 4294967296) : addOk a b = true ∧ addV a b = a + b := by
  have e : addOk a b = true := by
    unfold addOk
    rw [(isT_iff a).2 (by omega), (isT_iff b).2 (by omega), (isT_iff (a + b)).2 (by omega)]; rfl
  exact ⟨e, by unfold addV; rw [e]; rfl⟩
theorem i64b {x : Int} (h : -4611686018427387904 ≤ x) (h2 : x ≤ 4611686018427387904) : I64 x := by unfold I64; omega

set_option maxRecDepth 8000 in
set_option maxHeartbeats 2000000 in
theorem bounds_yes (r1 r2 real p : Int) (h0 : 0 ≤ r1) (h1 : r1 ≤ real) (h2 : real ≤ 1073741824) (h3 : 0 ≤ r2) (h4 : r2 ≤ 1073741824) (h5 : 0 ≤ p) (h6 : p ≤ 500000) (w : World) :
    Calls Try.prog 25 #[.agg #[.int .i64 r1, .int .i64 r2], .int .i64 real, .int .i64 p] w fun e w' => e = .returned (.tuple #[.int .i64 (r2 + loB (real - r1) p), .int .i64 (r2 + hiB (real - r1) p), .bool true]) ∧ Ext w w' := by
  obtain ⟨n, hn⟩ : ∃ n, n = real - r1 := ⟨_, rfl⟩
  obtain ⟨u1, u2, u3, u4⟩ := lo_hi (n := n) (p := p) (by omega) (by omega) h5 h6
  have hne : real - r1 = n := hn.symm
  rw [hne]
  obtain ⟨m1, m2⟩ := mul_bd (show 0 ≤ n by omega) (show n ≤ 1073741824 by omega) (show 0 ≤ 1000000 - p by omega) (show 1000000 - p ≤ 1500000 by omega)
  obtain ⟨m3, m4⟩ := mul_bd (show 0 ≤ n by omega) (show n ≤ 1073741824 by omega) (show 0 ≤ 1000000 + p by omega) (show 1000000 + p ≤ 1500000 by omega)
  have ls := least_any' n p (by omega) (by omega) h5 h6
  have ms := most_any' n p (by omega) (by omega) h5 h6
  obtain ⟨x, hx⟩ : ∃ x, x = n * (1000000 - p) - 1000000 := ⟨_, rfl⟩
  obtain ⟨y, hy⟩ : ∃ y, y = n * (1000000 + p) + 1000000 := ⟨_, rfl⟩
  rw [← hx] at ls
  rw [← hy] at ms
  obtain ⟨mx, hmx0⟩ : ∃ mx, mx = max x 0 := ⟨_, rfl⟩
  have mx1 : 0 ≤ mx ∧ mx ≤ 9000000000000000000 := by omega
  obtain ⟨mx1, mx2⟩ := mx1
  have hmx : ∀ ts t w, (Builtin.max_ ts t #[.int .i64 x, .int .i64 0]).run Try.prog w = .ok (.int .i64 mx) w := fun ts t w => by
    rw [run_max_int2]
    congr 2
    split <;> omega
  have hup := up_any mx 1000000 mx1 mx2 (by omega) (by omega)
  have hlo : (mx + 1000000 - 1) / 1000000 = loB n p := by unfold loB; rw [hmx0, hx]
  rw [hlo] at hup
  have hhi : y / 1000000 = hiB n p := by unfold hiB; rw [hy]
  have y1 : 0 ≤ y := by omega
  have y2 : y ≤ 9000000000000000000 := by omega
  have HLO := Lib.hid hlo
  have HHI := Lib.hid hhi
  clear hlo
  obtain ⟨lo, hlo⟩ : ∃ lo, lo = loB n p := ⟨_, rfl⟩
  obtain ⟨hi, hhi2⟩ : ∃ hi, hi = hiB n p := ⟨_, rfl⟩
  rw [← hlo] at u1 u2 hup ⊢
  rw [← hhi2] at u3 u4 hhi ⊢
  obtain ⟨a1, a2⟩ := add_small (a := r2) (b := lo) h3 (by omega) u1 (by omega)
  obtain ⟨a3, a4⟩ := add_small (a := r2) (b := hi) h3 (by omega) u3 (by omega)
  have LS := Lib.hid ls
  have MS := Lib.hid ms
  have UP := Lib.hid hup
  have A1 := Lib.hid a1
  have A2 := Lib.hid a2
  have A3 := Lib.hid a3
  have A4 := Lib.hid a4
  have T3 : Hid ([r1, r2, real].all isT = true) := Lib.hid (by
    have i1 := (isT_iff r1).2 (by omega)
    have i2 := (isT_iff r2).2 (by omega)
    have i3 := (isT_iff real).2 (by omega)
    simp [i1, i2, i3])
  have P3 : Hid (okP p = true) := Lib.hid (by simp [okP, h5, h6])
  have W3 : Hid (∀ z ∈ [r1, r2, real], (Lit.int .i64 z).wf = true) := Lib.hid (by
    intro z hz
    simp at hz
    rcases hz with rfl | rfl | rfl
    · exact i64_wf (i64b (by omega) (by omega))
    · exact i64_wf (i64b (by omega) (by omega))
    · exact i64_wf (i64b (by omega) (by omega)))
  have S3 : Hid (SlI .i64 ((w.alloc (.cells #[.int .i64 r1, .int .i64 r2] 51)).alloc (.cells #[.int .i64 r1, .int .i64 r2, .int .i64 real] 2)) (some ⟨w.heap.size + 1, 0, none⟩) 3 3 [r1, r2, real]) := Lib.hid (by
    have h := SlI.lit .i64 2 (w.alloc (.cells #[.int .i64 r1, .int .i64 r2] 51)) 3 #[.int .i64 r1, .int .i64 r2, .int .i64 real] (0, 0) [r1, r2, real] rfl rfl (by omega) W3.out
    rw [show (w.alloc (.cells #[.int .i64 r1, .int .i64 r2] 51)).heap.size = w.heap.size + 1 by simp] at h
    exact h)
  clear ls ms hup a1 a2 a3 a4 hx hy hlo hhi2 m1 m2 m3 m4 hn hmx0
  go_enter Try.func25, Try.ntmps25
  go_wp2_with fail
  refine (time_any S3.out).mono ?_
  rw [T3.out]
  rintro e w1 ⟨rfl, rfl⟩
  go_wp2_with fail
  refine (drift_any p _).mono ?_
  rw [P3.out]
  rintro e w1 ⟨rfl, rfl⟩
  have d0 : ((w.alloc (.cells #[.int .i64 r1, .int .i64 r2] 51)).alloc (.cells #[.int .i64 r1, .int .i64 r2, .int .i64 real] 2)).cell? ⟨w.heap.size, 0, none⟩ = some (.int .i64 r1) := Ext.cell (Ext.alloc _ _) (World.cell?_alloc_mark ..)
  have d1 : ((w.alloc (.cells #[.int .i64 r1, .int .i64 r2] 51)).alloc (.cells #[.int .i64 r1, .int .i64 r2, .int .i64 real] 2)).cell? ⟨w.heap.size, 1, none⟩ = some (.int .i64 r2) := Ext.cell (Ext.alloc _ _) (World.cell?_alloc_mark ..)
  have X1 := Lib.hid ((Ext.alloc w (.cells #[.int .i64 r1, .int .i64 r2] 51)).tr (Ext.alloc _ (.cells #[.int .i64 r1, .int .i64 r2, .int .i64 real] 2)))
  generalize (w.alloc (.cells #[.int .i64 r1, .int .i64 r2] 51)).alloc (.cells #[.int .i64 r1, .int .i64 r2, .int .i64 real] 2) = w1 at *
  go_wp2_with fail
  have D1 := Lib.hid d1
  have r1' := fun d os => Ext.cell (Ext.reg w1.drew d os) (Ext.cell (Ext.drew w1) d1)
  refine rw_start [0, 1, 2, 3, 4, 5, 6, 7, 8, 9, 10, 11, 12] (by kernel_rfl) (by kernel_rfl) (fun _ _ d _ _ h => by cases d <;> exact h) ?_
  repeat (first | (refine rw_quiet rfl (by rfl) (by rfl) (fun K hK => ?_); go_big_quiet_op; refine hK _ ?_; clear hK K) | (refine rw_skip rfl (by rfl) (fun K hK => ?_); go_big_quiet_op; refine hK _ ?_; clear hK K))
  refine rw_call rfl (by rfl) (by rfl) (fun K hK => ?_)
  go_simp
  refine (LS.out _).mono ?_
  rintro e w2 ⟨rfl, rfl⟩
  refine hK _ _ (Ext.rfl' _) ?_; clear hK K
  repeat (first | (refine rw_quiet rfl (by rfl) (by rfl) (fun K hK => ?_); go_big_quiet_op; refine hK _ ?_; clear hK K) | (refine rw_skip rfl (by rfl) (fun K hK => ?_); go_big_quiet_op; refine hK _ ?_; clear hK K))
  refine rw_call rfl (by rfl) (by rfl) (fun K hK => ?_)
  go_simp
  refine (UP.out _).mono ?_
  rintro e w2 ⟨rfl, rfl⟩
  refine hK _ _ (Ext.rfl' _) ?_; clear hK K
  refine rw_call rfl (by rfl) (by rfl) (fun K hK => ?_)
  go_simp
  refine (add_any r2 lo (i64b (by omega) (by omega)) (i64b (by omega) (by omega)) _).mono ?_
  rw [A1.out, A2.out]
  rintro e w2 ⟨rfl, x2⟩
  refine hK _ _ x2 ?_
  clear hK K r1'
  have X2 := Lib.hid ((Ext.drew w1).tr x2)
  clear x2
  repeat (first | (refine rw_quiet rfl (by rfl) (by rfl) (fun K hK => ?_); go_big_quiet_op; refine hK _ ?_; clear hK K) | (refine rw_skip rfl (by rfl) (fun K hK => ?_); go_big_quiet_op; refine hK _ ?_; clear hK K))
  refine rw_nil ?_
  go_wp2_with fail
  have r1' := fun d os => Ext.cell (Ext.reg w2.drew d os) (Ext.cell (X2.out.tr (Ext.drew w2)) D1.out)
  clear hmx
  refine rw_start [0, 1, 2, 3, 4, 5, 6, 7, 8, 9, 10, 11] (by kernel_rfl) (by kernel_rfl) (fun _ _ d _ _ h => by cases d <;> exact h) ?_
  repeat (first | (refine rw_quiet rfl (by rfl) (by rfl) (fun K hK => ?_); go_big_quiet_op; refine hK _ ?_; clear hK K) | (refine rw_skip rfl (by rfl) (fun K hK => ?_); go_big_quiet_op; refine hK _ ?_; clear hK K))
  refine rw_call rfl (by rfl) (by rfl) (fun K hK => ?_)
  go_simp
  refine (MS.out _).mono ?_
  rintro e w3 ⟨rfl, rfl⟩
  refine hK _ _ (Ext.rfl' _) ?_; clear hK K
  repeat (first | (refine rw_quiet rfl (by rfl) (by rfl) (fun K hK => ?_); go_big_quiet_op; refine hK _ ?_; clear hK K) | (refine rw_skip rfl (by rfl) (fun K hK => ?_); go_big_quiet_op; refine hK _ ?_; clear hK K))
  refine rw_call rfl (by rfl) (by rfl) (fun K hK => ?_)
  go_simp
  refine (add_any r2 hi (i64b (by omega) (by omega)) (i64b (by omega) (by omega)) _).mono ?_
  rw [A3.out, A4.out]
  rintro e w3 ⟨rfl, x3⟩
  refine hK _ _ x3 ?_
  clear hK K r1'
  have X3 := Lib.hid (X1.out.tr (X2.out.tr ((Ext.drew w2).tr x3)))
  clear x3
  repeat (first | (refine rw_quiet rfl (by rfl) (by rfl) (fun K hK => ?_); go_big_quiet_op; refine hK _ ?_; clear hK K) | (refine rw_skip rfl (by rfl) (fun K hK => ?_); go_big_quiet_op; refine hK _ ?_; clear hK K))
  refine rw_nil ?_
  clear hhi d0 d1
  go_wp2
  go_ret3
  exact ⟨rfl, X3.out⟩
end Go.Proofs.Ytjghjnnmndibcaa
