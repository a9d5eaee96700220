/-
  EqTold; the walk of TopFall. Conditions stand at each.
-/
import Derived.Test.YtjhbmbbmjaabcaaGreatFa6
namespace Go.Proofs.YtjhbmbbmjaabcaaGreat
open Go Go.Sort Go.RowKit
set_option linter.unusedVariables false

def eqTl : List TdD → List TdD → Bool
  | [], [] => true
  | a :: l, b :: m => (a.at' == b.at') && (eqB a.e b.e && eqTl l m)
  | _, _ => false
theorem eqTl_eq : ∀ (l m : List TdD), eqTl l m = true → l = m
  | [], [], _ => rfl
  | a :: l, b :: m, h => by
    unfold eqTl at h
    rw [Bool.and_eq_true, Bool.and_eq_true, beq_iff_eq] at h
    obtain ⟨h1, h2, h3⟩ := h
    have e1 := (eqB_iff _ _).1 h2
    have e2 := eqTl_eq l m h3
    cases a
    cases b
    simp only at h1 e1
    rw [h1, e1, e2]
  | [], _ :: _, h => by simp [eqTl] at h
  | _ :: _, [], h => by simp [eqTl] at h
set_option maxRecDepth 8000 in
set_option maxHeartbeats 4000000 in
/-- EqTold, of the same -/
theorem eqtold_any {w : World} {p q : Option Addr} {n cap c2 : Nat} {L : List TdD} (h : SlS 8 w p n cap (L.map tdL)) (h2 : SlS 8 w q n c2 (L.map tdL)) :
    Calls Tryz.prog 35 #[.slice p n cap, .slice q n c2] w fun e w' => e = .returned (.bool true) ∧ Ext w w' := by
  have hn : n ≤ 9223372036854775807 := Nat.le_trans h.le h.max
  have S := Lib.hid h
  have S2 := Lib.hid h2
  clear h h2
  go_enter Tryz.func35, Tryz.ntmps35
  go_wp2
  go_loopw [5] (fun i wr => ∃ k : Nat, k ≤ n ∧ i = .int .i64 (k : Int) ∧ Ext w wr) (fun i _ => n - (intOf i).toNat)
  case atStart => exact ⟨0, by omega, rfl, Ext.rfl' _⟩
  case round =>
    obtain ⟨k, hk, rfl, x1⟩ := hrel
    have X := Lib.hid x1
    clear x1
    by_cases hlt : k < n
    · obtain ⟨b, o, e, hp, hx, c0, c1, c2', c3, c4, c5, c6, c7⟩ := td_at (S.out.ext (X.out.tr (Ext.drew wr))) k hlt
      obtain ⟨b', o', e', hp', hx', d0, d1, d2, d3, d4, d5, d6, d7⟩ := td_at (S2.out.ext (X.out.tr (Ext.drew wr))) k hlt
      obtain rfl : e = e' := Option.some.inj (hx.symm.trans hx')
      clear hx hx'
      subst hp hp'
      obtain ⟨fa, f1, f2, f3, f4, f5, f6, dat⟩ := e
      simp only at c0 c1 c2' c3 c4 c5 c6 c7 d0 d1 d2 d3 d4 d5 d6 d7
      have EQ := Lib.hid (fun w => eq_ref (a := ⟨f1, f2, f3, f4, f5, f6, dat⟩) (b := ⟨f1, f2, f3, f4, f5, f6, dat⟩) (w := w))
      rw [(eqB_iff _ _).2 rfl] at EQ
      have r0 := fun d os => Ext.cell (Ext.reg wr.drew d os) c0
      have r1 := fun d os => Ext.cell (Ext.reg wr.drew d os) c1
      have r2 := fun d os => Ext.cell (Ext.reg wr.drew d os) c2'
      have r3 := fun d os => Ext.cell (Ext.reg wr.drew d os) c3
      have r4 := fun d os => Ext.cell (Ext.reg wr.drew d os) c4
      have r5 := fun d os => Ext.cell (Ext.reg wr.drew d os) c5
      have r6 := fun d os => Ext.cell (Ext.reg wr.drew d os) c6
      have r7 := fun d os => Ext.cell (Ext.reg wr.drew d os) c7
      have s0 := fun d os => Ext.cell (Ext.reg wr.drew d os) d0
      have s1 := fun d os => Ext.cell (Ext.reg wr.drew d os) d1
      have s2 := fun d os => Ext.cell (Ext.reg wr.drew d os) d2
      have s3 := fun d os => Ext.cell (Ext.reg wr.drew d os) d3
      have s4 := fun d os => Ext.cell (Ext.reg wr.drew d os) d4
      have s5 := fun d os => Ext.cell (Ext.reg wr.drew d os) d5
      have s6 := fun d os => Ext.cell (Ext.reg wr.drew d os) d6
      have s7 := fun d os => Ext.cell (Ext.reg wr.drew d os) d7
      clear c0 c1 c2' c3 c4 c5 c6 c7 d0 d1 d2 d3 d4 d5 d6 d7
      go_wp2_with fail
      refine rw_start [0, 1, 2, 3, 4, 5, 6, 7, 8, 9, 10, 11, 12, 13, 14, 15, 16, 17, 18, 19, 20, 21, 22, 23, 24] (by kernel_rfl) (by kernel_rfl) (fun _ _ d _ _ h => by cases d <;> exact h) ?_
      repeat (first | (refine rw_quiet rfl (by rfl) (by rfl) (fun K hK => ?_); go_big_quiet_op; refine hK _ ?_; clear hK K) | (refine rw_skip rfl (by rfl) (fun K hK => ?_); go_big_quiet_op; refine hK _ ?_; clear hK K))
      refine rw_call rfl (by rfl) (by rfl) (fun K hK => ?_)
      go_simp
      refine (EQ.out _).mono ?_
      rintro e w4 ⟨rfl, x4⟩
      refine hK _ _ x4 ?_
      clear hK K r0 r1 r2 r3 r4 r5 r6 r7 s0 s1 s2 s3 s4 s5 s6 s7
      have X4 := Lib.hid (X.out.tr ((Ext.drew wr).tr x4))
      clear x4
      repeat (first | (refine rw_quiet rfl (by rfl) (by rfl) (fun K hK => ?_); go_big_quiet_op; refine hK _ ?_; clear hK K) | (refine rw_skip rfl (by rfl) (fun K hK => ?_); go_big_quiet_op; refine hK _ ?_; clear hK K))
      refine rw_nil ?_
      go_wp2
      go_roundw
      case rel => exact ⟨k + 1, by omega, by go_num, X4.out⟩
      case measure => simp [intOf]; omega
    · have hkn : k = n := by omega
      clear hkn
      go_wp2
      go_ret
      exact ⟨rfl, X.out⟩

def newB (x : NdD) : Bool := !x.kn && (!goodN x && (x.T.length == 0 && x.bt == 2))
def newS (L : LwD) (who : Nat) : Bool := match L.W.sl[who - 1]? with
  | some (.up x) => newB x
  | _ => false
def sameT (k : Nat) (L : LwD) (a b : Nat) : Bool := match L.W.sl[a - 1]?, L.W.sl[b - 1]? with
  | some (.up x), some (.up y) => x.T.length == k && eqTl x.T y.T
  | _, _ => false
def fallA (who k : Nat) (d : Nat) (L : LwD) : Option LwD := (foldO (decC d) (List.range' 0 k) L).bind fun L1 => (roundsL 6 L1).bind fun L2 => (stepX who L2).bind fun L3 => (roundsL 2 L3).bind (stepS who)
def fallR (n who k d : Nat) (L : LwD) : Bool := newS L who && match roundsL 80 L with
  | some L6 => oneT (fullT n) L6 && sameT k L6 who d
  | none => false
def fallB (n who k : Nat) : Bool := match (wellL n).bind (fallA who k (1 + who % n)) with
  | some L => fallR n who k (1 + who % n) L
  | none => false
theorem withS_n {L L' : LwD} {i : Nat} (h : stepS i L = some L') : L'.n = L.n := by
  unfold stepS at h
  obtain ⟨L1, hw, hlk⟩ := Option.bind_eq_some_iff.1 h
  obtain ⟨L2, h2, h3⟩ := Option.bind_eq_some_iff.1 hw
  obtain ⟨W', -, -, rfl⟩ := withW_some h2
  have h4 := lstart_n h3
  have h5 := (looksL_k hlk).2
  exact h5.trans h4
variable {w w4 : World} {o o4 : Ow} {tb lw : Nat} {A A' : LwA} {L L' : LwD}
set_option maxRecDepth 8000 in
set_option maxHeartbeats 4000000 in
theorem tfall_any (x y z : Int) (hall : ∀ n who k : Nat, 3 ≤ n → n ≤ 5 → 1 ≤ who → who ≤ n → k < 4 → fallB n who k = true) (hb : begunB = true) (w : World) :
    Calls Tryz.prog 6 #[.int .i64 x, .int .i64 y, .int .i64 z] w fun e w' => e = .returned (.bool true) ∧ Below w.heap.size w w' := by
  obtain ⟨n, hn⟩ : ∃ n : Nat, 3 + smallI x 3 = (n : Int) := ⟨(3 + smallI x 3).toNat, by have := smallI_lt (x := x) (show (0 : Int) < 3 by decide); omega⟩
  obtain ⟨k, hk⟩ : ∃ k : Nat, smallI z 4 = (k : Int) := ⟨(smallI z 4).toNat, by have := smallI_lt (x := z) (show (0 : Int) < 4 by decide); omega⟩
  have hn5 : 3 ≤ n ∧ n ≤ 5 := by have := smallI_lt (x := x) (show (0 : Int) < 3 by decide); omega
  have hk4 : k < 4 := by have := smallI_lt (x := z) (show (0 : Int) < 4 by decide); omega
  obtain ⟨u, hu⟩ : ∃ u : Nat, 1 + smallI y (n : Int) = (u : Int) := ⟨(1 + smallI y (n : Int)).toNat, by have := smallI_lt (x := y) (show (0 : Int) < (n : Int) by omega); omega⟩
  have hu5 : 1 ≤ u ∧ u ≤ n := by have := smallI_lt (x := y) (show (0 : Int) < (n : Int) by omega); omega
  have hr := hall n u k hn5.1 hn5.2 hu5.1 hu5.2 hk4
  unfold fallB at hr
  split at hr
  case h_2 => cases hr
  rename_i L5 hL5
  obtain ⟨L0, hL0, hLA⟩ := Option.bind_eq_some_iff.1 hL5
  have hrem : Int.tmod (u : Int) (n : Int) = ((u % n : Nat) : Int) := by rw [Int.tmod_eq_emod_of_nonneg (by omega)]; omega
  have hmod : u % n < n := Nat.mod_lt _ (by omega)
  obtain ⟨ii, hii⟩ : ∃ ii, u % n = ii := ⟨_, rfl⟩
  rw [hii] at hrem hmod hLA hr
  clear hii
  unfold fallA at hLA
  obtain ⟨L1, hb1, hb2⟩ := Option.bind_eq_some_iff.1 hLA
  obtain ⟨L2, hb3, hb4⟩ := Option.bind_eq_some_iff.1 hb2
  obtain ⟨L3, hb5, hb6⟩ := Option.bind_eq_some_iff.1 hb4
  obtain ⟨L4, hb7, hb8⟩ := Option.bind_eq_some_iff.1 hb6
  unfold fallR at hr
  rw [Bool.and_eq_true] at hr
  obtain ⟨hnew, hr⟩ := hr
  split at hr
  case h_2 => cases hr
  rename_i L6 hL6
  rw [Bool.and_eq_true] at hr
  unfold newS at hnew
  split at hnew
  case h_2 => cases hnew
  rename_i x5 hx5
  unfold newB at hnew
  simp only [Bool.and_eq_true, Bool.not_eq_true', beq_iff_eq] at hnew
  have hsm := hr.2
  unfold sameT at hsm
  split at hsm
  case h_2 => cases hsm
  rename_i sa sb hsa hsb
  rw [Bool.and_eq_true, beq_iff_eq] at hsm
  have HNEW := Lib.hid hnew
  have HX5 := Lib.hid hx5
  have HSA := Lib.hid hsa
  have HSB := Lib.hid hsb
  have HSK := Lib.hid hsm.1
  have HSE := Lib.hid (eqTl_eq _ _ hsm.2)
  have HO := Lib.hid hr.1
  have HL0 := Lib.hid hL0
  have HCS := Lib.hid hb1
  have HR6 := Lib.hid hb3
  have HCR := Lib.hid hb5
  have HR2 := Lib.hid hb7
  have HST := Lib.hid hb8
  have HR80 := Lib.hid hL6
  have HREM := Lib.hid hrem
  have BG := Lib.hid (tbegun_any (w := w) (o := fun _ => 0) (fun _ _ => rfl) hb)
  have SM3 := Lib.hid (fun w => small_any x 3 (by decide) w)
  have SM4 := Lib.hid (fun w => small_any z 4 (by decide) w)
  have SMN := Lib.hid (fun w => small_any y (n : Int) ⟨by omega, by omega⟩ w)
  have hs3 := smallI_lt (x := x) (show (0 : Int) < 3 by decide)
  have hs4 := smallI_lt (x := z) (show (0 : Int) < 4 by decide)
  have hsn := smallI_lt (x := y) (show (0 : Int) < (n : Int) by omega)
  obtain ⟨sx, hsx⟩ : ∃ sx, sx = smallI x 3 := ⟨_, rfl⟩
  rw [← hsx] at SM3 hn hs3
  obtain ⟨sz, hsz⟩ : ∃ sz, sz = smallI z 4 := ⟨_, rfl⟩
  rw [← hsz] at SM4 hk hs4
  obtain ⟨sy, hsy⟩ : ∃ sy, sy = smallI y (n : Int) := ⟨_, rfl⟩
  rw [← hsy] at SMN hu hsn
  have HNX := Lib.hid hn
  have HKX := Lib.hid hk
  have HUX := Lib.hid hu
  have HSN := Lib.hid hsn
  clear hr hL5 hLA hL0 hall hb hk hsx hsy hsz hn hu hb1 hb2 hb3 hb4 hb5 hb6 hb7 hb8 hL6 hnew hx5 hsm hsa hsb hrem hsn
  go_enter Tryz.func6, Tryz.ntmps6
  go_wp2_with fail
  refine BG.out.mono ?_
  rintro e w1 ⟨rfl, o1, m1⟩
  have M1 := Lib.hid (m1.mono lw_top)
  clear m1 BG
  go_wp2_with fail
  refine (SM3.out _).mono ?_
  rintro e w1' ⟨rfl, rfl⟩
  go_wp2_with fail
  refine (SM4.out _).mono ?_
  rintro e w1' ⟨rfl, rfl⟩
  clear SM3 SM4
  go_upto_region 5 with fail
  rw [HNX.out, HKX.out]
  clear HNX HKX hs3 hs4
  go_wp2_with fail
  refine (SMN.out _).mono ?_
  rintro e w1' ⟨rfl, rfl⟩
  clear SMN
  have hsn := HSN.out
  go_upto_region 6 with fail
  rw [HUX.out]
  clear HUX HSN hsn
  go_wp2_with fail
  refine (twell_any M1.out.cl ⟨hn5.1, by omega⟩ HL0.out).mono ?_
  rintro e w2 ⟨tb, lw, o2, A2, rfl, h2, m2⟩
  have H2 := Lib.hid h2
  have M2 := Lib.hid (M1.out.tr m2 top0)
  have HN0 := Lib.hid (wellL_n HL0.out)
  obtain ⟨d, hd⟩ : ∃ d : Nat, 1 + ii = d := ⟨_, rfl⟩
  have hd5 : 1 ≤ d ∧ d ≤ n := by omega
  have n0 : ¬ (n : Int) = 0 := by omega
  have hrem := HREM.out
  have HDI : Hid (1 + (ii : Int) = (d : Int)) := Lib.hid (by omega)
  rw [hd] at HCS HSB
  clear h2 m2 M1 HL0 hd
  go_wp2
  rw [HDI.out]
  clear hrem n0 HDI hmod HREM
  go_loopw [10] (fun v wx => ∃ (r : Nat) (oa : Ow) (Aa : LwA) (La : LwD), r ≤ k ∧ v = .int .i64 (r : Int) ∧ TopV wx oa tb lw Aa La ∧ foldO (decC d) (List.range' r (k - r)) La = some L1 ∧ La.n = n ∧ Fm topC (fun _ => 0) oa w wx) (fun v _ => k - (intOf v).toNat)
  case atStart => exact ⟨0, o2, A2, L0, by omega, rfl, H2.out, HCS.out, HN0.out, M2.out⟩
  case round =>
    clear H2 M2 HCS HN0
    obtain ⟨r, oa, Aa, La, hr, rfl, hv, hf, hna, ma⟩ := hrel
    have HX := Lib.hid hv
    have HF := Lib.hid hf
    have HNA := Lib.hid hna
    have MX := Lib.hid ma
    clear hv hf hna ma
    by_cases hlt : r < k
    · have e5 : decide ((r : Int) < (k : Int)) = true := decide_eq_true (by omega)
      have e5n : decide (r < k) = true := decide_eq_true hlt
      have hq := HF.out
      rw [show k - r = (k - (r + 1)) + 1 by omega, List.range'_succ] at hq
      obtain ⟨Lb, hq1, hq2⟩ := foldO_cons hq
      have HREST := Lib.hid hq2
      have HCAST := Lib.hid hq1
      have HN1 : Hid (Lb.n = n) := Lib.hid ((stepC_n hq1).trans HNA.out)
      have HI5 : Hid (1 ≤ d ∧ d ≤ La.n) := Lib.hid (by rw [HNA.out]; exact hd5)
      clear hq hq1 hq2 HF
      go_wp2_with fail
      refine (data_any r (by omega) _).mono ?_
      rintro e w10 ⟨rfl, x10⟩
      replace HX := Lib.hid (HX.out.ext x10)
      replace MX := Lib.hid (MX.out.tr (Fm.ext MX.out.cl x10) top0)
      clear x10
      go_wp2_with fail
      refine (tcast_any MX.out.cl HX.out (dataB_size r) HI5.out HCAST.out).mono ?_
      rintro e w11 ⟨rfl, o11, A11, h11, m11⟩
      replace HX := Lib.hid h11
      replace MX := Lib.hid (MX.out.tr m11 top0)
      clear h11 m11
      go_wp2
      go_roundw
      case rel => exact ⟨r + 1, o11, A11, Lb, by omega, by go_num, HX.out, HREST.out, HN1.out, MX.out⟩
      case measure => simp [intOf]; omega
    · have e5 : decide ((r : Int) < (k : Int)) = false := decide_eq_false (by omega)
      have e5n : decide (r < k) = false := decide_eq_false hlt
      have HEQ : Hid (La = L1) := Lib.hid (by
        have := HF.out
        rw [show k - r = 0 by omega] at this
        exact Option.some.inj this)
      rw [HEQ.out] at HX HNA
      clear HF HEQ
      go_wp2_with fail
      refine (trounds_any (n := 6) MX.out.cl HX.out (by decide) HR6.out).mono ?_
      rintro e w4 ⟨rfl, o4, A4, h4, m4⟩
      have H4 := Lib.hid h4
      have M4 := Lib.hid (MX.out.tr m4 top0)
      have HN2 : Hid (L2.n = n) := Lib.hid ((roundsL_n _ _ _ HR6.out).trans HNA.out)
      clear h4 m4 HX MX HR6 HNA e5 e5n hlt hr
      go_wp2_with fail
      refine (tstep_any M4.out.cl H4.out (steps_x (i := u) (by rw [HN2.out]; exact hu5) HCR.out)).mono ?_
      rintro e w6 ⟨rfl, o6, A6, h6, m6⟩
      have H6 := Lib.hid h6
      have M6 := Lib.hid (M4.out.tr m6 top0)
      have HN3 : Hid (L3.n = n) := Lib.hid ((withL_n HCR.out).trans HN2.out)
      clear h6 m6 H4 M4 HCR HN2
      go_wp2_with fail
      refine (trounds_any (n := 2) M6.out.cl H6.out (by decide) HR2.out).mono ?_
      rintro e w7 ⟨rfl, o7, A7, h7, m7⟩
      have H7 := Lib.hid h7
      have M7 := Lib.hid (M6.out.tr m7 top0)
      have HN4 : Hid (L4.n = n) := Lib.hid ((roundsL_n _ _ _ HR2.out).trans HN3.out)
      clear h7 m7 H6 M6 HR2 HN3
      go_wp2_with fail
      refine (tstep_any M7.out.cl H7.out (steps_s (i := u) (by rw [HN4.out]; exact hu5) HST.out)).mono ?_
      rintro e w8 ⟨rfl, o8, A8, h8, m8⟩
      have H8 := Lib.hid h8
      have M8 := Lib.hid (M7.out.tr m8 top0)
      have HN5 : Hid (L5.n = n) := Lib.hid ((withS_n HST.out).trans HN4.out)
      clear h8 m8 H7 M7 HST HN4
      have t0 := H8.out.box.box.c 0 _ rfl
      have t1 := H8.out.box.box.c 1 _ rfl
      have c0 := H8.out.lv.box.box.c 0 _ rfl
      go_wp2_with fail
      refine (wnode_up (i := u) H8.out.lv.q.wr ⟨hu5.1, by rw [H8.out.lv.q.nn, HN5.out]; exact hu5.2⟩ HX5.out).mono ?_
      rintro e w9 ⟨xx, cc, AA, rfl, -, -, nd, -, -, -, rfl⟩
      have ND := Lib.hid nd
      clear nd
      go_wp2_with fail
      have KN := Lib.hid (nknows_any ND.out)
      rw [HNEW.out.1] at KN
      refine KN.out.mono ?_
      rintro e w10 ⟨rfl, rfl⟩
      clear KN
      have GD := Lib.hid (ngood_any ND.out)
      rw [HNEW.out.2.1] at GD
      go_wp2_with fail
      refine GD.out.mono ?_
      rintro e w11 ⟨rfl, x11⟩
      replace ND := Lib.hid (ND.out.ext x11)
      replace H8 := Lib.hid (H8.out.ext x11)
      replace M8 := Lib.hid (M8.out.tr (Fm.ext M8.out.cl x11) top0)
      clear x11 GD t0 t1 c0
      have TD := Lib.hid (ntold_any ND.out)
      rw [HNEW.out.2.2.1] at TD
      go_wp2_with fail
      refine TD.out.mono ?_
      rintro e w12 ⟨pt, ct, rfl, -, x12⟩
      replace ND := Lib.hid (ND.out.ext x12)
      replace H8 := Lib.hid (H8.out.ext x12)
      replace M8 := Lib.hid (M8.out.tr (Fm.ext M8.out.cl x12) top0)
      clear x12 TD
      have BT := Lib.hid (nboot_any ND.out)
      rw [HNEW.out.2.2.2] at BT
      go_wp2_with fail
      refine BT.out.mono ?_
      rintro e w13 ⟨rfl, rfl⟩
      clear BT ND HNEW HX5
      go_wp2_with fail
      refine (trounds_any (n := 80) M8.out.cl H8.out (by decide) HR80.out).mono ?_
      rintro e w14 ⟨rfl, o14, A14, h14, m14⟩
      have H14 := Lib.hid h14
      have M14 := Lib.hid (M8.out.tr m14 top0)
      have HN6 : Hid (L6.n = n) := Lib.hid ((roundsL_n _ _ _ HR80.out).trans HN5.out)
      clear h14 m14 H8 M8 HR80 HN5
      go_upto_region 21 with fail
      obtain ⟨W15, hW⟩ : ∃ W15, W15 = w14.drew := ⟨_, rfl⟩
      have X15 : Hid (Ext w14 W15) := Lib.hid (by rw [hW]; exact Ext.drew w14)
      replace H14 := Lib.hid (H14.out.ext X15.out)
      refine rg_start [0, 1, 2, 3, 4, 5, 6, 7, 8, 9, 10, 11, 12, 16, 13, 14, 15, 17, 18, 19, 20, 21, 22, 23, 24, 25, 26, 27, 30, 31, 32, 33, 34, 35, 36, 37, 28, 29, 38, 39, 40, 41, 42] (CL []) (by kernel_rfl) (by kernel_rfl) (fun _ _ d _ _ h => by cases d <;> exact h) trivial (fun _ => ?_)
      rw [← hW]
      clear hW
      repeat (first | (refine rg_quiet rfl (by rfl) (by rfl) (fun K hK => ?_); go_big_quiet_op; refine hK _ ?_; clear hK K) | (refine rg_skip rfl (by rfl) (fun K hK => ?_); go_big_quiet_op; refine hK _ ?_; clear hK K))
      have M15 := Lib.hid (M14.out.tr (Fm.ext M14.out.cl X15.out) top0)
      clear M14 X15
      have AL := Lib.hid (tall_any H14.out)
      rw [HN6.out] at AL
      have HFT := Lib.hid (fullT_is (n := n) (by omega))
      refine rg_call rfl (by rfl) (by rfl) (fun K hK => ?_)
      go_simp
      refine AL.out.mono ?_
      rintro e w16 ⟨rfl, rfl⟩
      refine hK (CL []) _ _ (fun _ h => h) trivial (fun _ => ?_)
      clear hK K AL
      repeat (first | (refine rg_quiet rfl (by rfl) (by rfl) (fun K hK => ?_); go_big_quiet_op; refine hK _ ?_; clear hK K) | (refine rg_skip rfl (by rfl) (fun K hK => ?_); go_big_quiet_op; refine hK _ ?_; clear hK K))
      refine rg_call rfl (by rfl) (by rfl) (fun K hK => ?_)
      go_simp
      refine (tone_any M15.out.cl H14.out HFT.out HO.out).mono ?_
      rintro e w17 ⟨rfl, o17, A17, L17, h17, hon, m17⟩
      have hW17 := (onceL_k _ _ _ hon).1
      have hn17 := (onceL_k _ _ _ hon).2
      clear hon
      have H17 := Lib.hid h17
      have M17 := Lib.hid (M15.out.tr m17 top0)
      have HSA7 : Hid (L17.W.sl[u - 1]? = some (.up sa)) := Lib.hid (by rw [hW17]; exact HSA.out)
      have HSB7 : Hid (L17.W.sl[d - 1]? = some (.up sb)) := Lib.hid (by rw [hW17]; exact HSB.out)
      have HNT : Hid (L17.n = n) := Lib.hid (hn17.trans HN6.out)
      have r0 := fun (qq : Wrap (CL [(⟨tb, 0, none⟩, ptrN lw), (⟨lw, 0, none⟩, ptrN A17.wb)])) => (qq.h.1 : qq.w.cell? ⟨tb, 0, none⟩ = some (ptrN lw))
      have r1 := fun (qq : Wrap (CL [(⟨tb, 0, none⟩, ptrN lw), (⟨lw, 0, none⟩, ptrN A17.wb)])) => (qq.h.2.1 : qq.w.cell? ⟨lw, 0, none⟩ = some (ptrN A17.wb))
      refine hK (CL [(⟨tb, 0, none⟩, ptrN lw), (⟨lw, 0, none⟩, ptrN A17.wb)]) _ _ (fun _ _ => trivial) ⟨h17.box.box.c 0 _ rfl, h17.lv.box.box.c 0 _ rfl, trivial⟩ (fun _ => ?_)
      clear hK K h17 m17 hW17 hn17 H14 M15 HFT HN6 HSA HSB HO
      repeat (first | (refine rg_quiet rfl (by rfl) (by rfl) (fun K hK => ?_); go_big_quiet_op; refine hK _ ?_; clear hK K) | (refine rg_skip rfl (by rfl) (fun K hK => ?_); go_big_quiet_op; refine hK _ ?_; clear hK K))
      refine rg_call rfl (by rfl) (by rfl) (fun K hK => ?_)
      go_simp
      refine (wnode_up (i := u) H17.out.lv.q.wr ⟨hu5.1, by rw [H17.out.lv.q.nn, HNT.out]; exact hu5.2⟩ HSA7.out).mono ?_
      rintro e w18 ⟨xa, ca, AA1, rfl, -, -, nda, -, -, -, rfl⟩
      have NDA := Lib.hid nda
      clear nda
      refine hK (CL [(⟨tb, 0, none⟩, ptrN lw), (⟨lw, 0, none⟩, ptrN A17.wb)]) _ _ (fun _ h => h) ⟨H17.out.box.box.c 0 _ rfl, H17.out.lv.box.box.c 0 _ rfl, trivial⟩ (fun _ => ?_)
      clear hK K
      repeat (first | (refine rg_quiet rfl (by rfl) (by rfl) (fun K hK => ?_); go_big_quiet_op; refine hK _ ?_; clear hK K) | (refine rg_skip rfl (by rfl) (fun K hK => ?_); go_big_quiet_op; refine hK _ ?_; clear hK K))
      have TA := Lib.hid (ntold_any NDA.out)
      rw [HSK.out] at TA
      refine rg_call rfl (by rfl) (by rfl) (fun K hK => ?_)
      go_simp
      refine TA.out.mono ?_
      rintro e w19 ⟨pa, cpa, rfl, owa, xa19⟩
      replace H17 := Lib.hid (H17.out.ext xa19)
      replace M17 := Lib.hid (M17.out.tr (Fm.ext M17.out.cl xa19) top0)
      refine hK (CL [(⟨tb, 0, none⟩, ptrN lw), (⟨lw, 0, none⟩, ptrN A17.wb)]) _ _ (fun _ h => h) ⟨H17.out.box.box.c 0 _ rfl, H17.out.lv.box.box.c 0 _ rfl, trivial⟩ (fun _ => ?_)
      clear hK K owa xa19 TA NDA
      have q0 : ((k : Int) == (k : Int)) = true := by simp
      repeat (first | (refine rg_quiet rfl (by rfl) (by rfl) (fun K hK => ?_); go_big_quiet_op; refine hK _ ?_; clear hK K) | (refine rg_skip rfl (by rfl) (fun K hK => ?_); go_big_quiet_op; refine hK _ ?_; clear hK K))
      refine rg_call rfl (by rfl) (by rfl) (fun K hK => ?_)
      go_simp
      refine (wnode_up (i := u) H17.out.lv.q.wr ⟨hu5.1, by rw [H17.out.lv.q.nn, HNT.out]; exact hu5.2⟩ HSA7.out).mono ?_
      rintro e w20 ⟨xb, cb, AA2, rfl, -, -, ndb, -, -, -, rfl⟩
      have NDB := Lib.hid ndb
      clear ndb
      refine hK (CL [(⟨tb, 0, none⟩, ptrN lw), (⟨lw, 0, none⟩, ptrN A17.wb)]) _ _ (fun _ h => h) ⟨H17.out.box.box.c 0 _ rfl, H17.out.lv.box.box.c 0 _ rfl, trivial⟩ (fun _ => ?_)
      clear hK K
      repeat (first | (refine rg_quiet rfl (by rfl) (by rfl) (fun K hK => ?_); go_big_quiet_op; refine hK _ ?_; clear hK K) | (refine rg_skip rfl (by rfl) (fun K hK => ?_); go_big_quiet_op; refine hK _ ?_; clear hK K))
      have TB := Lib.hid (ntold_any NDB.out)
      rw [HSK.out] at TB
      refine rg_call rfl (by rfl) (by rfl) (fun K hK => ?_)
      go_simp
      refine TB.out.mono ?_
      rintro e w21 ⟨pb, cpb, rfl, owb, xb21⟩
      have OWB := Lib.hid owb.sl
      replace H17 := Lib.hid (H17.out.ext xb21)
      replace M17 := Lib.hid (M17.out.tr (Fm.ext M17.out.cl xb21) top0)
      refine hK (CL [(⟨tb, 0, none⟩, ptrN lw), (⟨lw, 0, none⟩, ptrN A17.wb)]) _ _ (fun _ h => h) ⟨H17.out.box.box.c 0 _ rfl, H17.out.lv.box.box.c 0 _ rfl, trivial⟩ (fun _ => ?_)
      clear hK K owb xb21 TB NDB
      repeat (first | (refine rg_quiet rfl (by rfl) (by rfl) (fun K hK => ?_); go_big_quiet_op; refine hK _ ?_; clear hK K) | (refine rg_skip rfl (by rfl) (fun K hK => ?_); go_big_quiet_op; refine hK _ ?_; clear hK K))
      refine rg_call rfl (by rfl) (by rfl) (fun K hK => ?_)
      go_simp
      refine (wnode_up (i := d) H17.out.lv.q.wr ⟨hd5.1, by rw [H17.out.lv.q.nn, HNT.out]; exact hd5.2⟩ HSB7.out).mono ?_
      rintro e w22 ⟨xc, cc3, AA3, rfl, -, -, ndc, -, -, -, rfl⟩
      have NDC := Lib.hid ndc
      clear ndc
      refine hK (CL [(⟨tb, 0, none⟩, ptrN lw), (⟨lw, 0, none⟩, ptrN A17.wb)]) _ _ (fun _ h => h) ⟨H17.out.box.box.c 0 _ rfl, H17.out.lv.box.box.c 0 _ rfl, trivial⟩ (fun _ => ?_)
      clear hK K
      repeat (first | (refine rg_quiet rfl (by rfl) (by rfl) (fun K hK => ?_); go_big_quiet_op; refine hK _ ?_; clear hK K) | (refine rg_skip rfl (by rfl) (fun K hK => ?_); go_big_quiet_op; refine hK _ ?_; clear hK K))
      have TC := Lib.hid (ntold_any NDC.out)
      rw [← HSE.out, HSK.out] at TC
      refine rg_call rfl (by rfl) (by rfl) (fun K hK => ?_)
      go_simp
      refine TC.out.mono ?_
      rintro e w23 ⟨pc, cpc, rfl, owc, xc23⟩
      have OWC := Lib.hid owc.sl
      replace OWB := Lib.hid (OWB.out.ext xc23)
      replace H17 := Lib.hid (H17.out.ext xc23)
      replace M17 := Lib.hid (M17.out.tr (Fm.ext M17.out.cl xc23) top0)
      refine hK (CL [(⟨tb, 0, none⟩, ptrN lw), (⟨lw, 0, none⟩, ptrN A17.wb)]) _ _ (fun _ h => h) ⟨H17.out.box.box.c 0 _ rfl, H17.out.lv.box.box.c 0 _ rfl, trivial⟩ (fun _ => ?_)
      clear hK K owc xc23 TC NDC
      repeat (first | (refine rg_quiet rfl (by rfl) (by rfl) (fun K hK => ?_); go_big_quiet_op; refine hK _ ?_; clear hK K) | (refine rg_skip rfl (by rfl) (fun K hK => ?_); go_big_quiet_op; refine hK _ ?_; clear hK K))
      refine rg_call rfl (by rfl) (by rfl) (fun K hK => ?_)
      go_simp
      refine (eqtold_any OWB.out OWC.out).mono ?_
      rintro e w24 ⟨rfl, x24⟩
      replace H17 := Lib.hid (H17.out.ext x24)
      replace M17 := Lib.hid (M17.out.tr (Fm.ext M17.out.cl x24) top0)
      refine hK (CL [(⟨tb, 0, none⟩, ptrN lw), (⟨lw, 0, none⟩, ptrN A17.wb)]) _ _ (fun _ h => h) ⟨H17.out.box.box.c 0 _ rfl, H17.out.lv.box.box.c 0 _ rfl, trivial⟩ (fun _ => ?_)
      clear hK K x24 r0 r1
      repeat (first | (refine rg_quiet rfl (by rfl) (by rfl) (fun K hK => ?_); go_big_quiet_op; refine hK _ ?_; clear hK K) | (refine rg_skip rfl (by rfl) (fun K hK => ?_); go_big_quiet_op; refine hK _ ?_; clear hK K))
      refine rg_nil ?_
      go_wp2
      go_ret
      exact ⟨rfl, M17.out.all top0⟩
end Go.Proofs.YtjhbmbbmjaabcaaGreat
set_option linter.unusedVariables false
set_option maxRecDepth 8000
set_option maxHeartbeats 8000000

