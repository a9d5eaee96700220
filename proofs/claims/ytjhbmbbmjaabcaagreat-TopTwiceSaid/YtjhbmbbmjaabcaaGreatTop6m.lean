/-
  TopTwice. Conditions stand at each.
-/
import Derived.Test.YtjhbmbbmjaabcaaGreatB6
namespace Go.Proofs.YtjhbmbbmjaabcaaGreat
open Go Go.Sort Go.RowKit
set_option linter.unusedVariables false

def twiC (n lv : Nat) (L : LwD) (i : Nat) : Option LwD := stepC (1 + i % n) 0 (lv : Int) (dataB i) L
def twiA (L : LwD) : Option LwD := if decide (L.W.ns.length < 100) then stepA 0 L else some L
def twiM : Nat → LwD → Option LwD
  | 0, L => some L
  | k + 1, L => match L.W.ns with
    | [] => some L
    | _ :: _ => (twiA L).bind fun L1 => (stepM false 0 L1).bind (twiM k)
def twiS (n : Nat) (L : LwD) (r : Nat) : Option LwD := (stepR L).bind fun L2 => (foldO tickT (List.range' 1 n) L2).bind (twiM 200)
def twiL (n k lv : Nat) : Option LwD := (wellL n).bind fun L => (foldO (twiC n lv) (List.range' 0 k) L).bind (foldO (twiS n) (List.range' 0 6))
def twiB (n k lv : Nat) : Bool := match twiL n k lv with
  | some L => tellB n k L && oneT (fullT L.n) L
  | none => false
theorem twiM_n : ∀ (k : Nat) (L L' : LwD), twiM k L = some L' → L'.n = L.n
  | 0, L, L', h => by cases h; rfl
  | k + 1, L, L', h => by
    unfold twiM at h
    split at h
    · cases h
      rfl
    · obtain ⟨V, h1, h2⟩ := Option.bind_eq_some_iff.1 h
      obtain ⟨U, h3, h4⟩ := Option.bind_eq_some_iff.1 h2
      refine (twiM_n k U L' h4).trans ((stepM_n h3).trans ?_)
      unfold twiA at h1
      split at h1
      · exact withL_n h1
      · cases h1
        rfl
variable {w w4 : World} {o o4 : Ow} {tb lw : Nat} {A A' : LwA} {L L' : LwD}
set_option maxRecDepth 8000 in
set_option maxHeartbeats 4000000 in
theorem ttwi_any (x y z : Int) (hall : ∀ n k lv : Nat, 3 ≤ n → n ≤ 5 → k < 4 → lv < 3 → twiB n k lv = true) (hb : begunB = true) (w : World) :
    Calls Tryz.prog 8 #[.int .i64 x, .int .i64 y, .int .i64 z] w fun e w' => e = .returned (.bool true) ∧ Below w.heap.size w w' := by
  obtain ⟨n, hn⟩ : ∃ n : Nat, 3 + smallI x 3 = (n : Int) := ⟨(3 + smallI x 3).toNat, by have := smallI_lt (x := x) (show (0 : Int) < 3 by decide); omega⟩
  obtain ⟨k, hk⟩ : ∃ k : Nat, smallI y 4 = (k : Int) := ⟨(smallI y 4).toNat, by have := smallI_lt (x := y) (show (0 : Int) < 4 by decide); omega⟩
  obtain ⟨lv, hlv⟩ : ∃ lv : Nat, smallI z 3 = (lv : Int) := ⟨(smallI z 3).toNat, by have := smallI_lt (x := z) (show (0 : Int) < 3 by decide); omega⟩
  have hn5 : 3 ≤ n ∧ n ≤ 5 := by have := smallI_lt (x := x) (show (0 : Int) < 3 by decide); omega
  have hk4 : k < 4 := by have := smallI_lt (x := y) (show (0 : Int) < 4 by decide); omega
  have hl3 : lv < 3 := by have := smallI_lt (x := z) (show (0 : Int) < 3 by decide); omega
  have hr := hall n k lv hn5.1 hn5.2 hk4 hl3
  unfold twiB at hr
  split at hr
  case h_2 => cases hr
  rename_i Lf hLf
  unfold twiL at hLf
  obtain ⟨L0, hL0, hLf2⟩ := Option.bind_eq_some_iff.1 hLf
  obtain ⟨Lc, hLc, hLf3⟩ := Option.bind_eq_some_iff.1 hLf2
  rw [Bool.and_eq_true] at hr
  have HT := Lib.hid hr.1
  have HO := Lib.hid hr.2
  have HL0 := Lib.hid hL0
  have HLC := Lib.hid hLc
  have HLF := Lib.hid hLf3
  have BG := Lib.hid (tbegun_any (w := w) (o := fun _ => 0) (fun _ _ => rfl) hb)
  have SM3 := Lib.hid (fun w => small_any x 3 (by decide) w)
  have SM4 := Lib.hid (fun w => small_any y 4 (by decide) w)
  have SM5 := Lib.hid (fun w => small_any z 3 (by decide) w)
  have hs3 := smallI_lt (x := x) (show (0 : Int) < 3 by decide)
  rw [hk] at SM4
  rw [hlv] at SM5
  obtain ⟨sx, hsx⟩ : ∃ sx, sx = smallI x 3 := ⟨_, rfl⟩
  rw [← hsx] at SM3 hn hs3
  have hw3 : wrap64 (3 + sx) = 3 + sx := by unfold wrap64; omega
  have HNX := Lib.hid hn
  clear hr hLf hL0 hLf2 hLf3 hLc hall hb hk hsx hn hlv
  go_enter Tryz.func8, Tryz.ntmps8
  go_wp2_with fail
  refine BG.out.mono ?_
  rintro e w1 ⟨rfl, o1, m1⟩
  have M1 := Lib.hid (m1.mono lw_top)
  clear m1 BG
  go_wp2_with fail
  refine (SM3.out _).mono ?_
  rintro e w1' ⟨rfl, rfl⟩
  go_wp2_with fail
  refine (SM4.out _).mono ?_
  rintro e w1' ⟨rfl, rfl⟩
  go_wp2_with fail
  refine (SM5.out _).mono ?_
  rintro e w1' ⟨rfl, rfl⟩
  clear SM3 SM4 SM5
  go_upto_region 5 with fail
  rw [HNX.out]
  clear hw3 HNX hs3
  go_wp2_with fail
  refine (twell_any M1.out.cl ⟨hn5.1, by omega⟩ HL0.out).mono ?_
  rintro e w2 ⟨tb, lw, o2, A2, rfl, h2, m2⟩
  have H2 := Lib.hid h2
  have M2 := Lib.hid (M1.out.tr m2 top0)
  have HN0 := Lib.hid (wellL_n HL0.out)
  clear h2 m2 M1 HL0
  go_wp2
  go_loopw [9] (fun v wx => ∃ (r : Nat) (oa : Ow) (Aa : LwA) (La : LwD), r ≤ k ∧ v = .int .i64 (r : Int) ∧ TopV wx oa tb lw Aa La ∧ foldO (twiC n lv) (List.range' r (k - r)) La = some Lc ∧ La.n = n ∧ Fm topC (fun _ => 0) oa w wx) (fun v _ => k - (intOf v).toNat)
  case atStart => exact ⟨0, o2, A2, L0, by omega, rfl, H2.out, HLC.out, HN0.out, M2.out⟩
  case round =>
    clear H2 M2 HLC HN0
    obtain ⟨r, oa, Aa, La, hr, rfl, hv, hf, hna, ma⟩ := hrel
    have HX := Lib.hid hv
    have HF := Lib.hid hf
    have HNA := Lib.hid hna
    have MX := Lib.hid ma
    clear hv hf hna ma
    by_cases hlt : r < k
    · have e5 : decide ((r : Int) < (k : Int)) = true := decide_eq_true (by omega)
      have e5n : decide (r < k) = true := decide_eq_true hlt
      have hq := HF.out
      rw [show k - r = (k - (r + 1)) + 1 by omega, List.range'_succ] at hq
      obtain ⟨L1, hq1, hq2⟩ := foldO_cons hq
      have HREST := Lib.hid hq2
      have HCAST := Lib.hid hq1
      clear hq hq1 hq2 HF
      go_upto_region 9 with fail
      have hq := HCAST.out
      unfold twiC at hq
      have hrem : Int.tmod (r : Int) (n : Int) = ((r % n : Nat) : Int) := by rw [Int.tmod_eq_emod_of_nonneg (by omega)]; omega
      have hmod : r % n < n := Nat.mod_lt _ (by omega)
      have HI5 : Hid (1 ≤ 1 + r % n ∧ 1 + r % n ≤ La.n) := Lib.hid (by rw [HNA.out]; omega)
      have HN1 : Hid (L1.n = n) := Lib.hid ((stepC_n hq).trans HNA.out)
      replace HCAST := Lib.hid hq
      clear hq
      obtain ⟨ii, hii⟩ : ∃ ii, r % n = ii := ⟨_, rfl⟩
      rw [hii] at hrem hmod HI5 HCAST
      have hw1 : wrap64 (1 + (ii : Int)) = ((1 + ii : Nat) : Int) := by unfold wrap64; omega
      have n0 : ¬ (n : Int) = 0 := by omega
      clear hii
      obtain ⟨W9, hW⟩ : ∃ W9, W9 = wr.drew := ⟨_, rfl⟩
      have X9 : Hid (Ext wr W9) := Lib.hid (by rw [hW]; exact Ext.drew wr)
      replace HX := Lib.hid (HX.out.ext X9.out)
      refine ra_start [0, 1, 2, 3, 4, 5, 6, 7] [8, 9] (by kernel_rfl) (by kernel_rfl) (fun _ _ d _ _ h => by cases d <;> exact h) ?_
      rw [← hW]
      clear hW
      repeat (first | (refine ra_quiet rfl (by rfl) (by rfl) (fun K hK => ?_); go_big_quiet_op; refine hK _ ?_; clear hK K) | (refine ra_skip rfl (by rfl) (fun K hK => ?_); go_big_quiet_op; refine hK _ ?_; clear hK K))
      refine ra_call rfl (by rfl) (by rfl) (fun K hK => ?_)
      go_simp
      refine (data_any r (by omega) _).mono ?_
      rintro e w10 ⟨rfl, x10⟩
      replace HX := Lib.hid (HX.out.ext x10)
      replace MX := Lib.hid ((MX.out.tr (Fm.ext MX.out.cl X9.out) top0).tr (Fm.ext (MX.out.cl.ext X9.out) x10) top0)
      refine hK _ _ x10 ?_
      clear hK K x10 X9
      repeat (first | (refine ra_quiet rfl (by rfl) (by rfl) (fun K hK => ?_); go_big_quiet_op; refine hK _ ?_; clear hK K) | (refine ra_skip rfl (by rfl) (fun K hK => ?_); go_big_quiet_op; refine hK _ ?_; clear hK K))
      refine ra_nil ?_
      refine rt_op rfl (by rfl) (fun K hK => ?_)
      go_simp
      refine (tcast_any MX.out.cl HX.out (dataB_size r) HI5.out HCAST.out).mono ?_
      rintro e w11 ⟨rfl, o11, A11, h11, m11⟩
      replace HX := Lib.hid h11
      replace MX := Lib.hid (MX.out.tr m11 top0)
      refine hK _ _ ?_
      clear hK K h11 m11 HCAST HNA
      refine rt_op rfl (by rfl) (fun K hK => ?_)
      go_simp
      refine hK _ _ ?_
      clear hK K
      refine rt_nil ?_
      go_wp2
      go_roundw
      case rel => exact ⟨r + 1, o11, A11, L1, by omega, by go_num, HX.out, HREST.out, HN1.out, MX.out⟩
      case measure => simp [intOf]; omega
    · have e5 : decide ((r : Int) < (k : Int)) = false := decide_eq_false (by omega)
      have e5n : decide (r < k) = false := decide_eq_false hlt
      have HEQ : Hid (La = Lc) := Lib.hid (by
        have := HF.out
        rw [show k - r = 0 by omega] at this
        exact Option.some.inj this)
      rw [HEQ.out] at HX HNA
      clear HF HEQ
      go_wp2
      go_loopw [10] (fun v wx => ∃ (r : Nat) (oa : Ow) (Aa : LwA) (La : LwD), r ≤ 6 ∧ v = .int .i64 (r : Int) ∧ TopV wx oa tb lw Aa La ∧ foldO (twiS n) (List.range' r (6 - r)) La = some Lf ∧ La.n = n ∧ Fm topC (fun _ => 0) oa w wx) (fun v _ => 6 - (intOf v).toNat)
      case atStart => exact ⟨0, oa, Aa, Lc, by omega, rfl, HX.out, HLF.out, HNA.out, MX.out⟩
      case round =>
        clear HX MX HLF HNA e5 e5n
        obtain ⟨r, oa, Aa, La, hr, rfl, hv, hf, hna, ma⟩ := hrel
        have HX := Lib.hid hv
        have HF := Lib.hid hf
        have HNA := Lib.hid hna
        have MX := Lib.hid ma
        clear hv hf hna ma
        have t1 := HX.out.box.box.c 1 _ rfl
        by_cases hlt : r < 6
        · have e5 : decide ((r : Int) < 6) = true := decide_eq_true (by omega)
          have e5n : decide (r < 6) = true := decide_eq_true hlt
          have hq := HF.out
          rw [show 6 - r = (6 - (r + 1)) + 1 by omega, List.range'_succ] at hq
          obtain ⟨Lr, hq1, hq2⟩ := foldO_cons hq
          unfold twiS at hq1
          obtain ⟨L2, hq5, hq6⟩ := Option.bind_eq_some_iff.1 hq1
          obtain ⟨Lt, hq7, hq8⟩ := Option.bind_eq_some_iff.1 hq6
          have HREST := Lib.hid hq2
          have HREAL := Lib.hid hq5
          have HTICK := Lib.hid hq7
          have HMAIL := Lib.hid hq8
          have HN1 := HNA
          clear hq hq1 hq2 hq5 hq6 hq7 hq8 HF HNA
          go_wp2_with fail
          refine (tstep_any MX.out.cl HX.out (steps_r HREAL.out)).mono ?_
          rintro e w21 ⟨rfl, o21, A21, h21, m21⟩
          have H21 := Lib.hid h21
          have M21 := Lib.hid (MX.out.tr m21 top0)
          have HN2 : Hid (L2.n = n) := Lib.hid ((stepR_n HREAL.out).trans HN1.out)
          have HNR : Hid (Lr.n = n) := Lib.hid (((twiM_n _ _ _ HMAIL.out).trans (foldT_n _ _ _ HTICK.out)).trans HN2.out)
          clear h21 m21 HX MX HREAL
          go_wp2
          go_loopw [11] (fun v wx => ∃ (a : Nat) (oa : Ow) (Aa : LwA) (La : LwD), 1 ≤ a ∧ a ≤ n + 1 ∧ v = .int .i64 (a : Int) ∧ TopV wx oa tb lw Aa La ∧ foldO tickT (List.range' a (n + 1 - a)) La = some Lt ∧ La.n = n ∧ Fm topC (fun _ => 0) oa w wx) (fun v _ => n + 1 - (intOf v).toNat)
          case atStart => exact ⟨1, o21, A21, L2, by omega, by omega, rfl, H21.out, by rw [Nat.add_sub_cancel]; exact HTICK.out, HN2.out, M21.out⟩
          case round =>
            clear H21 M21 HTICK HN2
            obtain ⟨a, ob, Ab, Lb, ha1, ha2, rfl, hv, hf, hnb, ma⟩ := hrel
            have HX := Lib.hid hv
            have HF := Lib.hid hf
            have HNB := Lib.hid hnb
            have MX := Lib.hid ma
            clear hv hf hnb ma
            by_cases hlt2 : a ≤ n
            · have e6 : decide ((a : Int) ≤ (n : Int)) = true := decide_eq_true (by omega)
              have e6n : decide (a ≤ n) = true := decide_eq_true hlt2
              have hq := HF.out
              rw [show n + 1 - a = (n + 1 - (a + 1)) + 1 by omega, List.range'_succ] at hq
              obtain ⟨Lc, ht, hrest⟩ := foldO_cons hq
              have HTK := Lib.hid ht
              have HRB := Lib.hid hrest
              have HAI : Hid (1 ≤ a ∧ a ≤ Lb.n) := Lib.hid ⟨ha1, by rw [HNB.out]; exact hlt2⟩
              have HNC : Hid (Lc.n = n) := Lib.hid ((stepT_n ht).trans HNB.out)
              clear hq ht hrest HF
              go_wp2_with fail
              refine (tstep_any MX.out.cl HX.out (steps_t HAI.out HTK.out)).mono ?_
              rintro e w22 ⟨rfl, o22, A22, h22, m22⟩
              have H22 := Lib.hid h22
              have M22 := Lib.hid (MX.out.tr m22 top0)
              clear h22 m22
              go_wp2
              go_roundw
              case rel => exact ⟨a + 1, o22, A22, Lc, by omega, by omega, by go_num, H22.out, HRB.out, HNC.out, M22.out⟩
              case measure => simp [intOf]; omega
            · have e6 : decide ((a : Int) ≤ (n : Int)) = false := decide_eq_false (by omega)
              have e6n : decide (a ≤ n) = false := decide_eq_false hlt2
              have HEQ : Hid (Lb = Lt) := Lib.hid (by
                have := HF.out
                rw [show n + 1 - a = 0 by omega] at this
                exact Option.some.inj this)
              rw [HEQ.out] at HX
              clear HF HNB hlt2 ha1 ha2
              go_wp2
              go_loopw [12] (fun v wx => ∃ (j : Nat) (oa : Ow) (Aa : LwA) (La : LwD), j ≤ 200 ∧ v = .int .i64 (j : Int) ∧ TopV wx oa tb lw Aa La ∧ twiM (200 - j) La = some Lr ∧ Fm topC (fun _ => 0) oa w wx) (fun v _ => 200 - (intOf v).toNat)
              case atStart => exact ⟨0, _, _, _, by omega, rfl, HX.out, HMAIL.out, MX.out⟩
              case round =>
                clear HX MX HMAIL e6 e6n
                obtain ⟨j, oc, Ac, Lc, hj, rfl, hv, hf, ma⟩ := hrel
                have HX := Lib.hid hv
                have HF := Lib.hid hf
                have MX := Lib.hid ma
                clear hv hf ma
                have t0 := HX.out.box.box.c 0 _ rfl
                have c0 := HX.out.lv.box.box.c 0 _ rfl
                by_cases hlt3 : j < 200
                · have e6 : decide ((j : Int) < 200) = true := decide_eq_true (by omega)
                  have e6n : decide (j < 200) = true := decide_eq_true hlt3
                  have hq := HF.out
                  rw [show 200 - j = (200 - (j + 1)) + 1 by omega] at hq
                  unfold twiM at hq
                  go_wp2_with fail
                  refine (wnet_any HX.out.lv.q.wr).mono ?_
                  rintro e w5 ⟨rfl, rfl⟩
                  go_wp2_with fail
                  refine (wlen_any HX.out.lv.q.wr.net).mono ?_
                  rintro e w5 ⟨rfl, rfl⟩
                  split at hq
                  · rename_i hns
                    have HEQ2 := Lib.hid (Option.some.inj hq)
                    have HNS := Lib.hid hns
                    have e7 : decide ((0 : Int) < (Lc.W.ns.length : Int)) = false := decide_eq_false (by rw [HNS.out]; simp)
                    have e7n : decide (0 < Lc.W.ns.length) = false := decide_eq_false (by rw [HNS.out]; simp)
                    have HX2 := HX
                    rw [HEQ2.out] at HX2
                    clear hq hns HF
                    go_wp2
                    go_roundw
                    case rel => exact ⟨r + 1, oc, Ac, Lr, by omega, by go_num, HX2.out, HREST.out, HNR.out, MX.out⟩
                    case measure => simp [intOf]; omega
                  · rename_i y ys hns
                    obtain ⟨Le, hb0, hb3⟩ := Option.bind_eq_some_iff.1 hq
                    obtain ⟨Ld, hb1, hb2⟩ := Option.bind_eq_some_iff.1 hb3
                    have HB1 := Lib.hid hb1
                    have HB2 := Lib.hid hb2
                    have HB0 := Lib.hid hb0
                    have HNS := Lib.hid hns
                    have e7 : decide ((0 : Int) < (Lc.W.ns.length : Int)) = true := decide_eq_true (by rw [HNS.out]; simp only [List.length_cons]; omega)
                    have e7n : decide (0 < Lc.W.ns.length) = true := decide_eq_true (by rw [HNS.out]; simp)
                    clear hq hb0 hb1 hb2 hb3 hns HF
                    go_wp2_with fail
                    refine (wnet_any HX.out.lv.q.wr).mono ?_
                    rintro e w5 ⟨rfl, rfl⟩
                    go_wp2_with fail
                    refine (wlen_any HX.out.lv.q.wr.net).mono ?_
                    rintro e w5 ⟨rfl, rfl⟩
                    have hb0 := HB0.out
                    unfold twiA at hb0
                    by_cases hl100 : Lc.W.ns.length < 100
                    · have e8 : decide ((Lc.W.ns.length : Int) < 100) = true := decide_eq_true (by omega)
                      have e8n : decide (Lc.W.ns.length < 100) = true := decide_eq_true hl100
                      rw [if_pos e8n] at hb0
                      replace HB0 := Lib.hid hb0
                      clear hb0
                      go_wp2_with fail
                      refine (tstep_any MX.out.cl HX.out (steps_a HB0.out)).mono ?_
                      rintro e w6 ⟨rfl, o6, A6, h6, m6⟩
                      have H6 := Lib.hid h6
                      have M6 := Lib.hid (MX.out.tr m6 top0)
                      clear h6 m6
                      go_wp2_with fail
                      refine (tstep_any M6.out.cl H6.out (steps_m HB1.out)).mono ?_
                      rintro e w7 ⟨rfl, o7, A7, h7, m7⟩
                      have H7 := Lib.hid h7
                      have M7 := Lib.hid (M6.out.tr m7 top0)
                      clear h7 m7
                      go_wp2
                      go_roundw
                      case rel => exact ⟨j + 1, o7, A7, Ld, by omega, by go_num, H7.out, HB2.out, M7.out⟩
                      case measure => simp [intOf]; omega
                    · have e8 : decide ((Lc.W.ns.length : Int) < 100) = false := decide_eq_false (by omega)
                      have e8n : decide (Lc.W.ns.length < 100) = false := decide_eq_false hl100
                      rw [if_neg (by rw [e8n]; simp)] at hb0
                      have HEQ3 := Lib.hid (Option.some.inj hb0)
                      clear hb0
                      have HX2 := HX
                      rw [HEQ3.out] at HX2
                      go_wp2_with fail
                      refine (tstep_any MX.out.cl HX2.out (steps_m HB1.out)).mono ?_
                      rintro e w7 ⟨rfl, o7, A7, h7, m7⟩
                      have H7 := Lib.hid h7
                      have M7 := Lib.hid (MX.out.tr m7 top0)
                      clear h7 m7
                      go_wp2
                      go_roundw
                      case rel => exact ⟨j + 1, o7, A7, Ld, by omega, by go_num, H7.out, HB2.out, M7.out⟩
                      case measure => simp [intOf]; omega
                · have e6 : decide ((j : Int) < 200) = false := decide_eq_false (by omega)
                  have e6n : decide (j < 200) = false := decide_eq_false hlt3
                  have HEQ2 : Hid (Lc = Lr) := Lib.hid (by
                    have := HF.out
                    rw [show 200 - j = 0 by omega] at this
                    exact Option.some.inj this)
                  rw [HEQ2.out] at HX
                  go_wp2
                  go_roundw
                  case rel => exact ⟨r + 1, oc, Ac, Lr, by omega, by go_num, HX.out, HREST.out, HNR.out, MX.out⟩
                  case measure => simp [intOf]; omega
        · have e5 : decide ((r : Int) < 6) = false := decide_eq_false (by omega)
          have e5n : decide (r < 6) = false := decide_eq_false hlt
          have HEQ : Hid (La = Lf) := Lib.hid (by
            have := HF.out
            rw [show 6 - r = 0 by omega] at this
            exact Option.some.inj this)
          rw [HEQ.out] at HX HNA
          clear hlt hr HF t1
          go_wp2
          go_loopw [13] (fun v wx => ∃ (a : Nat), 1 ≤ a ∧ a ≤ n + 1 ∧ v = .int .i64 (a : Int) ∧ TopV wx oa tb lw Aa Lf ∧ Fm topC (fun _ => 0) oa w wx) (fun v _ => n + 1 - (intOf v).toNat)
          case atStart => exact ⟨1, by omega, by omega, rfl, HX.out, MX.out⟩
          case round =>
            clear HX MX
            obtain ⟨a, ha1, ha2, rfl, hv, ma⟩ := hrel
            have HX := Lib.hid hv
            have MX := Lib.hid ma
            clear hv ma
            have t0 := HX.out.box.box.c 0 _ rfl
            have t1 := HX.out.box.box.c 1 _ rfl
            have c0 := HX.out.lv.box.box.c 0 _ rfl
            by_cases hlt : a ≤ n
            · have e6 : decide ((a : Int) ≤ (n : Int)) = true := decide_eq_true (by omega)
              have e6n : decide (a ≤ n) = true := decide_eq_true hlt
              have hq := List.all_eq_true.1 HT.out a (List.mem_range'_1.2 ⟨ha1, by omega⟩)
              unfold toldB at hq
              split at hq
              case h_2 => cases hq
              rename_i s hsl
              have HLEN : Hid (s.T.length = k) := Lib.hid (by simpa using hq)
              have HSL := Lib.hid hsl
              have HAI : Hid (1 ≤ a ∧ a ≤ Lf.W.n) := Lib.hid ⟨ha1, by rw [HX.out.lv.q.nn, HNA.out]; exact hlt⟩
              have q0 : ((k : Int) != (k : Int)) = false := by simp
              clear hq hsl
              go_wp2_with fail
              refine (wnode_up HX.out.lv.q.wr HAI.out HSL.out).mono ?_
              rintro e w9 ⟨xx, cc, AA, rfl, -, -, nd, -, -, -, rfl⟩
              have TT := Lib.hid (ntold_any nd)
              rw [HLEN.out] at TT
              clear nd
              go_wp2_with fail
              refine TT.out.mono ?_
              rintro e w10 ⟨pt, ct, rfl, -, x10⟩
              have H10 := Lib.hid (HX.out.ext x10)
              have M10 := Lib.hid (MX.out.tr (Fm.ext MX.out.cl x10) top0)
              clear x10 TT
              go_wp2
              go_roundw
              case rel => exact ⟨a + 1, by omega, by omega, by go_num, H10.out, M10.out⟩
              case measure => simp [intOf]; omega
            · have e6 : decide ((a : Int) ≤ (n : Int)) = false := decide_eq_false (by omega)
              have e6n : decide (a ≤ n) = false := decide_eq_false hlt
              go_wp2_with fail
              refine (tall_any HX.out).mono ?_
              rintro e w9 ⟨rfl, rfl⟩
              go_wp2_with fail
              refine (tone_any MX.out.cl HX.out (fullT_is HX.out.lv.n7.2) HO.out).mono ?_
              rintro e w10 ⟨rfl, o10, A10, L10, -, -, -, m10⟩
              have M10 := Lib.hid (MX.out.tr m10 top0)
              clear m10
              go_wp2
              go_ret
              exact ⟨rfl, M10.out.all top0⟩
end Go.Proofs.YtjhbmbbmjaabcaaGreat
set_option linter.unusedVariables false
set_option maxRecDepth 8000
set_option maxHeartbeats 8000000

