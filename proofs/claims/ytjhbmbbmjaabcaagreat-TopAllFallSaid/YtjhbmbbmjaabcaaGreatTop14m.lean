/-
  The walk of TopAllFall. Conditions stand at each.
-/
import Derived.Test.YtjhbmbbmjaabcaaGreatAf6
namespace Go.Proofs.YtjhbmbbmjaabcaaGreat
open Go Go.Sort Go.RowKit
set_option linter.unusedVariables false

def afC (n : Nat) (L : LwD) (i : Nat) : Option LwD := stepC (1 + i % n) 1 1 (dataB i) L
def pickX (s : Int) (L : LwD) (i : Nat) : Option LwD := if hasT s (i : Int) then stepX i L else some L
def pickS (s : Int) (L : LwD) (i : Nat) : Option LwD := if hasT s (i : Int) then stepS i L else some L
def afA (n : Nat) (s : Int) (k : Nat) (L : LwD) : Option LwD := (foldO (afC n) (List.range' 0 k) L).bind fun L1 => (roundsL 6 L1).bind fun L2 => (foldO (pickX s) (List.range' 1 n) L2).bind fun L3 => (roundsL 2 L3).bind fun L4 => (foldO (pickS s) (List.range' 1 n) L4).bind (roundsL 60)
def afK (n : Nat) (s : Int) (L : LwD) (i : Nat) : Bool := match L.W.sl[i - 1]? with
  | some (.up x) => !(s == fullT n) || (!goodN x && (!x.kn && x.T.length == 0))
  | _ => false
def afE (n : Nat) (s : Int) (L : LwD) : Bool := (List.range' 1 n).all (afK n s L) && (firmOneL L && (onceL L).isSome)
def afB (n : Nat) (s : Int) (k : Nat) : Bool := match (wellL n).bind (afA n s k) with
  | some L => afE n s L
  | none => false
theorem foldX_n {s : Int} : ∀ (l : List Nat) (L L' : LwD), foldO (pickX s) l L = some L' → L'.n = L.n
  | [], L, L', h => by cases h; rfl
  | a :: l, L, L', h => by
    obtain ⟨V, h1, h2⟩ := foldO_cons h
    refine (foldX_n l V L' h2).trans ?_
    unfold pickX at h1
    split at h1
    · exact withL_n h1
    · cases h1
      rfl
theorem foldP_n {s : Int} : ∀ (l : List Nat) (L L' : LwD), foldO (pickS s) l L = some L' → L'.n = L.n
  | [], L, L', h => by cases h; rfl
  | a :: l, L, L', h => by
    obtain ⟨V, h1, h2⟩ := foldO_cons h
    refine (foldP_n l V L' h2).trans ?_
    unfold pickS at h1
    split at h1
    · exact withS_n h1
    · cases h1
      rfl
variable {w w4 : World} {o o4 : Ow} {tb lw : Nat} {A A' : LwA} {L L' : LwD}
set_option maxRecDepth 8000 in
set_option maxHeartbeats 8000000 in
theorem tallfall_any (x y z : Int) (hall : ∀ (n k : Nat) (s : Int), 3 ≤ n → n ≤ 5 → k < 4 → 0 ≤ s → s < ((2 ^ n : Nat) : Int) → mostT s (n : Int) = true → afB n s k = true) (hb : begunB = true) (w : World) :
    Calls Tryz.prog 10 #[.int .i64 x, .int .i64 y, .int .i64 z] w fun e w' => e = .returned (.bool true) ∧ Below w.heap.size w w' := by
  obtain ⟨n, hn⟩ : ∃ n : Nat, 3 + smallI x 3 = (n : Int) := ⟨(3 + smallI x 3).toNat, by have := smallI_lt (x := x) (show (0 : Int) < 3 by decide); omega⟩
  obtain ⟨k, hk⟩ : ∃ k : Nat, smallI z 4 = (k : Int) := ⟨(smallI z 4).toNat, by have := smallI_lt (x := z) (show (0 : Int) < 4 by decide); omega⟩
  have hn5 : 3 ≤ n ∧ n ≤ 5 := by have := smallI_lt (x := x) (show (0 : Int) < 3 by decide); omega
  have hk4 : k < 4 := by have := smallI_lt (x := z) (show (0 : Int) < 4 by decide); omega
  obtain ⟨-, ht1, ht2⟩ := two_n (n := n) ⟨hn5.1, by omega⟩
  obtain ⟨s0, hs0⟩ : ∃ s0 : Nat, smallI y ((2 ^ n : Nat) : Int) = (s0 : Int) := ⟨(smallI y ((2 ^ n : Nat) : Int)).toNat, by have := smallI_lt (x := y) (show (0 : Int) < ((2 ^ n : Nat) : Int) by omega); omega⟩
  have hs2 : s0 < 2 ^ n := by have := smallI_lt (x := y) (show (0 : Int) < ((2 ^ n : Nat) : Int) by omega); omega
  obtain ⟨m1, m2, m3⟩ := mostG_ok hn5 hs2
  have MS := Lib.hid (fun w => tmostf_any y n hn5 w)
  rw [hs0] at MS
  obtain ⟨s, hs⟩ : ∃ s, mostG n n (s0 : Int) 0 = s := ⟨_, rfl⟩
  rw [hs] at MS m1 m2 m3
  have hr := hall n k s hn5.1 hn5.2 hk4 m1 m2 m3
  have HST : Hid (isT s) := Lib.hid ⟨m1, by omega⟩
  unfold afB at hr
  split at hr
  case h_2 => cases hr
  rename_i Lf hLf
  obtain ⟨L0, hL0, hLA⟩ := Option.bind_eq_some_iff.1 hLf
  unfold afA at hLA
  obtain ⟨L1, hb1, hb2⟩ := Option.bind_eq_some_iff.1 hLA
  obtain ⟨L2, hb3, hb4⟩ := Option.bind_eq_some_iff.1 hb2
  obtain ⟨L3, hb5, hb6⟩ := Option.bind_eq_some_iff.1 hb4
  obtain ⟨L4, hb7, hb8⟩ := Option.bind_eq_some_iff.1 hb6
  obtain ⟨L5, hb9, hb10⟩ := Option.bind_eq_some_iff.1 hb8
  unfold afE at hr
  rw [Bool.and_eq_true, Bool.and_eq_true, Option.isSome_iff_exists] at hr
  obtain ⟨hkk, hfirm, L9, hL9⟩ := hr
  have HKK := Lib.hid hkk
  have HFI := Lib.hid hfirm
  have HL9 := Lib.hid hL9
  have HL0 := Lib.hid hL0
  have HLC := Lib.hid hb1
  have HR6 := Lib.hid hb3
  have HXS := Lib.hid hb5
  have HR2 := Lib.hid hb7
  have HSS := Lib.hid hb9
  have HR60 := Lib.hid hb10
  have BG := Lib.hid (tbegun_any (w := w) (o := fun _ => 0) (fun _ _ => rfl) hb)
  have SM3 := Lib.hid (fun w => small_any x 3 (by decide) w)
  have SM4 := Lib.hid (fun w => small_any z 4 (by decide) w)
  have hs3 := smallI_lt (x := x) (show (0 : Int) < 3 by decide)
  rw [hk] at SM4
  obtain ⟨sx, hsx⟩ : ∃ sx, sx = smallI x 3 := ⟨_, rfl⟩
  rw [← hsx] at SM3 hn hs3
  have HNX := Lib.hid hn
  clear hLf hL0 hLA hb1 hb2 hb3 hb4 hb5 hb6 hb7 hb8 hb9 hb10 hkk hfirm hL9 hall hb hk hsx hn hs hs0 hs2 m1 m2 m3 ht1 ht2
  go_enter Tryz.func10, Tryz.ntmps10
  go_wp2_with fail
  refine BG.out.mono ?_
  rintro e w1 ⟨rfl, o1, m1⟩
  have M1 := Lib.hid (m1.mono lw_top)
  clear m1 BG
  go_wp2_with fail
  refine (SM3.out _).mono ?_
  rintro e w1' ⟨rfl, rfl⟩
  go_wp2_with fail
  refine (SM4.out _).mono ?_
  rintro e w1' ⟨rfl, rfl⟩
  clear SM3 SM4
  go_upto_region 5 with fail
  rw [HNX.out]
  clear HNX hs3
  go_wp2_with fail
  refine (MS.out _).mono ?_
  rintro e w1' ⟨rfl, x1⟩
  replace M1 := Lib.hid (M1.out.tr (Fm.ext M1.out.cl x1) top0)
  clear MS x1
  go_wp2_with fail
  refine (twell_any M1.out.cl ⟨hn5.1, by omega⟩ HL0.out).mono ?_
  rintro e w2 ⟨tb, lw, o2, A2, rfl, h2, m2⟩
  have H2 := Lib.hid h2
  have M2 := Lib.hid (M1.out.tr m2 top0)
  have HN0 := Lib.hid (wellL_n HL0.out)
  clear h2 m2 M1 HL0
  go_wp2
  go_loopw [9] (fun v wx => ∃ (r : Nat) (oa : Ow) (Aa : LwA) (La : LwD), r ≤ k ∧ v = .int .i64 (r : Int) ∧ TopV wx oa tb lw Aa La ∧ foldO (afC n) (List.range' r (k - r)) La = some L1 ∧ La.n = n ∧ Fm topC (fun _ => 0) oa w wx) (fun v _ => k - (intOf v).toNat)
  case atStart => exact ⟨0, o2, A2, L0, by omega, rfl, H2.out, HLC.out, HN0.out, M2.out⟩
  case round =>
    clear H2 M2 HLC HN0
    obtain ⟨r, oa, Aa, La, hr, rfl, hv, hf, hna, ma⟩ := hrel
    have HX := Lib.hid hv
    have HF := Lib.hid hf
    have HNA := Lib.hid hna
    have MX := Lib.hid ma
    clear hv hf hna ma
    by_cases hlt : r < k
    · have e5 : decide ((r : Int) < (k : Int)) = true := decide_eq_true (by omega)
      have e5n : decide (r < k) = true := decide_eq_true hlt
      have hq := HF.out
      rw [show k - r = (k - (r + 1)) + 1 by omega, List.range'_succ] at hq
      obtain ⟨Lb, hq1, hq2⟩ := foldO_cons hq
      have HREST := Lib.hid hq2
      have HCAST := Lib.hid hq1
      clear hq hq1 hq2 HF
      go_upto_region 10 with fail
      have hq := HCAST.out
      unfold afC at hq
      have hrem : Int.tmod (r : Int) (n : Int) = ((r % n : Nat) : Int) := by rw [Int.tmod_eq_emod_of_nonneg (by omega)]; omega
      have hmod : r % n < n := Nat.mod_lt _ (by omega)
      have HI5 : Hid (1 ≤ 1 + r % n ∧ 1 + r % n ≤ La.n) := Lib.hid (by rw [HNA.out]; omega)
      have HN1 : Hid (Lb.n = n) := Lib.hid ((stepC_n hq).trans HNA.out)
      replace HCAST := Lib.hid hq
      clear hq
      obtain ⟨ii, hii⟩ : ∃ ii, r % n = ii := ⟨_, rfl⟩
      rw [hii] at hrem hmod HI5 HCAST
      have hw1 : wrap64 (1 + (ii : Int)) = ((1 + ii : Nat) : Int) := by unfold wrap64; omega
      have n0 : ¬ (n : Int) = 0 := by omega
      clear hii
      obtain ⟨W9, hW⟩ : ∃ W9, W9 = wr.drew := ⟨_, rfl⟩
      have X9 : Hid (Ext wr W9) := Lib.hid (by rw [hW]; exact Ext.drew wr)
      replace HX := Lib.hid (HX.out.ext X9.out)
      refine ra_start [0, 1, 2, 3, 4, 5, 6] [7] (by kernel_rfl) (by kernel_rfl) (fun _ _ d _ _ h => by cases d <;> exact h) ?_
      rw [← hW]
      clear hW
      repeat (first | (refine ra_quiet rfl (by rfl) (by rfl) (fun K hK => ?_); go_big_quiet_op; refine hK _ ?_; clear hK K) | (refine ra_skip rfl (by rfl) (fun K hK => ?_); go_big_quiet_op; refine hK _ ?_; clear hK K))
      refine ra_call rfl (by rfl) (by rfl) (fun K hK => ?_)
      go_simp
      refine (data_any r (by omega) _).mono ?_
      rintro e w10 ⟨rfl, x10⟩
      replace HX := Lib.hid (HX.out.ext x10)
      replace MX := Lib.hid ((MX.out.tr (Fm.ext MX.out.cl X9.out) top0).tr (Fm.ext (MX.out.cl.ext X9.out) x10) top0)
      refine hK _ _ x10 ?_
      clear hK K x10 X9
      repeat (first | (refine ra_quiet rfl (by rfl) (by rfl) (fun K hK => ?_); go_big_quiet_op; refine hK _ ?_; clear hK K) | (refine ra_skip rfl (by rfl) (fun K hK => ?_); go_big_quiet_op; refine hK _ ?_; clear hK K))
      refine ra_nil ?_
      refine rt_op rfl (by rfl) (fun K hK => ?_)
      go_simp
      refine (tcast_any MX.out.cl HX.out (dataB_size r) HI5.out HCAST.out).mono ?_
      rintro e w11 ⟨rfl, o11, A11, h11, m11⟩
      replace HX := Lib.hid h11
      replace MX := Lib.hid (MX.out.tr m11 top0)
      refine hK _ _ ?_
      clear hK K h11 m11 HCAST HNA
      refine rt_nil ?_
      go_wp2
      go_roundw
      case rel => exact ⟨r + 1, o11, A11, Lb, by omega, by go_num, HX.out, HREST.out, HN1.out, MX.out⟩
      case measure => simp [intOf]; omega
    · have e5 : decide ((r : Int) < (k : Int)) = false := decide_eq_false (by omega)
      have e5n : decide (r < k) = false := decide_eq_false hlt
      have HEQ : Hid (La = L1) := Lib.hid (by
        have := HF.out
        rw [show k - r = 0 by omega] at this
        exact Option.some.inj this)
      rw [HEQ.out] at HX HNA
      clear HF HEQ
      go_wp2_with fail
      refine (trounds_any (n := 6) MX.out.cl HX.out (by decide) HR6.out).mono ?_
      rintro e w4 ⟨rfl, o4, A4, h4, m4⟩
      have H4 := Lib.hid h4
      have M4 := Lib.hid (MX.out.tr m4 top0)
      have HN2 : Hid (L2.n = n) := Lib.hid ((roundsL_n _ _ _ HR6.out).trans HNA.out)
      clear h4 m4 HX MX HR6 HNA e5 e5n hlt hr
      go_wp2
      go_loopw [10] (fun v wx => ∃ (a : Nat) (oa : Ow) (Aa : LwA) (La : LwD), 1 ≤ a ∧ a ≤ n + 1 ∧ v = .int .i64 (a : Int) ∧ TopV wx oa tb lw Aa La ∧ foldO (pickX s) (List.range' a (n + 1 - a)) La = some L3 ∧ La.n = n ∧ Fm topC (fun _ => 0) oa w wx) (fun v _ => n + 1 - (intOf v).toNat)
      case atStart => exact ⟨1, o4, A4, L2, by omega, by omega, rfl, H4.out, by rw [Nat.add_sub_cancel]; exact HXS.out, HN2.out, M4.out⟩
      case round =>
        clear H4 M4 HXS HN2
        obtain ⟨a, ob, Ab, Lb, ha1, ha2, rfl, hv, hf, hnb, ma⟩ := hrel
        have HX := Lib.hid hv
        have HF := Lib.hid hf
        have HNA := Lib.hid hnb
        have MX := Lib.hid ma
        clear hv hf hnb ma
        by_cases hlt2 : a ≤ n
        · have e6 : decide ((a : Int) ≤ (n : Int)) = true := decide_eq_true (by omega)
          have e6n : decide (a ≤ n) = true := decide_eq_true hlt2
          have hq := HF.out
          rw [show n + 1 - a = (n + 1 - (a + 1)) + 1 by omega, List.range'_succ] at hq
          obtain ⟨Lc, ht, hrest⟩ := foldO_cons hq
          have HRB := Lib.hid hrest
          have HAI : Hid (1 ≤ a ∧ a ≤ Lb.n) := Lib.hid ⟨ha1, by rw [HNA.out]; exact hlt2⟩
          have HHS := Lib.hid (fun wy => trhas_any s (a : Int) HST.out ⟨by omega, by omega⟩ wy)
          unfold pickX at ht
          cases hh : hasT s (a : Int)
          · rw [hh] at HHS ht
            have HEB : Hid (Lb = Lc) := Lib.hid (Option.some.inj ht)
            rw [← HEB.out] at HRB
            clear hq ht hrest HF hh HEB
            go_wp2_with fail
            refine (HHS.out _).mono ?_
            rintro e w14 ⟨rfl, x14⟩
            replace HX := Lib.hid (HX.out.ext x14)
            replace MX := Lib.hid (MX.out.tr (Fm.ext MX.out.cl x14) top0)
            clear x14 HHS
            go_wp2
            go_roundw
            case rel => exact ⟨a + 1, ob, Ab, Lb, by omega, by omega, by go_num, HX.out, HRB.out, HNA.out, MX.out⟩
            case measure => simp [intOf]; omega
          · rw [hh] at HHS ht
            have HTK : Hid (stepX a Lb = some Lc) := Lib.hid ht
            have HNC : Hid (Lc.n = n) := Lib.hid ((withL_n HTK.out).trans HNA.out)
            clear hq ht hrest HF hh
            go_wp2_with fail
            refine (HHS.out _).mono ?_
            rintro e w14 ⟨rfl, x14⟩
            replace HX := Lib.hid (HX.out.ext x14)
            replace MX := Lib.hid (MX.out.tr (Fm.ext MX.out.cl x14) top0)
            clear x14 HHS
            go_wp2_with fail
            refine (tstep_any MX.out.cl HX.out (steps_x HAI.out HTK.out)).mono ?_
            rintro e w22 ⟨rfl, o22, A22, h22, m22⟩
            have H22 := Lib.hid h22
            have M22 := Lib.hid (MX.out.tr m22 top0)
            clear h22 m22
            go_wp2
            go_roundw
            case rel => exact ⟨a + 1, o22, A22, Lc, by omega, by omega, by go_num, H22.out, HRB.out, HNC.out, M22.out⟩
            case measure => simp [intOf]; omega
        · have e6 : decide ((a : Int) ≤ (n : Int)) = false := decide_eq_false (by omega)
          have e6n : decide (a ≤ n) = false := decide_eq_false hlt2
          have HEQ : Hid (Lb = L3) := Lib.hid (by
            have := HF.out
            rw [show n + 1 - a = 0 by omega] at this
            exact Option.some.inj this)
          rw [HEQ.out] at HX HNA
          clear HF HEQ hlt2 ha1 ha2
          go_wp2_with fail
          refine (trounds_any (n := 2) MX.out.cl HX.out (by decide) HR2.out).mono ?_
          rintro e w7 ⟨rfl, o7, A7, h7, m7⟩
          have H7 := Lib.hid h7
          have M7 := Lib.hid (MX.out.tr m7 top0)
          have HN4 : Hid (L4.n = n) := Lib.hid ((roundsL_n _ _ _ HR2.out).trans HNA.out)
          clear h7 m7 HX MX HR2 HNA e6 e6n
          go_wp2
          go_loopw [11] (fun v wx => ∃ (a : Nat) (oa : Ow) (Aa : LwA) (La : LwD), 1 ≤ a ∧ a ≤ n + 1 ∧ v = .int .i64 (a : Int) ∧ TopV wx oa tb lw Aa La ∧ foldO (pickS s) (List.range' a (n + 1 - a)) La = some L5 ∧ La.n = n ∧ Fm topC (fun _ => 0) oa w wx) (fun v _ => n + 1 - (intOf v).toNat)
          case atStart => exact ⟨1, o7, A7, L4, by omega, by omega, rfl, H7.out, by rw [Nat.add_sub_cancel]; exact HSS.out, HN4.out, M7.out⟩
          case round =>
            clear H7 M7 HSS HN4
            obtain ⟨a, ob, Ab, Lb, ha1, ha2, rfl, hv, hf, hnb, ma⟩ := hrel
            have HX := Lib.hid hv
            have HF := Lib.hid hf
            have HNA := Lib.hid hnb
            have MX := Lib.hid ma
            clear hv hf hnb ma
            by_cases hlt2 : a ≤ n
            · have e6 : decide ((a : Int) ≤ (n : Int)) = true := decide_eq_true (by omega)
              have e6n : decide (a ≤ n) = true := decide_eq_true hlt2
              have hq := HF.out
              rw [show n + 1 - a = (n + 1 - (a + 1)) + 1 by omega, List.range'_succ] at hq
              obtain ⟨Lc, ht, hrest⟩ := foldO_cons hq
              have HRB := Lib.hid hrest
              have HAI : Hid (1 ≤ a ∧ a ≤ Lb.n) := Lib.hid ⟨ha1, by rw [HNA.out]; exact hlt2⟩
              have HHS := Lib.hid (fun wy => trhas_any s (a : Int) HST.out ⟨by omega, by omega⟩ wy)
              unfold pickS at ht
              cases hh : hasT s (a : Int)
              · rw [hh] at HHS ht
                have HEB : Hid (Lb = Lc) := Lib.hid (Option.some.inj ht)
                rw [← HEB.out] at HRB
                clear hq ht hrest HF hh HEB
                go_wp2_with fail
                refine (HHS.out _).mono ?_
                rintro e w14 ⟨rfl, x14⟩
                replace HX := Lib.hid (HX.out.ext x14)
                replace MX := Lib.hid (MX.out.tr (Fm.ext MX.out.cl x14) top0)
                clear x14 HHS
                go_wp2
                go_roundw
                case rel => exact ⟨a + 1, ob, Ab, Lb, by omega, by omega, by go_num, HX.out, HRB.out, HNA.out, MX.out⟩
                case measure => simp [intOf]; omega
              · rw [hh] at HHS ht
                have HTK : Hid (stepS a Lb = some Lc) := Lib.hid ht
                have HNC : Hid (Lc.n = n) := Lib.hid ((withS_n HTK.out).trans HNA.out)
                clear hq ht hrest HF hh
                go_wp2_with fail
                refine (HHS.out _).mono ?_
                rintro e w14 ⟨rfl, x14⟩
                replace HX := Lib.hid (HX.out.ext x14)
                replace MX := Lib.hid (MX.out.tr (Fm.ext MX.out.cl x14) top0)
                clear x14 HHS
                go_wp2_with fail
                refine (tstep_any MX.out.cl HX.out (steps_s HAI.out HTK.out)).mono ?_
                rintro e w22 ⟨rfl, o22, A22, h22, m22⟩
                have H22 := Lib.hid h22
                have M22 := Lib.hid (MX.out.tr m22 top0)
                clear h22 m22
                go_wp2
                go_roundw
                case rel => exact ⟨a + 1, o22, A22, Lc, by omega, by omega, by go_num, H22.out, HRB.out, HNC.out, M22.out⟩
                case measure => simp [intOf]; omega
            · have e6 : decide ((a : Int) ≤ (n : Int)) = false := decide_eq_false (by omega)
              have e6n : decide (a ≤ n) = false := decide_eq_false hlt2
              have HEQ : Hid (Lb = L5) := Lib.hid (by
                have := HF.out
                rw [show n + 1 - a = 0 by omega] at this
                exact Option.some.inj this)
              rw [HEQ.out] at HX HNA
              clear HF HEQ hlt2 ha1 ha2
              go_wp2_with fail
              refine (trounds_any (n := 60) MX.out.cl HX.out (by decide) HR60.out).mono ?_
              rintro e w8 ⟨rfl, o8, A8, h8, m8⟩
              have H8 := Lib.hid h8
              have M8 := Lib.hid (MX.out.tr m8 top0)
              have HN6 : Hid (Lf.n = n) := Lib.hid ((roundsL_n _ _ _ HR60.out).trans HNA.out)
              clear h8 m8 HX MX HR60 HNA e6 e6n
              go_wp2
              go_loopw [12] (fun v wx => ∃ a : Nat, 1 ≤ a ∧ a ≤ n + 1 ∧ v = .int .i64 (a : Int) ∧ TopV wx o8 tb lw A8 Lf ∧ Fm topC (fun _ => 0) o8 w wx) (fun v _ => n + 1 - (intOf v).toNat)
              case atStart => exact ⟨1, by omega, by omega, rfl, H8.out, M8.out⟩
              case round =>
                clear H8 M8
                obtain ⟨a, ha1, ha2, rfl, hv, ma⟩ := hrel
                have HX := Lib.hid hv
                have MX := Lib.hid ma
                clear hv ma
                have t0 := HX.out.box.box.c 0 _ rfl
                have t1 := HX.out.box.box.c 1 _ rfl
                have c0 := HX.out.lv.box.box.c 0 _ rfl
                by_cases hlt : a ≤ n
                · have e6 : decide ((a : Int) ≤ (n : Int)) = true := decide_eq_true (by omega)
                  have e6n : decide (a ≤ n) = true := decide_eq_true hlt
                  have hq := List.all_eq_true.1 HKK.out a (List.mem_range'_1.2 ⟨ha1, by omega⟩)
                  unfold afK at hq
                  split at hq
                  case h_2 => cases hq
                  rename_i xn hsl
                  have HQ := Lib.hid hq
                  have HSL := Lib.hid hsl
                  have HAI : Hid (1 ≤ a ∧ a ≤ Lf.W.n) := Lib.hid ⟨ha1, by rw [HX.out.lv.q.nn, HN6.out]; exact hlt⟩
                  have AL := Lib.hid (fun (wy : World) (hy : TopV wy o8 tb lw A8 Lf) => tall_any hy)
                  rw [HN6.out] at AL
                  obtain ⟨ft, hft⟩ : ∃ ft, fullT n = ft := ⟨_, rfl⟩
                  rw [hft] at HQ AL
                  clear hq hsl hft
                  go_wp2_with fail
                  refine (wnode_up HX.out.lv.q.wr HAI.out HSL.out).mono ?_
                  rintro e w9 ⟨xx, cc, AA, rfl, -, -, nd, -, -, -, rfl⟩
                  have ND := Lib.hid nd
                  clear nd
                  have GD := Lib.hid (ngood_any ND.out)
                  by_cases hsf : s = ft
                  · have hq := HQ.out
                    have e9 : (s == ft) = true := by simpa using hsf
                    rw [e9] at hq
                    simp only [Bool.not_true, Bool.false_or, Bool.and_eq_true, Bool.not_eq_true', beq_iff_eq] at hq
                    have HQ2 := Lib.hid hq
                    rw [hq.1] at GD
                    clear hq hsf HQ
                    go_wp2_with fail
                    refine GD.out.mono ?_
                    rintro e w10 ⟨rfl, x10⟩
                    replace HX := Lib.hid (HX.out.ext x10)
                    replace ND := Lib.hid (ND.out.ext x10)
                    replace MX := Lib.hid (MX.out.tr (Fm.ext MX.out.cl x10) top0)
                    clear x10 GD t0 t1 c0
                    go_wp2_with fail
                    refine (AL.out _ HX.out).mono ?_
                    rintro e w11 ⟨rfl, rfl⟩
                    have KN := Lib.hid (nknows_any ND.out)
                    rw [HQ2.out.2.1] at KN
                    go_wp2_with fail
                    refine KN.out.mono ?_
                    rintro e w12 ⟨rfl, rfl⟩
                    clear KN
                    have TD := Lib.hid (ntold_any ND.out)
                    rw [HQ2.out.2.2] at TD
                    go_wp2_with fail
                    refine TD.out.mono ?_
                    rintro e w13 ⟨pt, ct, rfl, -, x13⟩
                    replace HX := Lib.hid (HX.out.ext x13)
                    replace MX := Lib.hid (MX.out.tr (Fm.ext MX.out.cl x13) top0)
                    clear x13 TD
                    go_wp2
                    go_roundw
                    case rel => exact ⟨a + 1, by omega, by omega, by go_num, HX.out, MX.out⟩
                    case measure => simp [intOf]; omega
                  · have e9 : (s == ft) = false := by simpa using hsf
                    clear hsf HQ
                    have HHS := Lib.hid (fun wy => trhas_any s (a : Int) HST.out ⟨by omega, by omega⟩ wy)
                    cases hg : goodN xn
                    · rw [hg] at GD
                      clear hg
                      go_wp2_with fail
                      refine GD.out.mono ?_
                      rintro e w10 ⟨rfl, x10⟩
                      replace HX := Lib.hid (HX.out.ext x10)
                      replace MX := Lib.hid (MX.out.tr (Fm.ext MX.out.cl x10) top0)
                      clear x10 GD t0 t1 c0
                      go_wp2_with fail
                      refine (AL.out _ HX.out).mono ?_
                      rintro e w11 ⟨rfl, rfl⟩
                      go_wp2
                      go_roundw
                      case rel => exact ⟨a + 1, by omega, by omega, by go_num, HX.out, MX.out⟩
                      case measure => simp [intOf]; omega
                    · rw [hg] at GD
                      clear hg
                      go_wp2_with fail
                      refine GD.out.mono ?_
                      rintro e w10 ⟨rfl, x10⟩
                      replace HX := Lib.hid (HX.out.ext x10)
                      replace MX := Lib.hid (MX.out.tr (Fm.ext MX.out.cl x10) top0)
                      clear x10 GD t0 t1 c0
                      cases hh : hasT s (a : Int)
                      · rw [hh] at HHS
                        clear hh
                        go_wp2_with fail
                        refine (HHS.out _).mono ?_
                        rintro e w14 ⟨rfl, x14⟩
                        replace HX := Lib.hid (HX.out.ext x14)
                        replace MX := Lib.hid (MX.out.tr (Fm.ext MX.out.cl x14) top0)
                        clear x14 HHS
                        go_wp2_with fail
                        refine (AL.out _ HX.out).mono ?_
                        rintro e w11 ⟨rfl, rfl⟩
                        go_wp2
                        go_roundw
                        case rel => exact ⟨a + 1, by omega, by omega, by go_num, HX.out, MX.out⟩
                        case measure => simp [intOf]; omega
                      · rw [hh] at HHS
                        clear hh
                        go_wp2_with fail
                        refine (HHS.out _).mono ?_
                        rintro e w14 ⟨rfl, x14⟩
                        replace HX := Lib.hid (HX.out.ext x14)
                        replace MX := Lib.hid (MX.out.tr (Fm.ext MX.out.cl x14) top0)
                        clear x14 HHS
                        go_wp2_with fail
                        refine (AL.out _ HX.out).mono ?_
                        rintro e w15 ⟨rfl, rfl⟩
                        go_wp2_with fail
                        refine (AL.out _ HX.out).mono ?_
                        rintro e w11 ⟨rfl, rfl⟩
                        go_wp2
                        go_roundw
                        case rel => exact ⟨a + 1, by omega, by omega, by go_num, HX.out, MX.out⟩
                        case measure => simp [intOf]; omega
                · have e6 : decide ((a : Int) ≤ (n : Int)) = false := decide_eq_false (by omega)
                  have e6n : decide (a ≤ n) = false := decide_eq_false hlt
                  go_wp2_with fail
                  refine (lone_any HX.out.lv HFI.out).mono ?_
                  rintro e w11 ⟨rfl, x11⟩
                  replace HX := Lib.hid (HX.out.ext x11)
                  replace MX := Lib.hid (MX.out.tr (Fm.ext MX.out.cl x11) top0)
                  clear x11 t0 t1 c0
                  have t0 := HX.out.box.box.c 0 _ rfl
                  go_wp2_with fail
                  refine (lonce_any MX.out.cl HX.out.lv HL9.out).mono ?_
                  rintro e w12 ⟨rfl, o12, A12, h12, m12⟩
                  have M12 := Lib.hid (MX.out.tr (m12.mono lw_top) top0)
                  clear h12 m12
                  go_wp2
                  go_ret
                  exact ⟨rfl, M12.out.all top0⟩
end Go.Proofs.YtjhbmbbmjaabcaaGreat
set_option linter.unusedVariables false
set_option maxRecDepth 8000
set_option maxHeartbeats 8000000

