/-
  TopDecider. Conditions stand at each.
-/
import Derived.Test.YtjhbmbbmjaabcaaGreatB7
namespace Go.Proofs.YtjhbmbbmjaabcaaGreat
open Go Go.Sort Go.RowKit
set_option linter.unusedVariables false

def lostB : ByteArray := ⟨#[108, 111, 115, 116, 61, 49]⟩
def dropsL : Nat → LwD → Option LwD
  | 0, L => match L.W.ns with
    | [] => some L
    | _ :: _ => none
  | k + 1, L => match L.W.ns with
    | [] => some L
    | _ :: _ => (stepM true 0 L).bind (dropsL k)
def decD (n : Nat) (x : NdD) : Nat := (decT x.ls (n : Int)).toNat
def decC (d : Nat) (L : LwD) (i : Nat) : Option LwD := stepC d 1 1 (dataB i) L
def decR (d k : Nat) (L : LwD) : Option LwD := (foldO (decC d) (List.range' 0 k) L).bind fun L1 => (roundsL 4 L1).bind fun L2 => (stepC d 1 1 lostB L2).bind fun L3 => (stepT d L3).bind fun L4 => (dropsL 400 L4).bind fun L5 => (stepX d L5).bind (roundsL 60)
def restT (n d : Nat) : Int := fullT n - (2 ^ (d - 1) : Nat)
def tellD (n k d : Nat) (L : LwD) : Bool := (List.range' 1 n).all fun i => i == d || toldB k L i
def decB (n k : Nat) : Bool := match wellL n with
  | some L => match L.W.sl[(0 : Nat)]? with
    | some (.up x) => inV x && match decR (decD n x) k L with
      | some L2 => oneT (restT n (decD n x)) L2 && tellD n k (decD n x) L2
      | none => false
    | _ => false
  | none => false
theorem dropsL_n : ∀ (k : Nat) (L L' : LwD), dropsL k L = some L' → L'.n = L.n
  | 0, L, L', h => by
    unfold dropsL at h
    split at h
    · cases h
      rfl
    · cases h
  | k + 1, L, L', h => by
    unfold dropsL at h
    split at h
    · cases h
      rfl
    · obtain ⟨V, h1, h2⟩ := Option.bind_eq_some_iff.1 h
      exact (dropsL_n k V L' h2).trans (stepM_n h1)
theorem castsD_n {d : Nat} : ∀ (l : List Nat) (L L' : LwD), foldO (decC d) l L = some L' → L'.n = L.n
  | [], L, L', h => by cases h; rfl
  | t :: l, L, L', h => by
    obtain ⟨V, h1, h2⟩ := foldO_cons h
    exact (castsD_n l V L' h2).trans (stepC_n h1)
theorem drop_less {L L' : LwD} {y : MsD × List EnD} {ys : List (MsD × List EnD)} (h : stepM true 0 L = some L') (hns : L.W.ns = y :: ys) : L'.W.ns = ys := by
  unfold stepM at h
  obtain ⟨L1, hw, hlk⟩ := Option.bind_eq_some_iff.1 h
  obtain ⟨W', hm, -, rfl⟩ := withW_some hw
  rw [(looksL_k hlk).1]
  unfold mailW at hm
  rw [hns] at hm
  simp only [List.getElem?_cons_zero, if_true, List.eraseIdx_zero, List.tail_cons, Option.some.injEq] at hm
  rw [← hm]
/-- How much is on its way, read out of the world. -/
def lenAt (w : World) (lw : Nat) : Nat := match w.cell? ⟨lw, 0, none⟩ with
  | some (.pointer (some a)) => match w.cell? ⟨a.block, 33, none⟩ with
    | some (.pointer (some b)) => match w.cell? ⟨b.block, 0, none⟩ with
      | some (.slice _ n _) => n
      | _ => 0
    | _ => 0
  | _ => 0
variable {w w4 : World} {o o4 : Ow} {tb lw : Nat} {A A' : LwA} {L L' : LwD}
theorem lenAt_eq (h : LwV w o lw A L) : lenAt w lw = L.W.ns.length := by
  have c0 := h.box.box.c 0 _ rfl
  have c33 := h.q.wr.c33
  obtain ⟨p, cap, ds, hN, hm, -⟩ := h.q.wr.net
  have hl : L.W.ns.length = ds.length := by
    have := congrArg List.length hm
    simp at this
    omega
  have c := hN.nv.box.c 0 _ rfl
  unfold lenAt
  rw [c0]
  simp only [ptrN] at c33 ⊢
  rw [c33]
  simp only
  rw [c]
  simp only
  omega
set_option maxHeartbeats 400000 in
theorem trdec_any (v n : Int) (hv : 1 ≤ v ∧ v ≤ 1099511627776) (hn : 3 ≤ n ∧ n ≤ 7) (w : World) : Calls Tryz.prog 37 #[.int .i64 v, .int .i64 n] w fun e w' => e = .returned (.int .i64 (decT v n)) ∧ w = w' := by
  obtain ⟨v1, v2⟩ := hv
  obtain ⟨n1, n2⟩ := hn
  have n0 : ¬ n = 0 := by omega
  have hm := Lib.hid (Int.tmod_lt_of_pos (v - 1) (show 0 < n by omega))
  have hz := Lib.hid (Int.tmod_nonneg n (show 0 ≤ v - 1 by omega))
  obtain ⟨R, hR⟩ : ∃ R, R = Int.tmod (v - 1) n := ⟨_, rfl⟩
  have r1 : R < n := by have := hm.out; omega
  have r0 : 0 ≤ R := by have := hz.out; omega
  unfold decT
  rw [← hR]
  replace hR := hR.symm
  go_enter Tryz.func37, Tryz.ntmps37
  go_wp2
  go_ret
  exact ⟨rfl, rfl⟩
theorem rest_is {n d : Nat} (hn : 3 ≤ n ∧ n ≤ 5) (hd : 1 ≤ d ∧ d ≤ n) : isT (restT n d) ∧ bits BinOp.andNot IntKind.i64 (fullT n) (wrap64 (2 ^ min (IntKind.u64.wrap (wrap64 ((d : Int) - 1))).toNat 64)) = restT n d := by
  have h1 : n = 3 ∨ n = 4 ∨ n = 5 := by omega
  have h2 : d = 1 ∨ d = 2 ∨ d = 3 ∨ d = 4 ∨ d = 5 := by omega
  rcases h1 with rfl | rfl | rfl <;> rcases h2 with rfl | rfl | rfl | rfl | rfl <;> first | omega | exact ⟨by unfold isT; decide +kernel, by decide +kernel⟩
set_option maxRecDepth 8000 in
set_option maxHeartbeats 4000000 in
theorem tdecider_any (x y : Int) (hall : ∀ n k : Nat, 3 ≤ n → n ≤ 5 → 1 ≤ k → k < 5 → decB n k = true) (hb : begunB = true) (w : World) :
    Calls Tryz.prog 7 #[.int .i64 x, .int .i64 y] w fun e w' => e = .returned (.bool true) ∧ Below w.heap.size w w' := by
  obtain ⟨n, hn⟩ : ∃ n : Nat, 3 + smallI x 3 = (n : Int) := ⟨(3 + smallI x 3).toNat, by have := smallI_lt (x := x) (show (0 : Int) < 3 by decide); omega⟩
  obtain ⟨k, hk⟩ : ∃ k : Nat, 1 + smallI y 4 = (k : Int) := ⟨(1 + smallI y 4).toNat, by have := smallI_lt (x := y) (show (0 : Int) < 4 by decide); omega⟩
  have hn5 : 3 ≤ n ∧ n ≤ 5 := by have := smallI_lt (x := x) (show (0 : Int) < 3 by decide); omega
  have hk4 : 1 ≤ k ∧ k < 5 := by have := smallI_lt (x := y) (show (0 : Int) < 4 by decide); omega
  have hr := hall n k hn5.1 hn5.2 hk4.1 hk4.2
  unfold decB at hr
  split at hr
  case h_2 => cases hr
  rename_i L0 hL0
  split at hr
  case h_2 => cases hr
  rename_i s0 hs0
  rw [Bool.and_eq_true] at hr
  obtain ⟨hin, hr⟩ := hr
  split at hr
  case h_2 => cases hr
  rename_i Lf hLf
  rw [Bool.and_eq_true] at hr
  unfold decR at hLf
  obtain ⟨L1, hb1, hb2⟩ := Option.bind_eq_some_iff.1 hLf
  obtain ⟨L2, hb3, hb4⟩ := Option.bind_eq_some_iff.1 hb2
  obtain ⟨L3, hb5, hb6⟩ := Option.bind_eq_some_iff.1 hb4
  obtain ⟨L4, hb7, hb8⟩ := Option.bind_eq_some_iff.1 hb6
  obtain ⟨L5, hb9, hb10⟩ := Option.bind_eq_some_iff.1 hb8
  obtain ⟨L6, hb11, hb12⟩ := Option.bind_eq_some_iff.1 hb10
  have HS0 := Lib.hid hs0
  have HIN := Lib.hid hin
  have HO := Lib.hid hr.1
  have HT := Lib.hid hr.2
  have HL0 := Lib.hid hL0
  have HCS := Lib.hid hb1
  have HR4 := Lib.hid hb3
  have HLO := Lib.hid hb5
  have HTI := Lib.hid hb7
  have HDR := Lib.hid hb9
  have HCR := Lib.hid hb11
  have HR6 := Lib.hid hb12
  have BG := Lib.hid (tbegun_any (w := w) (o := fun _ => 0) (fun _ _ => rfl) hb)
  have SM3 := Lib.hid (fun w => small_any x 3 (by decide) w)
  have SM4 := Lib.hid (fun w => small_any y 4 (by decide) w)
  have hs3 := smallI_lt (x := x) (show (0 : Int) < 3 by decide)
  have hs4 := smallI_lt (x := y) (show (0 : Int) < 4 by decide)
  obtain ⟨sx, hsx⟩ : ∃ sx, sx = smallI x 3 := ⟨_, rfl⟩
  rw [← hsx] at SM3 hn hs3
  obtain ⟨sy, hsy⟩ : ∃ sy, sy = smallI y 4 := ⟨_, rfl⟩
  rw [← hsy] at SM4 hk hs4
  have HNX := Lib.hid hn
  have HKX := Lib.hid hk
  clear hr hLf hL0 hall hb hk hsx hsy hn hs0 hin hb1 hb2 hb3 hb4 hb5 hb6 hb7 hb8 hb9 hb10 hb11 hb12
  go_enter Tryz.func7, Tryz.ntmps7
  go_wp2_with fail
  refine BG.out.mono ?_
  rintro e w1 ⟨rfl, o1, m1⟩
  have M1 := Lib.hid (m1.mono lw_top)
  clear m1 BG
  go_wp2_with fail
  refine (SM3.out _).mono ?_
  rintro e w1' ⟨rfl, rfl⟩
  go_wp2_with fail
  refine (SM4.out _).mono ?_
  rintro e w1' ⟨rfl, rfl⟩
  clear SM3 SM4
  go_upto_region 5 with fail
  rw [HNX.out, HKX.out]
  clear HNX HKX hs3 hs4
  go_wp2_with fail
  refine (twell_any M1.out.cl ⟨hn5.1, by omega⟩ HL0.out).mono ?_
  rintro e w2 ⟨tb, lw, o2, A2, rfl, h2, m2⟩
  have H2 := Lib.hid h2
  have M2 := Lib.hid (M1.out.tr m2 top0)
  have HN0 := Lib.hid (wellL_n HL0.out)
  clear h2 m2 M1 HL0
  have t0 := H2.out.box.box.c 0 _ rfl
  have c0 := H2.out.lv.box.box.c 0 _ rfl
  go_wp2_with fail
  refine (wnode_up (i := 1) H2.out.lv.q.wr ⟨by decide, by rw [H2.out.lv.q.nn, HN0.out]; omega⟩ HS0.out).mono ?_
  rintro e w9 ⟨xx, cc, AA, rfl, -, -, nd, -, -, -, rfl⟩
  have VV := Lib.hid (nview_any nd)
  rw [HIN.out] at VV
  have hls : 0 < s0.ls := by
    have := HIN.out
    unfold inV at this
    simp only [Bool.and_eq_true, decide_eq_true_eq] at this
    exact this.2.1
  have hls2 := nd.ok.ls
  have HLS := Lib.hid (And.intro hls hls2)
  clear nd hls hls2
  go_wp2_with fail
  refine VV.out.mono ?_
  simp only [if_true]
  rintro e w3 ⟨rfl, x3⟩
  have H3 := Lib.hid (H2.out.ext x3)
  have M3 := Lib.hid (M2.out.tr (Fm.ext M2.out.cl x3) top0)
  clear x3 H2 M2 VV t0 c0
  obtain ⟨d, hd⟩ : ∃ d, decD n s0 = d := ⟨_, rfl⟩
  have hdt : decT s0.ls (n : Int) = (d : Int) ∧ 1 ≤ d ∧ d ≤ n := by
    have h1 := Int.tmod_lt_of_pos (s0.ls - 1) (show 0 < (n : Int) by omega)
    have h2 := Int.tmod_nonneg (n : Int) (show 0 ≤ s0.ls - 1 by have := HLS.out; omega)
    unfold decD at hd
    unfold decT at hd ⊢
    omega
  have DE := Lib.hid (fun w => trdec_any s0.ls (n : Int) ⟨by have := HLS.out; omega, by have := HLS.out; omega⟩ ⟨by omega, by omega⟩ w)
  rw [hdt.1] at DE
  have HD := Lib.hid hdt.2
  rw [hd] at HO HT HCS HLO HTI HCR
  clear hd hdt
  go_wp2_with fail
  refine (DE.out _).mono ?_
  rintro e w3' ⟨rfl, rfl⟩
  clear DE
  go_wp2
  go_loopw [11] (fun v wx => ∃ (r : Nat) (oa : Ow) (Aa : LwA) (La : LwD), r ≤ k ∧ v = .int .i64 (r : Int) ∧ TopV wx oa tb lw Aa La ∧ foldO (decC d) (List.range' r (k - r)) La = some L1 ∧ La.n = n ∧ Fm topC (fun _ => 0) oa w wx) (fun v _ => k - (intOf v).toNat)
  case atStart => exact ⟨0, o2, A2, L0, by omega, rfl, H3.out, HCS.out, HN0.out, M3.out⟩
  case round =>
    clear H3 M3 HCS HN0
    obtain ⟨r, oa, Aa, La, hr, rfl, hv, hf, hna, ma⟩ := hrel
    have HX := Lib.hid hv
    have HF := Lib.hid hf
    have HNA := Lib.hid hna
    have MX := Lib.hid ma
    clear hv hf hna ma
    by_cases hlt : r < k
    · have e5 : decide ((r : Int) < (k : Int)) = true := decide_eq_true (by omega)
      have e5n : decide (r < k) = true := decide_eq_true hlt
      have hq := HF.out
      rw [show k - r = (k - (r + 1)) + 1 by omega, List.range'_succ] at hq
      obtain ⟨Lb, hq1, hq2⟩ := foldO_cons hq
      have HREST := Lib.hid hq2
      have HCAST := Lib.hid hq1
      have HN1 : Hid (Lb.n = n) := Lib.hid ((stepC_n hq1).trans HNA.out)
      have HI5 : Hid (1 ≤ d ∧ d ≤ La.n) := Lib.hid (by rw [HNA.out]; exact HD.out)
      clear hq hq1 hq2 HF
      go_wp2_with fail
      refine (data_any r (by omega) _).mono ?_
      rintro e w10 ⟨rfl, x10⟩
      replace HX := Lib.hid (HX.out.ext x10)
      replace MX := Lib.hid (MX.out.tr (Fm.ext MX.out.cl x10) top0)
      clear x10
      go_wp2_with fail
      refine (tcast_any MX.out.cl HX.out (dataB_size r) HI5.out HCAST.out).mono ?_
      rintro e w11 ⟨rfl, o11, A11, h11, m11⟩
      replace HX := Lib.hid h11
      replace MX := Lib.hid (MX.out.tr m11 top0)
      clear h11 m11
      go_wp2
      go_roundw
      case rel => exact ⟨r + 1, o11, A11, Lb, by omega, by go_num, HX.out, HREST.out, HN1.out, MX.out⟩
      case measure => simp [intOf]; omega
    · have e5 : decide ((r : Int) < (k : Int)) = false := decide_eq_false (by omega)
      have e5n : decide (r < k) = false := decide_eq_false hlt
      have HEQ : Hid (La = L1) := Lib.hid (by
        have := HF.out
        rw [show k - r = 0 by omega] at this
        exact Option.some.inj this)
      rw [HEQ.out] at HX HNA
      clear HF HEQ
      go_wp2_with fail
      refine (trounds_any (n := 4) MX.out.cl HX.out (by decide) HR4.out).mono ?_
      rintro e w4 ⟨rfl, o4, A4, h4, m4⟩
      have H4 := Lib.hid h4
      have M4 := Lib.hid (MX.out.tr m4 top0)
      have HN2 : Hid (L2.n = n) := Lib.hid ((roundsL_n _ _ _ HR4.out).trans HNA.out)
      clear h4 m4 HX MX HR4 HNA
      go_wp2_with fail
      refine (tcast_any (da := lostB) M4.out.cl H4.out (by decide) (by rw [HN2.out]; exact HD.out) HLO.out).mono ?_
      rintro e w5 ⟨rfl, o5, A5, h5, m5⟩
      have H5 := Lib.hid h5
      have M5 := Lib.hid (M4.out.tr m5 top0)
      have HN3 : Hid (L3.n = n) := Lib.hid ((stepC_n HLO.out).trans HN2.out)
      clear h5 m5 H4 M4 HLO HN2
      go_wp2_with fail
      refine (tstep_any M5.out.cl H5.out (steps_t (i := d) (by rw [HN3.out]; exact HD.out) HTI.out)).mono ?_
      rintro e w6 ⟨rfl, o6, A6, h6, m6⟩
      have H6 := Lib.hid h6
      have M6 := Lib.hid (M5.out.tr m6 top0)
      have HN4 : Hid (L4.n = n) := Lib.hid ((stepT_n HTI.out).trans HN3.out)
      clear h6 m6 H5 M5 HTI HN3
      go_wp2
      go_loopw [] (fun wx => ∃ (f : Nat) (oa : Ow) (Aa : LwA) (La : LwD), TopV wx oa tb lw Aa La ∧ dropsL f La = some L5 ∧ La.n = n ∧ Fm topC (fun _ => 0) oa w wx) (fun wx => lenAt wx lw)
      case atStart => exact ⟨400, o6, A6, L4, H6.out, HDR.out, HN4.out, M6.out⟩
      case round =>
        clear H6 M6 HDR HN4 e5 e5n
        obtain ⟨f, oa, Aa, La, hv, hf, hna, ma⟩ := hrel
        have HX := Lib.hid hv
        have HF := Lib.hid hf
        have HNA := Lib.hid hna
        have MX := Lib.hid ma
        clear hv hf hna ma
        have t0 := HX.out.box.box.c 0 _ rfl
        have t1 := HX.out.box.box.c 1 _ rfl
        have c0 := HX.out.lv.box.box.c 0 _ rfl
        have HLE := Lib.hid (lenAt_eq HX.out.lv)
        go_wp2_with fail
        refine (wnet_any HX.out.lv.q.wr).mono ?_
        rintro e w5 ⟨rfl, rfl⟩
        go_wp2_with fail
        refine (wlen_any HX.out.lv.q.wr.net).mono ?_
        rintro e w5 ⟨rfl, rfl⟩
        cases hns : La.W.ns with
        | nil =>
          have HNS := Lib.hid hns
          have HEQ : Hid (La = L5) := Lib.hid (by
            have := HF.out
            cases f with
            | zero =>
              unfold dropsL at this
              rw [hns] at this
              exact Option.some.inj this
            | succ f =>
              unfold dropsL at this
              rw [hns] at this
              exact Option.some.inj this)
          have e7 : decide ((0 : Int) < ((([] : List (MsD × List EnD)).length : Nat) : Int)) = false := rfl
          rw [HEQ.out] at HX HNA
          clear hns HF HLE
          simp only [List.length_nil]
          go_wp2_with fail
          refine (tstep_any MX.out.cl HX.out (steps_x (i := d) (by rw [HNA.out]; exact HD.out) HCR.out)).mono ?_
          rintro e w7 ⟨rfl, o7, A7, h7, m7⟩
          have H7 := Lib.hid h7
          have M7 := Lib.hid (MX.out.tr m7 top0)
          have HN6 : Hid (L6.n = n) := Lib.hid ((withL_n HCR.out).trans HNA.out)
          clear h7 m7 HX MX HNA t0 t1 c0
          go_wp2_with fail
          refine (trounds_any (n := 60) M7.out.cl H7.out (by decide) HR6.out).mono ?_
          rintro e w8 ⟨rfl, o8, A8, h8, m8⟩
          have H8 := Lib.hid h8
          have M8 := Lib.hid (M7.out.tr m8 top0)
          have HN7 : Hid (Lf.n = n) := Lib.hid ((roundsL_n _ _ _ HR6.out).trans HN6.out)
          clear h8 m8 H7 M7 HR6 HCR HN6
          have AL := Lib.hid (tall_any H8.out)
          rw [HN7.out] at AL
          obtain ⟨hrt, hbt⟩ := rest_is hn5 HD.out
          have HRT := Lib.hid hrt
          go_wp2_with fail
          refine AL.out.mono ?_
          rintro e w8' ⟨rfl, rfl⟩
          go_wp2_with fail
          clear hbt hrt
          refine (tone_any M8.out.cl H8.out HRT.out HO.out).mono ?_
          rintro e w10 ⟨rfl, o10, A10, L10, h10, hW10, hn10, m10⟩
          have H10 := Lib.hid h10
          have M10 := Lib.hid (M8.out.tr m10 top0)
          have HW10 := Lib.hid hW10
          have HNT : Hid (L10.n = n) := Lib.hid (hn10.trans HN7.out)
          clear h10 m10 hW10 hn10 H8 M8 AL
          go_wp2
          go_loopw [13] (fun v wx => ∃ (a : Nat), 1 ≤ a ∧ a ≤ n + 1 ∧ v = .int .i64 (a : Int) ∧ TopV wx o10 tb lw A10 L10 ∧ Fm topC (fun _ => 0) o10 w wx) (fun v _ => n + 1 - (intOf v).toNat)
          case atStart => exact ⟨1, by omega, by omega, rfl, H10.out, M10.out⟩
          case round =>
            clear H10 M10
            obtain ⟨a, ha1, ha2, rfl, hv, ma⟩ := hrel
            have HX := Lib.hid hv
            have MX := Lib.hid ma
            clear hv ma
            have t0 := HX.out.box.box.c 0 _ rfl
            have c0 := HX.out.lv.box.box.c 0 _ rfl
            by_cases hlt : a ≤ n
            · have e6 : decide ((a : Int) ≤ (n : Int)) = true := decide_eq_true (by omega)
              have e6n : decide (a ≤ n) = true := decide_eq_true hlt
              by_cases had : a = d
              · have g0 : ((a : Int) != (d : Int)) = false := by rw [had]; simp
                have g0n : (a != d) = false := by rw [had]; simp
                clear had
                go_wp2
                go_roundw
                case rel => exact ⟨a + 1, by omega, by omega, by go_num, HX.out, MX.out⟩
                case measure => simp [intOf]; omega
              · have g0 : ((a : Int) != (d : Int)) = true := by simp; omega
                have g0n : (a != d) = true := by simpa using had
                have hq := List.all_eq_true.1 HT.out a (List.mem_range'_1.2 ⟨ha1, by omega⟩)
                rw [Bool.or_eq_true, beq_iff_eq] at hq
                replace hq := hq.resolve_left had
                unfold toldB at hq
                split at hq
                case h_2 => cases hq
                rename_i s hsl
                have HLEN : Hid (s.T.length = k) := Lib.hid (by simpa using hq)
                have HSL : Hid (L10.W.sl[a - 1]? = some (.up s)) := Lib.hid (by rw [HW10.out]; exact hsl)
                have HAI : Hid (1 ≤ a ∧ a ≤ L10.W.n) := Lib.hid ⟨ha1, by rw [HX.out.lv.q.nn, HNT.out]; exact hlt⟩
                have q0 : ((k : Int) != (k : Int)) = false := by simp
                clear hq hsl had
                go_wp2_with fail
                refine (wnode_up HX.out.lv.q.wr HAI.out HSL.out).mono ?_
                rintro e w9 ⟨xx, cc, AA, rfl, -, -, nd, -, -, -, rfl⟩
                have TT := Lib.hid (ntold_any nd)
                rw [HLEN.out] at TT
                clear nd
                go_wp2_with fail
                refine TT.out.mono ?_
                rintro e w10 ⟨pt, ct, rfl, -, x10⟩
                have H10 := Lib.hid (HX.out.ext x10)
                have M10 := Lib.hid (MX.out.tr (Fm.ext MX.out.cl x10) top0)
                clear x10 TT
                go_wp2
                go_roundw
                case rel => exact ⟨a + 1, by omega, by omega, by go_num, H10.out, M10.out⟩
                case measure => simp [intOf]; omega
            · have e6 : decide ((a : Int) ≤ (n : Int)) = false := decide_eq_false (by omega)
              have e6n : decide (a ≤ n) = false := decide_eq_false hlt
              go_wp2
              go_ret
              exact ⟨rfl, MX.out.all top0⟩
        | cons z zs =>
          obtain ⟨f', Ld, hf', hd1, hd2⟩ : ∃ f' Ld, f = f' + 1 ∧ stepM true 0 La = some Ld ∧ dropsL f' Ld = some L5 := by
            have := HF.out
            cases f with
            | zero =>
              unfold dropsL at this
              rw [hns] at this
              cases this
            | succ f =>
              unfold dropsL at this
              rw [hns] at this
              obtain ⟨V, h1, h2⟩ := Option.bind_eq_some_iff.1 this
              exact ⟨f, V, rfl, h1, h2⟩
          have HD1 := Lib.hid hd1
          have HD2 := Lib.hid hd2
          have HLS2 := Lib.hid (drop_less hd1 hns)
          have HNS := Lib.hid hns
          have HND : Hid (Ld.n = n) := Lib.hid ((stepM_n hd1).trans HNA.out)
          have e7 : decide ((0 : Int) < (((z :: zs).length : Nat) : Int)) = true := decide_eq_true (by simp only [List.length_cons]; omega)
          have e7n : decide (0 < (z :: zs).length) = true := decide_eq_true (by simp)
          clear hf' hd1 hd2 hns HF
          go_wp2_with fail
          refine (lstep4_any (k := 0) MX.out.cl HX.out.lv HD1.out).mono ?_
          rintro e w7 ⟨rfl, o7, A7, h7, m7⟩
          have H7 := Lib.hid (HX.out.go m7 h7)
          have M7 := Lib.hid (MX.out.tr (m7.mono lw_top) top0)
          have HL7 : Hid (lenAt w7 lw < lenAt wr lw) := Lib.hid (by
            rw [lenAt_eq h7, HLE.out, HLS2.out, HNS.out]
            simp)
          clear h7 m7
          go_wp2
          go_roundw
          case rel => exact ⟨f', o7, A7, Ld, H7.out, HD2.out, HND.out, M7.out⟩
          case measure => exact HL7.out
end Go.Proofs.YtjhbmbbmjaabcaaGreat
set_option linter.unusedVariables false
set_option maxRecDepth 8000
set_option maxHeartbeats 8000000

