/-
  A world by hand: apart. Conditions stand at it.
-/
import Derived.Test.YtjhbmbbmjaabcaaGreatB9
namespace Go.Proofs.YtjhbmbbmjaabcaaGreat
open Go Go.Sort Go.RowKit
set_option linter.unusedVariables false

def hasM (s : Int) (x : MsD × List EnD) : Bool := hasT s x.1.fr && hasT s x.1.to
def apM (s : Int) : Nat → LwD → Option LwD
  | 0, L => some L
  | k + 1, L => match L.W.ns with
    | [] => some L
    | x :: _ => (stepM (!hasM s x) 0 L).bind (apM s k)
def apR (s : Int) (L : LwD) : Option LwD := (stepR L).bind fun L2 => (ticksL L2).bind (apM s 500)
def apL (s : Int) : Nat → LwD → Option LwD
  | 0, L => some L
  | k + 1, L => (apR s L).bind (apL s k)
theorem apM_n {s : Int} : ∀ (k : Nat) (L L' : LwD), apM s k L = some L' → L'.n = L.n
  | 0, L, L', h => by cases h; rfl
  | k + 1, L, L', h => by
    unfold apM at h
    split at h
    · cases h
      rfl
    · obtain ⟨V, h1, h2⟩ := Option.bind_eq_some_iff.1 h
      exact (apM_n k V L' h2).trans (stepM_n h1)
theorem apL_n {s : Int} : ∀ (k : Nat) (L L' : LwD), apL s k L = some L' → L'.n = L.n
  | 0, L, L', h => by cases h; rfl
  | k + 1, L, L', h => by
    unfold apL at h
    obtain ⟨V, h1, h2⟩ := Option.bind_eq_some_iff.1 h
    unfold apR at h1
    obtain ⟨L1, h3, h4⟩ := Option.bind_eq_some_iff.1 h1
    obtain ⟨L2, h5, h6⟩ := Option.bind_eq_some_iff.1 h4
    exact (apL_n k V L' h2).trans ((apM_n _ _ _ h6).trans ((ticksL_n _ _ _ h5).trans (stepR_n h3)))
theorem may_ids {m : MsD} {L : List EnD} (h : mayM m L = true) : isId m.fr ∧ isId m.to := by
  have := (who_iff m).1 (mayM_iff.1 h).1
  unfold isId
  omega
theorem NetN.may {w : World} {o : Ow} {g : Nat} {ns : List (MsD × List EnD)} (h : NetN w o g ns) {x : MsD × List EnD} (hx : x ∈ ns) : mayM x.1 x.2 = true := by
  obtain ⟨p, cap, ds, -, -, hm⟩ := h
  exact hm x hx
variable {w w4 : World} {o o4 : Ow} {tb lw : Nat} {A A' : LwA} {L L' : LwD}
set_option maxRecDepth 8000 in
set_option maxHeartbeats 4000000 in
/-- apart -/
theorem tapart_any (hcl : Cl w o) (h : TopV w o tb lw A L) {s : Int} (hst : isT s) {n : Nat} (hn : n ≤ 1000) (hs : apL s n L = some L') :
    Calls Tryz.prog 17 #[ptrN tb, .int .i64 s, .int .i64 (n : Int)] w fun e w' => e = .returned (.tuple #[]) ∧ ∃ o' A', TopV w' o' tb lw A' L' ∧ Fm topC o o' w w' := by
  have H := Lib.hid h
  have HS := Lib.hid hs
  have HT := Lib.hid hst
  have M0 := Lib.hid (Fm.refl (C := topC) hcl)
  clear hcl h hs hst
  go_enter Tryz.func17, Tryz.ntmps17
  go_wp2
  go_loopw [6] (fun v wx => ∃ (i : Nat) (oi : Ow) (Ai : LwA) (Li : LwD), i ≤ n ∧ v = .int .i64 (i : Int) ∧ TopV wx oi tb lw Ai Li ∧ apL s (n - i) Li = some L' ∧ Fm topC o oi w wx) (fun v _ => n - (intOf v).toNat)
  case atStart => exact ⟨0, o, A, L, by omega, rfl, H.out, HS.out, M0.out⟩
  case round =>
    obtain ⟨i, oi, Ai, Li, hi, rfl, hv, hf, ma⟩ := hrel
    have HX := Lib.hid hv
    have HF := Lib.hid hf
    have MX := Lib.hid ma
    clear hv hf ma H M0 HS
    have t0 := HX.out.box.box.c 0 _ rfl
    have t1 := HX.out.box.box.c 1 _ rfl
    by_cases hlt : i < n
    · have e5 : decide ((i : Int) < (n : Int)) = true := decide_eq_true (by omega)
      have e5n : decide (i < n) = true := decide_eq_true hlt
      have hr := HF.out
      rw [show n - i = (n - (i + 1)) + 1 by omega] at hr
      unfold apL at hr
      obtain ⟨Lr, hr1, hr2⟩ := Option.bind_eq_some_iff.1 hr
      unfold apR at hr1
      obtain ⟨L1, hr3, hr4⟩ := Option.bind_eq_some_iff.1 hr1
      obtain ⟨Lt, hr5, hr6⟩ := Option.bind_eq_some_iff.1 hr4
      unfold ticksL at hr5
      have HREST := Lib.hid hr2
      have HREAL := Lib.hid hr3
      have HTICK := Lib.hid hr5
      have HMAIL := Lib.hid hr6
      clear hr hr1 hr2 hr3 hr4 hr5 hr6 HF
      go_wp2_with fail
      refine (lstep1_any MX.out.cl HX.out.lv HREAL.out).mono ?_
      rintro e w1 ⟨rfl, o1, A1, h1, m1⟩
      have H1 := Lib.hid (HX.out.go m1 h1)
      have M1 := Lib.hid (MX.out.tr (m1.mono lw_top) top0)
      have hn7 := h1.n7
      clear h1 m1 HX MX t0 t1
      go_wp2
      go_loopw [7] (fun v wx => ∃ (a : Nat) (oa : Ow) (Aa : LwA) (La : LwD), 1 ≤ a ∧ a ≤ L1.n + 1 ∧ v = .int .i64 (a : Int) ∧ TopV wx oa tb lw Aa La ∧ foldO tickL (List.range' a (L1.n + 1 - a)) La = some Lt ∧ La.n = L1.n ∧ Fm topC o oa w wx) (fun v _ => L1.n + 1 - (intOf v).toNat)
      case atStart => exact ⟨1, _, _, L1, by omega, by omega, rfl, H1.out, by rw [Nat.add_sub_cancel]; exact HTICK.out, rfl, M1.out⟩
      case round =>
        clear H1 M1 HTICK
        obtain ⟨a, oa, Aa, La, ha1, ha2, rfl, hv, hf, hna, ma⟩ := hrel
        have HX := Lib.hid hv
        have HF := Lib.hid hf
        have HNA := Lib.hid hna
        have MX := Lib.hid ma
        clear hv hf hna ma
        have t0 := HX.out.box.box.c 0 _ rfl
        have c1 := HX.out.lv.box.box.c 1 _ rfl
        rw [HNA.out] at c1
        by_cases hlt : a ≤ L1.n
        · have e6 : decide ((a : Int) ≤ (L1.n : Int)) = true := decide_eq_true (by omega)
          have e6n : decide (a ≤ L1.n) = true := decide_eq_true hlt
          have hr := HF.out
          rw [show L1.n + 1 - a = (L1.n + 1 - (a + 1)) + 1 by omega, List.range'_succ] at hr
          obtain ⟨Lb, ht, hrest⟩ := foldO_cons hr
          have HTK := Lib.hid ht
          have HRB := Lib.hid hrest
          have HAI : Hid (1 ≤ a ∧ a ≤ La.n) := Lib.hid ⟨ha1, by rw [HNA.out]; exact hlt⟩
          have HNB : Hid (Lb.n = L1.n) := Lib.hid ((tickL_n ht).trans HNA.out)
          clear hr ht hrest HF
          go_wp2_with fail
          refine (lstepD_any MX.out.cl HX.out.lv HAI.out HTK.out).mono ?_
          rintro e w5 ⟨⟨rr, rfl⟩, oc, Ac, h5, m5⟩
          have HC5 := Lib.hid (HX.out.go m5 h5)
          have MC5 := Lib.hid (MX.out.tr (m5.mono lw_top) top0)
          clear h5 m5
          go_wp2
          go_roundw
          case rel => exact ⟨a + 1, oc, Ac, Lb, by omega, by omega, by go_num, HC5.out, HRB.out, HNB.out, MC5.out⟩
          case measure => simp [intOf]; omega
        · have e6 : decide ((a : Int) ≤ (L1.n : Int)) = false := decide_eq_false (by omega)
          have e6n : decide (a ≤ L1.n) = false := decide_eq_false hlt
          have HEQ : Hid (La = Lt) := Lib.hid (by
            have := HF.out
            rw [show L1.n + 1 - a = 0 by omega] at this
            exact Option.some.inj this)
          rw [HEQ.out] at HX
          clear HF HNA HEQ
          go_wp2
          go_loopw [8] (fun v wx => ∃ (k : Nat) (oa : Ow) (Aa : LwA) (La : LwD), k ≤ 500 ∧ v = .int .i64 (k : Int) ∧ TopV wx oa tb lw Aa La ∧ apM s (500 - k) La = some Lr ∧ Fm topC o oa w wx) (fun v _ => 500 - (intOf v).toNat)
          case atStart => exact ⟨0, _, _, _, by omega, rfl, HX.out, HMAIL.out, MX.out⟩
          case round =>
            clear HX MX HMAIL t0 c1
            obtain ⟨k, oa, Aa, La, hk, rfl, hv, hf, ma⟩ := hrel
            have HX := Lib.hid hv
            have HF := Lib.hid hf
            have MX := Lib.hid ma
            clear hv hf ma
            have t0 := HX.out.box.box.c 0 _ rfl
            have c0 := HX.out.lv.box.box.c 0 _ rfl
            by_cases hlt : k < 500
            · have e6 : decide ((k : Int) < 500) = true := decide_eq_true (by omega)
              have e6n : decide (k < 500) = true := decide_eq_true hlt
              have hr := HF.out
              rw [show 500 - k = (500 - (k + 1)) + 1 by omega] at hr
              unfold apM at hr
              go_wp2_with fail
              refine (wnet_any HX.out.lv.q.wr).mono ?_
              rintro e w5 ⟨rfl, rfl⟩
              go_wp2_with fail
              refine (wlen_any HX.out.lv.q.wr.net).mono ?_
              rintro e w5 ⟨rfl, rfl⟩
              split at hr
              · rename_i hns
                have HEQ := Lib.hid (Option.some.inj hr)
                have HNS := Lib.hid hns
                have e7 : decide ((0 : Int) < (La.W.ns.length : Int)) = false := decide_eq_false (by rw [HNS.out]; simp)
                have e7n : decide (0 < La.W.ns.length) = false := decide_eq_false (by rw [HNS.out]; simp)
                have HX2 := HX
                rw [HEQ.out] at HX2
                clear hr hns HF
                go_wp2
                go_roundw
                case rel => exact ⟨i + 1, oa, Aa, Lr, by omega, by go_num, HX2.out, HREST.out, MX.out⟩
                case measure => simp [intOf]; omega
              · rename_i y ys hns
                obtain ⟨Lb, hb1, hb2⟩ := Option.bind_eq_some_iff.1 hr
                have HB1 := Lib.hid hb1
                have HB2 := Lib.hid hb2
                have HNS := Lib.hid hns
                have e7 : decide ((0 : Int) < (La.W.ns.length : Int)) = true := decide_eq_true (by rw [HNS.out]; simp only [List.length_cons]; omega)
                have e7n : decide (0 < La.W.ns.length) = true := decide_eq_true (by rw [HNS.out]; simp)
                have HY : Hid (La.W.ns[0]? = some y) := Lib.hid (by rw [hns]; rfl)
                have HMY : Hid (mayM y.1 y.2 = true) := Lib.hid (HX.out.lv.q.wr.net.may (by rw [hns]; simp))
                clear hr hb1 hb2 hns HF
                go_wp2_with fail
                refine (wnet_any HX.out.lv.q.wr).mono ?_
                rintro e w5 ⟨rfl, rfl⟩
                go_wp2_with fail
                refine (wlook2 (k := 0) HX.out.lv.q.wr.net HY.out).mono ?_
                rintro e w6 ⟨pb, nb, cb, rfl, ob, hnb, x6⟩
                have B6 := Lib.hid ob.sl
                have HNB := Lib.hid hnb
                have H6 := Lib.hid (HX.out.ext x6)
                have M6 := Lib.hid (MX.out.tr (Fm.ext MX.out.cl x6) top0)
                have DC := Lib.hid (wdecode_any B6.out HNB.out)
                rw [decM_enc (mayM_ok HMY.out).1 (mayM_ok HMY.out).2 HMY.out] at DC
                obtain ⟨idf, idt⟩ := may_ids HMY.out
                have RF := Lib.hid (fun w => trhas_any s y.1.fr HT.out idf w)
                have RT := Lib.hid (fun w => trhas_any s y.1.to HT.out idt w)
                have HHM : Hid (hasM s y = (hasT s y.1.fr && hasT s y.1.to)) := Lib.hid rfl
                obtain ⟨⟨kd, fr, tt, bt, vw, ls, mb, po, cm, nm, ck, ye⟩, EL⟩ := y
                simp only at RF RT HHM DC
                clear ob hnb x6 HX MX t0 c0 idf idt B6
                go_wp2_with fail
                refine DC.out.mono ?_
                rintro e w7 ⟨pe, ce, rfl, -, -, -, x7⟩
                have A8 := Lib.hid (x7.tr (Ext.alloc w7 (.cells (msA ⟨kd, fr, tt, bt, vw, ls, mb, po, cm, nm, ck, ye⟩ pe EL.length ce) 76)))
                have MB := Lib.hid (BoxC.loose (M6.out.cl.ext x7) (msA ⟨kd, fr, tt, bt, vw, ls, mb, po, cm, nm, ck, ye⟩ pe EL.length ce) (msL ⟨kd, fr, tt, bt, vw, ls, mb, po, cm, nm, ck, ye⟩ pe EL.length ce) 76 rfl)
                clear x7 DC
                go_upto_region 13 with fail
                change Code.wp _ _ _ _ (w7.alloc (.cells (msA ⟨kd, fr, tt, bt, vw, ls, mb, po, cm, nm, ck, ye⟩ pe EL.length ce) 76))
                generalize w7.alloc (.cells (msA ⟨kd, fr, tt, bt, vw, ls, mb, po, cm, nm, ck, ye⟩ pe EL.length ce) 76) = w8 at *
                generalize w7.heap.size = mb8 at *
                have H8 := Lib.hid (H6.out.ext A8.out)
                have M8 := Lib.hid (M6.out.tr (Fm.ext M6.out.cl A8.out) top0)
                clear H6 M6 A8
                have b1 := MB.out.box.c 1 _ rfl
                try simp only at b1
                go_wp2_with fail
                refine (RF.out _).mono ?_
                rintro e w9 ⟨rfl, x9⟩
                have H9 := Lib.hid (H8.out.ext x9)
                have M9 := Lib.hid (M8.out.tr (Fm.ext M8.out.cl x9) top0)
                have MB9 := Lib.hid (MB.out.ext x9)
                clear x9 H8 M8 MB b1
                cases hf : hasT s fr
                · rw [hf] at HHM
                  have hd1 := HB1.out
                  rw [HHM.out] at hd1
                  have HB := Lib.hid hd1
                  clear hd1 HB1 hf
                  have t0 := H9.out.box.box.c 0 _ rfl
                  go_wp2_with fail
                  refine (lstep4_any (k := 0) M9.out.cl H9.out.lv HB.out).mono ?_
                  rintro e w11 ⟨rfl, o11, A11, h11, m11⟩
                  have H11 := Lib.hid (H9.out.go m11 h11)
                  have M11 := Lib.hid (M9.out.tr (m11.mono lw_top) top0)
                  clear h11 m11
                  go_wp2
                  go_roundw
                  case rel => exact ⟨k + 1, o11, A11, Lb, by omega, by go_num, H11.out, HB2.out, M11.out⟩
                  case measure => simp [intOf]; omega
                · rw [hf] at HHM
                  have b2 := MB9.out.box.c 2 _ rfl
                  try simp only at b2
                  clear hf
                  go_wp2_with fail
                  refine (RT.out _).mono ?_
                  rintro e w10 ⟨rfl, x10⟩
                  replace H9 := Lib.hid (H9.out.ext x10)
                  replace M9 := Lib.hid (M9.out.tr (Fm.ext M9.out.cl x10) top0)
                  clear x10 b2 MB9
                  have t0 := H9.out.box.box.c 0 _ rfl
                  cases ht : hasT s tt
                  · rw [ht] at HHM
                    have hd1 := HB1.out
                    rw [HHM.out] at hd1
                    have HB := Lib.hid hd1
                    clear hd1 HB1 ht
                    go_wp2_with fail
                    refine (lstep4_any (k := 0) M9.out.cl H9.out.lv HB.out).mono ?_
                    rintro e w11 ⟨rfl, o11, A11, h11, m11⟩
                    have H11 := Lib.hid (H9.out.go m11 h11)
                    have M11 := Lib.hid (M9.out.tr (m11.mono lw_top) top0)
                    clear h11 m11
                    go_wp2
                    go_roundw
                    case rel => exact ⟨k + 1, o11, A11, Lb, by omega, by go_num, H11.out, HB2.out, M11.out⟩
                    case measure => simp [intOf]; omega
                  · rw [ht] at HHM
                    have hd1 := HB1.out
                    rw [HHM.out] at hd1
                    have HB := Lib.hid hd1
                    clear hd1 HB1 ht
                    go_wp2_with fail
                    refine (lstep3_any (k := 0) M9.out.cl H9.out.lv HB.out).mono ?_
                    rintro e w11 ⟨rfl, o11, A11, h11, m11⟩
                    have H11 := Lib.hid (H9.out.go m11 h11)
                    have M11 := Lib.hid (M9.out.tr (m11.mono lw_top) top0)
                    clear h11 m11
                    go_wp2
                    go_roundw
                    case rel => exact ⟨k + 1, o11, A11, Lb, by omega, by go_num, H11.out, HB2.out, M11.out⟩
                    case measure => simp [intOf]; omega
            · have e6 : decide ((k : Int) < 500) = false := decide_eq_false (by omega)
              have e6n : decide (k < 500) = false := decide_eq_false hlt
              have HEQ : Hid (La = Lr) := Lib.hid (by
                have := HF.out
                rw [show 500 - k = 0 by omega] at this
                exact Option.some.inj this)
              rw [HEQ.out] at HX
              go_wp2
              go_roundw
              case rel => exact ⟨i + 1, oa, Aa, Lr, by omega, by go_num, HX.out, HREST.out, MX.out⟩
              case measure => simp [intOf]; omega
    · have e5 : decide ((i : Int) < (n : Int)) = false := decide_eq_false (by omega)
      have e5n : decide (i < n) = false := decide_eq_false hlt
      have HEQ : Hid (Li = L') := Lib.hid (by
        have := HF.out
        rw [show n - i = 0 by omega] at this
        exact Option.some.inj this)
      rw [HEQ.out] at HX
      go_wp2
      refine bodyPost_end (v := .tuple #[]) (by simp [results, Tryz.results17, go_sem]) rfl ?_
      exact ⟨rfl, oi, Ai, HX.out, MX.out⟩
end Go.Proofs.YtjhbmbbmjaabcaaGreat
set_option linter.unusedVariables false
set_option maxRecDepth 8000
set_option maxHeartbeats 8000000

