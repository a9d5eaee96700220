/-
  The statement NetOrder: curfewlaw18.NetOrder answers true. Conditions: that the arguments are readable, a parameter of walk_NetOrder each.
-/
import Derived.Test.YtgplmbchlahbkaaNet10
import Derived.Deep.CutBlock
import Derived.Deep.DeepCutAuto
namespace Go.Proofs.Ytgplmbchlahbkaa
open Go Go.Sort Go.RowKit
set_option linter.unusedVariables false

set_option maxRecDepth 8000 in
set_option maxHeartbeats 16000000 in
theorem walk_NetOrder {n : Int} {q : Option Addr} {m cap : Nat} {zs : List Int} {w : World} (hn : I64 n) (h : SlI .i64 w q m cap zs) :
    Calls Try.prog 7 #[.int .i64 n, .slice q m cap] w fun e w' => e = .returned (.bool true) ∧ Below w.heap.size w w' := by
  have hmx : m ≤ 9223372036854775807 := Nat.le_trans h.le h.max
  have Z := Lib.hid h
  clear hn h
  by_cases c1 : n < 0
  · go_enter Try.func7, Try.ntmps7
    go_wp2_with fail
    refine (begun18 w).mono ?_
    rintro e w1 ⟨rfl, x1⟩
    have X := Lib.hid x1
    clear x1
    go_wp2
    go_ret
    exact ⟨rfl, X.out⟩
  by_cases c2 : 60 < n
  · go_enter Try.func7, Try.ntmps7
    go_wp2_with fail
    refine (begun18 w).mono ?_
    rintro e w1 ⟨rfl, x1⟩
    have X := Lib.hid x1
    clear x1
    go_wp2
    go_ret
    exact ⟨rfl, X.out⟩
  obtain ⟨N, rfl⟩ : ∃ N : Nat, n = (N : Int) := ⟨n.toNat, by omega⟩
  have hN : N ≤ 60 := by omega
  go_enter Try.func7, Try.ntmps7
  go_wp2_with fail
  refine (begun18 w).mono ?_
  rintro e w1 ⟨rfl, x1⟩
  have X := Lib.hid x1
  clear x1
  go_wp2_with fail
  have HG : Hid (w.heap.size ≤ w1.heap.size) := Lib.hid X.out.size
  refine (nnew_any w1).mono ?_
  rintro e w2 ⟨rfl, n2, x2⟩
  have N2 := Lib.hid n2
  replace X := Lib.hid (X.out.tr x2)
  clear n2 x2
  go_wp2_with fail
  generalize w1.heap.size = g at *
  go_loopw [7, 8] (fun l i wr => ∃ (j : Nat) (pl : Option Addr) (cl : Nat) (pn : Option Addr) (cn : Nat) (xs : List MsgD) (ds : List MailD), j ≤ N ∧ i = .int .i64 (j : Int) ∧ l = .slice pl xs.length cl ∧ xs.length = j ∧ ST wr g pl cl pn cn xs ds ∧ ds.map mkD = xs.map keyM ∧ Ext w wr) (fun _ i _ => N - (intOf i).toNat)
  case atStart => exact ⟨0, none, 0, none, 0, [], [], by omega, rfl, rfl, rfl, ⟨LV.nil _ _, N2.out, (fun x hx => by cases hx), (fun x hx => by cases hx), sep_none _ _⟩, rfl, X.out⟩
  case round =>
    obtain ⟨j, pl, cl, pn, cn, xs, ds, hj, rfl, rfl, hxl, hst, hkey, hx⟩ := hrel
    have S := Lib.hid hst
    have KEY := Lib.hid hkey
    have XX := Lib.hid hx
    have HXL := Lib.hid hxl
    clear hst hkey hx
    by_cases hlt : j < N
    · have hlt' : (j : Int) < (N : Int) := by omega
      obtain ⟨T, hT⟩ : ∃ T : Int, T = Int.tmod (j : Int) 6 := ⟨_, rfl⟩
      have hT0 : 0 ≤ T ∧ T ≤ 5 := by
        have : Int.tmod (j : Int) 6 = (j : Int) % 6 := Int.tmod_eq_emod_of_nonneg (by omega)
        omega
      have e7 : wrap64 (2 + T) = 2 + T := by unfold wrap64; omega
      have MAY : Hid (mayM (pingD 1 (2 + T) (j : Int)) [] = true) := Lib.hid (may_ping (by decide) (by omega) (by omega) (by omega))
      have POK : Hid (MsOk (pingD 1 (2 + T) (j : Int))) := Lib.hid (ping_ok ⟨by decide, by decide⟩ ⟨by omega, by omega⟩ ⟨by omega, by omega⟩)
      rw [hxl]
      have hT1 := hT.symm
      clear hT hT0
      go_upto_region 12 with fail
      change Code.wp _ _ _ _ (wr.alloc (.cells (msA (pingD 1 (2 + T) (j : Int)) none 0 0) 31))
      have MB := Lib.hid (BoxV.new wr wr.heap.size (msA (pingD 1 (2 + T) (j : Int)) none 0 0) (msL (pingD 1 (2 + T) (j : Int)) none 0 0) 31 _ rfl (Nat.le_refl _) rfl)
      have SL := Lib.hid (fun i hi => (S.out.lv.lt i hi).2)
      have A1 := Lib.hid (Ext.alloc wr (.cells (msA (pingD 1 (2 + T) (j : Int)) none 0 0) 31))
      generalize wr.alloc (.cells (msA (pingD 1 (2 + T) (j : Int)) none 0 0) 31) = w3 at *
      replace S := Lib.hid (S.out.ext A1.out)
      replace XX := Lib.hid (XX.out.tr A1.out)
      clear A1
      have BG : Hid (wr.heap.size ≤ wr.heap.size ∧ ∀ i, pl.map (·.block) = some i → i < wr.heap.size) := Lib.hid ⟨Nat.le_refl _, fun i hi => (SL.out i hi)⟩
      generalize wr.heap.size = bg at *
      have R1 := Lib.hid (nrange MB.out)
      have A2 := Lib.hid (Ext.alloc w3 (.cells (msA (pingD 1 (2 + T) (j : Int)) none 0 0) 31))
      have SR : Hid (SlS 13 (w3.alloc (.cells (msA (pingD 1 (2 + T) (j : Int)) none 0 0) 31)) (some ⟨w3.heap.size, 0, none⟩) 1 1 [msgL ⟨(pingD 1 (2 + T) (j : Int)), none, 0, []⟩]) := Lib.hid (SlS.lit w3 1 _ _ _ rfl (by simp) rfl (by decide))
      have hb : g + 1 ≤ (w3.alloc (.cells (msA (pingD 1 (2 + T) (j : Int)) none 0 0) 31)).heap.size := Nat.le_trans S.out.nv.box.hi A2.out.size
      have HLV : Hid (LV (w3.alloc (.cells (msA (pingD 1 (2 + T) (j : Int)) none 0 0) 31)) (g + 1) pl j cl (xs.map msgL)) := Lib.hid (by have h := S.out.lv.ext A2.out; rw [hxl] at h; exact h)
      go_wp2_with (first | ((with_reducible (refine wpList_load_mid (op := ⟨some 38, .load 31 (.tmp 9), _, _, _, _⟩) ?_ 31 (.tmp 9) ?_ (bg) (0) ?_ (msL (pingD 1 (2 + T) (j : Int)) none 0 0) _ ?_ Try.underlying31 ?_ ?_ ?_)); (rfl); (rfl); (rfl); exact R1.out; (rfl); exact msg_size) | (at_builtin; refine wpList_appLV rfl _ _ rfl (g + 1) pl j cl (xs.map msgL) rfl HLV.out ⟨w3.heap.size, 0, none⟩ 1 _ rfl SR.out one13 (by omega) hb ?_))
      intro p4 c4 w4 o4 g4 f4
      have HX : Hid (xs.length = j) := Lib.hid hxl
      have HKL : Hid (ds.length < 400) := Lib.hid (by rw [len_key KEY.out]; omega)
      have MB4 : Hid (BoxV w4 bg bg (msL (pingD 1 (2 + T) (j : Int)) none 0 0)) := Lib.hid (by
        have h1 := MB.out.ext A2.out
        rcases g4 with g4 | ⟨o, g4⟩
        · exact h1.other g4 (by simp)
        · exact h1.other g4 (fun e => by have := BG.out.2 bg e; omega))
      have S4 := Lib.hid (ST.app HX.out (S.out.ext A2.out) (x := ⟨(pingD 1 (2 + T) (j : Int)), none, 0, []⟩) (msgO_nil POK.out) MAY.out o4 g4 f4)
      have XX4 := Lib.hid (app_below HX.out (XX.out.tr A2.out) (S.out.ext A2.out) HG.out g4)
      clear o4 g4 f4 HLV SR A2 hb S XX MB
      have R4 := Lib.hid (nrange MB4.out)
      go_wp2_with ((with_reducible (refine wpList_load_mid (op := ⟨some 42, .load 31 (.tmp 9), _, _, _, _⟩) ?_ 31 (.tmp 9) ?_ (bg) (0) ?_ (msL (pingD 1 (2 + T) (j : Int)) none 0 0) _ ?_ Try.underlying31 ?_ ?_ ?_)); (rfl); (rfl); (rfl); exact R4.out; (rfl); exact msg_size)
      have A5 := Lib.hid (Ext.alloc w4 (.cells (msA (pingD 1 (2 + T) (j : Int)) none 0 0) 31))
      have Q5 : Hid (SlS 13 (w4.alloc (.cells (msA (pingD 1 (2 + T) (j : Int)) none 0 0) 31)) (some ⟨w4.heap.size, 0, none⟩) 1 1 [msgL ⟨(pingD 1 (2 + T) (j : Int)), none, 0, []⟩]) := Lib.hid (SlS.lit w4 1 _ _ _ rfl (by simp) rfl (by decide))
      refine (nsend_one (x := ⟨(pingD 1 (2 + T) (j : Int)), none, 0, []⟩) (S4.out.nv.ext A5.out) Q5.out (msg_nil POK.out) (sep_new (w := w4) S4.out.nv.box.hi (fun i hi => (S4.out.nv.row.lt i hi).2) (Nat.le_refl _)) (sep_none _ _)).mono ?_
      rintro e w6 ⟨p6, c6, ds6, rfl, n6, k6, m6, f6⟩
      have S6 := Lib.hid ((S4.out.ext A5.out).net m6 n6 f6)
      have K6 : Hid (ds6.map mkD = (xs ++ [(⟨(pingD 1 (2 + T) (j : Int)), none, 0, []⟩ : MsgD)]).map keyM) := Lib.hid (by
        rw [k6]
        unfold stepK
        rw [MAY.out, List.length_map, decide_eq_true HKL.out, KEY.out]
        simp [keyM])
      have X6 : Hid (Ext w w6) := Lib.hid (Below.trans (XX4.out.tr A5.out) (m6.below (XX4.out.tr A5.out).size HG.out (fun i hi => by have := S4.out.nv.plt i hi; have := HG.out; omega)))
      clear n6 k6 m6 f6 S4 XX4 A5 Q5 R4
      go_wp2
      go_roundw
      case rel => exact ⟨j + 1, p4, c4, p6, c6, _, ds6, by omega, by go_num, by simp [HX.out], by simp [HX.out], S6.out, K6.out, X6.out⟩
      case measure => simp [intOf]; omega
    · obtain rfl : j = N := by omega
      obtain ⟨wA, hwA⟩ : ∃ x, x = wr := ⟨_, rfl⟩
      subst hwA
      have hx60 : xs.length ≤ 60 := by omega
      go_wp2_with fail
      go_loopw [7, 10] (fun l i wr => ∃ (k : Nat) (pl : Option Addr) (cl : Nat) (pn : Option Addr) (cn : Nat) (xs : List MsgD) (ds : List MailD), k ≤ m ∧ k ≤ 40 ∧ i = .int .i64 (k : Int) ∧ l = .slice pl xs.length cl ∧ xs.length ≤ 60 ∧ ST wr g pl cl pn cn xs ds ∧ ds.map mkD = xs.map keyM ∧ Ext w wr) (fun _ i _ => m - (intOf i).toNat)
      case atStart => exact ⟨0, pl, cl, pn, cn, xs, ds, by omega, by omega, rfl, rfl, hx60, S.out, KEY.out, XX.out⟩
      clear S KEY XX HXL hxl hx60
      case round =>
        obtain ⟨k, ql, kl, qn, kn, ys, es, hk, hk40, rfl, rfl, hx60, hst, hkey, hx⟩ := hrel
        have S := Lib.hid hst
        have KEY := Lib.hid hkey
        have XX := Lib.hid hx
        clear hst hkey hx
        by_cases hgo : k < m ∧ k < 40 ∧ 0 < ys.length
        · obtain ⟨h1, h2, h3⟩ := hgo
          obtain ⟨b, o, z, hq, -, cz, -⟩ := (Z.out.ext XX.out).at k h1
          obtain ⟨bl, ol, hpl, hcl⟩ := S.out.lv.sl.cells h3
          subst hpl
          have b1 : (k : Int) < (m : Int) := by omega
          have b2 : (k : Int) < 40 := by omega
          have b3 : (0 : Int) < (ys.length : Int) := by omega
          obtain ⟨R, hR⟩ : ∃ R, R = Int.tmod z (ys.length : Int) := ⟨_, rfl⟩
          have hR1 : R < (ys.length : Int) := by rw [hR]; exact Int.tmod_lt_of_pos _ b3
          have hR2 : -(ys.length : Int) < R := by rw [hR]; exact Int.lt_tmod_of_pos _ b3
          have e2 : wrap64 (R + (ys.length : Int)) = R + (ys.length : Int) := by unfold wrap64; omega
          obtain ⟨K, hK⟩ : ∃ K : Nat, (K : Int) = Int.tmod (R + (ys.length : Int)) (ys.length : Int) := ⟨(Int.tmod (R + (ys.length : Int)) (ys.length : Int)).toNat, by
            have := Int.tmod_nonneg (ys.length : Int) (show 0 ≤ R + (ys.length : Int) by omega)
            omega⟩
          have hKl : K < ys.length := by
            have := Int.tmod_lt_of_pos (R + (ys.length : Int)) b3
            omega
          replace hR := hR.symm
          replace hK := hK.symm
          have b4 : ¬ (ys.length : Int) = 0 := by omega
          have b5 : ¬ ys.length = 0 := by omega
          obtain ⟨l1, l2, l3⟩ := look_key KEY.out hKl
          obtain ⟨B, hB⟩ : ∃ B, B = encM (ys[K]).m (ys[K]).L := ⟨_, rfl⟩
          rw [← hB] at l1
          have HB := Lib.hid hB
          have T := ntake_any S.out.nv (K : Int)
          rw [l1, l3] at T
          have HKL := Lib.hid hKl
          clear l1 l2 l3 hB hR1 hR2 hcl
          subst hq
          go_wp2_with fail
          clear hK hR e2 b4 b5 b3 cz
          refine T.mono ?_
          rintro e w4 ⟨p5, c5, rfl, o5, n5, m5⟩
          have O5 := Lib.hid o5.sl
          have S5 := Lib.hid (S.out.net m5 n5 (Fr.same _ _))
          have KEY5 := Lib.hid (drop_key KEY.out hKl)
          have X5 : Hid (Ext w w4) := Lib.hid (Below.trans XX.out (m5.below XX.out.size HG.out (fun i hi => by have := S.out.nv.plt i hi; have := HG.out; omega)))
          generalize dropN es (K : Int) = ds5 at *
          clear o5 n5 m5 T S KEY XX
          have OKX : Hid (MsgO w4 (g + 1) ys[K]) := Lib.hid (S5.out.ok _ (List.getElem_mem HKL.out))
          have HCW : Hid (∀ j v, (msgL ys[K])[j]? = some v → w4.cell? ⟨bl, ol + K * 13 + j, none⟩ = some v) := Lib.hid (fun j v hv => by
            obtain ⟨b', o', he, hc⟩ := S5.out.lv.sl.cells (by omega)
            cases he
            rw [Nat.add_assoc]
            exact hc K (msgL ys[K]) (by rw [List.getElem?_map, List.getElem?_eq_getElem HKL.out]; rfl) j v hv)
          generalize ys[K] = x at *
          obtain ⟨xm, xp, xc, xL⟩ := x
          simp only at HB
          go_upto_region 19 with fail
          obtain ⟨w9, hw9⟩ : ∃ w9, w9 = w4.drew := ⟨_, rfl⟩
          replace S5 : Hid (ST w9 g (some ⟨bl, ol, none⟩) kl qn kn ys ds5) := Lib.hid (by rw [hw9]; exact S5.out.ext (Ext.drew w4))
          replace X5 : Hid (Ext w w9) := Lib.hid (by rw [hw9]; exact X5.out.tr (Ext.drew w4))
          replace OKX : Hid (MsgO w9 (g + 1) ⟨xm, xp, xc, xL⟩) := Lib.hid (by rw [hw9]; exact OKX.out.ext (Ext.drew w4))
          replace O5 : Hid (SlP w9 p5 B.length c5 B) := Lib.hid (by rw [hw9]; exact O5.out.ext (Ext.drew w4))
          have HROW : Hid (∀ j v, (msL xm xp xL.length xc)[j]? = some v → w9.cell? ⟨bl, ol + K * 13 + j, none⟩ = some v) := Lib.hid (fun j v hv => by rw [hw9]; exact Ext.cell (Ext.drew w4) (HCW.out j v hv))
          have cv := fun d os => str_of (O5.out.ext (Ext.reg w9 d os))
          have r0 : ∀ d os, (grow (redrawn w9 d) os).cell? ⟨bl, ol + K * 13, none⟩ = some (.int .i64 xm.kd) := fun d os => Ext.cell (Ext.reg w9 d os) (HROW.out 0 _ rfl)
          have r1 := fun d os => Ext.cell (Ext.reg w9 d os) (HROW.out 1 _ rfl)
          have r2 := fun d os => Ext.cell (Ext.reg w9 d os) (HROW.out 2 _ rfl)
          have r3 := fun d os => Ext.cell (Ext.reg w9 d os) (HROW.out 3 _ rfl)
          have r4 := fun d os => Ext.cell (Ext.reg w9 d os) (HROW.out 4 _ rfl)
          have r5 := fun d os => Ext.cell (Ext.reg w9 d os) (HROW.out 5 _ rfl)
          have r6 := fun d os => Ext.cell (Ext.reg w9 d os) (HROW.out 6 _ rfl)
          have r7 := fun d os => Ext.cell (Ext.reg w9 d os) (HROW.out 7 _ rfl)
          have r8 := fun d os => Ext.cell (Ext.reg w9 d os) (HROW.out 8 _ rfl)
          have r9 := fun d os => Ext.cell (Ext.reg w9 d os) (HROW.out 9 _ rfl)
          have r10 := fun d os => Ext.cell (Ext.reg w9 d os) (HROW.out 10 _ rfl)
          have r11 := fun d os => Ext.cell (Ext.reg w9 d os) (HROW.out 11 _ rfl)
          have r12 := fun d os => Ext.cell (Ext.reg w9 d os) (HROW.out 12 _ rfl)
          try simp only at r0 r1 r2 r3 r4 r5 r6 r7 r8 r9 r10 r11 r12
          have b6 : (K : Int) < (ys.length : Int) := by omega
          refine rw_start [0, 1, 2, 3, 4, 5, 6, 7, 8, 9, 10, 11, 12] (by kernel_rfl) (by kernel_rfl) (fun _ _ d _ _ h => by cases d <;> exact h) ?_
          rw [← hw9]
          clear hw9 HCW
          repeat (first | (refine rw_quiet rfl (by rfl) (by rfl) (fun K hK => ?_); go_big_quiet_op; refine hK _ ?_; clear hK K) | (refine rw_skip rfl (by rfl) (fun K hK => ?_); go_big_quiet_op; refine hK _ ?_; clear hK K))
          clear cv r0 r1 r2 r3 r4 r5 r6 r7 r8 r9 r10 r11 r12
          refine rw_call rfl (by rfl) (by rfl) (fun K hK => ?_)
          go_simp
          have T1 := rbytesm_any (m := xm) OKX.out.ok OKX.out.ow.sl OKX.out.en
          rw [← HB.out] at T1
          refine T1.mono ?_
          rintro e w10 ⟨p10, c10, rfl, o10, x10⟩
          refine hK _ _ x10 ?_
          clear hK K
          have S10 := Lib.hid (S5.out.ext x10)
          have X10 := Lib.hid (X5.out.tr x10)
          have cv := fun d os => str_of (o10.sl.ext (Ext.reg w10 d os))
          clear o10 x10 T1
          repeat (first | (refine rw_quiet rfl (by rfl) (by rfl) (fun K hK => ?_); go_big_quiet_op; refine hK _ ?_; clear hK K) | (refine rw_skip rfl (by rfl) (fun K hK => ?_); go_big_quiet_op; refine hK _ ?_; clear hK K))
          clear cv
          refine rw_nil ?_
          go_upto_region 21 with fail
          have hle := S10.out.lv.sl.le
          have b7 : (K : Int) + 1 ≤ (ys.length : Int) := by omega
          have b8 : (0 : Int) ≤ (K : Int) + 1 := by omega
          have b9 : K ≤ kl := by omega
          have b10 : (K : Int) ≤ (kl : Int) := by omega
          have e9 : wrap64 ((K : Int) + 1) = (K : Int) + 1 := by unfold wrap64; omega
          have e10 : IntKind.i64.wrap ((K : Int) + 1) = (K : Int) + 1 := IntWalk.i64_in _ (by omega)
          obtain ⟨A, hA, hAif⟩ : ∃ A, tailS 13 (some ⟨bl, ol, none⟩) kl (K + 1) = some A ∧ (if kl = K + 1 then (some ⟨bl, ol, none⟩ : Option Addr) else some ⟨bl, ol + (K + 1) * 13, none⟩) = some A := by
            unfold tailS
            by_cases hc : kl = K + 1
            · exact ⟨⟨bl, ol, none⟩, by rw [if_pos hc], by rw [if_pos hc]⟩
            · exact ⟨⟨bl, ol + (K + 1) * 13, none⟩, by rw [if_neg hc]; simp [Addr.add_lit], by rw [if_neg hc]⟩
          have LVd := Lib.hid (S10.out.lv.ext (Ext.drew w10))
          have hb : g + 1 ≤ w10.drew.heap.size := S10.out.nv.box.hi
          have HA := Lib.hid hA
          clear hA
          go_region_law (refine step_del rfl (.tmp 95) (.tmp 99) rfl (g + 1) (some ⟨bl, ol, none⟩) ys.length kl (ys.map msgL) LVd.out (msgs_one ys) K HKL.out (by simp [Act.eval, Act.put]) (by simp [Act.eval, Act.put, HA.out]) (by omega) hb ?_; intro p11 cl11 w11 lv11 x11 f11)
          all_goals
            have X11 := Lib.hid ((Ext.drew w10).tr x11)
            have S11 := Lib.hid (S10.out.cut HKL.out X11.out lv11 (Fr.ext f11 (Ext.drew w10)))
            clear lv11 x11 f11
            have hl11 : (ys.eraseIdx K).length = ys.length - 1 := by rw [List.length_eraseIdx, if_pos HKL.out]
            have H11 := Lib.hid hl11
            clear hl11 hle b7 b8 b9 b10 e9 e10 hAif hb LVd
            go_wp2
            go_roundw
            case rel => exact ⟨k + 1, p11, cl11, qn, kn, ys.eraseIdx K, ds5, by omega, by omega, by go_num, by rw [H11.out], by rw [H11.out]; omega, S11.out, KEY5.out, X10.out.tr X11.out⟩
            case measure => simp [intOf]; omega
        · have hout : ¬ k < m ∨ (k < m ∧ ¬ k < 40) ∨ (k < m ∧ k < 40 ∧ ys.length = 0) := by omega
          clear hgo
          obtain ⟨wB, hwB⟩ : ∃ x, x = wr := ⟨_, rfl⟩
          subst hwB
          have hk0 : k ≤ m := hk
          rcases hout with h1 | ⟨h1, h2⟩ | ⟨h1, h2, h3⟩
          · have b1 : ¬ (k : Int) < (m : Int) := by omega
            clear hk hk40 hk0
            go_wp2_with fail
            go_loopw [14] (fun i wr => ∃ (t : Nat), t ≤ ys.length ∧ i = .int .i64 (t : Int) ∧ ST wr g ql kl qn kn ys es ∧ Ext w wr) (fun i _ => ys.length - (intOf i).toNat)
            case atStart => exact ⟨0, by omega, rfl, S.out, XX.out⟩
            case round =>
              obtain ⟨t, ht, rfl, hst, hx⟩ := hrel
              clear S XX
              have S := Lib.hid hst
              have XX := Lib.hid hx
              clear hst hx
              by_cases htl : t < ys.length
              · obtain ⟨bl, ol, hpl, hcl⟩ := S.out.lv.sl.cells (by omega)
                subst hpl
                clear hcl
                obtain ⟨x, hxk⟩ : ∃ x, ys[t]? = some x := ⟨ys[t]'htl, List.getElem?_eq_getElem htl⟩
                have HXK := Lib.hid hxk
                obtain ⟨l1, l2, l3⟩ := look_at KEY.out hxk
                obtain ⟨B, hB⟩ : ∃ B, B = encM x.m x.L := ⟨_, rfl⟩
                clear hxk
                rw [← hB] at l1
                have HB := Lib.hid hB
                have T := nlook_any S.out.nv (t : Int)
                rw [l1, l3] at T
                have L2 := Lib.hid l2
                have c5 : (t : Int) < (ys.length : Int) := by omega
                clear l1 l2 l3 hB
                go_wp2_with fail
                refine T.mono ?_
                rintro e w4 ⟨p5, c5', rfl, o5, x5⟩
                have O5 := Lib.hid o5.sl
                have S5 := Lib.hid (S.out.ext x5)
                have X5 := Lib.hid (XX.out.tr x5)
                clear o5 x5 T S XX
                have OKX : Hid (MsgO w4 (g + 1) x) := Lib.hid (S5.out.ok _ (List.mem_of_getElem? HXK.out))
                have HCW : Hid (∀ j v, (msgL x)[j]? = some v → w4.cell? ⟨bl, ol + t * 13 + j, none⟩ = some v) := Lib.hid (fun j v hv => by
                  obtain ⟨b', o', he, hc⟩ := S5.out.lv.sl.cells (by omega)
                  cases he
                  rw [Nat.add_assoc]
                  exact hc t (msgL x) (by rw [List.getElem?_map, HXK.out]; rfl) j v hv)
                clear HXK
                obtain ⟨xm, xp, xc, xL⟩ := x
                simp only at HB L2
                go_upto_region 26 with fail
                obtain ⟨w9, hw9⟩ : ∃ w9, w9 = w4.drew := ⟨_, rfl⟩
                replace S5 : Hid (ST w9 g (some ⟨bl, ol, none⟩) kl qn kn ys es) := Lib.hid (by rw [hw9]; exact S5.out.ext (Ext.drew w4))
                replace X5 : Hid (Ext w w9) := Lib.hid (by rw [hw9]; exact X5.out.tr (Ext.drew w4))
                replace OKX : Hid (MsgO w9 (g + 1) ⟨xm, xp, xc, xL⟩) := Lib.hid (by rw [hw9]; exact OKX.out.ext (Ext.drew w4))
                replace O5 : Hid (SlP w9 p5 B.length c5' B) := Lib.hid (by rw [hw9]; exact O5.out.ext (Ext.drew w4))
                have HROW : Hid (∀ j v, (msL xm xp xL.length xc)[j]? = some v → w9.cell? ⟨bl, ol + t * 13 + j, none⟩ = some v) := Lib.hid (fun j v hv => by rw [hw9]; exact Ext.cell (Ext.drew w4) (HCW.out j v hv))
                have cv := fun d os => str_of (O5.out.ext (Ext.reg w9 d os))
                have r0 : ∀ d os, (grow (redrawn w9 d) os).cell? ⟨bl, ol + t * 13, none⟩ = some (.int .i64 xm.kd) := fun d os => Ext.cell (Ext.reg w9 d os) (HROW.out 0 _ rfl)
                have r1 := fun d os => Ext.cell (Ext.reg w9 d os) (HROW.out 1 _ rfl)
                have r2 := fun d os => Ext.cell (Ext.reg w9 d os) (HROW.out 2 _ rfl)
                have r3 := fun d os => Ext.cell (Ext.reg w9 d os) (HROW.out 3 _ rfl)
                have r4 := fun d os => Ext.cell (Ext.reg w9 d os) (HROW.out 4 _ rfl)
                have r5 := fun d os => Ext.cell (Ext.reg w9 d os) (HROW.out 5 _ rfl)
                have r6 := fun d os => Ext.cell (Ext.reg w9 d os) (HROW.out 6 _ rfl)
                have r7 := fun d os => Ext.cell (Ext.reg w9 d os) (HROW.out 7 _ rfl)
                have r8 := fun d os => Ext.cell (Ext.reg w9 d os) (HROW.out 8 _ rfl)
                have r9 := fun d os => Ext.cell (Ext.reg w9 d os) (HROW.out 9 _ rfl)
                have r10 := fun d os => Ext.cell (Ext.reg w9 d os) (HROW.out 10 _ rfl)
                have r11 := fun d os => Ext.cell (Ext.reg w9 d os) (HROW.out 11 _ rfl)
                have r12 := fun d os => Ext.cell (Ext.reg w9 d os) (HROW.out 12 _ rfl)
                try simp only at r0 r1 r2 r3 r4 r5 r6 r7 r8 r9 r10 r11 r12
                refine rw_start [0, 1, 2, 3, 4, 5, 6, 7, 8, 9, 10, 11, 12, 13, 14, 15, 17, 18, 19, 20, 21, 16, 22, 23] (by kernel_rfl) (by kernel_rfl) (fun _ _ d _ _ h => by cases d <;> exact h) ?_
                rw [← hw9]
                clear hw9 HCW
                repeat (first | (refine rw_quiet rfl (by rfl) (by rfl) (fun K hK => ?_); go_big_quiet_op; refine hK _ ?_; clear hK K) | (refine rw_skip rfl (by rfl) (fun K hK => ?_); go_big_quiet_op; refine hK _ ?_; clear hK K))
                clear cv r0 r1 r2 r3 r4 r5 r6 r7 r8 r9 r10 r11 r12
                refine rw_call rfl (by rfl) (by rfl) (fun K hK => ?_)
                go_simp
                have T1 := rbytesm_any (m := xm) OKX.out.ok OKX.out.ow.sl OKX.out.en
                rw [← HB.out] at T1
                refine T1.mono ?_
                rintro e w10 ⟨p10, c10, rfl, o10, x10⟩
                refine hK _ _ x10 ?_
                clear hK K
                have S10 := Lib.hid (S5.out.ext x10)
                have X10 := Lib.hid (X5.out.tr x10)
                have cv := fun d os => str_of (o10.sl.ext (Ext.reg w10 d os))
                have r2 := fun d os => Ext.cell (Ext.reg w10 d os) (Ext.cell x10 (HROW.out 2 _ rfl))
                try simp only at r2
                clear o10 x10 T1
                repeat (first | (refine rw_quiet rfl (by rfl) (by rfl) (fun K hK => ?_); go_big_quiet_op; refine hK _ ?_; clear hK K) | (refine rw_skip rfl (by rfl) (fun K hK => ?_); go_big_quiet_op; refine hK _ ?_; clear hK K))
                clear cv r2
                refine rw_call rfl (by rfl) (by rfl) (fun K hK => ?_)
                go_simp
                have T2 := nto_any S10.out.nv (t : Int)
                rw [L2.out] at T2
                refine T2.mono ?_
                rintro e w11 ⟨rfl, rfl⟩
                refine hK _ _ (Ext.rfl' _) ?_; clear hK K
                repeat (first | (refine rw_quiet rfl (by rfl) (by rfl) (fun K hK => ?_); go_big_quiet_op; refine hK _ ?_; clear hK K) | (refine rw_skip rfl (by rfl) (fun K hK => ?_); go_big_quiet_op; refine hK _ ?_; clear hK K))
                refine rw_nil ?_
                clear T2
                go_wp2
                go_roundw
                case rel => exact ⟨t + 1, by omega, by go_num, S10.out, X10.out⟩
                case measure => simp [intOf]; omega
              · obtain rfl : t = ys.length := by omega
                go_wp2_with fail
                have T := nlen_any S.out.nv
                rw [len_key KEY.out] at T
                refine T.mono ?_
                rintro e w4 ⟨rfl, rfl⟩
                clear T
                go_wp2
                go_ret
                exact ⟨by simp, XX.out⟩
          · have b1 : (k : Int) < (m : Int) := by omega
            have b2 : ¬ (k : Int) < 40 := by omega
            clear hk hk40 hk0
            go_wp2_with fail
            go_loopw [14] (fun i wr => ∃ (t : Nat), t ≤ ys.length ∧ i = .int .i64 (t : Int) ∧ ST wr g ql kl qn kn ys es ∧ Ext w wr) (fun i _ => ys.length - (intOf i).toNat)
            case atStart => exact ⟨0, by omega, rfl, S.out, XX.out⟩
            case round =>
              obtain ⟨t, ht, rfl, hst, hx⟩ := hrel
              clear S XX
              have S := Lib.hid hst
              have XX := Lib.hid hx
              clear hst hx
              by_cases htl : t < ys.length
              · obtain ⟨bl, ol, hpl, hcl⟩ := S.out.lv.sl.cells (by omega)
                subst hpl
                clear hcl
                obtain ⟨x, hxk⟩ : ∃ x, ys[t]? = some x := ⟨ys[t]'htl, List.getElem?_eq_getElem htl⟩
                have HXK := Lib.hid hxk
                obtain ⟨l1, l2, l3⟩ := look_at KEY.out hxk
                obtain ⟨B, hB⟩ : ∃ B, B = encM x.m x.L := ⟨_, rfl⟩
                clear hxk
                rw [← hB] at l1
                have HB := Lib.hid hB
                have T := nlook_any S.out.nv (t : Int)
                rw [l1, l3] at T
                have L2 := Lib.hid l2
                have c5 : (t : Int) < (ys.length : Int) := by omega
                clear l1 l2 l3 hB
                go_wp2_with fail
                refine T.mono ?_
                rintro e w4 ⟨p5, c5', rfl, o5, x5⟩
                have O5 := Lib.hid o5.sl
                have S5 := Lib.hid (S.out.ext x5)
                have X5 := Lib.hid (XX.out.tr x5)
                clear o5 x5 T S XX
                have OKX : Hid (MsgO w4 (g + 1) x) := Lib.hid (S5.out.ok _ (List.mem_of_getElem? HXK.out))
                have HCW : Hid (∀ j v, (msgL x)[j]? = some v → w4.cell? ⟨bl, ol + t * 13 + j, none⟩ = some v) := Lib.hid (fun j v hv => by
                  obtain ⟨b', o', he, hc⟩ := S5.out.lv.sl.cells (by omega)
                  cases he
                  rw [Nat.add_assoc]
                  exact hc t (msgL x) (by rw [List.getElem?_map, HXK.out]; rfl) j v hv)
                clear HXK
                obtain ⟨xm, xp, xc, xL⟩ := x
                simp only at HB L2
                go_upto_region 26 with fail
                obtain ⟨w9, hw9⟩ : ∃ w9, w9 = w4.drew := ⟨_, rfl⟩
                replace S5 : Hid (ST w9 g (some ⟨bl, ol, none⟩) kl qn kn ys es) := Lib.hid (by rw [hw9]; exact S5.out.ext (Ext.drew w4))
                replace X5 : Hid (Ext w w9) := Lib.hid (by rw [hw9]; exact X5.out.tr (Ext.drew w4))
                replace OKX : Hid (MsgO w9 (g + 1) ⟨xm, xp, xc, xL⟩) := Lib.hid (by rw [hw9]; exact OKX.out.ext (Ext.drew w4))
                replace O5 : Hid (SlP w9 p5 B.length c5' B) := Lib.hid (by rw [hw9]; exact O5.out.ext (Ext.drew w4))
                have HROW : Hid (∀ j v, (msL xm xp xL.length xc)[j]? = some v → w9.cell? ⟨bl, ol + t * 13 + j, none⟩ = some v) := Lib.hid (fun j v hv => by rw [hw9]; exact Ext.cell (Ext.drew w4) (HCW.out j v hv))
                have cv := fun d os => str_of (O5.out.ext (Ext.reg w9 d os))
                have r0 : ∀ d os, (grow (redrawn w9 d) os).cell? ⟨bl, ol + t * 13, none⟩ = some (.int .i64 xm.kd) := fun d os => Ext.cell (Ext.reg w9 d os) (HROW.out 0 _ rfl)
                have r1 := fun d os => Ext.cell (Ext.reg w9 d os) (HROW.out 1 _ rfl)
                have r2 := fun d os => Ext.cell (Ext.reg w9 d os) (HROW.out 2 _ rfl)
                have r3 := fun d os => Ext.cell (Ext.reg w9 d os) (HROW.out 3 _ rfl)
                have r4 := fun d os => Ext.cell (Ext.reg w9 d os) (HROW.out 4 _ rfl)
                have r5 := fun d os => Ext.cell (Ext.reg w9 d os) (HROW.out 5 _ rfl)
                have r6 := fun d os => Ext.cell (Ext.reg w9 d os) (HROW.out 6 _ rfl)
                have r7 := fun d os => Ext.cell (Ext.reg w9 d os) (HROW.out 7 _ rfl)
                have r8 := fun d os => Ext.cell (Ext.reg w9 d os) (HROW.out 8 _ rfl)
                have r9 := fun d os => Ext.cell (Ext.reg w9 d os) (HROW.out 9 _ rfl)
                have r10 := fun d os => Ext.cell (Ext.reg w9 d os) (HROW.out 10 _ rfl)
                have r11 := fun d os => Ext.cell (Ext.reg w9 d os) (HROW.out 11 _ rfl)
                have r12 := fun d os => Ext.cell (Ext.reg w9 d os) (HROW.out 12 _ rfl)
                try simp only at r0 r1 r2 r3 r4 r5 r6 r7 r8 r9 r10 r11 r12
                refine rw_start [0, 1, 2, 3, 4, 5, 6, 7, 8, 9, 10, 11, 12, 13, 14, 15, 17, 18, 19, 20, 21, 16, 22, 23] (by kernel_rfl) (by kernel_rfl) (fun _ _ d _ _ h => by cases d <;> exact h) ?_
                rw [← hw9]
                clear hw9 HCW
                repeat (first | (refine rw_quiet rfl (by rfl) (by rfl) (fun K hK => ?_); go_big_quiet_op; refine hK _ ?_; clear hK K) | (refine rw_skip rfl (by rfl) (fun K hK => ?_); go_big_quiet_op; refine hK _ ?_; clear hK K))
                clear cv r0 r1 r2 r3 r4 r5 r6 r7 r8 r9 r10 r11 r12
                refine rw_call rfl (by rfl) (by rfl) (fun K hK => ?_)
                go_simp
                have T1 := rbytesm_any (m := xm) OKX.out.ok OKX.out.ow.sl OKX.out.en
                rw [← HB.out] at T1
                refine T1.mono ?_
                rintro e w10 ⟨p10, c10, rfl, o10, x10⟩
                refine hK _ _ x10 ?_
                clear hK K
                have S10 := Lib.hid (S5.out.ext x10)
                have X10 := Lib.hid (X5.out.tr x10)
                have cv := fun d os => str_of (o10.sl.ext (Ext.reg w10 d os))
                have r2 := fun d os => Ext.cell (Ext.reg w10 d os) (Ext.cell x10 (HROW.out 2 _ rfl))
                try simp only at r2
                clear o10 x10 T1
                repeat (first | (refine rw_quiet rfl (by rfl) (by rfl) (fun K hK => ?_); go_big_quiet_op; refine hK _ ?_; clear hK K) | (refine rw_skip rfl (by rfl) (fun K hK => ?_); go_big_quiet_op; refine hK _ ?_; clear hK K))
                clear cv r2
                refine rw_call rfl (by rfl) (by rfl) (fun K hK => ?_)
                go_simp
                have T2 := nto_any S10.out.nv (t : Int)
                rw [L2.out] at T2
                refine T2.mono ?_
                rintro e w11 ⟨rfl, rfl⟩
                refine hK _ _ (Ext.rfl' _) ?_; clear hK K
                repeat (first | (refine rw_quiet rfl (by rfl) (by rfl) (fun K hK => ?_); go_big_quiet_op; refine hK _ ?_; clear hK K) | (refine rw_skip rfl (by rfl) (fun K hK => ?_); go_big_quiet_op; refine hK _ ?_; clear hK K))
                refine rw_nil ?_
                clear T2
                go_wp2
                go_roundw
                case rel => exact ⟨t + 1, by omega, by go_num, S10.out, X10.out⟩
                case measure => simp [intOf]; omega
              · obtain rfl : t = ys.length := by omega
                go_wp2_with fail
                have T := nlen_any S.out.nv
                rw [len_key KEY.out] at T
                refine T.mono ?_
                rintro e w4 ⟨rfl, rfl⟩
                clear T
                go_wp2
                go_ret
                exact ⟨by simp, XX.out⟩
          · have b1 : (k : Int) < (m : Int) := by omega
            have b2 : (k : Int) < 40 := by omega
            clear hk hk40 hk0
            go_wp2_with fail
            go_loopw [14] (fun i wr => ∃ (t : Nat), t ≤ ys.length ∧ i = .int .i64 (t : Int) ∧ ST wr g ql kl qn kn ys es ∧ Ext w wr) (fun i _ => ys.length - (intOf i).toNat)
            case atStart => exact ⟨0, by omega, rfl, S.out, XX.out⟩
            case round =>
              obtain ⟨t, ht, rfl, hst, hx⟩ := hrel
              clear S XX
              have S := Lib.hid hst
              have XX := Lib.hid hx
              clear hst hx
              by_cases htl : t < ys.length
              · omega
              · obtain rfl : t = ys.length := by omega
                go_wp2_with fail
                have T := nlen_any S.out.nv
                rw [len_key KEY.out] at T
                refine T.mono ?_
                rintro e w4 ⟨rfl, rfl⟩
                clear T
                go_wp2
                go_ret
                exact ⟨by simp, XX.out⟩
end Go.Proofs.Ytgplmbchlahbkaa
