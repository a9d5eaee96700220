/-
  The statement NetOwn: curfewlaw18.NetOwn answers true. Conditions: that the arguments are readable, a parameter of walk_NetOwn each.
-/
import Derived.Test.YtgplmbchlahbkaaNet6
import Derived.Test.YtgplmbchlahbkaaWire10
namespace Go.Proofs.Ytgplmbchlahbkaa
open Go Go.Sort Go.RowKit
set_option linter.unusedVariables false

theorem nrange {w : World} {base g : Nat} {vs : List Value} (h : BoxV w base g vs) : w.rangeAt g 0 vs := fun j v hv => by rw [Nat.zero_add]; exact h.c j v hv
theorem u8_inc (x : UInt8) : ((x.toNat : Int) + 1) % 256 = ((x + 1 : UInt8).toNat : Int) := by
  rw [UInt8.toNat_add]
  simp
theorem map_one {ds : List MailD} {a : Int × List UInt8} (h : ds.map mkD = [a]) : ∃ d, ds = [d] ∧ mkD d = a := by
  match ds, h with
  | [d], h => simp at h; exact ⟨d, rfl, h⟩
theorem OwP.form {w : World} {base : Nat} {p : Option Addr} {n cap : Nat} {l : List UInt8} (h : OwP w base p n cap l) (hn : 0 < n) : ∃ g, p = some ⟨g, 0, none⟩ ∧ base ≤ g := by
  rcases h.2.2 with ⟨hv, h0⟩ | ⟨g, c, cur, hv, hg, r⟩
  · omega
  · cases hv
    exact ⟨g, rfl, hg⟩

set_option maxRecDepth 8000 in
set_option maxHeartbeats 8000000 in
theorem walk_NetOwn {m : MsD} {p : Option Addr} {n k : Nat} {L : List EnD} {w : World} (o1 : MsOk m) (s1 : SlS 7 w p n k (L.map enL)) (q1 : ∀ e ∈ L, EnOk e) :
    Calls Try.prog 5 #[msV m p n k] w fun e w' => e = .returned (.bool true) ∧ Below w.heap.size w w' := by
  obtain ⟨w0, hw0⟩ : ∃ w0, w0 = w.alloc (.cells (msA m p n k) 31) := ⟨_, rfl⟩
  have TA : Hid (BoxV w0 w.heap.size w.heap.size (msL m p n k)) := Lib.hid (by rw [hw0]; exact BoxV.new w w.heap.size (msA m p n k) (msL m p n k) 31 _ rfl (Nat.le_refl _) rfl)
  have X : Hid (Ext w w0) := Lib.hid (by rw [hw0]; exact Ext.alloc w _)
  have S1 := Lib.hid s1
  have Q1 := Lib.hid q1
  have OK := Lib.hid o1
  clear s1 q1 o1
  go_enter Try.func5, Try.ntmps5
  go_wp2_with fail
  change Calls _ _ _ (w.alloc (.cells (msA m p n k) 31)) _
  rw [← hw0]
  clear hw0
  refine (begun18 _).mono ?_
  rintro e w1 ⟨rfl, x1⟩
  replace X := Lib.hid (X.out.tr x1)
  replace TA := Lib.hid (TA.out.ext x1)
  clear x1
  have R1 := Lib.hid (nrange TA.out)
  go_wp2_with ((with_reducible (refine wpList_load_mid (op := ⟨some 13, .load 31 (.tmp 1), _, _, _, _⟩) ?_ 31 (.tmp 1) ?_ (w.heap.size) (0) ?_ (msL m p n k) _ ?_ Try.underlying31 ?_ ?_ ?_)); (rfl); (rfl); (rfl); exact R1.out; (rfl); exact msg_size)
  clear R1
  refine (wcut_any (m := m) (S1.out.ext X.out) Q1.out).mono ?_
  rintro e2 w2 ⟨M1, p3, c3, rfl, hM1, u1, v1, x2⟩
  have U1 := Lib.hid u1
  have V1 := Lib.hid v1
  have GT := Lib.hid TA.out.hi
  replace X := Lib.hid (X.out.tr x2)
  replace TA := Lib.hid (TA.out.ext x2)
  clear x2 u1 v1 S1
  have TH : Hid (w2.there w.heap.size 0 13) := Lib.hid (nthere TA.out)
  go_upto_region 5 with ((with_reducible (refine wpList_store_mid (op := ⟨none, .store 31 (.tmp 1) (.tmp 14), _, _, _, _⟩) ?_ 31 (.tmp 1) (.tmp 14) ?_ (w.heap.size) 0 (msA m p3 M1.length c3) ?_ ?_ ?_ ?_ ?_ ?_)); (rfl); (rfl); (rfl); (rfl); exact TH.out; exact msg_size; exact msg_one _ _ _ _)
  clear TH
  have FA : Hid (BoxV (w2.setCells w.heap.size 0 (msL m p3 M1.length c3)) w.heap.size w.heap.size (msL m p3 M1.length c3)) := Lib.hid (by rw [nfill]; exact TA.out.fill (vs := msL m p3 M1.length c3) (Nat.le_refl _))
  have FG : Hid (w2.grownBy (w2.setCells w.heap.size 0 (msL m p3 M1.length c3)) (some w.heap.size)) := Lib.hid (by rw [nfill]; exact fillV_grown w.heap.size (msL m p3 M1.length c3) 0 w2 w2 (grown_refl _ _))
  have FX : Hid (Ext w (w2.setCells w.heap.size 0 (msL m p3 M1.length c3))) := Lib.hid (by rw [nfill]; exact fillV_below X.out (Nat.le_refl _) (msL m p3 M1.length c3) 0)
  have FU1 := Lib.hid (U1.out.kept FG.out (fun k hk => by
    cases hk
    intro hc
    have h1 := U1.out.lt _ hc
    have h3 := GT.out
    omega))
  change Code.wp _ _ _ _ (w2.setCells w.heap.size 0 (msL m p3 M1.length c3))
  clear FG TA X U1
  generalize w2.setCells w.heap.size 0 (msL m p3 M1.length c3) = w3 at *
  have R1 := Lib.hid (nrange FA.out)
  go_wp2_with ((with_reducible (refine wpList_load_mid (op := ⟨some 15, .load 31 (.tmp 1), _, _, _, _⟩) ?_ 31 (.tmp 1) ?_ (w.heap.size) (0) ?_ (msL m p3 M1.length c3) _ ?_ Try.underlying31 ?_ ?_ ?_)); (rfl); (rfl); (rfl); exact R1.out; (rfl); exact msg_size)
  have T1 := rmaym_any (m := m) FU1.out.sl V1.out
  cases hm : mayM m M1
  · rw [hm] at T1
    clear hm
    refine T1.mono ?_
    rintro e w4 ⟨rfl, x4⟩
    have X4 := Lib.hid (FX.out.tr x4)
    clear x4
    go_wp2
    go_ret
    exact ⟨rfl, X4.out⟩
  · rw [hm] at T1
    obtain ⟨B, hB⟩ : ∃ B, B = encM m M1 := ⟨_, rfl⟩
    have HB := Lib.hid hB
    have HBL : Hid (0 < B.length) := Lib.hid (by have := encM_pos hm; rw [hB]; omega)
    have HS : Hid (sendK [] [⟨m, p3, c3, M1⟩] = [(m.to, B)]) := Lib.hid (by simp [sendK, stepK, hm, hB])
    clear hm hB
    refine T1.mono ?_
    rintro e w4 ⟨rfl, x4⟩
    replace FX := Lib.hid (FX.out.tr x4)
    replace FA := Lib.hid (FA.out.ext x4)
    replace FU1 := Lib.hid (FU1.out.ext x4)
    clear x4 T1 R1
    go_wp2_with fail
    refine (nnew_any w4).mono ?_
    rintro e w5 ⟨rfl, n5, x5⟩
    have N := Lib.hid n5
    replace FX := Lib.hid (FX.out.tr x5)
    have HG4 : Hid (w.heap.size < w4.heap.size) := Lib.hid FA.out.hi
    have HG5 : Hid (w4.heap.size < w5.heap.size) := Lib.hid n5.box.hi
    have U3 : Hid (∀ i, p3.map (·.block) = some i → i < w4.heap.size) := Lib.hid (fun i hi => (FU1.out.lt i hi).2)
    have SE : Hid (Sep w4.heap.size none p3) := Lib.hid ⟨fun e => by have := (FU1.out.lt _ e).2; omega, by simp⟩
    replace FA := Lib.hid (FA.out.ext x5)
    replace FU1 := Lib.hid (FU1.out.ext x5)
    clear n5 x5
    have R1 := Lib.hid (nrange FA.out)
    go_wp2_with ((with_reducible (refine wpList_load_mid (op := ⟨some 20, .load 31 (.tmp 1), _, _, _, _⟩) ?_ 31 (.tmp 1) ?_ (w.heap.size) (0) ?_ (msL m p3 M1.length c3) _ ?_ Try.underlying31 ?_ ?_ ?_)); (rfl); (rfl); (rfl); exact R1.out; (rfl); exact msg_size)
    clear R1
    have A2 := Lib.hid (Ext.alloc w5 (.cells (msA m p3 M1.length c3) 31))
    have Q3 : Hid (SlS 13 (w5.alloc (.cells (msA m p3 M1.length c3) 31)) (some ⟨w5.heap.size, 0, none⟩) 1 1 (([⟨m, p3, c3, M1⟩] : List MsgD).map msgL)) := Lib.hid (SlS.lit w5 1 _ _ _ rfl (by simp) rfl (by decide))
    refine (nsend_any (N.out.ext A2.out) Q3.out (xs := [⟨m, p3, c3, M1⟩]) (fun x hx => by
      simp at hx
      subst hx
      exact ⟨OK.out, FU1.out.sl.ext A2.out, V1.out⟩) (sep_new (w := w5) HG5.out (by simp) (Nat.le_refl _)) (fun x hx => by
      simp at hx
      subst hx
      exact SE.out)).mono ?_
    rintro e w6 ⟨p6, c6, ds, rfl, n6, k6, m6, f6⟩
    rw [show ([] : List MailD).map mkD = [] from rfl, HS.out] at k6
    obtain ⟨d, rfl, hd⟩ := map_one k6
    have HD : Hid (d.b = B) := Lib.hid (by have := congrArg Prod.snd hd; exact this)
    have NE : Hid ((w.heap.size : Nat) ≠ w4.heap.size) := Lib.hid (by have := HG4.out; omega)
    have N6 := Lib.hid n6
    replace FX : Hid (Ext w w6) := Lib.hid (Below.trans (FX.out.tr A2.out) (m6.below (FX.out.tr A2.out).size (by have := HG4.out; omega) (by simp)))
    replace FA := Lib.hid ((FA.out.ext A2.out).mv m6 NE.out (by simp))
    replace FU1 := Lib.hid ((FU1.out.ext A2.out).mv m6 SE.out.1 SE.out.2)
    have F6 : Hid (∀ i, p6.map (·.block) = some i → w5.heap.size ≤ i) := Lib.hid (fun i hi => by
      have := A2.out.size
      rcases f6 i hi with h | h
      · cases h
      · exact Nat.le_trans this h)
    clear n6 k6 m6 f6 hd A2 Q3 N
    go_wp2_with fail
    have T1 := nlook_any N6.out 0
    rw [show lookN [d] 0 = B from HD.out, show inN 0 [d].length = true from rfl] at T1
    refine T1.mono ?_
    rintro e w7 ⟨p7, c7, rfl, o7, x7⟩
    obtain ⟨ga, rfl, hga⟩ := o7.form HBL.out
    have O7 := Lib.hid o7
    have X7 := Lib.hid x7
    have HGA := Lib.hid hga
    have HNL : Hid (B.length ≤ 5294) := Lib.hid (by rw [HB.out]; exact encM_len OK.out V1.out)
    obtain ⟨NB, hNB⟩ : ∃ NB, NB = B.length := ⟨_, rfl⟩
    rw [← hNB] at O7 HNL
    rw [show Value.slice (some ⟨ga, 0, none⟩) B.length c7 = .slice (some ⟨ga, 0, none⟩) NB c7 by rw [hNB]]
    have HNB := Lib.hid hNB
    clear o7 x7 T1 hga hNB
    go_wp2_with fail
    go_loopw [7] (fun i wr => ∃ (k : Nat) (b : List UInt8), k ≤ NB ∧ i = .int .i64 (k : Int) ∧ OwP wr w6.heap.size (some ⟨ga, 0, none⟩) NB c7 b ∧ Ext w6 wr) (fun i _ => NB - (intOf i).toNat)
    case atStart => exact ⟨0, B, by omega, rfl, O7.out, X7.out⟩
    case round =>
      obtain ⟨k, b, hk, rfl, ho, hx⟩ := hrel
      have XR := Lib.hid hx
      have hNL := HNL.out
      by_cases hlt : k < NB
      · obtain ⟨g', x, hp, hg, hx1, c0, f0, hs⟩ := ho.store k hlt
        cases hp
        have SS := Lib.hid (hs (x + 1))
        have HUI := Lib.hid (u8_inc x)
        have hlt' : (k : Int) < (NB : Int) := by omega
        clear hs ho hx hx1
        go_wp2
        go_roundw
        case rel => exact ⟨k + 1, b.set k (x + 1), by omega, by go_num, by rw [HUI.out]; exact SS.out.1, by rw [HUI.out]; exact XR.out.setCell HGA.out _⟩
        case measure => simp [intOf]; omega
      · obtain rfl : k = NB := by omega
        have XA := XR.out
        replace FX : Hid (Ext w wr) := Lib.hid (FX.out.tr XA)
        replace FA := Lib.hid (FA.out.ext XA)
        replace FU1 := Lib.hid (FU1.out.ext XA)
        have NR := Lib.hid (N6.out.ext XA)
        clear XA ho hx
        go_wp2_with fail
        have T1 := ntake_any NR.out 0
        rw [show lookN [d] 0 = B from HD.out, show inN 0 [d].length = true from rfl] at T1
        refine T1.mono ?_
        rintro e w8 ⟨p8, c8, rfl, o8, n8, m8⟩
        have LT6 : Hid (w.heap.size ≠ w4.heap.size ∧ p6.map (·.block) ≠ some w.heap.size) := Lib.hid ⟨NE.out, fun e => by have := F6.out _ e; have := HG4.out; have := HG5.out; omega⟩
        have SE6 : Hid (Sep w4.heap.size p6 p3) := Lib.hid ⟨SE.out.1, fun i hi e => by have := F6.out _ hi; have := U3.out i e; have := HG5.out; omega⟩
        have O8 := Lib.hid o8.sl
        replace FX : Hid (Ext w w8) := Lib.hid (Below.trans FX.out (m8.below FX.out.size (by have := HG4.out; omega) (fun i hi => by have := F6.out _ hi; have := HG4.out; have := HG5.out; omega)))
        replace FA := Lib.hid (FA.out.mv m8 LT6.out.1 LT6.out.2)
        replace FU1 := Lib.hid (FU1.out.mv m8 SE6.out.1 SE6.out.2)
        clear o8 n8 m8 T1 N6 NR O7 X7 XR
        go_upto_region 15 with fail
        obtain ⟨w9, hw9⟩ : ∃ w9, w9 = w8.drew := ⟨_, rfl⟩
        replace FX : Hid (Ext w w9) := Lib.hid (by rw [hw9]; exact FX.out.tr (Ext.drew w8))
        replace FA : Hid (BoxV w9 w.heap.size w.heap.size (msL m p3 M1.length c3)) := Lib.hid (by rw [hw9]; exact FA.out.ext (Ext.drew w8))
        replace FU1 : Hid (SlS 7 w9 p3 M1.length c3 (M1.map enL)) := Lib.hid (by rw [hw9]; exact FU1.out.sl.ext (Ext.drew w8))
        replace O8 : Hid (SlP w9 p8 B.length c8 B) := Lib.hid (by rw [hw9]; exact O8.out.ext (Ext.drew w8))
        have cv := fun d os => str_of (O8.out.ext (Ext.reg w9 d os))
        have r0 := fun d os => Ext.cell (Ext.reg w9 d os) (FA.out.c 0 _ rfl)
        have r1 := fun d os => Ext.cell (Ext.reg w9 d os) (FA.out.c 1 _ rfl)
        have r2 := fun d os => Ext.cell (Ext.reg w9 d os) (FA.out.c 2 _ rfl)
        have r3 := fun d os => Ext.cell (Ext.reg w9 d os) (FA.out.c 3 _ rfl)
        have r4 := fun d os => Ext.cell (Ext.reg w9 d os) (FA.out.c 4 _ rfl)
        have r5 := fun d os => Ext.cell (Ext.reg w9 d os) (FA.out.c 5 _ rfl)
        have r6 := fun d os => Ext.cell (Ext.reg w9 d os) (FA.out.c 6 _ rfl)
        have r7 := fun d os => Ext.cell (Ext.reg w9 d os) (FA.out.c 7 _ rfl)
        have r8 := fun d os => Ext.cell (Ext.reg w9 d os) (FA.out.c 8 _ rfl)
        have r9 := fun d os => Ext.cell (Ext.reg w9 d os) (FA.out.c 9 _ rfl)
        have r10 := fun d os => Ext.cell (Ext.reg w9 d os) (FA.out.c 10 _ rfl)
        have r11 := fun d os => Ext.cell (Ext.reg w9 d os) (FA.out.c 11 _ rfl)
        have r12 := fun d os => Ext.cell (Ext.reg w9 d os) (FA.out.c 12 _ rfl)
        try simp only at r0 r1 r2 r3 r4 r5 r6 r7 r8 r9 r10 r11 r12
        refine rw_start [0, 1, 2, 3, 4, 5, 6, 7, 8, 9] (by kernel_rfl) (by kernel_rfl) (fun _ _ d _ _ h => by cases d <;> exact h) ?_
        rw [← hw9]
        clear hw9
        repeat (first | (refine rw_quiet rfl (by rfl) (by rfl) (fun K hK => ?_); go_big_quiet_op; refine hK _ ?_; clear hK K) | (refine rw_skip rfl (by rfl) (fun K hK => ?_); go_big_quiet_op; refine hK _ ?_; clear hK K))
        clear cv r0 r1 r2 r3 r4 r5 r6 r7 r8 r9 r10 r11 r12
        refine rw_call rfl (by rfl) (by rfl) (fun K hK => ?_)
        go_simp
        have T1 := rbytesm_any (m := m) OK.out FU1.out V1.out
        rw [← HB.out] at T1
        refine T1.mono ?_
        rintro e w10 ⟨p10, c10, rfl, o10, x10⟩
        refine hK _ _ x10 ?_
        clear hK K
        have X10 := Lib.hid (FX.out.tr x10)
        have cv := fun d os => str_of (o10.sl.ext (Ext.reg w10 d os))
        clear o10 x10 T1
        repeat (first | (refine rw_quiet rfl (by rfl) (by rfl) (fun K hK => ?_); go_big_quiet_op; refine hK _ ?_; clear hK K) | (refine rw_skip rfl (by rfl) (fun K hK => ?_); go_big_quiet_op; refine hK _ ?_; clear hK K))
        clear cv
        refine rw_nil ?_
        go_wp2
        go_ret
        exact ⟨rfl, X10.out⟩
end Go.Proofs.Ytgplmbchlahbkaa
