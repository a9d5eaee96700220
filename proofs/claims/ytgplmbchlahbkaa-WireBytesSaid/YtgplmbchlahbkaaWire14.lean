/-
  Walks of WireBytes: whatever the messages, the numbers and the bytes, the law returns true.
-/
import Derived.Test.YtgplmbchlahbkaaWire10
import Derived.Laws.BitsAllLaws
namespace Go.Proofs.Ytgplmbchlahbkaa
open Go Go.Sort Go.RowKit
set_option linter.unusedVariables false
theorem xor_u8 (x y : UInt8) : bits .xor .u8 (x.toNat : Int) (y.toNat : Int) = ((x ^^^ y).toNat : Int) := by
  have h1 := x.toNat_lt
  have h2 := y.toNat_lt
  rw [u8_xor_nat x.toNat y.toNat (by omega) (by omega), UInt8.toNat_xor]

set_option maxRecDepth 8000 in
set_option maxHeartbeats 16000000 in
theorem walk_WireBytes {m : MsD} {p : Option Addr} {n k : Nat} {L : List EnD} {pos cut a : Int} {w : World} (o1 : MsOk m) (s1 : SlS 7 w p n k (L.map enL)) (q1 : ∀ e ∈ L, EnOk e) (hpos : I64 pos) (hcut : I64 cut) (ha : 0 ≤ a ∧ a ≤ 255) :
    Calls Try.prog 9 #[msV m p n k, .int .i64 pos, .int .i64 cut, .int .u8 a] w fun e w' => e = .returned (.bool true) ∧ Below w.heap.size w w' := by
  obtain ⟨c, rfl⟩ := u8_of ha
  obtain ⟨hp1, hp2⟩ := hpos
  obtain ⟨hc1, hc2⟩ := hcut
  clear ha
  obtain ⟨w0, hw0⟩ : ∃ w0, w0 = w.alloc (.cells (msA m p n k) 31) := ⟨_, rfl⟩
  have TA : Hid (BoxV w0 w.heap.size w.heap.size (msL m p n k)) := Lib.hid (by rw [hw0]; exact BoxV.new w w.heap.size (msA m p n k) (msL m p n k) 31 _ rfl (Nat.le_refl _) rfl)
  have X : Hid (Ext w w0) := Lib.hid (by rw [hw0]; exact Ext.alloc w _)
  have S1 := Lib.hid s1
  have Q1 := Lib.hid q1
  have OK := Lib.hid o1
  clear s1 q1 o1
  go_enter Try.func9, Try.ntmps9
  go_wp2_with fail
  change Calls _ _ _ (w.alloc (.cells (msA m p n k) 31)) _
  rw [← hw0]
  clear hw0
  refine (begun16 _).mono ?_
  rintro e w1 ⟨rfl, x1⟩
  replace X := Lib.hid (X.out.tr x1)
  replace TA := Lib.hid (TA.out.ext x1)
  clear x1
  have b0 := TA.out.c 0 _ rfl
  have b1 := TA.out.c 1 _ rfl
  have b2 := TA.out.c 2 _ rfl
  have b3 := TA.out.c 3 _ rfl
  have b4 := TA.out.c 4 _ rfl
  have b5 := TA.out.c 5 _ rfl
  have b6 := TA.out.c 6 _ rfl
  have b7 := TA.out.c 7 _ rfl
  have b8 := TA.out.c 8 _ rfl
  have b9 := TA.out.c 9 _ rfl
  have b10 := TA.out.c 10 _ rfl
  have b11 := TA.out.c 11 _ rfl
  have b12 := TA.out.c 12 _ rfl
  try simp only at b0 b1 b2 b3 b4 b5 b6 b7 b8 b9 b10 b11 b12
  go_wp2_with fail
  clear b0 b1 b2 b3 b4 b5 b6 b7 b8 b9 b10 b11 b12
  refine (wcut_any (S1.out.ext X.out) Q1.out).mono ?_
  rintro e2 w2 ⟨M1, p3, c3, rfl, hM1, u1, v1, x2⟩
  have U1 := Lib.hid u1
  have V1 := Lib.hid v1
  have GT := Lib.hid TA.out.hi
  replace X := Lib.hid (X.out.tr x2)
  replace TA := Lib.hid (TA.out.ext x2)
  clear x2 u1 v1 S1
  have b0 := TA.out.c 0 _ rfl
  have b1 := TA.out.c 1 _ rfl
  have b2 := TA.out.c 2 _ rfl
  have b3 := TA.out.c 3 _ rfl
  have b4 := TA.out.c 4 _ rfl
  have b5 := TA.out.c 5 _ rfl
  have b6 := TA.out.c 6 _ rfl
  have b7 := TA.out.c 7 _ rfl
  have b8 := TA.out.c 8 _ rfl
  have b9 := TA.out.c 9 _ rfl
  have b10 := TA.out.c 10 _ rfl
  have b11 := TA.out.c 11 _ rfl
  have b12 := TA.out.c 12 _ rfl
  try simp only at b0 b1 b2 b3 b4 b5 b6 b7 b8 b9 b10 b11 b12
  have bf := TA.out.f
  go_upto_region 5 with fail
  clear bf
  clear b0 b1 b2 b3 b4 b5 b6 b7 b8 b9 b10 b11 b12
  have FA := Lib.hid (TA.out.fill (vs := msL m p3 M1.length c3) (Nat.le_refl _))
  have FG := Lib.hid (fillV_grown w.heap.size (msL m p3 M1.length c3) 0 w2 w2 (grown_refl _ _))
  have FX : Hid (Ext w (fillV w2 w.heap.size 0 (msL m p3 M1.length c3))) := Lib.hid (fillV_below X.out (Nat.le_refl _) (msL m p3 M1.length c3) 0)
  have FU1 := Lib.hid (U1.out.kept FG.out (fun k hk => by
    cases hk
    intro hc
    have h1 := U1.out.lt _ hc
    have h3 := GT.out
    omega)).sl
  change Code.wp _ _ _ _ (fillV w2 w.heap.size 0 (msL m p3 M1.length c3))
  clear FG TA X U1
  generalize fillV w2 w.heap.size 0 (msL m p3 M1.length c3) = w3 at *
  have b0 := FA.out.c 0 _ rfl
  have b1 := FA.out.c 1 _ rfl
  have b2 := FA.out.c 2 _ rfl
  have b3 := FA.out.c 3 _ rfl
  have b4 := FA.out.c 4 _ rfl
  have b5 := FA.out.c 5 _ rfl
  have b6 := FA.out.c 6 _ rfl
  have b7 := FA.out.c 7 _ rfl
  have b8 := FA.out.c 8 _ rfl
  have b9 := FA.out.c 9 _ rfl
  have b10 := FA.out.c 10 _ rfl
  have b11 := FA.out.c 11 _ rfl
  have b12 := FA.out.c 12 _ rfl
  try simp only at b0 b1 b2 b3 b4 b5 b6 b7 b8 b9 b10 b11 b12
  go_wp2_with fail
  clear b0 b1 b2 b3 b4 b5 b6 b7 b8 b9 b10 b11 b12
  refine (wencode_any OK.out FU1.out V1.out).mono ?_
  have bx := encM_len OK.out V1.out
  obtain ⟨x, hx⟩ : ∃ x, x = encM m M1 := ⟨_, rfl⟩
  obtain ⟨nx, hnx⟩ : ∃ nx, nx = x.length := ⟨_, rfl⟩
  rw [← hx, ← hnx] at bx ⊢
  have HX := Lib.hid hx
  have HNX := Lib.hid hnx
  have HB := Lib.hid bx
  clear hx hnx bx
  rintro e w4 ⟨px, cx, rfl, ox, -, x4⟩
  have E := Lib.hid x4
  have OX := Lib.hid ox.sl
  clear x4 ox
  go_wp2_with fail
  have cv := fun d os => str_of (OX.out.ext ((Ext.drew w4).tr (Ext.reg _ d os)))
  have KA := Lib.hid (FA.out.ext (E.out.tr (Ext.drew w4)))
  have r0 := fun d os => Ext.cell (Ext.reg w4.drew d os) (KA.out.c 0 _ rfl)
  have r1 := fun d os => Ext.cell (Ext.reg w4.drew d os) (KA.out.c 1 _ rfl)
  have r2 := fun d os => Ext.cell (Ext.reg w4.drew d os) (KA.out.c 2 _ rfl)
  have r3 := fun d os => Ext.cell (Ext.reg w4.drew d os) (KA.out.c 3 _ rfl)
  have r4 := fun d os => Ext.cell (Ext.reg w4.drew d os) (KA.out.c 4 _ rfl)
  have r5 := fun d os => Ext.cell (Ext.reg w4.drew d os) (KA.out.c 5 _ rfl)
  have r6 := fun d os => Ext.cell (Ext.reg w4.drew d os) (KA.out.c 6 _ rfl)
  have r7 := fun d os => Ext.cell (Ext.reg w4.drew d os) (KA.out.c 7 _ rfl)
  have r8 := fun d os => Ext.cell (Ext.reg w4.drew d os) (KA.out.c 8 _ rfl)
  have r9 := fun d os => Ext.cell (Ext.reg w4.drew d os) (KA.out.c 9 _ rfl)
  have r10 := fun d os => Ext.cell (Ext.reg w4.drew d os) (KA.out.c 10 _ rfl)
  have r11 := fun d os => Ext.cell (Ext.reg w4.drew d os) (KA.out.c 11 _ rfl)
  have r12 := fun d os => Ext.cell (Ext.reg w4.drew d os) (KA.out.c 12 _ rfl)
  try simp only at r0 r1 r2 r3 r4 r5 r6 r7 r8 r9 r10 r11 r12
  refine rw_start [0, 1, 2, 3, 4, 5] (by kernel_rfl) (by kernel_rfl) (fun _ _ d _ _ h => by cases d <;> exact h) ?_
  repeat (first | (refine rw_quiet rfl (by rfl) (by rfl) (fun K hK => ?_); go_big_quiet_op; refine hK _ ?_; clear hK K) | (refine rw_skip rfl (by rfl) (fun K hK => ?_); go_big_quiet_op; refine hK _ ?_; clear hK K))
  clear cv
  clear r0 r1 r2 r3 r4 r5 r6 r7 r8 r9 r10 r11 r12
  refine rw_call rfl (by rfl) (by rfl) (fun K hK => ?_)
  go_simp
  refine (rbytesm_any OK.out (FU1.out.ext (E.out.tr (Ext.drew w4))) V1.out).mono ?_
  rw [← HX.out, ← HNX.out]
  rintro e w5 ⟨p4, c4, rfl, o4, x4⟩
  refine hK _ _ x4 ?_
  clear hK K KA
  have cv := fun d os => str_of (o4.sl.ext (Ext.reg w5 d os))
  have x34 := (Ext.drew w4).tr x4
  replace E := Lib.hid (E.out.tr x34)
  replace OX := Lib.hid (OX.out.ext x34)
  clear o4 x4 x34
  repeat (first | (refine rw_quiet rfl (by rfl) (by rfl) (fun K hK => ?_); go_big_quiet_op; refine hK _ ?_; clear hK K) | (refine rw_skip rfl (by rfl) (fun K hK => ?_); go_big_quiet_op; refine hK _ ?_; clear hK K))
  clear cv
  refine rw_nil ?_
  have RM := Lib.hid (fun w (h : Ext w3 w) => rmaym_any (m := m) (FU1.out.ext h) V1.out)
  cases hm : mayM m M1
  · have hx0 : nx = 0 := by rw [HNX.out, HX.out, encM_no hm]; rfl
    subst hx0
    rw [hm] at RM
    clear hm
    have KA := Lib.hid (FA.out.ext E.out)
    have b0 := KA.out.c 0 _ rfl
    have b1 := KA.out.c 1 _ rfl
    have b2 := KA.out.c 2 _ rfl
    have b3 := KA.out.c 3 _ rfl
    have b4 := KA.out.c 4 _ rfl
    have b5 := KA.out.c 5 _ rfl
    have b6 := KA.out.c 6 _ rfl
    have b7 := KA.out.c 7 _ rfl
    have b8 := KA.out.c 8 _ rfl
    have b9 := KA.out.c 9 _ rfl
    have b10 := KA.out.c 10 _ rfl
    have b11 := KA.out.c 11 _ rfl
    have b12 := KA.out.c 12 _ rfl
    try simp only at b0 b1 b2 b3 b4 b5 b6 b7 b8 b9 b10 b11 b12
    go_wp2_with fail
    refine (RM.out _ E.out).mono ?_
    rintro e w6 ⟨rfl, x6⟩
    have XX : Hid (Ext w w6) := Lib.hid (FX.out.tr (E.out.tr x6))
    clear x6
    go_wp2
    go_ret
    exact ⟨rfl, XX.out⟩
  · have hnx17 : 17 ≤ nx := by rw [HNX.out, HX.out]; exact encM_pos hm
    have f1 : ((nx : Int) == 0) = false := beq_eq_false_iff_ne.2 (by omega)
    have DC : Hid (decM x = some (m, M1)) := Lib.hid (by rw [HX.out]; exact decM_enc OK.out V1.out hm)
    have DF : Hid (∀ j, j < nx → c ≠ 0 → decM (flip x j c) = none) := Lib.hid (fun j hj hc => by rw [HX.out]; exact decM_flip hm (by rw [← HX.out, ← HNX.out]; exact hj) hc)
    clear hm RM
    have dc := wdecode_any OX.out (by have := HB.out; omega)
    rw [DC.out] at dc
    have DD := Lib.hid dc
    clear dc
    go_wp2_with fail
    refine DD.out.mono ?_
    rintro e w6 ⟨p5, c5, rfl, o5, -, -, x5⟩
    have GY : Hid (w.heap.size ≤ w6.heap.size) := Lib.hid (FX.out.tr (E.out.tr x5)).size
    have A6 := Lib.hid (x5.tr (Ext.alloc w6 (.cells (msA m p5 M1.length c5) 31)))
    replace E := Lib.hid (E.out.tr A6.out)
    replace OX := Lib.hid (OX.out.ext A6.out)
    have O5 := Lib.hid (o5.sl.ext (Ext.alloc w6 (.cells (msA m p5 M1.length c5) 31)))
    have DY := Lib.hid (BoxV.new w6 w6.heap.size (msA m p5 M1.length c5) (msL m p5 M1.length c5) 31 _ rfl (Nat.le_refl _) rfl)
    clear A6 DD x5 o5
    go_upto_region 11 with fail
    change Code.wp _ _ _ _ (w6.alloc (.cells (msA m p5 M1.length c5) 31))
    generalize hg6 : w6.heap.size = g6 at *
    generalize w6.alloc (.cells (msA m p5 M1.length c5) 31) = w7 at *
    clear hg6
    have KA := Lib.hid (FA.out.ext E.out)
    have b0 := KA.out.c 0 _ rfl
    have b1 := KA.out.c 1 _ rfl
    have b2 := KA.out.c 2 _ rfl
    have b3 := KA.out.c 3 _ rfl
    have b4 := KA.out.c 4 _ rfl
    have b5 := KA.out.c 5 _ rfl
    have b6 := KA.out.c 6 _ rfl
    have b7 := KA.out.c 7 _ rfl
    have b8 := KA.out.c 8 _ rfl
    have b9 := KA.out.c 9 _ rfl
    have b10 := KA.out.c 10 _ rfl
    have b11 := KA.out.c 11 _ rfl
    have b12 := KA.out.c 12 _ rfl
    try simp only at b0 b1 b2 b3 b4 b5 b6 b7 b8 b9 b10 b11 b12
    have d0 := DY.out.c 0 _ rfl
    have d1 := DY.out.c 1 _ rfl
    have d2 := DY.out.c 2 _ rfl
    have d3 := DY.out.c 3 _ rfl
    have d4 := DY.out.c 4 _ rfl
    have d5 := DY.out.c 5 _ rfl
    have d6 := DY.out.c 6 _ rfl
    have d7 := DY.out.c 7 _ rfl
    have d8 := DY.out.c 8 _ rfl
    have d9 := DY.out.c 9 _ rfl
    have d10 := DY.out.c 10 _ rfl
    have d11 := DY.out.c 11 _ rfl
    have d12 := DY.out.c 12 _ rfl
    try simp only at d0 d1 d2 d3 d4 d5 d6 d7 d8 d9 d10 d11 d12
    go_wp2_with fail
    clear b0 b1 b2 b3 b4 b5 b6 b7 b8 b9 b10 b11 b12
    clear d0 d1 d2 d3 d4 d5 d6 d7 d8 d9 d10 d11 d12
    refine (reqm_any (FU1.out.ext E.out) O5.out).mono ?_
    rw [show eqM m M1 m M1 = true from (eqM_iff _ _ _ _).2 ⟨rfl, rfl⟩]
    rintro e w8 ⟨rfl, x8⟩
    have X : Hid (Ext w w8) := Lib.hid (FX.out.tr (E.out.tr x8))
    replace OX := Lib.hid (OX.out.ext x8)
    replace DY := Lib.hid (DY.out.ext x8)
    clear x8 E FA FU1 FX O5 KA
    by_cases h1 : 0 < cut
    · by_cases h2 : cut ≤ (nx : Int)
      · obtain ⟨K, hK⟩ : ∃ K, K = ((nx : Int) - cut).toNat := ⟨_, rfl⟩
        have hsub : (nx : Int) - cut = (K : Int) := by omega
        have hKn : K ≤ nx := by omega
        have hKw : wrap64 (K : Int) = (K : Int) := by have := HB.out; unfold wrap64; omega
        clear hK
        have HT := Lib.hid (OX.out.take K hKn)
        have cutf := fun w => cut_to px nx cx K (Nat.le_trans hKn OX.out.le) w
        go_wp2_with fail
        clear cutf
        refine (wtells_any HT.out (by have := HB.out; omega)).mono ?_
        rintro e w88 ⟨rfl, x9⟩
        replace X := Lib.hid (X.out.tr x9)
        replace OX := Lib.hid (OX.out.ext x9)
        replace DY := Lib.hid (DY.out.ext x9)
        clear x9 HT hsub hKw
        go_wp2_with (at_builtin; refine wpList_app (o := ⟨some 65, _, _, _, _, _⟩) rfl _ _ 35 rfl w88.heap.size Try.underlying35 info5 none 0 0 [] rfl (OwP.nil _ _) px nx cx x rfl OX.out (by have := HB.out; omega) (by omega) ?_)
        intro q7 k7 w9 o7 g7
        have E7 : Hid (Ext w88 w9) := Lib.hid (Ext.own (Ext.rfl' _) (OwP.nil _ _) g7 rfl)
        have O7 : Hid (OwP w9 w88.heap.size q7 nx k7 x) := Lib.hid (by simpa using o7)
        clear o7 g7
        have SB := Lib.hid (SlP.lit w9 1 #[.int .u8 (c.toNat : Int)] (0, 0) [c] rfl rfl (by omega))
        have AB := Lib.hid (Ext.alloc w9 (.cells #[.int .u8 (c.toNat : Int)] 5))
        go_wp2_with (at_builtin; refine wpList_app (o := ⟨some 68, _, _, _, _, _⟩) rfl _ _ 35 rfl w88.heap.size Try.underlying35 info5 q7 nx k7 x rfl (O7.out.ext AB.out) (some ⟨w9.heap.size, 0, none⟩) 1 1 [c] rfl SB.out (by have := HB.out; omega) (E7.out.tr AB.out).size ?_)
        intro q8 k8 w10 o8 g8
        have E8 := Lib.hid (Ext.own (E7.out.tr AB.out) (O7.out.ext AB.out) g8 rfl)
        have O8 := Lib.hid o8.sl
        clear o8 g8 SB AB
        go_wp2_with fail
        refine (wtells_any O8.out (by have := HB.out; omega)).mono ?_
        rintro e w11 ⟨rfl, x11⟩
        replace E8 := Lib.hid (E8.out.tr x11)
        replace X := Lib.hid (X.out.tr E8.out)
        replace OX := Lib.hid (OX.out.ext E8.out)
        replace DY := Lib.hid (DY.out.ext E8.out)
        clear x11 E8 O7 O8 E7
        by_cases hneg : pos < 0
        · go_wp2
          go_ret
          exact ⟨rfl, X.out⟩
        by_cases hc0 : c = 0
        · have f2 : ((c.toNat : Int) == 0) = true := by rw [hc0]; rfl
          go_wp2
          go_ret
          exact ⟨rfl, X.out⟩
        have f2 : ((c.toNat : Int) == 0) = false := beq_eq_false_iff_ne.2 (fun e => hc0 (UInt8.toNat_inj.1 (by simpa using e)))
        have HC := Lib.hid hc0
        clear hc0
        obtain ⟨P, rfl⟩ : ∃ P : Nat, pos = (P : Int) := ⟨pos.toNat, by omega⟩
        obtain ⟨j, hj⟩ : ∃ j, j = P % nx := ⟨_, rfl⟩
        have hjn : j < nx := by rw [hj]; exact Nat.mod_lt _ (by omega)
        have hmod : (P : Int) % (nx : Int) = (j : Int) := by rw [hj]; rfl
        have htm : (P : Int).tmod (nx : Int) = (j : Int) := by rw [hj]; rfl
        have HJ := Lib.hid hj
        clear hj
        go_wp2_with (at_builtin; refine wpList_app rfl _ _ 35 rfl w11.heap.size Try.underlying35 info5 none 0 0 [] rfl (OwP.nil _ _) px nx cx x rfl OX.out (by have := HB.out; omega) (by omega) ?_)
        intro p7 k7 w12 o7 g7
        have E7 : Hid (Ext w11 w12) := Lib.hid (Ext.own (Ext.rfl' _) (OwP.nil _ _) g7 rfl)
        have o7' : OwP w12 w11.heap.size p7 nx k7 x := by simpa using o7
        obtain ⟨g, y, rfl, hg, hy, hcc, hf, hst⟩ := o7'.store j hjn
        obtain ⟨z, hz⟩ : ∃ z, z = y ^^^ c := ⟨_, rfl⟩
        have hzz : bits .xor .u8 (y.toNat : Int) (c.toNat : Int) = (z.toNat : Int) := by rw [hz]; exact xor_u8 y c
        have DZ : Hid (decM (x.set j z) = none) := Lib.hid (by
          rw [show x.set j z = flip x j c by unfold flip; rw [List.getD_eq_getElem?_getD, hy, hz]; rfl]
          exact DF.out j hjn HC.out)
        have ST := Lib.hid (hst z)
        have hyg : g6 < g := by have := DY.out.hi; omega
        have Y9 := Lib.hid ((DY.out.ext E7.out).other ST.out.2 (by intro h; injection h with h; omega))
        have X9 : Hid (Ext w (w12.setCell ⟨g, j, none⟩ (.int .u8 (z.toNat : Int)))) := Lib.hid ((Below.trans (X.out.tr E7.out) (Below.refl _ _)).setCell (show w.heap.size ≤ g by have := X.out.size; omega) _)
        have hj0 : (0 : Int) ≤ (j : Int) := by omega
        have hj1 : (j : Int) < (nx : Int) := by omega
        clear o7 o7' g7 hst hz hy
        go_wp2_with fail
        have dc := wdecode_any ST.out.1.sl (by have := HB.out; omega)
        rw [DZ.out] at dc
        refine dc.mono ?_
        rintro e w13 ⟨rfl, x13⟩
        have X13 : Hid (Ext w w13) := Lib.hid (Ext.tr X9.out x13)
        have Y13 := Lib.hid (Y9.out.ext x13)
        have GZ := Lib.hid GY.out
        clear x13 dc X9 Y9 ST hcc hf E7 X DY OX
        simp only [zeroM]
        have b0 := Y13.out.c 0 _ rfl
        have b1 := Y13.out.c 1 _ rfl
        have b2 := Y13.out.c 2 _ rfl
        have b3 := Y13.out.c 3 _ rfl
        have b4 := Y13.out.c 4 _ rfl
        have b5 := Y13.out.c 5 _ rfl
        have b6 := Y13.out.c 6 _ rfl
        have b7 := Y13.out.c 7 _ rfl
        have b8 := Y13.out.c 8 _ rfl
        have b9 := Y13.out.c 9 _ rfl
        have b10 := Y13.out.c 10 _ rfl
        have b11 := Y13.out.c 11 _ rfl
        have b12 := Y13.out.c 12 _ rfl
        try simp only at b0 b1 b2 b3 b4 b5 b6 b7 b8 b9 b10 b11 b12
        have bf := Y13.out.f
        go_upto_region 22 with fail
        clear bf
        clear b0 b1 b2 b3 b4 b5 b6 b7 b8 b9 b10 b11 b12
        have FB := Lib.hid (Y13.out.fill (vs := msL zeroM none 0 0) (Nat.le_refl _))
        have FX : Hid (Ext w (fillV w13 g6 0 (msL zeroM none 0 0))) := Lib.hid (fillV_below X13.out GZ.out (msL zeroM none 0 0) 0)
        change Code.wp _ _ _ _ (fillV w13 g6 0 (msL zeroM none 0 0))
        generalize fillV w13 g6 0 (msL zeroM none 0 0) = w14 at *
        have b0 := FB.out.c 0 _ rfl
        try simp only [zeroM] at b0
        go_wp2
        go_ret
        exact ⟨rfl, FX.out⟩
      · go_wp2_with (at_builtin; refine wpList_app (o := ⟨some 65, _, _, _, _, _⟩) rfl _ _ 35 rfl w8.heap.size Try.underlying35 info5 none 0 0 [] rfl (OwP.nil _ _) px nx cx x rfl OX.out (by have := HB.out; omega) (by omega) ?_)
        intro q7 k7 w9 o7 g7
        have E7 : Hid (Ext w8 w9) := Lib.hid (Ext.own (Ext.rfl' _) (OwP.nil _ _) g7 rfl)
        have O7 : Hid (OwP w9 w8.heap.size q7 nx k7 x) := Lib.hid (by simpa using o7)
        clear o7 g7
        have SB := Lib.hid (SlP.lit w9 1 #[.int .u8 (c.toNat : Int)] (0, 0) [c] rfl rfl (by omega))
        have AB := Lib.hid (Ext.alloc w9 (.cells #[.int .u8 (c.toNat : Int)] 5))
        go_wp2_with (at_builtin; refine wpList_app (o := ⟨some 68, _, _, _, _, _⟩) rfl _ _ 35 rfl w8.heap.size Try.underlying35 info5 q7 nx k7 x rfl (O7.out.ext AB.out) (some ⟨w9.heap.size, 0, none⟩) 1 1 [c] rfl SB.out (by have := HB.out; omega) (E7.out.tr AB.out).size ?_)
        intro q8 k8 w10 o8 g8
        have E8 := Lib.hid (Ext.own (E7.out.tr AB.out) (O7.out.ext AB.out) g8 rfl)
        have O8 := Lib.hid o8.sl
        clear o8 g8 SB AB
        go_wp2_with fail
        refine (wtells_any O8.out (by have := HB.out; omega)).mono ?_
        rintro e w11 ⟨rfl, x11⟩
        replace E8 := Lib.hid (E8.out.tr x11)
        replace X := Lib.hid (X.out.tr E8.out)
        replace OX := Lib.hid (OX.out.ext E8.out)
        replace DY := Lib.hid (DY.out.ext E8.out)
        clear x11 E8 O7 O8 E7
        by_cases hneg : pos < 0
        · go_wp2
          go_ret
          exact ⟨rfl, X.out⟩
        by_cases hc0 : c = 0
        · have f2 : ((c.toNat : Int) == 0) = true := by rw [hc0]; rfl
          go_wp2
          go_ret
          exact ⟨rfl, X.out⟩
        have f2 : ((c.toNat : Int) == 0) = false := beq_eq_false_iff_ne.2 (fun e => hc0 (UInt8.toNat_inj.1 (by simpa using e)))
        have HC := Lib.hid hc0
        clear hc0
        obtain ⟨P, rfl⟩ : ∃ P : Nat, pos = (P : Int) := ⟨pos.toNat, by omega⟩
        obtain ⟨j, hj⟩ : ∃ j, j = P % nx := ⟨_, rfl⟩
        have hjn : j < nx := by rw [hj]; exact Nat.mod_lt _ (by omega)
        have hmod : (P : Int) % (nx : Int) = (j : Int) := by rw [hj]; rfl
        have htm : (P : Int).tmod (nx : Int) = (j : Int) := by rw [hj]; rfl
        have HJ := Lib.hid hj
        clear hj
        go_wp2_with (at_builtin; refine wpList_app rfl _ _ 35 rfl w11.heap.size Try.underlying35 info5 none 0 0 [] rfl (OwP.nil _ _) px nx cx x rfl OX.out (by have := HB.out; omega) (by omega) ?_)
        intro p7 k7 w12 o7 g7
        have E7 : Hid (Ext w11 w12) := Lib.hid (Ext.own (Ext.rfl' _) (OwP.nil _ _) g7 rfl)
        have o7' : OwP w12 w11.heap.size p7 nx k7 x := by simpa using o7
        obtain ⟨g, y, rfl, hg, hy, hcc, hf, hst⟩ := o7'.store j hjn
        obtain ⟨z, hz⟩ : ∃ z, z = y ^^^ c := ⟨_, rfl⟩
        have hzz : bits .xor .u8 (y.toNat : Int) (c.toNat : Int) = (z.toNat : Int) := by rw [hz]; exact xor_u8 y c
        have DZ : Hid (decM (x.set j z) = none) := Lib.hid (by
          rw [show x.set j z = flip x j c by unfold flip; rw [List.getD_eq_getElem?_getD, hy, hz]; rfl]
          exact DF.out j hjn HC.out)
        have ST := Lib.hid (hst z)
        have hyg : g6 < g := by have := DY.out.hi; omega
        have Y9 := Lib.hid ((DY.out.ext E7.out).other ST.out.2 (by intro h; injection h with h; omega))
        have X9 : Hid (Ext w (w12.setCell ⟨g, j, none⟩ (.int .u8 (z.toNat : Int)))) := Lib.hid ((Below.trans (X.out.tr E7.out) (Below.refl _ _)).setCell (show w.heap.size ≤ g by have := X.out.size; omega) _)
        have hj0 : (0 : Int) ≤ (j : Int) := by omega
        have hj1 : (j : Int) < (nx : Int) := by omega
        clear o7 o7' g7 hst hz hy
        go_wp2_with fail
        have dc := wdecode_any ST.out.1.sl (by have := HB.out; omega)
        rw [DZ.out] at dc
        refine dc.mono ?_
        rintro e w13 ⟨rfl, x13⟩
        have X13 : Hid (Ext w w13) := Lib.hid (Ext.tr X9.out x13)
        have Y13 := Lib.hid (Y9.out.ext x13)
        have GZ := Lib.hid GY.out
        clear x13 dc X9 Y9 ST hcc hf E7 X DY OX
        simp only [zeroM]
        have b0 := Y13.out.c 0 _ rfl
        have b1 := Y13.out.c 1 _ rfl
        have b2 := Y13.out.c 2 _ rfl
        have b3 := Y13.out.c 3 _ rfl
        have b4 := Y13.out.c 4 _ rfl
        have b5 := Y13.out.c 5 _ rfl
        have b6 := Y13.out.c 6 _ rfl
        have b7 := Y13.out.c 7 _ rfl
        have b8 := Y13.out.c 8 _ rfl
        have b9 := Y13.out.c 9 _ rfl
        have b10 := Y13.out.c 10 _ rfl
        have b11 := Y13.out.c 11 _ rfl
        have b12 := Y13.out.c 12 _ rfl
        try simp only at b0 b1 b2 b3 b4 b5 b6 b7 b8 b9 b10 b11 b12
        have bf := Y13.out.f
        go_upto_region 22 with fail
        clear bf
        clear b0 b1 b2 b3 b4 b5 b6 b7 b8 b9 b10 b11 b12
        have FB := Lib.hid (Y13.out.fill (vs := msL zeroM none 0 0) (Nat.le_refl _))
        have FX : Hid (Ext w (fillV w13 g6 0 (msL zeroM none 0 0))) := Lib.hid (fillV_below X13.out GZ.out (msL zeroM none 0 0) 0)
        change Code.wp _ _ _ _ (fillV w13 g6 0 (msL zeroM none 0 0))
        generalize fillV w13 g6 0 (msL zeroM none 0 0) = w14 at *
        have b0 := FB.out.c 0 _ rfl
        try simp only [zeroM] at b0
        go_wp2
        go_ret
        exact ⟨rfl, FX.out⟩
    · go_wp2_with (at_builtin; refine wpList_app (o := ⟨some 65, _, _, _, _, _⟩) rfl _ _ 35 rfl w8.heap.size Try.underlying35 info5 none 0 0 [] rfl (OwP.nil _ _) px nx cx x rfl OX.out (by have := HB.out; omega) (by omega) ?_)
      intro q7 k7 w9 o7 g7
      have E7 : Hid (Ext w8 w9) := Lib.hid (Ext.own (Ext.rfl' _) (OwP.nil _ _) g7 rfl)
      have O7 : Hid (OwP w9 w8.heap.size q7 nx k7 x) := Lib.hid (by simpa using o7)
      clear o7 g7
      have SB := Lib.hid (SlP.lit w9 1 #[.int .u8 (c.toNat : Int)] (0, 0) [c] rfl rfl (by omega))
      have AB := Lib.hid (Ext.alloc w9 (.cells #[.int .u8 (c.toNat : Int)] 5))
      go_wp2_with (at_builtin; refine wpList_app (o := ⟨some 68, _, _, _, _, _⟩) rfl _ _ 35 rfl w8.heap.size Try.underlying35 info5 q7 nx k7 x rfl (O7.out.ext AB.out) (some ⟨w9.heap.size, 0, none⟩) 1 1 [c] rfl SB.out (by have := HB.out; omega) (E7.out.tr AB.out).size ?_)
      intro q8 k8 w10 o8 g8
      have E8 := Lib.hid (Ext.own (E7.out.tr AB.out) (O7.out.ext AB.out) g8 rfl)
      have O8 := Lib.hid o8.sl
      clear o8 g8 SB AB
      go_wp2_with fail
      refine (wtells_any O8.out (by have := HB.out; omega)).mono ?_
      rintro e w11 ⟨rfl, x11⟩
      replace E8 := Lib.hid (E8.out.tr x11)
      replace X := Lib.hid (X.out.tr E8.out)
      replace OX := Lib.hid (OX.out.ext E8.out)
      replace DY := Lib.hid (DY.out.ext E8.out)
      clear x11 E8 O7 O8 E7
      by_cases hneg : pos < 0
      · go_wp2
        go_ret
        exact ⟨rfl, X.out⟩
      by_cases hc0 : c = 0
      · have f2 : ((c.toNat : Int) == 0) = true := by rw [hc0]; rfl
        go_wp2
        go_ret
        exact ⟨rfl, X.out⟩
      have f2 : ((c.toNat : Int) == 0) = false := beq_eq_false_iff_ne.2 (fun e => hc0 (UInt8.toNat_inj.1 (by simpa using e)))
      have HC := Lib.hid hc0
      clear hc0
      obtain ⟨P, rfl⟩ : ∃ P : Nat, pos = (P : Int) := ⟨pos.toNat, by omega⟩
      obtain ⟨j, hj⟩ : ∃ j, j = P % nx := ⟨_, rfl⟩
      have hjn : j < nx := by rw [hj]; exact Nat.mod_lt _ (by omega)
      have hmod : (P : Int) % (nx : Int) = (j : Int) := by rw [hj]; rfl
      have htm : (P : Int).tmod (nx : Int) = (j : Int) := by rw [hj]; rfl
      have HJ := Lib.hid hj
      clear hj
      go_wp2_with (at_builtin; refine wpList_app rfl _ _ 35 rfl w11.heap.size Try.underlying35 info5 none 0 0 [] rfl (OwP.nil _ _) px nx cx x rfl OX.out (by have := HB.out; omega) (by omega) ?_)
      intro p7 k7 w12 o7 g7
      have E7 : Hid (Ext w11 w12) := Lib.hid (Ext.own (Ext.rfl' _) (OwP.nil _ _) g7 rfl)
      have o7' : OwP w12 w11.heap.size p7 nx k7 x := by simpa using o7
      obtain ⟨g, y, rfl, hg, hy, hcc, hf, hst⟩ := o7'.store j hjn
      obtain ⟨z, hz⟩ : ∃ z, z = y ^^^ c := ⟨_, rfl⟩
      have hzz : bits .xor .u8 (y.toNat : Int) (c.toNat : Int) = (z.toNat : Int) := by rw [hz]; exact xor_u8 y c
      have DZ : Hid (decM (x.set j z) = none) := Lib.hid (by
        rw [show x.set j z = flip x j c by unfold flip; rw [List.getD_eq_getElem?_getD, hy, hz]; rfl]
        exact DF.out j hjn HC.out)
      have ST := Lib.hid (hst z)
      have hyg : g6 < g := by have := DY.out.hi; omega
      have Y9 := Lib.hid ((DY.out.ext E7.out).other ST.out.2 (by intro h; injection h with h; omega))
      have X9 : Hid (Ext w (w12.setCell ⟨g, j, none⟩ (.int .u8 (z.toNat : Int)))) := Lib.hid ((Below.trans (X.out.tr E7.out) (Below.refl _ _)).setCell (show w.heap.size ≤ g by have := X.out.size; omega) _)
      have hj0 : (0 : Int) ≤ (j : Int) := by omega
      have hj1 : (j : Int) < (nx : Int) := by omega
      clear o7 o7' g7 hst hz hy
      go_wp2_with fail
      have dc := wdecode_any ST.out.1.sl (by have := HB.out; omega)
      rw [DZ.out] at dc
      refine dc.mono ?_
      rintro e w13 ⟨rfl, x13⟩
      have X13 : Hid (Ext w w13) := Lib.hid (Ext.tr X9.out x13)
      have Y13 := Lib.hid (Y9.out.ext x13)
      have GZ := Lib.hid GY.out
      clear x13 dc X9 Y9 ST hcc hf E7 X DY OX
      simp only [zeroM]
      have b0 := Y13.out.c 0 _ rfl
      have b1 := Y13.out.c 1 _ rfl
      have b2 := Y13.out.c 2 _ rfl
      have b3 := Y13.out.c 3 _ rfl
      have b4 := Y13.out.c 4 _ rfl
      have b5 := Y13.out.c 5 _ rfl
      have b6 := Y13.out.c 6 _ rfl
      have b7 := Y13.out.c 7 _ rfl
      have b8 := Y13.out.c 8 _ rfl
      have b9 := Y13.out.c 9 _ rfl
      have b10 := Y13.out.c 10 _ rfl
      have b11 := Y13.out.c 11 _ rfl
      have b12 := Y13.out.c 12 _ rfl
      try simp only at b0 b1 b2 b3 b4 b5 b6 b7 b8 b9 b10 b11 b12
      have bf := Y13.out.f
      go_upto_region 22 with fail
      clear bf
      clear b0 b1 b2 b3 b4 b5 b6 b7 b8 b9 b10 b11 b12
      have FB := Lib.hid (Y13.out.fill (vs := msL zeroM none 0 0) (Nat.le_refl _))
      have FX : Hid (Ext w (fillV w13 g6 0 (msL zeroM none 0 0))) := Lib.hid (fillV_below X13.out GZ.out (msL zeroM none 0 0) 0)
      change Code.wp _ _ _ _ (fillV w13 g6 0 (msL zeroM none 0 0))
      generalize fillV w13 g6 0 (msL zeroM none 0 0) = w14 at *
      have b0 := FB.out.c 0 _ rfl
      try simp only [zeroM] at b0
      go_wp2
      go_ret
      exact ⟨rfl, FX.out⟩
end Go.Proofs.Ytgplmbchlahbkaa
