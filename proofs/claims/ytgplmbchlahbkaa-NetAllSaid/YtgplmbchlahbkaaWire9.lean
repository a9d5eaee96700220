/-
  The contract of wire.Decode: at any bytes, six thousand at most. Conditions stand at it.
-/
import Derived.Test.YtgplmbchlahbkaaWire8
import Derived.Lib.SliceRun
namespace Go.Proofs.Ytgplmbchlahbkaa
open Go Go.Sort Go.RowKit
set_option linter.unusedVariables false

/-- What Decode leaves. -/
def MDPost (w : World) (R : Option (MsD × List EnD)) (e : Ending) (w' : World) : Prop :=
  match R with
  | none => e = .returned (.tuple #[msV zeroM none 0 0, .int .i64 1]) ∧ Ext w w'
  | some (m, L) => ∃ p cap, e = .returned (.tuple #[msV m p L.length cap, .int .i64 0]) ∧ OwS 54 7 w' w.heap.size p L.length cap (L.map enL) ∧ (∀ x ∈ L, EnOk x) ∧ MsOk m ∧ Ext w w'
def arrL (zs : List Int) : List Value := (zs ++ List.replicate (13 - zs.length) 0).map (Value.int .i64)
theorem arrL_put {zs : List Int} {v : Int} (h : zs.length < 13) : (arrL zs).set zs.length (.int .i64 v) = arrL (zs ++ [v]) := by
  unfold arrL
  rw [show 13 - zs.length = (13 - (zs ++ [v]).length) + 1 by simp; omega, List.replicate_succ]
  rw [← List.map_set, List.set_append_right _ _ (Nat.le_refl _), Nat.sub_self]
  simp
theorem arrL_at {zs : List Int} {k : Nat} (h : k < 13) (hz : zs.length ≤ 13) : ∃ u, (arrL zs)[k]? = some u := by
  have : k < (arrL zs).length := by unfold arrL; simp; omega
  exact ⟨_, List.getElem?_eq_getElem this⟩
theorem decM_no {b : List UInt8} {l : List Int} {i : Nat} {m : MsD} (hp : parseN (openL b) 13 = some (l, i)) (ho : ofNums l = some m) (h : ∀ L, decL ((openL b).drop i) = some L → ¬ (encM m L = b ∧ mayM m L = true)) : decM b = none := by
  unfold decM
  split
  · rw [hp]
    simp only [ho]
    split
    · rfl
    · rename_i L hL
      rw [if_neg (h L hL)]
  · rfl
theorem decM_yes {b : List UInt8} {l : List Int} {i : Nat} {m : MsD} {L : List EnD} (h0 : opens b = true) (hp : parseN (openL b) 13 = some (l, i)) (ho : ofNums l = some m) (hL : decL ((openL b).drop i) = some L) (h : encM m L = b) (hm : mayM m L = true) : decM b = some (m, L) := by
  unfold decM
  rw [if_pos h0, hp]
  simp only [ho, hL]
  rw [if_pos ⟨h, hm⟩]
theorem decM_short {b : List UInt8} {k : Nat} (hk : k ≤ 13) (h : parseN (openL b) k = none) : decM b = none := by
  unfold decM
  split
  · rw [parseN_none 13 hk h]
  · rfl
theorem decM_shut {b : List UInt8} (h : opens b = false) : decM b = none := by
  unfold decM
  rw [if_neg (by rw [h]; decide)]
theorem openL_len (l : List UInt8) : (openL l).length ≤ l.length := by
  unfold openL
  split
  · rw [List.length_take]; omega
  · simp
theorem nil_eq (a : Option Addr) (n c : Nat) (w : World) : (binOp .eql 35 (.slice a n c) (.slice none 0 0)).run Try.prog w = .ok (.bool a.isNone) w := Go.Lib.run_eql_slice_nil w _ _ a n c 0 0 Try.underlying35

set_option maxRecDepth 8000 in
set_option maxHeartbeats 16000000 in
/-- wire.Decode -/
theorem wdecode_any {w : World} {p : Option Addr} {n cap : Nat} {b : List UInt8} (h : SlP w p n cap b) (hn : n ≤ 6000) :
    Calls Try.prog 30 #[.slice p n cap] w fun e w' => MDPost w (decM b) e w' := by
  have H := Lib.hid h
  have HL := Lib.hid h.len
  have hle := openL_len b
  rw [h.len] at hle
  clear h
  obtain ⟨R, hR⟩ : ∃ R, R = decM b := ⟨_, rfl⟩
  rw [← hR]
  have HR := Lib.hid hR
  clear hR
  have OP := Lib.hid (fun (w : World) (h : SlP w p n cap b) => open_any h (by omega))
  obtain ⟨r, hr⟩ : ∃ r, r = openL b := ⟨_, rfl⟩
  obtain ⟨nr, hnr⟩ : ∃ nr, nr = r.length := ⟨_, rfl⟩
  rw [← hr, ← hnr] at hle
  rw [← hr, ← hnr] at OP
  have HRR := Lib.hid hr
  have HNR := Lib.hid hnr
  clear hr hnr
  have T := Lib.hid (BoxV.new w w.heap.size (msA zeroM none 0 0) (msL zeroM none 0 0) 31 _ rfl (Nat.le_refl _) rfl)
  have X := Lib.hid (Ext.alloc w (.cells (msA zeroM none 0 0) 31))
  cases ho : opens b
  · rw [ho] at OP
    have hRn : R = none := by rw [HR.out]; exact decM_shut ho
    subst hRn
    clear ho
    go_enter Try.func30, Try.ntmps30
    go_wp2_with fail
    refine (OP.out _ (H.out.ext X.out)).mono ?_
    rintro e w1 ⟨p1, c1, rfl, o1, x1⟩
    replace X := Lib.hid (X.out.tr x1)
    replace T := Lib.hid (T.out.ext x1)
    clear x1 o1
    have b0 := T.out.c 0 _ rfl
    have b1 := T.out.c 1 _ rfl
    have b2 := T.out.c 2 _ rfl
    have b3 := T.out.c 3 _ rfl
    have b4 := T.out.c 4 _ rfl
    have b5 := T.out.c 5 _ rfl
    have b6 := T.out.c 6 _ rfl
    have b7 := T.out.c 7 _ rfl
    have b8 := T.out.c 8 _ rfl
    have b9 := T.out.c 9 _ rfl
    have b10 := T.out.c 10 _ rfl
    have b11 := T.out.c 11 _ rfl
    have b12 := T.out.c 12 _ rfl
    try simp only at b0 b1 b2 b3 b4 b5 b6 b7 b8 b9 b10 b11 b12
    have bf := T.out.f
    go_wp2
    obtain ⟨w9, hw9⟩ : ∃ w9, w9 = fillV w1 w.heap.size 0 (msL zeroM none 0 0) := ⟨_, rfl⟩
    change bodyPost _ _ _ Exit.ret _ (fillV w1 w.heap.size 0 (msL zeroM none 0 0))
    have FB := Lib.hid (T.out.fill (vs := msL zeroM none 0 0) (Nat.le_refl _))
    have FX := Lib.hid (fillV_below X.out (Nat.le_refl _) (msL zeroM none 0 0) 0)
    rw [← hw9] at FB FX ⊢
    have f0 := FB.out.c 0 _ rfl
    have f1 := FB.out.c 1 _ rfl
    have f2 := FB.out.c 2 _ rfl
    have f3 := FB.out.c 3 _ rfl
    have f4 := FB.out.c 4 _ rfl
    have f5 := FB.out.c 5 _ rfl
    have f6 := FB.out.c 6 _ rfl
    have f7 := FB.out.c 7 _ rfl
    have f8 := FB.out.c 8 _ rfl
    have f9 := FB.out.c 9 _ rfl
    have f10 := FB.out.c 10 _ rfl
    have f11 := FB.out.c 11 _ rfl
    have f12 := FB.out.c 12 _ rfl
    try simp only at f0 f1 f2 f3 f4 f5 f6 f7 f8 f9 f10 f11 f12
    simp only [zeroM] at f0 f1 f2 f3 f4 f5 f6 f7 f8 f9 f10 f11 f12
    exact bodyPost_ret (v := .tuple #[msV zeroM none 0 0, .int .i64 1]) (by simp [results, Try.results30, go_sem, f0, f1, f2, f3, f4, f5, f6, f7, f8, f9, f10, f11, f12, zeroM]) rfl ⟨rfl, FX.out⟩
  · rw [ho] at OP
    have HO := Lib.hid ho
    clear ho
    go_enter Try.func30, Try.ntmps30
    go_wp2_with fail
    refine (OP.out _ (H.out.ext X.out)).mono ?_
    rintro e w1 ⟨p1, c1, rfl, o1, x1⟩
    replace X := Lib.hid (X.out.tr x1)
    replace T := Lib.hid (T.out.ext x1)
    have O1 := Lib.hid o1.sl
    clear x1 o1
    go_wp2
    have A1 := Lib.hid (Ext.alloc w1 (.cells #[.int .i64 0, .int .i64 0, .int .i64 0, .int .i64 0, .int .i64 0, .int .i64 0, .int .i64 0, .int .i64 0, .int .i64 0, .int .i64 0, .int .i64 0, .int .i64 0, .int .i64 0] 73))
    have G1 := Lib.hid (BoxV.new w1 w1.heap.size #[.int .i64 0, .int .i64 0, .int .i64 0, .int .i64 0, .int .i64 0, .int .i64 0, .int .i64 0, .int .i64 0, .int .i64 0, .int .i64 0, .int .i64 0, .int .i64 0, .int .i64 0] (arrL []) 73 _ rfl (Nat.le_refl _) rfl)
    go_loopw [4, 23] (fun v i wr => ∃ (k x : Nat) (zs : List Int) (p' : Option Addr) (c' : Nat), k ≤ 13 ∧ i = .int .i64 (k : Int) ∧ v = .slice p' (nr - x) c' ∧ parseN r k = some (zs, x) ∧ SlP w1 p' (nr - x) c' (r.drop x) ∧ BoxV wr w1.heap.size w1.heap.size (arrL zs) ∧ Ext w1 wr) (fun _ i _ => 13 - (intOf i).toNat)
    case atStart => exact ⟨0, 0, [], p1, c1, by omega, rfl, rfl, rfl, O1.out, G1.out, A1.out⟩
    case round =>
      clear A1 G1 O1
      obtain ⟨k, x, zs, p', c', hk, rfl, rfl, hp, s1, g1, x1⟩ := hrel
      obtain ⟨hzl, hzi, -, hxl⟩ := parseN_in hp
      rw [← HNR.out] at hxl
      have P := Lib.hid hp
      have S := Lib.hid s1
      have G := Lib.hid g1
      have XR := Lib.hid x1
      have ZI := Lib.hid hzi
      clear hp s1 g1 x1 hzi
      by_cases hlt : k < 13
      · obtain ⟨v, hv⟩ : ∃ v, v = (getL (r.drop x)).1 := ⟨_, rfl⟩
        obtain ⟨c, hc⟩ : ∃ c, c = (getL (r.drop x)).2.1 := ⟨_, rfl⟩
        obtain ⟨q, hq⟩ : ∃ q, q = (getL (r.drop x)).2.2 := ⟨_, rfl⟩
        have GI := getL_in (r.drop x)
        rw [← hv, ← hc, ← hq, List.length_drop, ← HNR.out] at GI
        have HV := Lib.hid hv
        have HC := Lib.hid hc
        have HQ := Lib.hid hq
        clear hv hc hq
        by_cases hq0 : q = 0
        · subst hq0
          have hcx : c ≤ nr - x := by omega
          clear GI
          have P2 : Hid (parseN r (k + 1) = some (zs ++ [v], x + c)) := Lib.hid (by
            rw [parseN, P.out]
            simp only
            rw [if_pos HQ.out.symm, ← HV.out, ← HC.out])
          have cf := fun w => run_cut_from (P := Try.prog) 35 5 Try.underlying35 sz5 p' (nr - x) c' c hcx w
          have D2 : Hid (SlP w1 (tailP p' c' c) (nr - (x + c)) (c' - c) (r.drop (x + c))) := Lib.hid (by
            have h := S.out.drop c hcx
            rwa [List.drop_drop, show nr - x - c = nr - (x + c) by omega] at h)
          obtain ⟨u, hu⟩ := arrL_at (zs := zs) hlt (by omega)
          have cu := G.out.c k u hu
          have fu := G.out.f k
          have G2 : Hid (BoxV (wr.setCell ⟨w1.heap.size, k, none⟩ (.int .i64 v)) w1.heap.size w1.heap.size (arrL (zs ++ [v]))) := Lib.hid (by
            have h := G.out.put k (.int .i64 v)
            rwa [← hzl, arrL_put (by omega), hzl] at h)
          have X2 : Hid (Ext w1 (wr.setCell ⟨w1.heap.size, k, none⟩ (.int .i64 v))) := Lib.hid (XR.out.setCell (Nat.le_refl _) (.int .i64 v))
          have hsub : nr - x - c = nr - (x + c) := by omega
          clear hu
          go_wp2_with fail
          refine (get_any (S.out.ext XR.out) (by omega)).mono ?_
          rw [← HV.out, ← HC.out, ← HQ.out]
          rintro e w2 ⟨rfl, rfl⟩
          go_wp2
          go_roundw
          case rel => exact ⟨k + 1, x + c, zs ++ [v], tailP p' c' c, c' - c, by omega, by go_num, by go_num, P2.out, D2.out, G2.out, X2.out⟩
          case measure => simp [intOf]; omega
        · have h1 : (q != 0) = true := bne_iff_ne.2 hq0
          have h2 : (q == 0) = false := beq_eq_false_iff_ne.2 hq0
          have hRn : R = none := by
            rw [HR.out]
            refine decM_short (k := k + 1) (by omega) ?_
            rw [← HRR.out, parseN, P.out]
            simp only
            rw [if_neg (by rw [← HQ.out]; exact hq0)]
          subst hRn
          clear hq0 GI
          have T2 := Lib.hid (T.out.ext XR.out)
          have X2 := Lib.hid (X.out.tr XR.out)
          go_wp2_with fail
          refine (get_any (S.out.ext XR.out) (by omega)).mono ?_
          rw [← HV.out, ← HC.out, ← HQ.out]
          rintro e w2 ⟨rfl, rfl⟩
          have b0 := T2.out.c 0 _ rfl
          have b1 := T2.out.c 1 _ rfl
          have b2 := T2.out.c 2 _ rfl
          have b3 := T2.out.c 3 _ rfl
          have b4 := T2.out.c 4 _ rfl
          have b5 := T2.out.c 5 _ rfl
          have b6 := T2.out.c 6 _ rfl
          have b7 := T2.out.c 7 _ rfl
          have b8 := T2.out.c 8 _ rfl
          have b9 := T2.out.c 9 _ rfl
          have b10 := T2.out.c 10 _ rfl
          have b11 := T2.out.c 11 _ rfl
          have b12 := T2.out.c 12 _ rfl
          try simp only at b0 b1 b2 b3 b4 b5 b6 b7 b8 b9 b10 b11 b12
          have bf := T2.out.f
          go_wp2
          obtain ⟨w9, hw9⟩ : ∃ w9, w9 = fillV wr w.heap.size 0 (msL zeroM none 0 0) := ⟨_, rfl⟩
          change bodyPost _ _ _ Exit.ret _ (fillV wr w.heap.size 0 (msL zeroM none 0 0))
          have FB := Lib.hid (T2.out.fill (vs := msL zeroM none 0 0) (Nat.le_refl _))
          have FX := Lib.hid (fillV_below X2.out (Nat.le_refl _) (msL zeroM none 0 0) 0)
          rw [← hw9] at FB FX ⊢
          have f0 := FB.out.c 0 _ rfl
          have f1 := FB.out.c 1 _ rfl
          have f2 := FB.out.c 2 _ rfl
          have f3 := FB.out.c 3 _ rfl
          have f4 := FB.out.c 4 _ rfl
          have f5 := FB.out.c 5 _ rfl
          have f6 := FB.out.c 6 _ rfl
          have f7 := FB.out.c 7 _ rfl
          have f8 := FB.out.c 8 _ rfl
          have f9 := FB.out.c 9 _ rfl
          have f10 := FB.out.c 10 _ rfl
          have f11 := FB.out.c 11 _ rfl
          have f12 := FB.out.c 12 _ rfl
          try simp only at f0 f1 f2 f3 f4 f5 f6 f7 f8 f9 f10 f11 f12
          simp only [zeroM] at f0 f1 f2 f3 f4 f5 f6 f7 f8 f9 f10 f11 f12
          exact bodyPost_ret (v := .tuple #[msV zeroM none 0 0, .int .i64 1]) (by simp [results, Try.results30, go_sem, f0, f1, f2, f3, f4, f5, f6, f7, f8, f9, f10, f11, f12, zeroM]) rfl ⟨rfl, FX.out⟩
      · have hk13 : k = 13 := by omega
        subst hk13
        obtain ⟨z0, z1, z2, z3, z4, z5, z6, z7, z8, z9, z10, z11, z12, rfl⟩ : ∃ z0 z1 z2 z3 z4 z5 z6 z7 z8 z9 z10 z11 z12, zs = [z0, z1, z2, z3, z4, z5, z6, z7, z8, z9, z10, z11, z12] := by
          match zs, hzl with
          | [z0, z1, z2, z3, z4, z5, z6, z7, z8, z9, z10, z11, z12], _ => exact ⟨z0, z1, z2, z3, z4, z5, z6, z7, z8, z9, z10, z11, z12, rfl⟩
        have c0 := G.out.c 0 _ rfl
        have c1 := G.out.c 1 _ rfl
        have c2 := G.out.c 2 _ rfl
        have c3 := G.out.c 3 _ rfl
        have c4 := G.out.c 4 _ rfl
        have c5 := G.out.c 5 _ rfl
        have c6 := G.out.c 6 _ rfl
        have c7 := G.out.c 7 _ rfl
        have c8 := G.out.c 8 _ rfl
        have c9 := G.out.c 9 _ rfl
        have c10 := G.out.c 10 _ rfl
        have c11 := G.out.c 11 _ rfl
        try simp only at c0 c1 c2 c3 c4 c5 c6 c7 c8 c9 c10 c11
        change wr.cell? _ = some (.int .i64 z0) at c0
        change wr.cell? _ = some (.int .i64 z1) at c1
        change wr.cell? _ = some (.int .i64 z2) at c2
        change wr.cell? _ = some (.int .i64 z3) at c3
        change wr.cell? _ = some (.int .i64 z4) at c4
        change wr.cell? _ = some (.int .i64 z5) at c5
        change wr.cell? _ = some (.int .i64 z6) at c6
        change wr.cell? _ = some (.int .i64 z7) at c7
        change wr.cell? _ = some (.int .i64 z8) at c8
        change wr.cell? _ = some (.int .i64 z9) at c9
        change wr.cell? _ = some (.int .i64 z10) at c10
        change wr.cell? _ = some (.int .i64 z11) at c11
        obtain ⟨m, hmm⟩ : ∃ m : MsD, m = ⟨z0, z1, z2, z3, z4, z5, z6, z7, z8, z9, z10, decide (z11 = 1)⟩ := ⟨_, rfl⟩
        have HM := Lib.hid hmm
        have hof : ofNums [z0, z1, z2, z3, z4, z5, z6, z7, z8, z9, z10, z11, z12] = some m := by rw [hmm]; rfl
        have MOK := Lib.hid (ofNums_ok hof ZI.out)
        have HOF := Lib.hid hof
        have hz11 : (z11 == 1) = decide (z11 = 1) := by
          cases hq : (z11 == 1)
          · rw [decide_eq_false (beq_eq_false_iff_ne.1 hq)]
          · rw [decide_eq_true (eq_of_beq hq)]
        clear hmm hof
        have DD := decode_any (S.out.ext XR.out) (by omega)
        have HP : Hid (parseN (openL b) 13 = some ([z0, z1, z2, z3, z4, z5, z6, z7, z8, z9, z10, z11, z12], x)) := Lib.hid (by rw [← HRR.out]; exact P.out)
        rw [HRR.out] at DD
        have T2 := Lib.hid (T.out.ext XR.out)
        have X2 := Lib.hid (X.out.tr XR.out)
        have XR2 := Lib.hid XR.out
        cases hdl : decL ((openL b).drop x) with
        | none =>
          have hRn : R = none := by
            rw [HR.out]
            exact decM_no HP.out HOF.out (fun L hL => by rw [hdl] at hL; cases hL)
          subst hRn
          rw [hdl] at DD
          clear hdl
          go_wp2_with fail
          refine DD.mono ?_
          rintro e w2 ⟨rfl, x2⟩
          replace X2 := Lib.hid (X2.out.tr x2)
          replace T2 := Lib.hid (T2.out.ext x2)
          replace G := Lib.hid (G.out.ext x2)
          clear x2 DD c0 c1 c2 c3 c4 c5 c6 c7 c8 c9 c10 c11
          have c0 := G.out.c 0 _ rfl
          have c1 := G.out.c 1 _ rfl
          have c2 := G.out.c 2 _ rfl
          have c3 := G.out.c 3 _ rfl
          have c4 := G.out.c 4 _ rfl
          have c5 := G.out.c 5 _ rfl
          have c6 := G.out.c 6 _ rfl
          have c7 := G.out.c 7 _ rfl
          have c8 := G.out.c 8 _ rfl
          have c9 := G.out.c 9 _ rfl
          have c10 := G.out.c 10 _ rfl
          have c11 := G.out.c 11 _ rfl
          try simp only at c0 c1 c2 c3 c4 c5 c6 c7 c8 c9 c10 c11
          change w2.cell? _ = some (.int .i64 z0) at c0
          change w2.cell? _ = some (.int .i64 z1) at c1
          change w2.cell? _ = some (.int .i64 z2) at c2
          change w2.cell? _ = some (.int .i64 z3) at c3
          change w2.cell? _ = some (.int .i64 z4) at c4
          change w2.cell? _ = some (.int .i64 z5) at c5
          change w2.cell? _ = some (.int .i64 z6) at c6
          change w2.cell? _ = some (.int .i64 z7) at c7
          change w2.cell? _ = some (.int .i64 z8) at c8
          change w2.cell? _ = some (.int .i64 z9) at c9
          change w2.cell? _ = some (.int .i64 z10) at c10
          change w2.cell? _ = some (.int .i64 z11) at c11
          have S3 := Lib.hid (SlS.empty 7 (w2.alloc (.cells (msA m none 0 0) 31)))
          have A3 := Lib.hid (Ext.alloc w2 (.cells (msA m none 0 0) 31))
          have M3 := Lib.hid (BoxV.new w2 w2.heap.size (msA m none 0 0) (msL m none 0 0) 31 _ rfl (Nat.le_refl _) rfl)
          have EN := Lib.hid (fun w (h : SlS 7 w none 0 0 (([] : List EnD).map enL)) => wencode_any (L := []) MOK.out h (fun e he => by cases he))
          rw [HM.out] at EN A3 M3 S3
          try simp only at EN A3 M3 S3
          go_wp2_with fail
          refine (EN.out _ S3.out).mono ?_
          rintro e w3 ⟨p3, k3, rfl, o3, hn3, x3⟩
          replace X2 := Lib.hid (X2.out.tr (A3.out.tr x3))
          replace T2 := Lib.hid (T2.out.ext (A3.out.tr x3))
          clear x3 o3 hn3
          have b0 := T2.out.c 0 _ rfl
          have b1 := T2.out.c 1 _ rfl
          have b2 := T2.out.c 2 _ rfl
          have b3 := T2.out.c 3 _ rfl
          have b4 := T2.out.c 4 _ rfl
          have b5 := T2.out.c 5 _ rfl
          have b6 := T2.out.c 6 _ rfl
          have b7 := T2.out.c 7 _ rfl
          have b8 := T2.out.c 8 _ rfl
          have b9 := T2.out.c 9 _ rfl
          have b10 := T2.out.c 10 _ rfl
          have b11 := T2.out.c 11 _ rfl
          have b12 := T2.out.c 12 _ rfl
          try simp only at b0 b1 b2 b3 b4 b5 b6 b7 b8 b9 b10 b11 b12
          have bf := T2.out.f
          go_wp2
          obtain ⟨w9, hw9⟩ : ∃ w9, w9 = fillV w3 w.heap.size 0 (msL zeroM none 0 0) := ⟨_, rfl⟩
          change bodyPost _ _ _ Exit.ret _ (fillV w3 w.heap.size 0 (msL zeroM none 0 0))
          have FB := Lib.hid (T2.out.fill (vs := msL zeroM none 0 0) (Nat.le_refl _))
          have FX := Lib.hid (fillV_below X2.out (Nat.le_refl _) (msL zeroM none 0 0) 0)
          rw [← hw9] at FB FX ⊢
          have f0 := FB.out.c 0 _ rfl
          have f1 := FB.out.c 1 _ rfl
          have f2 := FB.out.c 2 _ rfl
          have f3 := FB.out.c 3 _ rfl
          have f4 := FB.out.c 4 _ rfl
          have f5 := FB.out.c 5 _ rfl
          have f6 := FB.out.c 6 _ rfl
          have f7 := FB.out.c 7 _ rfl
          have f8 := FB.out.c 8 _ rfl
          have f9 := FB.out.c 9 _ rfl
          have f10 := FB.out.c 10 _ rfl
          have f11 := FB.out.c 11 _ rfl
          have f12 := FB.out.c 12 _ rfl
          try simp only at f0 f1 f2 f3 f4 f5 f6 f7 f8 f9 f10 f11 f12
          simp only [zeroM] at f0 f1 f2 f3 f4 f5 f6 f7 f8 f9 f10 f11 f12
          exact bodyPost_ret (v := .tuple #[msV zeroM none 0 0, .int .i64 1]) (by simp [results, Try.results30, go_sem, f0, f1, f2, f3, f4, f5, f6, f7, f8, f9, f10, f11, f12, zeroM]) rfl ⟨rfl, FX.out⟩
        | some L =>
          have DLEN := decL_len hdl
          rw [← HRR.out, List.length_drop, ← HNR.out] at DLEN
          have HD := Lib.hid hdl
          rw [hdl] at DD
          clear hdl
          go_wp2_with fail
          refine DD.mono ?_
          rintro e w2 ⟨pe, ce, rfl, oe, x2, lok⟩
          replace X2 := Lib.hid (X2.out.tr x2)
          replace T2 := Lib.hid (T2.out.ext x2)
          replace G := Lib.hid (G.out.ext x2)
          have OE := Lib.hid oe
          have LOK := Lib.hid lok
          have XS := Lib.hid x2.size
          replace XR2 := Lib.hid (XR2.out.tr x2)
          clear x2 DD oe lok c0 c1 c2 c3 c4 c5 c6 c7 c8 c9 c10 c11
          have c0 := G.out.c 0 _ rfl
          have c1 := G.out.c 1 _ rfl
          have c2 := G.out.c 2 _ rfl
          have c3 := G.out.c 3 _ rfl
          have c4 := G.out.c 4 _ rfl
          have c5 := G.out.c 5 _ rfl
          have c6 := G.out.c 6 _ rfl
          have c7 := G.out.c 7 _ rfl
          have c8 := G.out.c 8 _ rfl
          have c9 := G.out.c 9 _ rfl
          have c10 := G.out.c 10 _ rfl
          have c11 := G.out.c 11 _ rfl
          try simp only at c0 c1 c2 c3 c4 c5 c6 c7 c8 c9 c10 c11
          change w2.cell? _ = some (.int .i64 z0) at c0
          change w2.cell? _ = some (.int .i64 z1) at c1
          change w2.cell? _ = some (.int .i64 z2) at c2
          change w2.cell? _ = some (.int .i64 z3) at c3
          change w2.cell? _ = some (.int .i64 z4) at c4
          change w2.cell? _ = some (.int .i64 z5) at c5
          change w2.cell? _ = some (.int .i64 z6) at c6
          change w2.cell? _ = some (.int .i64 z7) at c7
          change w2.cell? _ = some (.int .i64 z8) at c8
          change w2.cell? _ = some (.int .i64 z9) at c9
          change w2.cell? _ = some (.int .i64 z10) at c10
          change w2.cell? _ = some (.int .i64 z11) at c11
          have S3 := Lib.hid (OE.out.sl.ext (Ext.alloc w2 (.cells (msA m pe L.length ce) 31)))
          have A3 := Lib.hid (Ext.alloc w2 (.cells (msA m pe L.length ce) 31))
          have M3 := Lib.hid (BoxV.new w2 w2.heap.size (msA m pe L.length ce) (msL m pe L.length ce) 31 _ rfl (Nat.le_refl _) rfl)
          have EN := Lib.hid (fun w (h : SlS 7 w pe L.length ce (L.map enL)) => wencode_any MOK.out h LOK.out)
          obtain ⟨F, hF⟩ : ∃ F, F = encM m L := ⟨_, rfl⟩
          obtain ⟨B, hB⟩ : ∃ B, B = mayM m L := ⟨_, rfl⟩
          rw [← hF, ← hB] at EN
          have HF := Lib.hid hF
          have HB := Lib.hid hB
          clear hF hB
          rw [HM.out] at EN A3 M3 S3
          try simp only at EN A3 M3 S3
          go_wp2_with fail
          refine (EN.out _ S3.out).mono ?_
          rintro e w3 ⟨p3, k3, rfl, o3, hn3, x3⟩
          replace X2 := Lib.hid (X2.out.tr (A3.out.tr x3))
          replace T2 := Lib.hid (T2.out.ext (A3.out.tr x3))
          replace M3 := Lib.hid (M3.out.ext x3)
          replace OE := Lib.hid (OE.out.ext (A3.out.tr x3))
          have O3 := Lib.hid o3.sl
          clear x3 o3 c0 c1 c2 c3 c4 c5 c6 c7 c8 c9 c10 c11
          cases B
          · have hp3 := hn3.2 rfl
            subst hp3
            have ne := fun w => nil_eq none F.length k3 w
            simp only [Option.isNone_none] at ne
            have hRn : R = none := by
              rw [HR.out]
              refine decM_no HP.out HOF.out (fun L' hL h => ?_)
              rw [HD.out] at hL
              cases hL
              rw [← HB.out] at h
              cases h.2
            subst hRn
            clear hn3
            have b0 := T2.out.c 0 _ rfl
            have b1 := T2.out.c 1 _ rfl
            have b2 := T2.out.c 2 _ rfl
            have b3 := T2.out.c 3 _ rfl
            have b4 := T2.out.c 4 _ rfl
            have b5 := T2.out.c 5 _ rfl
            have b6 := T2.out.c 6 _ rfl
            have b7 := T2.out.c 7 _ rfl
            have b8 := T2.out.c 8 _ rfl
            have b9 := T2.out.c 9 _ rfl
            have b10 := T2.out.c 10 _ rfl
            have b11 := T2.out.c 11 _ rfl
            have b12 := T2.out.c 12 _ rfl
            try simp only at b0 b1 b2 b3 b4 b5 b6 b7 b8 b9 b10 b11 b12
            have bf := T2.out.f
            go_wp2
            obtain ⟨w9, hw9⟩ : ∃ w9, w9 = fillV w3 w.heap.size 0 (msL zeroM none 0 0) := ⟨_, rfl⟩
            change bodyPost _ _ _ Exit.ret _ (fillV w3 w.heap.size 0 (msL zeroM none 0 0))
            have FB := Lib.hid (T2.out.fill (vs := msL zeroM none 0 0) (Nat.le_refl _))
            have FX := Lib.hid (fillV_below X2.out (Nat.le_refl _) (msL zeroM none 0 0) 0)
            rw [← hw9] at FB FX ⊢
            have f0 := FB.out.c 0 _ rfl
            have f1 := FB.out.c 1 _ rfl
            have f2 := FB.out.c 2 _ rfl
            have f3 := FB.out.c 3 _ rfl
            have f4 := FB.out.c 4 _ rfl
            have f5 := FB.out.c 5 _ rfl
            have f6 := FB.out.c 6 _ rfl
            have f7 := FB.out.c 7 _ rfl
            have f8 := FB.out.c 8 _ rfl
            have f9 := FB.out.c 9 _ rfl
            have f10 := FB.out.c 10 _ rfl
            have f11 := FB.out.c 11 _ rfl
            have f12 := FB.out.c 12 _ rfl
            try simp only at f0 f1 f2 f3 f4 f5 f6 f7 f8 f9 f10 f11 f12
            simp only [zeroM] at f0 f1 f2 f3 f4 f5 f6 f7 f8 f9 f10 f11 f12
            exact bodyPost_ret (v := .tuple #[msV zeroM none 0 0, .int .i64 1]) (by simp [results, Try.results30, go_sem, f0, f1, f2, f3, f4, f5, f6, f7, f8, f9, f10, f11, f12, zeroM]) rfl ⟨rfl, FX.out⟩
          · obtain ⟨ad, rfl⟩ : ∃ ad, p3 = some ad := by
              cases p3 with
              | none => cases hn3.1 rfl
              | some ad => exact ⟨ad, rfl⟩
            clear hn3
            have ne := fun w => nil_eq (some ad) F.length k3 w
            simp only [Option.isNone_some] at ne
            have EQ := Lib.hid (equal_any O3.out (H.out.ext X2.out))
            cases hfb : (F == b)
            · rw [hfb] at EQ
              have hRn : R = none := by
                rw [HR.out]
                refine decM_no HP.out HOF.out (fun L' hL h => ?_)
                rw [HD.out] at hL
                cases hL
                rw [← HF.out] at h
                rw [h.1, beq_self_eq_true] at hfb
                cases hfb
              subst hRn
              clear hfb
              go_wp2_with fail
              refine EQ.out.mono ?_
              rintro e w4 ⟨rfl, rfl⟩
              have b0 := T2.out.c 0 _ rfl
              have b1 := T2.out.c 1 _ rfl
              have b2 := T2.out.c 2 _ rfl
              have b3 := T2.out.c 3 _ rfl
              have b4 := T2.out.c 4 _ rfl
              have b5 := T2.out.c 5 _ rfl
              have b6 := T2.out.c 6 _ rfl
              have b7 := T2.out.c 7 _ rfl
              have b8 := T2.out.c 8 _ rfl
              have b9 := T2.out.c 9 _ rfl
              have b10 := T2.out.c 10 _ rfl
              have b11 := T2.out.c 11 _ rfl
              have b12 := T2.out.c 12 _ rfl
              try simp only at b0 b1 b2 b3 b4 b5 b6 b7 b8 b9 b10 b11 b12
              have bf := T2.out.f
              go_wp2
              obtain ⟨w9, hw9⟩ : ∃ w9, w9 = fillV w3 w.heap.size 0 (msL zeroM none 0 0) := ⟨_, rfl⟩
              change bodyPost _ _ _ Exit.ret _ (fillV w3 w.heap.size 0 (msL zeroM none 0 0))
              have FB := Lib.hid (T2.out.fill (vs := msL zeroM none 0 0) (Nat.le_refl _))
              have FX := Lib.hid (fillV_below X2.out (Nat.le_refl _) (msL zeroM none 0 0) 0)
              rw [← hw9] at FB FX ⊢
              have f0 := FB.out.c 0 _ rfl
              have f1 := FB.out.c 1 _ rfl
              have f2 := FB.out.c 2 _ rfl
              have f3 := FB.out.c 3 _ rfl
              have f4 := FB.out.c 4 _ rfl
              have f5 := FB.out.c 5 _ rfl
              have f6 := FB.out.c 6 _ rfl
              have f7 := FB.out.c 7 _ rfl
              have f8 := FB.out.c 8 _ rfl
              have f9 := FB.out.c 9 _ rfl
              have f10 := FB.out.c 10 _ rfl
              have f11 := FB.out.c 11 _ rfl
              have f12 := FB.out.c 12 _ rfl
              try simp only at f0 f1 f2 f3 f4 f5 f6 f7 f8 f9 f10 f11 f12
              simp only [zeroM] at f0 f1 f2 f3 f4 f5 f6 f7 f8 f9 f10 f11 f12
              exact bodyPost_ret (v := .tuple #[msV zeroM none 0 0, .int .i64 1]) (by simp [results, Try.results30, go_sem, f0, f1, f2, f3, f4, f5, f6, f7, f8, f9, f10, f11, f12, zeroM]) rfl ⟨rfl, FX.out⟩
            · rw [hfb] at EQ
              have hRs : R = some (m, L) := by
                rw [HR.out]
                exact decM_yes HO.out HP.out HOF.out HD.out (by rw [← HF.out]; exact eq_of_beq hfb) HB.out.symm
              subst hRs
              clear hfb
              go_wp2_with fail
              refine EQ.out.mono ?_
              rintro e w4 ⟨rfl, rfl⟩
              obtain rfl := HM.out
              have c0 := M3.out.c 0 _ rfl
              have c1 := M3.out.c 1 _ rfl
              have c2 := M3.out.c 2 _ rfl
              have c3 := M3.out.c 3 _ rfl
              have c4 := M3.out.c 4 _ rfl
              have c5 := M3.out.c 5 _ rfl
              have c6 := M3.out.c 6 _ rfl
              have c7 := M3.out.c 7 _ rfl
              have c8 := M3.out.c 8 _ rfl
              have c9 := M3.out.c 9 _ rfl
              have c10 := M3.out.c 10 _ rfl
              have c11 := M3.out.c 11 _ rfl
              have c12 := M3.out.c 12 _ rfl
              try simp only at c0 c1 c2 c3 c4 c5 c6 c7 c8 c9 c10 c11 c12
              have b0 := T2.out.c 0 _ rfl
              have b1 := T2.out.c 1 _ rfl
              have b2 := T2.out.c 2 _ rfl
              have b3 := T2.out.c 3 _ rfl
              have b4 := T2.out.c 4 _ rfl
              have b5 := T2.out.c 5 _ rfl
              have b6 := T2.out.c 6 _ rfl
              have b7 := T2.out.c 7 _ rfl
              have b8 := T2.out.c 8 _ rfl
              have b9 := T2.out.c 9 _ rfl
              have b10 := T2.out.c 10 _ rfl
              have b11 := T2.out.c 11 _ rfl
              have b12 := T2.out.c 12 _ rfl
              try simp only at b0 b1 b2 b3 b4 b5 b6 b7 b8 b9 b10 b11 b12
              have bf := T2.out.f
              have hgw : w.heap.size < wr.heap.size := (T.out.ext XR.out).hi
              go_wp2
              obtain ⟨w9, hw9⟩ : ∃ w9, w9 = fillV w3 w.heap.size 0 (msL ⟨z0, z1, z2, z3, z4, z5, z6, z7, z8, z9, z10, decide (z11 = 1)⟩ pe L.length ce) := ⟨_, rfl⟩
              change bodyPost _ _ _ Exit.ret _ (fillV w3 w.heap.size 0 (msL ⟨z0, z1, z2, z3, z4, z5, z6, z7, z8, z9, z10, decide (z11 = 1)⟩ pe L.length ce))
              have FB := Lib.hid (T2.out.fill (vs := msL ⟨z0, z1, z2, z3, z4, z5, z6, z7, z8, z9, z10, decide (z11 = 1)⟩ pe L.length ce) (Nat.le_refl _))
              have FX := Lib.hid (fillV_below X2.out (Nat.le_refl _) (msL ⟨z0, z1, z2, z3, z4, z5, z6, z7, z8, z9, z10, decide (z11 = 1)⟩ pe L.length ce) 0)
              have FO := Lib.hid ((OE.out.kept (fillV_grown w.heap.size (msL ⟨z0, z1, z2, z3, z4, z5, z6, z7, z8, z9, z10, decide (z11 = 1)⟩ pe L.length ce) 0 w3 w3 (grown_refl _ _)) (fun k hk => by
                cases hk
                intro hc
                have := OE.out.lt _ hc
                omega)).mono (show w.heap.size ≤ wr.heap.size by omega))
              rw [← hw9] at FB FX FO ⊢
              have f0 := FB.out.c 0 _ rfl
              have f1 := FB.out.c 1 _ rfl
              have f2 := FB.out.c 2 _ rfl
              have f3 := FB.out.c 3 _ rfl
              have f4 := FB.out.c 4 _ rfl
              have f5 := FB.out.c 5 _ rfl
              have f6 := FB.out.c 6 _ rfl
              have f7 := FB.out.c 7 _ rfl
              have f8 := FB.out.c 8 _ rfl
              have f9 := FB.out.c 9 _ rfl
              have f10 := FB.out.c 10 _ rfl
              have f11 := FB.out.c 11 _ rfl
              have f12 := FB.out.c 12 _ rfl
              try simp only at f0 f1 f2 f3 f4 f5 f6 f7 f8 f9 f10 f11 f12
              try simp only at f0 f1 f2 f3 f4 f5 f6 f7 f8 f9 f10 f11 f12
              exact bodyPost_ret (v := .tuple #[msV ⟨z0, z1, z2, z3, z4, z5, z6, z7, z8, z9, z10, decide (z11 = 1)⟩ pe L.length ce, .int .i64 0]) (by simp [results, Try.results30, go_sem, f0, f1, f2, f3, f4, f5, f6, f7, f8, f9, f10, f11, f12]) rfl ⟨pe, ce, rfl, FO.out, LOK.out, MOK.out, FX.out⟩
end Go.Proofs.Ytgplmbchlahbkaa
