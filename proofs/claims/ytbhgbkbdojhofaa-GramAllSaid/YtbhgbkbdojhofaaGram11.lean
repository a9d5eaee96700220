/-
  The walk of GramAll: whatever the operations, the law returns true.
-/
import Derived.Test.YtbhgbkbdojhofaaGram6
import Derived.Test.YtbhgbkbdojhofaaGram9
import Derived.Test.YtbhgbkbdojhofaaGram10
import Derived.Test.YtbhgbkbdojhofaaRegion3
import Derived.Deep.CutBlock
import Derived.Deep.MidRow
import Derived.Deep.DeepCutAuto
namespace Go.Proofs.Ytbhgbkbdojhofaa
open Go Go.Sort Go.RowKit
set_option linter.unusedVariables false

abbrev tbL (bs : Nat → Bool) : List Value := [.bool (bs 0), .bool (bs 1), .bool (bs 2), .bool (bs 3), .bool (bs 4), .bool (bs 5), .bool (bs 6), .bool (bs 7)]
abbrev tbA (bs : Nat → Bool) : Array Value := #[.bool (bs 0), .bool (bs 1), .bool (bs 2), .bool (bs 3), .bool (bs 4), .bool (bs 5), .bool (bs 6), .bool (bs 7)]
theorem tbL_at {bs : Nat → Bool} {F : Nat} (h : F < 8) : (tbL bs)[F]? = some (.bool (bs F)) := by rcases lt8 h with rfl | rfl | rfl | rfl | rfl | rfl | rfl | rfl <;> rfl
theorem tbL_set {bs : Nat → Bool} {F : Nat} {v : Bool} (h : F < 8) : (tbL bs).set F (.bool v) = tbL (updF bs F v) := by rcases lt8 h with rfl | rfl | rfl | rfl | rfl | rfl | rfl | rfl <;> rfl
/-- A Gram and what the law keeps beside it. -/
structure GA (B0 : Nat) (w : World) (g gb gn ga gs : Nat) (me : Int) (bs ba : Nat → Int) (ps : Nat → Int × Int × Bool) : Prop where
  G : BoxV w B0 g (grL me bs ps)
  B : BoxV w B0 gb (tpL ba)
  N : BoxV w B0 gn (tpL fun j => (ps j).1)
  A : BoxV w B0 ga (tpL fun j => (ps j).2.1)
  S : BoxV w B0 gs (tbL fun j => (ps j).2.2)
  lt : g < gb ∧ gb < gn ∧ gn < ga ∧ ga < gs
section
variable {B0 : Nat} {w w' : World} {g gb gn ga gs : Nat} {me : Int} {bs ba : Nat → Int} {ps : Nat → Int × Int × Bool}
theorem GA.ext (h : GA B0 w g gb gn ga gs me bs ba ps) (x : Ext w w') : GA B0 w' g gb gn ga gs me bs ba ps := ⟨h.G.ext x, h.B.ext x, h.N.ext x, h.A.ext x, h.S.ext x, h.lt⟩
theorem GA.heard {bs' : Nat → Int} (h : GA B0 w g gb gn ga gs me bs ba ps) (d : BoxV w' B0 g (grL me bs' ps)) (k : w.grownBy w' (some g)) : GA B0 w' g gb gn ga gs me bs' ba ps := by
  have l := h.lt
  exact ⟨d, h.B.other k (by intro e; injection e with e; omega), h.N.other k (by intro e; injection e with e; omega), h.A.other k (by intro e; injection e with e; omega), h.S.other k (by intro e; injection e with e; omega), l⟩
theorem GA.putB {F : Nat} (v : Int) (hF : F < 8) (h : GA B0 w g gb gn ga gs me bs ba ps) : GA B0 (w.setCell ⟨gb, F, none⟩ (.int .i64 v)) g gb gn ga gs me bs (updF ba F v) ps := by
  have l := h.lt
  have k := grown_put (grown_refl w (some gb)) F (.int .i64 v)
  exact ⟨h.G.other k (by intro e; injection e with e; omega), by rw [← tpL_set hF]; exact h.B.put _ _, h.N.other k (by intro e; injection e with e; omega), h.A.other k (by intro e; injection e with e; omega), h.S.other k (by intro e; injection e with e; omega), l⟩
theorem GA.sent {F : Nat} {a b : Int} (hF : F < 8) (h : GA B0 w g gb gn ga gs me bs ba ps) (d : BoxV w' B0 g (grL me bs (updF ps F (a, b, true)))) (k : w.grownBy w' (some g)) (w3 : World) (h3 : w3 = ((w'.setCell ⟨gn, F, none⟩ (.int .i64 a)).setCell ⟨ga, F, none⟩ (.int .i64 b)).setCell ⟨gs, F, none⟩ (.bool true)) :
    GA B0 w3 g gb gn ga gs me bs ba (updF ps F (a, b, true)) := by
  have l := h.lt
  subst h3
  have k1 := grown_put (grown_refl w' (some gn)) F (.int .i64 a)
  have k2 := grown_put (grown_refl (w'.setCell ⟨gn, F, none⟩ (.int .i64 a)) (some ga)) F (.int .i64 b)
  have k3 := grown_put (grown_refl ((w'.setCell ⟨gn, F, none⟩ (.int .i64 a)).setCell ⟨ga, F, none⟩ (.int .i64 b)) (some gs)) F (.bool true)
  have hB := h.B.other k (by intro e; injection e with e; omega)
  have hN := h.N.other k (by intro e; injection e with e; omega)
  have hA := h.A.other k (by intro e; injection e with e; omega)
  have hS := h.S.other k (by intro e; injection e with e; omega)
  have e1 : (fun j => (updF ps F (a, b, true) j).1) = updF (fun j => (ps j).1) F a := by funext j; unfold updF; split <;> rfl
  have e2 : (fun j => (updF ps F (a, b, true) j).2.1) = updF (fun j => (ps j).2.1) F b := by funext j; unfold updF; split <;> rfl
  have e3 : (fun j => (updF ps F (a, b, true) j).2.2) = updF (fun j => (ps j).2.2) F true := by funext j; unfold updF; split <;> rfl
  refine ⟨((d.other k1 (by intro e; injection e with e; omega)).other k2 (by intro e; injection e with e; omega)).other k3 (by intro e; injection e with e; omega), ((hB.other k1 (by intro e; injection e with e; omega)).other k2 (by intro e; injection e with e; omega)).other k3 (by intro e; injection e with e; omega), ?_, ?_, ?_, l⟩
  · rw [e1, ← tpL_set hF]; exact ((hN.put F (.int .i64 a)).other k2 (by intro e; injection e with e; omega)).other k3 (by intro e; injection e with e; omega)
  · rw [e2, ← tpL_set hF]; exact ((hA.other k1 (by intro e; injection e with e; omega)).put F (.int .i64 b)).other k3 (by intro e; injection e with e; omega)
  · rw [e3, ← tbL_set hF]; exact ((hS.other k1 (by intro e; injection e with e; omega)).other k2 (by intro e; injection e with e; omega)).put F (.bool true)
end
theorem og_size : (Try.prog.info? 33).map (·.size) = some 18 := by kernel_rfl
theorem setCells_fill (g : Nat) : ∀ (vs : List Value) (j : Nat) (w : World), w.setCells g j vs = fillV w g j vs
  | [], _, _ => rfl
  | v :: vs, j, w => setCells_fill g vs (j + 1) _
theorem there_of_box {w : World} {base g : Nat} {vs : List Value} (h : BoxV w base g vs) : w.there g 0 vs.length := fun j hj => ⟨by rw [Nat.zero_add, h.c j _ (List.getElem?_eq_getElem hj)]; rfl, by rw [Nat.zero_add]; exact h.f j⟩
def og0 : OpG := ⟨0, 0, zeroM, none, 0, 0, [], none, 0, 0, [], 0, 0⟩
theorem og_one (o : OpG) : (ogA o).all (·.oneCell') = true := by simp [Value.oneCell']
theorem hear_short {me : Int} {bs : Nat → Int} {b : List UInt8} (h : b.length < 17) : hearR me bs b = .inr 1 := by
  unfold hearR
  cases hd : decM b with
  | none => rfl
  | some r =>
    obtain ⟨m, L⟩ := r
    obtain ⟨h1, h2, -⟩ := decM_some hd
    have := encM_pos h2
    rw [h1] at this
    omega
theorem hear_from {me : Int} {bs : Nat → Int} {b : List UInt8} {m : MsD} {L : List EnD} (h : hearR me bs b = .inl (m, L)) : 1 ≤ m.fr ∧ m.fr ≤ 7 := by
  unfold hearR at h
  cases hd : decM b with
  | none => rw [hd] at h; cases h
  | some r =>
    obtain ⟨m', L'⟩ := r
    rw [hd] at h
    simp only at h
    split at h
    · split at h
      · cases h
      · cases h
        exact may_from (decM_some hd).2.1
    · cases h

set_option maxRecDepth 8000 in
set_option maxHeartbeats 32000000 in
theorem walk_GramAll {me ppm : Int} {p : Option Addr} {n cap : Nat} {xs : List OpG} {w : World} (hme : I64 me) (h : SlS 18 w p n cap (xs.map ogL)) (hx : ∀ o ∈ xs, OgOk w o) (hppm : I64 ppm) :
    Calls Try.prog 3 #[.int .i64 me, .slice p n cap, .int .i64 ppm] w fun e w' => e = .returned (.bool true) ∧ Below w.heap.size w w' := by
  have hn : n ≤ 9223372036854775807 := Nat.le_trans h.le h.max
  have S := Lib.hid h
  have HX := Lib.hid hx
  clear h hx hme hppm
  cases hz : isI me
  · have hr : me < 1 ∨ 7 < me := by
      by_cases h1 : 1 ≤ me
      · by_cases h2 : me ≤ 7
        · rw [show isI me = true by unfold isI; rw [decide_eq_true h1, decide_eq_true h2]; rfl] at hz
          cases hz
        · omega
      · omega
    have HZ := Lib.hid hz
    clear hz
    rcases hr with h1 | h1
    all_goals
      go_enter Try.func3, Try.ntmps3
      go_wp2_with fail
      refine (begun17 w).mono ?_
      rintro e w1 ⟨rfl, x1⟩
      have X := Lib.hid x1
      clear x1
      go_wp2_with fail
      refine (gnew_any me w1).mono ?_
      rintro e w2 ⟨-, hy, x2⟩
      obtain rfl := hy HZ.out
      replace X := Lib.hid (X.out.tr x2)
      clear x2 hy
      go_wp2
      go_ret
      exact ⟨rfl, X.out⟩
  obtain ⟨h1, h2⟩ := isI_yes hz
  have HI := Lib.hid hz
  clear hz
  go_enter Try.func3, Try.ntmps3
  go_wp2_with fail
  refine (begun17 w).mono ?_
  rintro e w1 ⟨rfl, x1⟩
  have X := Lib.hid x1
  clear x1
  go_wp2_with fail
  refine (gnew_any me w1).mono ?_
  rintro e w2 ⟨hy, -, x2⟩
  obtain ⟨rfl, d2⟩ := hy HI.out
  have SZ := Lib.hid X.out.size
  have D := Lib.hid d2
  replace X := Lib.hid (X.out.tr x2)
  clear hy d2 x2
  generalize w1.heap.size = g at *
  go_upto_region 10 with fail
  obtain ⟨wa, hwa⟩ : ∃ wa, wa = w2.alloc (.cells (tpA zB) 26) := ⟨_, rfl⟩
  obtain ⟨wb, hwb⟩ : ∃ wb, wb = wa.alloc (.cells (tpA zB) 26) := ⟨_, rfl⟩
  obtain ⟨wc, hwc⟩ : ∃ wc, wc = wb.alloc (.cells (tpA zB) 26) := ⟨_, rfl⟩
  obtain ⟨wd, hwd⟩ : ∃ wd, wd = wc.alloc (.cells (tbA fun _ => false) 27) := ⟨_, rfl⟩
  have sa : wa.heap.size = w2.heap.size + 1 := by rw [hwa]; simp
  have sb : wb.heap.size = w2.heap.size + 1 + 1 := by rw [hwb]; simp [sa]
  have sc : wc.heap.size = w2.heap.size + 1 + 1 + 1 := by rw [hwc]; simp [sb]
  have hg2 : g < w2.heap.size := D.out.hi
  have BB := BoxV.new w2 w.heap.size (tpA zB) (tpL zB) 26 w2.heap.size rfl (Nat.le_of_lt (Nat.lt_of_le_of_lt SZ.out hg2)) rfl
  have BN := BoxV.new wa w.heap.size (tpA zB) (tpL zB) 26 (w2.heap.size + 1) sa.symm (by have := SZ.out; omega) rfl
  have BA := BoxV.new wb w.heap.size (tpA zB) (tpL zB) 26 (w2.heap.size + 1 + 1) sb.symm (by have := SZ.out; omega) rfl
  have BS := BoxV.new wc w.heap.size (tbA fun _ => false) (tbL fun _ => false) 27 (w2.heap.size + 1 + 1 + 1) sc.symm (by have := SZ.out; omega) rfl
  rw [← hwa] at BB
  rw [← hwb] at BN
  rw [← hwc] at BA
  rw [← hwd] at BS
  have xa : Ext w2 wa := by rw [hwa]; exact Ext.alloc w2 _
  have xb : Ext wa wb := by rw [hwb]; exact Ext.alloc wa _
  have xc : Ext wb wc := by rw [hwc]; exact Ext.alloc wb _
  have xd : Ext wc wd := by rw [hwd]; exact Ext.alloc wc _
  have G0 : Hid (GA w.heap.size wd g w2.heap.size (w2.heap.size + 1) (w2.heap.size + 1 + 1) (w2.heap.size + 1 + 1 + 1) me zB zB zP) := Lib.hid ⟨((((D.out.base SZ.out).ext xa).ext xb).ext xc).ext xd, ((BB.ext xb).ext xc).ext xd, (BN.ext xc).ext xd, BA.ext xd, BS, by omega, by omega, by omega, by omega⟩
  replace X := Lib.hid (X.out.tr (xa.tr (xb.tr (xc.tr xd))))
  change Code.wp _ _ _ _ (((((w2.alloc (.cells (tpA zB) 26)).alloc (.cells (tpA zB) 26)).alloc (.cells (tpA zB) 26))).alloc (.cells (tbA fun _ => false) 27))
  rw [← hwa, ← hwb, ← hwc, ← hwd]
  clear BB BN BA BS xa xb xc xd hwa hwb hwc hwd sa sb sc hg2 D
  generalize w2.heap.size = gb at *
  generalize hgn : gb + 1 = gn at *
  generalize hga : gn + 1 = ga at *
  generalize hgs : ga + 1 = gs at *
  clear hgn hga hgs
  have hd1 : decide (me < 1) = false := decide_eq_false (by omega)
  have hd2 : decide (7 < me) = false := decide_eq_false (by omega)
  simp only [hd1, hd2, Bool.or_false]
  clear hd1 hd2 h1 h2
  go_wp2
  go_loopw [13] (fun i wr => ∃ (k : Nat) (bs : Nat → Int) (ps : Nat → Int × Int × Bool), k ≤ n ∧ k ≤ 50 ∧ i = .int .i64 (k : Int) ∧ GA w.heap.size wr g gb gn ga gs me bs bs ps ∧ (∀ F, J64 (ps F).2.1) ∧ Ext w wr) (fun i _ => 50 - (intOf i).toNat)
  case atStart => exact ⟨0, zB, zP, by omega, by omega, rfl, G0.out, (fun F => show J64 0 from ⟨by decide, by decide⟩), X.out⟩
  case round =>
    obtain ⟨k, bs, ps, hk, hk50, rfl, hga, hpok, x1⟩ := hrel
    clear G0 X
    have GG := Lib.hid hga
    have POK := Lib.hid hpok
    have X := Lib.hid x1
    clear hga hpok x1
    have hcase : (k < n ∧ (k : Int) < 50) ∨ (k < n ∧ ¬ (k : Int) < 50) ∨ ¬ k < n := by omega
    rcases hcase with ⟨hlt, hlz⟩ | hout
    · obtain ⟨bb, o0, r, hp, hr, hrl, hrc⟩ := (S.out.ext X.out).at k hlt
      rw [List.getElem?_map] at hr
      obtain ⟨oo, hoo, rfl⟩ := Option.map_eq_some_iff.1 hr
      have OKO := Lib.hid (HX.out oo (List.mem_of_getElem? hoo))
      clear hr hoo hrl
      obtain ⟨okd, oid, ⟨kd, fr, tt, bt, vw, ls, mb, po, cm, nm, ck, ye⟩, op, on, ocap, oL, oq, onb, ocb, ob, onum, oclk⟩ := oo
      subst hp
      obtain ⟨i1, i2, i3, i4, i5, i6, i7, i8⟩ := OKO.out
      simp only at i1 i2 i3 i4 i5 i6 i7 i8 hrc
      have MOK : Hid (MsOk ⟨kd, fr, tt, bt, vw, ls, mb, po, cm, nm, ck, ye⟩) := Lib.hid i3
      have HCK := Lib.hid i8
      have ENS := Lib.hid i4
      have ENK := Lib.hid i5
      have OBB := Lib.hid i6
      clear i1 i2 i3 i4 i5 i6 i7 i8 OKO
      go_upto_region 13 with fail
      go_cut [14] (fun s14 wx => s14 = .pointer (some ⟨wr.heap.size, 0, none⟩) ∧ wx = (wr.alloc (.cells (ogA og0) 33)).setCells wr.heap.size 0 (ogL ⟨okd, oid, ⟨kd, fr, tt, bt, vw, ls, mb, po, cm, nm, ck, ye⟩, op, on, ocap, oL, oq, onb, ocb, ob, onum, oclk⟩))
      case first =>
        have HRC := Lib.hid hrc
        clear hrc
        have TB0 : BoxV (wr.alloc (.cells (ogA og0) 33)) wr.heap.size wr.heap.size (ogL og0) := BoxV.new wr wr.heap.size (ogA og0) (ogL og0) 33 wr.heap.size rfl (Nat.le_refl _) (by rfl)
        have TH : Hid ((wr.alloc (.cells (ogA og0) 33)).there wr.heap.size 0 18) := Lib.hid (there_of_box TB0)
        clear TB0
        go_wp2_with (first | ((with_reducible (refine wpList_load_mid (op := ⟨some 55, .load 33 (.tmp 54), _, _, _, _⟩) ?_ 33 (.tmp 54) ?_ bb (o0 + k * 18) ?_ (ogL ⟨okd, oid, ⟨kd, fr, tt, bt, vw, ls, mb, po, cm, nm, ck, ye⟩, op, on, ocap, oL, oq, onb, ocb, ob, onum, oclk⟩) _ ?_ Try.underlying33 ?_ ?_ ?_)); (rfl); (rfl); (rfl); exact HRC.out; (rfl); exact og_size) | ((with_reducible (refine wpList_store_mid (op := ⟨none, .store 33 (.tmp 14) (.tmp 55), _, _, _, _⟩) ?_ 33 (.tmp 14) (.tmp 55) ?_ wr.heap.size 0 (ogA ⟨okd, oid, ⟨kd, fr, tt, bt, vw, ls, mb, po, cm, nm, ck, ye⟩, op, on, ocap, oL, oq, onb, ocb, ob, onum, oclk⟩) ?_ ?_ ?_ ?_ ?_ ?_)); (rfl); (rfl); (rfl); (rfl); exact TH.out; exact og_size; exact og_one _))
        go_meet
        exact ⟨rfl, rfl⟩
      case rest =>
      obtain ⟨rfl, rfl⟩ := hcut
      have OB : Hid (BoxV ((wr.alloc (.cells (ogA og0) 33)).setCells wr.heap.size 0 (ogL ⟨okd, oid, ⟨kd, fr, tt, bt, vw, ls, mb, po, cm, nm, ck, ye⟩, op, on, ocap, oL, oq, onb, ocb, ob, onum, oclk⟩)) w.heap.size wr.heap.size (ogL ⟨okd, oid, ⟨kd, fr, tt, bt, vw, ls, mb, po, cm, nm, ck, ye⟩, op, on, ocap, oL, oq, onb, ocb, ob, onum, oclk⟩)) := Lib.hid (by rw [setCells_fill]; exact (BoxV.new wr w.heap.size (ogA og0) (ogL og0) 33 wr.heap.size rfl X.out.size (by rfl)).fill (Nat.le_refl _))
      have AO : Hid (Ext wr ((wr.alloc (.cells (ogA og0) 33)).setCells wr.heap.size 0 (ogL ⟨okd, oid, ⟨kd, fr, tt, bt, vw, ls, mb, po, cm, nm, ck, ye⟩, op, on, ocap, oL, oq, onb, ocb, ob, onum, oclk⟩))) := Lib.hid (by rw [setCells_fill]; exact fillV_below (Ext.alloc wr _) (Nat.le_refl _) _ 0)
      have HGO : Hid (gs < wr.heap.size) := Lib.hid GG.out.S.hi
      replace GG := Lib.hid (GG.out.ext AO.out)
      replace X := Lib.hid (X.out.tr AO.out)
      clear hrc
      generalize (wr.alloc (.cells (ogA og0) 33)).setCells wr.heap.size 0 (ogL ⟨okd, oid, ⟨kd, fr, tt, bt, vw, ls, mb, po, cm, nm, ck, ye⟩, op, on, ocap, oL, oq, onb, ocb, ob, onum, oclk⟩) = w2 at *
      generalize wr.heap.size = go at *
      clear AO
      have o0 := OB.out.c 0 _ rfl
      have o1 := OB.out.c 1 _ rfl
      have o2 := OB.out.c 2 _ rfl
      have o3 := OB.out.c 3 _ rfl
      have o4 := OB.out.c 4 _ rfl
      have o5 := OB.out.c 5 _ rfl
      have o6 := OB.out.c 6 _ rfl
      have o7 := OB.out.c 7 _ rfl
      have o8 := OB.out.c 8 _ rfl
      have o9 := OB.out.c 9 _ rfl
      have o10 := OB.out.c 10 _ rfl
      have o11 := OB.out.c 11 _ rfl
      have o12 := OB.out.c 12 _ rfl
      have o13 := OB.out.c 13 _ rfl
      have o14 := OB.out.c 14 _ rfl
      have o15 := OB.out.c 15 _ rfl
      have o16 := OB.out.c 16 _ rfl
      have o17 := OB.out.c 17 _ rfl
      try simp only at o0 o1 o2 o3 o4 o5 o6 o7 o8 o9 o10 o11 o12 o13 o14 o15 o16 o17
      go_wp2_with fail
      clear o0 o1 o2 o3 o4 o5 o6 o7 o8 o9 o10 o11 o12 o13 o14 o15 o16 o17
      refine (wcut_any (m := ⟨kd, fr, tt, bt, vw, ls, mb, po, cm, nm, ck, ye⟩) (ENS.out.ext X.out) ENK.out).mono ?_
      rintro e w3 ⟨M1, p3, c3, rfl, hM1, u1, v1, x3⟩
      have HU : Hid (g < w2.heap.size) := Lib.hid GG.out.G.hi
      have V1 := Lib.hid v1
      have AM := Lib.hid (x3.tr (Ext.alloc w3 (.cells (msA ⟨kd, fr, tt, bt, vw, ls, mb, po, cm, nm, ck, ye⟩ p3 M1.length c3) 30)))
      have U1 := Lib.hid (u1.ext (Ext.alloc w3 (.cells (msA ⟨kd, fr, tt, bt, vw, ls, mb, po, cm, nm, ck, ye⟩ p3 M1.length c3) 30)))
      replace GG := Lib.hid (GG.out.ext AM.out)
      replace OB := Lib.hid (OB.out.ext AM.out)
      replace X := Lib.hid (X.out.tr AM.out)
      have MB := Lib.hid (BoxV.new w3 w.heap.size (msA ⟨kd, fr, tt, bt, vw, ls, mb, po, cm, nm, ck, ye⟩ p3 M1.length c3) (msL ⟨kd, fr, tt, bt, vw, ls, mb, po, cm, nm, ck, ye⟩ p3 M1.length c3) 30 w3.heap.size rfl (by have h1 := SZ.out; have h2 := HU.out; have h3 := x3.size; omega) rfl)
      have HNM : Hid ((some w3.heap.size : Option Nat) ≠ some w3.heap.size → False) := Lib.hid (fun h => h rfl)
      clear HNM
      have HNM : Hid ((some g : Option Nat) ≠ some w3.heap.size) := Lib.hid (by intro e; injection e with e; have h2 := HU.out; have h3 := x3.size; omega)
      have HNO : Hid ((some g : Option Nat) ≠ some go) := Lib.hid (by intro e; injection e with e; have h1 := HGO.out; have h2 := GG.out.lt; omega)
      clear u1 v1 x3
      go_upto_region 15 with fail
      change Code.wp _ _ _ _ (w3.alloc (.cells (msA ⟨kd, fr, tt, bt, vw, ls, mb, po, cm, nm, ck, ye⟩ p3 M1.length c3) 30))
      generalize w3.alloc (.cells (msA ⟨kd, fr, tt, bt, vw, ls, mb, po, cm, nm, ck, ye⟩ p3 M1.length c3) 30) = w4 at *
      generalize w3.heap.size = gm at *
      generalize w2.heap.size = bU at *
      clear AM
      have o0 := OB.out.c 0 _ rfl
      try simp only at o0
      go_upto_block 2 with fail
      clear o0
      go_cut [122, 17, 18, 176, 19, 21, 194, 22, 23, 24, 25] (fun s122 s17 s18 s176 s19 s21 s194 s22 s23 s24 s25 wx => ∃ (bs' ba' : Nat → Int) (ps' : Nat → Int × Int × Bool), GA w.heap.size wx g gb gn ga gs me bs' ba' ps' ∧ ((okd ≠ 1 ∧ ba' = bs') ∨ (okd = 1 ∧ ba' 0 = bs' 0)) ∧ (∀ F, J64 (ps' F).2.1) ∧ BoxV wx w.heap.size go (ogL ⟨okd, oid, ⟨kd, fr, tt, bt, vw, ls, mb, po, cm, nm, ck, ye⟩, op, on, ocap, oL, oq, onb, ocb, ob, onum, oclk⟩) ∧ Ext w wx)
      case first =>
        by_cases q0 : okd = 0
        · subst q0
          have K1 : Hid ((0 : Int) ≠ 1) := Lib.hid (by decide)
          obtain ⟨B, hB⟩ : ∃ B, B = encM ⟨kd, fr, tt, bt, vw, ls, mb, po, cm, nm, ck, ye⟩ M1 := ⟨_, rfl⟩
          have HBB := Lib.hid hB
          have HLEN : Hid (B.length ≤ 5294) := Lib.hid (by rw [hB]; exact encM_len MOK.out V1.out)
          cases hm : mayM ⟨kd, fr, tt, bt, vw, ls, mb, po, cm, nm, ck, ye⟩ M1
          · have MAY := Lib.hid hm
            have HR : Hid (hearR me bs B = .inr 1) := Lib.hid (hear_short (by rw [hB, encM_no hm]; decide))
            clear hB hm
            as_aux_lemma =>
              have c0 := MB.out.c 0 _ rfl
              have c1 := MB.out.c 1 _ rfl
              have c2 := MB.out.c 2 _ rfl
              have c3 := MB.out.c 3 _ rfl
              have c4 := MB.out.c 4 _ rfl
              have c5 := MB.out.c 5 _ rfl
              have c6 := MB.out.c 6 _ rfl
              have c7 := MB.out.c 7 _ rfl
              have c8 := MB.out.c 8 _ rfl
              have c9 := MB.out.c 9 _ rfl
              have c10 := MB.out.c 10 _ rfl
              have c11 := MB.out.c 11 _ rfl
              have c12 := MB.out.c 12 _ rfl
              try simp only at c0 c1 c2 c3 c4 c5 c6 c7 c8 c9 c10 c11 c12
              go_wp2_with fail
              clear c0 c1 c2 c3 c4 c5 c6 c7 c8 c9 c10 c11 c12
              refine (rbytesm_any MOK.out U1.out.sl V1.out).mono ?_
              rw [← HBB.out]
              rintro e w5 ⟨p5, k5, rfl, o5, x5⟩
              have O5 := Lib.hid o5.sl
              replace U1 := Lib.hid (U1.out.ext x5)
              replace GG := Lib.hid (GG.out.ext x5)
              replace MB := Lib.hid (MB.out.ext x5)
              replace OB := Lib.hid (OB.out.ext x5)
              replace X := Lib.hid (X.out.tr x5)
              clear o5 x5
              go_wp2_with fail
              have H := hear_any GG.out.G O5.out (by have := HLEN.out; omega)
              rw [HR.out] at H
              refine H.mono ?_
              rintro e w6 ⟨rfl, d6, g6⟩
              replace U1 := Lib.hid (U1.out.kept g6 (fun b hb => by cases hb; intro hc; have h1 := U1.out.lt _ hc; have h2 := HU.out; omega))
              replace GG : Hid (GA w.heap.size w6 g gb gn ga gs me bs bs ps) := Lib.hid (GG.out.heard d6 g6)
              replace MB := Lib.hid (MB.out.other g6 HNM.out)
              replace OB := Lib.hid (OB.out.other g6 HNO.out)
              replace X : Hid (Ext w w6) := Lib.hid (Below.trans X.out (grown_below g6 SZ.out X.out.size))
              have A6 := Lib.hid (Ext.alloc w6 (.cells (msA zeroM none 0 0) 30))
              have YB := Lib.hid (BoxV.new w6 w.heap.size (msA zeroM none 0 0) (msL zeroM none 0 0) 30 w6.heap.size rfl X.out.size rfl)
              replace U1 := Lib.hid (U1.out.ext A6.out)
              replace GG := Lib.hid (GG.out.ext A6.out)
              replace MB := Lib.hid (MB.out.ext A6.out)
              replace OB := Lib.hid (OB.out.ext A6.out)
              replace X := Lib.hid (X.out.tr A6.out)
              clear H d6 g6 O5
              simp only [zeroM]
              go_upto_region 24 with fail
              change Code.wp _ _ _ _ (w6.alloc (.cells (msA zeroM none 0 0) 30))
              generalize w6.alloc (.cells (msA zeroM none 0 0) 30) = w7 at *
              generalize w6.heap.size = gy at *
              clear A6
              have c0 := MB.out.c 0 _ rfl
              have c1 := MB.out.c 1 _ rfl
              have c2 := MB.out.c 2 _ rfl
              have c3 := MB.out.c 3 _ rfl
              have c4 := MB.out.c 4 _ rfl
              have c5 := MB.out.c 5 _ rfl
              have c6 := MB.out.c 6 _ rfl
              have c7 := MB.out.c 7 _ rfl
              have c8 := MB.out.c 8 _ rfl
              have c9 := MB.out.c 9 _ rfl
              have c10 := MB.out.c 10 _ rfl
              have c11 := MB.out.c 11 _ rfl
              have c12 := MB.out.c 12 _ rfl
              try simp only at c0 c1 c2 c3 c4 c5 c6 c7 c8 c9 c10 c11 c12
              go_wp2_with fail
              clear c0 c1 c2 c3 c4 c5 c6 c7 c8 c9 c10 c11 c12
              refine (rmaym_any (m := ⟨kd, fr, tt, bt, vw, ls, mb, po, cm, nm, ck, ye⟩) U1.out.sl V1.out).mono ?_
              rw [MAY.out]
              rintro e w8 ⟨rfl, x8⟩
              replace U1 := Lib.hid (U1.out.ext x8)
              replace GG := Lib.hid (GG.out.ext x8)
              replace MB := Lib.hid (MB.out.ext x8)
              replace OB := Lib.hid (OB.out.ext x8)
              replace X := Lib.hid (X.out.tr x8)
              replace YB := Lib.hid (YB.out.ext x8)
              clear x8
              have y0 := YB.out.c 0 _ rfl
              try simp only [zeroM] at y0
              go_wp2_with fail
              go_meet
              exact ⟨bs, bs, ps, GG.out, Or.inl ⟨K1.out, rfl⟩, POK.out, OB.out, X.out⟩
          · have MAY := Lib.hid hm
            have HRR : Hid (hearR me bs B = if tt = me then (if bt < bs fr.toNat then .inr 7 else .inl (⟨kd, fr, tt, bt, vw, ls, mb, po, cm, nm, ck, ye⟩, M1)) else .inr 1) := Lib.hid (by unfold hearR; rw [hB, decM_enc MOK.out V1.out hm])
            have HFR := Lib.hid (may_from hm)
            clear hB hm
            by_cases htt : tt = me
            · subst htt
              obtain ⟨F, rfl⟩ : ∃ F : Nat, fr = (F : Int) := ⟨fr.toNat, by have := HFR.out; simp only at this; omega⟩
              have hF : F < 8 := by have := HFR.out; simp only at this; omega
              by_cases hbt : bt < bs F
              · have HR : Hid (hearR tt bs B = .inr 7) := Lib.hid (by rw [HRR.out, if_pos rfl, if_pos (show bt < bs (F : Int).toNat by simpa using hbt)])
                as_aux_lemma =>
                  have c0 := MB.out.c 0 _ rfl
                  have c1 := MB.out.c 1 _ rfl
                  have c2 := MB.out.c 2 _ rfl
                  have c3 := MB.out.c 3 _ rfl
                  have c4 := MB.out.c 4 _ rfl
                  have c5 := MB.out.c 5 _ rfl
                  have c6 := MB.out.c 6 _ rfl
                  have c7 := MB.out.c 7 _ rfl
                  have c8 := MB.out.c 8 _ rfl
                  have c9 := MB.out.c 9 _ rfl
                  have c10 := MB.out.c 10 _ rfl
                  have c11 := MB.out.c 11 _ rfl
                  have c12 := MB.out.c 12 _ rfl
                  try simp only at c0 c1 c2 c3 c4 c5 c6 c7 c8 c9 c10 c11 c12
                  go_wp2_with fail
                  clear c0 c1 c2 c3 c4 c5 c6 c7 c8 c9 c10 c11 c12
                  refine (rbytesm_any MOK.out U1.out.sl V1.out).mono ?_
                  rw [← HBB.out]
                  rintro e w5 ⟨p5, k5, rfl, o5, x5⟩
                  have O5 := Lib.hid o5.sl
                  replace U1 := Lib.hid (U1.out.ext x5)
                  replace GG := Lib.hid (GG.out.ext x5)
                  replace MB := Lib.hid (MB.out.ext x5)
                  replace OB := Lib.hid (OB.out.ext x5)
                  replace X := Lib.hid (X.out.tr x5)
                  clear o5 x5
                  go_wp2_with fail
                  have H := hear_any GG.out.G O5.out (by have := HLEN.out; omega)
                  rw [HR.out] at H
                  refine H.mono ?_
                  rintro e w6 ⟨rfl, d6, g6⟩
                  replace U1 := Lib.hid (U1.out.kept g6 (fun b hb => by cases hb; intro hc; have h1 := U1.out.lt _ hc; have h2 := HU.out; omega))
                  replace GG : Hid (GA w.heap.size w6 g gb gn ga gs tt bs bs ps) := Lib.hid (GG.out.heard d6 g6)
                  replace MB := Lib.hid (MB.out.other g6 HNM.out)
                  replace OB := Lib.hid (OB.out.other g6 HNO.out)
                  replace X : Hid (Ext w w6) := Lib.hid (Below.trans X.out (grown_below g6 SZ.out X.out.size))
                  have A6 := Lib.hid (Ext.alloc w6 (.cells (msA zeroM none 0 0) 30))
                  have YB := Lib.hid (BoxV.new w6 w.heap.size (msA zeroM none 0 0) (msL zeroM none 0 0) 30 w6.heap.size rfl X.out.size rfl)
                  replace U1 := Lib.hid (U1.out.ext A6.out)
                  replace GG := Lib.hid (GG.out.ext A6.out)
                  replace MB := Lib.hid (MB.out.ext A6.out)
                  replace OB := Lib.hid (OB.out.ext A6.out)
                  replace X := Lib.hid (X.out.tr A6.out)
                  clear H d6 g6 O5
                  simp only [zeroM]
                  go_upto_region 24 with fail
                  change Code.wp _ _ _ _ (w6.alloc (.cells (msA zeroM none 0 0) 30))
                  generalize w6.alloc (.cells (msA zeroM none 0 0) 30) = w7 at *
                  generalize w6.heap.size = gy at *
                  clear A6
                  have c0 := MB.out.c 0 _ rfl
                  have c1 := MB.out.c 1 _ rfl
                  have c2 := MB.out.c 2 _ rfl
                  have c3 := MB.out.c 3 _ rfl
                  have c4 := MB.out.c 4 _ rfl
                  have c5 := MB.out.c 5 _ rfl
                  have c6 := MB.out.c 6 _ rfl
                  have c7 := MB.out.c 7 _ rfl
                  have c8 := MB.out.c 8 _ rfl
                  have c9 := MB.out.c 9 _ rfl
                  have c10 := MB.out.c 10 _ rfl
                  have c11 := MB.out.c 11 _ rfl
                  have c12 := MB.out.c 12 _ rfl
                  try simp only at c0 c1 c2 c3 c4 c5 c6 c7 c8 c9 c10 c11 c12
                  go_wp2_with fail
                  clear c0 c1 c2 c3 c4 c5 c6 c7 c8 c9 c10 c11 c12
                  refine (rmaym_any (m := ⟨kd, F, tt, bt, vw, ls, mb, po, cm, nm, ck, ye⟩) U1.out.sl V1.out).mono ?_
                  rw [MAY.out]
                  rintro e w8 ⟨rfl, x8⟩
                  replace U1 := Lib.hid (U1.out.ext x8)
                  replace GG := Lib.hid (GG.out.ext x8)
                  replace MB := Lib.hid (MB.out.ext x8)
                  replace OB := Lib.hid (OB.out.ext x8)
                  replace X := Lib.hid (X.out.tr x8)
                  replace YB := Lib.hid (YB.out.ext x8)
                  clear x8
                  have y0 := YB.out.c 0 _ rfl
                  try simp only [zeroM] at y0
                  have c2 := MB.out.c 2 _ rfl
                  try simp only at c2
                  go_wp2_with fail
                  clear c2 y0
                  replace U1 := Lib.hid (U1.out.ext (Ext.drew w8))
                  replace GG := Lib.hid (GG.out.ext (Ext.drew w8))
                  replace MB := Lib.hid (MB.out.ext (Ext.drew w8))
                  replace OB := Lib.hid (OB.out.ext (Ext.drew w8))
                  replace X := Lib.hid (X.out.tr (Ext.drew w8))
                  replace YB := Lib.hid (YB.out.ext (Ext.drew w8))
                  have r1 := fun (q : Wrap (Ext w8.drew)) => Ext.cell q.h (MB.out.c 1 _ rfl)
                  have r3 := fun (q : Wrap (Ext w8.drew)) => Ext.cell q.h (MB.out.c 3 _ rfl)
                  have rb := fun (q : Wrap (Ext w8.drew)) => Ext.cell q.h (GG.out.B.c _ _ (tpL_at (bs := bs) hF))
                  try simp only at r1 r3
                  refine rg_start [0, 1, 2, 3, 4, 5, 6] (Ext w8.drew) (by kernel_rfl) (by kernel_rfl) (fun _ _ d _ _ h => by cases d <;> exact h) (Ext.rfl' _) (fun _ => ?_)
                  repeat (first | (refine rg_quiet rfl (by rfl) (by rfl) (fun K hK => ?_); go_big_quiet_op; refine hK _ ?_; clear hK K) | (refine rg_skip rfl (by rfl) (fun K hK => ?_); go_big_quiet_op; refine hK _ ?_; clear hK K))
                  refine rg_nil ?_
                  clear r1 r3 rb
                  generalize w8.drew = w9 at *
                  have y0 := YB.out.c 0 _ rfl
                  try simp only [zeroM] at y0
                  go_wp2_with fail
                  go_meet
                  exact ⟨bs, bs, ps, GG.out, Or.inl ⟨K1.out, rfl⟩, POK.out, OB.out, X.out⟩
              · have HR : Hid (hearR tt bs B = .inl (⟨kd, F, tt, bt, vw, ls, mb, po, cm, nm, ck, ye⟩, M1)) := Lib.hid (by rw [HRR.out, if_pos rfl, if_neg (show ¬ bt < bs (F : Int).toNat by simpa using hbt)])
                as_aux_lemma =>
                  have c0 := MB.out.c 0 _ rfl
                  have c1 := MB.out.c 1 _ rfl
                  have c2 := MB.out.c 2 _ rfl
                  have c3 := MB.out.c 3 _ rfl
                  have c4 := MB.out.c 4 _ rfl
                  have c5 := MB.out.c 5 _ rfl
                  have c6 := MB.out.c 6 _ rfl
                  have c7 := MB.out.c 7 _ rfl
                  have c8 := MB.out.c 8 _ rfl
                  have c9 := MB.out.c 9 _ rfl
                  have c10 := MB.out.c 10 _ rfl
                  have c11 := MB.out.c 11 _ rfl
                  have c12 := MB.out.c 12 _ rfl
                  try simp only at c0 c1 c2 c3 c4 c5 c6 c7 c8 c9 c10 c11 c12
                  go_wp2_with fail
                  clear c0 c1 c2 c3 c4 c5 c6 c7 c8 c9 c10 c11 c12
                  refine (rbytesm_any MOK.out U1.out.sl V1.out).mono ?_
                  rw [← HBB.out]
                  rintro e w5 ⟨p5, k5, rfl, o5, x5⟩
                  have O5 := Lib.hid o5.sl
                  replace U1 := Lib.hid (U1.out.ext x5)
                  replace GG := Lib.hid (GG.out.ext x5)
                  replace MB := Lib.hid (MB.out.ext x5)
                  replace OB := Lib.hid (OB.out.ext x5)
                  replace X := Lib.hid (X.out.tr x5)
                  clear o5 x5
                  go_wp2_with fail
                  have H := hear_any GG.out.G O5.out (by have := HLEN.out; omega)
                  rw [HR.out] at H
                  refine H.mono ?_
                  rintro e w6 ⟨p6, k6, rfl, o6, l6, -, d6, g6⟩
                  replace U1 := Lib.hid (U1.out.kept g6 (fun b hb => by cases hb; intro hc; have h1 := U1.out.lt _ hc; have h2 := HU.out; omega))
                  replace GG : Hid (GA w.heap.size w6 g gb gn ga gs tt (updF bs F bt) bs ps) := Lib.hid (GG.out.heard d6 g6)
                  replace MB := Lib.hid (MB.out.other g6 HNM.out)
                  replace OB := Lib.hid (OB.out.other g6 HNO.out)
                  replace X : Hid (Ext w w6) := Lib.hid (Below.trans X.out (grown_below g6 SZ.out X.out.size))
                  have A6 := Lib.hid (Ext.alloc w6 (.cells (msA ⟨kd, F, tt, bt, vw, ls, mb, po, cm, nm, ck, ye⟩ p6 M1.length k6) 30))
                  have YB := Lib.hid (BoxV.new w6 w.heap.size (msA ⟨kd, F, tt, bt, vw, ls, mb, po, cm, nm, ck, ye⟩ p6 M1.length k6) (msL ⟨kd, F, tt, bt, vw, ls, mb, po, cm, nm, ck, ye⟩ p6 M1.length k6) 30 w6.heap.size rfl X.out.size rfl)
                  have O6 := Lib.hid (o6.ext A6.out)
                  replace U1 := Lib.hid (U1.out.ext A6.out)
                  replace GG := Lib.hid (GG.out.ext A6.out)
                  replace MB := Lib.hid (MB.out.ext A6.out)
                  replace OB := Lib.hid (OB.out.ext A6.out)
                  replace X := Lib.hid (X.out.tr A6.out)
                  clear H d6 g6 O5 o6 l6
                  go_upto_region 24 with fail
                  change Code.wp _ _ _ _ (w6.alloc (.cells (msA ⟨kd, F, tt, bt, vw, ls, mb, po, cm, nm, ck, ye⟩ p6 M1.length k6) 30))
                  generalize w6.alloc (.cells (msA ⟨kd, F, tt, bt, vw, ls, mb, po, cm, nm, ck, ye⟩ p6 M1.length k6) 30) = w7 at *
                  generalize w6.heap.size = gy at *
                  clear A6
                  have c0 := MB.out.c 0 _ rfl
                  have c1 := MB.out.c 1 _ rfl
                  have c2 := MB.out.c 2 _ rfl
                  have c3 := MB.out.c 3 _ rfl
                  have c4 := MB.out.c 4 _ rfl
                  have c5 := MB.out.c 5 _ rfl
                  have c6 := MB.out.c 6 _ rfl
                  have c7 := MB.out.c 7 _ rfl
                  have c8 := MB.out.c 8 _ rfl
                  have c9 := MB.out.c 9 _ rfl
                  have c10 := MB.out.c 10 _ rfl
                  have c11 := MB.out.c 11 _ rfl
                  have c12 := MB.out.c 12 _ rfl
                  try simp only at c0 c1 c2 c3 c4 c5 c6 c7 c8 c9 c10 c11 c12
                  go_wp2_with fail
                  clear c0 c1 c2 c3 c4 c5 c6 c7 c8 c9 c10 c11 c12
                  refine (rmaym_any (m := ⟨kd, F, tt, bt, vw, ls, mb, po, cm, nm, ck, ye⟩) U1.out.sl V1.out).mono ?_
                  rw [MAY.out]
                  rintro e w8 ⟨rfl, x8⟩
                  replace U1 := Lib.hid (U1.out.ext x8)
                  replace GG := Lib.hid (GG.out.ext x8)
                  replace MB := Lib.hid (MB.out.ext x8)
                  replace OB := Lib.hid (OB.out.ext x8)
                  replace X := Lib.hid (X.out.tr x8)
                  replace YB := Lib.hid (YB.out.ext x8)
                  replace O6 := Lib.hid (O6.out.ext x8)
                  clear x8
                  have y0 := YB.out.c 0 _ rfl
                  try simp only at y0
                  have c2 := MB.out.c 2 _ rfl
                  try simp only at c2
                  go_wp2_with fail
                  clear c2 y0
                  replace U1 := Lib.hid (U1.out.ext (Ext.drew w8))
                  replace GG := Lib.hid (GG.out.ext (Ext.drew w8))
                  replace MB := Lib.hid (MB.out.ext (Ext.drew w8))
                  replace OB := Lib.hid (OB.out.ext (Ext.drew w8))
                  replace X := Lib.hid (X.out.tr (Ext.drew w8))
                  replace YB := Lib.hid (YB.out.ext (Ext.drew w8))
                  replace O6 := Lib.hid (O6.out.ext (Ext.drew w8))
                  have r1 := fun (q : Wrap (Ext w8.drew)) => Ext.cell q.h (MB.out.c 1 _ rfl)
                  have r3 := fun (q : Wrap (Ext w8.drew)) => Ext.cell q.h (MB.out.c 3 _ rfl)
                  have rb := fun (q : Wrap (Ext w8.drew)) => Ext.cell q.h (GG.out.B.c _ _ (tpL_at (bs := bs) hF))
                  try simp only at r1 r3
                  refine rg_start [0, 1, 2, 3, 4, 5, 6] (Ext w8.drew) (by kernel_rfl) (by kernel_rfl) (fun _ _ d _ _ h => by cases d <;> exact h) (Ext.rfl' _) (fun _ => ?_)
                  repeat (first | (refine rg_quiet rfl (by rfl) (by rfl) (fun K hK => ?_); go_big_quiet_op; refine hK _ ?_; clear hK K) | (refine rg_skip rfl (by rfl) (fun K hK => ?_); go_big_quiet_op; refine hK _ ?_; clear hK K))
                  refine rg_nil ?_
                  clear r1 r3 rb
                  generalize w8.drew = w9 at *
                  have c0 := MB.out.c 0 _ rfl
                  have c1 := MB.out.c 1 _ rfl
                  have c2 := MB.out.c 2 _ rfl
                  have c3 := MB.out.c 3 _ rfl
                  have c4 := MB.out.c 4 _ rfl
                  have c5 := MB.out.c 5 _ rfl
                  have c6 := MB.out.c 6 _ rfl
                  have c7 := MB.out.c 7 _ rfl
                  have c8 := MB.out.c 8 _ rfl
                  have c9 := MB.out.c 9 _ rfl
                  have c10 := MB.out.c 10 _ rfl
                  have c11 := MB.out.c 11 _ rfl
                  have c12 := MB.out.c 12 _ rfl
                  try simp only at c0 c1 c2 c3 c4 c5 c6 c7 c8 c9 c10 c11 c12
                  have y0 := YB.out.c 0 _ rfl
                  have y1 := YB.out.c 1 _ rfl
                  have y2 := YB.out.c 2 _ rfl
                  have y3 := YB.out.c 3 _ rfl
                  have y4 := YB.out.c 4 _ rfl
                  have y5 := YB.out.c 5 _ rfl
                  have y6 := YB.out.c 6 _ rfl
                  have y7 := YB.out.c 7 _ rfl
                  have y8 := YB.out.c 8 _ rfl
                  have y9 := YB.out.c 9 _ rfl
                  have y10 := YB.out.c 10 _ rfl
                  have y11 := YB.out.c 11 _ rfl
                  have y12 := YB.out.c 12 _ rfl
                  try simp only at y0 y1 y2 y3 y4 y5 y6 y7 y8 y9 y10 y11 y12
                  go_wp2_with fail
                  clear c0 c1 c2 c3 c4 c5 c6 c7 c8 c9 c10 c11 c12
                  clear y0 y1 y2 y3 y4 y5 y6 y7 y8 y9 y10 y11 y12
                  refine (reqm_any (a := ⟨kd, F, tt, bt, vw, ls, mb, po, cm, nm, ck, ye⟩) (b := ⟨kd, F, tt, bt, vw, ls, mb, po, cm, nm, ck, ye⟩) O6.out.sl U1.out.sl).mono ?_
                  rw [show eqM ⟨kd, F, tt, bt, vw, ls, mb, po, cm, nm, ck, ye⟩ M1 ⟨kd, F, tt, bt, vw, ls, mb, po, cm, nm, ck, ye⟩ M1 = true from (eqM_iff _ _ _ _).2 ⟨rfl, rfl⟩]
                  rintro e w10 ⟨rfl, x10⟩
                  replace U1 := Lib.hid (U1.out.ext x10)
                  replace GG := Lib.hid (GG.out.ext x10)
                  replace MB := Lib.hid (MB.out.ext x10)
                  replace OB := Lib.hid (OB.out.ext x10)
                  replace X := Lib.hid (X.out.tr x10)
                  clear x10
                  have c1 := MB.out.c 1 _ rfl
                  have c3 := MB.out.c 3 _ rfl
                  try simp only at c1 c3
                  have cb := GG.out.B.c _ _ (tpL_at (bs := bs) hF)
                  have cf := GG.out.B.f
                  have LT := GG.out.lt
                  have OGT := HGO.out
                  go_wp2_with fail
                  go_meet
                  exact ⟨updF bs F bt, updF bs F bt, ps, GG.out.putB bt hF, Or.inl ⟨K1.out, rfl⟩, POK.out, OB.out.other (grown_put (grown_refl _ (some gb)) F (.int .i64 bt)) (by intro e; injection e with e; omega), X.out.setCell (Nat.le_trans SZ.out (Nat.le_of_lt LT.1)) _⟩
            · have HR : Hid (hearR me bs B = .inr 1) := Lib.hid (by rw [HRR.out, if_neg htt])
              have HTO := Lib.hid htt
              clear htt
              as_aux_lemma =>
                have c0 := MB.out.c 0 _ rfl
                have c1 := MB.out.c 1 _ rfl
                have c2 := MB.out.c 2 _ rfl
                have c3 := MB.out.c 3 _ rfl
                have c4 := MB.out.c 4 _ rfl
                have c5 := MB.out.c 5 _ rfl
                have c6 := MB.out.c 6 _ rfl
                have c7 := MB.out.c 7 _ rfl
                have c8 := MB.out.c 8 _ rfl
                have c9 := MB.out.c 9 _ rfl
                have c10 := MB.out.c 10 _ rfl
                have c11 := MB.out.c 11 _ rfl
                have c12 := MB.out.c 12 _ rfl
                try simp only at c0 c1 c2 c3 c4 c5 c6 c7 c8 c9 c10 c11 c12
                go_wp2_with fail
                clear c0 c1 c2 c3 c4 c5 c6 c7 c8 c9 c10 c11 c12
                refine (rbytesm_any MOK.out U1.out.sl V1.out).mono ?_
                rw [← HBB.out]
                rintro e w5 ⟨p5, k5, rfl, o5, x5⟩
                have O5 := Lib.hid o5.sl
                replace U1 := Lib.hid (U1.out.ext x5)
                replace GG := Lib.hid (GG.out.ext x5)
                replace MB := Lib.hid (MB.out.ext x5)
                replace OB := Lib.hid (OB.out.ext x5)
                replace X := Lib.hid (X.out.tr x5)
                clear o5 x5
                go_wp2_with fail
                have H := hear_any GG.out.G O5.out (by have := HLEN.out; omega)
                rw [HR.out] at H
                refine H.mono ?_
                rintro e w6 ⟨rfl, d6, g6⟩
                replace U1 := Lib.hid (U1.out.kept g6 (fun b hb => by cases hb; intro hc; have h1 := U1.out.lt _ hc; have h2 := HU.out; omega))
                replace GG : Hid (GA w.heap.size w6 g gb gn ga gs me bs bs ps) := Lib.hid (GG.out.heard d6 g6)
                replace MB := Lib.hid (MB.out.other g6 HNM.out)
                replace OB := Lib.hid (OB.out.other g6 HNO.out)
                replace X : Hid (Ext w w6) := Lib.hid (Below.trans X.out (grown_below g6 SZ.out X.out.size))
                have A6 := Lib.hid (Ext.alloc w6 (.cells (msA zeroM none 0 0) 30))
                have YB := Lib.hid (BoxV.new w6 w.heap.size (msA zeroM none 0 0) (msL zeroM none 0 0) 30 w6.heap.size rfl X.out.size rfl)
                replace U1 := Lib.hid (U1.out.ext A6.out)
                replace GG := Lib.hid (GG.out.ext A6.out)
                replace MB := Lib.hid (MB.out.ext A6.out)
                replace OB := Lib.hid (OB.out.ext A6.out)
                replace X := Lib.hid (X.out.tr A6.out)
                clear H d6 g6 O5
                simp only [zeroM]
                go_upto_region 24 with fail
                change Code.wp _ _ _ _ (w6.alloc (.cells (msA zeroM none 0 0) 30))
                generalize w6.alloc (.cells (msA zeroM none 0 0) 30) = w7 at *
                generalize w6.heap.size = gy at *
                clear A6
                have c0 := MB.out.c 0 _ rfl
                have c1 := MB.out.c 1 _ rfl
                have c2 := MB.out.c 2 _ rfl
                have c3 := MB.out.c 3 _ rfl
                have c4 := MB.out.c 4 _ rfl
                have c5 := MB.out.c 5 _ rfl
                have c6 := MB.out.c 6 _ rfl
                have c7 := MB.out.c 7 _ rfl
                have c8 := MB.out.c 8 _ rfl
                have c9 := MB.out.c 9 _ rfl
                have c10 := MB.out.c 10 _ rfl
                have c11 := MB.out.c 11 _ rfl
                have c12 := MB.out.c 12 _ rfl
                try simp only at c0 c1 c2 c3 c4 c5 c6 c7 c8 c9 c10 c11 c12
                go_wp2_with fail
                clear c0 c1 c2 c3 c4 c5 c6 c7 c8 c9 c10 c11 c12
                refine (rmaym_any (m := ⟨kd, fr, tt, bt, vw, ls, mb, po, cm, nm, ck, ye⟩) U1.out.sl V1.out).mono ?_
                rw [MAY.out]
                rintro e w8 ⟨rfl, x8⟩
                replace U1 := Lib.hid (U1.out.ext x8)
                replace GG := Lib.hid (GG.out.ext x8)
                replace MB := Lib.hid (MB.out.ext x8)
                replace OB := Lib.hid (OB.out.ext x8)
                replace X := Lib.hid (X.out.tr x8)
                replace YB := Lib.hid (YB.out.ext x8)
                clear x8
                have y0 := YB.out.c 0 _ rfl
                try simp only [zeroM] at y0
                have c2 := MB.out.c 2 _ rfl
                try simp only at c2
                have f1 : (tt == me) = false := beq_eq_false_iff_ne.2 HTO.out
                have f2 : (tt != me) = true := bne_iff_ne.2 HTO.out
                go_wp2_with fail
                go_meet
                exact ⟨bs, bs, ps, GG.out, Or.inl ⟨K1.out, rfl⟩, POK.out, OB.out, X.out⟩
        · have e0 : (okd == 0) = false := beq_eq_false_iff_ne.2 q0
          by_cases q1 : okd = 1
          · subst q1
            have K1 : Hid ((1 : Int) = 1) := Lib.hid rfl
            have OBT := Lib.hid (OBB.out.take (min onb 30) (by omega))
            have SH := Lib.hid (fun (x : World) (h : Ext w x) => short_any (OBB.out.ext h) 30 (by omega))
            have hmin : min onb 30 ≤ 30 := by omega
            have HOT : Hid ((ob.take (min onb 30)).length = min onb 30) := Lib.hid OBT.out.len
            generalize min onb 30 = nt at *
            generalize ob.take nt = B at *
            by_cases h17 : nt < 17
            · have HR : Hid (hearR me bs B = .inr 1) := Lib.hid (hear_short (by rw [HOT.out]; exact h17))
              as_aux_lemma =>
                have o15 := OB.out.c 15 _ rfl
                try simp only at o15
                go_wp2_with fail
                clear o15
                refine (SH.out _ X.out).mono ?_
                rintro e w5 ⟨rfl, rfl⟩
                simp only []
                go_wp2_with fail
                have H := hear_any GG.out.G (OBT.out.ext X.out) (by omega)
                rw [HR.out] at H
                refine H.mono ?_
                rintro e w6 ⟨rfl, d6, g6⟩
                replace U1 := Lib.hid (U1.out.kept g6 (fun b hb => by cases hb; intro hc; have h1 := U1.out.lt _ hc; have h2 := HU.out; omega))
                replace GG : Hid (GA w.heap.size w6 g gb gn ga gs me bs bs ps) := Lib.hid (GG.out.heard d6 g6)
                replace MB := Lib.hid (MB.out.other g6 HNM.out)
                replace OB := Lib.hid (OB.out.other g6 HNO.out)
                replace X : Hid (Ext w w6) := Lib.hid (Below.trans X.out (grown_below g6 SZ.out X.out.size))
                have A6 := Lib.hid (Ext.alloc w6 (.cells (msA zeroM none 0 0) 30))
                replace U1 := Lib.hid (U1.out.ext A6.out)
                replace GG := Lib.hid (GG.out.ext A6.out)
                replace MB := Lib.hid (MB.out.ext A6.out)
                replace OB := Lib.hid (OB.out.ext A6.out)
                replace X := Lib.hid (X.out.tr A6.out)
                clear H d6 g6
                simp only [zeroM]
                go_upto_region 36 with fail
                change Code.wp _ _ _ _ (w6.alloc (.cells (msA zeroM none 0 0) 30))
                generalize w6.alloc (.cells (msA zeroM none 0 0) 30) = w7 at *
                go_wp2_with fail
                go_meet
                exact ⟨bs, bs, ps, GG.out, Or.inr ⟨K1.out, rfl⟩, POK.out, OB.out, X.out⟩
            · rcases hR : hearR me bs B with ⟨HM, HLL⟩ | c
              · have HF0 : Hid (bs 0 = updF bs HM.fr.toNat HM.bt 0) := Lib.hid (by rw [updF_other _ _ _ _ (by have := hear_from hR; omega)])
                have HR := Lib.hid hR
                clear hR
                as_aux_lemma =>
                  have o15 := OB.out.c 15 _ rfl
                  try simp only at o15
                  go_wp2_with fail
                  clear o15
                  refine (SH.out _ X.out).mono ?_
                  rintro e w5 ⟨rfl, rfl⟩
                  simp only []
                  go_wp2_with fail
                  have H := hear_any GG.out.G (OBT.out.ext X.out) (by omega)
                  rw [HR.out] at H
                  refine H.mono ?_
                  rintro e w6 ⟨p6, k6, rfl, o6, l6, -, d6, g6⟩
                  replace U1 := Lib.hid (U1.out.kept g6 (fun b hb => by cases hb; intro hc; have h1 := U1.out.lt _ hc; have h2 := HU.out; omega))
                  replace GG : Hid (GA w.heap.size w6 g gb gn ga gs me (updF bs HM.fr.toNat HM.bt) bs ps) := Lib.hid (GG.out.heard d6 g6)
                  replace MB := Lib.hid (MB.out.other g6 HNM.out)
                  replace OB := Lib.hid (OB.out.other g6 HNO.out)
                  replace X : Hid (Ext w w6) := Lib.hid (Below.trans X.out (grown_below g6 SZ.out X.out.size))
                  have A6 := Lib.hid (Ext.alloc w6 (.cells (msA HM p6 HLL.length k6) 30))
                  replace U1 := Lib.hid (U1.out.ext A6.out)
                  replace GG := Lib.hid (GG.out.ext A6.out)
                  replace MB := Lib.hid (MB.out.ext A6.out)
                  replace OB := Lib.hid (OB.out.ext A6.out)
                  replace X := Lib.hid (X.out.tr A6.out)
                  clear H d6 g6 o6 l6
                  simp only []
                  go_upto_region 36 with fail
                  change Code.wp _ _ _ _ (w6.alloc (.cells (msA HM p6 HLL.length k6) 30))
                  generalize w6.alloc (.cells (msA HM p6 HLL.length k6) 30) = w7 at *
                  go_wp2_with fail
                  go_meet
                  exact ⟨updF bs HM.fr.toNat HM.bt, bs, ps, GG.out, Or.inr ⟨K1.out, HF0.out⟩, POK.out, OB.out, X.out⟩
              · have HR := Lib.hid hR
                have HZ := Lib.hid (rfl : bs 0 = bs 0)
                clear hR
                as_aux_lemma =>
                  have o15 := OB.out.c 15 _ rfl
                  try simp only at o15
                  go_wp2_with fail
                  clear o15
                  refine (SH.out _ X.out).mono ?_
                  rintro e w5 ⟨rfl, rfl⟩
                  simp only []
                  go_wp2_with fail
                  have H := hear_any GG.out.G (OBT.out.ext X.out) (by omega)
                  rw [HR.out] at H
                  refine H.mono ?_
                  rintro e w6 ⟨rfl, d6, g6⟩
                  replace U1 := Lib.hid (U1.out.kept g6 (fun b hb => by cases hb; intro hc; have h1 := U1.out.lt _ hc; have h2 := HU.out; omega))
                  replace GG : Hid (GA w.heap.size w6 g gb gn ga gs me bs bs ps) := Lib.hid (GG.out.heard d6 g6)
                  replace MB := Lib.hid (MB.out.other g6 HNM.out)
                  replace OB := Lib.hid (OB.out.other g6 HNO.out)
                  replace X : Hid (Ext w w6) := Lib.hid (Below.trans X.out (grown_below g6 SZ.out X.out.size))
                  have A6 := Lib.hid (Ext.alloc w6 (.cells (msA zeroM none 0 0) 30))
                  replace U1 := Lib.hid (U1.out.ext A6.out)
                  replace GG := Lib.hid (GG.out.ext A6.out)
                  replace MB := Lib.hid (MB.out.ext A6.out)
                  replace OB := Lib.hid (OB.out.ext A6.out)
                  replace X := Lib.hid (X.out.tr A6.out)
                  clear H d6 g6
                  simp only [zeroM]
                  go_upto_region 36 with fail
                  change Code.wp _ _ _ _ (w6.alloc (.cells (msA zeroM none 0 0) 30))
                  generalize w6.alloc (.cells (msA zeroM none 0 0) 30) = w7 at *
                  go_wp2_with fail
                  go_meet
                  exact ⟨bs, bs, ps, GG.out, Or.inr ⟨K1.out, rfl⟩, POK.out, OB.out, X.out⟩
          · have e1 : (okd == 1) = false := beq_eq_false_iff_ne.2 q1
            by_cases q2 : okd = 2
            · subst q2
              have K1 : Hid ((2 : Int) ≠ 1) := Lib.hid (by decide)
              cases hi : isI oid
              · have HI := Lib.hid hi
                have hr : oid < 1 ∨ (1 ≤ oid ∧ ¬ oid ≤ 7) := by
                  by_cases h3 : 1 ≤ oid
                  · refine Or.inr ⟨h3, fun h4 => ?_⟩
                    unfold isI at hi
                    rw [decide_eq_true h3, decide_eq_true h4] at hi
                    cases hi
                  · omega
                clear hi
                rcases hr with h3 | ⟨h3, h4⟩
                all_goals
                  as_aux_lemma =>
                    have o0 := OB.out.c 0 _ rfl
                    have o1 := OB.out.c 1 _ rfl
                    have o2 := OB.out.c 2 _ rfl
                    have o3 := OB.out.c 3 _ rfl
                    have o4 := OB.out.c 4 _ rfl
                    have o5 := OB.out.c 5 _ rfl
                    have o6 := OB.out.c 6 _ rfl
                    have o7 := OB.out.c 7 _ rfl
                    have o8 := OB.out.c 8 _ rfl
                    have o9 := OB.out.c 9 _ rfl
                    have o10 := OB.out.c 10 _ rfl
                    have o11 := OB.out.c 11 _ rfl
                    have o12 := OB.out.c 12 _ rfl
                    have o13 := OB.out.c 13 _ rfl
                    have o14 := OB.out.c 14 _ rfl
                    have o15 := OB.out.c 15 _ rfl
                    have o16 := OB.out.c 16 _ rfl
                    have o17 := OB.out.c 17 _ rfl
                    try simp only at o0 o1 o2 o3 o4 o5 o6 o7 o8 o9 o10 o11 o12 o13 o14 o15 o16 o17
                    go_wp2_with fail
                    clear o0 o1 o2 o3 o4 o5 o6 o7 o8 o9 o10 o11 o12 o13 o14 o15 o16 o17
                    have H := sent_any GG.out.G oid onum oclk
                    rw [HI.out] at H
                    refine H.mono ?_
                    rintro e w5 ⟨rfl, d5, g5⟩
                    replace GG : Hid (GA w.heap.size w5 g gb gn ga gs me bs bs ps) := Lib.hid (GG.out.heard d5 g5)
                    replace OB := Lib.hid (OB.out.other g5 HNO.out)
                    replace X : Hid (Ext w w5) := Lib.hid (Below.trans X.out (grown_below g5 SZ.out X.out.size))
                    clear H d5 g5
                    have o1 := OB.out.c 1 _ rfl
                    try simp only at o1
                    go_wp2_with fail
                    go_meet
                    exact ⟨bs, bs, ps, GG.out, Or.inl ⟨K1.out, rfl⟩, POK.out, OB.out, X.out⟩
              · have HI := Lib.hid hi
                obtain ⟨h3, h4⟩ := isI_yes hi
                clear hi
                obtain ⟨F, rfl⟩ : ∃ F : Nat, oid = (F : Int) := ⟨oid.toNat, by omega⟩
                have hF : F < 8 := by omega
                as_aux_lemma =>
                  have o0 := OB.out.c 0 _ rfl
                  have o1 := OB.out.c 1 _ rfl
                  have o2 := OB.out.c 2 _ rfl
                  have o3 := OB.out.c 3 _ rfl
                  have o4 := OB.out.c 4 _ rfl
                  have o5 := OB.out.c 5 _ rfl
                  have o6 := OB.out.c 6 _ rfl
                  have o7 := OB.out.c 7 _ rfl
                  have o8 := OB.out.c 8 _ rfl
                  have o9 := OB.out.c 9 _ rfl
                  have o10 := OB.out.c 10 _ rfl
                  have o11 := OB.out.c 11 _ rfl
                  have o12 := OB.out.c 12 _ rfl
                  have o13 := OB.out.c 13 _ rfl
                  have o14 := OB.out.c 14 _ rfl
                  have o15 := OB.out.c 15 _ rfl
                  have o16 := OB.out.c 16 _ rfl
                  have o17 := OB.out.c 17 _ rfl
                  try simp only at o0 o1 o2 o3 o4 o5 o6 o7 o8 o9 o10 o11 o12 o13 o14 o15 o16 o17
                  go_wp2_with fail
                  clear o0 o1 o2 o3 o4 o5 o6 o7 o8 o9 o10 o11 o12 o13 o14 o15 o16 o17
                  have H := sent_any GG.out.G (F : Int) onum oclk
                  rw [HI.out] at H
                  refine H.mono ?_
                  rintro e w5 ⟨rfl, d5, g5⟩
                  have D5 : Hid (BoxV w5 w.heap.size g (grL me bs (updF ps F (onum, oclk, true)))) := Lib.hid d5
                  have G5 := Lib.hid g5
                  replace OB := Lib.hid (OB.out.other g5 HNO.out)
                  replace X : Hid (Ext w w5) := Lib.hid (Below.trans X.out (grown_below g5 SZ.out X.out.size))
                  clear H d5 g5
                  have o1 := OB.out.c 1 _ rfl
                  try simp only at o1
                  go_wp2_with fail
                  clear o1
                  have LT := Lib.hid GG.out.lt
                  have GL := Lib.hid (GG.out.G.lo)
                  have D6 := Lib.hid (D5.out.ext (Ext.drew w5))
                  have N6 := Lib.hid ((GG.out.N.other G5.out (by intro e; injection e with e; have := LT.out; omega)).ext (Ext.drew w5))
                  have A6 := Lib.hid ((GG.out.A.other G5.out (by intro e; injection e with e; have := LT.out; omega)).ext (Ext.drew w5))
                  have S6 := Lib.hid ((GG.out.S.other G5.out (by intro e; injection e with e; have := LT.out; omega)).ext (Ext.drew w5))
                  have GD : Hid (GA w.heap.size w5.drew g gb gn ga gs me bs bs (updF ps F (onum, oclk, true)) → True) := Lib.hid (fun _ => trivial)
                  have K5 : Hid (w4.grownBy w5.drew (some g)) := Lib.hid (grown_tr G5.out (grown_ext (Ext.drew w5) _))
                  have OB6 := Lib.hid (OB.out.ext (Ext.drew w5))
                  have X6 := Lib.hid (X.out.tr (Ext.drew w5))
                  obtain ⟨wd, hwd⟩ : ∃ wd, wd = w5.drew := ⟨_, rfl⟩
                  rw [← hwd] at D6 N6 A6 S6 K5 OB6 X6
                  have oN : Hid (∀ (x : World) (b : Nat), b ≠ go → wd.grownBy x (some b) → True) := Lib.hid (fun _ _ _ _ => trivial)
                  clear oN GD
                  have r1 := fun (q : Wrap (fun x => ∀ j, j < go + 1 → j ≠ gn → j ≠ ga → j ≠ gs → x.heap[j]? = wd.heap[j]?)) => (World.cell?_of_block (q.h go (by omega) (by have := LT.out; have := HGO.out; omega) (by have := LT.out; have := HGO.out; omega) (by have := LT.out; have := HGO.out; omega))).trans (OB6.out.c 1 _ rfl)
                  have r16 := fun (q : Wrap (fun x => ∀ j, j < go + 1 → j ≠ gn → j ≠ ga → j ≠ gs → x.heap[j]? = wd.heap[j]?)) => (World.cell?_of_block (q.h go (by omega) (by have := LT.out; have := HGO.out; omega) (by have := LT.out; have := HGO.out; omega) (by have := LT.out; have := HGO.out; omega))).trans (OB6.out.c 16 _ rfl)
                  have r17 := fun (q : Wrap (fun x => ∀ j, j < go + 1 → j ≠ gn → j ≠ ga → j ≠ gs → x.heap[j]? = wd.heap[j]?)) => (World.cell?_of_block (q.h go (by omega) (by have := LT.out; have := HGO.out; omega) (by have := LT.out; have := HGO.out; omega) (by have := LT.out; have := HGO.out; omega))).trans (OB6.out.c 17 _ rfl)
                  try simp only at r1 r16 r17
                  refine rg_start [0, 1, 2, 3, 4, 5, 6, 7, 8, 9, 10, 11, 12, 13, 14, 15] (fun x => ∀ j, j < go + 1 → j ≠ gn → j ≠ ga → j ≠ gs → x.heap[j]? = wd.heap[j]?) (by kernel_rfl) (by kernel_rfl) (fun _ _ d _ _ h => by cases d <;> exact h) (by rw [← hwd]; exact fun _ _ _ _ _ => rfl) (fun _ => ?_)
                  rw [← hwd]
                  clear hwd
                  repeat (first | (refine rg_quiet rfl (by rfl) (by rfl) (fun K hK => ?_); go_big_quiet_op; refine hK _ ?_; clear hK K) | (refine rg_skip rfl (by rfl) (fun K hK => ?_); go_big_quiet_op; refine hK _ ?_; clear hK K))
                  clear r1 r16 r17
                  have cN := N6.out.c _ _ (tpL_at (bs := fun j => (ps j).1) hF)
                  have fN := N6.out.f
                  refine rg_call rfl (by rfl) (by rfl) (fun K hK => ?_)
                  go_simp
                  refine hK _ _ _ (fun _ h => h) (fun j hj h1 h2 h3 => Below.heap_setCell wd ⟨gn, F, none⟩ (.int .i64 onum) j (by rintro rfl; exact h1 rfl)) (fun _ => ?_)
                  clear hK K cN fN
                  repeat (first | (refine rg_quiet rfl (by rfl) (by rfl) (fun K hK => ?_); go_big_quiet_op; refine hK _ ?_; clear hK K) | (refine rg_skip rfl (by rfl) (fun K hK => ?_); go_big_quiet_op; refine hK _ ?_; clear hK K))
                  have hAc := A6.out.other (grown_put (grown_refl wd (some gn)) F (.int .i64 onum)) (by intro e; injection e with e; have := LT.out; omega)
                  have cA := hAc.c _ _ (tpL_at (bs := fun j => (ps j).2.1) hF)
                  have fA := hAc.f
                  clear hAc
                  refine rg_call rfl (by rfl) (by rfl) (fun K hK => ?_)
                  go_simp
                  refine hK _ _ _ (fun _ h => h) (fun j hj h1 h2 h3 => (Below.heap_setCell (wd.setCell ⟨gn, F, none⟩ (.int .i64 onum)) ⟨ga, F, none⟩ (.int .i64 oclk) j (by rintro rfl; exact h2 rfl)).trans (Below.heap_setCell wd ⟨gn, F, none⟩ (.int .i64 onum) j (by rintro rfl; exact h1 rfl))) (fun _ => ?_)
                  clear hK K cA fA
                  repeat (first | (refine rg_quiet rfl (by rfl) (by rfl) (fun K hK => ?_); go_big_quiet_op; refine hK _ ?_; clear hK K) | (refine rg_skip rfl (by rfl) (fun K hK => ?_); go_big_quiet_op; refine hK _ ?_; clear hK K))
                  have hSc := (S6.out.other (grown_put (grown_refl wd (some gn)) F (.int .i64 onum)) (by intro e; injection e with e; have := LT.out; omega)).other (grown_put (grown_refl (wd.setCell ⟨gn, F, none⟩ (.int .i64 onum)) (some ga)) F (.int .i64 oclk)) (by intro e; injection e with e; have := LT.out; omega)
                  have cS := hSc.c _ _ (tbL_at (bs := fun j => (ps j).2.2) hF)
                  have fS := hSc.f
                  clear hSc
                  refine rg_call rfl (by rfl) (by rfl) (fun K hK => ?_)
                  go_simp
                  obtain ⟨wz, hwz⟩ : ∃ wz, wz = ((wd.setCell ⟨gn, F, none⟩ (.int .i64 onum)).setCell ⟨ga, F, none⟩ (.int .i64 oclk)).setCell ⟨gs, F, none⟩ (.bool true) := ⟨_, rfl⟩
                  have Q1 := grown_put (grown_refl wd (some gn)) F (.int .i64 onum)
                  have Q2 := grown_put (grown_refl (wd.setCell ⟨gn, F, none⟩ (.int .i64 onum)) (some ga)) F (.int .i64 oclk)
                  have Q3 := grown_put (grown_refl ((wd.setCell ⟨gn, F, none⟩ (.int .i64 onum)).setCell ⟨ga, F, none⟩ (.int .i64 oclk)) (some gs)) F (.bool true)
                  refine hK _ _ (((wd.setCell ⟨gn, F, none⟩ (.int .i64 onum)).setCell ⟨ga, F, none⟩ (.int .i64 oclk)).setCell ⟨gs, F, none⟩ (.bool true)) (fun _ h => h) (fun j hj h1 h2 h3 => (Below.heap_setCell _ ⟨gs, F, none⟩ (.bool true) j (by rintro rfl; exact h3 rfl)).trans ((Below.heap_setCell (wd.setCell ⟨gn, F, none⟩ (.int .i64 onum)) ⟨ga, F, none⟩ (.int .i64 oclk) j (by rintro rfl; exact h2 rfl)).trans (Below.heap_setCell wd ⟨gn, F, none⟩ (.int .i64 onum) j (by rintro rfl; exact h1 rfl)))) (fun _ => ?_)
                  clear hK K cS fS
                  refine rg_nil ?_
                  replace GG : Hid (GA w.heap.size wz g gb gn ga gs me bs bs (updF ps F (onum, oclk, true))) := Lib.hid (GG.out.sent hF D6.out K5.out wz hwz)
                  replace OB : Hid (BoxV wz w.heap.size go (ogL ⟨2, (F : Int), ⟨kd, fr, tt, bt, vw, ls, mb, po, cm, nm, ck, ye⟩, op, on, ocap, oL, oq, onb, ocb, ob, onum, oclk⟩)) := Lib.hid (by rw [hwz]; exact ((OB6.out.other Q1 (by intro e; injection e with e; have := LT.out; have := HGO.out; omega)).other Q2 (by intro e; injection e with e; have := LT.out; have := HGO.out; omega)).other Q3 (by intro e; injection e with e; have := LT.out; have := HGO.out; omega))
                  replace X : Hid (Ext w wz) := Lib.hid (by rw [hwz]; exact ((X6.out.setCell (show w.heap.size ≤ gn by have := LT.out; have := GL.out; omega) _).setCell (show w.heap.size ≤ ga by have := LT.out; have := GL.out; omega) _).setCell (show w.heap.size ≤ gs by have := LT.out; have := GL.out; omega) _)
                  have POK2 : Hid (∀ j, J64 (updF ps F (onum, oclk, true) j).2.1) := Lib.hid (fun j => by
                    unfold updF
                    split
                    · exact HCK.out
                    · exact POK.out j)
                  rw [← hwz]
                  clear hwz Q1 Q2 Q3
                  go_wp2_with fail
                  go_meet
                  exact ⟨bs, bs, updF ps F (onum, oclk, true), GG.out, Or.inl ⟨K1.out, rfl⟩, POK2.out, OB.out, X.out⟩
            · have e2 : (okd == 2) = false := beq_eq_false_iff_ne.2 q2
              have K1 := Lib.hid q1
              have CKO := Lib.hid MOK.out.2.2.2.2.2.2.2.2.2.2
              have TKN : Hid (tkB ps ⟨kd, fr, tt, bt, vw, ls, mb, po, cm, nm, ck, ye⟩ = false → tkV ps ⟨kd, fr, tt, bt, vw, ls, mb, po, cm, nm, ck, ye⟩ oclk ppm = 0 ∧ tkO ps ⟨kd, fr, tt, bt, vw, ls, mb, po, cm, nm, ck, ye⟩ oclk ppm = false) := Lib.hid (fun h => ⟨by unfold tkV; rw [h]; rfl, by unfold tkO; rw [h]; rfl⟩)
              clear q0 q1 q2
              by_cases h13 : kd = 13
              · subst h13
                by_cases h3 : 1 ≤ fr
                · by_cases h4 : fr ≤ 7
                  · obtain ⟨F, rfl⟩ : ∃ F : Nat, fr = (F : Int) := ⟨fr.toNat, by omega⟩
                    have hF : F < 8 := by omega
                    have d3 : decide ((1 : Int) ≤ (F : Int)) = true := decide_eq_true h3
                    have d4 : decide ((F : Int) ≤ 7) = true := decide_eq_true h4
                    have TB : Hid (tkB ps ⟨13, F, tt, bt, vw, ls, mb, po, cm, nm, ck, ye⟩ = ((ps F).2.2 && decide ((ps F).1 = nm))) := Lib.hid (by unfold tkB; simp only [decide_true, Bool.true_and, show isI (F : Int) = true by unfold isI; rw [decide_eq_true h3, decide_eq_true h4]; rfl, show (F : Int).toNat = F by omega])
                    have TV : Hid (tkB ps ⟨13, F, tt, bt, vw, ls, mb, po, cm, nm, ck, ye⟩ = true → tkV ps ⟨13, F, tt, bt, vw, ls, mb, po, cm, nm, ck, ye⟩ oclk ppm = bndV (ps F).2.1 ck ck oclk ppm ∧ tkO ps ⟨13, F, tt, bt, vw, ls, mb, po, cm, nm, ck, ye⟩ oclk ppm = bndOk (ps F).2.1 ck ck oclk ppm) := Lib.hid (fun h => ⟨by unfold tkV; rw [if_pos h]; simp only [show (F : Int).toNat = F by omega], by unfold tkO; rw [h]; simp only [show (F : Int).toNat = F by omega, Bool.true_and]⟩)
                    have HS2 := Lib.hid (POK.out F)
                    obtain ⟨⟨s1, s2, s3⟩, hs⟩ : ∃ s, s = ps F := ⟨_, rfl⟩
                    have PSF : Hid (ps F = (s1, s2, s3)) := Lib.hid hs.symm
                    rw [← hs] at TB TV HS2
                    simp only at TB TV HS2
                    clear hs
                    cases s3
                    · have TK := Lib.hid (TKN.out (by rw [TB.out]; rfl))
                      as_aux_lemma =>
                        have c0 := MB.out.c 0 _ rfl
                        have c1 := MB.out.c 1 _ rfl
                        have c2 := MB.out.c 2 _ rfl
                        have c3 := MB.out.c 3 _ rfl
                        have c4 := MB.out.c 4 _ rfl
                        have c5 := MB.out.c 5 _ rfl
                        have c6 := MB.out.c 6 _ rfl
                        have c7 := MB.out.c 7 _ rfl
                        have c8 := MB.out.c 8 _ rfl
                        have c9 := MB.out.c 9 _ rfl
                        have c10 := MB.out.c 10 _ rfl
                        have c11 := MB.out.c 11 _ rfl
                        have c12 := MB.out.c 12 _ rfl
                        try simp only at c0 c1 c2 c3 c4 c5 c6 c7 c8 c9 c10 c11 c12
                        have o17 := OB.out.c 17 _ rfl
                        try simp only at o17
                        go_wp2_with fail
                        clear c0 c1 c2 c3 c4 c5 c6 c7 c8 c9 c10 c11 c12
                        clear o17
                        have H := took_any GG.out.G MOK.out (p := p3) (n := M1.length) (cap := c3) oclk ppm HCK.out POK.out
                        rw [TK.out.1, TK.out.2] at H
                        refine H.mono ?_
                        rintro e w5 ⟨rfl, x5⟩
                        replace U1 := Lib.hid (U1.out.ext x5)
                        replace GG := Lib.hid (GG.out.ext x5)
                        replace MB := Lib.hid (MB.out.ext x5)
                        replace OB := Lib.hid (OB.out.ext x5)
                        replace X := Lib.hid (X.out.tr x5)
                        clear H x5
                        go_upto_region 18 with fail
                        replace U1 := Lib.hid (U1.out.ext (Ext.drew w5))
                        replace GG := Lib.hid (GG.out.ext (Ext.drew w5))
                        replace MB := Lib.hid (MB.out.ext (Ext.drew w5))
                        replace OB := Lib.hid (OB.out.ext (Ext.drew w5))
                        replace X := Lib.hid (X.out.tr (Ext.drew w5))
                        have r0 := fun (q : Wrap (Ext w5.drew)) => Ext.cell q.h (MB.out.c 0 _ rfl)
                        have r1 := fun (q : Wrap (Ext w5.drew)) => Ext.cell q.h (MB.out.c 1 _ rfl)
                        have r10 := fun (q : Wrap (Ext w5.drew)) => Ext.cell q.h (MB.out.c 10 _ rfl)
                        have rs := fun (q : Wrap (Ext w5.drew)) => Ext.cell q.h (GG.out.S.c _ _ (tbL_at (bs := fun j => (ps j).2.2) hF))
                        have rn := fun (q : Wrap (Ext w5.drew)) => Ext.cell q.h (GG.out.N.c _ _ (tpL_at (bs := fun j => (ps j).1) hF))
                        simp only [PSF.out] at rs rn
                        try simp only at r0 r1 r10
                        refine rg_start [0, 1, 2, 3, 4, 5, 6, 7, 8, 9, 10, 11, 12, 13, 14, 15, 16, 17, 18, 19, 20, 21, 22, 23, 24, 25, 26, 27] (Ext w5.drew) (by kernel_rfl) (by kernel_rfl) (fun _ _ d _ _ h => by cases d <;> exact h) (Ext.rfl' _) (fun _ => ?_)
                        repeat (first | (refine rg_quiet rfl (by rfl) (by rfl) (fun K hK => ?_); go_big_quiet_op; refine hK _ ?_; clear hK K) | (refine rg_skip rfl (by rfl) (fun K hK => ?_); go_big_quiet_op; refine hK _ ?_; clear hK K))
                        refine rg_nil ?_
                        clear r0 r1 r10 rs rn
                        generalize w5.drew = w6 at *
                        go_wp2_with fail
                        go_meet
                        exact ⟨bs, bs, ps, GG.out, Or.inl ⟨K1.out, rfl⟩, POK.out, OB.out, X.out⟩
                    · by_cases hnm : s1 = nm
                      · subst hnm
                        have TK := Lib.hid (TV.out (by rw [TB.out]; simp))
                        as_aux_lemma =>
                          have c0 := MB.out.c 0 _ rfl
                          have c1 := MB.out.c 1 _ rfl
                          have c2 := MB.out.c 2 _ rfl
                          have c3 := MB.out.c 3 _ rfl
                          have c4 := MB.out.c 4 _ rfl
                          have c5 := MB.out.c 5 _ rfl
                          have c6 := MB.out.c 6 _ rfl
                          have c7 := MB.out.c 7 _ rfl
                          have c8 := MB.out.c 8 _ rfl
                          have c9 := MB.out.c 9 _ rfl
                          have c10 := MB.out.c 10 _ rfl
                          have c11 := MB.out.c 11 _ rfl
                          have c12 := MB.out.c 12 _ rfl
                          try simp only at c0 c1 c2 c3 c4 c5 c6 c7 c8 c9 c10 c11 c12
                          have o17 := OB.out.c 17 _ rfl
                          try simp only at o17
                          go_wp2_with fail
                          clear c0 c1 c2 c3 c4 c5 c6 c7 c8 c9 c10 c11 c12
                          clear o17
                          have H := took_any GG.out.G MOK.out (p := p3) (n := M1.length) (cap := c3) oclk ppm HCK.out POK.out
                          rw [TK.out.1, TK.out.2] at H
                          refine H.mono ?_
                          rintro e w5 ⟨rfl, x5⟩
                          replace U1 := Lib.hid (U1.out.ext x5)
                          replace GG := Lib.hid (GG.out.ext x5)
                          replace MB := Lib.hid (MB.out.ext x5)
                          replace OB := Lib.hid (OB.out.ext x5)
                          replace X := Lib.hid (X.out.tr x5)
                          clear H x5
                          go_upto_region 18 with fail
                          replace U1 := Lib.hid (U1.out.ext (Ext.drew w5))
                          replace GG := Lib.hid (GG.out.ext (Ext.drew w5))
                          replace MB := Lib.hid (MB.out.ext (Ext.drew w5))
                          replace OB := Lib.hid (OB.out.ext (Ext.drew w5))
                          replace X := Lib.hid (X.out.tr (Ext.drew w5))
                          have r0 := fun (q : Wrap (Ext w5.drew)) => Ext.cell q.h (MB.out.c 0 _ rfl)
                          have r1 := fun (q : Wrap (Ext w5.drew)) => Ext.cell q.h (MB.out.c 1 _ rfl)
                          have r10 := fun (q : Wrap (Ext w5.drew)) => Ext.cell q.h (MB.out.c 10 _ rfl)
                          have rs := fun (q : Wrap (Ext w5.drew)) => Ext.cell q.h (GG.out.S.c _ _ (tbL_at (bs := fun j => (ps j).2.2) hF))
                          have rn := fun (q : Wrap (Ext w5.drew)) => Ext.cell q.h (GG.out.N.c _ _ (tpL_at (bs := fun j => (ps j).1) hF))
                          simp only [PSF.out] at rs rn
                          try simp only at r0 r1 r10
                          refine rg_start [0, 1, 2, 3, 4, 5, 6, 7, 8, 9, 10, 11, 12, 13, 14, 15, 16, 17, 18, 19, 20, 21, 22, 23, 24, 25, 26, 27] (Ext w5.drew) (by kernel_rfl) (by kernel_rfl) (fun _ _ d _ _ h => by cases d <;> exact h) (Ext.rfl' _) (fun _ => ?_)
                          repeat (first | (refine rg_quiet rfl (by rfl) (by rfl) (fun K hK => ?_); go_big_quiet_op; refine hK _ ?_; clear hK K) | (refine rg_skip rfl (by rfl) (fun K hK => ?_); go_big_quiet_op; refine hK _ ?_; clear hK K))
                          refine rg_nil ?_
                          clear r0 r1 r10 rs rn
                          generalize w5.drew = w6 at *
                          go_wp2_with fail
                          replace U1 := Lib.hid (U1.out.ext (Ext.drew w6))
                          replace GG := Lib.hid (GG.out.ext (Ext.drew w6))
                          replace MB := Lib.hid (MB.out.ext (Ext.drew w6))
                          replace OB := Lib.hid (OB.out.ext (Ext.drew w6))
                          replace X := Lib.hid (X.out.tr (Ext.drew w6))
                          have r1 := fun (q : Wrap (Ext w6.drew)) => Ext.cell q.h (MB.out.c 1 _ rfl)
                          have r11 := fun (q : Wrap (Ext w6.drew)) => Ext.cell q.h (MB.out.c 11 _ rfl)
                          have r17 := fun (q : Wrap (Ext w6.drew)) => Ext.cell q.h (OB.out.c 17 _ rfl)
                          have ra := fun (q : Wrap (Ext w6.drew)) => Ext.cell q.h (GG.out.A.c _ _ (tpL_at (bs := fun j => (ps j).2.1) hF))
                          simp only [PSF.out] at ra
                          try simp only at r1 r11 r17
                          refine rg_start [0, 1, 2, 3, 4, 5, 6, 7, 8, 9, 11, 10, 12, 13, 14, 15, 16, 17] (Ext w6.drew) (by kernel_rfl) (by kernel_rfl) (fun _ _ d _ _ h => by cases d <;> exact h) (Ext.rfl' _) (fun _ => ?_)
                          repeat (first | (refine rg_quiet rfl (by rfl) (by rfl) (fun K hK => ?_); go_big_quiet_op; refine hK _ ?_; clear hK K) | (refine rg_skip rfl (by rfl) (fun K hK => ?_); go_big_quiet_op; refine hK _ ?_; clear hK K))
                          clear r1 r11 r17 ra
                          refine rg_call rfl (by rfl) (by rfl) (fun K hK => ?_)
                          go_simp
                          refine hK _ _ _ (fun _ h => h) (Ext.rfl' _) (fun _ => ?_)
                          clear hK K
                          refine rg_call rfl (by rfl) (by rfl) (fun K hK => ?_)
                          go_simp
                          refine (rbound_any s2 ck ck oclk ppm HS2.out CKO.out CKO.out HCK.out _).mono ?_
                          rintro e w7 ⟨rfl, x7⟩
                          refine hK _ _ _ (fun _ h => h) x7 (fun _ => ?_)
                          clear hK K
                          replace U1 := Lib.hid (U1.out.ext x7)
                          replace GG := Lib.hid (GG.out.ext x7)
                          replace MB := Lib.hid (MB.out.ext x7)
                          replace OB := Lib.hid (OB.out.ext x7)
                          replace X := Lib.hid (X.out.tr x7)
                          clear x7
                          repeat (first | (refine rg_quiet rfl (by rfl) (by rfl) (fun K hK => ?_); go_big_quiet_op; refine hK _ ?_; clear hK K) | (refine rg_skip rfl (by rfl) (fun K hK => ?_); go_big_quiet_op; refine hK _ ?_; clear hK K))
                          refine rg_nil ?_
                          go_wp2_with fail
                          go_meet
                          exact ⟨bs, bs, ps, GG.out, Or.inl ⟨K1.out, rfl⟩, POK.out, OB.out, X.out⟩
                      · have TK := Lib.hid (TKN.out (by rw [TB.out]; simp [hnm]))
                        have f1 : (s1 == nm) = false := beq_eq_false_iff_ne.2 hnm
                        clear hnm
                        as_aux_lemma =>
                          have c0 := MB.out.c 0 _ rfl
                          have c1 := MB.out.c 1 _ rfl
                          have c2 := MB.out.c 2 _ rfl
                          have c3 := MB.out.c 3 _ rfl
                          have c4 := MB.out.c 4 _ rfl
                          have c5 := MB.out.c 5 _ rfl
                          have c6 := MB.out.c 6 _ rfl
                          have c7 := MB.out.c 7 _ rfl
                          have c8 := MB.out.c 8 _ rfl
                          have c9 := MB.out.c 9 _ rfl
                          have c10 := MB.out.c 10 _ rfl
                          have c11 := MB.out.c 11 _ rfl
                          have c12 := MB.out.c 12 _ rfl
                          try simp only at c0 c1 c2 c3 c4 c5 c6 c7 c8 c9 c10 c11 c12
                          have o17 := OB.out.c 17 _ rfl
                          try simp only at o17
                          go_wp2_with fail
                          clear c0 c1 c2 c3 c4 c5 c6 c7 c8 c9 c10 c11 c12
                          clear o17
                          have H := took_any GG.out.G MOK.out (p := p3) (n := M1.length) (cap := c3) oclk ppm HCK.out POK.out
                          rw [TK.out.1, TK.out.2] at H
                          refine H.mono ?_
                          rintro e w5 ⟨rfl, x5⟩
                          replace U1 := Lib.hid (U1.out.ext x5)
                          replace GG := Lib.hid (GG.out.ext x5)
                          replace MB := Lib.hid (MB.out.ext x5)
                          replace OB := Lib.hid (OB.out.ext x5)
                          replace X := Lib.hid (X.out.tr x5)
                          clear H x5
                          go_upto_region 18 with fail
                          replace U1 := Lib.hid (U1.out.ext (Ext.drew w5))
                          replace GG := Lib.hid (GG.out.ext (Ext.drew w5))
                          replace MB := Lib.hid (MB.out.ext (Ext.drew w5))
                          replace OB := Lib.hid (OB.out.ext (Ext.drew w5))
                          replace X := Lib.hid (X.out.tr (Ext.drew w5))
                          have r0 := fun (q : Wrap (Ext w5.drew)) => Ext.cell q.h (MB.out.c 0 _ rfl)
                          have r1 := fun (q : Wrap (Ext w5.drew)) => Ext.cell q.h (MB.out.c 1 _ rfl)
                          have r10 := fun (q : Wrap (Ext w5.drew)) => Ext.cell q.h (MB.out.c 10 _ rfl)
                          have rs := fun (q : Wrap (Ext w5.drew)) => Ext.cell q.h (GG.out.S.c _ _ (tbL_at (bs := fun j => (ps j).2.2) hF))
                          have rn := fun (q : Wrap (Ext w5.drew)) => Ext.cell q.h (GG.out.N.c _ _ (tpL_at (bs := fun j => (ps j).1) hF))
                          simp only [PSF.out] at rs rn
                          try simp only at r0 r1 r10
                          refine rg_start [0, 1, 2, 3, 4, 5, 6, 7, 8, 9, 10, 11, 12, 13, 14, 15, 16, 17, 18, 19, 20, 21, 22, 23, 24, 25, 26, 27] (Ext w5.drew) (by kernel_rfl) (by kernel_rfl) (fun _ _ d _ _ h => by cases d <;> exact h) (Ext.rfl' _) (fun _ => ?_)
                          repeat (first | (refine rg_quiet rfl (by rfl) (by rfl) (fun K hK => ?_); go_big_quiet_op; refine hK _ ?_; clear hK K) | (refine rg_skip rfl (by rfl) (fun K hK => ?_); go_big_quiet_op; refine hK _ ?_; clear hK K))
                          refine rg_nil ?_
                          clear r0 r1 r10 rs rn
                          generalize w5.drew = w6 at *
                          go_wp2_with fail
                          go_meet
                          exact ⟨bs, bs, ps, GG.out, Or.inl ⟨K1.out, rfl⟩, POK.out, OB.out, X.out⟩
                  · have TK := Lib.hid (TKN.out (by unfold tkB isI; simp [h4]))
                    have d3 : decide ((1 : Int) ≤ fr) = true := decide_eq_true h3
                    have d4 : decide (fr ≤ 7) = false := decide_eq_false h4
                    as_aux_lemma =>
                      have c0 := MB.out.c 0 _ rfl
                      have c1 := MB.out.c 1 _ rfl
                      have c2 := MB.out.c 2 _ rfl
                      have c3 := MB.out.c 3 _ rfl
                      have c4 := MB.out.c 4 _ rfl
                      have c5 := MB.out.c 5 _ rfl
                      have c6 := MB.out.c 6 _ rfl
                      have c7 := MB.out.c 7 _ rfl
                      have c8 := MB.out.c 8 _ rfl
                      have c9 := MB.out.c 9 _ rfl
                      have c10 := MB.out.c 10 _ rfl
                      have c11 := MB.out.c 11 _ rfl
                      have c12 := MB.out.c 12 _ rfl
                      try simp only at c0 c1 c2 c3 c4 c5 c6 c7 c8 c9 c10 c11 c12
                      have o17 := OB.out.c 17 _ rfl
                      try simp only at o17
                      go_wp2_with fail
                      clear c0 c1 c2 c3 c4 c5 c6 c7 c8 c9 c10 c11 c12
                      clear o17
                      have H := took_any GG.out.G MOK.out (p := p3) (n := M1.length) (cap := c3) oclk ppm HCK.out POK.out
                      rw [TK.out.1, TK.out.2] at H
                      refine H.mono ?_
                      rintro e w5 ⟨rfl, x5⟩
                      replace U1 := Lib.hid (U1.out.ext x5)
                      replace GG := Lib.hid (GG.out.ext x5)
                      replace MB := Lib.hid (MB.out.ext x5)
                      replace OB := Lib.hid (OB.out.ext x5)
                      replace X := Lib.hid (X.out.tr x5)
                      clear H x5
                      go_upto_region 18 with fail
                      replace U1 := Lib.hid (U1.out.ext (Ext.drew w5))
                      replace GG := Lib.hid (GG.out.ext (Ext.drew w5))
                      replace MB := Lib.hid (MB.out.ext (Ext.drew w5))
                      replace OB := Lib.hid (OB.out.ext (Ext.drew w5))
                      replace X := Lib.hid (X.out.tr (Ext.drew w5))
                      have r0 := fun (q : Wrap (Ext w5.drew)) => Ext.cell q.h (MB.out.c 0 _ rfl)
                      have r1 := fun (q : Wrap (Ext w5.drew)) => Ext.cell q.h (MB.out.c 1 _ rfl)
                      have r10 := fun (q : Wrap (Ext w5.drew)) => Ext.cell q.h (MB.out.c 10 _ rfl)
                      try simp only at r0 r1 r10
                      refine rg_start [0, 1, 2, 3, 4, 5, 6, 7, 8, 9, 10, 11, 12, 13, 14, 15, 16, 17, 18, 19, 20, 21, 22, 23, 24, 25, 26, 27] (Ext w5.drew) (by kernel_rfl) (by kernel_rfl) (fun _ _ d _ _ h => by cases d <;> exact h) (Ext.rfl' _) (fun _ => ?_)
                      repeat (first | (refine rg_quiet rfl (by rfl) (by rfl) (fun K hK => ?_); go_big_quiet_op; refine hK _ ?_; clear hK K) | (refine rg_skip rfl (by rfl) (fun K hK => ?_); go_big_quiet_op; refine hK _ ?_; clear hK K))
                      refine rg_nil ?_
                      clear r0 r1 r10
                      generalize w5.drew = w6 at *
                      go_wp2_with fail
                      go_meet
                      exact ⟨bs, bs, ps, GG.out, Or.inl ⟨K1.out, rfl⟩, POK.out, OB.out, X.out⟩
                · have TK := Lib.hid (TKN.out (by unfold tkB isI; simp [h3]))
                  have d3 : decide ((1 : Int) ≤ fr) = false := decide_eq_false h3
                  as_aux_lemma =>
                    have c0 := MB.out.c 0 _ rfl
                    have c1 := MB.out.c 1 _ rfl
                    have c2 := MB.out.c 2 _ rfl
                    have c3 := MB.out.c 3 _ rfl
                    have c4 := MB.out.c 4 _ rfl
                    have c5 := MB.out.c 5 _ rfl
                    have c6 := MB.out.c 6 _ rfl
                    have c7 := MB.out.c 7 _ rfl
                    have c8 := MB.out.c 8 _ rfl
                    have c9 := MB.out.c 9 _ rfl
                    have c10 := MB.out.c 10 _ rfl
                    have c11 := MB.out.c 11 _ rfl
                    have c12 := MB.out.c 12 _ rfl
                    try simp only at c0 c1 c2 c3 c4 c5 c6 c7 c8 c9 c10 c11 c12
                    have o17 := OB.out.c 17 _ rfl
                    try simp only at o17
                    go_wp2_with fail
                    clear c0 c1 c2 c3 c4 c5 c6 c7 c8 c9 c10 c11 c12
                    clear o17
                    have H := took_any GG.out.G MOK.out (p := p3) (n := M1.length) (cap := c3) oclk ppm HCK.out POK.out
                    rw [TK.out.1, TK.out.2] at H
                    refine H.mono ?_
                    rintro e w5 ⟨rfl, x5⟩
                    replace U1 := Lib.hid (U1.out.ext x5)
                    replace GG := Lib.hid (GG.out.ext x5)
                    replace MB := Lib.hid (MB.out.ext x5)
                    replace OB := Lib.hid (OB.out.ext x5)
                    replace X := Lib.hid (X.out.tr x5)
                    clear H x5
                    go_upto_region 18 with fail
                    replace U1 := Lib.hid (U1.out.ext (Ext.drew w5))
                    replace GG := Lib.hid (GG.out.ext (Ext.drew w5))
                    replace MB := Lib.hid (MB.out.ext (Ext.drew w5))
                    replace OB := Lib.hid (OB.out.ext (Ext.drew w5))
                    replace X := Lib.hid (X.out.tr (Ext.drew w5))
                    have r0 := fun (q : Wrap (Ext w5.drew)) => Ext.cell q.h (MB.out.c 0 _ rfl)
                    have r1 := fun (q : Wrap (Ext w5.drew)) => Ext.cell q.h (MB.out.c 1 _ rfl)
                    have r10 := fun (q : Wrap (Ext w5.drew)) => Ext.cell q.h (MB.out.c 10 _ rfl)
                    try simp only at r0 r1 r10
                    refine rg_start [0, 1, 2, 3, 4, 5, 6, 7, 8, 9, 10, 11, 12, 13, 14, 15, 16, 17, 18, 19, 20, 21, 22, 23, 24, 25, 26, 27] (Ext w5.drew) (by kernel_rfl) (by kernel_rfl) (fun _ _ d _ _ h => by cases d <;> exact h) (Ext.rfl' _) (fun _ => ?_)
                    repeat (first | (refine rg_quiet rfl (by rfl) (by rfl) (fun K hK => ?_); go_big_quiet_op; refine hK _ ?_; clear hK K) | (refine rg_skip rfl (by rfl) (fun K hK => ?_); go_big_quiet_op; refine hK _ ?_; clear hK K))
                    refine rg_nil ?_
                    clear r0 r1 r10
                    generalize w5.drew = w6 at *
                    go_wp2_with fail
                    go_meet
                    exact ⟨bs, bs, ps, GG.out, Or.inl ⟨K1.out, rfl⟩, POK.out, OB.out, X.out⟩
              · have TK := Lib.hid (TKN.out (by unfold tkB; simp [h13]))
                have f1 : (kd == 13) = false := beq_eq_false_iff_ne.2 h13
                have f2 : (kd != 13) = true := bne_iff_ne.2 h13
                clear h13
                as_aux_lemma =>
                  have c0 := MB.out.c 0 _ rfl
                  have c1 := MB.out.c 1 _ rfl
                  have c2 := MB.out.c 2 _ rfl
                  have c3 := MB.out.c 3 _ rfl
                  have c4 := MB.out.c 4 _ rfl
                  have c5 := MB.out.c 5 _ rfl
                  have c6 := MB.out.c 6 _ rfl
                  have c7 := MB.out.c 7 _ rfl
                  have c8 := MB.out.c 8 _ rfl
                  have c9 := MB.out.c 9 _ rfl
                  have c10 := MB.out.c 10 _ rfl
                  have c11 := MB.out.c 11 _ rfl
                  have c12 := MB.out.c 12 _ rfl
                  try simp only at c0 c1 c2 c3 c4 c5 c6 c7 c8 c9 c10 c11 c12
                  have o17 := OB.out.c 17 _ rfl
                  try simp only at o17
                  go_wp2_with fail
                  clear c0 c1 c2 c3 c4 c5 c6 c7 c8 c9 c10 c11 c12
                  clear o17
                  have H := took_any GG.out.G MOK.out (p := p3) (n := M1.length) (cap := c3) oclk ppm HCK.out POK.out
                  rw [TK.out.1, TK.out.2] at H
                  refine H.mono ?_
                  rintro e w5 ⟨rfl, x5⟩
                  replace U1 := Lib.hid (U1.out.ext x5)
                  replace GG := Lib.hid (GG.out.ext x5)
                  replace MB := Lib.hid (MB.out.ext x5)
                  replace OB := Lib.hid (OB.out.ext x5)
                  replace X := Lib.hid (X.out.tr x5)
                  clear H x5
                  go_upto_region 18 with fail
                  replace U1 := Lib.hid (U1.out.ext (Ext.drew w5))
                  replace GG := Lib.hid (GG.out.ext (Ext.drew w5))
                  replace MB := Lib.hid (MB.out.ext (Ext.drew w5))
                  replace OB := Lib.hid (OB.out.ext (Ext.drew w5))
                  replace X := Lib.hid (X.out.tr (Ext.drew w5))
                  have r0 := fun (q : Wrap (Ext w5.drew)) => Ext.cell q.h (MB.out.c 0 _ rfl)
                  have r1 := fun (q : Wrap (Ext w5.drew)) => Ext.cell q.h (MB.out.c 1 _ rfl)
                  have r10 := fun (q : Wrap (Ext w5.drew)) => Ext.cell q.h (MB.out.c 10 _ rfl)
                  try simp only at r0 r1 r10
                  refine rg_start [0, 1, 2, 3, 4, 5, 6, 7, 8, 9, 10, 11, 12, 13, 14, 15, 16, 17, 18, 19, 20, 21, 22, 23, 24, 25, 26, 27] (Ext w5.drew) (by kernel_rfl) (by kernel_rfl) (fun _ _ d _ _ h => by cases d <;> exact h) (Ext.rfl' _) (fun _ => ?_)
                  repeat (first | (refine rg_quiet rfl (by rfl) (by rfl) (fun K hK => ?_); go_big_quiet_op; refine hK _ ?_; clear hK K) | (refine rg_skip rfl (by rfl) (fun K hK => ?_); go_big_quiet_op; refine hK _ ?_; clear hK K))
                  refine rg_nil ?_
                  clear r0 r1 r10
                  generalize w5.drew = w6 at *
                  go_wp2_with fail
                  go_meet
                  exact ⟨bs, bs, ps, GG.out, Or.inl ⟨K1.out, rfl⟩, POK.out, OB.out, X.out⟩
      case rest =>
        as_aux_lemma =>
          obtain ⟨bs', ba', ps', a1, a2, a3, a4, a5⟩ := hcut
          clear GG MB OB X U1 POK
          have GG := Lib.hid a1
          have POK := Lib.hid a3
          have OB := Lib.hid a4
          have X := Lib.hid a5
          clear a1 a3 a4 a5
          have o0 := OB.out.c 0 _ rfl
          try simp only at o0
          rcases a2 with ⟨hk1, rfl⟩ | ⟨rfl, h00⟩
          · have f1 : (okd == 1) = false := beq_eq_false_iff_ne.2 hk1
            have f2 : (okd != 1) = true := bne_iff_ne.2 hk1
            clear hk1
            go_wp2
            go_loopw [26] (fun i wr2 => ∃ j : Nat, j ≤ 9 ∧ i = .int .i64 (j : Int) ∧ wr2 = wc) (fun i _ => 9 - (intOf i).toNat)
            case atStart => exact ⟨0, by omega, rfl, rfl⟩
            case round =>
              obtain ⟨j, hj, rfl, rfl⟩ := hrel
              by_cases hj8 : (j : Int) ≤ 8
              · by_cases j1 : 1 ≤ (j : Int)
                · by_cases j7 : (j : Int) ≤ 7
                  · have cb := GG.out.B.c _ _ (tpL_at (bs := ba') (show j < 8 by omega))
                    go_wp2_with fail
                    refine (boot_any GG.out.G (j : Int)).mono ?_
                    rw [show (if isI (j : Int) = true then ba' (j : Int).toNat else 0) = ba' j by rw [if_pos (by unfold isI; simp; omega), show (j : Int).toNat = j by omega]]
                    rintro e w9 ⟨rfl, rfl⟩
                    go_wp2
                    go_roundw
                    case rel => exact ⟨j + 1, by omega, by go_num, trivial⟩
                    case measure => simp [intOf]; omega
                  · go_wp2_with fail
                    refine (boot_any GG.out.G (j : Int)).mono ?_
                    rw [show (if isI (j : Int) = true then ba' (j : Int).toNat else 0) = 0 by rw [if_neg (by unfold isI; simp; omega)]]
                    rintro e w9 ⟨rfl, rfl⟩
                    go_wp2
                    go_roundw
                    case rel => exact ⟨j + 1, by omega, by go_num, trivial⟩
                    case measure => simp [intOf]; omega
                · go_wp2_with fail
                  refine (boot_any GG.out.G (j : Int)).mono ?_
                  rw [show (if isI (j : Int) = true then ba' (j : Int).toNat else 0) = 0 by rw [if_neg (by unfold isI; simp; omega)]]
                  rintro e w9 ⟨rfl, rfl⟩
                  go_wp2
                  go_roundw
                  case rel => exact ⟨j + 1, by omega, by go_num, trivial⟩
                  case measure => simp [intOf]; omega
              · go_wp2
                go_roundw
                case rel => exact ⟨k + 1, ba', ps', by omega, by omega, by go_num, GG.out, POK.out, X.out⟩
                case measure => simp [intOf]; omega
          · go_wp2
            go_loopw [26] (fun i wr2 => ∃ j : Nat, j ≤ 9 ∧ i = .int .i64 (j : Int) ∧ wr2 = wc) (fun i _ => 9 - (intOf i).toNat)
            case atStart => exact ⟨0, by omega, rfl, rfl⟩
            case round =>
              obtain ⟨j, hj, rfl, rfl⟩ := hrel
              by_cases hj8 : (j : Int) ≤ 8
              · by_cases j1 : 1 ≤ (j : Int)
                · by_cases j7 : (j : Int) ≤ 7
                  · have cb := GG.out.B.c _ _ (tpL_at (bs := ba') (show j < 8 by omega))
                    go_wp2
                    go_roundw
                    case rel => exact ⟨j + 1, by omega, by go_num, trivial⟩
                    case measure => simp [intOf]; omega
                  · go_wp2
                    go_roundw
                    case rel => exact ⟨j + 1, by omega, by go_num, trivial⟩
                    case measure => simp [intOf]; omega
                · go_wp2
                  go_roundw
                  case rel => exact ⟨j + 1, by omega, by go_num, trivial⟩
                  case measure => simp [intOf]; omega
              · go_wp2
                have H00 := Lib.hid h00
                clear h00
                go_loopw [28] (fun i wr3 => ∃ (q : Nat) (ba2 : Nat → Int), 1 ≤ q ∧ q ≤ 8 ∧ i = .int .i64 (q : Int) ∧ GA w.heap.size wr3 g gb gn ga gs me bs' ba2 ps' ∧ (∀ i, i < q → ba2 i = bs' i) ∧ Ext w wr3) (fun i _ => 8 - (intOf i).toNat)
                case atStart => exact ⟨1, ba', by omega, by omega, rfl, GG.out, (fun i hi => by rw [show i = 0 by omega]; exact H00.out), X.out⟩
                case round =>
                  obtain ⟨q, ba2, hq1, hq8, rfl, b1, b2, b3⟩ := hrel
                  clear GG X
                  have GG := Lib.hid b1
                  have BQ := Lib.hid b2
                  have X := Lib.hid b3
                  clear b1 b2 b3
                  by_cases hq7 : (q : Int) ≤ 7
                  · have hq : q < 8 := by omega
                    go_wp2_with fail
                    refine (boot_any GG.out.G (q : Int)).mono ?_
                    rw [show (if isI (q : Int) = true then bs' (q : Int).toNat else 0) = bs' q by rw [if_pos (by unfold isI; simp; omega), show (q : Int).toNat = q by omega]]
                    rintro e w9 ⟨rfl, rfl⟩
                    have cb := GG.out.B.c _ _ (tpL_at (bs := ba2) hq)
                    have cf := GG.out.B.f
                    have LT := GG.out.lt
                    go_wp2
                    go_roundw
                    case rel => exact ⟨q + 1, updF ba2 q (bs' q), by omega, by omega, by go_num, GG.out.putB (bs' q) hq, (fun i hi => by
                      by_cases hiq : i = q
                      · subst hiq; exact updF_same _ _ _
                      · rw [updF_other _ _ _ _ hiq]; exact BQ.out i (by omega)), X.out.setCell (Nat.le_trans SZ.out (Nat.le_of_lt LT.1)) _⟩
                    case measure => simp [intOf]; omega
                  · obtain rfl : q = 8 := by omega
                    have eB : tpL ba2 = tpL bs' := by
                      have z := BQ.out
                      simp only [tpL, z 0 (by omega), z 1 (by omega), z 2 (by omega), z 3 (by omega), z 4 (by omega), z 5 (by omega), z 6 (by omega), z 7 (by omega)]
                    have GZ : Hid (GA w.heap.size _ g gb gn ga gs me bs' bs' ps') := Lib.hid ⟨GG.out.G, by rw [← eB]; exact GG.out.B, GG.out.N, GG.out.A, GG.out.S, GG.out.lt⟩
                    clear eB
                    go_wp2
                    go_roundw
                    case rel => exact ⟨k + 1, bs', ps', by omega, by omega, by go_num, GZ.out, POK.out, X.out⟩
                    case measure => simp [intOf]; omega
    · rcases hout with ⟨hlt, hlz⟩ | hlt
      all_goals
        go_wp2
        go_ret
        exact ⟨rfl, X.out⟩
end Go.Proofs.Ytbhgbkbdojhofaa
