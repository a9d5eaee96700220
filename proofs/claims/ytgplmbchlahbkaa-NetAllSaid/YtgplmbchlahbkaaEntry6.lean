/-
  The contract of entry.one: at any bytes. Conditions stand at it.
-/
import Derived.Test.YtgplmbchlahbkaaEntry4
namespace Go.Proofs.Ytgplmbchlahbkaa
open Go Go.Sort Go.RowKit
set_option linter.unusedVariables false

/-- Six numbers in the block g. -/
def Six (w : World) (g : Nat) (f : Nat → Int) : Prop := ∀ j, j < 6 → w.cell? ⟨g, j, none⟩ = some (.int .i64 (f j)) ∧ w.frozen? ⟨g, j, none⟩ = false
theorem Six.ext {w w' : World} {g : Nat} {f : Nat → Int} (h : Six w g f) (k : Ext w w') : Six w' g f := fun j hj => by
  obtain ⟨h1, h2⟩ := h j hj
  exact ⟨Ext.cell k h1, by rw [Below.frozen k (World.block_lt_of_cell? w _ h1)]; exact h2⟩
theorem Six.put {w : World} {g : Nat} {f : Nat → Int} (h : Six w g f) (k : Nat) (hk : k < 6) (v : Int) : Six (w.setCell ⟨g, k, none⟩ (.int .i64 v)) g (fun j => if j = k then v else f j) := fun j hj => by
  obtain ⟨h1, h2⟩ := h j hj
  refine ⟨?_, by simp [h2]⟩
  by_cases e : j = k
  · subst e
    simp only [if_true]
    exact World.cell?_setCell_same (h := h1) ..
  · simp only [if_neg e]
    rw [World.cell?_setCell_other (h := by simp [*])]
    exact h1
theorem Six.new (w : World) (g : Nat) (t : TypeId) (hg : g = w.heap.size) : Six (w.alloc (.cells #[.int .i64 0, .int .i64 0, .int .i64 0, .int .i64 0, .int .i64 0, .int .i64 0] t)) g (fun j => ([] : List Int).getD j 0) := by
  subst hg
  intro j hj
  refine ⟨?_, World.frozen?_alloc_at _ _ _ _ rfl⟩
  rw [World.cell?_alloc_mark]
  match j, hj with
  | 0, _ => rfl
  | 1, _ => rfl
  | 2, _ => rfl
  | 3, _ => rfl
  | 4, _ => rfl
  | 5, _ => rfl
/-- A struct of an entry, the call's own, in the block g. -/
structure EnOwn (w : World) (g : Nat) (e : EnD) : Prop where
  box : EnBox w g e
  f : ∀ j, w.frozen? ⟨g, j, none⟩ = false
theorem EnOwn.ext {w w' : World} {g : Nat} {e : EnD} (h : EnOwn w g e) (k : Ext w w') : EnOwn w' g e := ⟨h.box.ext k, fun j => by rw [Below.frozen k (p := ⟨g, j, none⟩) (World.block_lt_of_cell? w ⟨g, 0, none⟩ h.box.c0)]; exact h.f j⟩
theorem EnOwn.new (w : World) (e : EnD) (t : TypeId) (g : Nat) (hg : g = w.heap.size) : EnOwn (w.alloc (.cells (enA e) t)) g e := by
  subst hg
  exact ⟨EnBox.new w e t, fun j => World.frozen?_alloc_at _ _ _ _ rfl⟩
theorem EnOwn.other {w : World} {g g' k : Nat} {e : EnD} {v : Value} (h : EnOwn w g e) (hne : g ≠ g') : EnOwn (w.setCell ⟨g', k, none⟩ v) g e := by
  have hc : ∀ j, (w.setCell ⟨g', k, none⟩ v).cell? ⟨g, j, none⟩ = w.cell? ⟨g, j, none⟩ := fun j => World.cell?_setCell_other (h := by simp [*]) ..
  refine ⟨⟨(hc 0).trans h.box.c0, (hc 1).trans h.box.c1, (hc 2).trans h.box.c2, (hc 3).trans h.box.c3, (hc 4).trans h.box.c4, (hc 5).trans h.box.c5, (hc 6).trans h.box.c6⟩, fun j => by simp [h.f j]⟩
/-- A struct of an entry is stored, field by field. -/
def fillE (w : World) (g : Nat) (e : EnD) : World := ((((((w.setCell ⟨g, 0, none⟩ (.int .i64 e.fr)).setCell ⟨g, 1, none⟩ (.int .i64 e.bt)).setCell ⟨g, 2, none⟩ (.int .i64 e.sq)).setCell ⟨g, 3, none⟩ (.int .i64 e.od)).setCell ⟨g, 4, none⟩ (.int .i64 e.lv)).setCell ⟨g, 5, none⟩ (.int .i64 e.st)).setCell ⟨g, 6, none⟩ (.string e.da)
theorem cell_same {w : World} {g j : Nat} {u v : Value} (h : w.cell? ⟨g, j, none⟩ = some u) : (w.setCell ⟨g, j, none⟩ v).cell? ⟨g, j, none⟩ = some v := World.cell?_setCell_same (h := h) ..
theorem cell_diff {w : World} {g j k : Nat} {v : Value} (h : j ≠ k) : (w.setCell ⟨g, k, none⟩ v).cell? ⟨g, j, none⟩ = w.cell? ⟨g, j, none⟩ := World.cell?_setCell_other (h := by simp [*]) ..
theorem EnOwn.fill {w : World} {g : Nat} {e0 : EnD} (h : EnOwn w g e0) (e : EnD) : EnBox (fillE w g e) g e := by
  obtain ⟨⟨b0, b1, b2, b3, b4, b5, b6⟩, -⟩ := h
  unfold fillE
  constructor
  · rw [cell_diff (by omega), cell_diff (by omega), cell_diff (by omega), cell_diff (by omega), cell_diff (by omega), cell_diff (by omega)]
    exact cell_same b0
  · rw [cell_diff (by omega), cell_diff (by omega), cell_diff (by omega), cell_diff (by omega), cell_diff (by omega)]
    exact cell_same (by rw [cell_diff (by omega)]; exact b1)
  · rw [cell_diff (by omega), cell_diff (by omega), cell_diff (by omega), cell_diff (by omega)]
    exact cell_same (by rw [cell_diff (by omega), cell_diff (by omega)]; exact b2)
  · rw [cell_diff (by omega), cell_diff (by omega), cell_diff (by omega)]
    exact cell_same (by rw [cell_diff (by omega), cell_diff (by omega), cell_diff (by omega)]; exact b3)
  · rw [cell_diff (by omega), cell_diff (by omega)]
    exact cell_same (by rw [cell_diff (by omega), cell_diff (by omega), cell_diff (by omega), cell_diff (by omega)]; exact b4)
  · rw [cell_diff (by omega)]
    exact cell_same (by rw [cell_diff (by omega), cell_diff (by omega), cell_diff (by omega), cell_diff (by omega), cell_diff (by omega)]; exact b5)
  · exact cell_same (by rw [cell_diff (by omega), cell_diff (by omega), cell_diff (by omega), cell_diff (by omega), cell_diff (by omega), cell_diff (by omega)]; exact b6)
theorem fill_below {base : Nat} {w0 w : World} {g : Nat} (h : Below base w0 w) (hg : base ≤ g) (e : EnD) : Below base w0 (fillE w g e) :=
  ((((((h.setCell hg _).setCell hg _).setCell hg _).setCell hg _).setCell hg _).setCell hg _).setCell hg _
def zeroE : EnD := ⟨0, 0, 0, 0, 0, 0, ByteArray.empty⟩
def oneE (b : List UInt8) : EnD := match oneL b with
  | some (e, _) => e
  | none => zeroE
def oneN (b : List UInt8) : Nat := match oneL b with
  | some (_, k) => k
  | none => 0

set_option maxRecDepth 8000 in
set_option maxHeartbeats 8000000 in
theorem one_any {w : World} {p : Option Addr} {n cap : Nat} {l : List UInt8} (h : SlP w p n cap l) (hn : n ≤ 70368744177664) :
    Calls Try.prog 67 #[.slice p n cap] w fun e w' => e = .returned (.tuple #[enV (oneE l), .int .i64 (oneN l : Int)]) ∧ Ext w w' := by
  have hcap := h.le
  have hmax := h.max
  have H := Lib.hid h
  have HL := Lib.hid h.len
  clear h
  obtain ⟨E, hE⟩ : ∃ E, E = oneE l := ⟨_, rfl⟩
  obtain ⟨K, hK⟩ : ∃ K, K = oneN l := ⟨_, rfl⟩
  rw [← hE, ← hK]
  have HE := Lib.hid hE
  have HK := Lib.hid hK
  clear hE hK
  go_enter Try.func67, Try.ntmps67
  go_wp2
  have X0 : Hid (Ext w ((w.alloc (.cells (enA zeroE) 54)).alloc (.cells #[.int .i64 0, .int .i64 0, .int .i64 0, .int .i64 0, .int .i64 0, .int .i64 0] 94))) := Lib.hid ((Ext.alloc w _).tr (Ext.alloc _ _))
  have T0 : Hid (EnOwn ((w.alloc (.cells (enA zeroE) 54)).alloc (.cells #[.int .i64 0, .int .i64 0, .int .i64 0, .int .i64 0, .int .i64 0, .int .i64 0] 94)) w.heap.size zeroE) := Lib.hid ((EnOwn.new w zeroE 54 _ rfl).ext (Ext.alloc _ _))
  have S0 : Hid (Six ((w.alloc (.cells (enA zeroE) 54)).alloc (.cells #[.int .i64 0, .int .i64 0, .int .i64 0, .int .i64 0, .int .i64 0, .int .i64 0] 94)) (w.heap.size + 1) (fun j => ([] : List Int).getD j 0)) := Lib.hid (Six.new (w.alloc (.cells (enA zeroE) 54)) (w.heap.size + 1) _ (by simp))
  go_loopw [5, 13] (fun ati i wr => ∃ (k x : Nat) (zs : List Int), k ≤ 6 ∧ i = .int .i64 (k : Int) ∧ ati = .int .i64 (x : Int) ∧ parseN l k = some (zs, x) ∧ Six wr (w.heap.size + 1) (fun j => zs.getD j 0) ∧ EnOwn wr w.heap.size zeroE ∧ Below w.heap.size w wr) (fun _ i _ => 6 - (intOf i).toNat)
  case atStart => exact ⟨0, 0, [], by omega, rfl, rfl, rfl, S0.out, T0.out, X0.out⟩
  case round =>
    clear X0 T0 S0
    obtain ⟨k, x, zs, hk, rfl, rfl, hp, s1, t1, x1⟩ := hrel
    obtain ⟨hzl, hzi, -, hxl⟩ := parseN_in hp
    rw [HL.out] at hxl
    have P := Lib.hid hp
    have S := Lib.hid s1
    have T := Lib.hid t1
    have X := Lib.hid x1
    have ZI := Lib.hid hzi
    have ZL := Lib.hid hzl
    clear hp s1 t1 x1 hzi hzl
    have D := Lib.hid ((H.out.ext X.out).drop x hxl)
    have cf := fun w => run_cut_from (P := Try.prog) 35 5 Try.underlying35 sz5 p n cap x hxl w
    by_cases hlt : k < 6
    · obtain ⟨v, hv⟩ : ∃ v, v = (getL (l.drop x)).1 := ⟨_, rfl⟩
      obtain ⟨c, hc⟩ : ∃ c, c = (getL (l.drop x)).2.1 := ⟨_, rfl⟩
      obtain ⟨r, hr⟩ : ∃ r, r = (getL (l.drop x)).2.2 := ⟨_, rfl⟩
      have GI := getL_in (l.drop x)
      rw [← hv, ← hc, ← hr, List.length_drop, HL.out] at GI
      have HV := Lib.hid hv
      have HC := Lib.hid hc
      have HR := Lib.hid hr
      clear hv hc hr
      by_cases hr0 : r = 0
      · subst hr0
        have hcx : c ≤ n - x := by omega
        have hc10 : c ≤ 10 := by omega
        clear GI
        have P2 : Hid (parseN l (k + 1) = some (zs ++ [v], x + c)) := Lib.hid (by
          rw [parseN, P.out]
          simp only
          rw [if_pos HR.out.symm, ← HV.out, ← HC.out])
        obtain ⟨q1, q2⟩ := S.out k hlt
        go_wp2_with fail
        refine (get_any D.out (by omega)).mono ?_
        rw [← HV.out, ← HC.out, ← HR.out]
        rintro e w2 ⟨rfl, rfl⟩
        go_wp2
        go_roundw
        case rel =>
          refine ⟨k + 1, x + c, zs ++ [v], by omega, by go_num, by go_num, P2.out, ?_, T.out.other (by omega), X.out.setCell (by simp) _⟩
          have e : (fun j => (zs ++ [v]).getD j 0) = (fun j => if j = k then v else zs.getD j 0) := by
            funext j
            have hl := ZL.out
            rcases Nat.lt_or_ge j k with h1 | h1
            · rw [if_neg (by omega), List.getD_eq_getElem?_getD, List.getD_eq_getElem?_getD, List.getElem?_append_left (by omega)]
            · by_cases h2 : j = k
              · subst h2
                rw [if_pos rfl, List.getD_eq_getElem?_getD, List.getElem?_append_right (by omega), hl, Nat.sub_self]
                rfl
              · rw [if_neg h2, List.getD_eq_getElem?_getD, List.getD_eq_getElem?_getD, List.getElem?_eq_none (by simp; omega), List.getElem?_eq_none (by omega)]
          rw [e]
          exact S.out.put k hlt v
        case measure => simp [intOf]; omega
      · have h1 : (r != 0) = true := bne_iff_ne.2 hr0
        have h2 : (r == 0) = false := beq_eq_false_iff_ne.2 hr0
        have hno : oneL l = none := oneL_no (k := k + 1) (by omega) (by
          rw [parseN, P.out]
          simp only
          rw [if_neg (by rw [← HR.out]; exact hr0)])
        have hE2 : E = zeroE := by rw [HE.out]; unfold oneE; rw [hno]
        have hK2 : K = 0 := by rw [HK.out]; unfold oneN; rw [hno]
        subst hE2 hK2
        clear hr0 hno GI
        obtain ⟨⟨b0, b1, b2, b3, b4, b5, b6⟩, bf⟩ := T.out
        go_wp2_with fail
        refine (get_any D.out (by omega)).mono ?_
        rw [← HV.out, ← HC.out, ← HR.out]
        rintro e w2 ⟨rfl, rfl⟩
        go_wp2
        obtain ⟨w9, hw9⟩ : ∃ w9, w9 = fillE wr w.heap.size zeroE := ⟨_, rfl⟩
        change bodyPost _ _ _ Exit.ret _ (fillE wr w.heap.size zeroE)
        have FB := T.out.fill zeroE
        have FX := Lib.hid (fill_below X.out (Nat.le_refl _) zeroE)
        rw [← hw9] at FB FX ⊢
        obtain ⟨f0, f1, f2, f3, f4, f5, f6⟩ := FB
        simp only [zeroE] at f0 f1 f2 f3 f4 f5 f6
        exact bodyPost_ret (v := .tuple #[enV zeroE, .int .i64 0]) (by simp [results, Try.results67, go_sem, f0, f1, f2, f3, f4, f5, f6, zeroE]) rfl ⟨rfl, FX.out⟩
    · have hk6 : k = 6 := by omega
      subst hk6
      obtain ⟨z1, z2, z3, z4, z5, z6, rfl⟩ : ∃ z1 z2 z3 z4 z5 z6, zs = [z1, z2, z3, z4, z5, z6] := by
        have hl := ZL.out
        match zs, hl with
        | [a, b, c, d, e, f], _ => exact ⟨a, b, c, d, e, f, rfl⟩
      obtain ⟨c0, -⟩ := S.out 0 (by omega)
      obtain ⟨c1, -⟩ := S.out 1 (by omega)
      obtain ⟨c2, -⟩ := S.out 2 (by omega)
      obtain ⟨c3, -⟩ := S.out 3 (by omega)
      obtain ⟨c4, -⟩ := S.out 4 (by omega)
      obtain ⟨c5, -⟩ := S.out 5 (by omega)
      change wr.cell? _ = some (.int .i64 z1) at c0
      change wr.cell? _ = some (.int .i64 z2) at c1
      change wr.cell? _ = some (.int .i64 z3) at c2
      change wr.cell? _ = some (.int .i64 z4) at c3
      change wr.cell? _ = some (.int .i64 z5) at c4
      change wr.cell? _ = some (.int .i64 z6) at c5
      obtain ⟨⟨b0, b1, b2, b3, b4, b5, b6⟩, bf⟩ := T.out
      obtain ⟨s, hs⟩ : ∃ s, s = (textL (l.drop x)).1 := ⟨_, rfl⟩
      obtain ⟨c, hc⟩ : ∃ c, c = (textL (l.drop x)).2.1 := ⟨_, rfl⟩
      obtain ⟨r, hr⟩ : ∃ r, r = (textL (l.drop x)).2.2 := ⟨_, rfl⟩
      have HS := Lib.hid hs
      have HC := Lib.hid hc
      have HR := Lib.hid hr
      by_cases hr0 : r = 0
      · have TI := (text_in (l.drop x) (hr.symm.trans hr0)).1
        rw [← hc, List.length_drop, HL.out] at TI
        subst hr0
        clear hs hc hr
        have hyes : oneL l = some (⟨z1, z2, z3, z4, z5, z6, ⟨s.toArray⟩⟩, x + c) := oneL_parse P.out (by rw [HS.out, HC.out]; exact Prod.ext rfl (Prod.ext rfl HR.out.symm))
        have hE2 : E = ⟨z1, z2, z3, z4, z5, z6, ⟨s.toArray⟩⟩ := by rw [HE.out]; unfold oneE; rw [hyes]
        have hK2 : K = x + c := by rw [HK.out]; unfold oneN; rw [hyes]
        subst hE2 hK2
        clear hyes
        go_wp2_with fail
        refine (gettext_any D.out (by omega)).mono ?_
        rw [← HS.out, ← HC.out, ← HR.out]
        rintro e w2 ⟨rfl, rfl⟩
        go_wp2
        obtain ⟨w9, hw9⟩ : ∃ w9, w9 = fillE wr w.heap.size (⟨z1, z2, z3, z4, z5, z6, ⟨s.toArray⟩⟩ : EnD) := ⟨_, rfl⟩
        change bodyPost _ _ _ Exit.ret _ (fillE wr w.heap.size (⟨z1, z2, z3, z4, z5, z6, ⟨s.toArray⟩⟩ : EnD))
        have FB := T.out.fill (⟨z1, z2, z3, z4, z5, z6, ⟨s.toArray⟩⟩ : EnD)
        have FX := Lib.hid (fill_below X.out (Nat.le_refl _) (⟨z1, z2, z3, z4, z5, z6, ⟨s.toArray⟩⟩ : EnD))
        rw [← hw9] at FB FX ⊢
        obtain ⟨f0, f1, f2, f3, f4, f5, f6⟩ := FB
        simp only at f0 f1 f2 f3 f4 f5 f6
        exact bodyPost_ret (v := .tuple #[enV (⟨z1, z2, z3, z4, z5, z6, ⟨s.toArray⟩⟩ : EnD), .int .i64 ((x + c : Nat) : Int)]) (by simp [results, Try.results67, go_sem, f0, f1, f2, f3, f4, f5, f6]) rfl ⟨rfl, FX.out⟩
      · have h1 : (r != 0) = true := bne_iff_ne.2 hr0
        have h2 : (r == 0) = false := beq_eq_false_iff_ne.2 hr0
        clear hs hc hr
        have hno : oneL l = none := oneL_not P.out (by rw [← HR.out]; exact hr0)
        have hE2 : E = zeroE := by rw [HE.out]; unfold oneE; rw [hno]
        have hK2 : K = 0 := by rw [HK.out]; unfold oneN; rw [hno]
        subst hE2 hK2
        clear hr0 hno
        go_wp2_with fail
        refine (gettext_any D.out (by omega)).mono ?_
        rw [← HS.out, ← HC.out, ← HR.out]
        rintro e w2 ⟨rfl, rfl⟩
        go_wp2
        obtain ⟨w9, hw9⟩ : ∃ w9, w9 = fillE wr w.heap.size zeroE := ⟨_, rfl⟩
        change bodyPost _ _ _ Exit.ret _ (fillE wr w.heap.size zeroE)
        have FB := T.out.fill zeroE
        have FX := Lib.hid (fill_below X.out (Nat.le_refl _) zeroE)
        rw [← hw9] at FB FX ⊢
        obtain ⟨f0, f1, f2, f3, f4, f5, f6⟩ := FB
        simp only [zeroE] at f0 f1 f2 f3 f4 f5 f6
        exact bodyPost_ret (v := .tuple #[enV zeroE, .int .i64 0]) (by simp [results, Try.results67, go_sem, f0, f1, f2, f3, f4, f5, f6, zeroE]) rfl ⟨rfl, FX.out⟩
end Go.Proofs.Ytgplmbchlahbkaa
