/-
  Contracts of the package entry's May, Same, Eq, of the reference's, and of the statements' Cut: at any entries. Conditions: those written at each.
-/
import Derived.Test.YtgplmbchlahbkaaNumText
import Derived.Test.YtgplmbchlahbkaaStructs2
namespace Go.Proofs.Ytgplmbchlahbkaa
open Go Go.Sort Go.RowKit
set_option linter.unusedVariables false

/-- A number of 64 bits. -/
def I64 (a : Int) : Prop := -9223372036854775808 ≤ a ∧ a ≤ 9223372036854775807
theorem i64_wf {x : Int} (h : I64 x) : (Lit.int .i64 x).wf = true := WalkArith.wf_i64 h
/-- An entry. -/
structure EnD where
  fr : Int
  bt : Int
  sq : Int
  od : Int
  lv : Int
  st : Int
  da : ByteArray
def EnOk (e : EnD) : Prop := I64 e.fr ∧ I64 e.bt ∧ I64 e.sq ∧ I64 e.od ∧ I64 e.lv ∧ I64 e.st ∧ e.da.size ≤ 9223372036854775807
def enL (e : EnD) : List Value := [.int .i64 e.fr, .int .i64 e.bt, .int .i64 e.sq, .int .i64 e.od, .int .i64 e.lv, .int .i64 e.st, .string e.da]
abbrev enA (e : EnD) : Array Value := #[.int .i64 e.fr, .int .i64 e.bt, .int .i64 e.sq, .int .i64 e.od, .int .i64 e.lv, .int .i64 e.st, .string e.da]
abbrev enV (e : EnD) : Value := .agg (enA e)
def inB (a b x : Int) : Bool := decide (a ≤ x) && decide (x ≤ b)
def mayB (e : EnD) : Bool := inB 1 7 e.fr && (inB 1 1099511627776 e.bt && (inB 1 1099511627776 e.sq && (inB 0 2 e.od && (inB 0 2 e.lv && (inB 0 1099511627776 e.st && decide (e.da.size ≤ 16))))))
def sameB (a b : EnD) : Bool := decide (a.fr = b.fr) && (decide (a.bt = b.bt) && decide (a.sq = b.sq))
def eqB (a b : EnD) : Bool := sameB a b && (decide (a.od = b.od) && (decide (a.lv = b.lv) && (decide (a.st = b.st) && decide (a.da = b.da))))

set_option maxHeartbeats 400000 in
/-- entry.in -/
theorem in_any {p : Option Addr} {n cap : Nat} {zs : List Int} {w : World} (a b : Int) (h : SlI .i64 w p n cap zs) :
    Calls Try.prog 61 #[.int .i64 a, .int .i64 b, .slice p n cap] w fun e w' => e = .returned (.bool (zs.all (inB a b))) ∧ w = w' := by
  have hn : n ≤ 9223372036854775807 := Nat.le_trans h.le h.max
  have H := Lib.hid h
  clear h
  go_enter Try.func61, Try.ntmps61
  go_wp2
  go_loop [11] (fun i => ∃ k : Nat, k ≤ n ∧ (zs.take k).all (inB a b) = true ∧ i = .int .i64 k) (fun i => n - (intOf i).toNat)
  case atStart => exact ⟨0, by omega, rfl, rfl⟩
  case round =>
    obtain ⟨k, hk, ha, rfl⟩ := hrel
    have HA := Lib.hid ha
    clear ha
    by_cases hlt : k < n
    · obtain ⟨bb, o, x, rfl, hx, hcell, hwf⟩ := H.out.at k hlt
      have HX := Lib.hid hx
      clear hx hwf
      cases ht : inB a b x
      · have hall : zs.all (inB a b) = false := by
          rw [List.all_eq_false]
          exact ⟨x, List.mem_of_getElem? HX.out, by rw [ht]; decide⟩
        have HB := Lib.hid hall
        have hT : x < a ∨ b < x := by
          have : ¬ (inB a b x = true) := by rw [ht]; decide
          simp only [inB, Bool.and_eq_true, decide_eq_true_eq] at this
          omega
        clear hall ht
        by_cases hT2 : x < a
        · go_wp2
          go_ret
          exact ⟨by rw [HB.out]; rfl, rfl⟩
        · have hT3 : b < x := by omega
          go_wp2
          go_ret
          exact ⟨by rw [HB.out]; rfl, rfl⟩
      · have hall : (zs.take (k + 1)).all (inB a b) = true := by
          rw [List.take_add_one, HX.out, List.all_append, HA.out]
          simp [ht]
        have HL := Lib.hid hall
        have hT : a ≤ x ∧ x ≤ b := by simpa [inB] using ht
        obtain ⟨t1, t2⟩ := hT
        have t3 : ¬ x < a := by omega
        have t4 : ¬ b < x := by omega
        clear hall ht
        go_wp2
        go_round
        case rel => exact ⟨k + 1, by omega, HL.out, by go_num⟩
        case measure => simp [intOf]; omega
    · have e : zs.take k = zs := List.take_of_length_le (by rw [H.out.len]; omega)
      rw [e] at HA
      clear e
      go_wp2
      go_ret
      exact ⟨by rw [HA.out]; rfl, rfl⟩

theorem in_ext {p : Option Addr} {n cap : Nat} {zs : List Int} {w : World} (a b : Int) (h : SlI .i64 w p n cap zs) :
    Calls Try.prog 61 #[.int .i64 a, .int .i64 b, .slice p n cap] w fun e w' => e = .returned (.bool (zs.all (inB a b))) ∧ Ext w w' :=
  (in_any a b h).mono fun e w' ⟨h1, h2⟩ => ⟨h1, by rw [h2]; exact Ext.rfl' _⟩
/-- A struct of an entry lies in the block g. -/
structure EnBox (w : World) (g : Nat) (e : EnD) : Prop where
  c0 : w.cell? ⟨g, 0, none⟩ = some (.int .i64 e.fr)
  c1 : w.cell? ⟨g, 1, none⟩ = some (.int .i64 e.bt)
  c2 : w.cell? ⟨g, 2, none⟩ = some (.int .i64 e.sq)
  c3 : w.cell? ⟨g, 3, none⟩ = some (.int .i64 e.od)
  c4 : w.cell? ⟨g, 4, none⟩ = some (.int .i64 e.lv)
  c5 : w.cell? ⟨g, 5, none⟩ = some (.int .i64 e.st)
  c6 : w.cell? ⟨g, 6, none⟩ = some (.string e.da)
theorem EnBox.ext {w w' : World} {g : Nat} {e : EnD} (h : EnBox w g e) (k : Ext w w') : EnBox w' g e :=
  ⟨Ext.cell k h.c0, Ext.cell k h.c1, Ext.cell k h.c2, Ext.cell k h.c3, Ext.cell k h.c4, Ext.cell k h.c5, Ext.cell k h.c6⟩
theorem EnBox.new (w : World) (e : EnD) (t : TypeId) : EnBox (w.alloc (.cells (enA e) t)) w.heap.size e :=
  ⟨World.cell?_alloc_mark .., World.cell?_alloc_mark .., World.cell?_alloc_mark .., World.cell?_alloc_mark .., World.cell?_alloc_mark .., World.cell?_alloc_mark .., World.cell?_alloc_mark ..⟩
theorem SlI.lit' (e : TypeId) (w : World) (g n : Nat) (cur : Array Value) (zs : List Int) (hg : g = w.heap.size) (hl : zs.length = n) (hcur : cur.toList = zs.map (Value.int .i64)) (hn : n ≤ 1000) (hw : ∀ x ∈ zs, I64 x) :
    SlI .i64 (w.alloc (.cells cur e)) (some ⟨g, 0, none⟩) n n zs := by
  subst hg
  exact SlI.lit .i64 e w n cur (0, 0) zs hl hcur (by omega) (fun x hx => i64_wf (hw x hx))

set_option maxRecDepth 8000 in
set_option maxHeartbeats 4000000 in
/-- entry.May -/
theorem may_any {e : EnD} {w : World} (he : EnOk e) : Calls Try.prog 45 #[enV e] w fun x w' => x = .returned (.bool (mayB e)) ∧ Ext w w' := by
  obtain ⟨f1, f2, f3, f4, f5, f6, dat⟩ := e
  obtain ⟨i1, i2, i3, i4, i5, i6, i7⟩ := he
  simp only at i1 i2 i3 i4 i5 i6 i7
  obtain ⟨B, hB⟩ : ∃ B, B = mayB ⟨f1, f2, f3, f4, f5, f6, dat⟩ := ⟨_, rfl⟩
  rw [← hB]
  have W1 : Hid (∀ x ∈ [f1], I64 x) := Lib.hid (by simpa using i1)
  have W2 : Hid (∀ x ∈ [f2, f3], I64 x) := Lib.hid (by simp; exact ⟨i2, i3⟩)
  have W3 : Hid (∀ x ∈ [f4, f5], I64 x) := Lib.hid (by simp; exact ⟨i4, i5⟩)
  have W4 : Hid (∀ x ∈ [f6], I64 x) := Lib.hid (by simpa using i6)
  have hB2 : B = ([f1].all (inB 1 7) && ([f2, f3].all (inB 1 1099511627776) && ([f4, f5].all (inB 0 2) && ([f6].all (inB 0 1099511627776) && decide (dat.size ≤ 16))))) := by
    rw [hB]
    simp [mayB, Bool.and_assoc]
  clear hB i1 i2 i3 i4 i5 i6
  have X1 := Lib.hid (Ext.alloc w (.cells (enA ⟨f1, f2, f3, f4, f5, f6, dat⟩) 54))
  have D1 := Lib.hid (EnBox.new w ⟨f1, f2, f3, f4, f5, f6, dat⟩ 54)
  cases g1 : [f1].all (inB 1 7)
  · rw [g1] at hB2
    simp only [Bool.false_and] at hB2
    subst hB2
    have G1 := Lib.hid g1
    clear g1
    go_enter Try.func45, Try.ntmps45
    go_wp2_with fail
    refine (in_ext 1 7 (SlI.lit' 2 _ _ 1 #[.int .i64 f1] [f1] (by simp) rfl rfl (by omega) W1.out)).mono ?_
    rw [G1.out]
    rintro x w2 ⟨rfl, x2⟩
    have X2 := Lib.hid (X1.out.tr ((Ext.alloc _ (.cells #[.int .i64 f1] 2)).tr x2))
    have D2 := Lib.hid (D1.out.ext ((Ext.alloc _ (.cells #[.int .i64 f1] 2)).tr x2))
    clear x2
    obtain ⟨c0, c1, c2, c3, c4, c5, c6⟩ := D2.out
    simp only at c0 c1 c2 c3 c4 c5 c6
    go_wp2
    go_ret
    exact ⟨rfl, X2.out⟩
  rw [g1] at hB2
  have G1 := Lib.hid g1
  clear g1
  cases g2 : [f2, f3].all (inB 1 1099511627776)
  · rw [g2] at hB2
    simp only [Bool.true_and, Bool.false_and] at hB2
    subst hB2
    have G2 := Lib.hid g2
    clear g2
    go_enter Try.func45, Try.ntmps45
    go_wp2_with fail
    refine (in_ext 1 7 (SlI.lit' 2 _ _ 1 #[.int .i64 f1] [f1] (by simp) rfl rfl (by omega) W1.out)).mono ?_
    rw [G1.out]
    rintro x w2 ⟨rfl, x2⟩
    have X2 := Lib.hid (X1.out.tr ((Ext.alloc _ (.cells #[.int .i64 f1] 2)).tr x2))
    have D2 := Lib.hid (D1.out.ext ((Ext.alloc _ (.cells #[.int .i64 f1] 2)).tr x2))
    clear x2
    obtain ⟨c0, c1, c2, c3, c4, c5, c6⟩ := D2.out
    simp only at c0 c1 c2 c3 c4 c5 c6
    go_wp2_with fail
    clear c0 c1 c2 c3 c4 c5 c6
    refine (in_ext 1 1099511627776 (SlI.lit' 2 _ _ 2 #[.int .i64 f2, .int .i64 f3] [f2, f3] (by simp) rfl rfl (by omega) W2.out)).mono ?_
    rw [G2.out]
    rintro x w3 ⟨rfl, x2⟩
    have X3 := Lib.hid (X2.out.tr ((Ext.alloc _ (.cells #[.int .i64 f2, .int .i64 f3] 2)).tr x2))
    have D3 := Lib.hid (D2.out.ext ((Ext.alloc _ (.cells #[.int .i64 f2, .int .i64 f3] 2)).tr x2))
    clear x2
    obtain ⟨c0, c1, c2, c3, c4, c5, c6⟩ := D3.out
    simp only at c0 c1 c2 c3 c4 c5 c6
    go_wp2
    go_ret
    exact ⟨rfl, X3.out⟩
  rw [g2] at hB2
  have G2 := Lib.hid g2
  clear g2
  cases g3 : [f4, f5].all (inB 0 2)
  · rw [g3] at hB2
    simp only [Bool.true_and, Bool.false_and] at hB2
    subst hB2
    have G3 := Lib.hid g3
    clear g3
    go_enter Try.func45, Try.ntmps45
    go_wp2_with fail
    refine (in_ext 1 7 (SlI.lit' 2 _ _ 1 #[.int .i64 f1] [f1] (by simp) rfl rfl (by omega) W1.out)).mono ?_
    rw [G1.out]
    rintro x w2 ⟨rfl, x2⟩
    have X2 := Lib.hid (X1.out.tr ((Ext.alloc _ (.cells #[.int .i64 f1] 2)).tr x2))
    have D2 := Lib.hid (D1.out.ext ((Ext.alloc _ (.cells #[.int .i64 f1] 2)).tr x2))
    clear x2
    obtain ⟨c0, c1, c2, c3, c4, c5, c6⟩ := D2.out
    simp only at c0 c1 c2 c3 c4 c5 c6
    go_wp2_with fail
    clear c0 c1 c2 c3 c4 c5 c6
    refine (in_ext 1 1099511627776 (SlI.lit' 2 _ _ 2 #[.int .i64 f2, .int .i64 f3] [f2, f3] (by simp) rfl rfl (by omega) W2.out)).mono ?_
    rw [G2.out]
    rintro x w3 ⟨rfl, x2⟩
    have X3 := Lib.hid (X2.out.tr ((Ext.alloc _ (.cells #[.int .i64 f2, .int .i64 f3] 2)).tr x2))
    have D3 := Lib.hid (D2.out.ext ((Ext.alloc _ (.cells #[.int .i64 f2, .int .i64 f3] 2)).tr x2))
    clear x2
    obtain ⟨c0, c1, c2, c3, c4, c5, c6⟩ := D3.out
    simp only at c0 c1 c2 c3 c4 c5 c6
    go_wp2_with fail
    clear c0 c1 c2 c3 c4 c5 c6
    refine (in_ext 0 2 (SlI.lit' 2 _ _ 2 #[.int .i64 f4, .int .i64 f5] [f4, f5] (by simp) rfl rfl (by omega) W3.out)).mono ?_
    rw [G3.out]
    rintro x w4 ⟨rfl, x2⟩
    have X4 := Lib.hid (X3.out.tr ((Ext.alloc _ (.cells #[.int .i64 f4, .int .i64 f5] 2)).tr x2))
    have D4 := Lib.hid (D3.out.ext ((Ext.alloc _ (.cells #[.int .i64 f4, .int .i64 f5] 2)).tr x2))
    clear x2
    obtain ⟨c0, c1, c2, c3, c4, c5, c6⟩ := D4.out
    simp only at c0 c1 c2 c3 c4 c5 c6
    go_wp2
    go_ret
    exact ⟨rfl, X4.out⟩
  rw [g3] at hB2
  have G3 := Lib.hid g3
  clear g3
  cases g4 : [f6].all (inB 0 1099511627776)
  · rw [g4] at hB2
    simp only [Bool.true_and, Bool.false_and] at hB2
    subst hB2
    have G4 := Lib.hid g4
    clear g4
    go_enter Try.func45, Try.ntmps45
    go_wp2_with fail
    refine (in_ext 1 7 (SlI.lit' 2 _ _ 1 #[.int .i64 f1] [f1] (by simp) rfl rfl (by omega) W1.out)).mono ?_
    rw [G1.out]
    rintro x w2 ⟨rfl, x2⟩
    have X2 := Lib.hid (X1.out.tr ((Ext.alloc _ (.cells #[.int .i64 f1] 2)).tr x2))
    have D2 := Lib.hid (D1.out.ext ((Ext.alloc _ (.cells #[.int .i64 f1] 2)).tr x2))
    clear x2
    obtain ⟨c0, c1, c2, c3, c4, c5, c6⟩ := D2.out
    simp only at c0 c1 c2 c3 c4 c5 c6
    go_wp2_with fail
    clear c0 c1 c2 c3 c4 c5 c6
    refine (in_ext 1 1099511627776 (SlI.lit' 2 _ _ 2 #[.int .i64 f2, .int .i64 f3] [f2, f3] (by simp) rfl rfl (by omega) W2.out)).mono ?_
    rw [G2.out]
    rintro x w3 ⟨rfl, x2⟩
    have X3 := Lib.hid (X2.out.tr ((Ext.alloc _ (.cells #[.int .i64 f2, .int .i64 f3] 2)).tr x2))
    have D3 := Lib.hid (D2.out.ext ((Ext.alloc _ (.cells #[.int .i64 f2, .int .i64 f3] 2)).tr x2))
    clear x2
    obtain ⟨c0, c1, c2, c3, c4, c5, c6⟩ := D3.out
    simp only at c0 c1 c2 c3 c4 c5 c6
    go_wp2_with fail
    clear c0 c1 c2 c3 c4 c5 c6
    refine (in_ext 0 2 (SlI.lit' 2 _ _ 2 #[.int .i64 f4, .int .i64 f5] [f4, f5] (by simp) rfl rfl (by omega) W3.out)).mono ?_
    rw [G3.out]
    rintro x w4 ⟨rfl, x2⟩
    have X4 := Lib.hid (X3.out.tr ((Ext.alloc _ (.cells #[.int .i64 f4, .int .i64 f5] 2)).tr x2))
    have D4 := Lib.hid (D3.out.ext ((Ext.alloc _ (.cells #[.int .i64 f4, .int .i64 f5] 2)).tr x2))
    clear x2
    obtain ⟨c0, c1, c2, c3, c4, c5, c6⟩ := D4.out
    simp only at c0 c1 c2 c3 c4 c5 c6
    go_wp2_with fail
    clear c0 c1 c2 c3 c4 c5 c6
    refine (in_ext 0 1099511627776 (SlI.lit' 2 _ _ 1 #[.int .i64 f6] [f6] (by simp) rfl rfl (by omega) W4.out)).mono ?_
    rw [G4.out]
    rintro x w5 ⟨rfl, x2⟩
    have X5 := Lib.hid (X4.out.tr ((Ext.alloc _ (.cells #[.int .i64 f6] 2)).tr x2))
    have D5 := Lib.hid (D4.out.ext ((Ext.alloc _ (.cells #[.int .i64 f6] 2)).tr x2))
    clear x2
    obtain ⟨c0, c1, c2, c3, c4, c5, c6⟩ := D5.out
    simp only at c0 c1 c2 c3 c4 c5 c6
    go_wp2
    go_ret
    exact ⟨rfl, X5.out⟩
  rw [g4] at hB2
  have G4 := Lib.hid g4
  clear g4
  rw [Bool.true_and, Bool.true_and, Bool.true_and, Bool.true_and] at hB2
  by_cases hd : (dat.size : Int) ≤ 16
  · rw [decide_eq_true (by omega)] at hB2
    subst hB2
    go_enter Try.func45, Try.ntmps45
    go_wp2_with fail
    refine (in_ext 1 7 (SlI.lit' 2 _ _ 1 #[.int .i64 f1] [f1] (by simp) rfl rfl (by omega) W1.out)).mono ?_
    rw [G1.out]
    rintro x w2 ⟨rfl, x2⟩
    have X2 := Lib.hid (X1.out.tr ((Ext.alloc _ (.cells #[.int .i64 f1] 2)).tr x2))
    have D2 := Lib.hid (D1.out.ext ((Ext.alloc _ (.cells #[.int .i64 f1] 2)).tr x2))
    clear x2
    obtain ⟨c0, c1, c2, c3, c4, c5, c6⟩ := D2.out
    simp only at c0 c1 c2 c3 c4 c5 c6
    go_wp2_with fail
    clear c0 c1 c2 c3 c4 c5 c6
    refine (in_ext 1 1099511627776 (SlI.lit' 2 _ _ 2 #[.int .i64 f2, .int .i64 f3] [f2, f3] (by simp) rfl rfl (by omega) W2.out)).mono ?_
    rw [G2.out]
    rintro x w3 ⟨rfl, x2⟩
    have X3 := Lib.hid (X2.out.tr ((Ext.alloc _ (.cells #[.int .i64 f2, .int .i64 f3] 2)).tr x2))
    have D3 := Lib.hid (D2.out.ext ((Ext.alloc _ (.cells #[.int .i64 f2, .int .i64 f3] 2)).tr x2))
    clear x2
    obtain ⟨c0, c1, c2, c3, c4, c5, c6⟩ := D3.out
    simp only at c0 c1 c2 c3 c4 c5 c6
    go_wp2_with fail
    clear c0 c1 c2 c3 c4 c5 c6
    refine (in_ext 0 2 (SlI.lit' 2 _ _ 2 #[.int .i64 f4, .int .i64 f5] [f4, f5] (by simp) rfl rfl (by omega) W3.out)).mono ?_
    rw [G3.out]
    rintro x w4 ⟨rfl, x2⟩
    have X4 := Lib.hid (X3.out.tr ((Ext.alloc _ (.cells #[.int .i64 f4, .int .i64 f5] 2)).tr x2))
    have D4 := Lib.hid (D3.out.ext ((Ext.alloc _ (.cells #[.int .i64 f4, .int .i64 f5] 2)).tr x2))
    clear x2
    obtain ⟨c0, c1, c2, c3, c4, c5, c6⟩ := D4.out
    simp only at c0 c1 c2 c3 c4 c5 c6
    go_wp2_with fail
    clear c0 c1 c2 c3 c4 c5 c6
    refine (in_ext 0 1099511627776 (SlI.lit' 2 _ _ 1 #[.int .i64 f6] [f6] (by simp) rfl rfl (by omega) W4.out)).mono ?_
    rw [G4.out]
    rintro x w5 ⟨rfl, x2⟩
    have X5 := Lib.hid (X4.out.tr ((Ext.alloc _ (.cells #[.int .i64 f6] 2)).tr x2))
    have D5 := Lib.hid (D4.out.ext ((Ext.alloc _ (.cells #[.int .i64 f6] 2)).tr x2))
    clear x2
    obtain ⟨c0, c1, c2, c3, c4, c5, c6⟩ := D5.out
    simp only at c0 c1 c2 c3 c4 c5 c6
    go_wp2
    go_ret
    exact ⟨rfl, X5.out⟩
  · rw [decide_eq_false (by omega)] at hB2
    subst hB2
    have hd2 : decide ((dat.size : Int) ≤ 16) = false := decide_eq_false hd
    go_enter Try.func45, Try.ntmps45
    go_wp2_with fail
    refine (in_ext 1 7 (SlI.lit' 2 _ _ 1 #[.int .i64 f1] [f1] (by simp) rfl rfl (by omega) W1.out)).mono ?_
    rw [G1.out]
    rintro x w2 ⟨rfl, x2⟩
    have X2 := Lib.hid (X1.out.tr ((Ext.alloc _ (.cells #[.int .i64 f1] 2)).tr x2))
    have D2 := Lib.hid (D1.out.ext ((Ext.alloc _ (.cells #[.int .i64 f1] 2)).tr x2))
    clear x2
    obtain ⟨c0, c1, c2, c3, c4, c5, c6⟩ := D2.out
    simp only at c0 c1 c2 c3 c4 c5 c6
    go_wp2_with fail
    clear c0 c1 c2 c3 c4 c5 c6
    refine (in_ext 1 1099511627776 (SlI.lit' 2 _ _ 2 #[.int .i64 f2, .int .i64 f3] [f2, f3] (by simp) rfl rfl (by omega) W2.out)).mono ?_
    rw [G2.out]
    rintro x w3 ⟨rfl, x2⟩
    have X3 := Lib.hid (X2.out.tr ((Ext.alloc _ (.cells #[.int .i64 f2, .int .i64 f3] 2)).tr x2))
    have D3 := Lib.hid (D2.out.ext ((Ext.alloc _ (.cells #[.int .i64 f2, .int .i64 f3] 2)).tr x2))
    clear x2
    obtain ⟨c0, c1, c2, c3, c4, c5, c6⟩ := D3.out
    simp only at c0 c1 c2 c3 c4 c5 c6
    go_wp2_with fail
    clear c0 c1 c2 c3 c4 c5 c6
    refine (in_ext 0 2 (SlI.lit' 2 _ _ 2 #[.int .i64 f4, .int .i64 f5] [f4, f5] (by simp) rfl rfl (by omega) W3.out)).mono ?_
    rw [G3.out]
    rintro x w4 ⟨rfl, x2⟩
    have X4 := Lib.hid (X3.out.tr ((Ext.alloc _ (.cells #[.int .i64 f4, .int .i64 f5] 2)).tr x2))
    have D4 := Lib.hid (D3.out.ext ((Ext.alloc _ (.cells #[.int .i64 f4, .int .i64 f5] 2)).tr x2))
    clear x2
    obtain ⟨c0, c1, c2, c3, c4, c5, c6⟩ := D4.out
    simp only at c0 c1 c2 c3 c4 c5 c6
    go_wp2_with fail
    clear c0 c1 c2 c3 c4 c5 c6
    refine (in_ext 0 1099511627776 (SlI.lit' 2 _ _ 1 #[.int .i64 f6] [f6] (by simp) rfl rfl (by omega) W4.out)).mono ?_
    rw [G4.out]
    rintro x w5 ⟨rfl, x2⟩
    have X5 := Lib.hid (X4.out.tr ((Ext.alloc _ (.cells #[.int .i64 f6] 2)).tr x2))
    have D5 := Lib.hid (D4.out.ext ((Ext.alloc _ (.cells #[.int .i64 f6] 2)).tr x2))
    clear x2
    obtain ⟨c0, c1, c2, c3, c4, c5, c6⟩ := D5.out
    simp only at c0 c1 c2 c3 c4 c5 c6
    go_wp2
    go_ret
    exact ⟨rfl, X5.out⟩
end Go.Proofs.Ytgplmbchlahbkaa
