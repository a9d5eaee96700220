/-
  The walk of DriftTrue: whatever the numbers, the law returns true.
-/
import Derived.Test.YtjghjnnmndibcaaDrift7
import Derived.Laws.BitsAllLaws
namespace Go.Proofs.Ytjghjnnmndibcaa
open Go Go.Sort Go.RowKit Go.Deep
set_option linter.unusedVariables false

theorem and_small (x : Int) : 0 ≤ bits .and .i64 x 65535 ∧ bits .and .i64 x 65535 ≤ 65535 := by
  have h : (BitVec.ofInt 64 x &&& BitVec.ofInt 64 65535).toNat ≤ 65535 := by
    rw [BitVec.toNat_and]
    exact Nat.le_trans Nat.and_le_right (by decide)
  have e : bits .and .i64 x 65535 = IntKind.i64.wrap ((BitVec.ofInt 64 x &&& BitVec.ofInt 64 65535).toNat : Int) := rfl
  rw [e]
  generalize (BitVec.ofInt 64 x &&& BitVec.ofInt 64 65535).toNat = k at *
  rw [IntKind.wrap_i64]
  omega

/-- A clock that is as much ahead always, up to now. -/
def Gd (ahead : Int) (L : List RdD) (now : Int) : Prop := ∀ i, i < L.length → (gd L i).2 = (gd L i).1 + ahead ∧ 0 ≤ (gd L i).1 ∧ (gd L i).1 ≤ now ∧ ∀ k, k ≤ i → (gd L k).1 ≤ (gd L i).1
theorem gd_left {L : List RdD} {r : RdD} {i : Nat} (h : i < L.length) : gd (L ++ [r]) i = gd L i := by
  unfold gd
  rw [List.getD_eq_getElem?_getD, List.getD_eq_getElem?_getD, List.getElem?_append_left h]
theorem gd_last {L : List RdD} {r : RdD} : gd (L ++ [r]) L.length = r := by
  unfold gd
  rw [List.getD_eq_getElem?_getD, List.getElem?_append_right (Nat.le_refl _), Nat.sub_self]
  rfl
theorem Gd.snoc {ahead now now' : Int} {L : List RdD} (h : Gd ahead L now) (h0 : 0 ≤ now') (h1 : now ≤ now') : Gd ahead (L ++ [(now', now' + ahead)]) now' := by
  intro i hi
  rw [List.length_append, List.length_singleton] at hi
  rcases Nat.lt_or_ge i L.length with hl | hl
  · obtain ⟨a, b, c, d⟩ := h i hl
    rw [gd_left hl]
    refine ⟨a, b, by omega, fun k hk => ?_⟩
    rw [gd_left (by omega)]
    exact d k hk
  · obtain rfl : i = L.length := by omega
    rw [gd_last]
    refine ⟨rfl, h0, Int.le_refl _, fun k hk => ?_⟩
    rcases Nat.lt_or_ge k L.length with hl2 | hl2
    · rw [gd_left hl2]
      have := (h k hl2).2.2.1
      simp only
      omega
    · obtain rfl : k = L.length := by omega
      rw [gd_last]
      exact Int.le_refl _
theorem Gd.nil (ahead now : Int) : Gd ahead [] now := fun i hi => by simp at hi
theorem Gd.fault {ahead now q : Int} {L : List RdD} (h : Gd ahead L now) (h1 : now ≤ 2000000) (h2 : -1000000 ≤ ahead) (h3 : ahead ≤ 1000000) (hq : 0 ≤ q) (hq2 : q ≤ 500000) : fault L q = -1 := by
  refine fault_iff.2 ⟨by simp [okP, hq, hq2], fun i hi => ?_, fun i hi k hk => ?_⟩
  · obtain ⟨a, b, c, d⟩ := h i hi
    unfold okAt
    rw [(isT_iff _).2 (by omega), (isT_iff _).2 (by omega)]
    have := d (i - 1) (by omega)
    rw [decide_eq_true this, Bool.or_true]
    rfl
  · obtain ⟨a, b, c, d⟩ := h i hi
    obtain ⟨a', b', c', -⟩ := h k (by omega)
    have hd := d k (by omega)
    unfold keepB
    have hr : 0 ≤ (gd L i).1 - (gd L k).1 := by omega
    have e : (gd L i).2 - (gd L k).2 = (gd L i).1 - (gd L k).1 := by omega
    rw [e]
    have h4 : ((gd L i).1 - (gd L k).1) * (1000000 - q) ≤ ((gd L i).1 - (gd L k).1) * 1000000 := Int.mul_le_mul_of_nonneg_left (by omega) hr
    have h5 : ((gd L i).1 - (gd L k).1) * 1000000 ≤ ((gd L i).1 - (gd L k).1) * (1000000 + q) := Int.mul_le_mul_of_nonneg_left (by omega) hr
    rw [decide_eq_true hr, decide_eq_true (by omega), decide_eq_true (by omega)]
    rfl
theorem Gd.i64 {ahead now : Int} {L : List RdD} (h : Gd ahead L now) (h1 : now ≤ 2000000) (h2 : -1000000 ≤ ahead) (h3 : ahead ≤ 1000000) : ∀ r ∈ L, I64 r.1 ∧ I64 r.2 := by
  intro r hr
  obtain ⟨i, hi, rfl⟩ := List.getElem_of_mem hr
  obtain ⟨a, b, c, -⟩ := h i hi
  have e : gd L i = L[i] := by unfold gd; rw [List.getD_eq_getElem?_getD, List.getElem?_eq_getElem hi]; rfl
  rw [e] at a b c
  exact ⟨i64b (by omega) (by omega), i64b (by omega) (by omega)⟩
theorem infoR : (Try.prog.info? 51).map (fun i => (i.zero, i.size, i.bytes)) = some (some (.agg #[.int .i64 0, .int .i64 0]), 2, 16) := by kernel_rfl
theorem one2 {M : List RdD} : ∀ r ∈ M.map rdE, ∀ u ∈ r, u.oneCell' = true := by
  intro r hr u hu
  obtain ⟨d, -, rfl⟩ := List.mem_map.1 hr
  simp [rdE] at hu
  rcases hu with rfl | rfl <;> rfl

set_option maxRecDepth 8000 in
set_option maxHeartbeats 8000000 in
theorem walk_DriftTrue {p : Option Addr} {n cap : Nat} {zs : List Int} {ahead q : Int} {w : World} (h1 : SlI .i64 w p n cap zs) (h2 : I64 ahead) (h3 : I64 q) :
    Calls Try.prog 9 #[.slice p n cap, .int .i64 ahead, .int .i64 q] w fun e w' => e = .returned (.bool true) ∧ Below w.heap.size w w' := by
  have H1 := Lib.hid h1
  clear h1
  by_cases c0 : q < 0
  · go_enter Try.func9, Try.ntmps9
    go_wp2_with fail
    refine (begun8 w).mono ?_
    rintro e w1 ⟨rfl, x1⟩
    have X := Lib.hid x1
    clear x1
    go_wp2
    go_ret
    exact ⟨rfl, X.out⟩
  by_cases c1 : 500000 < q
  · go_enter Try.func9, Try.ntmps9
    go_wp2_with fail
    refine (begun8 w).mono ?_
    rintro e w1 ⟨rfl, x1⟩
    have X := Lib.hid x1
    clear x1
    go_wp2
    go_ret
    exact ⟨rfl, X.out⟩
  by_cases c2 : ahead < -1000000
  · go_enter Try.func9, Try.ntmps9
    go_wp2_with fail
    refine (begun8 w).mono ?_
    rintro e w1 ⟨rfl, x1⟩
    have X := Lib.hid x1
    clear x1
    go_wp2
    go_ret
    exact ⟨rfl, X.out⟩
  by_cases c3 : 1000000 < ahead
  · go_enter Try.func9, Try.ntmps9
    go_wp2_with fail
    refine (begun8 w).mono ?_
    rintro e w1 ⟨rfl, x1⟩
    have X := Lib.hid x1
    clear x1
    go_wp2
    go_ret
    exact ⟨rfl, X.out⟩
  obtain ⟨i0, hi0, hz0, hz1, hz2⟩ := info_parts infoR
  have hn : n ≤ 9223372036854775807 := Nat.le_trans H1.out.le H1.out.max
  go_enter Try.func9, Try.ntmps9
  go_wp2_with fail
  refine (begun8 w).mono ?_
  rintro e w1 ⟨rfl, x1⟩
  have X := Lib.hid x1
  clear x1
  go_wp2
  go_loopw [8, 9, 10] (fun v tn i wr => ∃ (k : Nat) (p' : Option Addr) (cap' : Nat) (now : Int) (L : List RdD), k ≤ n ∧ k ≤ 20 ∧ i = .int .i64 (k : Int) ∧ tn = .int .i64 now ∧ v = .slice p' k cap' ∧ 0 ≤ now ∧ now ≤ 65535 * k ∧ OwS 51 2 wr w.heap.size p' k cap' (L.map rdE) ∧ Gd ahead L now ∧ Ext w wr) (fun _ _ i _ => 20 - (intOf i).toNat)
  case atStart => exact ⟨0, none, 0, 0, [], by omega, by omega, rfl, rfl, rfl, by omega, by omega, OwS.nil _ _ _ _, Gd.nil _ _, X.out⟩
  case round =>
    obtain ⟨k, p', cap', now, L, hk, hk2, rfl, rfl, rfl, hn0, hn1, ho, hg, x1⟩ := hrel
    replace X := Lib.hid x1
    have O := Lib.hid ho
    have G := Lib.hid hg
    clear x1 ho hg
    have hmin : k < n ∧ (k : Int) < 20 ∨ ¬ k < n ∨ k < n ∧ ¬ (k : Int) < 20 := by omega
    rcases hmin with ⟨hlt, h20⟩ | hlt
    · obtain ⟨b, o, x, rfl, hx, hcell, -⟩ := (H1.out.ext X.out).at k hlt
      clear hx
      obtain ⟨y, hy⟩ : ∃ y, bits .and .i64 x 65535 = y := ⟨_, rfl⟩
      have hb := and_small x
      rw [hy] at hb
      obtain ⟨hb1, hb2⟩ := hb
      obtain ⟨now', hnow⟩ : ∃ now', now' = now + y := ⟨_, rfl⟩
      have hsum : now + y = now' := hnow.symm
      have b1 : 0 ≤ now' := by omega
      have b2 : now' ≤ 65535 * (k : Int) + 65535 := by omega
      have HLE : Hid (now ≤ now') := Lib.hid (by omega)
      clear hnow
      have SR : Hid (SlS 2 (wr.alloc (.cells #[.int .i64 now', .int .i64 (now' + ahead)] 51)) (some ⟨wr.heap.size, 0, none⟩) 1 1 ([(now', now' + ahead)].map rdE)) := Lib.hid (SlS.lit wr 1 _ (0, 0) _ rfl (by intro x hx; simp [rdE] at hx; subst hx; rfl) rfl (by omega))
      have EA := Lib.hid (Ext.alloc wr (.cells #[.int .i64 now', .int .i64 (now' + ahead)] 51))
      go_wp2_with (at_builtin; refine wpList_appS rfl _ _ 43 rfl w.heap.size Try.underlying43 i0 _ 16 hi0 hz0 hz1 hz2 rfl (by decide) p' k cap' _ rfl (O.out.ext EA.out) (some ⟨wr.heap.size, 0, none⟩) 1 1 _ rfl SR.out one2 (by omega) (by omega) (by have := X.out.size; simp; omega) ?_)
      intro p2 cap2 w2 ho2 hgr
      have O2 := Lib.hid ho2
      have X2 := Lib.hid (Ext.ownS (X.out.tr EA.out) (O.out.ext EA.out) hgr rfl)
      clear ho2 hgr
      go_wp2
      go_roundw
      case rel => exact ⟨k + 1, p2, cap2, now', L ++ [(now', now' + ahead)], by omega, by omega, by go_num, rfl, rfl, b1, by omega, by rw [List.map_append]; exact O2.out, G.out.snoc b1 HLE.out, X2.out⟩
      case measure => simp [intOf]; omega
    · have FF := Lib.hid (G.out.fault (q := q) (by omega) (by omega) (by omega) (by omega) (by omega))
      have IL := Lib.hid (G.out.i64 (by omega) (by omega) (by omega))
      rcases hlt with hlt | ⟨hlt, h20⟩
      all_goals
        go_wp2_with fail
        refine (may_any O.out.sl IL.out).mono ?_
        rw [FF.out, decide_eq_true rfl]
        rintro e w4 ⟨rfl, x1⟩
        have X4 := Lib.hid (X.out.tr x1)
        replace O := Lib.hid (O.out.ext x1)
        clear x1
        go_wp2_with fail
        refine (fault_any O.out.sl IL.out).mono ?_
        rw [FF.out]
        rintro e w5 ⟨rfl, x1⟩
        replace X4 := Lib.hid (X4.out.tr x1)
        clear x1
        go_wp2
        go_ret
        exact ⟨rfl, X4.out⟩
end Go.Proofs.Ytjghjnnmndibcaa
