/-
  The contract of delay.Bound and Fast at any trip of numbers of 64 bits. No condition beyond that.
-/
import Derived.Test.YtbhgbkbdojhofaaSpan5
import Derived.Test.YtbhgbkbdojhofaaRegion
namespace Go.Proofs.Ytbhgbkbdojhofaa
open Go Go.Sort Go.RowKit
set_option linter.unusedVariables false

/-- What the bound is before it is cut off at nought. -/
def bN (w h p : Int) : Int := (w * 1000000 + (1000000 - p) - 1) / (1000000 - p) - h * 1000000 / (1000000 + p)
def bndOk (s h b c p : Int) : Bool := subOk c s && subOk b h && decide (0 ≤ subV c s) && decide (0 ≤ subV b h) && okP p && isT (bN (subV c s) (subV b h) p)
def bndV (s h b c p : Int) : Int := if bndOk s h b c p then max (bN (subV c s) (subV b h) p) 0 else 0
theorem sub_yes {a b : Int} (h : subOk a b = true) : subV a b = a - b ∧ -1099511627776 ≤ subV a b ∧ subV a b ≤ 1099511627776 := by
  have e : subV a b = a - b := by unfold subV; rw [h, if_pos rfl]
  have hh := h
  unfold subOk at hh
  simp only [Bool.and_eq_true] at hh
  have := isT_yes hh.2
  rw [e]; exact ⟨rfl, this⟩
theorem bN_small {w h p : Int} (hw : 0 ≤ w) (hw2 : w ≤ 1099511627776) (hh : 0 ≤ h) (hh2 : h ≤ 1099511627776) (hp : 0 ≤ p) (hp2 : p ≤ 500000) :
    0 ≤ (w * 1000000 + (1000000 - p) - 1) / (1000000 - p) ∧ (w * 1000000 + (1000000 - p) - 1) / (1000000 - p) ≤ 2199023255552 ∧ 0 ≤ h * 1000000 / (1000000 + p) ∧ h * 1000000 / (1000000 + p) ≤ 1099511627776 := by
  refine ⟨Int.ediv_nonneg (by omega) (by omega), ceil_le (by omega) (by omega), Int.ediv_nonneg (by omega) (by omega), ?_⟩
  have : h * 1000000 / (1000000 + p) < 1099511627776 + 1 := (Int.ediv_lt_iff_lt_mul (by omega)).2 (by omega)
  omega

set_option maxHeartbeats 2000000 in
theorem bound_yes (s h b c p : Int) (hs : J64 s) (hh : J64 h) (hb : J64 b) (hc : J64 c) (o1 : subOk c s = true) (o2 : subOk b h = true) (k1 : 0 ≤ subV c s) (k2 : 0 ≤ subV b h) (hp1 : 0 ≤ p) (hp2 : p ≤ 500000) (w : World) :
    Calls Try.prog 29 #[.agg #[.int .i64 s, .int .i64 h, .int .i64 b, .int .i64 c], .int .i64 p] w fun e w' => e = .returned (.tuple #[.int .i64 (if isT (bN (subV c s) (subV b h) p) then max (bN (subV c s) (subV b h) p) 0 else 0), .bool (isT (bN (subV c s) (subV b h) p))]) ∧ Ext w w' := by
  obtain ⟨-, -, u1⟩ := sub_yes o1
  obtain ⟨-, -, u2⟩ := sub_yes o2
  have HS := Lib.hid hs
  have HH := Lib.hid hh
  have HB := Lib.hid hb
  have HC := Lib.hid hc
  have O1 := Lib.hid o1
  have O2 := Lib.hid o2
  have hP : okP p = true := by simp [okP, hp1, hp2]
  have HP := Lib.hid hP
  clear hs hh hb hc o1 o2 hP
  obtain ⟨g1, g2, g3, g4⟩ := bN_small k1 u1 k2 u2 hp1 hp2
  obtain ⟨u, hu⟩ : ∃ u, u = subV c s := ⟨_, rfl⟩
  obtain ⟨v, hv⟩ : ∃ v, v = subV b h := ⟨_, rfl⟩
  rw [← hu] at k1 u1 g1 g2
  rw [← hv] at k2 u2 g3 g4
  rw [← hu, ← hv]
  have HU := Lib.hid hu
  have HV := Lib.hid hv
  obtain ⟨r, hr⟩ : ∃ r, r = bN u v p := ⟨_, rfl⟩
  have HR := Lib.hid hr
  rw [← hr]
  obtain ⟨z, hz⟩ : ∃ z, z = if isT r then max r 0 else 0 := ⟨_, rfl⟩
  obtain ⟨t, ht0⟩ : ∃ t, t = isT r := ⟨_, rfl⟩
  rw [← hz, ← ht0]
  have HZ := Lib.hid hz
  have HT := Lib.hid ht0
  clear hr hu hv hz ht0
  go_enter Try.func29, Try.ntmps29
  go_wp2_with fail
  refine (sub_any c s HC.out HS.out _).mono ?_
  rw [O1.out, ← HU.out]
  rintro e w1 ⟨rfl, x1⟩
  have X1 := Lib.hid x1
  have d0 : w1.cell? ⟨w.heap.size, 0, none⟩ = some (.int .i64 s) := Ext.cell x1 (World.cell?_alloc_mark ..)
  have d1 : w1.cell? ⟨w.heap.size, 1, none⟩ = some (.int .i64 h) := Ext.cell x1 (World.cell?_alloc_mark ..)
  have d2 : w1.cell? ⟨w.heap.size, 2, none⟩ = some (.int .i64 b) := Ext.cell x1 (World.cell?_alloc_mark ..)
  have d3 : w1.cell? ⟨w.heap.size, 3, none⟩ = some (.int .i64 c) := Ext.cell x1 (World.cell?_alloc_mark ..)
  clear x1
  go_wp2_with fail
  refine (sub_any b h HB.out HH.out _).mono ?_
  rw [O2.out, ← HV.out]
  rintro e w2 ⟨rfl, x2⟩
  have X2 := Lib.hid (Ext.tr (Ext.alloc w _) (X1.out.tr x2))
  clear x2 d0 d1 d2 d3 X1
  go_wp2_with fail
  refine (drift_any p _).mono ?_
  rw [HP.out]
  rintro e w3 ⟨rfl, rfl⟩
  go_wp2_with fail
  refine rw_start [0, 1, 2, 3, 5, 6, 7, 8, 9, 4, 10, 11] (by kernel_rfl) (by kernel_rfl) (fun _ _ d _ _ h => by cases d <;> exact h) ?_
  repeat (first | (refine rw_quiet rfl (by rfl) (by rfl) (fun K hK => ?_); go_big_quiet_op; refine hK _ ?_; clear hK K) | (refine rw_skip rfl (by rfl) (fun K hK => ?_); go_big_quiet_op; refine hK _ ?_; clear hK K))
  refine rw_call rfl (by rfl) (by rfl) (fun K hK => ?_)
  go_simp
  refine (up_any (u * 1000000) (1000000 - p) (by omega) (by omega) (by omega) (by omega) _).mono ?_
  rintro e w4 ⟨rfl, rfl⟩
  refine hK _ _ (Ext.rfl' _) ?_; clear hK K
  repeat (first | (refine rw_quiet rfl (by rfl) (by rfl) (fun K hK => ?_); go_big_quiet_op; refine hK _ ?_; clear hK K) | (refine rw_skip rfl (by rfl) (fun K hK => ?_); go_big_quiet_op; refine hK _ ?_; clear hK K))
  refine rw_nil ?_
  have hx : (u * 1000000 + (1000000 - p) - 1) / (1000000 - p) - v * 1000000 / (1000000 + p) = r := by rw [HR.out]; rfl
  have r1 : -1099511627776 ≤ r := by omega
  have r2 : r ≤ 2199023255552 := by omega
  rw [hx]
  clear hx g1 g2 g3 g4 k1 k2 u1 u2
  cases ht : isT r
  · go_wp2_with fail
    refine (time_any (zs := [r]) (SlI.lit .i64 2 w2.drew 1 _ (0, 0) [r] rfl rfl (by omega) (by intro y hy; simp at hy; subst hy; exact j64_wf (by unfold J64; omega)))).mono ?_
    rw [show [r].all isT = false by simpa using ht]
    rintro e w4 ⟨rfl, rfl⟩
    go_wp2
    go_ret2
    exact ⟨by rw [HZ.out, HT.out, ht]; rfl, X2.out.tr (Ext.tr (Ext.drew w2) (Ext.alloc _ _))⟩
  · go_wp2_with fail
    refine (time_any (zs := [r]) (SlI.lit .i64 2 w2.drew 1 _ (0, 0) [r] rfl rfl (by omega) (by intro y hy; simp at hy; subst hy; exact j64_wf (by unfold J64; omega)))).mono ?_
    rw [show [r].all isT = true by simpa using ht]
    rintro e w4 ⟨rfl, rfl⟩
    have hmx : ∀ ts t w, (Builtin.max_ ts t #[.int .i64 r, .int .i64 0]).run Try.prog w = .ok (.int .i64 (max r 0)) w := fun ts t w => by
      rw [run_max_int2]
      congr 2
      split <;> omega
    go_wp2
    go_ret2
    exact ⟨by rw [HZ.out, HT.out, ht]; rfl, X2.out.tr (Ext.tr (Ext.drew w2) (Ext.alloc _ _))⟩

theorem bnd_yes {s h b c p : Int} (o1 : subOk c s = true) (o2 : subOk b h = true) (k1 : 0 ≤ subV c s) (k2 : 0 ≤ subV b h) (hP : okP p = true) :
    bndOk s h b c p = isT (bN (subV c s) (subV b h) p) ∧ bndV s h b c p = if isT (bN (subV c s) (subV b h) p) then max (bN (subV c s) (subV b h) p) 0 else 0 := by
  have e : bndOk s h b c p = isT (bN (subV c s) (subV b h) p) := by unfold bndOk; rw [o1, o2, decide_eq_true k1, decide_eq_true k2, hP]; rfl
  exact ⟨e, by unfold bndV; rw [e]⟩
theorem bnd_no {s h b c p : Int} (hn : (subOk c s && subOk b h && decide (0 ≤ subV c s) && decide (0 ≤ subV b h) && okP p) = false) : bndOk s h b c p = false ∧ bndV s h b c p = 0 := by
  have e : bndOk s h b c p = false := by unfold bndOk; rw [hn]; rfl
  exact ⟨e, by unfold bndV; rw [e]; rfl⟩

set_option maxHeartbeats 2000000 in
theorem bound_any (s h b c p : Int) (hs : J64 s) (hh : J64 h) (hb : J64 b) (hc : J64 c) (w : World) :
    Calls Try.prog 29 #[.agg #[.int .i64 s, .int .i64 h, .int .i64 b, .int .i64 c], .int .i64 p] w fun e w' => e = .returned (.tuple #[.int .i64 (bndV s h b c p), .bool (bndOk s h b c p)]) ∧ Ext w w' := by
  by_cases hall : (subOk c s && subOk b h && decide (0 ≤ subV c s) && decide (0 ≤ subV b h) && okP p) = true
  · simp only [Bool.and_eq_true, decide_eq_true_eq] at hall
    obtain ⟨⟨⟨⟨o1, o2⟩, k1⟩, k2⟩, hP⟩ := hall
    obtain ⟨e1, e2⟩ := bnd_yes o1 o2 k1 k2 hP
    obtain ⟨p1, p2⟩ := okP_yes hP
    rw [e1, e2]
    exact bound_yes s h b c p hs hh hb hc o1 o2 k1 k2 p1 p2 w
  · have hn : (subOk c s && subOk b h && decide (0 ≤ subV c s) && decide (0 ≤ subV b h) && okP p) = false := by simpa using hall
    obtain ⟨e1, e2⟩ := bnd_no hn
    rw [e1, e2]
    have HN := Lib.hid hn
    have HS := Lib.hid hs
    have HH := Lib.hid hh
    have HB := Lib.hid hb
    have HC := Lib.hid hc
    clear hall e1 e2 hn hs hh hb hc
    obtain ⟨u, hu⟩ : ∃ u, u = subV c s := ⟨_, rfl⟩
    obtain ⟨v, hv⟩ : ∃ v, v = subV b h := ⟨_, rfl⟩
    obtain ⟨o1, ho1⟩ : ∃ o, o = subOk c s := ⟨_, rfl⟩
    obtain ⟨o2, ho2⟩ : ∃ o, o = subOk b h := ⟨_, rfl⟩
    obtain ⟨q, hq⟩ : ∃ o, o = okP p := ⟨_, rfl⟩
    rw [← hu, ← hv, ← ho1, ← ho2, ← hq] at HN
    have HU := Lib.hid hu
    have HV := Lib.hid hv
    have O1 := Lib.hid ho1
    have O2 := Lib.hid ho2
    have HQ := Lib.hid hq
    clear hu hv ho1 ho2 hq
    have start : ∀ (P : Prop), P → P := fun _ h => h
    clear start
    have first : o1 = false ∨ o1 = true ∧ o2 = false ∨ o1 = true ∧ o2 = true ∧ u < 0 ∨ o1 = true ∧ o2 = true ∧ ¬ u < 0 ∧ v < 0 ∨ o1 = true ∧ o2 = true ∧ ¬ u < 0 ∧ ¬ v < 0 ∧ q = false := by
      have hn := HN.out
      cases o1
      · exact .inl rfl
      · cases o2
        · exact .inr (.inl ⟨rfl, rfl⟩)
        · by_cases c1 : u < 0
          · exact .inr (.inr (.inl ⟨rfl, rfl, c1⟩))
          · by_cases c2 : v < 0
            · exact .inr (.inr (.inr (.inl ⟨rfl, rfl, c1, c2⟩)))
            · refine .inr (.inr (.inr (.inr ⟨rfl, rfl, c1, c2, ?_⟩)))
              rw [decide_eq_true (by omega), decide_eq_true (by omega)] at hn
              simpa using hn
    rcases first with rfl | ⟨rfl, rfl⟩ | ⟨rfl, rfl, k1⟩ | ⟨rfl, rfl, k1, k2⟩ | ⟨rfl, rfl, k1, k2, rfl⟩
    all_goals
      go_enter Try.func29, Try.ntmps29
      go_wp2_with fail
      refine (sub_any c s HC.out HS.out _).mono ?_
      rw [← O1.out, ← HU.out]
      rintro e w1 ⟨rfl, x1⟩
      have X1 := Lib.hid x1
      have d0 : w1.cell? ⟨w.heap.size, 0, none⟩ = some (.int .i64 s) := Ext.cell x1 (World.cell?_alloc_mark ..)
      have d1 : w1.cell? ⟨w.heap.size, 1, none⟩ = some (.int .i64 h) := Ext.cell x1 (World.cell?_alloc_mark ..)
      have d2 : w1.cell? ⟨w.heap.size, 2, none⟩ = some (.int .i64 b) := Ext.cell x1 (World.cell?_alloc_mark ..)
      have d3 : w1.cell? ⟨w.heap.size, 3, none⟩ = some (.int .i64 c) := Ext.cell x1 (World.cell?_alloc_mark ..)
      clear x1
      go_wp2_with fail
      refine (sub_any b h HB.out HH.out _).mono ?_
      rw [← O2.out, ← HV.out]
      rintro e w2 ⟨rfl, x2⟩
      have X2 := Lib.hid (Ext.tr (Ext.alloc w _) (X1.out.tr x2))
      clear x2 d0 d1 d2 d3 X1
      go_wp2_with (go_at_call 43; refine (drift_any p _).mono ?_; rw [← HQ.out]; rintro e w3 ⟨rfl, rfl⟩)
      go_ret2
      exact ⟨rfl, X2.out⟩

def fastB (s h b c p m : Int) : Bool := bndOk s h b c p && decide (bndV s h b c p ≤ m)
end Go.Proofs.Ytbhgbkbdojhofaa
