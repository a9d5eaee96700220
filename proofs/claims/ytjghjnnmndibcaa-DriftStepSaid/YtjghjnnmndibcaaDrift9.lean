/-
  The walk of DriftStep: whatever the numbers, the law returns true.
-/
import Derived.Test.YtjghjnnmndibcaaDrift8
import Derived.Laws.MakeOwn
namespace Go.Proofs.Ytjghjnnmndibcaa
open Go Go.Sort Go.RowKit Go.Deep
set_option linter.unusedVariables false

theorem run_make_rowN {P : Program} (t e : TypeId) (i : TypeInfo) (z : Value) (ht : P.underlying t = some (.slice e)) (hi : P.info? e = some i) (hz : i.zero = some z)
    (kl kc : IntKind) (n c : Nat) (hnc : n ≤ c) (hbytes : i.bytes * c ≤ 281474976710656) (h63 : c ≤ 9223372036854775807) (w : World) :
    (Instr.makeSlice t (.int kl (n : Int)) (.int kc (c : Int))).run P w = .ok (.slice (some ⟨w.heap.size, 0, none⟩) n c) (w.alloc (.cells (madeCells z.cells (c * i.size)) e)) := by
  have hb : (i.bytes : Int) * (c : Int) ≤ 281474976710656 := by
    have h : ((i.bytes * c : Nat) : Int) ≤ 281474976710656 := by omega
    rwa [Int.natCast_mul] at h
  have hr := run_make (P := P) w t e i z ht hi hz kl kc n c (by omega) (by omega) hb (by omega)
  simp only [Int.toNat_natCast] at hr
  exact hr
def zs0 (j : Nat) : List RdD := List.replicate j (0, 0)
theorem made_zs : ∀ j, j ≤ 8 → (madeCells (Value.agg #[.int .i64 0, .int .i64 0]).cells (j * 2)).toList = ((zs0 j).map rdE).flatten
  | 0, _ => by kernel_rfl
  | 1, _ => by kernel_rfl
  | 2, _ => by kernel_rfl
  | 3, _ => by kernel_rfl
  | 4, _ => by kernel_rfl
  | 5, _ => by kernel_rfl
  | 6, _ => by kernel_rfl
  | 7, _ => by kernel_rfl
  | 8, _ => by kernel_rfl
  | j + 9, h => by omega
theorem gd_zs {j i : Nat} : gd (zs0 j) i = (0, 0) := by
  unfold gd zs0
  rw [List.getD_eq_getElem?_getD, List.getElem?_replicate]
  split <;> rfl
theorem gd_step {j i : Nat} {r : RdD} : gd (zs0 j ++ [r]) i = if i = j then r else if i < j then (0, 0) else (0, 0) := by
  have hl : (zs0 j).length = j := by simp [zs0]
  by_cases h : i = j
  · subst h
    rw [if_pos rfl]
    have := gd_last (L := zs0 i) (r := r)
    rwa [hl] at this
  · rw [if_neg h]
    by_cases h2 : i < j
    · rw [if_pos h2, gd_left (by rw [hl]; exact h2), gd_zs]
    · rw [if_neg h2]
      unfold gd
      rw [List.getD_eq_getElem?_getD, List.getElem?_eq_none (by rw [List.length_append, hl, List.length_singleton]; omega)]
      rfl
theorem step_ok {j : Nat} {real c : Int} (h0 : 0 ≤ real) (h1 : real ≤ 1073741824) (h2 : 0 ≤ c) (h3 : c ≤ 4294967296) : ∀ i, i < (zs0 j ++ [(real, c)]).length → okAt (zs0 j ++ [(real, c)]) i = true := by
  intro i hi
  unfold okAt
  rw [gd_step, gd_step]
  by_cases h : i = j
  · subst h
    rw [if_pos rfl, (isT_iff _).2 (by simp only; omega), (isT_iff _).2 (by simp only; omega)]
    by_cases hz : i = 0
    · rw [decide_eq_true hz]; rfl
    · rw [if_neg (by omega), if_pos (by omega), decide_eq_true (show (0, (0 : Int)).1 ≤ (real, c).1 from h0), Bool.or_true]; rfl
  · rw [if_neg h, ite_self]
    by_cases hz : i = 0
    · rw [decide_eq_true hz]; simp [isT]
    · have hi2 : i < j := by rw [List.length_append, List.length_singleton, show (zs0 j).length = j by simp [zs0]] at hi; omega
      rw [if_neg (by omega), if_pos (by omega)]
      simp [isT]
theorem keep00 {p : Int} : keepB (0, 0) (0, 0) p = true := by unfold keepB; simp
theorem step_good {j : Nat} {real p : Int} (h0 : 0 ≤ real) (h1 : real ≤ 1073741824) (hp : 0 ≤ p) (hp2 : p ≤ 500000) : fault (zs0 j ++ [(real, hiB real p)]) p = -1 := by
  obtain ⟨-, -, b1, b2⟩ := lo_hi h0 h1 hp hp2
  refine fault_iff.2 ⟨by simp [okP, hp, hp2], step_ok h0 h1 b1 (by omega), fun i hi k hk => ?_⟩
  have hi2 : i ≤ j := by rw [List.length_append, List.length_singleton, show (zs0 j).length = j by simp [zs0]] at hi; omega
  rw [gd_step, gd_step, if_neg (show ¬ k = j by omega), ite_self]
  by_cases h : i = j
  · rw [if_pos h]
    unfold keepB
    simp only [Int.sub_zero]
    have e : hiB real p * 1000000 ≤ real * (1000000 + p) + 1000000 ∧ real * (1000000 + p) < hiB real p * 1000000 := by
      unfold hiB
      generalize real * (1000000 + p) = y
      omega
    have h4 : real * (1000000 - p) ≤ real * (1000000 + p) := Int.mul_le_mul_of_nonneg_left (by omega) h0
    rw [decide_eq_true b1, decide_eq_true (by omega), decide_eq_true e.1]
    rfl
  · rw [if_neg h, ite_self]
    exact keep00
theorem step_bad {j : Nat} {real p : Int} (hj : 0 < j) (h0 : 0 ≤ real) (h1 : real ≤ 1073741824) (hp : 0 ≤ p) (hp2 : p ≤ 500000) : fault (zs0 j ++ [(real, hiB real p + 1)]) p = (j : Int) + 1 := by
  obtain ⟨-, -, b1, b2⟩ := lo_hi h0 h1 hp hp2
  have hlen : (zs0 j ++ [(real, hiB real p + 1)]).length = j + 1 := by simp [zs0]
  refine fault_at (by simp [okP, hp, hp2]) (step_ok h0 h1 (by omega) (by omega)) (by rw [hlen]; omega) (fun i hi => row_all fun k hk => ?_) (row_not hj ?_)
  · rw [gd_step, gd_step, if_neg (show ¬ k = j by omega), if_neg (show ¬ i = j by omega), ite_self, ite_self]
    exact keep00
  · rw [gd_step, gd_step, if_neg (show ¬ 0 = j by omega), ite_self, if_pos rfl]
    unfold keepB
    simp only [Int.sub_zero]
    have e : ¬ (hiB real p + 1) * 1000000 ≤ real * (1000000 + p) + 1000000 := by
      unfold hiB
      generalize real * (1000000 + p) = y
      omega
    rw [decide_eq_false e, Bool.and_false, Bool.and_false]
theorem rd_small {j : Nat} {real c : Int} (h0 : 0 ≤ real) (h1 : real ≤ 1073741824) (h2 : 0 ≤ c) (h3 : c ≤ 4294967296) : ∀ r ∈ zs0 j ++ [(real, c)], I64 r.1 ∧ I64 r.2 := by
  intro r hr
  rcases List.mem_append.1 hr with hr | hr
  · have := List.eq_of_mem_replicate hr
    subst this
    exact ⟨i64b (by simp) (by simp), i64b (by simp) (by simp)⟩
  · simp at hr
    subst hr
    exact ⟨i64b (by simp only; omega) (by simp only; omega), i64b (by simp only; omega) (by simp only; omega)⟩
theorem SlS.of_grown {K : Nat} {w w' : World} {p : Option Addr} {n cap : Nat} {L : List (List Value)} {row : Option Nat} (h : SlS K w p n cap L) (hg : w.grownBy w' row) (hne : ∀ k, row = some k → p.map (·.block) ≠ some k) : SlS K w' p n cap L :=
  ⟨h.len, h.le, h.max, h.nil, h.wid, fun hn => by
    obtain ⟨b, o, hp, hh⟩ := h.cells hn
    exact ⟨b, o, hp, fun i x hx j v hv => hg.cell (hh i x hx j v hv) (fun e => hne b e.symm (by rw [hp]; rfl))⟩⟩
theorem only_ext' {a b : World} (h : a.grownBy b none) : Ext a b := ⟨h.os, h.tape, h.output, h.size, fun i hi => h.block i hi (by simp)⟩

set_option maxRecDepth 8000 in
set_option maxHeartbeats 8000000 in
theorem walk_DriftStep {real q n : Int} {w : World} (h1 : I64 real) (h2 : I64 q) (h3 : I64 n) :
    Calls Try.prog 11 #[.int .i64 real, .int .i64 q, .int .i64 n] w fun e w' => e = .returned (.bool true) ∧ Below w.heap.size w w' := by
  by_cases c0 : real < 0
  · go_enter Try.func11, Try.ntmps11
    go_wp2_with fail
    refine (begun8 w).mono ?_
    rintro e w1 ⟨rfl, x1⟩
    have X := Lib.hid x1
    clear x1
    go_wp2
    go_ret
    exact ⟨rfl, X.out⟩
  by_cases c1 : 1073741824 < real
  · go_enter Try.func11, Try.ntmps11
    go_wp2_with fail
    refine (begun8 w).mono ?_
    rintro e w1 ⟨rfl, x1⟩
    have X := Lib.hid x1
    clear x1
    go_wp2
    go_ret
    exact ⟨rfl, X.out⟩
  by_cases c2 : q < 0
  · go_enter Try.func11, Try.ntmps11
    go_wp2_with fail
    refine (begun8 w).mono ?_
    rintro e w1 ⟨rfl, x1⟩
    have X := Lib.hid x1
    clear x1
    go_wp2
    go_ret
    exact ⟨rfl, X.out⟩
  by_cases c3 : 500000 < q
  · go_enter Try.func11, Try.ntmps11
    go_wp2_with fail
    refine (begun8 w).mono ?_
    rintro e w1 ⟨rfl, x1⟩
    have X := Lib.hid x1
    clear x1
    go_wp2
    go_ret
    exact ⟨rfl, X.out⟩
  by_cases c4 : n < 1
  · go_enter Try.func11, Try.ntmps11
    go_wp2_with fail
    refine (begun8 w).mono ?_
    rintro e w1 ⟨rfl, x1⟩
    have X := Lib.hid x1
    clear x1
    go_wp2
    go_ret
    exact ⟨rfl, X.out⟩
  by_cases c5 : 8 < n
  · go_enter Try.func11, Try.ntmps11
    go_wp2_with fail
    refine (begun8 w).mono ?_
    rintro e w1 ⟨rfl, x1⟩
    have X := Lib.hid x1
    clear x1
    go_wp2
    go_ret
    exact ⟨rfl, X.out⟩
  obtain ⟨i0, hi0, hz0, hz1, hz2⟩ := info_parts infoR
  obtain ⟨j, rfl⟩ : ∃ j : Nat, n = (j : Int) := ⟨n.toNat, by omega⟩
  have hj1 : 1 ≤ j := by omega
  have hj8 : j ≤ 8 := by omega
  obtain ⟨-, -, b1, b2⟩ := lo_hi (n := real) (p := q) (by omega) (by omega) (by omega) (by omega)
  have RG := Lib.hid (step_good (j := j) (real := real) (p := q) (by omega) (by omega) (by omega) (by omega))
  have RB := Lib.hid (step_bad (j := j) (real := real) (p := q) (by omega) (by omega) (by omega) (by omega) (by omega))
  have IG := Lib.hid (rd_small (j := j) (real := real) (c := hiB real q) (by omega) (by omega) b1 (by omega))
  have IB := Lib.hid (rd_small (j := j) (real := real) (c := hiB real q + 1) (by omega) (by omega) (by omega) (by omega))
  have BY := Lib.hid (bounds_yes 0 0 real q (by omega) (by omega) (by omega) (by omega) (by omega) (by omega) (by omega))
  rw [show (0 : Int) + hiB (real - 0) q = hiB real q by rw [Int.sub_zero, Int.zero_add]] at BY
  obtain ⟨lo, hlo⟩ : ∃ lo, lo = (0 : Int) + loB (real - 0) q := ⟨_, rfl⟩
  rw [← hlo] at BY
  clear hlo
  obtain ⟨hi, hhi⟩ : ∃ hi, hi = hiB real q := ⟨_, rfl⟩
  rw [← hhi] at BY RG RB IG IB b1 b2
  clear hhi
  have hmk := fun W => run_make_rowN (P := Try.prog) 43 51 i0 _ Try.underlying43 hi0 hz0 .i64 .i64 j j (Nat.le_refl _) (by rw [hz2]; omega) (by omega) W
  rw [hz1] at hmk
  go_enter Try.func11, Try.ntmps11
  go_wp2_with fail
  refine (begun8 w).mono ?_
  rintro e w1 ⟨rfl, x1⟩
  have X := Lib.hid x1
  clear x1
  go_wp2_with fail
  refine (BY.out _).mono ?_
  rintro e w2 ⟨rfl, x1⟩
  replace X := Lib.hid (X.out.tr x1)
  clear x1
  have MZ := Lib.hid (made_zs j hj8)
  obtain ⟨cur, hcur⟩ : ∃ cur, cur = madeCells (Value.agg #[.int .i64 0, .int .i64 0]).cells (j * 2) := ⟨_, rfl⟩
  rw [← hcur] at hmk MZ
  clear hcur
  have SZ : Hid (SlS 2 (w2.alloc (.cells cur 51)) (some ⟨w2.heap.size, 0, none⟩) j j ((zs0 j).map rdE)) := Lib.hid (SlS.lit w2 j cur (0, 0) _ (by simp [zs0]) (by intro x hx; obtain ⟨d, -, rfl⟩ := List.mem_map.1 hx; rfl) MZ.out (by omega))
  have E3 := Lib.hid (X.out.tr (Ext.alloc w2 (.cells cur 51)))
  go_wp2_with (at_builtin; refine wpList_appS (o := ⟨some 52, _, _, _, _, _⟩) rfl _ _ 43 rfl (w2.heap.size + 1) Try.underlying43 i0 _ 16 hi0 hz0 hz1 hz2 rfl (by decide) none 0 0 [] rfl (OwS.nil _ _ _ _) (some ⟨w2.heap.size, 0, none⟩) j j _ rfl SZ.out one2 (by omega) (by omega) (by simp) ?_)
  intro p3 c3 w3 o3 g3
  have NE : Hid (∀ k, p3.map (·.block) = some k → some k ≠ some w2.heap.size) := Lib.hid (by
    intro k hk e
    have := (o3.lt k hk).1
    injection e
    omega)
  have SZ3 : Hid (SlS 2 w3 (some ⟨w2.heap.size, 0, none⟩) j j ((zs0 j).map rdE)) := Lib.hid (SZ.out.ext (only_ext' g3))
  have O3 : Hid (OwS 51 2 w3 w.heap.size p3 j c3 ((zs0 j).map rdE)) := Lib.hid (OwS.mono (by simpa using o3) (by have := X.out.size; omega))
  have E4 := Lib.hid (Ext.ownS E3.out (OwS.nil 51 2 _ _) g3 rfl)
  clear o3 g3 E3
  have SR : Hid (SlS 2 (w3.alloc (.cells #[.int .i64 real, .int .i64 hi] 51)) (some ⟨w3.heap.size, 0, none⟩) 1 1 ([(real, hi)].map rdE)) := Lib.hid (SlS.lit w3 1 _ (0, 0) _ rfl (by intro x hx; simp [rdE] at hx; subst hx; rfl) rfl (by omega))
  go_wp2_with (at_builtin; refine wpList_appS (o := ⟨some 57, _, _, _, _, _⟩) rfl _ _ 43 rfl w.heap.size Try.underlying43 i0 _ 16 hi0 hz0 hz1 hz2 rfl (by decide) p3 j c3 _ rfl (O3.out.ext (Ext.alloc _ _)) (some ⟨w3.heap.size, 0, none⟩) 1 1 _ rfl SR.out one2 (by omega) (by omega) (by have := E4.out.size; simp; omega) ?_)
  intro p4 c4 w4 o4 g4
  have EA := Lib.hid (Ext.alloc w3 (.cells #[.int .i64 real, .int .i64 hi] 51))
  have SZ4 : Hid (SlS 2 w4 (some ⟨w2.heap.size, 0, none⟩) j j ((zs0 j).map rdE)) := Lib.hid ((SZ3.out.ext EA.out).of_grown g4 (by
    intro k hk e
    exact NE.out k hk e.symm))
  have O4 : Hid (OwS 51 2 w4 w.heap.size p4 (j + 1) c4 ((zs0 j ++ [(real, hi)]).map rdE)) := Lib.hid (by rw [List.map_append]; exact o4)
  have E5 := Lib.hid (Ext.ownS (E4.out.tr EA.out) (O3.out.ext EA.out) g4 rfl)
  clear o4 g4 E4 EA SR SZ3 NE O3
  go_wp2_with (at_builtin; refine wpList_appS (o := ⟨some 59, _, _, _, _, _⟩) rfl _ _ 43 rfl w4.heap.size Try.underlying43 i0 _ 16 hi0 hz0 hz1 hz2 rfl (by decide) none 0 0 [] rfl (OwS.nil _ _ _ _) (some ⟨w2.heap.size, 0, none⟩) j j _ rfl SZ4.out one2 (by omega) (by omega) (by omega) ?_)
  intro p5 c5 w5 o5 g5
  have LT5 := Lib.hid o5.lt
  have E54 := Lib.hid (show w4.heap.size ≤ w5.heap.size from g5.size)
  have O4' : Hid (OwS 51 2 w5 w.heap.size p4 (j + 1) c4 ((zs0 j ++ [(real, hi)]).map rdE)) := Lib.hid (O4.out.ext (only_ext' g5))
  have O5 : Hid (OwS 51 2 w5 w4.heap.size p5 j c5 ((zs0 j).map rdE)) := Lib.hid (by simpa using o5)
  have E6 := Lib.hid (Ext.tr E5.out (only_ext' g5))
  have P4 := Lib.hid O4.out.lt
  clear o5 g5 O4
  have SR : Hid (SlS 2 (w5.alloc (.cells #[.int .i64 real, .int .i64 (hi + 1)] 51)) (some ⟨w5.heap.size, 0, none⟩) 1 1 ([(real, hi + 1)].map rdE)) := Lib.hid (SlS.lit w5 1 _ (0, 0) _ rfl (by intro x hx; simp [rdE] at hx; subst hx; rfl) rfl (by omega))
  have EA := Lib.hid (Ext.alloc w5 (.cells #[.int .i64 real, .int .i64 (hi + 1)] 51))
  go_wp2_with (at_builtin; refine wpList_appS (o := ⟨some 65, _, _, _, _, _⟩) rfl _ _ 43 rfl w4.heap.size Try.underlying43 i0 _ 16 hi0 hz0 hz1 hz2 rfl (by decide) p5 j c5 _ rfl (O5.out.ext EA.out) (some ⟨w5.heap.size, 0, none⟩) 1 1 _ rfl SR.out one2 (by omega) (by omega) (by have := E54.out; simp; omega) ?_)
  intro p6 c6 w6 o6 g6
  have O6 : Hid (OwS 51 2 w6 w4.heap.size p6 (j + 1) c6 ((zs0 j ++ [(real, hi + 1)]).map rdE)) := Lib.hid (by rw [List.map_append]; exact o6)
  have O4'' : Hid (SlS 2 w6 p4 (j + 1) c4 ((zs0 j ++ [(real, hi)]).map rdE)) := Lib.hid ((O4'.out.ext EA.out).sl.of_grown g6 (by
    intro k hk e
    have h1 := (P4.out k e).2
    have h2 := (LT5.out k hk).1
    omega))
  have E7 := Lib.hid (Ext.ownS (E6.out.tr EA.out) ((O5.out.mono (by have := E5.out.size; omega)).ext EA.out) g6 rfl)
  clear o6 g6 O4' O5
  go_wp2_with fail
  refine (may_any O4''.out IG.out).mono ?_
  rw [RG.out, decide_eq_true rfl]
  rintro e w7 ⟨rfl, x1⟩
  replace O6 := Lib.hid (O6.out.ext x1)
  replace E7 := Lib.hid (E7.out.tr x1)
  clear x1
  go_wp2_with fail
  refine (fault_any O6.out.sl IB.out).mono ?_
  rw [RB.out]
  rintro e w8 ⟨rfl, x1⟩
  replace E7 := Lib.hid (E7.out.tr x1)
  clear x1
  go_wp2
  go_ret
  exact ⟨rfl, E7.out⟩
end Go.Proofs.Ytjghjnnmndibcaa
