/-
  The walk of DriftFirst: whatever the readings and the numbers, the law returns true. What an argument of readings reads as.
-/
import Derived.Test.YtjghjnnmndibcaaDrift6
namespace Go.Proofs.Ytjghjnnmndibcaa
open Go Go.Sort Go.RowKit Go.Deep Go.ChangeShapes Go.WideShapes
set_option linter.unusedVariables false

theorem keepB_more {a b : RdD} {p r : Int} (hab : a.1 ≤ b.1) (hp : p ≤ r) (h : keepB a b p = true) : keepB a b r = true := by
  unfold keepB at h ⊢
  simp only [Bool.and_eq_true, decide_eq_true_eq] at h ⊢
  have h1 : (b.1 - a.1) * (1000000 - r) ≤ (b.1 - a.1) * (1000000 - p) := Int.mul_le_mul_of_nonneg_left (by omega) (by omega)
  have h2 : (b.1 - a.1) * (1000000 + p) ≤ (b.1 - a.1) * (1000000 + r) := Int.mul_le_mul_of_nonneg_left (by omega) (by omega)
  exact ⟨h.1, by omega, by omega⟩
theorem fault_more {l : List RdD} {p r : Int} (h : fault l p = -1) (hp : p ≤ r) (hr : r ≤ 500000) : fault l r = -1 := by
  obtain ⟨h1, h2, h3⟩ := fault_iff.1 h
  have := okP_yes h1
  exact fault_iff.2 ⟨by unfold okP; rw [decide_eq_true (show 0 ≤ r by omega), decide_eq_true hr]; rfl, h2, fun i hi k hk => keepB_more (okAt_up h2 i k (by omega) hi) hp (h3 i hi k hk)⟩
theorem gd_take {l : List RdD} {n i : Nat} (h : i < n) : gd (l.take n) i = gd l i := by
  unfold gd
  rw [List.getD_eq_getElem?_getD, List.getD_eq_getElem?_getD, List.getElem?_take, if_pos h]
theorem gd_drop {l : List RdD} {n i : Nat} : gd (l.drop n) i = gd l (n + i) := by
  unfold gd
  rw [List.getD_eq_getElem?_getD, List.getD_eq_getElem?_getD, List.getElem?_drop]
theorem fault_take {l : List RdD} {p : Int} (n : Nat) (h : fault l p = -1) : fault (l.take n) p = -1 := by
  obtain ⟨h1, h2, h3⟩ := fault_iff.1 h
  have hl : (l.take n).length = min n l.length := List.length_take
  refine fault_iff.2 ⟨h1, fun i hi => ?_, fun i hi k hk => ?_⟩
  · have := h2 i (by omega)
    unfold okAt at this ⊢
    rw [gd_take (by omega), gd_take (by omega)]
    exact this
  · rw [gd_take (by omega), gd_take (by omega)]
    exact h3 i (by omega) k hk
theorem fault_drop {l : List RdD} {p : Int} (n : Nat) (h : fault l p = -1) : fault (l.drop n) p = -1 := by
  obtain ⟨h1, h2, h3⟩ := fault_iff.1 h
  have hl : (l.drop n).length = l.length - n := List.length_drop
  refine fault_iff.2 ⟨h1, fun i hi => ?_, fun i hi k hk => ?_⟩
  · have := okAt_T (h2 (n + i) (by omega))
    unfold okAt
    rw [gd_drop, this.1, this.2.1]
    by_cases h0 : i = 0
    · rw [decide_eq_true h0]; rfl
    · have h1 := this.2.2 (by omega)
      rw [show n + i - 1 = n + (i - 1) by omega] at h1
      rw [gd_drop, decide_eq_true h1, Bool.or_true]; rfl
  · rw [gd_drop, gd_drop]
    exact h3 (n + i) (by omega) (n + k) (by omega)
theorem szR : ∀ w, (sizeOf 51).run Try.prog w = .ok 2 w := fun w => by kernel_rfl
theorem list2 {r : List Value} {a b : Value} (h : r.length = 2) (h0 : r[0]? = some a) (h1 : r[1]? = some b) : r = [a, b] := by
  match r, h with
  | [x, y], _ => simp_all
theorem rds_of_arg {H : Type} {enc : TypeId × Value → H} {w : World} {base : Nat} {spare : Nat → Bool} {held : Bool} {fuel : Nat} {p : Option Addr} {n cap : Nat} {x : DataW H × List MemPlace}
    (h : DataW.trod enc Try.prog w base spare held fuel 43 [.slice p n cap] = some x) : ∃ xs : List RdD, SlS 2 w p n cap (xs.map rdE) ∧ ∀ o ∈ xs, I64 o.1 ∧ I64 o.2 := by
  obtain ⟨L, hL, hr⟩ := sls_of_arg Try.underlying43 Try.underlying51 (by kernel_rfl) (by kernel_rfl) (by decide) h
  obtain ⟨xs, rfl, hx⟩ := list_typed (E := rdE) (ok := fun o => I64 o.1 ∧ I64 o.2) L (fun r hr' => by
    obtain ⟨v0, y0, m0, g0, e0⟩ := hr r hr' 0 _ rfl
    obtain ⟨v1, y1, m1, g1, e1⟩ := hr r hr' 1 _ rfl
    obtain ⟨z0, k0, -, w0⟩ := DataW.trod_int Try.underlying2 e0
    obtain ⟨z1, k1, -, w1⟩ := DataW.trod_int Try.underlying2 e1
    obtain rfl : v0 = .int .i64 z0 := by simpa using k0
    obtain rfl : v1 = .int .i64 z1 := by simpa using k1
    exact ⟨⟨z0, z1⟩, list2 (hL.wid r hr') g0 g1, bounds_i64 w0, bounds_i64 w1⟩)
  exact ⟨xs, hL, hx⟩

set_option maxRecDepth 8000 in
set_option maxHeartbeats 8000000 in
theorem walk_DriftFirst {p : Option Addr} {n cap : Nat} {l : List RdD} {q more z : Int} {w : World} (h : SlS 2 w p n cap (l.map rdE)) (hl : ∀ r ∈ l, I64 r.1 ∧ I64 r.2) (hq : I64 q) (hmore : I64 more) (hz : I64 z) :
    Calls Try.prog 10 #[.slice p n cap, .int .i64 q, .int .i64 more, .int .i64 z] w fun e w' => e = .returned (.bool true) ∧ Below w.heap.size w w' := by
  have hn : n ≤ 9223372036854775807 := Nat.le_trans h.le h.max
  have hcap := h.le
  obtain ⟨m, hm⟩ : ∃ m, m = min n 15 := ⟨_, rfl⟩
  have S0 := Lib.hid (h.takeR m (by omega))
  have L := Lib.hid (rd_take (k := m) hl)
  have hms : m ≤ 15 := by omega
  obtain ⟨l', hl'⟩ : ∃ l', l' = l.take m := ⟨_, rfl⟩
  rw [← hl'] at S0 L
  clear hl hl'
  obtain ⟨F, hF⟩ : ∃ F, F = fault l' q := ⟨_, rfl⟩
  have HF := Lib.hid hF
  clear hF
  by_cases hlt : 15 < n
  · obtain ⟨b, o, hp, -⟩ := h.cells (by omega)
    subst hp
    have hm15 : m = 15 := by omega
    subst hm15
    clear h hm
    by_cases c0 : q < 0
    · go_enter Try.func10, Try.ntmps10
      go_wp2_with fail
      refine (begun8 w).mono ?_
      rintro e w1 ⟨rfl, x1⟩
      have X := Lib.hid x1
      clear x1
      go_wp2
      go_ret
      exact ⟨rfl, X.out⟩
    by_cases c1 : more < q
    · go_enter Try.func10, Try.ntmps10
      go_wp2_with fail
      refine (begun8 w).mono ?_
      rintro e w1 ⟨rfl, x1⟩
      have X := Lib.hid x1
      clear x1
      go_wp2
      go_ret
      exact ⟨rfl, X.out⟩
    by_cases c2 : 500000 < more
    · go_enter Try.func10, Try.ntmps10
      go_wp2_with fail
      refine (begun8 w).mono ?_
      rintro e w1 ⟨rfl, x1⟩
      have X := Lib.hid x1
      clear x1
      go_wp2
      go_ret
      exact ⟨rfl, X.out⟩
    by_cases c3 : z < 0
    · go_enter Try.func10, Try.ntmps10
      go_wp2_with fail
      refine (begun8 w).mono ?_
      rintro e w1 ⟨rfl, x1⟩
      have X := Lib.hid x1
      clear x1
      go_wp2
      go_ret
      exact ⟨rfl, X.out⟩
    by_cases c4 : (15 : Int) < z
    · go_enter Try.func10, Try.ntmps10
      go_wp2_with fail
      refine (begun8 w).mono ?_
      rintro e w1 ⟨rfl, x1⟩
      have X := Lib.hid x1
      clear x1
      go_wp2
      go_ret
      exact ⟨rfl, X.out⟩
    by_cases hf : F = -1
    · subst hf
      have R1 := Lib.hid (fault_more HF.out.symm (show q ≤ more by omega) (by omega))
      obtain ⟨j, rfl⟩ : ∃ j : Nat, z = (j : Int) := ⟨z.toNat, by omega⟩
      have hj : j ≤ 15 := by omega
      have R2 := Lib.hid (fault_take j HF.out.symm)
      have R3 := Lib.hid (fault_drop j HF.out.symm)
      have ct := fun w => run_cutS_to (P := Try.prog) 2 43 51 Try.underlying43 szR (some ⟨b, o, none⟩) 15 cap j (by have := S0.out.le; omega) w
      have cf := fun w => run_cutS_from (P := Try.prog) 2 43 51 Try.underlying43 szR (some ⟨b, o, none⟩) 15 cap j hj w
      go_enter Try.func10, Try.ntmps10
      go_wp2_with fail
      refine (begun8 w).mono ?_
      rintro e w1 ⟨rfl, x1⟩
      have X := Lib.hid x1
      clear x1
      go_wp2_with fail
      refine (may_any (S0.out.ext X.out) L.out).mono ?_
      rw [← HF.out, decide_eq_true rfl]
      rintro e w2 ⟨rfl, x1⟩
      replace X := Lib.hid (X.out.tr x1)
      clear x1
      go_wp2_with fail
      refine (may_any (S0.out.ext X.out) L.out).mono ?_
      rw [R1.out, decide_eq_true rfl]
      rintro e w2 ⟨rfl, x1⟩
      replace X := Lib.hid (X.out.tr x1)
      clear x1
      go_wp2_with fail
      refine (may_any ((S0.out.takeR j hj).ext X.out) (rd_take L.out)).mono ?_
      rw [R2.out, decide_eq_true rfl]
      rintro e w2 ⟨rfl, x1⟩
      replace X := Lib.hid (X.out.tr x1)
      clear x1
      go_wp2_with fail
      refine (may_any ((S0.out.dropR j hj).ext X.out) (rd_drop L.out)).mono ?_
      rw [R3.out, decide_eq_true rfl]
      rintro e w2 ⟨rfl, x1⟩
      replace X := Lib.hid (X.out.tr x1)
      clear x1
      go_wp2
      go_ret
      exact ⟨rfl, X.out⟩
    · have HD := Lib.hid (decide_eq_false hf)
      clear hf
      go_enter Try.func10, Try.ntmps10
      go_wp2_with fail
      refine (begun8 w).mono ?_
      rintro e w1 ⟨rfl, x1⟩
      have X := Lib.hid x1
      clear x1
      go_wp2_with fail
      refine (may_any (S0.out.ext X.out) L.out).mono ?_
      rw [← HF.out, HD.out]
      rintro e w2 ⟨rfl, x1⟩
      replace X := Lib.hid (X.out.tr x1)
      clear x1
      go_wp2
      go_ret
      exact ⟨rfl, X.out⟩
  · have hmn : m = n := by omega
    clear h hm
    subst hmn
    by_cases c0 : q < 0
    · go_enter Try.func10, Try.ntmps10
      go_wp2_with fail
      refine (begun8 w).mono ?_
      rintro e w1 ⟨rfl, x1⟩
      have X := Lib.hid x1
      clear x1
      go_wp2
      go_ret
      exact ⟨rfl, X.out⟩
    by_cases c1 : more < q
    · go_enter Try.func10, Try.ntmps10
      go_wp2_with fail
      refine (begun8 w).mono ?_
      rintro e w1 ⟨rfl, x1⟩
      have X := Lib.hid x1
      clear x1
      go_wp2
      go_ret
      exact ⟨rfl, X.out⟩
    by_cases c2 : 500000 < more
    · go_enter Try.func10, Try.ntmps10
      go_wp2_with fail
      refine (begun8 w).mono ?_
      rintro e w1 ⟨rfl, x1⟩
      have X := Lib.hid x1
      clear x1
      go_wp2
      go_ret
      exact ⟨rfl, X.out⟩
    by_cases c3 : z < 0
    · go_enter Try.func10, Try.ntmps10
      go_wp2_with fail
      refine (begun8 w).mono ?_
      rintro e w1 ⟨rfl, x1⟩
      have X := Lib.hid x1
      clear x1
      go_wp2
      go_ret
      exact ⟨rfl, X.out⟩
    by_cases c4 : (m : Int) < z
    · go_enter Try.func10, Try.ntmps10
      go_wp2_with fail
      refine (begun8 w).mono ?_
      rintro e w1 ⟨rfl, x1⟩
      have X := Lib.hid x1
      clear x1
      go_wp2
      go_ret
      exact ⟨rfl, X.out⟩
    by_cases hf : F = -1
    · subst hf
      have R1 := Lib.hid (fault_more HF.out.symm (show q ≤ more by omega) (by omega))
      obtain ⟨j, rfl⟩ : ∃ j : Nat, z = (j : Int) := ⟨z.toNat, by omega⟩
      have hj : j ≤ m := by omega
      have R2 := Lib.hid (fault_take j HF.out.symm)
      have R3 := Lib.hid (fault_drop j HF.out.symm)
      have ct := fun w => run_cutS_to (P := Try.prog) 2 43 51 Try.underlying43 szR p m cap j (by have := S0.out.le; omega) w
      have cf := fun w => run_cutS_from (P := Try.prog) 2 43 51 Try.underlying43 szR p m cap j hj w
      go_enter Try.func10, Try.ntmps10
      go_wp2_with fail
      refine (begun8 w).mono ?_
      rintro e w1 ⟨rfl, x1⟩
      have X := Lib.hid x1
      clear x1
      go_wp2_with fail
      refine (may_any (S0.out.ext X.out) L.out).mono ?_
      rw [← HF.out, decide_eq_true rfl]
      rintro e w2 ⟨rfl, x1⟩
      replace X := Lib.hid (X.out.tr x1)
      clear x1
      go_wp2_with fail
      refine (may_any (S0.out.ext X.out) L.out).mono ?_
      rw [R1.out, decide_eq_true rfl]
      rintro e w2 ⟨rfl, x1⟩
      replace X := Lib.hid (X.out.tr x1)
      clear x1
      go_wp2_with fail
      refine (may_any ((S0.out.takeR j hj).ext X.out) (rd_take L.out)).mono ?_
      rw [R2.out, decide_eq_true rfl]
      rintro e w2 ⟨rfl, x1⟩
      replace X := Lib.hid (X.out.tr x1)
      clear x1
      go_wp2_with fail
      refine (may_any ((S0.out.dropR j hj).ext X.out) (rd_drop L.out)).mono ?_
      rw [R3.out, decide_eq_true rfl]
      rintro e w2 ⟨rfl, x1⟩
      replace X := Lib.hid (X.out.tr x1)
      clear x1
      go_wp2
      go_ret
      exact ⟨rfl, X.out⟩
    · have HD := Lib.hid (decide_eq_false hf)
      clear hf
      go_enter Try.func10, Try.ntmps10
      go_wp2_with fail
      refine (begun8 w).mono ?_
      rintro e w1 ⟨rfl, x1⟩
      have X := Lib.hid x1
      clear x1
      go_wp2_with fail
      refine (may_any (S0.out.ext X.out) L.out).mono ?_
      rw [← HF.out, HD.out]
      rintro e w2 ⟨rfl, x1⟩
      replace X := Lib.hid (X.out.tr x1)
      clear x1
      go_wp2
      go_ret
      exact ⟨rfl, X.out⟩
end Go.Proofs.Ytjghjnnmndibcaa
