/-
  The contracts of the package tide and of its reference: what a clock shows and by how much it lags, at any numbers of 64 bits within its bounds.
-/
import Derived.Test.YtjghjnnmndibcaaSpan
import Derived.Test.YtjghjnnmndibcaaRegion
namespace Go.Proofs.Ytjghjnnmndibcaa
open Go Go.Sort Go.RowKit
set_option linter.unusedVariables false

/-- The block g, from base on, is a struct of two numbers of 64 bits, the call's own. -/
structure Two (w : World) (base g : Nat) (a b : Int) : Prop where
  lo : base ≤ g
  hi : g < w.heap.size
  c0 : w.cell? ⟨g, 0, none⟩ = some (.int .i64 a)
  c1 : w.cell? ⟨g, 1, none⟩ = some (.int .i64 b)
  f0 : w.frozen? ⟨g, 0, none⟩ = false
  f1 : w.frozen? ⟨g, 1, none⟩ = false

theorem Two.ext {w w' : World} {base g : Nat} {a b : Int} (h : Two w base g a b) (k : Ext w w') : Two w' base g a b :=
  ⟨h.lo, Nat.lt_of_lt_of_le h.hi k.size, Ext.cell k h.c0, Ext.cell k h.c1, by rw [Below.frozen k h.hi]; exact h.f0, by rw [Below.frozen k h.hi]; exact h.f1⟩

set_option maxHeartbeats 400000 in
theorem now_any {base g : Nat} {a b : Int} {w : World} (h : Two w base g a b) :
    Calls Try.prog 14 #[.pointer (some ⟨g, 0, none⟩)] w fun e w' => e = .returned (.int .i64 a) ∧ w = w' := by
  have c0 := h.c0
  clear h
  go_enter Try.func14, Try.ntmps14
  go_wp2
  go_ret
  exact ⟨rfl, rfl⟩
set_option maxHeartbeats 400000 in
theorem lag_any {base g : Nat} {a b : Int} {w : World} (h : Two w base g a b) :
    Calls Try.prog 19 #[.pointer (some ⟨g, 0, none⟩)] w fun e w' => e = .returned (.int .i64 b) ∧ w = w' := by
  have c1 := h.c1
  clear h
  go_enter Try.func19, Try.ntmps19
  go_wp2
  go_ret
  exact ⟨rfl, rfl⟩
theorem Two.put0 {w : World} {base g : Nat} {a b : Int} (h : Two w base g a b) (x : Int) : Two (w.setCell ⟨g, 0, none⟩ (.int .i64 x)) base g x b := by
  obtain ⟨lo, hi, c0, c1, f0, f1⟩ := h
  refine ⟨lo, by simpa [World.setCell] using hi, ?_, ?_, ?_, ?_⟩
  · exact World.cell?_setCell_same (h := c0) ..
  · rw [World.cell?_setCell_other (h := by simp)]; exact c1
  · simp [f0]
  · simp [f1]
theorem Two.put1 {w : World} {base g : Nat} {a b : Int} (h : Two w base g a b) (x : Int) : Two (w.setCell ⟨g, 1, none⟩ (.int .i64 x)) base g a x := by
  obtain ⟨lo, hi, c0, c1, f0, f1⟩ := h
  refine ⟨lo, by simpa [World.setCell] using hi, ?_, ?_, ?_, ?_⟩
  · rw [World.cell?_setCell_other (h := by simp)]; exact c0
  · exact World.cell?_setCell_same (h := c1) ..
  · simp [f0]
  · simp [f1]
theorem Two.below0 {w w' : World} {base g : Nat} {a b : Int} (h : Two w base g a b) (k : Below base w' w) (x : Int) : Below base w' (w.setCell ⟨g, 0, none⟩ (.int .i64 x)) := k.setCell h.lo _
theorem Two.below1 {w w' : World} {base g : Nat} {a b : Int} (h : Two w base g a b) (k : Below base w' w) (x : Int) : Below base w' (w.setCell ⟨g, 1, none⟩ (.int .i64 x)) := k.setCell h.lo _
theorem only_refl (w : World) (row : Option Nat) : w.grownBy w row := World.grownBy.refl _ _
theorem only_ext {a w : World} (h : Ext a w) (row : Option Nat) : a.grownBy w row := ⟨h.os, h.tape, h.output, h.size, fun i hi _ => h.block i hi⟩
theorem only_put {a w : World} {g : Nat} (h : a.grownBy w (some g)) (o : Nat) (u : Value) : a.grownBy (w.setCell ⟨g, o, none⟩ u) (some g) :=
  ⟨h.os, h.tape, h.output, by simpa [World.setCell] using h.size, fun i hi hne => (Below.heap_setCell w ⟨g, o, none⟩ u i (by rintro rfl; exact hne rfl)).trans (h.block i hi hne)⟩
theorem only_below {base g : Nat} {w w' : World} (h : w.grownBy w' (some g)) (hb : base ≤ g) (hs : base ≤ w.heap.size) : Below base w w' := (Below.refl _ _).grown h hs (fun k hk => by cases hk; exact hb)
theorem only_tr {a b c : World} {g : Nat} (h : a.grownBy b (some g)) (k : b.grownBy c (some g)) : a.grownBy c (some g) :=
  ⟨k.os.trans h.os, k.tape.trans h.tape, k.output.trans h.output, Nat.le_trans h.size k.size, fun i hi hne => (k.block i (Nat.lt_of_lt_of_le hi h.size) hne).trans (h.block i hi hne)⟩
/-- Another block's struct stays as it is. -/
theorem Two.other {w w' : World} {base g g' : Nat} {a b : Int} (h : Two w base g' a b) (k : w.grownBy w' (some g)) (hne : g' ≠ g) : Two w' base g' a b := by
  have hb : ∀ o, w'.cell? ⟨g', o, none⟩ = w.cell? ⟨g', o, none⟩ := fun o => World.cell?_of_block (k.block g' h.hi (fun e => hne (by injection e)))
  have hf : ∀ o, w'.frozen? ⟨g', o, none⟩ = w.frozen? ⟨g', o, none⟩ := fun o => by
    have := k.block g' h.hi (fun e => hne (by injection e))
    simp only [World.frozen?, this]
  exact ⟨h.lo, Nat.lt_of_lt_of_le h.hi k.size, (hb 0).trans h.c0, (hb 1).trans h.c1, (hf 0).trans h.f0, (hf 1).trans h.f1⟩
def goB (b n : Int) : Int := if n < 0 ∨ 1048576 < n then b else b - min (n - n / 2) b
def goA (a b n : Int) : Int := if n < 0 ∨ 1048576 < n then a else min (a + n - min (n - n / 2) b) 1099511627776
theorem go_done {w : World} {base g : Nat} {a b v0 v1 A B : Int} (h : Two w base g a b) (e1 : v1 = B) (e0 : v0 = A) :
    Ending.returned (.int .i64 v0) = .returned (.int .i64 A) ∧ Two ((w.setCell ⟨g, 1, none⟩ (.int .i64 v1)).setCell ⟨g, 0, none⟩ (.int .i64 v0)) base g A B ∧ w.grownBy ((w.setCell ⟨g, 1, none⟩ (.int .i64 v1)).setCell ⟨g, 0, none⟩ (.int .i64 v0)) (some g) := by
  subst e1 e0
  exact ⟨rfl, (h.put1 _).put0 _, only_put (only_put (only_refl _ _) _ _) _ _⟩

set_option maxHeartbeats 1000000 in
theorem go_only {base g : Nat} {a b n : Int} {w : World} (h : Two w base g a b) (ha : 0 ≤ a) (ha2 : a ≤ 1099511627776) (hb : 0 ≤ b) (hb2 : b ≤ 2199023255552) (hn : -9223372036854775808 ≤ n) (hn2 : n ≤ 9223372036854775807) :
    Calls Try.prog 15 #[.pointer (some ⟨g, 0, none⟩), .int .i64 n] w fun e w' => e = .returned (.int .i64 (goA a b n)) ∧ Two w' base g (goA a b n) (goB b n) ∧ w.grownBy w' (some g) := by
  have H := Lib.hid h
  have c0 := h.c0
  have c1 := h.c1
  have f0 := h.f0
  have f1 := h.f1
  clear h
  obtain ⟨A, hA⟩ : ∃ A, A = goA a b n := ⟨_, rfl⟩
  obtain ⟨B, hB⟩ : ∃ B, B = goB b n := ⟨_, rfl⟩
  rw [← hA, ← hB]
  by_cases hr : n < 0 ∨ 1048576 < n
  · rw [goA, if_pos hr] at hA
    rw [goB, if_pos hr] at hB
    subst hA hB
    by_cases hr1 : n < 0
    all_goals
      go_enter Try.func15, Try.ntmps15
      go_wp2
      go_ret
      exact ⟨rfl, H.out, only_refl _ _⟩
  · rw [goA, if_neg hr] at hA
    rw [goB, if_neg hr] at hB
    have HA := Lib.hid hA
    have HB := Lib.hid hB
    clear hA hB
    by_cases h1 : b < n - n / 2
    all_goals
      by_cases h2 : 1099511627776 < a + n - min (n - n / 2) b
      all_goals
        go_enter Try.func15, Try.ntmps15
        go_wp2
        all_goals
          go_ret
          exact go_done H.out (by rw [HB.out]; omega) (by rw [HA.out]; omega)

theorem two_wf' {a b : Int} (ha : I64 a) (hb : I64 b) : ∀ x ∈ [a, b], (Lit.int .i64 x).wf = true := by
  intro y hy
  simp at hy
  rcases hy with rfl | rfl
  · exact i64_wf ha
  · exact i64_wf hb
theorem two_sl (w : World) {lo hi : Int} (hl : I64 lo) (hh : I64 hi) :
    SlI .i64 ((w.alloc (.cells #[.int .i64 lo, .int .i64 hi] 36)).alloc (.cells #[.int .i64 lo, .int .i64 hi] 2)) (some ⟨w.heap.size + 1, 0, none⟩) 2 2 [lo, hi] := by
  have h := SlI.lit .i64 2 (w.alloc (.cells #[.int .i64 lo, .int .i64 hi] 36)) 2 #[.int .i64 lo, .int .i64 hi] (0, 0) [lo, hi] rfl rfl (by omega) (two_wf' hl hh)
  rw [show (w.alloc (.cells #[.int .i64 lo, .int .i64 hi] 36)).heap.size = w.heap.size + 1 by simp] at h
  exact h
def okR (lo hi : Int) : Bool := decide (lo ≤ hi) && isT lo && isT hi
def rtA (a lo hi : Int) : Int := if okR lo hi = true ∧ ¬ hi < a then max a lo else a
def rtB (a b lo hi : Int) : Int := if okR lo hi = true then (if hi < a then a - hi else 0) else b
set_option maxRecDepth 8000 in
set_option maxHeartbeats 1000000 in
theorem right_only {base g : Nat} {a b lo hi : Int} {w : World} (h : Two w base g a b) (ha : 0 ≤ a) (ha2 : a ≤ 1099511627776) (hl : I64 lo) (hh : I64 hi) :
    Calls Try.prog 17 #[.pointer (some ⟨g, 0, none⟩), .agg #[.int .i64 lo, .int .i64 hi]] w fun e w' => e = .returned (.int .i64 (rtA a lo hi)) ∧ Two w' base g (rtA a lo hi) (rtB a b lo hi) ∧ w.grownBy w' (some g) := by
  have H := Lib.hid h
  have c0 := h.c0
  have c1 := h.c1
  have f0 := h.f0
  have f1 := h.f1
  have hsz := h.hi
  clear h
  obtain ⟨A, hA⟩ : ∃ A, A = rtA a lo hi := ⟨_, rfl⟩
  obtain ⟨B, hB⟩ : ∃ B, B = rtB a b lo hi := ⟨_, rfl⟩
  rw [← hA, ← hB]
  by_cases h0 : hi < lo
  · have hz : okR lo hi = false := by unfold okR; rw [decide_eq_false (by omega)]; rfl
    rw [rtA, hz, if_neg (by simp)] at hA
    rw [rtB, hz, if_neg (by simp)] at hB
    subst hA hB
    go_enter Try.func17, Try.ntmps17
    go_wp2
    go_ret
    exact ⟨rfl, H.out.ext (Ext.alloc w _), only_ext (Ext.alloc w _) _⟩
  · cases ht : [lo, hi].all isT
    · have hz : okR lo hi = false := by unfold okR; rw [decide_eq_true (by omega)]; simpa using ht
      rw [rtA, hz, if_neg (by simp)] at hA
      rw [rtB, hz, if_neg (by simp)] at hB
      subst hA hB
      go_enter Try.func17, Try.ntmps17
      go_wp2_with fail
      refine (time_any (two_sl w hl hh)).mono ?_
      rw [ht]
      rintro e w2 ⟨rfl, rfl⟩
      go_wp2
      go_ret
      exact ⟨rfl, H.out.ext ((Ext.alloc w _).tr (Ext.alloc _ _)), only_ext ((Ext.alloc w _).tr (Ext.alloc _ _)) _⟩
    · have hz : okR lo hi = true := by unfold okR; rw [decide_eq_true (by omega)]; simpa using ht
      obtain ⟨b1, b2, b3, b4⟩ : -1099511627776 ≤ lo ∧ lo ≤ 1099511627776 ∧ -1099511627776 ≤ hi ∧ hi ≤ 1099511627776 := by
        have h2 : isT lo = true ∧ isT hi = true := by simpa using ht
        have := isT_yes h2.1
        have := isT_yes h2.2
        omega
      by_cases h1 : hi < a
      · rw [rtA, if_neg (by simp [h1])] at hA
        rw [rtB, if_pos hz, if_pos h1] at hB
        subst hA hB
        go_enter Try.func17, Try.ntmps17
        go_wp2_with fail
        refine (time_any (two_sl w hl hh)).mono ?_
        rw [ht]
        rintro e w2 ⟨rfl, rfl⟩
        go_wp2_with fail
        go_quiet (fail)
        go_wp2_with fail
        go_region
        go_wp2
        go_ret
        exact ⟨rfl, (H.out.ext (((Ext.alloc w _).tr (Ext.alloc _ _)).tr (Ext.drewN _ _))).put1 _, only_put (only_ext (((Ext.alloc w _).tr (Ext.alloc _ _)).tr (Ext.drewN _ _)) _) _ _⟩
      · have hmx : ∀ ts t w, (Builtin.max_ ts t #[.int .i64 a, .int .i64 lo]).run Try.prog w = .ok (.int .i64 (max a lo)) w := fun ts t w => by
          rw [run_max_int2]
          congr 2
          split <;> omega
        rw [rtA, if_pos ⟨hz, h1⟩] at hA
        rw [rtB, if_pos hz, if_neg h1] at hB
        subst hB
        rw [← hA] at hmx
        have HA := Lib.hid hA
        clear hA
        go_enter Try.func17, Try.ntmps17
        go_wp2_with fail
        refine (time_any (two_sl w hl hh)).mono ?_
        rw [ht]
        rintro e w2 ⟨rfl, rfl⟩
        go_wp2_with fail
        go_quiet (fail)
        go_wp2_with fail
        go_region
        have E := H.out.ext (((Ext.alloc w (.cells #[.int .i64 lo, .int .i64 hi] 36)).tr (Ext.alloc _ (.cells #[.int .i64 lo, .int .i64 hi] 2))).tr (Ext.drewN _ (nq + 1)))
        have c0' := ((E.put0 A).put1 0).c0
        have HE := Lib.hid E
        clear E
        go_wp2
        go_ret
        exact ⟨rfl, (HE.out.put0 _).put1 _, only_put (only_put (only_ext (((Ext.alloc w _).tr (Ext.alloc _ _)).tr (Ext.drewN _ _)) _) _ _) _ _⟩

theorem two_new (w : World) (a b : Int) {t : TypeId} : Two (w.alloc (.cells #[.int .i64 a, .int .i64 b] t)) w.heap.size w.heap.size a b :=
  ⟨Nat.le_refl _, by simp, World.cell?_alloc_mark .., World.cell?_alloc_mark .., World.frozen?_alloc_at _ _ _ _ rfl, World.frozen?_alloc_at _ _ _ _ rfl⟩
theorem two_new' (w : World) (a b : Int) {t : TypeId} {k : Nat} (hk : k = w.heap.size) : Two (w.alloc (.cells #[.int .i64 a, .int .i64 b] t)) w.heap.size k a b := by subst hk; exact two_new w a b
theorem Two.base {w : World} {base base' g : Nat} {a b : Int} (h : Two w base g a b) (hb : base' ≤ base) : Two w base' g a b := ⟨Nat.le_trans hb h.lo, h.hi, h.c0, h.c1, h.f0, h.f1⟩
def newA (n : Int) : Int := if n < 0 ∨ ¬ isT n = true then 0 else n
set_option maxHeartbeats 400000 in
theorem new_any {n : Int} {w : World} (hn : I64 n) :
    Calls Try.prog 13 #[.int .i64 n] w fun e w' => ∃ g, e = .returned (.pointer (some ⟨g, 0, none⟩)) ∧ Two w' w.heap.size g (newA n) 0 ∧ Ext w w' := by
  obtain ⟨A, hA⟩ : ∃ A, A = newA n := ⟨_, rfl⟩
  rw [← hA]
  by_cases h0 : n < 0
  · rw [newA, if_pos (.inl h0)] at hA
    subst hA
    go_enter Try.func13, Try.ntmps13
    go_wp2
    go_ret
    exact ⟨_, rfl, two_new w 0 0, Ext.alloc w _⟩
  · cases ht : [n].all isT
    · rw [newA, if_pos (.inr (by simpa using ht))] at hA
      subst hA
      go_enter Try.func13, Try.ntmps13
      go_wp2_with fail
      refine (time_any (zs := [n]) (SlI.lit .i64 2 w 1 _ (0, 0) [n] rfl rfl (by omega) (by intro y hy; simp at hy; subst hy; exact i64_wf hn))).mono ?_
      rw [ht]
      rintro e w2 ⟨rfl, rfl⟩
      go_wp2
      go_ret
      exact ⟨_, rfl, Two.base (two_new' _ 0 0 (by simp)) (by simp), (Ext.alloc w _).tr (Ext.alloc _ _)⟩
    · rw [newA, if_neg (by simp only [not_or, Decidable.not_not]; exact ⟨h0, by simpa using ht⟩)] at hA
      rw [hA]
      clear hA
      go_enter Try.func13, Try.ntmps13
      go_wp2_with fail
      refine (time_any (zs := [n]) (SlI.lit .i64 2 w 1 _ (0, 0) [n] rfl rfl (by omega) (by intro y hy; simp at hy; subst hy; exact i64_wf hn))).mono ?_
      rw [ht]
      rintro e w2 ⟨rfl, rfl⟩
      go_wp2
      go_ret
      exact ⟨_, rfl, Two.base (two_new' _ _ 0 (by simp)) (by simp), (Ext.alloc w _).tr (Ext.alloc _ _)⟩
theorem go_any {base g : Nat} {a b n : Int} {w : World} (h : Two w base g a b) (ha : 0 ≤ a) (ha2 : a ≤ 1099511627776) (hb : 0 ≤ b) (hb2 : b ≤ 2199023255552) (hn : -9223372036854775808 ≤ n) (hn2 : n ≤ 9223372036854775807) :
    Calls Try.prog 15 #[.pointer (some ⟨g, 0, none⟩), .int .i64 n] w fun e w' => e = .returned (.int .i64 (goA a b n)) ∧ Two w' base g (goA a b n) (goB b n) ∧ Below base w w' :=
  (go_only h ha ha2 hb hb2 hn hn2).mono fun _ _ ⟨h1, h2, h3⟩ => ⟨h1, h2, only_below h3 h.lo (Nat.le_of_lt (Nat.lt_of_le_of_lt h.lo h.hi))⟩
theorem right_any {base g : Nat} {a b lo hi : Int} {w : World} (h : Two w base g a b) (ha : 0 ≤ a) (ha2 : a ≤ 1099511627776) (hl : I64 lo) (hh : I64 hi) :
    Calls Try.prog 17 #[.pointer (some ⟨g, 0, none⟩), .agg #[.int .i64 lo, .int .i64 hi]] w fun e w' => e = .returned (.int .i64 (rtA a lo hi)) ∧ Two w' base g (rtA a lo hi) (rtB a b lo hi) ∧ Below base w w' :=
  (right_only h ha ha2 hl hh).mono fun _ _ ⟨h1, h2, h3⟩ => ⟨h1, h2, only_below h3 h.lo (Nat.le_of_lt (Nat.lt_of_le_of_lt h.lo h.hi))⟩
end Go.Proofs.Ytjghjnnmndibcaa
