/-
  The walk of TideAll: whatever the numbers and the operations, the law returns true.
-/
import Derived.Test.YtjghjnnmndibcaaTide5
import Derived.Test.YtjghjnnmndibcaaStructs
namespace Go.Proofs.Ytjghjnnmndibcaa
open Go Go.Sort Go.RowKit
set_option linter.unusedVariables false

theorem quiet_left {P : Program} {f : FuncId} {args : Array Value} {w : World} {n : Nat} {v : Value}
    (h : Calls P f args (w.drewN n) fun e w' => e = .returned v ∧ w.drewN n = w') : Calls P f args (w.drewN n) fun e w'' => e = .returned v ∧ ∃ m, w'' = w.drewN m :=
  h.mono fun _ _ ⟨he, hm⟩ => ⟨he, n, hm.symm⟩
structure OpD where
  k : Int
  n : Int
  lo : Int
  hi : Int
def opE (o : OpD) : List Value := [.int .i64 o.k, .int .i64 o.n, .int .i64 o.lo, .int .i64 o.hi]
def opOk (o : OpD) : Prop := I64 o.k ∧ I64 o.n ∧ I64 o.lo ∧ I64 o.hi

theorem go_bd {a b n : Int} (h0 : 0 ≤ a) (h1 : a ≤ 1099511627776) (h2 : 0 ≤ b) (h3 : b ≤ 2199023255552) : a ≤ goA a b n ∧ goA a b n ≤ 1099511627776 ∧ 0 ≤ goB b n ∧ goB b n ≤ 2199023255552 := by
  unfold goA goB
  split <;> omega
theorem rt_bd {a b lo hi : Int} (h0 : 0 ≤ a) (h1 : a ≤ 1099511627776) (h2 : 0 ≤ b) (h3 : b ≤ 2199023255552) : a ≤ rtA a lo hi ∧ rtA a lo hi ≤ 1099511627776 ∧ 0 ≤ rtB a b lo hi ∧ rtB a b lo hi ≤ 2199023255552 := by
  unfold rtA rtB
  cases hz : okR lo hi
  · simp; omega
  · have h : -1099511627776 ≤ lo ∧ lo ≤ 1099511627776 ∧ -1099511627776 ≤ hi ∧ hi ≤ 1099511627776 := by
      unfold okR at hz
      simp only [Bool.and_eq_true] at hz
      have := isT_yes hz.1.2
      have := isT_yes hz.2
      omega
    by_cases hh : hi < a
    · simp [hh]; omega
    · simp [hh]; omega
theorem new_bd (n : Int) : 0 ≤ newA n ∧ newA n ≤ 1099511627776 := by
  unfold newA
  split
  · omega
  · have : isT n = true := by simp_all
    have := isT_yes this
    omega
/-- Two clocks that show the same. -/
def Twin (w : World) (base g g' : Nat) : Prop := ∃ a b, Two w base g a b ∧ Two w base g' a b ∧ 0 ≤ a ∧ a ≤ 1099511627776 ∧ 0 ≤ b ∧ b ≤ 2199023255552

theorem newA_is {now : Int} : newA now = if now < 0 then 0 else if 1099511627776 < now then 0 else now := by
  unfold newA
  by_cases h : now < 0
  · simp [h]
  · by_cases h2 : 1099511627776 < now
    · have : isT now = false := by cases hh : isT now with
        | false => rfl
        | true => have := isT_yes hh; omega
      simp [this, h, h2]
    · have : isT now = true := (isT_iff now).2 ⟨by omega, by omega⟩
      simp [this, h, h2]



set_option maxRecDepth 8000 in
set_option maxHeartbeats 4000000 in
theorem walk_TideAll {now : Int} {p : Option Addr} {n cap : Nat} {xs : List OpD} {w : World} (h1 : I64 now) (h2 : SlS 4 w p n cap (xs.map opE)) (h3 : ∀ o ∈ xs, opOk o) :
    Calls Try.prog 3 #[.int .i64 now, .slice p n cap] w fun e w' => e = .returned (.bool true) ∧ Below w.heap.size w w' := by
  have hn : n ≤ 9223372036854775807 := Nat.le_trans h2.le h2.max
  have S := Lib.hid h2
  have O := Lib.hid h3
  clear h2 h3
  have hb := new_bd now
  obtain ⟨v, hv⟩ : ∃ v, v = newA now := ⟨_, rfl⟩
  rw [← hv] at hb
  obtain ⟨hb1, hb2⟩ := hb
  have HV := Lib.hid hv
  rw [newA_is] at hv
  by_cases c0 : now < 0
  · rw [if_pos c0] at hv
    subst hv
    go_enter Try.func3, Try.ntmps3
    go_wp2_with fail
    refine (begun11 w).mono ?_
    rintro e w1 ⟨rfl, x1⟩
    have X := Lib.hid x1
    clear x1
    go_wp2_with fail
    refine (new_any h1).mono ?_
    rw [← HV.out]
    rintro e w2 ⟨g, rfl, t1, x1⟩
    have T := Lib.hid (t1.base X.out.size)
    replace X := Lib.hid (X.out.tr x1)
    clear t1 x1
    go_wp2
    have T1 : Hid (Two (w2.alloc (.cells #[.int .i64 0, .int .i64 0] 28)) w.heap.size g 0 0) := Lib.hid (T.out.ext (Ext.alloc _ _))
    have T2 : Hid (Two (w2.alloc (.cells #[.int .i64 0, .int .i64 0] 28)) w.heap.size w2.heap.size 0 0) := Lib.hid ((two_new w2 0 0).base X.out.size)
    have X2 : Hid (Ext w (w2.alloc (.cells #[.int .i64 0, .int .i64 0] 28))) := Lib.hid (X.out.tr (Ext.alloc _ _))
    have hne : Hid (g ≠ w2.heap.size) := Lib.hid (by have := T.out.hi; omega)
    clear T X
    go_loopw [8] (fun i wr => ∃ k : Nat, k ≤ n ∧ i = .int .i64 (k : Int) ∧ Twin wr w.heap.size g w2.heap.size ∧ Below w.heap.size w wr) (fun i _ => n - (intOf i).toNat)
    case atStart => exact ⟨0, by omega, rfl, ⟨0, 0, T1.out, T2.out, by omega, by omega, by omega, by omega⟩, X2.out⟩
    case round =>
      clear T1 T2 X2
      obtain ⟨k, hk, rfl, ⟨a, b, t1, t2, ha1, ha2, hb1, hb2⟩, hbl⟩ := hrel
      have T := Lib.hid t1
      have R := Lib.hid t2
      have B := Lib.hid hbl
      clear t1 t2 hbl
      generalize w2.heap.size = g' at *
      by_cases hlt : k < n
      · by_cases h60 : (k : Int) < 60
        · obtain ⟨bb, oo, x, hp, hx, hxl, hcell⟩ := S.out.at k hlt
          have GH : Hid (g < wr.heap.size) := Lib.hid T.out.hi
          rw [List.getElem?_map] at hx
          obtain ⟨o, ho, hoe⟩ := Option.map_eq_some_iff.1 hx
          have OK := Lib.hid (O.out o (List.mem_of_getElem? ho))
          obtain ⟨oa, on, ol, oh⟩ := o
          subst hoe hp
          have e0 : wr.cell? ⟨bb, oo + k * 4, none⟩ = _ := Ext.cell B.out (hcell 0 _ rfl)
          have e1 := Ext.cell B.out (hcell 1 _ rfl)
          have e2 := Ext.cell B.out (hcell 2 _ rfl)
          have e3 := Ext.cell B.out (hcell 3 _ rfl)
          clear hcell hx hxl ho
          simp only [] at e0 e1 e2 e3
          have d1 : (wr.alloc (.cells #[.int .i64 oa, .int .i64 on, .int .i64 ol, .int .i64 oh] 30)).cell? ⟨wr.heap.size, 1, none⟩ = some (.int .i64 on) := World.cell?_alloc_mark ..
          have d2 : (wr.alloc (.cells #[.int .i64 oa, .int .i64 on, .int .i64 ol, .int .i64 oh] 30)).cell? ⟨wr.heap.size, 2, none⟩ = some (.int .i64 ol) := World.cell?_alloc_mark ..
          have d3 : (wr.alloc (.cells #[.int .i64 oa, .int .i64 on, .int .i64 ol, .int .i64 oh] 30)).cell? ⟨wr.heap.size, 3, none⟩ = some (.int .i64 oh) := World.cell?_alloc_mark ..
          have D1 := Lib.hid d1
          have D2 := Lib.hid d2
          have D3 := Lib.hid d3
          clear d1 d2 d3
          replace T := Lib.hid (T.out.ext (Ext.alloc wr (.cells #[.int .i64 oa, .int .i64 on, .int .i64 ol, .int .i64 oh] 30)))
          replace R := Lib.hid (R.out.ext (Ext.alloc wr (.cells #[.int .i64 oa, .int .i64 on, .int .i64 ol, .int .i64 oh] 30)))
          have hgr : Hid (wr.heap.size ≠ g) := Lib.hid (by have := GH.out; omega)
          have B2 : Hid (Below w.heap.size w (wr.alloc (.cells #[.int .i64 oa, .int .i64 on, .int .i64 ol, .int .i64 oh] 30))) := Lib.hid (B.out.alloc B.out.size _)
          by_cases hz : oa = 0
          · subst hz
            obtain ⟨q1, q2, q3, q4⟩ := go_bd (a := a) (b := b) (n := on) (by omega) (by omega) (by omega) (by omega)
            obtain ⟨A, hA⟩ : ∃ A, A = goA a b on := ⟨_, rfl⟩
            obtain ⟨B', hB⟩ : ∃ B', B' = goB b on := ⟨_, rfl⟩
            rw [← hA] at q1 q2
            rw [← hB] at q3 q4
            have HA := Lib.hid hA
            have HB := Lib.hid hB
            clear hA hB
            go_wp2_with fail
            refine (now_any T.out).mono ?_
            rintro e w4 ⟨rfl, rfl⟩
            go_wp2_with fail
            refine (go_only T.out (by omega) (by omega) (by omega) (by omega) OK.out.2.1.1 OK.out.2.1.2).mono ?_
            rw [← HA.out, ← HB.out]
            rintro e w5 ⟨rfl, u1, u2⟩
            have d5 := u2.cell D1.out (fun e => hgr.out (by injection e))
            replace T := Lib.hid u1
            replace R := Lib.hid (R.out.other u2 (Ne.symm hne.out))
            replace B2 := Lib.hid (Below.trans B2.out (only_below u2 u1.lo (by have := B2.out.size; omega)))
            clear u1 u2
            go_wp2_with fail
            refine (rgo_only R.out (by omega) (by omega) (by omega) (by omega) OK.out.2.1.1 OK.out.2.1.2).mono ?_
            rw [← HA.out, ← HB.out]
            rintro e w6 ⟨rfl, u1, u2⟩
            replace T := Lib.hid (T.out.other u2 hne.out)
            replace R := Lib.hid u1
            replace B2 := Lib.hid (Below.trans B2.out (only_below u2 u1.lo (by have := B2.out.size; omega)))
            clear u1 u2 d5
            have c0' := R.out.c0
            have c1' := R.out.c1
            have hA2 : decide (A < a) = false := decide_eq_false (by omega)
            go_wp2_with fail
            go_quiet (first | ((go_at_call 14; exact quiet_left (now_any (T.out.ext (Ext.drewN _ _))))) | ((go_at_call 19; exact quiet_left (lag_any (T.out.ext (Ext.drewN _ _))))))
            go_wp2
            go_round
            case rel => exact ⟨k + 1, by omega, by go_num, ⟨A, B', T.out.ext (Ext.drewN _ _), R.out.ext (Ext.drewN _ _), by omega, by omega, by omega, by omega⟩, B2.out.trans (Below.mono (Ext.drewN _ _) (by have := B2.out.size; omega))⟩
            case measure => simp [intOf]; omega
          · have hz2 : ((oa : Int) == 0) = false := by simpa using hz
            obtain ⟨q1, q2, q3, q4⟩ := rt_bd (a := a) (b := b) (lo := ol) (hi := oh) (by omega) (by omega) (by omega) (by omega)
            obtain ⟨A, hA⟩ : ∃ A, A = rtA a ol oh := ⟨_, rfl⟩
            obtain ⟨B', hB⟩ : ∃ B', B' = rtB a b ol oh := ⟨_, rfl⟩
            rw [← hA] at q1 q2
            rw [← hB] at q3 q4
            have HA := Lib.hid hA
            have HB := Lib.hid hB
            clear hA hB
            go_wp2_with fail
            refine (now_any T.out).mono ?_
            rintro e w4 ⟨rfl, rfl⟩
            go_wp2_with fail
            refine (right_only T.out (by omega) (by omega) OK.out.2.2.1 OK.out.2.2.2).mono ?_
            rw [← HA.out, ← HB.out]
            rintro e w5 ⟨rfl, u1, u2⟩
            have d5 := u2.cell D2.out (fun e => hgr.out (by injection e))
            have d6 := u2.cell D3.out (fun e => hgr.out (by injection e))
            replace T := Lib.hid u1
            replace R := Lib.hid (R.out.other u2 (Ne.symm hne.out))
            replace B2 := Lib.hid (Below.trans B2.out (only_below u2 u1.lo (by have := B2.out.size; omega)))
            clear u1 u2
            go_wp2_with fail
            refine (rright_only R.out (by omega) (by omega) OK.out.2.2.1 OK.out.2.2.2).mono ?_
            rw [← HA.out, ← HB.out]
            rintro e w6 ⟨rfl, u1, u2⟩
            replace T := Lib.hid (T.out.other u2 hne.out)
            replace R := Lib.hid u1
            replace B2 := Lib.hid (Below.trans B2.out (only_below u2 u1.lo (by have := B2.out.size; omega)))
            clear u1 u2 d5 d6
            have c0' := R.out.c0
            have c1' := R.out.c1
            have hA2 : decide (A < a) = false := decide_eq_false (by omega)
            go_wp2_with fail
            go_quiet (first | ((go_at_call 14; exact quiet_left (now_any (T.out.ext (Ext.drewN _ _))))) | ((go_at_call 19; exact quiet_left (lag_any (T.out.ext (Ext.drewN _ _))))))
            go_wp2
            go_round
            case rel => exact ⟨k + 1, by omega, by go_num, ⟨A, B', T.out.ext (Ext.drewN _ _), R.out.ext (Ext.drewN _ _), by omega, by omega, by omega, by omega⟩, B2.out.trans (Below.mono (Ext.drewN _ _) (by have := B2.out.size; omega))⟩
            case measure => simp [intOf]; omega
        · go_wp2
          go_ret
          exact ⟨rfl, B.out⟩
      · go_wp2
        go_ret
        exact ⟨rfl, B.out⟩
  by_cases c1 : 1099511627776 < now
  · rw [if_neg c0, if_pos c1] at hv
    subst hv
    go_enter Try.func3, Try.ntmps3
    go_wp2_with fail
    refine (begun11 w).mono ?_
    rintro e w1 ⟨rfl, x1⟩
    have X := Lib.hid x1
    clear x1
    go_wp2_with fail
    refine (new_any h1).mono ?_
    rw [← HV.out]
    rintro e w2 ⟨g, rfl, t1, x1⟩
    have T := Lib.hid (t1.base X.out.size)
    replace X := Lib.hid (X.out.tr x1)
    clear t1 x1
    go_wp2
    have T1 : Hid (Two (w2.alloc (.cells #[.int .i64 0, .int .i64 0] 28)) w.heap.size g 0 0) := Lib.hid (T.out.ext (Ext.alloc _ _))
    have T2 : Hid (Two (w2.alloc (.cells #[.int .i64 0, .int .i64 0] 28)) w.heap.size w2.heap.size 0 0) := Lib.hid ((two_new w2 0 0).base X.out.size)
    have X2 : Hid (Ext w (w2.alloc (.cells #[.int .i64 0, .int .i64 0] 28))) := Lib.hid (X.out.tr (Ext.alloc _ _))
    have hne : Hid (g ≠ w2.heap.size) := Lib.hid (by have := T.out.hi; omega)
    clear T X
    go_loopw [8] (fun i wr => ∃ k : Nat, k ≤ n ∧ i = .int .i64 (k : Int) ∧ Twin wr w.heap.size g w2.heap.size ∧ Below w.heap.size w wr) (fun i _ => n - (intOf i).toNat)
    case atStart => exact ⟨0, by omega, rfl, ⟨0, 0, T1.out, T2.out, by omega, by omega, by omega, by omega⟩, X2.out⟩
    case round =>
      clear T1 T2 X2
      obtain ⟨k, hk, rfl, ⟨a, b, t1, t2, ha1, ha2, hb1, hb2⟩, hbl⟩ := hrel
      have T := Lib.hid t1
      have R := Lib.hid t2
      have B := Lib.hid hbl
      clear t1 t2 hbl
      generalize w2.heap.size = g' at *
      by_cases hlt : k < n
      · by_cases h60 : (k : Int) < 60
        · obtain ⟨bb, oo, x, hp, hx, hxl, hcell⟩ := S.out.at k hlt
          have GH : Hid (g < wr.heap.size) := Lib.hid T.out.hi
          rw [List.getElem?_map] at hx
          obtain ⟨o, ho, hoe⟩ := Option.map_eq_some_iff.1 hx
          have OK := Lib.hid (O.out o (List.mem_of_getElem? ho))
          obtain ⟨oa, on, ol, oh⟩ := o
          subst hoe hp
          have e0 : wr.cell? ⟨bb, oo + k * 4, none⟩ = _ := Ext.cell B.out (hcell 0 _ rfl)
          have e1 := Ext.cell B.out (hcell 1 _ rfl)
          have e2 := Ext.cell B.out (hcell 2 _ rfl)
          have e3 := Ext.cell B.out (hcell 3 _ rfl)
          clear hcell hx hxl ho
          simp only [] at e0 e1 e2 e3
          have d1 : (wr.alloc (.cells #[.int .i64 oa, .int .i64 on, .int .i64 ol, .int .i64 oh] 30)).cell? ⟨wr.heap.size, 1, none⟩ = some (.int .i64 on) := World.cell?_alloc_mark ..
          have d2 : (wr.alloc (.cells #[.int .i64 oa, .int .i64 on, .int .i64 ol, .int .i64 oh] 30)).cell? ⟨wr.heap.size, 2, none⟩ = some (.int .i64 ol) := World.cell?_alloc_mark ..
          have d3 : (wr.alloc (.cells #[.int .i64 oa, .int .i64 on, .int .i64 ol, .int .i64 oh] 30)).cell? ⟨wr.heap.size, 3, none⟩ = some (.int .i64 oh) := World.cell?_alloc_mark ..
          have D1 := Lib.hid d1
          have D2 := Lib.hid d2
          have D3 := Lib.hid d3
          clear d1 d2 d3
          replace T := Lib.hid (T.out.ext (Ext.alloc wr (.cells #[.int .i64 oa, .int .i64 on, .int .i64 ol, .int .i64 oh] 30)))
          replace R := Lib.hid (R.out.ext (Ext.alloc wr (.cells #[.int .i64 oa, .int .i64 on, .int .i64 ol, .int .i64 oh] 30)))
          have hgr : Hid (wr.heap.size ≠ g) := Lib.hid (by have := GH.out; omega)
          have B2 : Hid (Below w.heap.size w (wr.alloc (.cells #[.int .i64 oa, .int .i64 on, .int .i64 ol, .int .i64 oh] 30))) := Lib.hid (B.out.alloc B.out.size _)
          by_cases hz : oa = 0
          · subst hz
            obtain ⟨q1, q2, q3, q4⟩ := go_bd (a := a) (b := b) (n := on) (by omega) (by omega) (by omega) (by omega)
            obtain ⟨A, hA⟩ : ∃ A, A = goA a b on := ⟨_, rfl⟩
            obtain ⟨B', hB⟩ : ∃ B', B' = goB b on := ⟨_, rfl⟩
            rw [← hA] at q1 q2
            rw [← hB] at q3 q4
            have HA := Lib.hid hA
            have HB := Lib.hid hB
            clear hA hB
            go_wp2_with fail
            refine (now_any T.out).mono ?_
            rintro e w4 ⟨rfl, rfl⟩
            go_wp2_with fail
            refine (go_only T.out (by omega) (by omega) (by omega) (by omega) OK.out.2.1.1 OK.out.2.1.2).mono ?_
            rw [← HA.out, ← HB.out]
            rintro e w5 ⟨rfl, u1, u2⟩
            have d5 := u2.cell D1.out (fun e => hgr.out (by injection e))
            replace T := Lib.hid u1
            replace R := Lib.hid (R.out.other u2 (Ne.symm hne.out))
            replace B2 := Lib.hid (Below.trans B2.out (only_below u2 u1.lo (by have := B2.out.size; omega)))
            clear u1 u2
            go_wp2_with fail
            refine (rgo_only R.out (by omega) (by omega) (by omega) (by omega) OK.out.2.1.1 OK.out.2.1.2).mono ?_
            rw [← HA.out, ← HB.out]
            rintro e w6 ⟨rfl, u1, u2⟩
            replace T := Lib.hid (T.out.other u2 hne.out)
            replace R := Lib.hid u1
            replace B2 := Lib.hid (Below.trans B2.out (only_below u2 u1.lo (by have := B2.out.size; omega)))
            clear u1 u2 d5
            have c0' := R.out.c0
            have c1' := R.out.c1
            have hA2 : decide (A < a) = false := decide_eq_false (by omega)
            go_wp2_with fail
            go_quiet (first | ((go_at_call 14; exact quiet_left (now_any (T.out.ext (Ext.drewN _ _))))) | ((go_at_call 19; exact quiet_left (lag_any (T.out.ext (Ext.drewN _ _))))))
            go_wp2
            go_round
            case rel => exact ⟨k + 1, by omega, by go_num, ⟨A, B', T.out.ext (Ext.drewN _ _), R.out.ext (Ext.drewN _ _), by omega, by omega, by omega, by omega⟩, B2.out.trans (Below.mono (Ext.drewN _ _) (by have := B2.out.size; omega))⟩
            case measure => simp [intOf]; omega
          · have hz2 : ((oa : Int) == 0) = false := by simpa using hz
            obtain ⟨q1, q2, q3, q4⟩ := rt_bd (a := a) (b := b) (lo := ol) (hi := oh) (by omega) (by omega) (by omega) (by omega)
            obtain ⟨A, hA⟩ : ∃ A, A = rtA a ol oh := ⟨_, rfl⟩
            obtain ⟨B', hB⟩ : ∃ B', B' = rtB a b ol oh := ⟨_, rfl⟩
            rw [← hA] at q1 q2
            rw [← hB] at q3 q4
            have HA := Lib.hid hA
            have HB := Lib.hid hB
            clear hA hB
            go_wp2_with fail
            refine (now_any T.out).mono ?_
            rintro e w4 ⟨rfl, rfl⟩
            go_wp2_with fail
            refine (right_only T.out (by omega) (by omega) OK.out.2.2.1 OK.out.2.2.2).mono ?_
            rw [← HA.out, ← HB.out]
            rintro e w5 ⟨rfl, u1, u2⟩
            have d5 := u2.cell D2.out (fun e => hgr.out (by injection e))
            have d6 := u2.cell D3.out (fun e => hgr.out (by injection e))
            replace T := Lib.hid u1
            replace R := Lib.hid (R.out.other u2 (Ne.symm hne.out))
            replace B2 := Lib.hid (Below.trans B2.out (only_below u2 u1.lo (by have := B2.out.size; omega)))
            clear u1 u2
            go_wp2_with fail
            refine (rright_only R.out (by omega) (by omega) OK.out.2.2.1 OK.out.2.2.2).mono ?_
            rw [← HA.out, ← HB.out]
            rintro e w6 ⟨rfl, u1, u2⟩
            replace T := Lib.hid (T.out.other u2 hne.out)
            replace R := Lib.hid u1
            replace B2 := Lib.hid (Below.trans B2.out (only_below u2 u1.lo (by have := B2.out.size; omega)))
            clear u1 u2 d5 d6
            have c0' := R.out.c0
            have c1' := R.out.c1
            have hA2 : decide (A < a) = false := decide_eq_false (by omega)
            go_wp2_with fail
            go_quiet (first | ((go_at_call 14; exact quiet_left (now_any (T.out.ext (Ext.drewN _ _))))) | ((go_at_call 19; exact quiet_left (lag_any (T.out.ext (Ext.drewN _ _))))))
            go_wp2
            go_round
            case rel => exact ⟨k + 1, by omega, by go_num, ⟨A, B', T.out.ext (Ext.drewN _ _), R.out.ext (Ext.drewN _ _), by omega, by omega, by omega, by omega⟩, B2.out.trans (Below.mono (Ext.drewN _ _) (by have := B2.out.size; omega))⟩
            case measure => simp [intOf]; omega
        · go_wp2
          go_ret
          exact ⟨rfl, B.out⟩
      · go_wp2
        go_ret
        exact ⟨rfl, B.out⟩
  · rw [if_neg c0, if_neg c1] at hv
    subst hv
    go_enter Try.func3, Try.ntmps3
    go_wp2_with fail
    refine (begun11 w).mono ?_
    rintro e w1 ⟨rfl, x1⟩
    have X := Lib.hid x1
    clear x1
    go_wp2_with fail
    refine (new_any h1).mono ?_
    rw [← HV.out]
    rintro e w2 ⟨g, rfl, t1, x1⟩
    have T := Lib.hid (t1.base X.out.size)
    replace X := Lib.hid (X.out.tr x1)
    clear t1 x1
    go_wp2
    have T1 : Hid (Two (w2.alloc (.cells #[.int .i64 v, .int .i64 0] 28)) w.heap.size g v 0) := Lib.hid (T.out.ext (Ext.alloc _ _))
    have T2 : Hid (Two (w2.alloc (.cells #[.int .i64 v, .int .i64 0] 28)) w.heap.size w2.heap.size v 0) := Lib.hid ((two_new w2 v 0).base X.out.size)
    have X2 : Hid (Ext w (w2.alloc (.cells #[.int .i64 v, .int .i64 0] 28))) := Lib.hid (X.out.tr (Ext.alloc _ _))
    have hne : Hid (g ≠ w2.heap.size) := Lib.hid (by have := T.out.hi; omega)
    clear T X
    go_loopw [8] (fun i wr => ∃ k : Nat, k ≤ n ∧ i = .int .i64 (k : Int) ∧ Twin wr w.heap.size g w2.heap.size ∧ Below w.heap.size w wr) (fun i _ => n - (intOf i).toNat)
    case atStart => exact ⟨0, by omega, rfl, ⟨v, 0, T1.out, T2.out, by omega, by omega, by omega, by omega⟩, X2.out⟩
    case round =>
      clear T1 T2 X2
      obtain ⟨k, hk, rfl, ⟨a, b, t1, t2, ha1, ha2, hb1, hb2⟩, hbl⟩ := hrel
      have T := Lib.hid t1
      have R := Lib.hid t2
      have B := Lib.hid hbl
      clear t1 t2 hbl
      generalize w2.heap.size = g' at *
      by_cases hlt : k < n
      · by_cases h60 : (k : Int) < 60
        · obtain ⟨bb, oo, x, hp, hx, hxl, hcell⟩ := S.out.at k hlt
          have GH : Hid (g < wr.heap.size) := Lib.hid T.out.hi
          rw [List.getElem?_map] at hx
          obtain ⟨o, ho, hoe⟩ := Option.map_eq_some_iff.1 hx
          have OK := Lib.hid (O.out o (List.mem_of_getElem? ho))
          obtain ⟨oa, on, ol, oh⟩ := o
          subst hoe hp
          have e0 : wr.cell? ⟨bb, oo + k * 4, none⟩ = _ := Ext.cell B.out (hcell 0 _ rfl)
          have e1 := Ext.cell B.out (hcell 1 _ rfl)
          have e2 := Ext.cell B.out (hcell 2 _ rfl)
          have e3 := Ext.cell B.out (hcell 3 _ rfl)
          clear hcell hx hxl ho
          simp only [] at e0 e1 e2 e3
          have d1 : (wr.alloc (.cells #[.int .i64 oa, .int .i64 on, .int .i64 ol, .int .i64 oh] 30)).cell? ⟨wr.heap.size, 1, none⟩ = some (.int .i64 on) := World.cell?_alloc_mark ..
          have d2 : (wr.alloc (.cells #[.int .i64 oa, .int .i64 on, .int .i64 ol, .int .i64 oh] 30)).cell? ⟨wr.heap.size, 2, none⟩ = some (.int .i64 ol) := World.cell?_alloc_mark ..
          have d3 : (wr.alloc (.cells #[.int .i64 oa, .int .i64 on, .int .i64 ol, .int .i64 oh] 30)).cell? ⟨wr.heap.size, 3, none⟩ = some (.int .i64 oh) := World.cell?_alloc_mark ..
          have D1 := Lib.hid d1
          have D2 := Lib.hid d2
          have D3 := Lib.hid d3
          clear d1 d2 d3
          replace T := Lib.hid (T.out.ext (Ext.alloc wr (.cells #[.int .i64 oa, .int .i64 on, .int .i64 ol, .int .i64 oh] 30)))
          replace R := Lib.hid (R.out.ext (Ext.alloc wr (.cells #[.int .i64 oa, .int .i64 on, .int .i64 ol, .int .i64 oh] 30)))
          have hgr : Hid (wr.heap.size ≠ g) := Lib.hid (by have := GH.out; omega)
          have B2 : Hid (Below w.heap.size w (wr.alloc (.cells #[.int .i64 oa, .int .i64 on, .int .i64 ol, .int .i64 oh] 30))) := Lib.hid (B.out.alloc B.out.size _)
          by_cases hz : oa = 0
          · subst hz
            obtain ⟨q1, q2, q3, q4⟩ := go_bd (a := a) (b := b) (n := on) (by omega) (by omega) (by omega) (by omega)
            obtain ⟨A, hA⟩ : ∃ A, A = goA a b on := ⟨_, rfl⟩
            obtain ⟨B', hB⟩ : ∃ B', B' = goB b on := ⟨_, rfl⟩
            rw [← hA] at q1 q2
            rw [← hB] at q3 q4
            have HA := Lib.hid hA
            have HB := Lib.hid hB
            clear hA hB
            go_wp2_with fail
            refine (now_any T.out).mono ?_
            rintro e w4 ⟨rfl, rfl⟩
            go_wp2_with fail
            refine (go_only T.out (by omega) (by omega) (by omega) (by omega) OK.out.2.1.1 OK.out.2.1.2).mono ?_
            rw [← HA.out, ← HB.out]
            rintro e w5 ⟨rfl, u1, u2⟩
            have d5 := u2.cell D1.out (fun e => hgr.out (by injection e))
            replace T := Lib.hid u1
            replace R := Lib.hid (R.out.other u2 (Ne.symm hne.out))
            replace B2 := Lib.hid (Below.trans B2.out (only_below u2 u1.lo (by have := B2.out.size; omega)))
            clear u1 u2
            go_wp2_with fail
            refine (rgo_only R.out (by omega) (by omega) (by omega) (by omega) OK.out.2.1.1 OK.out.2.1.2).mono ?_
            rw [← HA.out, ← HB.out]
            rintro e w6 ⟨rfl, u1, u2⟩
            replace T := Lib.hid (T.out.other u2 hne.out)
            replace R := Lib.hid u1
            replace B2 := Lib.hid (Below.trans B2.out (only_below u2 u1.lo (by have := B2.out.size; omega)))
            clear u1 u2 d5
            have c0' := R.out.c0
            have c1' := R.out.c1
            have hA2 : decide (A < a) = false := decide_eq_false (by omega)
            go_wp2_with fail
            go_quiet (first | ((go_at_call 14; exact quiet_left (now_any (T.out.ext (Ext.drewN _ _))))) | ((go_at_call 19; exact quiet_left (lag_any (T.out.ext (Ext.drewN _ _))))))
            go_wp2
            go_round
            case rel => exact ⟨k + 1, by omega, by go_num, ⟨A, B', T.out.ext (Ext.drewN _ _), R.out.ext (Ext.drewN _ _), by omega, by omega, by omega, by omega⟩, B2.out.trans (Below.mono (Ext.drewN _ _) (by have := B2.out.size; omega))⟩
            case measure => simp [intOf]; omega
          · have hz2 : ((oa : Int) == 0) = false := by simpa using hz
            obtain ⟨q1, q2, q3, q4⟩ := rt_bd (a := a) (b := b) (lo := ol) (hi := oh) (by omega) (by omega) (by omega) (by omega)
            obtain ⟨A, hA⟩ : ∃ A, A = rtA a ol oh := ⟨_, rfl⟩
            obtain ⟨B', hB⟩ : ∃ B', B' = rtB a b ol oh := ⟨_, rfl⟩
            rw [← hA] at q1 q2
            rw [← hB] at q3 q4
            have HA := Lib.hid hA
            have HB := Lib.hid hB
            clear hA hB
            go_wp2_with fail
            refine (now_any T.out).mono ?_
            rintro e w4 ⟨rfl, rfl⟩
            go_wp2_with fail
            refine (right_only T.out (by omega) (by omega) OK.out.2.2.1 OK.out.2.2.2).mono ?_
            rw [← HA.out, ← HB.out]
            rintro e w5 ⟨rfl, u1, u2⟩
            have d5 := u2.cell D2.out (fun e => hgr.out (by injection e))
            have d6 := u2.cell D3.out (fun e => hgr.out (by injection e))
            replace T := Lib.hid u1
            replace R := Lib.hid (R.out.other u2 (Ne.symm hne.out))
            replace B2 := Lib.hid (Below.trans B2.out (only_below u2 u1.lo (by have := B2.out.size; omega)))
            clear u1 u2
            go_wp2_with fail
            refine (rright_only R.out (by omega) (by omega) OK.out.2.2.1 OK.out.2.2.2).mono ?_
            rw [← HA.out, ← HB.out]
            rintro e w6 ⟨rfl, u1, u2⟩
            replace T := Lib.hid (T.out.other u2 hne.out)
            replace R := Lib.hid u1
            replace B2 := Lib.hid (Below.trans B2.out (only_below u2 u1.lo (by have := B2.out.size; omega)))
            clear u1 u2 d5 d6
            have c0' := R.out.c0
            have c1' := R.out.c1
            have hA2 : decide (A < a) = false := decide_eq_false (by omega)
            go_wp2_with fail
            go_quiet (first | ((go_at_call 14; exact quiet_left (now_any (T.out.ext (Ext.drewN _ _))))) | ((go_at_call 19; exact quiet_left (lag_any (T.out.ext (Ext.drewN _ _))))))
            go_wp2
            go_round
            case rel => exact ⟨k + 1, by omega, by go_num, ⟨A, B', T.out.ext (Ext.drewN _ _), R.out.ext (Ext.drewN _ _), by omega, by omega, by omega, by omega⟩, B2.out.trans (Below.mono (Ext.drewN _ _) (by have := B2.out.size; omega))⟩
            case measure => simp [intOf]; omega
        · go_wp2
          go_ret
          exact ⟨rfl, B.out⟩
      · go_wp2
        go_ret
        exact ⟨rfl, B.out⟩
end Go.Proofs.Ytjghjnnmndibcaa
