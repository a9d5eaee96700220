/-
  Contracts of wire's numbers, of slices.EqualFunc, of the reference's num, MayMsg, EqMsg: at any messages. Conditions stand at each.
-/
import Derived.Test.YtgplmbchlahbkaaWire2
namespace Go.Proofs.Ytgplmbchlahbkaa
open Go Go.Sort Go.RowKit
set_option linter.unusedVariables false

def numA (m : MsD) (n : Nat) : Array Value := #[.int .i64 m.kd, .int .i64 m.fr, .int .i64 m.to, .int .i64 m.bt, .int .i64 m.vw, .int .i64 m.ls, .int .i64 m.mb, .int .i64 m.po, .int .i64 m.cm, .int .i64 m.nm, .int .i64 m.ck, .int .i64 (yeI m), .int .i64 (n : Int)]
set_option maxRecDepth 8000 in
set_option maxHeartbeats 4000000 in
/-- wire.numbers -/
theorem numbers_any {w : World} {m : MsD} {p : Option Addr} {n cap : Nat} :
    Calls Try.prog 46 #[msV m p n cap] w fun e w' => e = .returned (.agg (numA m n)) ∧ Ext w w' := by
  have D := Lib.hid ((BoxV.new w w.heap.size (msA m p n cap) (msL m p n cap) 31 _ rfl (Nat.le_refl _) rfl).ext (Ext.alloc _ (.cells #[.int .i64 0, .int .i64 0, .int .i64 0, .int .i64 0, .int .i64 0, .int .i64 0, .int .i64 0, .int .i64 0, .int .i64 0, .int .i64 0, .int .i64 0, .int .i64 0, .int .i64 0] 73)))
  obtain ⟨kd, fr, to, bt, vw, ls, mb, po, cm, nm, ck, ye⟩ := m
  have c0 := D.out.c 0 _ rfl
  have c1 := D.out.c 1 _ rfl
  have c2 := D.out.c 2 _ rfl
  have c3 := D.out.c 3 _ rfl
  have c4 := D.out.c 4 _ rfl
  have c5 := D.out.c 5 _ rfl
  have c6 := D.out.c 6 _ rfl
  have c7 := D.out.c 7 _ rfl
  have c8 := D.out.c 8 _ rfl
  have c9 := D.out.c 9 _ rfl
  have c10 := D.out.c 10 _ rfl
  have c11 := D.out.c 11 _ rfl
  have c12 := D.out.c 12 _ rfl
  try simp only at c0 c1 c2 c3 c4 c5 c6 c7 c8 c9 c10 c11 c12
  have E := Lib.hid (BoxV.new (w.alloc (.cells (msA ⟨kd, fr, to, bt, vw, ls, mb, po, cm, nm, ck, ye⟩ p n cap) 31)) w.heap.size #[.int .i64 0, .int .i64 0, .int .i64 0, .int .i64 0, .int .i64 0, .int .i64 0, .int .i64 0, .int .i64 0, .int .i64 0, .int .i64 0, .int .i64 0, .int .i64 0, .int .i64 0] _ 73 (w.heap.size + 1) (by simp) (by omega) rfl)
  cases ye
  all_goals
    go_enter Try.func46, Try.ntmps46
    go_wp2
    exact bodyPost_ret (v := .agg (numA _ n)) (by simp [results, Try.results46, go_sem]; rfl) rfl ⟨rfl, (Ext.alloc w _).tr (Ext.alloc _ _)⟩

set_option maxHeartbeats 400000 in
theorem rnum_any (x : Int) (w : World) : Calls Try.prog 34 #[.int .i64 x] w fun e w' => e = .returned (.bool (inB 0 1099511627776 x)) ∧ w = w' := by
  by_cases h1 : 0 ≤ x
  · by_cases h2 : x ≤ 1099511627776
    · have e : inB 0 1099511627776 x = true := by unfold inB; rw [decide_eq_true h1, decide_eq_true h2]; rfl
      rw [e]
      clear e
      go_enter Try.func34, Try.ntmps34
      go_wp2
      go_ret
      exact ⟨rfl, rfl⟩
    · have e : inB 0 1099511627776 x = false := by unfold inB; rw [decide_eq_false h2, Bool.and_false]
      have hd : decide (x ≤ 1099511627776) = false := decide_eq_false h2
      rw [e]
      clear e
      go_enter Try.func34, Try.ntmps34
      go_wp2
      go_ret
      exact ⟨rfl, rfl⟩
  · have e : inB 0 1099511627776 x = false := by unfold inB; rw [decide_eq_false h1]; rfl
    have hd : decide (0 ≤ x) = false := decide_eq_false h1
    rw [e]
    clear e
    go_enter Try.func34, Try.ntmps34
    go_wp2
    go_ret
    exact ⟨rfl, rfl⟩
end Go.Proofs.Ytgplmbchlahbkaa
