/-
  Contracts of slices.EqualFunc with entry.Eq, and of wire.Eq: at any messages. Conditions stand at each.
-/
import Derived.Test.YtbhgbkbdojhofaaWire3
import Derived.Deep.DeepCutAuto
import Derived.ChangeKeysEq
namespace Go.Proofs.Ytbhgbkbdojhofaa
open Go Go.Sort Go.RowKit
set_option linter.unusedVariables false

theorem eqItems_ints (zs ys : List Int) (d : Nat) (w : World) : ∀ (is : List Nat), (∀ i ∈ is, i < zs.length ∧ i < ys.length) → (Op.eqItems (d + 1) 2 1 (zs.map (Value.int .i64)).toArray (ys.map (Value.int .i64)).toArray is).run Try.prog w = .ok (is.all fun i => zs[i]? == ys[i]?) w
  | [], _ => by simp [Op.eqItems]
  | i :: is, h => by
    obtain ⟨h1, h2⟩ := h i (by simp)
    have p1 := run_part_plain (P := Try.prog) w (e := 2) (by kernel_rfl) (xs := (zs.map (Value.int .i64)).toArray) (off := i * 1) (v := .int .i64 zs[i]) (by simp)
    have p2 := run_part_plain (P := Try.prog) w (e := 2) (by kernel_rfl) (xs := (ys.map (Value.int .i64)).toArray) (off := i * 1) (v := .int .i64 ys[i]) (by simp)
    have p3 := run_equalIn_int (P := Try.prog) w d 2 .i64 .i64 zs[i] ys[i] Try.underlying2
    have ih := eqItems_ints zs ys d w is (fun j hj => h j (by simp [hj]))
    simp only [Op.eqItems, Sem.run_bind, p1, p2, p3, Result.andThen_ok, List.all_cons]
    rw [List.getElem?_eq_getElem h1, List.getElem?_eq_getElem h2]
    cases hq : (zs[i] == ys[i])
    · have : zs[i] ≠ ys[i] := beq_eq_false_iff_ne.1 hq
      simp [this]
    · have : zs[i] = ys[i] := eq_of_beq hq
      simp [this, ih]
set_option maxRecDepth 8000 in
theorem arr_eq (a b : MsD) (n k : Nat) (w : World) : (Op.equalIn 10000 75 (.agg (numA a n)) (.agg (numA b k))).run Try.prog w = .ok (decide (numsM a n = numsM b k)) w := by
  obtain ⟨i0, hi⟩ := Option.isSome_iff_exists.1 (show (Try.prog.info? 2).isSome = true by kernel_rfl)
  rw [run_equalIn_array w 9999 _ _ Try.underlying75 hi, show Try.prog.cellsOf 2 = 1 by kernel_rfl]
  rw [show numA a n = ((numsM a n).map (Value.int .i64)).toArray from rfl, show numA b k = ((numsM b k).map (Value.int .i64)).toArray from rfl]
  rw [eqItems_ints _ _ 9998 w _ (fun i hi => by have := List.mem_range.1 hi; simp [numsM]; omega)]
  congr 1
  rw [Bool.eq_iff_iff, List.all_eq_true, decide_eq_true_iff]
  constructor
  · intro h
    apply List.ext_getElem?
    intro i
    by_cases hi : i < 13
    · exact eq_of_beq (h i (List.mem_range.2 hi))
    · rw [List.getElem?_eq_none (by simp [numsM]; omega), List.getElem?_eq_none (by simp [numsM]; omega)]
  · intro h i _
    rw [h]
    exact beq_self_eq_true _
end Go.Proofs.Ytbhgbkbdojhofaa
