/-
  Contracts of a disk's methods and of the reference's, and the plain law of a disk's bytes. Conditions stand at each.
-/
import Derived.Test.YtkgcmobijbakmaaNumPut2
import Derived.Test.YtkgcmobijbakmaaRegion2
namespace Go.Proofs.Ytkgcmobijbakmaa
open Go Go.Sort Go.RowKit
set_option linter.unusedVariables false

/-- A number of 64 bits. -/
def J64 (a : Int) : Prop := -9223372036854775808 ≤ a ∧ a ≤ 9223372036854775807
/-- The block g, from base on, is a struct of two numbers of 64 bits, the call's own. -/
structure Two (w : World) (base g : Nat) (a b : Int) : Prop where
  lo : base ≤ g
  hi : g < w.heap.size
  c0 : w.cell? ⟨g, 0, none⟩ = some (.int .i64 a)
  c1 : w.cell? ⟨g, 1, none⟩ = some (.int .i64 b)
  f0 : w.frozen? ⟨g, 0, none⟩ = false
  f1 : w.frozen? ⟨g, 1, none⟩ = false
theorem Two.ext {w w' : World} {base g : Nat} {a b : Int} (h : Two w base g a b) (k : Ext w w') : Two w' base g a b :=
  ⟨h.lo, Nat.lt_of_lt_of_le h.hi k.size, Ext.cell k h.c0, Ext.cell k h.c1, by rw [Below.frozen k h.hi]; exact h.f0, by rw [Below.frozen k h.hi]; exact h.f1⟩
theorem Two.put0 {w : World} {base g : Nat} {a b : Int} (h : Two w base g a b) (x : Int) : Two (w.setCell ⟨g, 0, none⟩ (.int .i64 x)) base g x b := by
  obtain ⟨lo, hi, c0, c1, f0, f1⟩ := h
  refine ⟨lo, by simpa [World.setCell] using hi, ?_, ?_, ?_, ?_⟩
  · exact World.cell?_setCell_same (h := c0) ..
  · rw [World.cell?_setCell_other (h := by simp)]; exact c1
  · simp [f0]
  · simp [f1]
theorem Two.put1 {w : World} {base g : Nat} {a b : Int} (h : Two w base g a b) (x : Int) : Two (w.setCell ⟨g, 1, none⟩ (.int .i64 x)) base g a x := by
  obtain ⟨lo, hi, c0, c1, f0, f1⟩ := h
  refine ⟨lo, by simpa [World.setCell] using hi, ?_, ?_, ?_, ?_⟩
  · rw [World.cell?_setCell_other (h := by simp)]; exact c0
  · exact World.cell?_setCell_same (h := c1) ..
  · simp [f0]
  · simp [f1]
theorem only_refl (w : World) (row : Option Nat) : w.grownBy w row := World.grownBy.refl _ _
theorem only_ext {a w : World} (h : Ext a w) (row : Option Nat) : a.grownBy w row := ⟨h.os, h.tape, h.output, h.size, fun i hi _ => h.block i hi⟩
theorem only_put {a w : World} {g : Nat} (h : a.grownBy w (some g)) (o : Nat) (u : Value) : a.grownBy (w.setCell ⟨g, o, none⟩ u) (some g) :=
  ⟨h.os, h.tape, h.output, by simpa [World.setCell] using h.size, fun i hi hne => (Below.heap_setCell w ⟨g, o, none⟩ u i (by rintro rfl; exact hne rfl)).trans (h.block i hi hne)⟩
theorem only_below {base g : Nat} {w w' : World} (h : w.grownBy w' (some g)) (hb : base ≤ g) (hs : base ≤ w.heap.size) : Below base w w' := (Below.refl _ _).grown h hs (fun k hk => by cases hk; exact hb)
theorem Two.other {w w' : World} {base g g' : Nat} {a b : Int} (h : Two w base g' a b) (k : w.grownBy w' (some g)) (hne : g' ≠ g) : Two w' base g' a b := by
  have hb : ∀ o, w'.cell? ⟨g', o, none⟩ = w.cell? ⟨g', o, none⟩ := fun o => World.cell?_of_block (k.block g' h.hi (fun e => hne (by injection e)))
  have hf : ∀ o, w'.frozen? ⟨g', o, none⟩ = w.frozen? ⟨g', o, none⟩ := fun o => by
    have := k.block g' h.hi (fun e => hne (by injection e))
    simp only [World.frozen?, this]
  exact ⟨h.lo, Nat.lt_of_lt_of_le h.hi k.size, (hb 0).trans h.c0, (hb 1).trans h.c1, (hf 0).trans h.f0, (hf 1).trans h.f1⟩
theorem two_new (w : World) (a b : Int) {t : TypeId} : Two (w.alloc (.cells #[.int .i64 a, .int .i64 b] t)) w.heap.size w.heap.size a b :=
  ⟨Nat.le_refl _, by simp, World.cell?_alloc_mark .., World.cell?_alloc_mark .., World.frozen?_alloc_at _ _ _ _ rfl, World.frozen?_alloc_at _ _ _ _ rfl⟩
theorem Two.base {w : World} {base base' g : Nat} {a b : Int} (h : Two w base g a b) (hb : base' ≤ base) : Two w base' g a b := ⟨Nat.le_trans hb h.lo, h.hi, h.c0, h.c1, h.f0, h.f1⟩

/-! ### The plain law -/
def mayN (n : Int) : Bool := decide (0 ≤ n) && decide (n ≤ 1099511627776)
def prB (b v : Int) : Bool := decide (b < v) && decide (v ≤ 1099511627776)
def prV (b v : Int) : Int := if prB b v then v else b
def stA (a : Int) : Int := if 1099511627776 ≤ a then a else a + 1
def stR (a : Int) : Int := if 1099511627776 ≤ a then 0 else a + 1
def diskL (a b : Int) : List UInt8 := sealL (enc (zig a) ++ enc (zig b))
theorem getL_zig {x : Int} (h : J64 x) (rest : List UInt8) : getL (enc (zig x) ++ rest) = (x, (enc (zig x)).length, 0) := by
  rw [getL_enc (zig_lt h.1 h.2), unzig_zig]
def diskR (b : List UInt8) : Option (Int × Int) :=
  if opens b = true ∧ (getL (openL b)).2.2 = 0 ∧ (getL ((openL b).drop (getL (openL b)).2.1)).2.2 = 0 ∧ mayN (getL (openL b)).1 = true ∧ mayN (getL ((openL b).drop (getL (openL b)).2.1)).1 = true ∧ diskL (getL (openL b)).1 (getL ((openL b).drop (getL (openL b)).2.1)).1 = b then
    some ((getL (openL b)).1, (getL ((openL b).drop (getL (openL b)).2.1)).1)
  else none
theorem diskR_bytes {a b : Int} (ha : J64 a) (hb : J64 b) : diskR (diskL a b) = if mayN a = true ∧ mayN b = true then some (a, b) else none := by
  have h1 : opens (diskL a b) = true := opens_seal _
  have h2 : openL (diskL a b) = enc (zig a) ++ enc (zig b) := openL_seal _
  have h3 : getL (enc (zig a) ++ enc (zig b)) = (a, (enc (zig a)).length, 0) := getL_zig ha _
  have h4 : getL (enc (zig b)) = (b, (enc (zig b)).length, 0) := by have := getL_zig hb []; rwa [List.append_nil] at this
  unfold diskR
  rw [h1, h2, h3]
  simp only [List.drop_left, h4]
  by_cases hm : mayN a = true ∧ mayN b = true
  · rw [if_pos ⟨trivial, trivial, trivial, hm.1, hm.2, trivial⟩, if_pos hm]
  · rw [if_neg (fun h => hm ⟨h.2.2.2.1, h.2.2.2.2.1⟩), if_neg hm]
theorem diskR_some {l : List UInt8} {x y : Int} (h : diskR l = some (x, y)) : diskL x y = l ∧ mayN x = true ∧ mayN y = true := by
  unfold diskR at h
  split at h
  · rename_i hh
    injection h with h
    injection h with h5 h6
    subst h5 h6
    exact ⟨hh.2.2.2.2.2, hh.2.2.2.1, hh.2.2.2.2.1⟩
  · cases h
theorem mayN_J {x : Int} (h : mayN x = true) : J64 x := by
  unfold mayN at h
  simp at h
  unfold J64
  omega
theorem diskL_inj {a b x y : Int} (ha : mayN a = true) (hb : mayN b = true) (hx : mayN x = true) (hy : mayN y = true) (h : diskL a b = diskL x y) : a = x ∧ b = y := by
  have h1 := diskR_bytes (mayN_J ha) (mayN_J hb)
  have h2 := diskR_bytes (mayN_J hx) (mayN_J hy)
  rw [h, h2, if_pos ⟨hx, hy⟩, if_pos ⟨ha, hb⟩] at h1
  injection h1 with h1
  injection h1 with h3 h4
  exact ⟨h3.symm, h4.symm⟩
end Go.Proofs.Ytkgcmobijbakmaa
