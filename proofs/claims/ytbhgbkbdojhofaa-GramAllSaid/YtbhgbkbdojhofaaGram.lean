/-
  The state of a Gram, plain; contracts of gram's is, New, Boot, Sent. Conditions stand at each.
-/
import Derived.Test.YtbhgbkbdojhofaaBox
import Derived.Test.YtbhgbkbdojhofaaInts
import Derived.Test.YtbhgbkbdojhofaaEntry
namespace Go.Proofs.Ytbhgbkbdojhofaa
open Go Go.Sort Go.RowKit
set_option linter.unusedVariables false

abbrev grL (me : Int) (bs : Nat → Int) (ps : Nat → Int × Int × Bool) : List Value := [.int .i64 me, .int .i64 (bs 0), .int .i64 (bs 1), .int .i64 (bs 2), .int .i64 (bs 3), .int .i64 (bs 4), .int .i64 (bs 5), .int .i64 (bs 6), .int .i64 (bs 7), .int .i64 (ps 0).1, .int .i64 (ps 0).2.1, .bool (ps 0).2.2, .int .i64 (ps 1).1, .int .i64 (ps 1).2.1, .bool (ps 1).2.2, .int .i64 (ps 2).1, .int .i64 (ps 2).2.1, .bool (ps 2).2.2, .int .i64 (ps 3).1, .int .i64 (ps 3).2.1, .bool (ps 3).2.2, .int .i64 (ps 4).1, .int .i64 (ps 4).2.1, .bool (ps 4).2.2, .int .i64 (ps 5).1, .int .i64 (ps 5).2.1, .bool (ps 5).2.2, .int .i64 (ps 6).1, .int .i64 (ps 6).2.1, .bool (ps 6).2.2, .int .i64 (ps 7).1, .int .i64 (ps 7).2.1, .bool (ps 7).2.2]
abbrev grA (me : Int) (bs : Nat → Int) (ps : Nat → Int × Int × Bool) : Array Value := #[.int .i64 me, .int .i64 (bs 0), .int .i64 (bs 1), .int .i64 (bs 2), .int .i64 (bs 3), .int .i64 (bs 4), .int .i64 (bs 5), .int .i64 (bs 6), .int .i64 (bs 7), .int .i64 (ps 0).1, .int .i64 (ps 0).2.1, .bool (ps 0).2.2, .int .i64 (ps 1).1, .int .i64 (ps 1).2.1, .bool (ps 1).2.2, .int .i64 (ps 2).1, .int .i64 (ps 2).2.1, .bool (ps 2).2.2, .int .i64 (ps 3).1, .int .i64 (ps 3).2.1, .bool (ps 3).2.2, .int .i64 (ps 4).1, .int .i64 (ps 4).2.1, .bool (ps 4).2.2, .int .i64 (ps 5).1, .int .i64 (ps 5).2.1, .bool (ps 5).2.2, .int .i64 (ps 6).1, .int .i64 (ps 6).2.1, .bool (ps 6).2.2, .int .i64 (ps 7).1, .int .i64 (ps 7).2.1, .bool (ps 7).2.2]
def updF {α : Type} (f : Nat → α) (k : Nat) (v : α) : Nat → α := fun i => if i = k then v else f i
theorem updF_same {α : Type} (f : Nat → α) (k : Nat) (v : α) : updF f k v k = v := if_pos rfl
theorem updF_other {α : Type} (f : Nat → α) (k i : Nat) (v : α) (h : i ≠ k) : updF f k v i = f i := if_neg h
theorem lt8 {F : Nat} (h : F < 8) : F = 0 ∨ F = 1 ∨ F = 2 ∨ F = 3 ∨ F = 4 ∨ F = 5 ∨ F = 6 ∨ F = 7 := by omega
section
variable {me : Int} {bs : Nat → Int} {ps : Nat → Int × Int × Bool}
theorem grL_boot {F : Nat} (h : F < 8) : (grL me bs ps)[1 + F]? = some (.int .i64 (bs F)) := by rcases lt8 h with rfl | rfl | rfl | rfl | rfl | rfl | rfl | rfl <;> rfl
theorem grL_num {F : Nat} (h : F < 8) : (grL me bs ps)[9 + F * 3]? = some (.int .i64 (ps F).1) := by rcases lt8 h with rfl | rfl | rfl | rfl | rfl | rfl | rfl | rfl <;> rfl
theorem grL_clk {F : Nat} (h : F < 8) : (grL me bs ps)[9 + F * 3 + 1]? = some (.int .i64 (ps F).2.1) := by rcases lt8 h with rfl | rfl | rfl | rfl | rfl | rfl | rfl | rfl <;> rfl
theorem grL_snt {F : Nat} (h : F < 8) : (grL me bs ps)[9 + F * 3 + 2]? = some (.bool (ps F).2.2) := by rcases lt8 h with rfl | rfl | rfl | rfl | rfl | rfl | rfl | rfl <;> rfl
theorem grL_setb {F : Nat} {v : Int} (h : F < 8) : (grL me bs ps).set (1 + F) (.int .i64 v) = grL me (updF bs F v) ps := by rcases lt8 h with rfl | rfl | rfl | rfl | rfl | rfl | rfl | rfl <;> rfl
theorem grL_setp {F : Nat} {a b : Int} {c : Bool} (h : F < 8) : (((grL me bs ps).set (9 + F * 3) (.int .i64 a)).set (9 + F * 3 + 1) (.int .i64 b)).set (9 + F * 3 + 2) (.bool c) = grL me bs (updF ps F (a, b, c)) := by rcases lt8 h with rfl | rfl | rfl | rfl | rfl | rfl | rfl | rfl <;> rfl
end
def zP : Nat → Int × Int × Bool := fun _ => (0, 0, false)
def zB : Nat → Int := fun _ => 0
def isI (z : Int) : Bool := decide (1 ≤ z) && decide (z ≤ 7)
theorem isI_yes {z : Int} (h : isI z = true) : 1 ≤ z ∧ z ≤ 7 := by simpa [isI] using h

set_option maxRecDepth 8000 in
set_option maxHeartbeats 4000000 in
/-- gram.is -/
theorem is_any (z : Int) (w : World) : Calls Try.prog 20 #[.int .i64 z] w fun e w' => e = .returned (.bool (isI z)) ∧ w = w' := by
  by_cases h1 : 1 ≤ z
  · by_cases h2 : z ≤ 7
    all_goals
      have e : isI z = (decide (1 ≤ z) && decide (z ≤ 7)) := rfl
      simp only [h1, h2, decide_true, decide_false, Bool.and_true, Bool.and_false] at e
      rw [e]
      clear e
      go_enter Try.func20, Try.ntmps20
      go_wp2
      go_ret
      simp
  · have e : isI z = false := by unfold isI; rw [decide_eq_false h1]; rfl
    rw [e]
    clear e
    go_enter Try.func20, Try.ntmps20
    go_wp2
    go_ret
    simp

set_option maxRecDepth 8000 in
set_option maxHeartbeats 4000000 in
/-- gram.New -/
theorem gnew_any (z : Int) (w : World) : Calls Try.prog 9 #[.int .i64 z] w fun e w' => (isI z = true → e = .returned (.pointer (some ⟨w.heap.size, 0, none⟩)) ∧ BoxV w' w.heap.size w.heap.size (grL z zB zP)) ∧ (isI z = false → e = .returned (.pointer none)) ∧ Ext w w' := by
  have I := fun w => is_any z w
  cases hz : isI z
  · rw [hz] at I
    clear hz
    go_enter Try.func9, Try.ntmps9
    go_wp2_with fail
    refine (I _).mono ?_
    rintro e w1 ⟨rfl, rfl⟩
    clear I
    go_wp2
    go_ret
    exact ⟨(fun h => by cases h), fun _ => rfl, Ext.rfl' _⟩
  · rw [hz] at I
    clear hz
    go_enter Try.func9, Try.ntmps9
    go_wp2_with fail
    refine (I _).mono ?_
    rintro e w1 ⟨rfl, rfl⟩
    clear I
    go_wp2
    go_ret
    exact ⟨fun _ => ⟨rfl, BoxV.new w w.heap.size (grA z zB zP) (grL z zB zP) 58 _ rfl (Nat.le_refl _) rfl⟩, (fun h => by cases h), Ext.alloc w _⟩

set_option maxRecDepth 8000 in
set_option maxHeartbeats 4000000 in
/-- (*Gram).Boot -/
theorem boot_any {w : World} {base g : Nat} {me : Int} {bs : Nat → Int} {ps : Nat → Int × Int × Bool} (h : BoxV w base g (grL me bs ps)) (z : Int) :
    Calls Try.prog 19 #[.pointer (some ⟨g, 0, none⟩), .int .i64 z] w fun e w' => e = .returned (.int .i64 (if isI z then bs z.toNat else 0)) ∧ w = w' := by
  have I := fun w => is_any z w
  have D := Lib.hid h
  clear h
  cases hz : isI z
  · rw [hz] at I
    clear hz
    go_enter Try.func19, Try.ntmps19
    go_wp2_with fail
    refine (I _).mono ?_
    rintro e w1 ⟨rfl, rfl⟩
    clear I
    go_wp2
    go_ret
    simp
  · rw [hz] at I
    obtain ⟨h1, h2⟩ := isI_yes hz
    clear hz
    obtain ⟨F, rfl⟩ : ∃ F : Nat, z = (F : Int) := ⟨z.toNat, by omega⟩
    have hF : F < 8 := by omega
    have c0 := D.out.c _ _ (grL_boot (me := me) (bs := bs) (ps := ps) hF)
    go_enter Try.func19, Try.ntmps19
    go_wp2_with fail
    refine (I _).mono ?_
    rintro e w1 ⟨rfl, rfl⟩
    clear I
    go_wp2
    go_ret
    simp

set_option maxRecDepth 8000 in
set_option maxHeartbeats 4000000 in
/-- (*Gram).Sent -/
theorem sent_any {w : World} {base g : Nat} {me : Int} {bs : Nat → Int} {ps : Nat → Int × Int × Bool} (h : BoxV w base g (grL me bs ps)) (z a b : Int) :
    Calls Try.prog 16 #[.pointer (some ⟨g, 0, none⟩), .int .i64 z, .int .i64 a, .int .i64 b] w fun e w' => e = .returned (.tuple #[]) ∧ BoxV w' base g (grL me bs (if isI z then updF ps z.toNat (a, b, true) else ps)) ∧ w.grownBy w' (some g) := by
  have I := fun w => is_any z w
  have D := Lib.hid h
  clear h
  cases hz : isI z
  · rw [hz] at I
    clear hz
    go_enter Try.func16, Try.ntmps16
    go_wp2_with fail
    refine (I _).mono ?_
    rintro e w1 ⟨rfl, rfl⟩
    clear I
    go_wp2
    exact bodyPost_end (v := .tuple #[]) (by simp [results, Try.results16, go_sem]) rfl ⟨rfl, D.out, grown_refl _ _⟩
  · rw [hz] at I
    obtain ⟨h1, h2⟩ := isI_yes hz
    clear hz
    obtain ⟨F, rfl⟩ : ∃ F : Nat, z = (F : Int) := ⟨z.toNat, by omega⟩
    have hF : F < 8 := by omega
    have c0 := D.out.c _ _ (grL_num (me := me) (bs := bs) (ps := ps) hF)
    have c1 := D.out.c _ _ (grL_clk (me := me) (bs := bs) (ps := ps) hF)
    have c2 := D.out.c _ _ (grL_snt (me := me) (bs := bs) (ps := ps) hF)
    have cf := D.out.f
    go_enter Try.func16, Try.ntmps16
    go_wp2_with fail
    refine (I _).mono ?_
    rintro e w1 ⟨rfl, rfl⟩
    clear I
    go_wp2
    exact bodyPost_end (v := .tuple #[]) (by simp [results, Try.results16, go_sem]) rfl ⟨rfl, by have h1 := ((D.out.put (9 + F * 3) (.int .i64 a)).put (9 + F * 3 + 1) (.int .i64 b)).put (9 + F * 3 + 2) (.bool true); rw [grL_setp hF] at h1; exact h1, grown_put (grown_put (grown_put (grown_refl _ _) _ _) _ _) _ _⟩
end Go.Proofs.Ytbhgbkbdojhofaa
