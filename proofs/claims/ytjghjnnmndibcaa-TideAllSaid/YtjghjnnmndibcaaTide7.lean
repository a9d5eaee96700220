/-
  What an argument of operations reads as. No condition beyond the reading.
-/
import Derived.Test.YtjghjnnmndibcaaTide6
namespace Go.Proofs.Ytjghjnnmndibcaa
open Go Go.RowKit Go.ChangeShapes Go.WideShapes Go.Deep
set_option linter.unusedVariables false

theorem list4 {r : List Value} {a b c d : Value} (h : r.length = 4) (h0 : r[0]? = some a) (h1 : r[1]? = some b) (h2 : r[2]? = some c) (h3 : r[3]? = some d) : r = [a, b, c, d] := by
  match r, h with
  | [x, y, z, u], _ => simp_all
theorem ops_of_arg {H : Type} {enc : TypeId × Value → H} {w : World} {base : Nat} {spare : Nat → Bool} {held : Bool} {fuel : Nat} {p : Option Addr} {n cap : Nat} {x : DataW H × List MemPlace}
    (h : DataW.trod enc Try.prog w base spare held fuel 22 [.slice p n cap] = some x) : ∃ xs : List OpD, SlS 4 w p n cap (xs.map opE) ∧ ∀ o ∈ xs, opOk o := by
  obtain ⟨L, hL, hr⟩ := sls_of_arg Try.underlying22 Try.underlying30 (by kernel_rfl) (by kernel_rfl) (by decide) h
  obtain ⟨xs, rfl, hx⟩ := list_typed (E := opE) (ok := opOk) L (fun r hr' => by
    obtain ⟨v0, y0, m0, g0, e0⟩ := hr r hr' 0 _ rfl
    obtain ⟨v1, y1, m1, g1, e1⟩ := hr r hr' 1 _ rfl
    obtain ⟨v2, y2, m2, g2, e2⟩ := hr r hr' 2 _ rfl
    obtain ⟨v3, y3, m3, g3, e3⟩ := hr r hr' 3 _ rfl
    obtain ⟨z0, k0, -, w0⟩ := DataW.trod_int Try.underlying3 e0
    obtain ⟨z1, k1, -, w1⟩ := DataW.trod_int Try.underlying2 e1
    obtain ⟨z2, k2, -, w2⟩ := DataW.trod_int Try.underlying2 e2
    obtain ⟨z3, k3, -, w3⟩ := DataW.trod_int Try.underlying2 e3
    obtain rfl : v0 = .int .i64 z0 := by simpa using k0
    obtain rfl : v1 = .int .i64 z1 := by simpa using k1
    obtain rfl : v2 = .int .i64 z2 := by simpa using k2
    obtain rfl : v3 = .int .i64 z3 := by simpa using k3
    exact ⟨⟨z0, z1, z2, z3⟩, list4 (hL.wid r hr') g0 g1 g2 g3, bounds_i64 w0, bounds_i64 w1, bounds_i64 w2, bounds_i64 w3⟩)
  exact ⟨xs, hL, hx⟩
end Go.Proofs.Ytjghjnnmndibcaa
