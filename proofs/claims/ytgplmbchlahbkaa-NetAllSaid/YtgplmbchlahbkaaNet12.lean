/-
  What an argument of operations (chapter 18) reads as: rows of three cells, a list of messages within. Conditions stand at each.
-/
import Derived.Test.YtgplmbchlahbkaaNet10
namespace Go.Proofs.Ytgplmbchlahbkaa
open Go Go.Sort Go.RowKit Go.ChangeShapes Go.WideShapes Go.Deep
set_option linter.unusedVariables false

section
variable {H : Type} {enc : TypeId × Value → H} {P : Program} {w : World} {base : Nat} {spare : Nat → Bool} {held : Bool}
theorem rows_of_arg {t e : TypeId} {fuel : Nat} {p : Option Addr} {n cap : Nat} {x : DataW H × List MemPlace} (K : Nat) (ht : P.underlying t = some (.slice e))
    (hC : P.cellsOf e = K) (hpos : 0 < K) (h : DataW.trod enc P w base spare held fuel t [.slice p n cap] = some x) :
    ∃ L, SlS K w p n cap L ∧ ∀ r ∈ L, ∃ (m : Nat) (y : DataW H × List MemPlace), DataW.trod enc P w base spare held m e r = some y := by
  rcases open_slice ht h with ⟨h0, -⟩ | ⟨a, len, cap', m, fl, D, Pl, hcs, hb, hl, hm, hmm, hx, hi⟩
  · simp at h0
    obtain ⟨rfl, rfl, rfl⟩ := h0
    exact ⟨[], SlS.empty _ _, fun r hr => by cases hr⟩
  · simp at hcs
    obtain ⟨rfl, rfl, rfl⟩ := hcs
    have hlm : n ≤ m := by rw [hmm]; split <;> omega
    have hi2 : ∀ i, i < n → ∃ cs' : List Value, cs'.length = K ∧ (∀ j, j < K → w.cell? (a.add (i * K + j)) = cs'[j]?) ∧ ∃ (m : Nat) (y : DataW H × List MemPlace), DataW.trod enc P w base spare held m e cs' = some y := by
      intro i hin
      obtain ⟨cs', hc, ht'⟩ := hi i (by omega)
      rw [hC] at hc
      obtain ⟨_, hcl, hat⟩ := World.cells?_some hc
      exact ⟨cs', hcl, fun j hj => by rw [← Go.Deep.add_add]; exact hat j hj, _, _, ht'⟩
    obtain ⟨f, hf⟩ := choose_lt hi2
    have hlen : ((List.range n).map f).length = n := by simp
    refine ⟨(List.range n).map f, ⟨hlen, hl, by unfold maxLen at hm; omega, (fun hp => by cases hp), ?_, fun hn => ?_⟩, fun r hr => ?_⟩
    · intro x hx
      obtain ⟨i, hir, rfl⟩ := List.mem_map.1 hx
      exact (hf i (List.mem_range.1 hir)).1
    · obtain ⟨b, o, sp⟩ := a
      obtain ⟨h1, h2, -⟩ := hf 0 hn
      have h0 := h2 0 hpos
      rw [List.getElem?_eq_getElem (by omega)] at h0
      have hsp : sp = none := by simpa [Addr.add] using World.cell?_spot h0
      subst hsp
      refine ⟨b, o, rfl, fun i x hx j v hv => ?_⟩
      have hin : i < n := by
        have := (List.getElem?_eq_some_iff.1 hx).1
        rw [hlen] at this
        exact this
      rw [List.getElem?_map, List.getElem?_range hin] at hx
      simp at hx
      subst hx
      obtain ⟨k1, k2, -⟩ := hf i hin
      have hj : j < K := by rw [← k1]; exact (List.getElem?_eq_some_iff.1 hv).1
      have := k2 j hj
      rw [Addr.add_lit, hv] at this
      exact this
    · obtain ⟨i, hir, rfl⟩ := List.mem_map.1 hr
      exact (hf i (List.mem_range.1 hir)).2.2
end
theorem ms_of_cells {H : Type} {enc : TypeId × Value → H} {w : World} {base : Nat} {spare : Nat → Bool} {held : Bool} {fuel : Nat} {cs : List Value} {x : DataW H × List MemPlace}
    (hf : DataW.trod enc Try.prog w base spare held fuel 31 cs = some x) : ∃ (m : MsD) (q : Option Addr) (n cap : Nat) (L : List EnD), cs = msL m q n cap ∧ MsOk m ∧ SlS 7 w q n cap (L.map enL) ∧ ∀ e ∈ L, EnOk e := by
  obtain ⟨xs, n, _, hx, hcl, hlen, hg⟩ := DataW.trod_struct Try.underlying31 hf
  have hsz2 : cs.length = 13 := by
    have : Try.prog.cellsOf 31 = 13 := by kernel_rfl
    rw [hcl, this]
  have key : ∀ fs, Try.prog.underlying 31 = some (.struct fs) → oneCellFields Try.prog fs = true := by
    intro fs hfs
    rw [Try.underlying31] at hfs
    injection hfs with hfs
    injection hfs with hfs
    subst hfs
    kernel_rfl
  have hone := hone_of (key _ Try.underlying31)
  exact ms_typed (enc := enc) (w := w) (base := base) (spare := spare) (held := held) Try.underlying31 hsz2 (fun j f hj => by
    obtain ⟨o0, k0⟩ := hone j f hj
    have h1 := hg j f hj
    have hjl : j < 13 := (Array.getElem?_eq_some_iff.1 hj).1
    rw [o0, k0] at h1
    have hdt : (cs.drop j).take 1 = [cs[j]'(by omega)] := by
      rw [List.drop_eq_getElem_cons (by omega)]
      rfl
    rw [hdt] at h1
    have hxj : j < xs.length := by rw [hlen]; exact hjl
    rw [List.getElem?_eq_getElem hxj] at h1
    exact ⟨_, _, _, List.getElem?_eq_getElem (by omega), h1⟩)
/-- An operation of chapter 18. -/
structure OpN where
  kd : Int
  id : Int
  q : Option Addr
  cap : Nat
  xs : List MsgD
abbrev opL (o : OpN) : List Value := [.int .i64 o.kd, .int .i64 o.id, .slice o.q o.xs.length o.cap]
def OpNOk (w : World) (o : OpN) : Prop := I64 o.kd ∧ I64 o.id ∧ SlS 13 w o.q o.xs.length o.cap (o.xs.map msgL) ∧ ∀ x ∈ o.xs, MsgOk w x
theorem msgs_of_arg {H : Type} {enc : TypeId × Value → H} {w : World} {base : Nat} {held : Bool} {fuel : Nat} {p : Option Addr} {n cap : Nat} {x : DataW H × List MemPlace}
    (h : DataW.trod enc Try.prog w base (fun _ => true) held fuel 26 [.slice p n cap] = some x) : ∃ xs : List MsgD, xs.length = n ∧ SlS 13 w p n cap (xs.map msgL) ∧ ∀ o ∈ xs, MsgOk w o := by
  obtain ⟨L, hL, hr⟩ := rows_of_arg 13 Try.underlying26 (by kernel_rfl) (by omega) h
  obtain ⟨xs, rfl, hx⟩ := list_typed (E := msgL) (ok := MsgOk w) L (fun r hr' => by
    obtain ⟨m, y, hy⟩ := hr r hr'
    obtain ⟨m, q, k, c, L, rfl, mok, hS, hE⟩ := ms_of_cells hy
    have hl : L.length = k := by have := hS.len; simpa using this
    subst hl
    exact ⟨⟨m, q, c, L⟩, rfl, mok, hS, hE⟩)
  exact ⟨xs, by have := hL.len; simpa using this, hL, hx⟩
theorem op_typed {H : Type} {enc : TypeId × Value → H} {w : World} {base : Nat} {held : Bool} {fuel : Nat} {r : List Value} {x : DataW H × List MemPlace}
    (hf : DataW.trod enc Try.prog w base (fun _ => true) held fuel 28 r = some x) : ∃ o : OpN, r = opL o ∧ OpNOk w o := by
  obtain ⟨xs, n, _, hx, hcl, hlen, hg⟩ := DataW.trod_struct Try.underlying28 hf
  have h3 : r.length = 3 := by
    have : Try.prog.cellsOf 28 = 3 := by kernel_rfl
    rw [hcl, this]
  have c1 : Try.prog.cellsOf 3 = 1 := by kernel_rfl
  have c2 : Try.prog.cellsOf 26 = 1 := by kernel_rfl
  have h6 : xs.length = 3 := hlen
  have g0 := hg 0 _ rfl
  have g1 := hg 1 _ rfl
  have g2 := hg 2 _ rfl
  match xs, h6 with
  | [x0, x1, x2], _ =>
  match r, h3 with
  | [v0, v1, v2], _ =>
  have e0 : DataW.trod enc Try.prog w base (fun _ => true) held n 3 [v0] = some x0 := by
    have h : DataW.trod enc Try.prog w base (fun _ => true) held n 3 (([v0, v1, v2].drop 0).take (Try.prog.cellsOf 3)) = some x0 := g0
    rw [c1] at h
    exact h
  have e1 : DataW.trod enc Try.prog w base (fun _ => true) held n 3 [v1] = some x1 := by
    have h : DataW.trod enc Try.prog w base (fun _ => true) held n 3 (([v0, v1, v2].drop 1).take (Try.prog.cellsOf 3)) = some x1 := g1
    rw [c1] at h
    exact h
  have e2 : DataW.trod enc Try.prog w base (fun _ => true) held n 26 [v2] = some x2 := by
    have h : DataW.trod enc Try.prog w base (fun _ => true) held n 26 (([v0, v1, v2].drop 2).take (Try.prog.cellsOf 26)) = some x2 := g2
    rw [c2] at h
    exact h
  clear g0 g1 g2
  obtain ⟨z0, k0, -, w0⟩ := DataW.trod_int Try.underlying3 e0
  obtain rfl : v0 = .int .i64 z0 := by simpa using k0
  obtain ⟨z1, k1, -, w1⟩ := DataW.trod_int Try.underlying3 e1
  obtain rfl : v1 = .int .i64 z1 := by simpa using k1
  obtain ⟨q, k, cap, rfl⟩ : ∃ q k cap, v2 = .slice q k cap := by
    rcases open_slice Try.underlying26 e2 with ⟨h0, -⟩ | ⟨a, len, cap', m, fl, D, Pl, hcs, -⟩
    · exact ⟨none, 0, 0, by simpa using h0⟩
    · exact ⟨some a, len, cap', by simpa using hcs⟩
  obtain ⟨ys, rfl, hS, hY⟩ := msgs_of_arg e2
  exact ⟨⟨z0, z1, q, cap, ys⟩, rfl, bounds_i64 w0, bounds_i64 w1, hS, hY⟩
theorem opns_of_arg {H : Type} {enc : TypeId × Value → H} {w : World} {base : Nat} {held : Bool} {fuel : Nat} {p : Option Addr} {n cap : Nat} {x : DataW H × List MemPlace}
    (h : DataW.trod enc Try.prog w base (fun _ => true) held fuel 22 [.slice p n cap] = some x) : ∃ xs : List OpN, SlS 3 w p n cap (xs.map opL) ∧ ∀ o ∈ xs, OpNOk w o := by
  obtain ⟨L, hL, hr⟩ := rows_of_arg 3 Try.underlying22 (by kernel_rfl) (by omega) h
  obtain ⟨xs, rfl, hx⟩ := list_typed (E := opL) (ok := OpNOk w) L (fun r hr' => by
    obtain ⟨m, y, hy⟩ := hr r hr'
    exact op_typed hy)
  exact ⟨xs, hL, hx⟩
end Go.Proofs.Ytgplmbchlahbkaa
