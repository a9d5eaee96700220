/-
  What an argument of operations (chapter 17) reads as: rows of 18 cells, a message within. Conditions stand at each.
-/
import Derived.Test.YtbhgbkbdojhofaaWire10
namespace Go.Proofs.Ytbhgbkbdojhofaa
open Go Go.Sort Go.RowKit Go.ChangeShapes Go.WideShapes Go.Deep
set_option linter.unusedVariables false

section
variable {H : Type} {enc : TypeId × Value → H} {P : Program} {w : World} {base : Nat} {spare : Nat → Bool} {held : Bool}
theorem rows_of_arg {t e : TypeId} {fuel : Nat} {p : Option Addr} {n cap : Nat} {x : DataW H × List MemPlace} (K : Nat) (ht : P.underlying t = some (.slice e))
    (hC : P.cellsOf e = K) (hpos : 0 < K) (h : DataW.trod enc P w base spare held fuel t [.slice p n cap] = some x) :
    ∃ L, SlS K w p n cap L ∧ ∀ r ∈ L, ∃ (m : Nat) (y : DataW H × List MemPlace), DataW.trod enc P w base spare held m e r = some y := by
  rcases open_slice ht h with ⟨h0, -⟩ | ⟨a, len, cap', m, fl, D, Pl, hcs, hb, hl, hm, hmm, hx, hi⟩
  · simp at h0
    obtain ⟨rfl, rfl, rfl⟩ := h0
    exact ⟨[], SlS.empty _ _, fun r hr => by cases hr⟩
  · simp at hcs
    obtain ⟨rfl, rfl, rfl⟩ := hcs
    have hlm : n ≤ m := by rw [hmm]; split <;> omega
    have hi2 : ∀ i, i < n → ∃ cs' : List Value, cs'.length = K ∧ (∀ j, j < K → w.cell? (a.add (i * K + j)) = cs'[j]?) ∧ ∃ (m : Nat) (y : DataW H × List MemPlace), DataW.trod enc P w base spare held m e cs' = some y := by
      intro i hin
      obtain ⟨cs', hc, ht'⟩ := hi i (by omega)
      rw [hC] at hc
      obtain ⟨_, hcl, hat⟩ := World.cells?_some hc
      exact ⟨cs', hcl, fun j hj => by rw [← Go.Deep.add_add]; exact hat j hj, _, _, ht'⟩
    obtain ⟨f, hf⟩ := choose_lt hi2
    have hlen : ((List.range n).map f).length = n := by simp
    refine ⟨(List.range n).map f, ⟨hlen, hl, by unfold maxLen at hm; omega, (fun hp => by cases hp), ?_, fun hn => ?_⟩, fun r hr => ?_⟩
    · intro x hx
      obtain ⟨i, hir, rfl⟩ := List.mem_map.1 hx
      exact (hf i (List.mem_range.1 hir)).1
    · obtain ⟨b, o, sp⟩ := a
      obtain ⟨h1, h2, -⟩ := hf 0 hn
      have h0 := h2 0 hpos
      rw [List.getElem?_eq_getElem (by omega)] at h0
      have hsp : sp = none := by simpa [Addr.add] using World.cell?_spot h0
      subst hsp
      refine ⟨b, o, rfl, fun i x hx j v hv => ?_⟩
      have hin : i < n := by
        have := (List.getElem?_eq_some_iff.1 hx).1
        rw [hlen] at this
        exact this
      rw [List.getElem?_map, List.getElem?_range hin] at hx
      simp at hx
      subst hx
      obtain ⟨k1, k2, -⟩ := hf i hin
      have hj : j < K := by rw [← k1]; exact (List.getElem?_eq_some_iff.1 hv).1
      have := k2 j hj
      rw [Addr.add_lit, hv] at this
      exact this
    · obtain ⟨i, hir, rfl⟩ := List.mem_map.1 hr
      exact (hf i (List.mem_range.1 hir)).2.2
end
theorem ms_of_cells {H : Type} {enc : TypeId × Value → H} {w : World} {base : Nat} {spare : Nat → Bool} {held : Bool} {fuel : Nat} {cs : List Value} {x : DataW H × List MemPlace}
    (hf : DataW.trod enc Try.prog w base spare held fuel 30 cs = some x) : ∃ (m : MsD) (q : Option Addr) (n cap : Nat) (L : List EnD), cs = msL m q n cap ∧ MsOk m ∧ SlS 7 w q n cap (L.map enL) ∧ ∀ e ∈ L, EnOk e := by
  obtain ⟨xs, n, _, hx, hcl, hlen, hg⟩ := DataW.trod_struct Try.underlying30 hf
  have hsz2 : cs.length = 13 := by
    have : Try.prog.cellsOf 30 = 13 := by kernel_rfl
    rw [hcl, this]
  have key : ∀ fs, Try.prog.underlying 30 = some (.struct fs) → oneCellFields Try.prog fs = true := by
    intro fs hfs
    rw [Try.underlying30] at hfs
    injection hfs with hfs
    injection hfs with hfs
    subst hfs
    kernel_rfl
  have hone := hone_of (key _ Try.underlying30)
  exact ms_typed (enc := enc) (w := w) (base := base) (spare := spare) (held := held) Try.underlying30 hsz2 (fun j f hj => by
    obtain ⟨o0, k0⟩ := hone j f hj
    have h1 := hg j f hj
    have hjl : j < 13 := (Array.getElem?_eq_some_iff.1 hj).1
    rw [o0, k0] at h1
    have hdt : (cs.drop j).take 1 = [cs[j]'(by omega)] := by
      rw [List.drop_eq_getElem_cons (by omega)]
      rfl
    rw [hdt] at h1
    have hxj : j < xs.length := by rw [hlen]; exact hjl
    rw [List.getElem?_eq_getElem hxj] at h1
    exact ⟨_, _, _, List.getElem?_eq_getElem (by omega), h1⟩)
/-- An operation of chapter 17. -/
structure OpG where
  kd : Int
  id : Int
  m : MsD
  p : Option Addr
  n : Nat
  cap : Nat
  L : List EnD
  q : Option Addr
  nb : Nat
  cb : Nat
  b : List UInt8
  num : Int
  clk : Int
abbrev ogL (o : OpG) : List Value := [.int .i64 o.kd, .int .i64 o.id, .int .i64 o.m.kd, .int .i64 o.m.fr, .int .i64 o.m.to, .int .i64 o.m.bt, .int .i64 o.m.vw, .int .i64 o.m.ls, .int .i64 o.m.mb, .int .i64 o.m.po, .slice o.p o.n o.cap, .int .i64 o.m.cm, .int .i64 o.m.nm, .int .i64 o.m.ck, .bool o.m.ye, .slice o.q o.nb o.cb, .int .i64 o.num, .int .i64 o.clk]
abbrev ogA (o : OpG) : Array Value := #[.int .i64 o.kd, .int .i64 o.id, .int .i64 o.m.kd, .int .i64 o.m.fr, .int .i64 o.m.to, .int .i64 o.m.bt, .int .i64 o.m.vw, .int .i64 o.m.ls, .int .i64 o.m.mb, .int .i64 o.m.po, .slice o.p o.n o.cap, .int .i64 o.m.cm, .int .i64 o.m.nm, .int .i64 o.m.ck, .bool o.m.ye, .slice o.q o.nb o.cb, .int .i64 o.num, .int .i64 o.clk]
def OgOk (w : World) (o : OpG) : Prop := I64 o.kd ∧ I64 o.id ∧ MsOk o.m ∧ SlS 7 w o.p o.n o.cap (o.L.map enL) ∧ (∀ e ∈ o.L, EnOk e) ∧ SlP w o.q o.nb o.cb o.b ∧ I64 o.num ∧ I64 o.clk
set_option maxRecDepth 8000 in
set_option maxHeartbeats 2000000 in
theorem og_typed {H : Type} {enc : TypeId × Value → H} {w : World} {base : Nat} {held : Bool} {fuel : Nat} {r : List Value} {x : DataW H × List MemPlace}
    (hf : DataW.trod enc Try.prog w base (fun _ => true) held fuel 33 r = some x) : ∃ o : OpG, r = ogL o ∧ OgOk w o := by
  obtain ⟨xs, n, _, hx, hcl, hlen, hg⟩ := DataW.trod_struct Try.underlying33 hf
  have h18 : r.length = 18 := by
    have : Try.prog.cellsOf 33 = 18 := by kernel_rfl
    rw [hcl, this]
  have c1 : Try.prog.cellsOf 3 = 1 := by kernel_rfl
  have c2 : Try.prog.cellsOf 2 = 1 := by kernel_rfl
  have c3 : Try.prog.cellsOf 31 = 1 := by kernel_rfl
  have c4 : Try.prog.cellsOf 30 = 13 := by kernel_rfl
  have h6 : xs.length = 6 := hlen
  have g0 := hg 0 _ rfl
  have g1 := hg 1 _ rfl
  have g2 := hg 2 _ rfl
  have g3 := hg 3 _ rfl
  have g4 := hg 4 _ rfl
  have g5 := hg 5 _ rfl
  match xs, h6 with
  | [x0, x1, x2, x3, x4, x5], _ =>
  match r, h18 with
  | [v0, v1, v2, v3, v4, v5, v6, v7, v8, v9, v10, v11, v12, v13, v14, v15, v16, v17], _ =>
  have e0 : DataW.trod enc Try.prog w base (fun _ => true) held n 3 [v0] = some x0 := by
    have h : DataW.trod enc Try.prog w base (fun _ => true) held n 3 (([v0, v1, v2, v3, v4, v5, v6, v7, v8, v9, v10, v11, v12, v13, v14, v15, v16, v17].drop 0).take (Try.prog.cellsOf 3)) = some x0 := g0
    rw [c1] at h
    exact h
  have e1 : DataW.trod enc Try.prog w base (fun _ => true) held n 3 [v1] = some x1 := by
    have h : DataW.trod enc Try.prog w base (fun _ => true) held n 3 (([v0, v1, v2, v3, v4, v5, v6, v7, v8, v9, v10, v11, v12, v13, v14, v15, v16, v17].drop 1).take (Try.prog.cellsOf 3)) = some x1 := g1
    rw [c1] at h
    exact h
  have e2 : DataW.trod enc Try.prog w base (fun _ => true) held n 30 [v2, v3, v4, v5, v6, v7, v8, v9, v10, v11, v12, v13, v14] = some x2 := by
    have h : DataW.trod enc Try.prog w base (fun _ => true) held n 30 (([v0, v1, v2, v3, v4, v5, v6, v7, v8, v9, v10, v11, v12, v13, v14, v15, v16, v17].drop 2).take (Try.prog.cellsOf 30)) = some x2 := g2
    rw [c4] at h
    exact h
  have e3 : DataW.trod enc Try.prog w base (fun _ => true) held n 31 [v15] = some x3 := by
    have h : DataW.trod enc Try.prog w base (fun _ => true) held n 31 (([v0, v1, v2, v3, v4, v5, v6, v7, v8, v9, v10, v11, v12, v13, v14, v15, v16, v17].drop 15).take (Try.prog.cellsOf 31)) = some x3 := g3
    rw [c3] at h
    exact h
  have e4 : DataW.trod enc Try.prog w base (fun _ => true) held n 2 [v16] = some x4 := by
    have h : DataW.trod enc Try.prog w base (fun _ => true) held n 2 (([v0, v1, v2, v3, v4, v5, v6, v7, v8, v9, v10, v11, v12, v13, v14, v15, v16, v17].drop 16).take (Try.prog.cellsOf 2)) = some x4 := g4
    rw [c2] at h
    exact h
  have e5 : DataW.trod enc Try.prog w base (fun _ => true) held n 2 [v17] = some x5 := by
    have h : DataW.trod enc Try.prog w base (fun _ => true) held n 2 (([v0, v1, v2, v3, v4, v5, v6, v7, v8, v9, v10, v11, v12, v13, v14, v15, v16, v17].drop 17).take (Try.prog.cellsOf 2)) = some x5 := g5
    rw [c2] at h
    exact h
  clear g0 g1 g2 g3 g4 g5
  obtain ⟨z0, k0, -, w0⟩ := DataW.trod_int Try.underlying3 e0
  obtain rfl : v0 = .int .i64 z0 := by simpa using k0
  obtain ⟨z1, k1, -, w1⟩ := DataW.trod_int Try.underlying3 e1
  obtain rfl : v1 = .int .i64 z1 := by simpa using k1
  obtain ⟨z4, k4, -, w4⟩ := DataW.trod_int Try.underlying2 e4
  obtain rfl : v16 = .int .i64 z4 := by simpa using k4
  obtain ⟨z5, k5, -, w5⟩ := DataW.trod_int Try.underlying2 e5
  obtain rfl : v17 = .int .i64 z5 := by simpa using k5
  obtain ⟨m, p, k, cap, L, hm, mok, hS, hL⟩ := ms_of_cells e2
  obtain ⟨q, nb, cb, b, rfl, hB⟩ : ∃ q nb cb b, v15 = .slice q nb cb ∧ SlP w q nb cb b := by
    rcases open_ints Try.underlying31 Try.underlying5 (by kernel_rfl) e3 with ⟨hcs, _⟩ | ⟨x, l, c, zs, hcs, _, hl, hm, hz, _, hcell, hwz⟩
    · exact ⟨none, 0, 0, [], by simpa using hcs, SlP.empty _⟩
    · obtain ⟨b, hb⟩ := sl_of_row hl hm (by simpa using hz) hcell hwz
      exact ⟨some x, l, c, b, by simpa using hcs, hb⟩
  refine ⟨⟨z0, z1, m, p, k, cap, L, q, nb, cb, b, z4, z5⟩, ?_, bounds_i64 w0, bounds_i64 w1, mok, hS, hL, hB, bounds_i64 w4, bounds_i64 w5⟩
  simp only [msL, List.cons.injEq] at hm
  obtain ⟨rfl, rfl, rfl, rfl, rfl, rfl, rfl, rfl, rfl, rfl, rfl, rfl, rfl, -⟩ := hm
  rfl
theorem ogs_of_arg {H : Type} {enc : TypeId × Value → H} {w : World} {base : Nat} {held : Bool} {fuel : Nat} {p : Option Addr} {n cap : Nat} {x : DataW H × List MemPlace}
    (h : DataW.trod enc Try.prog w base (fun _ => true) held fuel 22 [.slice p n cap] = some x) : ∃ xs : List OpG, SlS 18 w p n cap (xs.map ogL) ∧ ∀ o ∈ xs, OgOk w o := by
  obtain ⟨L, hL, hr⟩ := rows_of_arg 18 Try.underlying22 (by kernel_rfl) (by omega) h
  obtain ⟨xs, rfl, hx⟩ := list_typed (E := ogL) (ok := OgOk w) L (fun r hr' => by
    obtain ⟨m, y, hy⟩ := hr r hr'
    exact og_typed hy)
  exact ⟨xs, hL, hx⟩
end Go.Proofs.Ytbhgbkbdojhofaa
