/-
  Contracts of the statements' Cut, tells, begun of wire; what an argument of a message reads as. Conditions stand at each.
-/
import Derived.Test.YtbhgbkbdojhofaaWire9
import Derived.Test.YtbhgbkbdojhofaaWire6
import Derived.Test.YtbhgbkbdojhofaaWire7
import Derived.Test.YtbhgbkbdojhofaaEntry8
import Derived.Deep.DeepCutAuto
namespace Go.Proofs.Ytbhgbkbdojhofaa
open Go Go.Sort Go.RowKit
set_option linter.unusedVariables false

set_option maxRecDepth 8000 in
set_option maxHeartbeats 4000000 in
/-- The statements' Cut. -/
theorem wcut_any {w : World} {m : MsD} {p : Option Addr} {n cap : Nat} {L : List EnD} (h : SlS 7 w p n cap (L.map enL)) (hL : ∀ e ∈ L, EnOk e) :
    Calls Try.prog 10 #[msV m p n cap] w fun x w' => ∃ (M : List EnD) (p' : Option Addr) (cap' : Nat), x = .returned (msV m p' M.length cap') ∧ M.length ≤ 62 ∧ OwS 66 7 w' w.heap.size p' M.length cap' (M.map enL) ∧ (∀ e ∈ M, EnOk e) ∧ Ext w w' := by
  obtain ⟨w0, hw0⟩ : ∃ w0, w0 = (w.alloc (.cells (msA m p n cap) 30)).alloc (.cells (msA zeroM none 0 0) 30) := ⟨_, rfl⟩
  have D : Hid (BoxV w0 w.heap.size w.heap.size (msL m p n cap)) := Lib.hid (by rw [hw0]; exact (BoxV.new w w.heap.size (msA m p n cap) (msL m p n cap) 30 _ rfl (Nat.le_refl _) rfl).ext (Ext.alloc _ _))
  have T : Hid (BoxV w0 w.heap.size (w.heap.size + 1) (msL zeroM none 0 0)) := Lib.hid (by rw [hw0]; exact BoxV.new (w.alloc (.cells (msA m p n cap) 30)) w.heap.size (msA zeroM none 0 0) (msL zeroM none 0 0) 30 (w.heap.size + 1) (by simp) (by omega) rfl)
  have X : Hid (Ext w w0) := Lib.hid (by rw [hw0]; exact (Ext.alloc w _).tr (Ext.alloc _ _))
  have W0 : Hid (w0.heap.size = w.heap.size + 1 + 1) := Lib.hid (by rw [hw0]; simp)
  have S := Lib.hid (h.ext X.out)
  have HL := Lib.hid hL
  clear h hL
  go_enter Try.func10, Try.ntmps10
  go_wp2_with fail
  change Calls _ _ _ ((w.alloc (.cells (msA m p n cap) 30)).alloc (.cells (msA zeroM none 0 0) 30)) _
  rw [← hw0]
  clear hw0
  refine (lentries_any 62 (by omega) S.out HL.out).mono ?_
  rintro x w2 ⟨M, p', cap', rfl, hM, o2, hok, x2⟩
  have O2 := Lib.hid o2
  have OK2 := Lib.hid hok
  have D2 := Lib.hid (D.out.ext x2)
  have T2 := Lib.hid (T.out.ext x2)
  have X2 := Lib.hid (X.out.tr x2)
  have HG := Lib.hid x2.size
  clear o2 hok x2 D T X S
  have hlt : w.heap.size < w2.heap.size := by have := HG.out; have := W0.out; omega
  have c0 := D2.out.c 0 _ rfl
  have c1 := D2.out.c 1 _ rfl
  have c2 := D2.out.c 2 _ rfl
  have c3 := D2.out.c 3 _ rfl
  have c4 := D2.out.c 4 _ rfl
  have c5 := D2.out.c 5 _ rfl
  have c6 := D2.out.c 6 _ rfl
  have c7 := D2.out.c 7 _ rfl
  have c8 := D2.out.c 8 _ rfl
  have c9 := D2.out.c 9 _ rfl
  have c10 := D2.out.c 10 _ rfl
  have c11 := D2.out.c 11 _ rfl
  have c12 := D2.out.c 12 _ rfl
  try simp only at c0 c1 c2 c3 c4 c5 c6 c7 c8 c9 c10 c11 c12
  have cf := D2.out.f
  go_upto_region 2 with fail
  obtain ⟨w3, hw3⟩ : ∃ w3, w3 = w2.setCell ⟨w.heap.size, 8, none⟩ (.slice p' M.length cap') := ⟨_, rfl⟩
  have D3 : Hid (BoxV w3 w.heap.size w.heap.size (msL m p' M.length cap')) := Lib.hid (by rw [hw3]; exact D2.out.put 8 _)
  have G3 : Hid (w2.grownBy w3 (some w.heap.size)) := Lib.hid (by rw [hw3]; exact grown_put (grown_refl _ _) 8 _)
  have X3 : Hid (Ext w w3) := Lib.hid (by rw [hw3]; exact X2.out.setCell (Nat.le_refl _) _)
  have T3 := Lib.hid (T2.out.other G3.out (by simp))
  change Code.wp _ _ _ _ (w2.setCell ⟨w.heap.size, 8, none⟩ (.slice p' M.length cap'))
  rw [← hw3]
  clear c0 c1 c2 c3 c4 c5 c6 c7 c8 c9 c10 c11 c12
  clear cf hw3 D2 X2 T2
  have d0 := D3.out.c 0 _ rfl
  have d1 := D3.out.c 1 _ rfl
  have d2 := D3.out.c 2 _ rfl
  have d3 := D3.out.c 3 _ rfl
  have d4 := D3.out.c 4 _ rfl
  have d5 := D3.out.c 5 _ rfl
  have d6 := D3.out.c 6 _ rfl
  have d7 := D3.out.c 7 _ rfl
  have d8 := D3.out.c 8 _ rfl
  have d9 := D3.out.c 9 _ rfl
  have d10 := D3.out.c 10 _ rfl
  have d11 := D3.out.c 11 _ rfl
  have d12 := D3.out.c 12 _ rfl
  try simp only at d0 d1 d2 d3 d4 d5 d6 d7 d8 d9 d10 d11 d12
  have b0 := T3.out.c 0 _ rfl
  have b1 := T3.out.c 1 _ rfl
  have b2 := T3.out.c 2 _ rfl
  have b3 := T3.out.c 3 _ rfl
  have b4 := T3.out.c 4 _ rfl
  have b5 := T3.out.c 5 _ rfl
  have b6 := T3.out.c 6 _ rfl
  have b7 := T3.out.c 7 _ rfl
  have b8 := T3.out.c 8 _ rfl
  have b9 := T3.out.c 9 _ rfl
  have b10 := T3.out.c 10 _ rfl
  have b11 := T3.out.c 11 _ rfl
  have b12 := T3.out.c 12 _ rfl
  try simp only at b0 b1 b2 b3 b4 b5 b6 b7 b8 b9 b10 b11 b12
  have bf := T3.out.f
  go_wp2
  obtain ⟨w9, hw9⟩ : ∃ w9, w9 = fillV w3 (w.heap.size + 1) 0 (msL m p' M.length cap') := ⟨_, rfl⟩
  change bodyPost _ _ _ Exit.ret _ (fillV w3 (w.heap.size + 1) 0 (msL m p' M.length cap'))
  have FB := Lib.hid (T3.out.fill (vs := msL m p' M.length cap') (Nat.le_refl _))
  have FX := Lib.hid (fillV_below X3.out (show w.heap.size ≤ w.heap.size + 1 by omega) (msL m p' M.length cap') 0)
  have FO := Lib.hid (((O2.out.kept G3.out (fun k hk => by
      cases hk
      intro hc
      have := O2.out.lt _ hc
      have := W0.out
      omega)).kept (fillV_grown (w.heap.size + 1) (msL m p' M.length cap') 0 w3 w3 (grown_refl _ _)) (fun k hk => by
      cases hk
      intro hc
      have := O2.out.lt _ hc
      have := W0.out
      omega)).mono (show w.heap.size ≤ w0.heap.size by have := W0.out; omega))
  rw [← hw9] at FB FX FO ⊢
  have f0 := FB.out.c 0 _ rfl
  have f1 := FB.out.c 1 _ rfl
  have f2 := FB.out.c 2 _ rfl
  have f3 := FB.out.c 3 _ rfl
  have f4 := FB.out.c 4 _ rfl
  have f5 := FB.out.c 5 _ rfl
  have f6 := FB.out.c 6 _ rfl
  have f7 := FB.out.c 7 _ rfl
  have f8 := FB.out.c 8 _ rfl
  have f9 := FB.out.c 9 _ rfl
  have f10 := FB.out.c 10 _ rfl
  have f11 := FB.out.c 11 _ rfl
  have f12 := FB.out.c 12 _ rfl
  try simp only at f0 f1 f2 f3 f4 f5 f6 f7 f8 f9 f10 f11 f12
  exact bodyPost_ret (v := msV m p' M.length cap') (by simp [results, Try.results10, go_sem, f0, f1, f2, f3, f4, f5, f6, f7, f8, f9, f10, f11, f12]) rfl ⟨M, p', cap', rfl, hM, FO.out, (fun e he => (OK2.out e he).1), FX.out⟩

theorem decM_nil : decM [] = none := by
  cases h : decM [] with
  | none => rfl
  | some r =>
    obtain ⟨m, L⟩ := r
    obtain ⟨h1, h2, -⟩ := decM_some h
    have := encM_pos h2
    rw [h1] at this
    simp at this
def m16 : MsD := ⟨6, 1, 2, 1, 4, 0, 0, 3, 0, 0, 0, false⟩
theorem ok16 : MsOk m16 := ⟨⟨by decide, by decide⟩, ⟨by decide, by decide⟩, ⟨by decide, by decide⟩, ⟨by decide, by decide⟩, ⟨by decide, by decide⟩, ⟨by decide, by decide⟩, ⟨by decide, by decide⟩, ⟨by decide, by decide⟩, ⟨by decide, by decide⟩, ⟨by decide, by decide⟩, ⟨by decide, by decide⟩⟩
theorem okZM : MsOk zeroM := ⟨⟨by decide, by decide⟩, ⟨by decide, by decide⟩, ⟨by decide, by decide⟩, ⟨by decide, by decide⟩, ⟨by decide, by decide⟩, ⟨by decide, by decide⟩, ⟨by decide, by decide⟩, ⟨by decide, by decide⟩, ⟨by decide, by decide⟩, ⟨by decide, by decide⟩, ⟨by decide, by decide⟩⟩
open Go.ChangeShapes Go.WideShapes Go.Deep
theorem list7 {r : List Value} {a b c d e f g : Value} (h : r.length = 7) (h0 : r[0]? = some a) (h1 : r[1]? = some b) (h2 : r[2]? = some c) (h3 : r[3]? = some d) (h4 : r[4]? = some e) (h5 : r[5]? = some f) (h6 : r[6]? = some g) : r = [a, b, c, d, e, f, g] := by
  match r, h with
  | [x1, x2, x3, x4, x5, x6, x7], _ => simp_all
theorem en_typed {H : Type} {enc : TypeId × Value → H} {w : World} {base : Nat} {spare : Nat → Bool} {held : Bool} {r : List Value} {fs : Array Field} (hfs : Try.prog.underlying 66 = some (.struct fs)) (hlen : r.length = 7)
    (h : ∀ (j : Nat) (f : Field), fs[j]? = some f → ∃ (v : Value) (y : DataW H × List MemPlace) (m : Nat), r[j]? = some v ∧ DataW.trod enc Try.prog w base spare held m f.type [v] = some y) : ∃ e : EnD, r = enL e ∧ EnOk e := by
  have hu := Try.underlying66
  rw [hu] at hfs
  injection hfs with hfs
  injection hfs with hfs
  subst hfs
  obtain ⟨v0, y0, m0, g0, e0⟩ := h 0 _ rfl
  obtain ⟨v1, y1, m1, g1, e1⟩ := h 1 _ rfl
  obtain ⟨v2, y2, m2, g2, e2⟩ := h 2 _ rfl
  obtain ⟨v3, y3, m3, g3, e3⟩ := h 3 _ rfl
  obtain ⟨v4, y4, m4, g4, e4⟩ := h 4 _ rfl
  obtain ⟨v5, y5, m5, g5, e5⟩ := h 5 _ rfl
  obtain ⟨v6, y6, m6, g6, e6⟩ := h 6 _ rfl
  obtain ⟨z0, k0, -, w0⟩ := DataW.trod_int Try.underlying3 e0
  obtain ⟨z1, k1, -, w1⟩ := DataW.trod_int Try.underlying2 e1
  obtain ⟨z2, k2, -, w2⟩ := DataW.trod_int Try.underlying2 e2
  obtain ⟨z3, k3, -, w3⟩ := DataW.trod_int Try.underlying3 e3
  obtain ⟨z4, k4, -, w4⟩ := DataW.trod_int Try.underlying3 e4
  obtain ⟨z5, k5, -, w5⟩ := DataW.trod_int Try.underlying2 e5
  obtain ⟨s6, k6, -, w6⟩ := DataW.trod_string Try.underlying9 e6
  obtain rfl : v0 = .int .i64 z0 := by simpa using k0
  obtain rfl : v1 = .int .i64 z1 := by simpa using k1
  obtain rfl : v2 = .int .i64 z2 := by simpa using k2
  obtain rfl : v3 = .int .i64 z3 := by simpa using k3
  obtain rfl : v4 = .int .i64 z4 := by simpa using k4
  obtain rfl : v5 = .int .i64 z5 := by simpa using k5
  obtain rfl : v6 = .string s6 := by simpa using k6
  exact ⟨⟨z0, z1, z2, z3, z4, z5, s6⟩, list7 hlen g0 g1 g2 g3 g4 g5 g6, bounds_i64 w0, bounds_i64 w1, bounds_i64 w2, bounds_i64 w3, bounds_i64 w4, bounds_i64 w5, by unfold maxLen at w6; exact w6⟩
theorem ens_of_arg {H : Type} {enc : TypeId × Value → H} {w : World} {base : Nat} {spare : Nat → Bool} {held : Bool} {fuel : Nat} {p : Option Addr} {n cap : Nat} {x : DataW H × List MemPlace}
    (h : DataW.trod enc Try.prog w base spare held fuel 28 [.slice p n cap] = some x) : ∃ xs : List EnD, SlS 7 w p n cap (xs.map enL) ∧ ∀ e ∈ xs, EnOk e := by
  obtain ⟨L, hL, hr⟩ := sls_of_arg Try.underlying28 Try.underlying66 (by kernel_rfl) (by kernel_rfl) (by decide) h
  obtain ⟨xs, rfl, hx⟩ := list_typed (E := enL) (ok := EnOk) L (fun r hr' => en_typed Try.underlying66 (hL.wid r hr') (hr r hr'))
  exact ⟨xs, hL, hx⟩

theorem list13 {r : List Value} {v0 v1 v2 v3 v4 v5 v6 v7 v8 v9 v10 v11 v12 : Value} (h : r.length = 13) (h0 : r[0]? = some v0) (h1 : r[1]? = some v1) (h2 : r[2]? = some v2) (h3 : r[3]? = some v3) (h4 : r[4]? = some v4) (h5 : r[5]? = some v5) (h6 : r[6]? = some v6) (h7 : r[7]? = some v7) (h8 : r[8]? = some v8) (h9 : r[9]? = some v9) (h10 : r[10]? = some v10) (h11 : r[11]? = some v11) (h12 : r[12]? = some v12) : r = [v0, v1, v2, v3, v4, v5, v6, v7, v8, v9, v10, v11, v12] := by
  match r, h with
  | [x0, x1, x2, x3, x4, x5, x6, x7, x8, x9, x10, x11, x12], _ => simp_all
theorem ms_typed {H : Type} {enc : TypeId × Value → H} {w : World} {base : Nat} {spare : Nat → Bool} {held : Bool} {r : List Value} {fs : Array Field} (hfs : Try.prog.underlying 30 = some (.struct fs)) (hlen : r.length = 13)
    (h : ∀ (j : Nat) (f : Field), fs[j]? = some f → ∃ (v : Value) (y : DataW H × List MemPlace) (m : Nat), r[j]? = some v ∧ DataW.trod enc Try.prog w base spare held m f.type [v] = some y) : ∃ (m : MsD) (p : Option Addr) (n cap : Nat) (L : List EnD), r = msL m p n cap ∧ MsOk m ∧ SlS 7 w p n cap (L.map enL) ∧ ∀ e ∈ L, EnOk e := by
  have hu := Try.underlying30
  rw [hu] at hfs
  injection hfs with hfs
  injection hfs with hfs
  subst hfs
  obtain ⟨v0, y0, m0, g0, e0⟩ := h 0 _ rfl
  obtain ⟨v1, y1, m1, g1, e1⟩ := h 1 _ rfl
  obtain ⟨v2, y2, m2, g2, e2⟩ := h 2 _ rfl
  obtain ⟨v3, y3, m3, g3, e3⟩ := h 3 _ rfl
  obtain ⟨v4, y4, m4, g4, e4⟩ := h 4 _ rfl
  obtain ⟨v5, y5, m5, g5, e5⟩ := h 5 _ rfl
  obtain ⟨v6, y6, m6, g6, e6⟩ := h 6 _ rfl
  obtain ⟨v7, y7, m7, g7, e7⟩ := h 7 _ rfl
  obtain ⟨v8, y8, m8, g8, e8⟩ := h 8 _ rfl
  obtain ⟨v9, y9, m9, g9, e9⟩ := h 9 _ rfl
  obtain ⟨v10, y10, m10, g10, e10⟩ := h 10 _ rfl
  obtain ⟨v11, y11, m11, g11, e11⟩ := h 11 _ rfl
  obtain ⟨v12, y12, m12, g12, e12⟩ := h 12 _ rfl
  obtain ⟨z0, k0, -, w0⟩ := DataW.trod_int Try.underlying3 e0
  obtain rfl : v0 = .int .i64 z0 := by simpa using k0
  obtain ⟨z1, k1, -, w1⟩ := DataW.trod_int Try.underlying3 e1
  obtain rfl : v1 = .int .i64 z1 := by simpa using k1
  obtain ⟨z2, k2, -, w2⟩ := DataW.trod_int Try.underlying3 e2
  obtain rfl : v2 = .int .i64 z2 := by simpa using k2
  obtain ⟨z3, k3, -, w3⟩ := DataW.trod_int Try.underlying2 e3
  obtain rfl : v3 = .int .i64 z3 := by simpa using k3
  obtain ⟨z4, k4, -, w4⟩ := DataW.trod_int Try.underlying2 e4
  obtain rfl : v4 = .int .i64 z4 := by simpa using k4
  obtain ⟨z5, k5, -, w5⟩ := DataW.trod_int Try.underlying2 e5
  obtain rfl : v5 = .int .i64 z5 := by simpa using k5
  obtain ⟨z6, k6, -, w6⟩ := DataW.trod_int Try.underlying3 e6
  obtain rfl : v6 = .int .i64 z6 := by simpa using k6
  obtain ⟨z7, k7, -, w7⟩ := DataW.trod_int Try.underlying3 e7
  obtain rfl : v7 = .int .i64 z7 := by simpa using k7
  obtain ⟨z9, k9, -, w9⟩ := DataW.trod_int Try.underlying3 e9
  obtain rfl : v9 = .int .i64 z9 := by simpa using k9
  obtain ⟨z10, k10, -, w10⟩ := DataW.trod_int Try.underlying2 e10
  obtain rfl : v10 = .int .i64 z10 := by simpa using k10
  obtain ⟨z11, k11, -, w11⟩ := DataW.trod_int Try.underlying2 e11
  obtain rfl : v11 = .int .i64 z11 := by simpa using k11
  obtain ⟨z12, k12, -⟩ := DataW.trod_bool Try.underlying4 e12
  obtain rfl : v12 = .bool z12 := by simpa using k12
  obtain ⟨p, n, cap, rfl⟩ : ∃ p n cap, v8 = .slice p n cap := by
    rcases open_slice Try.underlying28 e8 with ⟨h0, -⟩ | ⟨a, len, cap', m, fl, D, Pl, hcs, -⟩
    · exact ⟨none, 0, 0, by simpa using h0⟩
    · exact ⟨some a, len, cap', by simpa using hcs⟩
  obtain ⟨L, hL, hok⟩ := ens_of_arg e8
  exact ⟨⟨z0, z1, z2, z3, z4, z5, z6, z7, z9, z10, z11, z12⟩, p, n, cap, L, list13 hlen g0 g1 g2 g3 g4 g5 g6 g7 g8 g9 g10 g11 g12, ⟨bounds_i64 w0, bounds_i64 w1, bounds_i64 w2, bounds_i64 w3, bounds_i64 w4, bounds_i64 w5, bounds_i64 w6, bounds_i64 w7, bounds_i64 w9, bounds_i64 w10, bounds_i64 w11⟩, hL, hok⟩
/-- A message by value. -/
theorem ms_of_arg {H : Type} {enc : TypeId × Value → H} {w : World} {base : Nat} {spare : Nat → Bool} {held : Bool} {r : Reach} {b0 : Nat} {v : Value} {d : DataW H} {p : List MemPlace}
    (hv : Value.okWide Try.prog w r b0 30 v) (h : DataW.Trod enc Try.prog w base spare held 30 v d p) : ∃ (m : MsD) (q : Option Addr) (n cap : Nat) (L : List EnD), v = msV m q n cap ∧ MsOk m ∧ SlS 7 w q n cap (L.map enL) ∧ ∀ e ∈ L, EnOk e := by
  obtain ⟨cs, rfl, hsz⟩ := okWide_struct Try.underlying30 hv
  obtain ⟨fuel, hf⟩ := h
  obtain ⟨xs, n, _, hx, _, hlen, hg⟩ := DataW.trod_struct Try.underlying30 hf
  have hsz2 : cs.toList.length = 13 := by
    have : Try.prog.cellsOf 30 = 13 := by kernel_rfl
    rw [Array.length_toList, hsz, this]
  have key : ∀ fs, Try.prog.underlying 30 = some (.struct fs) → oneCellFields Try.prog fs = true := by
    intro fs hfs
    rw [Try.underlying30] at hfs
    injection hfs with hfs
    injection hfs with hfs
    subst hfs
    kernel_rfl
  have hone := hone_of (key _ Try.underlying30)
  obtain ⟨m, q, k, cap, L, he, hok, hS, hL⟩ := ms_typed (enc := enc) (w := w) (base := base) (spare := spare) (held := held) Try.underlying30 hsz2 (fun j f hj => by
    obtain ⟨o0, k0⟩ := hone j f hj
    have h1 := hg j f hj
    have hjl : j < 13 := (Array.getElem?_eq_some_iff.1 hj).1
    have hce : (Value.agg cs).cells.toList = cs.toList := rfl
    rw [o0, k0, hce] at h1
    have hdt : (cs.toList.drop j).take 1 = [cs.toList[j]'(by omega)] := by
      rw [List.drop_eq_getElem_cons (by omega)]
      rfl
    rw [hdt] at h1
    have hxj : j < xs.length := by rw [hlen]; exact hjl
    rw [List.getElem?_eq_getElem hxj] at h1
    exact ⟨_, _, _, List.getElem?_eq_getElem (by omega), h1⟩)
  refine ⟨m, q, k, cap, L, ?_, hok, hS, hL⟩
  congr 1
  exact Array.toList_inj.1 he
end Go.Proofs.Ytbhgbkbdojhofaa
