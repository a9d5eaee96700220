/-
  Walks of EntryAny, EntryTwins: whatever the entries and the bytes, the law returns true. What an argument of entries reads as.
-/
import Derived.Test.YtkgcmobijbakmaaEntry9
namespace Go.Proofs.Ytkgcmobijbakmaa
open Go Go.Sort Go.RowKit Go.ChangeShapes Go.WideShapes Go.Deep
set_option linter.unusedVariables false

theorem list7 {r : List Value} {a b c d e f g : Value} (h : r.length = 7) (h0 : r[0]? = some a) (h1 : r[1]? = some b) (h2 : r[2]? = some c) (h3 : r[3]? = some d) (h4 : r[4]? = some e) (h5 : r[5]? = some f) (h6 : r[6]? = some g) : r = [a, b, c, d, e, f, g] := by
  match r, h with
  | [x1, x2, x3, x4, x5, x6, x7], _ => simp_all
theorem en_typed {H : Type} {enc : TypeId × Value → H} {w : World} {base : Nat} {spare : Nat → Bool} {held : Bool} {r : List Value} {fs : Array Field} (hfs : Try.prog.underlying 23 = some (.struct fs)) (hlen : r.length = 7)
    (h : ∀ (j : Nat) (f : Field), fs[j]? = some f → ∃ (v : Value) (y : DataW H × List MemPlace) (m : Nat), r[j]? = some v ∧ DataW.trod enc Try.prog w base spare held m f.type [v] = some y) : ∃ e : EnD, r = enL e ∧ EnOk e := by
  have hu := Try.underlying23
  rw [hu] at hfs
  injection hfs with hfs
  injection hfs with hfs
  subst hfs
  obtain ⟨v0, y0, m0, g0, e0⟩ := h 0 _ rfl
  obtain ⟨v1, y1, m1, g1, e1⟩ := h 1 _ rfl
  obtain ⟨v2, y2, m2, g2, e2⟩ := h 2 _ rfl
  obtain ⟨v3, y3, m3, g3, e3⟩ := h 3 _ rfl
  obtain ⟨v4, y4, m4, g4, e4⟩ := h 4 _ rfl
  obtain ⟨v5, y5, m5, g5, e5⟩ := h 5 _ rfl
  obtain ⟨v6, y6, m6, g6, e6⟩ := h 6 _ rfl
  obtain ⟨z0, k0, -, w0⟩ := DataW.trod_int Try.underlying3 e0
  obtain ⟨z1, k1, -, w1⟩ := DataW.trod_int Try.underlying2 e1
  obtain ⟨z2, k2, -, w2⟩ := DataW.trod_int Try.underlying2 e2
  obtain ⟨z3, k3, -, w3⟩ := DataW.trod_int Try.underlying3 e3
  obtain ⟨z4, k4, -, w4⟩ := DataW.trod_int Try.underlying3 e4
  obtain ⟨z5, k5, -, w5⟩ := DataW.trod_int Try.underlying2 e5
  obtain ⟨s6, k6, -, w6⟩ := DataW.trod_string Try.underlying9 e6
  obtain rfl : v0 = .int .i64 z0 := by simpa using k0
  obtain rfl : v1 = .int .i64 z1 := by simpa using k1
  obtain rfl : v2 = .int .i64 z2 := by simpa using k2
  obtain rfl : v3 = .int .i64 z3 := by simpa using k3
  obtain rfl : v4 = .int .i64 z4 := by simpa using k4
  obtain rfl : v5 = .int .i64 z5 := by simpa using k5
  obtain rfl : v6 = .string s6 := by simpa using k6
  exact ⟨⟨z0, z1, z2, z3, z4, z5, s6⟩, list7 hlen g0 g1 g2 g3 g4 g5 g6, bounds_i64 w0, bounds_i64 w1, bounds_i64 w2, bounds_i64 w3, bounds_i64 w4, bounds_i64 w5, by unfold maxLen at w6; exact w6⟩
theorem ens_of_arg {H : Type} {enc : TypeId × Value → H} {w : World} {base : Nat} {spare : Nat → Bool} {held : Bool} {fuel : Nat} {p : Option Addr} {n cap : Nat} {x : DataW H × List MemPlace}
    (h : DataW.trod enc Try.prog w base spare held fuel 28 [.slice p n cap] = some x) : ∃ xs : List EnD, SlS 7 w p n cap (xs.map enL) ∧ ∀ e ∈ xs, EnOk e := by
  obtain ⟨L, hL, hr⟩ := sls_of_arg Try.underlying28 Try.underlying23 (by kernel_rfl) (by kernel_rfl) (by decide) h
  obtain ⟨xs, rfl, hx⟩ := list_typed (E := enL) (ok := EnOk) L (fun r hr' => en_typed Try.underlying23 (hL.wid r hr') (hr r hr'))
  exact ⟨xs, hL, hx⟩
/-- An entry by value. -/
theorem en_of_arg {H : Type} {enc : TypeId × Value → H} {w : World} {base : Nat} {spare : Nat → Bool} {held : Bool} {r : Reach} {b0 : Nat} {v : Value} {d : DataW H} {p : List MemPlace}
    (hv : Value.okWide Try.prog w r b0 23 v) (h : DataW.Trod enc Try.prog w base spare held 23 v d p) : ∃ e : EnD, v = enV e ∧ EnOk e := by
  obtain ⟨cs, rfl, hsz⟩ := okWide_struct Try.underlying23 hv
  obtain ⟨fuel, hf⟩ := h
  obtain ⟨xs, n, _, hx, _, hlen, hg⟩ := DataW.trod_struct Try.underlying23 hf
  have hsz2 : cs.toList.length = 7 := by
    have : Try.prog.cellsOf 23 = 7 := by kernel_rfl
    rw [Array.length_toList, hsz, this]
  have key : ∀ fs, Try.prog.underlying 23 = some (.struct fs) → oneCellFields Try.prog fs = true := by
    intro fs hfs
    rw [Try.underlying23] at hfs
    injection hfs with hfs
    injection hfs with hfs
    subst hfs
    kernel_rfl
  have hone := hone_of (key _ Try.underlying23)
  obtain ⟨e, he, hok⟩ := en_typed (enc := enc) (w := w) (base := base) (spare := spare) (held := held) Try.underlying23 hsz2 (fun j f hj => by
    obtain ⟨o0, k0⟩ := hone j f hj
    have h1 := hg j f hj
    have hjl : j < 7 := (Array.getElem?_eq_some_iff.1 hj).1
    have hce : (Value.agg cs).cells.toList = cs.toList := rfl
    rw [o0, k0, hce] at h1
    have hdt : (cs.toList.drop j).take 1 = [cs.toList[j]'(by omega)] := by
      rw [List.drop_eq_getElem_cons (by omega)]
      rfl
    rw [hdt] at h1
    have hxj : j < xs.length := by rw [hlen]; exact hjl
    rw [List.getElem?_eq_getElem hxj] at h1
    exact ⟨_, _, _, List.getElem?_eq_getElem (by omega), h1⟩)
  refine ⟨e, ?_, hok⟩
  congr 1
  exact Array.toList_inj.1 he

set_option maxRecDepth 8000 in
set_option maxHeartbeats 2000000 in
theorem walk_EntryAny {p : Option Addr} {n cap : Nat} {l : List UInt8} {w : World} (h : SlP w p n cap l) :
    Calls Try.prog 5 #[.slice p n cap] w fun e w' => e = .returned (.bool true) ∧ Below w.heap.size w w' := by
  have H := Lib.hid h
  clear h
  have HT := Lib.hid (H.out.take (min n 100) (by omega))
  have SH := Lib.hid (fun (w : World) (h : SlP w p n cap l) => short_any h 100 (by omega))
  have hm : min n 100 ≤ 6000 := by omega
  generalize min n 100 = k at *
  go_enter Try.func5, Try.ntmps5
  go_wp2_with fail
  refine (begun12 w).mono ?_
  rintro e w1 ⟨rfl, x1⟩
  have X := Lib.hid x1
  clear x1
  go_wp2_with fail
  refine (SH.out _ (H.out.ext X.out)).mono ?_
  rintro e w2 ⟨rfl, rfl⟩
  go_wp2_with fail
  refine (tells_any (HT.out.ext X.out) hm).mono ?_
  rintro e w3 ⟨rfl, x1⟩
  replace X := Lib.hid (X.out.tr x1)
  clear x1
  go_wp2
  go_ret
  exact ⟨rfl, X.out⟩

/-- Whether both texts of bytes are there, and what then is asked. -/
theorem twins {A B : List EnD} (ha : ∀ e ∈ A, EnOk e) (hb : ∀ e ∈ B, EnOk e) (h1 : encAll A ≠ []) (h2 : encAll B ≠ []) : (encAll A == encAll B) = eqL A B := by
  have ma : A.all mayB = true := by
    cases h : A.all mayB
    · exact absurd (by unfold encAll; rw [h]; rfl) h1
    · rfl
  have mb : B.all mayB = true := by
    cases h : B.all mayB
    · exact absurd (by unfold encAll; rw [h]; rfl) h2
    · rfl
  by_cases hab : A = B
  · subst hab
    rw [(eqL_iff A A).2 rfl]
    exact beq_self_eq_true _
  · rw [eqL_no hab]
    refine beq_eq_false_iff_ne.2 fun e => hab ?_
    have d1 := decL_enc ha ma
    rw [e, decL_enc hb mb] at d1
    injection d1 with d1
    exact d1.symm
end Go.Proofs.Ytkgcmobijbakmaa
