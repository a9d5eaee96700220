/-
  Walks of WireTwins: whatever the messages, the numbers and the bytes, the law returns true.
-/
import Derived.Test.YtgplmbchlahbkaaWire10
import Derived.Deep.CutBlock
import Derived.Deep.DeepCutAuto
namespace Go.Proofs.Ytgplmbchlahbkaa
open Go Go.Sort Go.RowKit
set_option linter.unusedVariables false
theorem twinsM {m m' : MsD} {L L' : List EnD} (h : MsOk m) (hL : ∀ e ∈ L, EnOk e) (h' : MsOk m') (hL' : ∀ e ∈ L', EnOk e) (h1 : encM m L ≠ []) (h2 : encM m' L' ≠ []) : (encM m L == encM m' L') = eqM m L m' L' := by
  have ma : mayM m L = true := by
    cases hh : mayM m L
    · exact absurd (encM_no hh) h1
    · rfl
  have mb : mayM m' L' = true := by
    cases hh : mayM m' L'
    · exact absurd (encM_no hh) h2
    · rfl
  rw [Bool.eq_iff_iff, beq_iff_eq, eqM_iff]
  constructor
  · exact encM_inj h hL h' hL' ma mb
  · rintro ⟨rfl, rfl⟩; rfl
theorem wrap_i64 (x : Int) : I64 (wrap64 x) := by unfold I64 wrap64; omega

set_option maxRecDepth 8000 in
set_option maxHeartbeats 16000000 in
theorem walk_WireTwins {m : MsD} {p : Option Addr} {n k : Nat} {L : List EnD} {which : Int} {w : World} (o1 : MsOk m) (s1 : SlS 7 w p n k (L.map enL)) (q1 : ∀ e ∈ L, EnOk e) (hwhich : I64 which) :
    Calls Try.prog 11 #[msV m p n k, .int .i64 which] w fun e w' => e = .returned (.bool true) ∧ Below w.heap.size w w' := by
  have HW := Lib.hid hwhich
  clear hwhich
  obtain ⟨w0, hw0⟩ : ∃ w0, w0 = w.alloc (.cells (msA m p n k) 31) := ⟨_, rfl⟩
  have TA : Hid (BoxV w0 w.heap.size w.heap.size (msL m p n k)) := Lib.hid (by rw [hw0]; exact BoxV.new w w.heap.size (msA m p n k) (msL m p n k) 31 _ rfl (Nat.le_refl _) rfl)
  have X : Hid (Ext w w0) := Lib.hid (by rw [hw0]; exact Ext.alloc w _)
  have S1 := Lib.hid s1
  have Q1 := Lib.hid q1
  have OK := Lib.hid o1
  clear s1 q1 o1
  go_enter Try.func11, Try.ntmps11
  go_wp2_with fail
  change Calls _ _ _ (w.alloc (.cells (msA m p n k) 31)) _
  rw [← hw0]
  clear hw0
  refine (begun16 _).mono ?_
  rintro e w1 ⟨rfl, x1⟩
  replace X := Lib.hid (X.out.tr x1)
  replace TA := Lib.hid (TA.out.ext x1)
  clear x1
  have b0 := TA.out.c 0 _ rfl
  have b1 := TA.out.c 1 _ rfl
  have b2 := TA.out.c 2 _ rfl
  have b3 := TA.out.c 3 _ rfl
  have b4 := TA.out.c 4 _ rfl
  have b5 := TA.out.c 5 _ rfl
  have b6 := TA.out.c 6 _ rfl
  have b7 := TA.out.c 7 _ rfl
  have b8 := TA.out.c 8 _ rfl
  have b9 := TA.out.c 9 _ rfl
  have b10 := TA.out.c 10 _ rfl
  have b11 := TA.out.c 11 _ rfl
  have b12 := TA.out.c 12 _ rfl
  try simp only at b0 b1 b2 b3 b4 b5 b6 b7 b8 b9 b10 b11 b12
  go_wp2_with fail
  clear b0 b1 b2 b3 b4 b5 b6 b7 b8 b9 b10 b11 b12
  refine (wcut_any (S1.out.ext X.out) Q1.out).mono ?_
  rintro e2 w2 ⟨M1, p3, c3, rfl, hM1, u1, v1, x2⟩
  have U1 := Lib.hid u1
  have V1 := Lib.hid v1
  have GT := Lib.hid TA.out.hi
  replace X := Lib.hid (X.out.tr x2)
  replace TA := Lib.hid (TA.out.ext x2)
  clear x2 u1 v1 S1
  have b0 := TA.out.c 0 _ rfl
  have b1 := TA.out.c 1 _ rfl
  have b2 := TA.out.c 2 _ rfl
  have b3 := TA.out.c 3 _ rfl
  have b4 := TA.out.c 4 _ rfl
  have b5 := TA.out.c 5 _ rfl
  have b6 := TA.out.c 6 _ rfl
  have b7 := TA.out.c 7 _ rfl
  have b8 := TA.out.c 8 _ rfl
  have b9 := TA.out.c 9 _ rfl
  have b10 := TA.out.c 10 _ rfl
  have b11 := TA.out.c 11 _ rfl
  have b12 := TA.out.c 12 _ rfl
  try simp only at b0 b1 b2 b3 b4 b5 b6 b7 b8 b9 b10 b11 b12
  have bf := TA.out.f
  go_upto_region 5 with fail
  clear bf
  clear b0 b1 b2 b3 b4 b5 b6 b7 b8 b9 b10 b11 b12
  have FA := Lib.hid (TA.out.fill (vs := msL m p3 M1.length c3) (Nat.le_refl _))
  have FG := Lib.hid (fillV_grown w.heap.size (msL m p3 M1.length c3) 0 w2 w2 (grown_refl _ _))
  have FX : Hid (Ext w (fillV w2 w.heap.size 0 (msL m p3 M1.length c3))) := Lib.hid (fillV_below X.out (Nat.le_refl _) (msL m p3 M1.length c3) 0)
  have FUO := Lib.hid (U1.out.kept FG.out (fun k hk => by
    cases hk
    intro hc
    have h1 := U1.out.lt _ hc
    have h3 := GT.out
    omega))
  have FU1 := Lib.hid FUO.out.sl
  change Code.wp _ _ _ _ (fillV w2 w.heap.size 0 (msL m p3 M1.length c3))
  clear FG TA X U1
  generalize fillV w2 w.heap.size 0 (msL m p3 M1.length c3) = w3 at *
  have b0 := FA.out.c 0 _ rfl
  have b1 := FA.out.c 1 _ rfl
  have b2 := FA.out.c 2 _ rfl
  have b3 := FA.out.c 3 _ rfl
  have b4 := FA.out.c 4 _ rfl
  have b5 := FA.out.c 5 _ rfl
  have b6 := FA.out.c 6 _ rfl
  have b7 := FA.out.c 7 _ rfl
  have b8 := FA.out.c 8 _ rfl
  have b9 := FA.out.c 9 _ rfl
  have b10 := FA.out.c 10 _ rfl
  have b11 := FA.out.c 11 _ rfl
  have b12 := FA.out.c 12 _ rfl
  try simp only at b0 b1 b2 b3 b4 b5 b6 b7 b8 b9 b10 b11 b12
  go_upto_region 6 with fail
  clear b0 b1 b2 b3 b4 b5 b6 b7 b8 b9 b10 b11 b12
  have DX := Lib.hid (BoxV.new w3 w.heap.size (msA m p3 M1.length c3) (msL m p3 M1.length c3) 31 _ rfl FX.out.size rfl)
  have AX := Lib.hid (Ext.alloc w3 (.cells (msA m p3 M1.length c3) 31))
  have GG : Hid (w.heap.size < w3.heap.size ∧ ∀ b, p3.map (·.block) = some b → b < w3.heap.size) := Lib.hid ⟨FA.out.hi, fun b hb => (FUO.out.lt b hb).2⟩
  change Code.wp _ _ _ _ (w3.alloc (.cells (msA m p3 M1.length c3) 31))
  replace FA := Lib.hid (FA.out.ext AX.out)
  replace FUO := Lib.hid (FUO.out.ext AX.out)
  replace FU1 := Lib.hid (FU1.out.ext AX.out)
  replace FX := Lib.hid (FX.out.tr AX.out)
  generalize hg2 : w3.heap.size = g2 at *
  generalize w3.alloc (.cells (msA m p3 M1.length c3) 31) = w4 at *
  clear AX hg2
  go_upto_block 0 with fail
  generalize (wrap64 (which.tmod 10 + 10)).tmod 10 = q at *
  go_cut [26, 33, 39, 45, 51, 57, 63, 69, 75] (fun s26 s33 s39 s45 s51 s57 s63 s69 s75 wx => ∃ (m2 : MsD) (p2 : Option Addr) (n2 c2 : Nat) (M2 : List EnD), BoxV wx w.heap.size w.heap.size (msL m p3 M1.length c3) ∧ BoxV wx w.heap.size g2 (msL m2 p2 n2 c2) ∧ SlS 7 wx p3 M1.length c3 (M1.map enL) ∧ SlS 7 wx p2 n2 c2 (M2.map enL) ∧ MsOk m2 ∧ (∀ e ∈ M2, EnOk e) ∧ Ext w wx)
  case first =>
    by_cases h0 : q = 0
    · subst h0
      have b0 := FA.out.c 0 _ rfl
      try simp only at b0
      have d0 := DX.out.c 0 _ rfl
      try simp only at d0
      have df := DX.out.f
      go_wp2_with fail
      go_meet
      exact ⟨⟨_, m.fr, m.to, m.bt, m.vw, m.ls, m.mb, m.po, m.cm, m.nm, m.ck, m.ye⟩, p3, M1.length, c3, M1, FA.out.other (grown_put (grown_refl _ (some g2)) _ _) (by intro h; injection h with h; have := GG.out.1; omega), DX.out.put 0 _, (FUO.out.kept (grown_put (grown_refl _ (some g2)) _ _) (fun b hb => by cases hb; intro hc; exact absurd (GG.out.2 _ hc) (Nat.lt_irrefl _))).sl, (FUO.out.kept (grown_put (grown_refl _ (some g2)) _ _) (fun b hb => by cases hb; intro hc; exact absurd (GG.out.2 _ hc) (Nat.lt_irrefl _))).sl, ⟨wrap_i64 _, OK.out.2.1, OK.out.2.2.1, OK.out.2.2.2.1, OK.out.2.2.2.2.1, OK.out.2.2.2.2.2.1, OK.out.2.2.2.2.2.2.1, OK.out.2.2.2.2.2.2.2.1, OK.out.2.2.2.2.2.2.2.2.1, OK.out.2.2.2.2.2.2.2.2.2.1, OK.out.2.2.2.2.2.2.2.2.2.2⟩, V1.out, Below.setCell FX.out (Nat.le_of_lt GG.out.1) _⟩
    have f0 : (q == 0) = false := beq_eq_false_iff_ne.2 h0
    by_cases h1 : q = 1
    · subst h1
      have d4 := DX.out.c 4 _ rfl
      try simp only at d4
      have df := DX.out.f
      go_wp2_with fail
      go_meet
      exact ⟨⟨m.kd, m.fr, m.to, m.bt, wrap64 (m.vw + 1), m.ls, m.mb, m.po, m.cm, m.nm, m.ck, m.ye⟩, p3, M1.length, c3, M1, FA.out.other (grown_put (grown_refl _ (some g2)) _ _) (by intro h; injection h with h; have := GG.out.1; omega), DX.out.put 4 _, (FUO.out.kept (grown_put (grown_refl _ (some g2)) _ _) (fun b hb => by cases hb; intro hc; exact absurd (GG.out.2 _ hc) (Nat.lt_irrefl _))).sl, (FUO.out.kept (grown_put (grown_refl _ (some g2)) _ _) (fun b hb => by cases hb; intro hc; exact absurd (GG.out.2 _ hc) (Nat.lt_irrefl _))).sl, ⟨OK.out.1, OK.out.2.1, OK.out.2.2.1, OK.out.2.2.2.1, wrap_i64 _, OK.out.2.2.2.2.2.1, OK.out.2.2.2.2.2.2.1, OK.out.2.2.2.2.2.2.2.1, OK.out.2.2.2.2.2.2.2.2.1, OK.out.2.2.2.2.2.2.2.2.2.1, OK.out.2.2.2.2.2.2.2.2.2.2⟩, V1.out, Below.setCell FX.out (Nat.le_of_lt GG.out.1) _⟩
    have f1 : (q == 1) = false := beq_eq_false_iff_ne.2 h1
    by_cases h2 : q = 2
    · subst h2
      have d5 := DX.out.c 5 _ rfl
      try simp only at d5
      have df := DX.out.f
      go_wp2_with fail
      go_meet
      exact ⟨⟨m.kd, m.fr, m.to, m.bt, m.vw, wrap64 (m.ls + 1), m.mb, m.po, m.cm, m.nm, m.ck, m.ye⟩, p3, M1.length, c3, M1, FA.out.other (grown_put (grown_refl _ (some g2)) _ _) (by intro h; injection h with h; have := GG.out.1; omega), DX.out.put 5 _, (FUO.out.kept (grown_put (grown_refl _ (some g2)) _ _) (fun b hb => by cases hb; intro hc; exact absurd (GG.out.2 _ hc) (Nat.lt_irrefl _))).sl, (FUO.out.kept (grown_put (grown_refl _ (some g2)) _ _) (fun b hb => by cases hb; intro hc; exact absurd (GG.out.2 _ hc) (Nat.lt_irrefl _))).sl, ⟨OK.out.1, OK.out.2.1, OK.out.2.2.1, OK.out.2.2.2.1, OK.out.2.2.2.2.1, wrap_i64 _, OK.out.2.2.2.2.2.2.1, OK.out.2.2.2.2.2.2.2.1, OK.out.2.2.2.2.2.2.2.2.1, OK.out.2.2.2.2.2.2.2.2.2.1, OK.out.2.2.2.2.2.2.2.2.2.2⟩, V1.out, Below.setCell FX.out (Nat.le_of_lt GG.out.1) _⟩
    have f2 : (q == 2) = false := beq_eq_false_iff_ne.2 h2
    by_cases h3 : q = 3
    · subst h3
      have d9 := DX.out.c 9 _ rfl
      try simp only at d9
      have df := DX.out.f
      go_wp2_with fail
      go_meet
      exact ⟨⟨m.kd, m.fr, m.to, m.bt, m.vw, m.ls, m.mb, m.po, wrap64 (m.cm + 1), m.nm, m.ck, m.ye⟩, p3, M1.length, c3, M1, FA.out.other (grown_put (grown_refl _ (some g2)) _ _) (by intro h; injection h with h; have := GG.out.1; omega), DX.out.put 9 _, (FUO.out.kept (grown_put (grown_refl _ (some g2)) _ _) (fun b hb => by cases hb; intro hc; exact absurd (GG.out.2 _ hc) (Nat.lt_irrefl _))).sl, (FUO.out.kept (grown_put (grown_refl _ (some g2)) _ _) (fun b hb => by cases hb; intro hc; exact absurd (GG.out.2 _ hc) (Nat.lt_irrefl _))).sl, ⟨OK.out.1, OK.out.2.1, OK.out.2.2.1, OK.out.2.2.2.1, OK.out.2.2.2.2.1, OK.out.2.2.2.2.2.1, OK.out.2.2.2.2.2.2.1, OK.out.2.2.2.2.2.2.2.1, wrap_i64 _, OK.out.2.2.2.2.2.2.2.2.2.1, OK.out.2.2.2.2.2.2.2.2.2.2⟩, V1.out, Below.setCell FX.out (Nat.le_of_lt GG.out.1) _⟩
    have f3 : (q == 3) = false := beq_eq_false_iff_ne.2 h3
    by_cases h4 : q = 4
    · subst h4
      have d10 := DX.out.c 10 _ rfl
      try simp only at d10
      have df := DX.out.f
      go_wp2_with fail
      go_meet
      exact ⟨⟨m.kd, m.fr, m.to, m.bt, m.vw, m.ls, m.mb, m.po, m.cm, wrap64 (m.nm + 1), m.ck, m.ye⟩, p3, M1.length, c3, M1, FA.out.other (grown_put (grown_refl _ (some g2)) _ _) (by intro h; injection h with h; have := GG.out.1; omega), DX.out.put 10 _, (FUO.out.kept (grown_put (grown_refl _ (some g2)) _ _) (fun b hb => by cases hb; intro hc; exact absurd (GG.out.2 _ hc) (Nat.lt_irrefl _))).sl, (FUO.out.kept (grown_put (grown_refl _ (some g2)) _ _) (fun b hb => by cases hb; intro hc; exact absurd (GG.out.2 _ hc) (Nat.lt_irrefl _))).sl, ⟨OK.out.1, OK.out.2.1, OK.out.2.2.1, OK.out.2.2.2.1, OK.out.2.2.2.2.1, OK.out.2.2.2.2.2.1, OK.out.2.2.2.2.2.2.1, OK.out.2.2.2.2.2.2.2.1, OK.out.2.2.2.2.2.2.2.2.1, wrap_i64 _, OK.out.2.2.2.2.2.2.2.2.2.2⟩, V1.out, Below.setCell FX.out (Nat.le_of_lt GG.out.1) _⟩
    have f4 : (q == 4) = false := beq_eq_false_iff_ne.2 h4
    by_cases h5 : q = 5
    · subst h5
      have d11 := DX.out.c 11 _ rfl
      try simp only at d11
      have df := DX.out.f
      go_wp2_with fail
      go_meet
      exact ⟨⟨m.kd, m.fr, m.to, m.bt, m.vw, m.ls, m.mb, m.po, m.cm, m.nm, wrap64 (m.ck + 1), m.ye⟩, p3, M1.length, c3, M1, FA.out.other (grown_put (grown_refl _ (some g2)) _ _) (by intro h; injection h with h; have := GG.out.1; omega), DX.out.put 11 _, (FUO.out.kept (grown_put (grown_refl _ (some g2)) _ _) (fun b hb => by cases hb; intro hc; exact absurd (GG.out.2 _ hc) (Nat.lt_irrefl _))).sl, (FUO.out.kept (grown_put (grown_refl _ (some g2)) _ _) (fun b hb => by cases hb; intro hc; exact absurd (GG.out.2 _ hc) (Nat.lt_irrefl _))).sl, ⟨OK.out.1, OK.out.2.1, OK.out.2.2.1, OK.out.2.2.2.1, OK.out.2.2.2.2.1, OK.out.2.2.2.2.2.1, OK.out.2.2.2.2.2.2.1, OK.out.2.2.2.2.2.2.2.1, OK.out.2.2.2.2.2.2.2.2.1, OK.out.2.2.2.2.2.2.2.2.2.1, wrap_i64 _⟩, V1.out, Below.setCell FX.out (Nat.le_of_lt GG.out.1) _⟩
    have f5 : (q == 5) = false := beq_eq_false_iff_ne.2 h5
    by_cases h6 : q = 6
    · subst h6
      have b12 := FA.out.c 12 _ rfl
      try simp only at b12
      have d12 := DX.out.c 12 _ rfl
      try simp only at d12
      have df := DX.out.f
      go_wp2_with fail
      go_meet
      exact ⟨⟨m.kd, m.fr, m.to, m.bt, m.vw, m.ls, m.mb, m.po, m.cm, m.nm, m.ck, !m.ye⟩, p3, M1.length, c3, M1, FA.out.other (grown_put (grown_refl _ (some g2)) _ _) (by intro h; injection h with h; have := GG.out.1; omega), DX.out.put 12 _, (FUO.out.kept (grown_put (grown_refl _ (some g2)) _ _) (fun b hb => by cases hb; intro hc; exact absurd (GG.out.2 _ hc) (Nat.lt_irrefl _))).sl, (FUO.out.kept (grown_put (grown_refl _ (some g2)) _ _) (fun b hb => by cases hb; intro hc; exact absurd (GG.out.2 _ hc) (Nat.lt_irrefl _))).sl, ⟨OK.out.1, OK.out.2.1, OK.out.2.2.1, OK.out.2.2.2.1, OK.out.2.2.2.2.1, OK.out.2.2.2.2.2.1, OK.out.2.2.2.2.2.2.1, OK.out.2.2.2.2.2.2.2.1, OK.out.2.2.2.2.2.2.2.2.1, OK.out.2.2.2.2.2.2.2.2.2.1, OK.out.2.2.2.2.2.2.2.2.2.2⟩, V1.out, Below.setCell FX.out (Nat.le_of_lt GG.out.1) _⟩
    have f6 : (q == 6) = false := beq_eq_false_iff_ne.2 h6
    by_cases h7 : q = 7
    · subst h7
      have d6 := DX.out.c 6 _ rfl
      try simp only at d6
      have df := DX.out.f
      go_wp2_with fail
      go_meet
      exact ⟨⟨m.kd, m.fr, m.to, m.bt, m.vw, m.ls, bits .xor .i64 m.mb 1, m.po, m.cm, m.nm, m.ck, m.ye⟩, p3, M1.length, c3, M1, FA.out.other (grown_put (grown_refl _ (some g2)) _ _) (by intro h; injection h with h; have := GG.out.1; omega), DX.out.put 6 _, (FUO.out.kept (grown_put (grown_refl _ (some g2)) _ _) (fun b hb => by cases hb; intro hc; exact absurd (GG.out.2 _ hc) (Nat.lt_irrefl _))).sl, (FUO.out.kept (grown_put (grown_refl _ (some g2)) _ _) (fun b hb => by cases hb; intro hc; exact absurd (GG.out.2 _ hc) (Nat.lt_irrefl _))).sl, ⟨OK.out.1, OK.out.2.1, OK.out.2.2.1, OK.out.2.2.2.1, OK.out.2.2.2.2.1, OK.out.2.2.2.2.2.1, bounds_i64 (wf_bits .xor .i64 _ _), OK.out.2.2.2.2.2.2.2.1, OK.out.2.2.2.2.2.2.2.2.1, OK.out.2.2.2.2.2.2.2.2.2.1, OK.out.2.2.2.2.2.2.2.2.2.2⟩, V1.out, Below.setCell FX.out (Nat.le_of_lt GG.out.1) _⟩
    have f7 : (q == 7) = false := beq_eq_false_iff_ne.2 h7
    by_cases h8 : q = 8
    · subst h8
      have d7 := DX.out.c 7 _ rfl
      try simp only at d7
      have df := DX.out.f
      go_wp2_with fail
      go_meet
      exact ⟨⟨m.kd, m.fr, m.to, m.bt, m.vw, m.ls, m.mb, wrap64 (m.po + 1), m.cm, m.nm, m.ck, m.ye⟩, p3, M1.length, c3, M1, FA.out.other (grown_put (grown_refl _ (some g2)) _ _) (by intro h; injection h with h; have := GG.out.1; omega), DX.out.put 7 _, (FUO.out.kept (grown_put (grown_refl _ (some g2)) _ _) (fun b hb => by cases hb; intro hc; exact absurd (GG.out.2 _ hc) (Nat.lt_irrefl _))).sl, (FUO.out.kept (grown_put (grown_refl _ (some g2)) _ _) (fun b hb => by cases hb; intro hc; exact absurd (GG.out.2 _ hc) (Nat.lt_irrefl _))).sl, ⟨OK.out.1, OK.out.2.1, OK.out.2.2.1, OK.out.2.2.2.1, OK.out.2.2.2.2.1, OK.out.2.2.2.2.2.1, OK.out.2.2.2.2.2.2.1, wrap_i64 _, OK.out.2.2.2.2.2.2.2.2.1, OK.out.2.2.2.2.2.2.2.2.2.1, OK.out.2.2.2.2.2.2.2.2.2.2⟩, V1.out, Below.setCell FX.out (Nat.le_of_lt GG.out.1) _⟩
    have f8 : (q == 8) = false := beq_eq_false_iff_ne.2 h8
    obtain ⟨i0, hi0, hz0, hz1, hz2⟩ := info_parts infoE
    have b8 := FA.out.c 8 _ rfl
    try simp only at b8
    go_wp2_with (at_builtin; refine wpList_appS (o := ⟨some 21, _, _, _, _, _⟩) rfl _ _ 29 rfl w4.heap.size Try.underlying29 i0 _ 64 hi0 hz0 hz1 hz2 rfl (by decide) none 0 0 [] rfl (OwS.nil _ _ _ _) p3 M1.length c3 _ rfl FU1.out one7 (by omega) (by omega) (by omega) ?_)
    intro p5 c5 w5 o5 g5
    have E5 : Hid (Ext w4 w5) := Lib.hid (Ext.ownS (Ext.rfl' _) (OwS.nil 54 7 _ _) g5 rfl)
    have O5 : Hid (OwS 54 7 w5 w4.heap.size p5 M1.length c5 (M1.map enL)) := Lib.hid (by simpa using o5)
    clear o5 g5 b8
    have SR : Hid (SlS 7 (w5.alloc (.cells (enA ⟨7, 1099511627776, 1099511627776, 0, 0, 0, ⟨#[]⟩⟩) 54)) (some ⟨w5.heap.size, 0, none⟩) 1 1 (([⟨7, 1099511627776, 1099511627776, 0, 0, 0, ⟨#[]⟩⟩] : List EnD).map enL)) := Lib.hid (SlS.lit w5 1 (enA ⟨7, 1099511627776, 1099511627776, 0, 0, 0, ⟨#[]⟩⟩) (0, 0) (([⟨7, 1099511627776, 1099511627776, 0, 0, 0, ⟨#[]⟩⟩] : List EnD).map enL) rfl wid7 rfl (by omega))
    have A5 := Lib.hid (Ext.alloc w5 (.cells (enA ⟨7, 1099511627776, 1099511627776, 0, 0, 0, ⟨#[]⟩⟩) 54))
    go_wp2_with (at_builtin; refine wpList_appS (o := ⟨some 24, _, _, _, _, _⟩) rfl _ _ 29 rfl w4.heap.size Try.underlying29 i0 _ 64 hi0 hz0 hz1 hz2 rfl (by decide) p5 M1.length c5 _ rfl (O5.out.ext A5.out) (some ⟨w5.heap.size, 0, none⟩) 1 1 _ rfl SR.out one7 (by omega) (by omega) (E5.out.tr A5.out).size ?_)
    intro p6 c6 w6 o6 g6
    have E6 : Hid (Ext w4 w6) := Lib.hid (Ext.ownS (E5.out.tr A5.out) (O5.out.ext A5.out) g6 rfl)
    have O6 : Hid (OwS 54 7 w6 w4.heap.size p6 (M1.length + 1) c6 ((M1 ++ ([⟨7, 1099511627776, 1099511627776, 0, 0, 0, ⟨#[]⟩⟩] : List EnD)).map enL)) := Lib.hid (by rw [List.map_append]; exact o6)
    clear o6 g6 SR A5 O5 E5
    have D6 := Lib.hid (DX.out.ext E6.out)
    have A6 := Lib.hid (FA.out.ext E6.out)
    have U6 := Lib.hid (FUO.out.ext E6.out)
    have X6 := Lib.hid (FX.out.tr E6.out)
    have HI := Lib.hid DX.out.hi
    have d8 := D6.out.c 8 _ rfl
    try simp only at d8
    have df := D6.out.f
    go_wp2_with fail
    go_meet
    exact ⟨m, p6, M1.length + 1, c6, M1 ++ [⟨7, 1099511627776, 1099511627776, 0, 0, 0, ⟨#[]⟩⟩], A6.out.other (grown_put (grown_refl _ (some g2)) _ _) (by intro h; injection h with h; have := GG.out.1; omega), D6.out.put 8 _, (U6.out.kept (grown_put (grown_refl _ (some g2)) _ _) (fun b hb => by cases hb; intro hc; exact absurd (GG.out.2 _ hc) (Nat.lt_irrefl _))).sl, (O6.out.kept (grown_put (grown_refl _ (some g2)) _ _) (fun b hb => by cases hb; intro hc; have h1 := O6.out.lt _ hc; have h2 := HI.out; omega)).sl, OK.out, (fun e he => by
      rcases List.mem_append.1 he with he | he
      · exact V1.out e he
      · simp at he; subst he; exact ⟨⟨by decide, by decide⟩, ⟨by decide, by decide⟩, ⟨by decide, by decide⟩, ⟨by decide, by decide⟩, ⟨by decide, by decide⟩, ⟨by decide, by decide⟩, by decide⟩), Below.setCell X6.out (Nat.le_of_lt GG.out.1) _⟩
  case rest =>
    obtain ⟨m2, p2, n2, c2, M2, a1, a2, a3, a4, a5, a6, a7⟩ := hcut
    have DA := Lib.hid a1
    have DB := Lib.hid a2
    have S1 := Lib.hid a3
    have S2 := Lib.hid a4
    have OK2 := Lib.hid a5
    have V2 := Lib.hid a6
    have X := Lib.hid a7
    clear a1 a2 a3 a4 a5 a6 a7 FX FA FUO FU1 DX
    go_wp2_with fail
    have KA := Lib.hid (DA.out.ext (Ext.drew wc))
    have KB := Lib.hid (DB.out.ext (Ext.drew wc))
    have r0 := fun d os => Ext.cell (Ext.reg wc.drew d os) (KA.out.c 0 _ rfl)
    have r1 := fun d os => Ext.cell (Ext.reg wc.drew d os) (KA.out.c 1 _ rfl)
    have r2 := fun d os => Ext.cell (Ext.reg wc.drew d os) (KA.out.c 2 _ rfl)
    have r3 := fun d os => Ext.cell (Ext.reg wc.drew d os) (KA.out.c 3 _ rfl)
    have r4 := fun d os => Ext.cell (Ext.reg wc.drew d os) (KA.out.c 4 _ rfl)
    have r5 := fun d os => Ext.cell (Ext.reg wc.drew d os) (KA.out.c 5 _ rfl)
    have r6 := fun d os => Ext.cell (Ext.reg wc.drew d os) (KA.out.c 6 _ rfl)
    have r7 := fun d os => Ext.cell (Ext.reg wc.drew d os) (KA.out.c 7 _ rfl)
    have r8 := fun d os => Ext.cell (Ext.reg wc.drew d os) (KA.out.c 8 _ rfl)
    have r9 := fun d os => Ext.cell (Ext.reg wc.drew d os) (KA.out.c 9 _ rfl)
    have r10 := fun d os => Ext.cell (Ext.reg wc.drew d os) (KA.out.c 10 _ rfl)
    have r11 := fun d os => Ext.cell (Ext.reg wc.drew d os) (KA.out.c 11 _ rfl)
    have r12 := fun d os => Ext.cell (Ext.reg wc.drew d os) (KA.out.c 12 _ rfl)
    try simp only at r0 r1 r2 r3 r4 r5 r6 r7 r8 r9 r10 r11 r12
    have s0 := fun d os => Ext.cell (Ext.reg wc.drew d os) (KB.out.c 0 _ rfl)
    have s1 := fun d os => Ext.cell (Ext.reg wc.drew d os) (KB.out.c 1 _ rfl)
    have s2 := fun d os => Ext.cell (Ext.reg wc.drew d os) (KB.out.c 2 _ rfl)
    have s3 := fun d os => Ext.cell (Ext.reg wc.drew d os) (KB.out.c 3 _ rfl)
    have s4 := fun d os => Ext.cell (Ext.reg wc.drew d os) (KB.out.c 4 _ rfl)
    have s5 := fun d os => Ext.cell (Ext.reg wc.drew d os) (KB.out.c 5 _ rfl)
    have s6 := fun d os => Ext.cell (Ext.reg wc.drew d os) (KB.out.c 6 _ rfl)
    have s7 := fun d os => Ext.cell (Ext.reg wc.drew d os) (KB.out.c 7 _ rfl)
    have s8 := fun d os => Ext.cell (Ext.reg wc.drew d os) (KB.out.c 8 _ rfl)
    have s9 := fun d os => Ext.cell (Ext.reg wc.drew d os) (KB.out.c 9 _ rfl)
    have s10 := fun d os => Ext.cell (Ext.reg wc.drew d os) (KB.out.c 10 _ rfl)
    have s11 := fun d os => Ext.cell (Ext.reg wc.drew d os) (KB.out.c 11 _ rfl)
    have s12 := fun d os => Ext.cell (Ext.reg wc.drew d os) (KB.out.c 12 _ rfl)
    try simp only at s0 s1 s2 s3 s4 s5 s6 s7 s8 s9 s10 s11 s12
    refine rw_start [0, 2, 1, 3, 4, 5] (by kernel_rfl) (by kernel_rfl) (fun _ _ d _ _ h => by cases d <;> exact h) ?_
    repeat (first | (refine rw_quiet rfl (by rfl) (by rfl) (fun K hK => ?_); go_big_quiet_op; refine hK _ ?_; clear hK K) | (refine rw_skip rfl (by rfl) (fun K hK => ?_); go_big_quiet_op; refine hK _ ?_; clear hK K))
    clear r0 r1 r2 r3 r4 r5 r6 r7 r8 r9 r10 r11 r12
    clear s0 s1 s2 s3 s4 s5 s6 s7 s8 s9 s10 s11 s12
    refine rw_call rfl (by rfl) (by rfl) (fun K hK => ?_)
    go_simp
    refine (wencode_any OK.out (S1.out.ext (Ext.drew wc)) V1.out).mono ?_
    obtain ⟨x, hx⟩ : ∃ x, x = encM m M1 := ⟨_, rfl⟩
    obtain ⟨nx, hnx⟩ : ∃ nx, nx = x.length := ⟨_, rfl⟩
    rw [← hx, ← hnx]
    have HX := Lib.hid hx
    have HNX := Lib.hid hnx
    clear hx hnx
    rintro e w5 ⟨px, cx, rfl, ox, -, x5⟩
    refine hK _ _ x5 ?_
    clear hK K KA KB
    have E := Lib.hid ((Ext.drew wc).tr x5)
    have OX := Lib.hid ox.sl
    clear x5 ox
    refine rw_call rfl (by rfl) (by rfl) (fun K hK => ?_)
    go_simp
    refine (wencode_any OK2.out (S2.out.ext E.out) V2.out).mono ?_
    obtain ⟨y, hy⟩ : ∃ y, y = encM m2 M2 := ⟨_, rfl⟩
    obtain ⟨ny, hny⟩ : ∃ ny, ny = y.length := ⟨_, rfl⟩
    rw [← hy, ← hny]
    have HY := Lib.hid hy
    have HNY := Lib.hid hny
    clear hy hny
    rintro e w6 ⟨py, cy, rfl, oy, -, x6⟩
    refine hK _ _ x6 ?_
    clear hK K
    replace E := Lib.hid (E.out.tr x6)
    replace OX := Lib.hid (OX.out.ext x6)
    have OY := Lib.hid oy.sl
    clear x6 oy
    repeat (first | (refine rw_quiet rfl (by rfl) (by rfl) (fun K hK => ?_); go_big_quiet_op; refine hK _ ?_; clear hK K) | (refine rw_skip rfl (by rfl) (fun K hK => ?_); go_big_quiet_op; refine hK _ ?_; clear hK K))
    refine rw_nil ?_
    replace X := Lib.hid (X.out.tr E.out)
    replace S1 := Lib.hid (S1.out.ext E.out)
    replace S2 := Lib.hid (S2.out.ext E.out)
    replace DA := Lib.hid (DA.out.ext E.out)
    replace DB := Lib.hid (DB.out.ext E.out)
    clear E
    by_cases hx0 : nx = 0
    · have f1 : ((nx : Int) == 0) = true := by rw [hx0]; rfl
      clear hx0
      go_wp2_with fail
      refine rw_start [0, 1, 2, 3, 4, 5, 6, 7, 8, 9, 10, 11, 12, 13, 14, 15, 16, 17, 18, 19] (by kernel_rfl) (by kernel_rfl) (fun _ _ d _ _ h => by cases d <;> exact h) ?_
      repeat (first | (refine rw_quiet rfl (by rfl) (by rfl) (fun K hK => ?_); go_big_quiet_op; refine hK _ ?_; clear hK K) | (refine rw_skip rfl (by rfl) (fun K hK => ?_); go_big_quiet_op; refine hK _ ?_; clear hK K))
      refine rw_nil ?_
      go_wp2
      go_ret
      exact ⟨rfl, X.out.tr (Ext.drew w6)⟩
    have f1 : ((nx : Int) == 0) = false := beq_eq_false_iff_ne.2 (by omega)
    by_cases hy0 : ny = 0
    · have f2 : ((ny : Int) == 0) = true := by rw [hy0]; rfl
      clear hx0 hy0
      go_wp2_with fail
      refine rw_start [0, 1, 2, 3, 4, 5, 6, 7, 8, 9, 10, 11, 12, 13, 14, 15, 16, 17, 18, 19] (by kernel_rfl) (by kernel_rfl) (fun _ _ d _ _ h => by cases d <;> exact h) ?_
      repeat (first | (refine rw_quiet rfl (by rfl) (by rfl) (fun K hK => ?_); go_big_quiet_op; refine hK _ ?_; clear hK K) | (refine rw_skip rfl (by rfl) (fun K hK => ?_); go_big_quiet_op; refine hK _ ?_; clear hK K))
      refine rw_nil ?_
      go_wp2
      go_ret
      exact ⟨rfl, X.out.tr (Ext.drew w6)⟩
    have f2 : ((ny : Int) == 0) = false := beq_eq_false_iff_ne.2 (by omega)
    have TW : Hid ((x == y) = eqM m M1 m2 M2) := Lib.hid (by
      rw [HX.out, HY.out]
      refine twinsM OK.out V1.out OK2.out V2.out (fun h => hx0 ?_) (fun h => hy0 ?_)
      · rw [HNX.out, HX.out, h]; rfl
      · rw [HNY.out, HY.out, h]; rfl)
    clear hx0 hy0
    obtain ⟨T, hT⟩ : ∃ T, T = eqM m M1 m2 M2 := ⟨_, rfl⟩
    have tw : (x == y) = T := by rw [hT]; exact TW.out
    have HT := Lib.hid hT
    clear hT
    cases T
    all_goals
      go_wp2_with fail
      refine rw_start [0, 1, 2, 3, 4, 5, 6, 7, 8, 9, 10, 11, 12, 13, 14, 15, 16, 17, 18, 19] (by kernel_rfl) (by kernel_rfl) (fun _ _ d _ _ h => by cases d <;> exact h) ?_
      have cx' := fun d os => str_of (OX.out.ext ((Ext.drew w6).tr (Ext.reg _ d os)))
      have cy' := fun d os => str_of (OY.out.ext ((Ext.drew w6).tr (Ext.reg _ d os)))
      have KA := Lib.hid (DA.out.ext (Ext.drew w6))
      have KB := Lib.hid (DB.out.ext (Ext.drew w6))
      have r0 := fun d os => Ext.cell (Ext.reg w6.drew d os) (KA.out.c 0 _ rfl)
      have r1 := fun d os => Ext.cell (Ext.reg w6.drew d os) (KA.out.c 1 _ rfl)
      have r2 := fun d os => Ext.cell (Ext.reg w6.drew d os) (KA.out.c 2 _ rfl)
      have r3 := fun d os => Ext.cell (Ext.reg w6.drew d os) (KA.out.c 3 _ rfl)
      have r4 := fun d os => Ext.cell (Ext.reg w6.drew d os) (KA.out.c 4 _ rfl)
      have r5 := fun d os => Ext.cell (Ext.reg w6.drew d os) (KA.out.c 5 _ rfl)
      have r6 := fun d os => Ext.cell (Ext.reg w6.drew d os) (KA.out.c 6 _ rfl)
      have r7 := fun d os => Ext.cell (Ext.reg w6.drew d os) (KA.out.c 7 _ rfl)
      have r8 := fun d os => Ext.cell (Ext.reg w6.drew d os) (KA.out.c 8 _ rfl)
      have r9 := fun d os => Ext.cell (Ext.reg w6.drew d os) (KA.out.c 9 _ rfl)
      have r10 := fun d os => Ext.cell (Ext.reg w6.drew d os) (KA.out.c 10 _ rfl)
      have r11 := fun d os => Ext.cell (Ext.reg w6.drew d os) (KA.out.c 11 _ rfl)
      have r12 := fun d os => Ext.cell (Ext.reg w6.drew d os) (KA.out.c 12 _ rfl)
      try simp only at r0 r1 r2 r3 r4 r5 r6 r7 r8 r9 r10 r11 r12
      have s0 := fun d os => Ext.cell (Ext.reg w6.drew d os) (KB.out.c 0 _ rfl)
      have s1 := fun d os => Ext.cell (Ext.reg w6.drew d os) (KB.out.c 1 _ rfl)
      have s2 := fun d os => Ext.cell (Ext.reg w6.drew d os) (KB.out.c 2 _ rfl)
      have s3 := fun d os => Ext.cell (Ext.reg w6.drew d os) (KB.out.c 3 _ rfl)
      have s4 := fun d os => Ext.cell (Ext.reg w6.drew d os) (KB.out.c 4 _ rfl)
      have s5 := fun d os => Ext.cell (Ext.reg w6.drew d os) (KB.out.c 5 _ rfl)
      have s6 := fun d os => Ext.cell (Ext.reg w6.drew d os) (KB.out.c 6 _ rfl)
      have s7 := fun d os => Ext.cell (Ext.reg w6.drew d os) (KB.out.c 7 _ rfl)
      have s8 := fun d os => Ext.cell (Ext.reg w6.drew d os) (KB.out.c 8 _ rfl)
      have s9 := fun d os => Ext.cell (Ext.reg w6.drew d os) (KB.out.c 9 _ rfl)
      have s10 := fun d os => Ext.cell (Ext.reg w6.drew d os) (KB.out.c 10 _ rfl)
      have s11 := fun d os => Ext.cell (Ext.reg w6.drew d os) (KB.out.c 11 _ rfl)
      have s12 := fun d os => Ext.cell (Ext.reg w6.drew d os) (KB.out.c 12 _ rfl)
      try simp only at s0 s1 s2 s3 s4 s5 s6 s7 s8 s9 s10 s11 s12
      repeat (first | (refine rw_quiet rfl (by rfl) (by rfl) (fun K hK => ?_); go_big_quiet_op; refine hK _ ?_; clear hK K) | (refine rw_skip rfl (by rfl) (fun K hK => ?_); go_big_quiet_op; refine hK _ ?_; clear hK K))
      clear cx' cy'
      clear r0 r1 r2 r3 r4 r5 r6 r7 r8 r9 r10 r11 r12
      clear s0 s1 s2 s3 s4 s5 s6 s7 s8 s9 s10 s11 s12
      refine rw_call rfl (by rfl) (by rfl) (fun K hK => ?_)
      go_simp
      refine (reqm_any (S1.out.ext (Ext.drew w6)) (S2.out.ext (Ext.drew w6))).mono ?_
      rw [← HT.out]
      rintro e w7 ⟨rfl, x7⟩
      refine hK _ _ x7 ?_
      clear hK K
      have X7 := Lib.hid (X.out.tr ((Ext.drew w6).tr x7))
      clear x7
      repeat (first | (refine rw_quiet rfl (by rfl) (by rfl) (fun K hK => ?_); go_big_quiet_op; refine hK _ ?_; clear hK K) | (refine rw_skip rfl (by rfl) (fun K hK => ?_); go_big_quiet_op; refine hK _ ?_; clear hK K))
      refine rw_nil ?_
      go_wp2
      go_ret
      exact ⟨rfl, X7.out⟩

end Go.Proofs.Ytgplmbchlahbkaa
