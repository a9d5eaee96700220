/-
  Walks of EntryTwins and EntryJoin: whatever the entries, the law returns true.
-/
import Derived.Test.YtkgcmobijbakmaaEntry10
namespace Go.Proofs.Ytkgcmobijbakmaa
open Go Go.Sort Go.RowKit
set_option linter.unusedVariables false

theorem cat_str {a b c : List UInt8} (h : a ++ b = c) : (⟨a.toArray⟩ : ByteArray) ++ ⟨b.toArray⟩ = ⟨c.toArray⟩ := by
  subst h
  apply Go.WideShapes.bytes_inj
  simp
theorem enc_nil_or {A : List EnD} : encAll A = [] ∨ A.all mayB = true := by
  cases h : A.all mayB
  · exact .inl (by unfold encAll; rw [h]; rfl)
  · exact .inr rfl
theorem encAll_le {A : List EnD} (h : ∀ e ∈ A, EnOk e ∧ e.da.size ≤ 20) : (encAll A).length ≤ 100 * A.length := by
  unfold encAll
  split
  · rename_i hm
    induction A with
    | nil => simp
    | cons e l ih =>
      have hm2 : mayB e = true ∧ l.all mayB = true := by simpa using hm
      have h1 := enB_len (h e (by simp)).1 (may_size hm2.1)
      have h2 := ih (fun x hx => h x (by simp [hx])) hm2.2
      simp only [List.map_cons, List.flatten_cons, List.length_append, List.length_cons]
      omega
  · simp
theorem encAll_app {A B : List EnD} (ha : A.all mayB = true) (hb : B.all mayB = true) : encAll (A ++ B) = encAll A ++ encAll B := by
  unfold encAll
  rw [if_pos ha, if_pos hb, if_pos (by rw [List.all_append, ha, hb]; rfl), List.map_append, List.flatten_append]

set_option maxRecDepth 8000 in
set_option maxHeartbeats 8000000 in
theorem walk_EntryTwins {p q : Option Addr} {n m cap cq : Nat} {L M : List EnD} {w : World} (h1 : SlS 7 w p n cap (L.map enL)) (hl : ∀ e ∈ L, EnOk e) (h2 : SlS 7 w q m cq (M.map enL)) (hm : ∀ e ∈ M, EnOk e) :
    Calls Try.prog 6 #[.slice p n cap, .slice q m cq] w fun e w' => e = .returned (.bool true) ∧ Below w.heap.size w w' := by
  have S1 := Lib.hid h1
  have L1 := Lib.hid hl
  have S2 := Lib.hid h2
  have L2 := Lib.hid hm
  clear h1 hl h2 hm
  go_enter Try.func6, Try.ntmps6
  go_wp2_with fail
  refine (begun12 w).mono ?_
  rintro e w1 ⟨rfl, x1⟩
  have X := Lib.hid x1
  clear x1
  go_wp2_with fail
  refine (lentries_any 4 (by omega) (S1.out.ext X.out) L1.out).mono ?_
  rintro e w2 ⟨A, pa, ca, rfl, hA, oA, okA, x2⟩
  replace X := Lib.hid (X.out.tr x2)
  have SA := Lib.hid oA.sl
  have KA := Lib.hid okA
  clear x2 oA okA
  go_wp2_with fail
  refine (lentries_any 4 (by omega) (S2.out.ext X.out) L2.out).mono ?_
  rintro e w3 ⟨B, pb, cb, rfl, hB, oB, okB, x3⟩
  replace X := Lib.hid (X.out.tr x3)
  replace SA := Lib.hid (SA.out.ext x3)
  have SB := Lib.hid oB.sl
  have KB := Lib.hid okB
  clear x3 oB okB
  obtain ⟨na, hna⟩ : ∃ na, na = A.length := ⟨_, rfl⟩
  obtain ⟨nb, hnb⟩ : ∃ nb, nb = B.length := ⟨_, rfl⟩
  obtain ⟨x, hx⟩ : ∃ x, x = encAll A := ⟨_, rfl⟩
  obtain ⟨y, hy⟩ : ∃ y, y = encAll B := ⟨_, rfl⟩
  obtain ⟨nx, hnx⟩ : ∃ nx, nx = x.length := ⟨_, rfl⟩
  obtain ⟨ny, hny⟩ : ∃ ny, ny = y.length := ⟨_, rfl⟩
  have bx := encAll_le KA.out
  have by' := encAll_le KB.out
  rw [← hx, ← hnx, ← hna] at bx
  rw [← hy, ← hny, ← hnb] at by'
  rw [← hna] at SA hA ⊢
  rw [← hnb] at SB hB ⊢
  have HNA := Lib.hid hna
  have HNB := Lib.hid hnb
  have HX := Lib.hid hx
  have HY := Lib.hid hy
  have HNX := Lib.hid hnx
  have HNY := Lib.hid hny
  clear hna hnb hx hy hnx hny
  go_wp2_with fail
  refine (encode_any SA.out (fun e he => (KA.out e he).1) (by omega)).mono ?_
  rw [← HX.out, ← HNX.out]
  rintro e w4 ⟨px, cx, rfl, ox, x4⟩
  replace X := Lib.hid (X.out.tr x4)
  replace SA := Lib.hid (SA.out.ext x4)
  replace SB := Lib.hid (SB.out.ext x4)
  have OX := Lib.hid ox.sl
  clear x4 ox
  go_wp2_with fail
  refine (encode_any SB.out (fun e he => (KB.out e he).1) (by omega)).mono ?_
  rw [← HY.out, ← HNY.out]
  rintro e w5 ⟨py, cy, rfl, oy, x5⟩
  replace X := Lib.hid (X.out.tr x5)
  replace SA := Lib.hid (SA.out.ext x5)
  replace SB := Lib.hid (SB.out.ext x5)
  replace OX := Lib.hid (OX.out.ext x5)
  have OY := Lib.hid oy.sl
  clear x5 oy
  by_cases hx0 : nx = 0
  · have f1 : ((nx : Int) == 0) = true := by rw [hx0]; rfl
    clear hx0
    go_wp2_with fail
    refine rw_start [0, 1, 2, 3, 4, 5, 6, 7, 8, 9, 10, 11, 12, 13, 14, 15, 16, 17, 18, 19] (by kernel_rfl) (by kernel_rfl) (fun _ _ d _ _ h => by cases d <;> exact h) ?_
    repeat (first | (refine rw_quiet rfl (by rfl) (by rfl) (fun K hK => ?_); go_big_quiet_op; refine hK _ ?_; clear hK K) | (refine rw_skip rfl (by rfl) (fun K hK => ?_); go_big_quiet_op; refine hK _ ?_; clear hK K))
    refine rw_nil ?_
    go_wp2
    go_ret
    exact ⟨rfl, X.out.tr (Ext.drew w5)⟩
  have f1 : ((nx : Int) == 0) = false := beq_eq_false_iff_ne.2 (by omega)
  by_cases hy0 : ny = 0
  · have f2 : ((ny : Int) == 0) = true := by rw [hy0]; rfl
    clear hx0 hy0
    go_wp2_with fail
    refine rw_start [0, 1, 2, 3, 4, 5, 6, 7, 8, 9, 10, 11, 12, 13, 14, 15, 16, 17, 18, 19] (by kernel_rfl) (by kernel_rfl) (fun _ _ d _ _ h => by cases d <;> exact h) ?_
    repeat (first | (refine rw_quiet rfl (by rfl) (by rfl) (fun K hK => ?_); go_big_quiet_op; refine hK _ ?_; clear hK K) | (refine rw_skip rfl (by rfl) (fun K hK => ?_); go_big_quiet_op; refine hK _ ?_; clear hK K))
    refine rw_nil ?_
    go_wp2
    go_ret
    exact ⟨rfl, X.out.tr (Ext.drew w5)⟩
  have f2 : ((ny : Int) == 0) = false := beq_eq_false_iff_ne.2 (by omega)
  have TW : Hid ((x == y) = eqL A B) := Lib.hid (by
    rw [HX.out, HY.out]
    refine twins (fun e he => (KA.out e he).1) (fun e he => (KB.out e he).1) (fun h => hx0 ?_) (fun h => hy0 ?_)
    · rw [HNX.out, HX.out, h]; rfl
    · rw [HNY.out, HY.out, h]; rfl)
  clear hx0 hy0
  obtain ⟨T, hT⟩ : ∃ T, T = eqL A B := ⟨_, rfl⟩
  have tw : (x == y) = T := by rw [hT]; exact TW.out
  have HT := Lib.hid hT
  clear hT
  cases T
  all_goals
    go_wp2_with fail
    refine rw_start [0, 1, 2, 3, 4, 5, 6, 7, 8, 9, 10, 11, 12, 13, 14, 15, 16, 17, 18, 19] (by kernel_rfl) (by kernel_rfl) (fun _ _ d _ _ h => by cases d <;> exact h) ?_
    have cx' := fun d os => str_of (OX.out.ext ((Ext.drew w5).tr (Ext.reg _ d os)))
    have cy' := fun d os => str_of (OY.out.ext ((Ext.drew w5).tr (Ext.reg _ d os)))
    repeat (first | (refine rw_quiet rfl (by rfl) (by rfl) (fun K hK => ?_); go_big_quiet_op; refine hK _ ?_; clear hK K) | (refine rw_skip rfl (by rfl) (fun K hK => ?_); go_big_quiet_op; refine hK _ ?_; clear hK K))
    clear cx' cy'
    refine rw_call rfl (by rfl) (by rfl) (fun K hK => ?_)
    go_simp
    refine (eqall_any (SA.out.ext (Ext.drew w5)) (SB.out.ext (Ext.drew w5))).mono ?_
    rw [← HT.out]
    rintro e w6 ⟨rfl, x6⟩
    refine hK _ _ x6 ?_
    clear hK K
    have X6 := Lib.hid (X.out.tr ((Ext.drew w5).tr x6))
    clear x6
    repeat (first | (refine rw_quiet rfl (by rfl) (by rfl) (fun K hK => ?_); go_big_quiet_op; refine hK _ ?_; clear hK K) | (refine rw_skip rfl (by rfl) (fun K hK => ?_); go_big_quiet_op; refine hK _ ?_; clear hK K))
    refine rw_nil ?_
    go_wp2
    go_ret
    exact ⟨rfl, X6.out⟩

set_option maxRecDepth 8000 in
set_option maxHeartbeats 8000000 in
theorem walk_EntryJoin {p q : Option Addr} {n m cap cq : Nat} {L M : List EnD} {w : World} (h1 : SlS 7 w p n cap (L.map enL)) (hl : ∀ e ∈ L, EnOk e) (h2 : SlS 7 w q m cq (M.map enL)) (hm : ∀ e ∈ M, EnOk e) :
    Calls Try.prog 8 #[.slice p n cap, .slice q m cq] w fun e w' => e = .returned (.bool true) ∧ Below w.heap.size w w' := by
  have S1 := Lib.hid h1
  have L1 := Lib.hid hl
  have S2 := Lib.hid h2
  have L2 := Lib.hid hm
  clear h1 hl h2 hm
  go_enter Try.func8, Try.ntmps8
  go_wp2_with fail
  refine (begun12 w).mono ?_
  rintro e w1 ⟨rfl, x1⟩
  have X := Lib.hid x1
  clear x1
  go_wp2_with fail
  refine (lentries_any 6 (by omega) (S1.out.ext X.out) L1.out).mono ?_
  rintro e w2 ⟨A, pa, ca, rfl, hA, oA, okA, x2⟩
  replace X := Lib.hid (X.out.tr x2)
  have SA := Lib.hid oA.sl
  have KA := Lib.hid okA
  clear x2 oA okA
  go_wp2_with fail
  refine (lentries_any 6 (by omega) (S2.out.ext X.out) L2.out).mono ?_
  rintro e w3 ⟨B, pb, cb, rfl, hB, oB, okB, x3⟩
  replace X := Lib.hid (X.out.tr x3)
  replace SA := Lib.hid (SA.out.ext x3)
  have SB := Lib.hid oB.sl
  have KB := Lib.hid okB
  clear x3 oB okB
  obtain ⟨na, hna⟩ : ∃ na, na = A.length := ⟨_, rfl⟩
  obtain ⟨nb, hnb⟩ : ∃ nb, nb = B.length := ⟨_, rfl⟩
  obtain ⟨x, hx⟩ : ∃ x, x = encAll A := ⟨_, rfl⟩
  obtain ⟨y, hy⟩ : ∃ y, y = encAll B := ⟨_, rfl⟩
  obtain ⟨nx, hnx⟩ : ∃ nx, nx = x.length := ⟨_, rfl⟩
  obtain ⟨ny, hny⟩ : ∃ ny, ny = y.length := ⟨_, rfl⟩
  have bx := encAll_le KA.out
  have by' := encAll_le KB.out
  rw [← hx, ← hnx, ← hna] at bx
  rw [← hy, ← hny, ← hnb] at by'
  rw [← hna] at SA hA ⊢
  rw [← hnb] at SB hB ⊢
  have HNA := Lib.hid hna
  have HNB := Lib.hid hnb
  have HX := Lib.hid hx
  have HY := Lib.hid hy
  have HNX := Lib.hid hnx
  have HNY := Lib.hid hny
  clear hna hnb hx hy hnx hny
  go_wp2_with fail
  refine (encode_any SA.out (fun e he => (KA.out e he).1) (by omega)).mono ?_
  rw [← HX.out, ← HNX.out]
  rintro e w4 ⟨px, cx, rfl, ox, x4⟩
  replace X := Lib.hid (X.out.tr x4)
  replace SA := Lib.hid (SA.out.ext x4)
  replace SB := Lib.hid (SB.out.ext x4)
  have OX := Lib.hid ox.sl
  clear x4 ox
  go_wp2_with fail
  refine (encode_any SB.out (fun e he => (KB.out e he).1) (by omega)).mono ?_
  rw [← HY.out, ← HNY.out]
  rintro e w5 ⟨py, cy, rfl, oy, x5⟩
  replace X := Lib.hid (X.out.tr x5)
  replace SA := Lib.hid (SA.out.ext x5)
  replace SB := Lib.hid (SB.out.ext x5)
  replace OX := Lib.hid (OX.out.ext x5)
  have OY := Lib.hid oy.sl
  clear x5 oy
  obtain ⟨i0, hi0, hz0, hz1, hz2⟩ := info_parts infoE
  by_cases hx0 : nx = 0
  · have f1 : ((nx : Int) == 0) = true := by rw [hx0]; rfl
    clear hx0
    go_wp2
    go_ret
    exact ⟨rfl, X.out⟩
  have f1 : ((nx : Int) == 0) = false := beq_eq_false_iff_ne.2 (by omega)
  by_cases hy0 : ny = 0
  · have f2 : ((ny : Int) == 0) = true := by rw [hy0]; rfl
    clear hx0 hy0
    go_wp2
    go_ret
    exact ⟨rfl, X.out⟩
  have f2 : ((ny : Int) == 0) = false := beq_eq_false_iff_ne.2 (by omega)
  have MA : Hid (A.all mayB = true) := Lib.hid (by
    rcases enc_nil_or (A := A) with h | h
    · exact absurd (by rw [HNX.out, HX.out, h]; rfl) hx0
    · exact h)
  have MB : Hid (B.all mayB = true) := Lib.hid (by
    rcases enc_nil_or (A := B) with h | h
    · exact absurd (by rw [HNY.out, HY.out, h]; rfl) hy0
    · exact h)
  clear hx0 hy0
  have OKC : Hid (∀ e ∈ A ++ B, EnOk e) := Lib.hid (fun e he => by
    rcases List.mem_append.1 he with h | h
    · exact (KA.out e h).1
    · exact (KB.out e h).1)
  have EC : Hid (encAll (A ++ B) = x ++ y) := Lib.hid (by rw [encAll_app MA.out MB.out, HX.out, HY.out])
  have DC : Hid (decL (x ++ y) = some (A ++ B)) := Lib.hid (by
    rw [← EC.out]
    exact decL_enc OKC.out (by rw [List.all_append, MA.out, MB.out]; rfl))
  have EL : Hid ((x ++ y).length = nx + ny) := Lib.hid (by rw [List.length_append, HNX.out, HNY.out])
  have CL : Hid ((A ++ B).length = na + nb) := Lib.hid (by rw [List.length_append, HNA.out, HNB.out])
  go_wp2_with (at_builtin; refine wpList_appS (o := ⟨some 32, _, _, _, _, _⟩) rfl _ _ 28 rfl w5.heap.size Try.underlying28 i0 _ 64 hi0 hz0 hz1 hz2 rfl (by decide) none 0 0 [] rfl (OwS.nil _ _ _ _) pa na ca _ rfl SA.out one7 (by omega) (by omega) (by omega) ?_)
  intro p6 c6 w6 o6 g6
  have E6 : Hid (Ext w5 w6) := Lib.hid (Ext.ownS (Ext.rfl' w5) (OwS.nil 23 7 _ _) g6 rfl)
  have O6 : Hid (OwS 23 7 w6 w5.heap.size p6 na c6 (A.map enL)) := Lib.hid (by simpa using o6)
  clear o6 g6
  go_wp2_with (at_builtin; refine wpList_appS (o := ⟨some 34, _, _, _, _, _⟩) rfl _ _ 28 rfl w5.heap.size Try.underlying28 i0 _ 64 hi0 hz0 hz1 hz2 rfl (by decide) p6 na c6 _ rfl O6.out pb nb cb _ rfl (SB.out.ext E6.out) one7 (by omega) (by omega) E6.out.size ?_)
  intro p7 c7 w7 o7 g7
  have E7 : Hid (Ext w5 w7) := Lib.hid (Ext.ownS E6.out O6.out g7 rfl)
  have O7 : Hid (SlS 7 w7 p7 (na + nb) c7 ((A ++ B).map enL)) := Lib.hid (by rw [List.map_append]; exact o7.sl)
  clear o7 g7
  go_wp2_with fail
  refine (encode_any O7.out OKC.out (by omega)).mono ?_
  rw [EC.out, EL.out]
  rintro e w8 ⟨p8, c8, rfl, o8, x8⟩
  have O8 := Lib.hid o8.sl
  have E8 := Lib.hid (E7.out.tr x8)
  clear o8 x8
  go_wp2_with (at_builtin; refine wpList_app (o := ⟨some 39, _, _, _, _, _⟩) rfl _ _ 30 rfl w8.heap.size Try.underlying30 info5 none 0 0 [] rfl (OwP.nil _ _) px nx cx x rfl (OX.out.ext E8.out) (by omega) (by omega) ?_)
  intro p9 c9 w9 o9 g9
  have E9 : Hid (Ext w8 w9) := Lib.hid (Ext.own (Ext.rfl' w8) (OwP.nil _ _) g9 rfl)
  have O9 : Hid (OwP w9 w8.heap.size p9 nx c9 x) := Lib.hid (by simpa using o9)
  clear o9 g9
  go_wp2_with (at_builtin; refine wpList_app (o := ⟨some 41, _, _, _, _, _⟩) rfl _ _ 30 rfl w8.heap.size Try.underlying30 info5 p9 nx c9 x rfl O9.out py ny cy y rfl (OY.out.ext (E8.out.tr E9.out)) (by omega) E9.out.size ?_)
  intro p10 c10 w10 o10 g10
  have E10 : Hid (Ext w8 w10) := Lib.hid (Ext.own E9.out O9.out g10 rfl)
  have O10 := Lib.hid o10.sl
  clear o10 g10
  have dc := decode_any O10.out (by omega)
  rw [DC.out] at dc
  have DD := Lib.hid dc
  clear dc
  go_wp2_with fail
  refine DD.out.mono ?_
  rintro e w11 ⟨p11, c11, hr, o11, x11, ok11⟩
  rw [CL.out] at hr
  subst hr
  have E11 := Lib.hid (E10.out.tr x11)
  clear o11 x11 ok11
  have k1 : (convert 30 9 (.slice p8 (nx + ny) c8)).run Try.prog w11 = .ok (.string ⟨(x ++ y).toArray⟩) w11 := str_of (O8.out.ext E11.out)
  have k2 : (convert 30 9 (.slice px nx cx)).run Try.prog w11 = .ok (.string ⟨x.toArray⟩) w11 := str_of (OX.out.ext (E8.out.tr E11.out))
  have k3 : (convert 30 9 (.slice py ny cy)).run Try.prog w11 = .ok (.string ⟨y.toArray⟩) w11 := str_of (OY.out.ext (E8.out.tr E11.out))
  have hmx : ¬ maxLen < x.length + y.length := by have h1 := HNX.out; have h2 := HNY.out; unfold maxLen; omega
  have hcat : (⟨x.toArray⟩ : ByteArray) ++ ⟨y.toArray⟩ = ⟨(x ++ y).toArray⟩ := cat_str rfl
  go_wp2
  go_ret
  exact ⟨rfl, X.out.tr (E8.out.tr E11.out)⟩
end Go.Proofs.Ytkgcmobijbakmaa
