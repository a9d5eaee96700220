/-
  The walk of EntryBytes: whatever the entries and the numbers, the law returns true.
-/
import Derived.Test.YtkgcmobijbakmaaEntry11
import Derived.Laws.BitsAllLaws
namespace Go.Proofs.Ytkgcmobijbakmaa
open Go Go.Sort Go.RowKit
set_option linter.unusedVariables false

theorem xor_u8 (x y : UInt8) : bits .xor .u8 (x.toNat : Int) (y.toNat : Int) = ((x ^^^ y).toNat : Int) := by
  have h1 := x.toNat_lt
  have h2 := y.toNat_lt
  rw [u8_xor_nat x.toNat y.toNat (by omega) (by omega), UInt8.toNat_xor]
set_option maxRecDepth 8000 in
set_option maxHeartbeats 8000000 in
theorem walk_EntryBytes {p : Option Addr} {n cap : Nat} {L : List EnD} {pos a : Int} {w : World} (h1 : SlS 7 w p n cap (L.map enL)) (hl : ∀ e ∈ L, EnOk e) (hpos : -9223372036854775808 ≤ pos ∧ pos ≤ 9223372036854775807) (ha : 0 ≤ a ∧ a ≤ 255) :
    Calls Try.prog 4 #[.slice p n cap, .int .i64 pos, .int .u8 a] w fun e w' => e = .returned (.bool true) ∧ Below w.heap.size w w' := by
  have S1 := Lib.hid h1
  have L1 := Lib.hid hl
  obtain ⟨c, rfl⟩ := u8_of ha
  obtain ⟨hp1, hp2⟩ := hpos
  clear h1 hl ha
  go_enter Try.func4, Try.ntmps4
  go_wp2_with fail
  refine (begun12 w).mono ?_
  rintro e w1 ⟨rfl, x1⟩
  have X := Lib.hid x1
  clear x1
  go_wp2_with fail
  refine (lentries_any 8 (by omega) (S1.out.ext X.out) L1.out).mono ?_
  rintro e w2 ⟨A, pa, ca, rfl, hA, oA, okA, x2⟩
  replace X := Lib.hid (X.out.tr x2)
  have SA := Lib.hid oA.sl
  have KA := Lib.hid okA
  clear x2 oA okA
  obtain ⟨na, hna⟩ : ∃ na, na = A.length := ⟨_, rfl⟩
  obtain ⟨x, hx⟩ : ∃ x, x = encAll A := ⟨_, rfl⟩
  obtain ⟨nx, hnx⟩ : ∃ nx, nx = x.length := ⟨_, rfl⟩
  have bx := encAll_le KA.out
  rw [← hx, ← hnx, ← hna] at bx
  rw [← hna] at SA hA ⊢
  have HNA := Lib.hid hna
  have HX := Lib.hid hx
  have HNX := Lib.hid hnx
  clear hna hx hnx
  go_wp2_with fail
  refine (encode_any SA.out (fun e he => (KA.out e he).1) (by omega)).mono ?_
  rw [← HX.out, ← HNX.out]
  rintro e w3 ⟨px, cx, rfl, ox, x3⟩
  replace X := Lib.hid (X.out.tr x3)
  replace SA := Lib.hid (SA.out.ext x3)
  have OX := Lib.hid ox.sl
  clear x3 ox
  go_wp2_with fail
  have cv := fun d os => str_of (OX.out.ext ((Ext.drew w3).tr (Ext.reg _ d os)))
  refine rw_start [0, 1, 2, 3, 4, 5] (by kernel_rfl) (by kernel_rfl) (fun _ _ d _ _ h => by cases d <;> exact h) ?_
  repeat (first | (refine rw_quiet rfl (by rfl) (by rfl) (fun K hK => ?_); go_big_quiet_op; refine hK _ ?_; clear hK K) | (refine rw_skip rfl (by rfl) (fun K hK => ?_); go_big_quiet_op; refine hK _ ?_; clear hK K))
  clear cv
  refine rw_call rfl (by rfl) (by rfl) (fun K hK => ?_)
  go_simp
  refine (rentries_any (SA.out.ext (Ext.drew w3)) (fun e he => (KA.out e he).1) (by omega)).mono ?_
  rw [← HX.out, ← HNX.out]
  rintro e w4 ⟨p4, c4, rfl, o4, x4⟩
  refine hK _ _ x4 ?_
  clear hK K
  have cv := fun d os => str_of (o4.sl.ext (Ext.reg w4 d os))
  have x34 := (Ext.drew w3).tr x4
  replace X := Lib.hid (X.out.tr x34)
  replace SA := Lib.hid (SA.out.ext x34)
  replace OX := Lib.hid (OX.out.ext x34)
  clear o4 x4 x34
  repeat (first | (refine rw_quiet rfl (by rfl) (by rfl) (fun K hK => ?_); go_big_quiet_op; refine hK _ ?_; clear hK K) | (refine rw_skip rfl (by rfl) (fun K hK => ?_); go_big_quiet_op; refine hK _ ?_; clear hK K))
  clear cv
  refine rw_nil ?_
  by_cases hx0 : nx = 0
  · have f1 : ((nx : Int) == 0) = true := by rw [hx0]; rfl
    clear hx0
    go_wp2
    go_ret
    exact ⟨rfl, X.out⟩
  have f1 : ((nx : Int) == 0) = false := beq_eq_false_iff_ne.2 (by omega)
  have MA : Hid (A.all mayB = true) := Lib.hid (by
    rcases enc_nil_or (A := A) with h | h
    · exact absurd (by rw [HNX.out, HX.out, h]; rfl) hx0
    · exact h)
  have hnx0 : 0 < nx := by omega
  clear hx0
  have DC : Hid (decL x = some A) := Lib.hid (by
    rw [HX.out]
    exact decL_enc (fun e he => (KA.out e he).1) MA.out)
  have dc := decode_any OX.out (by omega)
  rw [DC.out] at dc
  have DD := Lib.hid dc
  clear dc
  go_wp2_with fail
  refine DD.out.mono ?_
  rintro e w5 ⟨p5, c5, hr, o5, x5, ok5⟩
  rw [← HNA.out] at hr o5
  subst hr
  replace X := Lib.hid (X.out.tr x5)
  replace SA := Lib.hid (SA.out.ext x5)
  replace OX := Lib.hid (OX.out.ext x5)
  have O5 := Lib.hid o5.sl
  clear o5 x5 ok5 DD
  go_wp2_with fail
  refine (eqall_any SA.out O5.out).mono ?_
  rw [(eqL_iff A A).2 rfl]
  rintro e w6 ⟨rfl, x6⟩
  replace X := Lib.hid (X.out.tr x6)
  replace OX := Lib.hid (OX.out.ext x6)
  clear x6
  by_cases hneg : pos < 0
  · go_wp2
    go_ret
    exact ⟨rfl, X.out⟩
  obtain ⟨P, rfl⟩ : ∃ P : Nat, pos = (P : Int) := ⟨pos.toNat, by omega⟩
  obtain ⟨j, hj⟩ : ∃ j, j = P % nx := ⟨_, rfl⟩
  have hjn : j < nx := by rw [hj]; exact Nat.mod_lt _ hnx0
  have hmod : (P : Int) % (nx : Int) = (j : Int) := by rw [hj]; rfl
  have htm : (P : Int).tmod (nx : Int) = (j : Int) := by rw [hj]; rfl
  have HJ := Lib.hid hj
  clear hj
  go_wp2_with (at_builtin; refine wpList_app rfl _ _ 30 rfl w6.heap.size Try.underlying30 info5 none 0 0 [] rfl (OwP.nil _ _) px nx cx x rfl OX.out (by omega) (by omega) ?_)
  intro p7 c7 w7 o7 g7
  have E7 : Hid (Ext w6 w7) := Lib.hid (Ext.own (Ext.rfl' _) (OwP.nil _ _) g7 rfl)
  have o7' : OwP w7 w6.heap.size p7 nx c7 x := by simpa using o7
  obtain ⟨g, y, rfl, hg, hy, hc, hf, hst⟩ := o7'.store j hjn
  obtain ⟨z, hz⟩ : ∃ z, z = y ^^^ c := ⟨_, rfl⟩
  have hzz : bits .xor .u8 (y.toNat : Int) (c.toNat : Int) = (z.toNat : Int) := by rw [hz]; exact xor_u8 y c
  have ST := Lib.hid (hst z)
  have X8 : Hid (Below w.heap.size w (w7.setCell ⟨g, j, none⟩ (.int .u8 (z.toNat : Int)))) := Lib.hid ((Below.trans (X.out.tr E7.out) (Below.refl _ _)).setCell (show w.heap.size ≤ g by have := X.out.size; omega) _)
  have hj0 : (0 : Int) ≤ (j : Int) := by omega
  have hj1 : (j : Int) < (nx : Int) := by omega
  clear o7 o7' g7 hst hz hy
  go_wp2_with fail
  refine (tells_any ST.out.1.sl (by omega)).mono ?_
  rintro e w9 ⟨rfl, x9⟩
  have X9 : Hid (Ext w w9) := Lib.hid (Ext.tr X8.out x9)
  clear x9
  go_wp2
  go_ret
  exact ⟨rfl, X9.out⟩
end Go.Proofs.Ytkgcmobijbakmaa
