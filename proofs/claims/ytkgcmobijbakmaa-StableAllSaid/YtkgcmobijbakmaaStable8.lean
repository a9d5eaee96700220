/-
  What an argument of truth values reads as; the walk of StableAll: whatever the views and the starts, the law returns true.
-/
import Derived.Test.YtkgcmobijbakmaaStable7
import Derived.Test.YtkgcmobijbakmaaRegion3
import Derived.Deep.Grids
namespace Go.Proofs.Ytkgcmobijbakmaa
open Go Go.Sort Go.RowKit
set_option linter.unusedVariables false

/-- The slice (p, n, cap) holds the truth values bs in the world w. -/
structure SlB (w : World) (p : Option Addr) (n cap : Nat) (bs : List Bool) : Prop where
  len : bs.length = n
  le : n ≤ cap
  max : cap ≤ 9223372036854775807
  nil : p = none → cap = 0
  cells : 0 < n → ∃ b o, p = some ⟨b, o, none⟩ ∧ ∀ i x, bs[i]? = some x → w.cell? ⟨b, o + i, none⟩ = some (.bool x)
theorem SlB.ext {w w' : World} {p : Option Addr} {n cap : Nat} {bs : List Bool} (h : SlB w p n cap bs) (he : Ext w w') : SlB w' p n cap bs :=
  ⟨h.len, h.le, h.max, h.nil, fun hn => by
    obtain ⟨b, o, hp, hh⟩ := h.cells hn
    exact ⟨b, o, hp, fun i x hx => Ext.cell he (hh i x hx)⟩⟩
theorem SlB.at {w : World} {p : Option Addr} {n cap : Nat} {bs : List Bool} (h : SlB w p n cap bs) (k : Nat) (hk : k < n) : ∃ b o x, p = some ⟨b, o, none⟩ ∧ bs[k]? = some x ∧ w.cell? ⟨b, o + k, none⟩ = some (.bool x) := by
  obtain ⟨b, o, hp, hh⟩ := h.cells (by omega)
  have hkl : k < bs.length := by rw [h.len]; exact hk
  exact ⟨b, o, bs[k], hp, by simp, hh k _ (by simp)⟩
theorem slb_of_arg {H : Type} {enc : TypeId × Value → H} {w : World} {base : Nat} {held : Bool} {fuel : Nat} {p : Option Addr} {n cap : Nat} {x : DataW H × List MemPlace}
    (h : DataW.trod enc Try.prog w base (fun _ => true) held fuel 42 [.slice p n cap] = some x) : ∃ bs, SlB w p n cap bs := by
  rcases Go.Deep.open_bools Try.underlying42 Try.underlying4 (by kernel_rfl) h with ⟨h0, -⟩ | ⟨a, len, cap', B, hcs, hb, hl, hm, -, hi⟩
  · simp at h0
    obtain ⟨rfl, rfl, rfl⟩ := h0
    exact ⟨[], rfl, Nat.le_refl _, by decide, fun _ => rfl, fun h => absurd h (Nat.lt_irrefl _)⟩
  · simp at hcs
    obtain ⟨rfl, rfl, rfl⟩ := hcs
    refine ⟨(List.range n).map B, by simp, hl, by unfold maxLen at hm; omega, (fun h => by cases h), fun hn => ?_⟩
    obtain ⟨b, o, sp⟩ := a
    have h0 := hi 0 (by omega)
    have hsp : sp = none := by simpa [Addr.add] using World.cell?_spot h0
    subst hsp
    refine ⟨b, o, rfl, fun i y hy => ?_⟩
    have hin : i < n := by
      have := (List.getElem?_eq_some_iff.1 hy).1
      simpa using this
    rw [List.getElem?_map, List.getElem?_range hin] at hy
    simp at hy
    subst hy
    have := hi i (by omega)
    rwa [Addr.add_lit] at this
theorem prV_may {b v : Int} (h : mayN b = true) : mayN (prV b v) = true := by
  unfold prV
  split
  · rename_i hp
    unfold prB at hp
    unfold mayN at h ⊢
    simp only [Bool.and_eq_true, decide_eq_true_eq] at *
    omega
  · exact h

set_option maxRecDepth 8000 in
set_option maxHeartbeats 16000000 in
theorem walk_StableAll {p q : Option Addr} {n m cap cq : Nat} {zs : List Int} {bs : List Bool} {w : World} (h1 : SlI .i64 w p n cap zs) (h2 : SlB w q m cq bs) :
    Calls Try.prog 9 #[.slice p n cap, .slice q m cq] w fun e w' => e = .returned (.bool true) ∧ Below w.heap.size w w' := by
  have hn : n ≤ 9223372036854775807 := Nat.le_trans h1.le h1.max
  have hm : m ≤ 9223372036854775807 := Nat.le_trans h2.le h2.max
  have S := Lib.hid h1
  have S2 := Lib.hid h2
  clear h1 h2
  go_enter Try.func9, Try.ntmps9
  go_wp2_with fail
  refine (begun19 w).mono ?_
  rintro e w1 ⟨rfl, x1⟩
  have X := Lib.hid x1
  clear x1
  have hws := X.out.size
  obtain ⟨gd, hgd⟩ : ∃ g, g = w1.heap.size := ⟨_, rfl⟩
  obtain ⟨gr, hgr⟩ : ∃ g, g = gd + 1 := ⟨_, rfl⟩
  have hne : gd ≠ gr := by omega
  have T := Lib.hid (((two_new w1 0 0 (t := 45)).base hws).ext (Ext.alloc _ (.cells #[.int .i64 0, .int .i64 0] 48)))
  have R := Lib.hid ((two_new (w1.alloc (.cells #[.int .i64 0, .int .i64 0] 45)) 0 0 (t := 48)).base (show w.heap.size ≤ _ by simp; omega))
  replace R : Hid (Two ((w1.alloc (.cells #[.int .i64 0, .int .i64 0] 45)).alloc (.cells #[.int .i64 0, .int .i64 0] 48)) w.heap.size gr 0 0) := Lib.hid (by have h := R.out; rwa [show (w1.alloc (.cells #[.int .i64 0, .int .i64 0] 45)).heap.size = gr by rw [hgr, hgd]; simp] at h)
  rw [← hgd] at T
  replace X := Lib.hid ((X.out.tr (Ext.alloc w1 (.cells #[.int .i64 0, .int .i64 0] 45))).tr (Ext.alloc _ (.cells #[.int .i64 0, .int .i64 0] 48)))
  have HG := Lib.hid hgd
  have HR := Lib.hid hgr
  clear hgd hgr
  go_wp2
  simp only [← HG.out, ← HR.out]
  go_loopw [6, 8] (fun dd i wr => ∃ (k g : Nat) (A B : Int), k ≤ n ∧ i = .int .i64 (k : Int) ∧ dd = .pointer (some ⟨g, 0, none⟩) ∧ g ≠ gr ∧ 0 ≤ A ∧ A ≤ (k : Int) ∧ mayN B = true ∧ Two wr w.heap.size g A B ∧ Two wr w.heap.size gr A B ∧ Below w.heap.size w wr) (fun _ i _ => n - (intOf i).toNat)
  case atStart => exact ⟨0, gd, 0, 0, by omega, rfl, rfl, hne, by omega, by omega, by decide, T.out, R.out, X.out⟩
  case round =>
    clear T R X HG HR hne
    obtain ⟨k, g, A, B, hk, rfl, rfl, hne, hA0, hAk, hmb, t1, s1, x1⟩ := hrel
    have T := Lib.hid t1
    have R := Lib.hid s1
    have XR := Lib.hid x1
    clear t1 s1 x1
    have hcase : (k < n ∧ (k : Int) < 30) ∨ (k < n ∧ ¬ (k : Int) < 30) ∨ ¬ k < n := by omega
    rcases hcase with ⟨hlt, h30⟩ | hout
    · obtain ⟨bb, o, v, rfl, hx, hcell, -⟩ := S.out.at k hlt
      clear hx
      have hqm : mayN (prV B v) = true := prV_may hmb
      have MB := Lib.hid hqm
      clear hmb hqm
      have r0 := fun (p : Wrap (Ext w)) => Ext.cell p.h hcell
      clear hcell
      have P1 := Lib.hid (promise_only (v := v) (T.out.ext (Ext.drew wr)))
      have P2 := Lib.hid (fun (w' : World) (h : Two w' w.heap.size gr A B) => rpromise_only (v := v) h)
      generalize prB B v = Q at *
      generalize prV B v = B' at *
      go_wp2_with fail
      have XD : Hid (Ext w wr.drew) := Lib.hid (Ext.tr XR.out (Ext.drew wr))
      refine rg_start [0, 1, 2, 3, 4, 6, 7, 8, 9, 10, 5, 11, 12] (Ext w) (by kernel_rfl) (by kernel_rfl) (fun _ _ d _ _ h => by cases d <;> exact h) XD.out (fun _ => ?_)
      repeat (first | (refine rg_quiet rfl (by rfl) (by rfl) (fun K hK => ?_); go_big_quiet_op; refine hK _ ?_; clear hK K) | (refine rg_skip rfl (by rfl) (fun K hK => ?_); go_big_quiet_op; refine hK _ ?_; clear hK K))
      clear r0
      refine rg_call rfl (by rfl) (by rfl) (fun K hK => ?_)
      go_simp
      refine P1.out.mono ?_
      rintro e w3 ⟨rfl, t3, g3⟩
      refine hK _ _ _ (fun _ h => h) (Below.trans XD.out (only_below g3 t3.lo XD.out.size)) (fun _ => ?_)
      clear hK K
      replace XR : Hid (Below w.heap.size w w3) := Lib.hid (Below.trans XD.out (only_below g3 t3.lo XD.out.size))
      replace R := Lib.hid ((R.out.ext (Ext.drew wr)).other g3 (Ne.symm hne))
      replace T := Lib.hid t3
      clear t3 g3 P1 XD
      refine rg_call rfl (by rfl) (by rfl) (fun K hK => ?_)
      go_simp
      refine (P2.out _ R.out).mono ?_
      rintro e w4 ⟨rfl, t4, g4⟩
      refine hK _ _ _ (fun _ h => h) (Below.trans XR.out (only_below g4 t4.lo XR.out.size)) (fun _ => ?_)
      clear hK K
      replace XR : Hid (Below w.heap.size w w4) := Lib.hid (Below.trans XR.out (only_below g4 t4.lo XR.out.size))
      replace T := Lib.hid (T.out.other g4 hne)
      replace R := Lib.hid t4
      clear t4 g4 P2
      have hqq : (Q != Q) = false := bne_self_eq_false Q
      repeat (first | (refine rg_quiet rfl (by rfl) (by rfl) (fun K hK => ?_); go_big_quiet_op; refine hK _ ?_; clear hK K) | (refine rg_skip rfl (by rfl) (fun K hK => ?_); go_big_quiet_op; refine hK _ ?_; clear hK K))
      refine rg_nil ?_
      by_cases hkm : k < m
      · obtain ⟨bb2, o2, q2, rfl, hx2, hcell2⟩ := (S2.out.ext XR.out).at k hkm
        clear hx2
        cases q2
        · have JA := Lib.hid (show J64 A by unfold J64; omega)
          have JB := Lib.hid (mayN_J MB.out)
          have la := enc_len10 JA.out
          have lb := enc_len10 JB.out
          have DR := diskR_bytes JA.out JB.out
          rw [if_pos ⟨by unfold mayN; rw [decide_eq_true (by omega), decide_eq_true (by omega)]; rfl, MB.out⟩] at DR
          obtain ⟨x, hx⟩ : ∃ x, x = diskL A B' := ⟨_, rfl⟩
          have l1 : x.length ≤ 24 := by rw [hx]; unfold diskL; rw [sealL_length, List.length_append]; omega
          rw [← hx] at DR
          have HX := Lib.hid hx
          have HD := Lib.hid DR
          clear hx DR la lb
          go_wp2_with fail
          refine (bytes_any T.out JA.out JB.out).mono ?_
          rw [← HX.out]
          rintro e w6 ⟨p6, n6, c6, rfl, o6, x6⟩
          obtain rfl : n6 = x.length := o6.sl.len.symm
          have O := Lib.hid o6.sl
          replace T := Lib.hid (T.out.ext x6)
          replace R := Lib.hid (R.out.ext x6)
          replace XR := Lib.hid (Ext.tr XR.out x6)
          clear o6 x6
          have nx : x.length ≤ 1000 := by omega
          clear l1
          have cv := fun d os => str_of (O.out.ext ((Ext.drew w6).tr (Ext.reg _ d os)))
          have r0 := fun d os => Ext.cell (Ext.reg w6.drew d os) (Ext.cell (Ext.drew w6) R.out.c0)
          have r1 := fun d os => Ext.cell (Ext.reg w6.drew d os) (Ext.cell (Ext.drew w6) R.out.c1)
          go_wp2_with fail
          refine ra_start [0, 2, 3, 4, 5, 1, 6, 7, 8, 10, 11, 12, 13, 9, 14, 15, 16, 17, 18, 19, 20, 21, 22, 23] [] (by kernel_rfl) (by kernel_rfl) (fun _ _ d _ _ h => by cases d <;> exact h) ?_
          repeat (first | (refine ra_quiet rfl (by rfl) (by rfl) (fun K hK => ?_); go_big_quiet_op; refine hK _ ?_; clear hK K) | (refine ra_skip rfl (by rfl) (fun K hK => ?_); go_big_quiet_op; refine hK _ ?_; clear hK K))
          refine ra_call rfl (by rfl) (by rfl) (fun K hK => ?_)
          go_simp
          refine (boot_any (T.out.ext (Ext.drew w6))).mono ?_
          rintro e w7 ⟨rfl, rfl⟩
          refine hK _ _ (Ext.rfl' _) ?_
          clear hK K
          repeat (first | (refine ra_quiet rfl (by rfl) (by rfl) (fun K hK => ?_); go_big_quiet_op; refine hK _ ?_; clear hK K) | (refine ra_skip rfl (by rfl) (fun K hK => ?_); go_big_quiet_op; refine hK _ ?_; clear hK K))
          refine ra_call rfl (by rfl) (by rfl) (fun K hK => ?_)
          go_simp
          refine (view_any (T.out.ext (Ext.drew w6))).mono ?_
          rintro e w7 ⟨rfl, rfl⟩
          refine hK _ _ (Ext.rfl' _) ?_
          clear hK K
          repeat (first | (refine ra_quiet rfl (by rfl) (by rfl) (fun K hK => ?_); go_big_quiet_op; refine hK _ ?_; clear hK K) | (refine ra_skip rfl (by rfl) (fun K hK => ?_); go_big_quiet_op; refine hK _ ?_; clear hK K))
          clear cv r0 r1
          refine ra_call rfl (by rfl) (by rfl) (fun K hK => ?_)
          go_simp
          refine (rbytes_any (R.out.ext (Ext.drew w6)) JA.out JB.out).mono ?_
          rw [← HX.out]
          rintro e w8 ⟨p8, n8, c8, rfl, o8, x8⟩
          refine hK _ _ x8 ?_
          clear hK K
          obtain rfl : n8 = x.length := o8.sl.len.symm
          have x68 := (Ext.drew w6).tr x8
          have cv := fun d os => str_of (o8.sl.ext (Ext.reg w8 d os))
          replace R := Lib.hid (R.out.ext x68)
          replace XR := Lib.hid (Ext.tr XR.out x68)
          replace O := Lib.hid (O.out.ext x68)
          clear o8 x8 x68 T
          repeat (first | (refine ra_quiet rfl (by rfl) (by rfl) (fun K hK => ?_); go_big_quiet_op; refine hK _ ?_; clear hK K) | (refine ra_skip rfl (by rfl) (fun K hK => ?_); go_big_quiet_op; refine hK _ ?_; clear hK K))
          clear cv
          refine ra_nil ?_
          refine rt_nil ?_
          have RD := sread_any O.out (by omega)
          rw [HD.out] at RD
          go_wp2_with fail
          refine RD.mono ?_
          rintro e w9 ⟨g9, rfl, t9, x9⟩
          have hne9 : g9 ≠ gr := by have := t9.lo; have := R.out.hi; omega
          have T := Lib.hid (t9.base XR.out.size)
          replace R := Lib.hid (R.out.ext x9)
          replace XR := Lib.hid (Ext.tr XR.out x9)
          clear t9 x9 RD
          have r0 := fun d os => Ext.cell (Ext.reg w9.drew d os) (Ext.cell (Ext.drew w9) R.out.c0)
          have r1 := fun d os => Ext.cell (Ext.reg w9.drew d os) (Ext.cell (Ext.drew w9) R.out.c1)
          go_wp2_with fail
          refine ra_start [0, 1, 2, 3, 5, 6, 7, 8, 4, 9, 10, 11, 12, 14, 15, 16, 17, 13, 18, 19] [] (by kernel_rfl) (by kernel_rfl) (fun _ _ d _ _ h => by cases d <;> exact h) ?_
          repeat (first | (refine ra_quiet rfl (by rfl) (by rfl) (fun K hK => ?_); go_big_quiet_op; refine hK _ ?_; clear hK K) | (refine ra_skip rfl (by rfl) (fun K hK => ?_); go_big_quiet_op; refine hK _ ?_; clear hK K))
          refine ra_call rfl (by rfl) (by rfl) (fun K hK => ?_)
          go_simp
          refine (boot_any (T.out.ext (Ext.drew w9))).mono ?_
          rintro e w7 ⟨rfl, rfl⟩
          refine hK _ _ (Ext.rfl' _) ?_
          clear hK K
          repeat (first | (refine ra_quiet rfl (by rfl) (by rfl) (fun K hK => ?_); go_big_quiet_op; refine hK _ ?_; clear hK K) | (refine ra_skip rfl (by rfl) (fun K hK => ?_); go_big_quiet_op; refine hK _ ?_; clear hK K))
          refine ra_call rfl (by rfl) (by rfl) (fun K hK => ?_)
          go_simp
          refine (view_any (T.out.ext (Ext.drew w9))).mono ?_
          rintro e w7 ⟨rfl, rfl⟩
          refine hK _ _ (Ext.rfl' _) ?_
          clear hK K
          repeat (first | (refine ra_quiet rfl (by rfl) (by rfl) (fun K hK => ?_); go_big_quiet_op; refine hK _ ?_; clear hK K) | (refine ra_skip rfl (by rfl) (fun K hK => ?_); go_big_quiet_op; refine hK _ ?_; clear hK K))
          clear r0 r1
          refine ra_nil ?_
          refine rt_nil ?_
          go_wp2
          go_roundw
          case rel => exact ⟨k + 1, g9, A, B', by omega, by go_num, rfl, hne9, by omega, by omega, MB.out, T.out.ext (Ext.drew w9), R.out.ext (Ext.drew w9), Ext.tr XR.out (Ext.drew w9)⟩
          case measure => simp [intOf]; omega
        · have c0 := R.out.c0
          have c1 := R.out.c1
          have f0 := R.out.f0
          have TT := Lib.hid (T.out.other (only_put (only_refl w4 (some gr)) 0 (.int .i64 (A + 1))) hne)
          have RR := Lib.hid (R.out.put0 (A + 1))
          have XX : Hid (Below w.heap.size w (w4.setCell ⟨gr, 0, none⟩ (.int .i64 (A + 1)))) := Lib.hid (Below.trans XR.out (only_below (only_put (only_refl w4 (some gr)) 0 (.int .i64 (A + 1))) R.out.lo XR.out.size))
          clear T R XR
          go_wp2_with fail
          clear hcell2 c0 c1 f0
          generalize w4.setCell ⟨gr, 0, none⟩ (.int .i64 (A + 1)) = w5 at *
          have r0 := fun (p : Wrap (fun x => w5.drew.grownBy x (some g))) => ((RR.out.ext (Ext.drew w5)).other p.h (Ne.symm hne)).c0
          have e1 := Lib.hid (show stR A = A + 1 ∧ stA A = A + 1 from ⟨if_neg (by omega), if_neg (by omega)⟩)
          refine rg_start [0, 2, 3, 4, 5, 1, 6] (fun x => w5.drew.grownBy x (some g)) (by kernel_rfl) (by kernel_rfl) (fun _ _ d _ _ h => by cases d <;> exact h) (only_refl w5.drew (some g)) (fun _ => ?_)
          repeat (first | (refine rg_quiet rfl (by rfl) (by rfl) (fun K hK => ?_); go_big_quiet_op; refine hK _ ?_; clear hK K) | (refine rg_skip rfl (by rfl) (fun K hK => ?_); go_big_quiet_op; refine hK _ ?_; clear hK K))
          clear r0
          refine rg_call rfl (by rfl) (by rfl) (fun K hK => ?_)
          go_simp
          refine (start_only (TT.out.ext (Ext.drew w5)) (by omega) (by omega)).mono ?_
          rw [e1.out.1, e1.out.2]
          rintro e w8 ⟨rfl, t8, g8⟩
          refine hK _ _ _ (fun _ h => h) g8 (fun _ => ?_)
          clear hK K
          have T := Lib.hid t8
          have R := Lib.hid ((RR.out.ext (Ext.drew w5)).other g8 (Ne.symm hne))
          have XD : Hid (Ext w w5.drew) := Lib.hid (Ext.tr XX.out (Ext.drew w5))
          have XR : Hid (Below w.heap.size w w8) := Lib.hid (Below.trans XD.out (only_below g8 t8.lo XD.out.size))
          clear t8 g8 TT RR XX XD e1
          repeat (first | (refine rg_quiet rfl (by rfl) (by rfl) (fun K hK => ?_); go_big_quiet_op; refine hK _ ?_; clear hK K) | (refine rg_skip rfl (by rfl) (fun K hK => ?_); go_big_quiet_op; refine hK _ ?_; clear hK K))
          refine rg_nil ?_
          obtain ⟨A', hA'⟩ : ∃ A', A' = A + 1 := ⟨_, rfl⟩
          simp only [← hA'] at T R ⊢
          have hA0' : 0 ≤ A' := by omega
          have hAk' : A' ≤ (k : Int) + 1 := by omega
          clear hA' hA0 hAk
          have JA := Lib.hid (show J64 A' by unfold J64; omega)
          have JB := Lib.hid (mayN_J MB.out)
          have la := enc_len10 JA.out
          have lb := enc_len10 JB.out
          have DR := diskR_bytes JA.out JB.out
          rw [if_pos ⟨by unfold mayN; rw [decide_eq_true (by omega), decide_eq_true (by omega)]; rfl, MB.out⟩] at DR
          obtain ⟨x, hx⟩ : ∃ x, x = diskL A' B' := ⟨_, rfl⟩
          have l1 : x.length ≤ 24 := by rw [hx]; unfold diskL; rw [sealL_length, List.length_append]; omega
          rw [← hx] at DR
          have HX := Lib.hid hx
          have HD := Lib.hid DR
          clear hx DR la lb
          go_wp2_with fail
          refine (bytes_any T.out JA.out JB.out).mono ?_
          rw [← HX.out]
          rintro e w6 ⟨p6, n6, c6, rfl, o6, x6⟩
          obtain rfl : n6 = x.length := o6.sl.len.symm
          have O := Lib.hid o6.sl
          replace T := Lib.hid (T.out.ext x6)
          replace R := Lib.hid (R.out.ext x6)
          replace XR := Lib.hid (Ext.tr XR.out x6)
          clear o6 x6
          have nx : x.length ≤ 1000 := by omega
          clear l1
          have cv := fun d os => str_of (O.out.ext ((Ext.drew w6).tr (Ext.reg _ d os)))
          have r0 := fun d os => Ext.cell (Ext.reg w6.drew d os) (Ext.cell (Ext.drew w6) R.out.c0)
          have r1 := fun d os => Ext.cell (Ext.reg w6.drew d os) (Ext.cell (Ext.drew w6) R.out.c1)
          go_wp2_with fail
          refine ra_start [0, 2, 3, 4, 5, 1, 6, 7, 8, 10, 11, 12, 13, 9, 14, 15, 16, 17, 18, 19, 20, 21, 22, 23] [] (by kernel_rfl) (by kernel_rfl) (fun _ _ d _ _ h => by cases d <;> exact h) ?_
          repeat (first | (refine ra_quiet rfl (by rfl) (by rfl) (fun K hK => ?_); go_big_quiet_op; refine hK _ ?_; clear hK K) | (refine ra_skip rfl (by rfl) (fun K hK => ?_); go_big_quiet_op; refine hK _ ?_; clear hK K))
          refine ra_call rfl (by rfl) (by rfl) (fun K hK => ?_)
          go_simp
          refine (boot_any (T.out.ext (Ext.drew w6))).mono ?_
          rintro e w7 ⟨rfl, rfl⟩
          refine hK _ _ (Ext.rfl' _) ?_
          clear hK K
          repeat (first | (refine ra_quiet rfl (by rfl) (by rfl) (fun K hK => ?_); go_big_quiet_op; refine hK _ ?_; clear hK K) | (refine ra_skip rfl (by rfl) (fun K hK => ?_); go_big_quiet_op; refine hK _ ?_; clear hK K))
          refine ra_call rfl (by rfl) (by rfl) (fun K hK => ?_)
          go_simp
          refine (view_any (T.out.ext (Ext.drew w6))).mono ?_
          rintro e w7 ⟨rfl, rfl⟩
          refine hK _ _ (Ext.rfl' _) ?_
          clear hK K
          repeat (first | (refine ra_quiet rfl (by rfl) (by rfl) (fun K hK => ?_); go_big_quiet_op; refine hK _ ?_; clear hK K) | (refine ra_skip rfl (by rfl) (fun K hK => ?_); go_big_quiet_op; refine hK _ ?_; clear hK K))
          clear cv r0 r1
          refine ra_call rfl (by rfl) (by rfl) (fun K hK => ?_)
          go_simp
          refine (rbytes_any (R.out.ext (Ext.drew w6)) JA.out JB.out).mono ?_
          rw [← HX.out]
          rintro e w8 ⟨p8, n8, c8, rfl, o8, x8⟩
          refine hK _ _ x8 ?_
          clear hK K
          obtain rfl : n8 = x.length := o8.sl.len.symm
          have x68 := (Ext.drew w6).tr x8
          have cv := fun d os => str_of (o8.sl.ext (Ext.reg w8 d os))
          replace R := Lib.hid (R.out.ext x68)
          replace XR := Lib.hid (Ext.tr XR.out x68)
          replace O := Lib.hid (O.out.ext x68)
          clear o8 x8 x68 T
          repeat (first | (refine ra_quiet rfl (by rfl) (by rfl) (fun K hK => ?_); go_big_quiet_op; refine hK _ ?_; clear hK K) | (refine ra_skip rfl (by rfl) (fun K hK => ?_); go_big_quiet_op; refine hK _ ?_; clear hK K))
          clear cv
          refine ra_nil ?_
          refine rt_nil ?_
          have RD := sread_any O.out (by omega)
          rw [HD.out] at RD
          go_wp2_with fail
          refine RD.mono ?_
          rintro e w9 ⟨g9, rfl, t9, x9⟩
          have hne9 : g9 ≠ gr := by have := t9.lo; have := R.out.hi; omega
          have T := Lib.hid (t9.base XR.out.size)
          replace R := Lib.hid (R.out.ext x9)
          replace XR := Lib.hid (Ext.tr XR.out x9)
          clear t9 x9 RD
          have r0 := fun d os => Ext.cell (Ext.reg w9.drew d os) (Ext.cell (Ext.drew w9) R.out.c0)
          have r1 := fun d os => Ext.cell (Ext.reg w9.drew d os) (Ext.cell (Ext.drew w9) R.out.c1)
          go_wp2_with fail
          refine ra_start [0, 1, 2, 3, 5, 6, 7, 8, 4, 9, 10, 11, 12, 14, 15, 16, 17, 13, 18, 19] [] (by kernel_rfl) (by kernel_rfl) (fun _ _ d _ _ h => by cases d <;> exact h) ?_
          repeat (first | (refine ra_quiet rfl (by rfl) (by rfl) (fun K hK => ?_); go_big_quiet_op; refine hK _ ?_; clear hK K) | (refine ra_skip rfl (by rfl) (fun K hK => ?_); go_big_quiet_op; refine hK _ ?_; clear hK K))
          refine ra_call rfl (by rfl) (by rfl) (fun K hK => ?_)
          go_simp
          refine (boot_any (T.out.ext (Ext.drew w9))).mono ?_
          rintro e w7 ⟨rfl, rfl⟩
          refine hK _ _ (Ext.rfl' _) ?_
          clear hK K
          repeat (first | (refine ra_quiet rfl (by rfl) (by rfl) (fun K hK => ?_); go_big_quiet_op; refine hK _ ?_; clear hK K) | (refine ra_skip rfl (by rfl) (fun K hK => ?_); go_big_quiet_op; refine hK _ ?_; clear hK K))
          refine ra_call rfl (by rfl) (by rfl) (fun K hK => ?_)
          go_simp
          refine (view_any (T.out.ext (Ext.drew w9))).mono ?_
          rintro e w7 ⟨rfl, rfl⟩
          refine hK _ _ (Ext.rfl' _) ?_
          clear hK K
          repeat (first | (refine ra_quiet rfl (by rfl) (by rfl) (fun K hK => ?_); go_big_quiet_op; refine hK _ ?_; clear hK K) | (refine ra_skip rfl (by rfl) (fun K hK => ?_); go_big_quiet_op; refine hK _ ?_; clear hK K))
          clear r0 r1
          refine ra_nil ?_
          refine rt_nil ?_
          go_wp2
          go_roundw
          case rel => exact ⟨k + 1, g9, A', B', by omega, by go_num, rfl, hne9, by omega, by omega, MB.out, T.out.ext (Ext.drew w9), R.out.ext (Ext.drew w9), Ext.tr XR.out (Ext.drew w9)⟩
          case measure => simp [intOf]; omega
      · have JA := Lib.hid (show J64 A by unfold J64; omega)
        have JB := Lib.hid (mayN_J MB.out)
        have la := enc_len10 JA.out
        have lb := enc_len10 JB.out
        have DR := diskR_bytes JA.out JB.out
        rw [if_pos ⟨by unfold mayN; rw [decide_eq_true (by omega), decide_eq_true (by omega)]; rfl, MB.out⟩] at DR
        obtain ⟨x, hx⟩ : ∃ x, x = diskL A B' := ⟨_, rfl⟩
        have l1 : x.length ≤ 24 := by rw [hx]; unfold diskL; rw [sealL_length, List.length_append]; omega
        rw [← hx] at DR
        have HX := Lib.hid hx
        have HD := Lib.hid DR
        clear hx DR la lb
        go_wp2_with fail
        refine (bytes_any T.out JA.out JB.out).mono ?_
        rw [← HX.out]
        rintro e w6 ⟨p6, n6, c6, rfl, o6, x6⟩
        obtain rfl : n6 = x.length := o6.sl.len.symm
        have O := Lib.hid o6.sl
        replace T := Lib.hid (T.out.ext x6)
        replace R := Lib.hid (R.out.ext x6)
        replace XR := Lib.hid (Ext.tr XR.out x6)
        clear o6 x6
        have nx : x.length ≤ 1000 := by omega
        clear l1
        have cv := fun d os => str_of (O.out.ext ((Ext.drew w6).tr (Ext.reg _ d os)))
        have r0 := fun d os => Ext.cell (Ext.reg w6.drew d os) (Ext.cell (Ext.drew w6) R.out.c0)
        have r1 := fun d os => Ext.cell (Ext.reg w6.drew d os) (Ext.cell (Ext.drew w6) R.out.c1)
        go_wp2_with fail
        refine ra_start [0, 2, 3, 4, 5, 1, 6, 7, 8, 10, 11, 12, 13, 9, 14, 15, 16, 17, 18, 19, 20, 21, 22, 23] [] (by kernel_rfl) (by kernel_rfl) (fun _ _ d _ _ h => by cases d <;> exact h) ?_
        repeat (first | (refine ra_quiet rfl (by rfl) (by rfl) (fun K hK => ?_); go_big_quiet_op; refine hK _ ?_; clear hK K) | (refine ra_skip rfl (by rfl) (fun K hK => ?_); go_big_quiet_op; refine hK _ ?_; clear hK K))
        refine ra_call rfl (by rfl) (by rfl) (fun K hK => ?_)
        go_simp
        refine (boot_any (T.out.ext (Ext.drew w6))).mono ?_
        rintro e w7 ⟨rfl, rfl⟩
        refine hK _ _ (Ext.rfl' _) ?_
        clear hK K
        repeat (first | (refine ra_quiet rfl (by rfl) (by rfl) (fun K hK => ?_); go_big_quiet_op; refine hK _ ?_; clear hK K) | (refine ra_skip rfl (by rfl) (fun K hK => ?_); go_big_quiet_op; refine hK _ ?_; clear hK K))
        refine ra_call rfl (by rfl) (by rfl) (fun K hK => ?_)
        go_simp
        refine (view_any (T.out.ext (Ext.drew w6))).mono ?_
        rintro e w7 ⟨rfl, rfl⟩
        refine hK _ _ (Ext.rfl' _) ?_
        clear hK K
        repeat (first | (refine ra_quiet rfl (by rfl) (by rfl) (fun K hK => ?_); go_big_quiet_op; refine hK _ ?_; clear hK K) | (refine ra_skip rfl (by rfl) (fun K hK => ?_); go_big_quiet_op; refine hK _ ?_; clear hK K))
        clear cv r0 r1
        refine ra_call rfl (by rfl) (by rfl) (fun K hK => ?_)
        go_simp
        refine (rbytes_any (R.out.ext (Ext.drew w6)) JA.out JB.out).mono ?_
        rw [← HX.out]
        rintro e w8 ⟨p8, n8, c8, rfl, o8, x8⟩
        refine hK _ _ x8 ?_
        clear hK K
        obtain rfl : n8 = x.length := o8.sl.len.symm
        have x68 := (Ext.drew w6).tr x8
        have cv := fun d os => str_of (o8.sl.ext (Ext.reg w8 d os))
        replace R := Lib.hid (R.out.ext x68)
        replace XR := Lib.hid (Ext.tr XR.out x68)
        replace O := Lib.hid (O.out.ext x68)
        clear o8 x8 x68 T
        repeat (first | (refine ra_quiet rfl (by rfl) (by rfl) (fun K hK => ?_); go_big_quiet_op; refine hK _ ?_; clear hK K) | (refine ra_skip rfl (by rfl) (fun K hK => ?_); go_big_quiet_op; refine hK _ ?_; clear hK K))
        clear cv
        refine ra_nil ?_
        refine rt_nil ?_
        have RD := sread_any O.out (by omega)
        rw [HD.out] at RD
        go_wp2_with fail
        refine RD.mono ?_
        rintro e w9 ⟨g9, rfl, t9, x9⟩
        have hne9 : g9 ≠ gr := by have := t9.lo; have := R.out.hi; omega
        have T := Lib.hid (t9.base XR.out.size)
        replace R := Lib.hid (R.out.ext x9)
        replace XR := Lib.hid (Ext.tr XR.out x9)
        clear t9 x9 RD
        have r0 := fun d os => Ext.cell (Ext.reg w9.drew d os) (Ext.cell (Ext.drew w9) R.out.c0)
        have r1 := fun d os => Ext.cell (Ext.reg w9.drew d os) (Ext.cell (Ext.drew w9) R.out.c1)
        go_wp2_with fail
        refine ra_start [0, 1, 2, 3, 5, 6, 7, 8, 4, 9, 10, 11, 12, 14, 15, 16, 17, 13, 18, 19] [] (by kernel_rfl) (by kernel_rfl) (fun _ _ d _ _ h => by cases d <;> exact h) ?_
        repeat (first | (refine ra_quiet rfl (by rfl) (by rfl) (fun K hK => ?_); go_big_quiet_op; refine hK _ ?_; clear hK K) | (refine ra_skip rfl (by rfl) (fun K hK => ?_); go_big_quiet_op; refine hK _ ?_; clear hK K))
        refine ra_call rfl (by rfl) (by rfl) (fun K hK => ?_)
        go_simp
        refine (boot_any (T.out.ext (Ext.drew w9))).mono ?_
        rintro e w7 ⟨rfl, rfl⟩
        refine hK _ _ (Ext.rfl' _) ?_
        clear hK K
        repeat (first | (refine ra_quiet rfl (by rfl) (by rfl) (fun K hK => ?_); go_big_quiet_op; refine hK _ ?_; clear hK K) | (refine ra_skip rfl (by rfl) (fun K hK => ?_); go_big_quiet_op; refine hK _ ?_; clear hK K))
        refine ra_call rfl (by rfl) (by rfl) (fun K hK => ?_)
        go_simp
        refine (view_any (T.out.ext (Ext.drew w9))).mono ?_
        rintro e w7 ⟨rfl, rfl⟩
        refine hK _ _ (Ext.rfl' _) ?_
        clear hK K
        repeat (first | (refine ra_quiet rfl (by rfl) (by rfl) (fun K hK => ?_); go_big_quiet_op; refine hK _ ?_; clear hK K) | (refine ra_skip rfl (by rfl) (fun K hK => ?_); go_big_quiet_op; refine hK _ ?_; clear hK K))
        clear r0 r1
        refine ra_nil ?_
        refine rt_nil ?_
        go_wp2
        go_roundw
        case rel => exact ⟨k + 1, g9, A, B', by omega, by go_num, rfl, hne9, by omega, by omega, MB.out, T.out.ext (Ext.drew w9), R.out.ext (Ext.drew w9), Ext.tr XR.out (Ext.drew w9)⟩
        case measure => simp [intOf]; omega
    · rcases hout with ⟨hlt, h30⟩ | hlt
      all_goals
        go_wp2
        go_ret
        exact ⟨rfl, XR.out⟩
end Go.Proofs.Ytkgcmobijbakmaa
