/-
  Contracts of drift.May, drift.Bounds, of the statements' 'of'. Conditions: those written at each.
-/
import Derived.Test.YtjghjnnmndibcaaDrift3
import Derived.Test.YtjghjnnmndibcaaStructs2
namespace Go.Proofs.Ytjghjnnmndibcaa
open Go Go.Sort Go.RowKit Go.Deep
set_option linter.unusedVariables false

set_option maxHeartbeats 400000 in
theorem may_any {w : World} {p : Option Addr} {n cap : Nat} {l : List RdD} {q : Int} (h : SlS 2 w p n cap (l.map rdE)) (hl : ∀ r ∈ l, I64 r.1 ∧ I64 r.2) :
    Calls Try.prog 24 #[.slice p n cap, .int .i64 q] w fun e w' => e = .returned (.bool (decide (fault l q = -1))) ∧ Ext w w' := by
  have S := Lib.hid h
  have L := Lib.hid hl
  clear h hl
  obtain ⟨F, hF⟩ : ∃ F, F = fault l q := ⟨_, rfl⟩
  rw [← hF]
  have HF := Lib.hid hF
  clear hF
  have hb : (F == -1) = decide (F = -1) := by
    by_cases hh : F = -1
    · rw [hh]; rfl
    · rw [decide_eq_false hh]; exact beq_eq_false_iff_ne.2 hh
  obtain ⟨d, hd⟩ : ∃ d, d = decide (F = -1) := ⟨_, rfl⟩
  rw [← hd] at hb ⊢
  have HD := Lib.hid hd
  clear hd
  go_enter Try.func24, Try.ntmps24
  go_wp2_with fail
  refine (fault_any S.out L.out).mono ?_
  rw [← HF.out]
  rintro e w1 ⟨rfl, x1⟩
  have X1 := Lib.hid x1
  clear x1
  go_wp2
  go_ret
  exact ⟨rfl, X1.out⟩

theorem info60' : (Try.prog.info? 60).map (fun i => (i.zero, i.size, i.bytes)) = some (some (.agg #[.int .i64 0, .int .i64 0]), 2, 16) := by kernel_rfl

set_option maxRecDepth 100000 in
set_option maxHeartbeats 3200000 in
theorem of_any {w : World} {p : Option Addr} {n cap : Nat} {l : List RdD} (h : SlS 2 w p n cap (l.map rdE)) (hn : n ≤ 1000) :
    Calls Try.prog 22 #[.slice p n cap] w fun e w' => ∃ p' cap', e = .returned (.slice p' n cap') ∧ OwS 60 2 w' w.heap.size p' n cap' (l.map rdE) ∧ Ext w w' := by
  obtain ⟨i0, hi0, hz0, hz1, hz2⟩ := info_parts info60'
  have hcap := h.le
  have S := Lib.hid h
  have N := Lib.hid (rds_len h)
  clear h
  go_enter Try.func22, Try.ntmps22
  go_wp2
  go_loopw [3, 4] (fun v i wr => ∃ (k : Nat) (p' : Option Addr) (cap' : Nat), k ≤ n ∧ i = .int .i64 (k : Int) ∧ v = .slice p' k cap' ∧ OwS 60 2 wr w.heap.size p' k cap' ((l.take k).map rdE) ∧ Ext w wr) (fun _ i _ => n - (intOf i).toNat)
  case atStart => exact ⟨0, none, 0, by omega, rfl, rfl, OwS.nil _ _ _ _, Ext.rfl' _⟩
  case round =>
    obtain ⟨k, p', cap', hk, rfl, rfl, ho, x1⟩ := hrel
    have O := Lib.hid ho
    have X := Lib.hid x1
    clear ho x1
    by_cases hlt : k < n
    · obtain ⟨b, o, rfl, c0, c1⟩ := rd_at (S.out.ext X.out) k hlt
      have c0w := (rd_at S.out k hlt)
      obtain ⟨x, hx⟩ : ∃ x, x = (gd l k).1 := ⟨_, rfl⟩
      obtain ⟨y, hy⟩ : ∃ y, y = (gd l k).2 := ⟨_, rfl⟩
      rw [← hx] at c0
      rw [← hy] at c1
      have hbl : b < w.heap.size := by
        obtain ⟨b', o', hp, d0, d1⟩ := c0w
        simp at hp
        obtain ⟨rfl, rfl⟩ := hp
        exact World.block_lt_of_cell? w _ d0
      have HNE : Hid ((Value.slice p' k cap').ownBlock ≠ some b) := Lib.hid (by
        intro e
        rw [ownBlock_slice] at e
        have := (O.out.lt b e).1
        omega)
      have HG : Hid (gd l k = (x, y)) := Lib.hid (by rw [hx, hy])
      have HB : Hid (b < wr.heap.size) := Lib.hid (by have := X.out.size; omega)
      clear hx hy c0w hbl
      have ki : (0 : Int) ≤ (k : Int) := Int.natCast_nonneg _
      have ki1 : (k : Int) < (n : Int) := by omega
      go_wp2_with fail
      go_region_held3 (fun w' => w'.cell? ⟨b, o + k * 2, none⟩ = some (.int .i64 x) ∧ w'.cell? ⟨b, o + k * 2 + 1, none⟩ = some (.int .i64 y))
        (first
          | go_keep
          | (go_split_ands
             refine ⟨?_, ?_⟩
             · (rw [hgrow.cell_far _ (by simp; have := HB.out; omega) (Ne.symm HNE.out)]; assumption)
             · (rw [hgrow.cell_far _ (by simp; have := HB.out; omega) (Ne.symm HNE.out)]; assumption)))
        ((refine step_append_lies _ (by rfl) _ _ _ (by rfl) w.heap.size 60 i0 _ 2 16 Try.underlying45 hi0 hz0 hz1 hz2 rfl (by omega) (.slice p' k cap') k _ (by rfl) ((O.out.2.2.alloc _).drew)
            ⟨wr.heap.size, 0, none⟩ 1 1 [.int .i64 x, .int .i64 y] (by rfl) (by rfl) (World.news_of_block (cs := #[.int .i64 x, .int .i64 y]) (t := 60) (fr := (0, 0)) (heap_alloc_new wr _)) (by simp [Value.oneCell'])
            (by omega) (by unfold maxLen; omega) (by omega) (by have := X.out.size; simp; omega) (wr.heap.size + 1) (by simp) ?_; intro gg cap2 w1 hown1 hgrow hat hlt2))
      have EA : Ext wr (wr.alloc (.cells #[.int .i64 x, .int .i64 y] 60)).drew := (Ext.alloc wr _).tr (Ext.drew _)
      have O2 : Hid (OwS 60 2 w1 w.heap.size (some ⟨gg, 0, none⟩) (k + 1) cap2 ((l.take (k + 1)).map rdE)) := Lib.hid (by
        have e : (l.take (k + 1)).map rdE = (l.take k).map rdE ++ [[.int .i64 x, .int .i64 y]] := by
          have hkl : k < l.length := by rw [N.out]; exact hlt
          rw [List.take_succ_eq_append_getElem hkl, List.map_append]
          have : l[k] = (x, y) := by
            have := HG.out
            unfold gd at this
            rw [List.getD_eq_getElem?_getD, List.getElem?_eq_getElem hkl] at this
            exact this
          rw [this]
          rfl
        rw [e]
        exact OwS.app O.out rfl hown1)
      have X2 := Lib.hid (Ext.ownS (X.out.tr EA) (O.out.ext EA) hgrow (ownBlock_slice _ _ _))
      clear hown1 hgrow hat hlt2 EA
      go_wp2
      go_roundw
      case rel => exact ⟨k + 1, some ⟨gg, 0, none⟩, cap2, by omega, by go_num, rfl, O2.out, X2.out⟩
      case measure => simp [intOf]; omega
    · have hkn : k = n := by omega
      have e : l.take k = l := List.take_of_length_le (by rw [N.out]; omega)
      rw [e] at O
      obtain rfl : n = k := hkn.symm
      clear e
      go_wp2
      go_ret
      exact ⟨p', cap', rfl, O.out, X.out⟩
end Go.Proofs.Ytjghjnnmndibcaa
