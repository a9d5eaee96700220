/-
  Walks of WireEnds: whatever the messages, the numbers and the bytes, the law returns true.
-/
import Derived.Test.YtgplmbchlahbkaaWire10
namespace Go.Proofs.Ytgplmbchlahbkaa
open Go Go.Sort Go.RowKit
set_option linter.unusedVariables false

/-- What is sent: so many entries, one behind the other. -/
def entN (k : Nat) : List EnD := (List.range k).map fun (i : Nat) => ⟨1, 1, (i : Int) + 1, 0, 0, 0, ⟨#[]⟩⟩
theorem entN_len (k : Nat) : (entN k).length = k := by simp [entN]
theorem entN_succ (k : Nat) : entN (k + 1) = entN k ++ [⟨1, 1, (k : Int) + 1, 0, 0, 0, ⟨#[]⟩⟩] := by simp [entN, List.range_succ]
theorem entN_ok {k : Nat} (h : k ≤ 65) : ∀ e ∈ entN k, EnOk e := by
  intro e he
  obtain ⟨i, hi, rfl⟩ := List.mem_map.1 he
  have := List.mem_range.1 hi
  have p : I64 1 := ⟨by decide, by decide⟩
  have z : I64 0 := ⟨by decide, by decide⟩
  exact ⟨p, p, ⟨by simp only; omega, by simp only; omega⟩, z, z, z, show (0 : Nat) ≤ 9223372036854775807 by decide⟩

set_option maxRecDepth 8000 in
set_option maxHeartbeats 8000000 in
theorem walk_WireEnds {kind fro too boot view num mems pos comm n : Int} {w : World} (hkind : I64 kind) (hfro : I64 fro) (htoo : I64 too) (hboot : I64 boot) (hview : I64 view) (hnum : I64 num) (hmems : I64 mems) (hpos : I64 pos) (hcomm : I64 comm) (hn : I64 n) :
    Calls Try.prog 12 #[.int .i64 kind, .int .i64 fro, .int .i64 too, .int .i64 boot, .int .i64 view, .int .i64 num, .int .i64 mems, .int .i64 pos, .int .i64 comm, .int .i64 n] w fun e w' => e = .returned (.bool true) ∧ Below w.heap.size w w' := by
  have OK : Hid (MsOk ⟨kind, fro, too, boot, view, 0, mems, pos, comm, num, 0, false⟩) := Lib.hid (have z : I64 0 := ⟨by decide, by decide⟩; ⟨hkind, hfro, htoo, hboot, hview, z, hmems, hpos, hcomm, hnum, z⟩)
  clear hkind hfro htoo hboot hview hmems hpos hcomm hnum
  by_cases cn : n < 0
  · go_enter Try.func12, Try.ntmps12
    go_wp2_with fail
    refine (begun16 w).mono ?_
    rintro e w1 ⟨rfl, x1⟩
    have X := Lib.hid x1
    clear x1
    go_wp2
    go_ret
    exact ⟨rfl, X.out⟩
  by_cases cm : 65 < n
  · go_enter Try.func12, Try.ntmps12
    go_wp2_with fail
    refine (begun16 w).mono ?_
    rintro e w1 ⟨rfl, x1⟩
    have X := Lib.hid x1
    clear x1
    go_wp2
    go_ret
    exact ⟨rfl, X.out⟩
  obtain ⟨N, rfl⟩ : ∃ N : Nat, n = (N : Int) := ⟨n.toNat, by omega⟩
  have hN : N ≤ 65 := by omega
  have HN := Lib.hid hN
  obtain ⟨B, hB⟩ : ∃ B, B = mayM ⟨kind, fro, too, boot, view, 0, mems, pos, comm, num, 0, false⟩ (entN N) := ⟨_, rfl⟩
  obtain ⟨R, hR⟩ : ∃ R, R = encM ⟨kind, fro, too, boot, view, 0, mems, pos, comm, num, 0, false⟩ (entN N) := ⟨_, rfl⟩
  have HP : Hid (B = true → 17 ≤ R.length) := Lib.hid (fun h => by rw [hR]; exact encM_pos (by rw [← hB]; exact h))
  have HZ : Hid (B = false → R = []) := Lib.hid (fun h => by rw [hR]; exact encM_no (by rw [← hB]; exact h))
  have HBB := Lib.hid hB
  have HRR := Lib.hid hR
  clear hB hR hN hn
  obtain ⟨i0, hi0, hz0, hz1, hz2⟩ := info_parts infoE
  go_enter Try.func12, Try.ntmps12
  go_wp2_with fail
  refine (begun16 w).mono ?_
  rintro e w1 ⟨rfl, x1⟩
  have X := Lib.hid x1
  clear x1
  go_wp2
  have D0 := Lib.hid (BoxV.new w1 w1.heap.size (msA ⟨kind, fro, too, boot, view, 0, mems, pos, comm, num, 0, false⟩ none 0 0) (msL ⟨kind, fro, too, boot, view, 0, mems, pos, comm, num, 0, false⟩ none 0 0) 31 _ rfl (Nat.le_refl _) rfl)
  have X0 := Lib.hid (Ext.alloc w1 (.cells (msA ⟨kind, fro, too, boot, view, 0, mems, pos, comm, num, 0, false⟩ none 0 0) 31))
  obtain ⟨w2, hw2⟩ : ∃ w2, w2 = w1.alloc (.cells (msA ⟨kind, fro, too, boot, view, 0, mems, pos, comm, num, 0, false⟩ none 0 0) 31) := ⟨_, rfl⟩
  rw [← hw2] at D0 X0
  rw [show w1.alloc (.cells #[.int .i64 kind, .int .i64 fro, .int .i64 too, .int .i64 boot, .int .i64 view, .int .i64 0, .int .i64 mems, .int .i64 pos, .slice none 0 0, .int .i64 comm, .int .i64 num, .int .i64 0, .bool false] 31) = w2 from hw2.symm]
  clear hw2
  go_loopw [23] (fun i wr => ∃ (k : Nat) (p' : Option Addr) (cap' : Nat), k ≤ N ∧ i = .int .i64 (k : Int) ∧ BoxV wr w1.heap.size w1.heap.size (msL ⟨kind, fro, too, boot, view, 0, mems, pos, comm, num, 0, false⟩ p' k cap') ∧ OwS 54 7 wr (w1.heap.size + 1) p' k cap' ((entN k).map enL) ∧ Ext w1 wr) (fun i _ => N - (intOf i).toNat)
  case atStart => exact ⟨0, none, 0, by omega, rfl, D0.out, OwS.nil _ _ _ _, X0.out⟩
  case round =>
    obtain ⟨k, p', cap', hk, rfl, hd, ho, x1⟩ := hrel
    have D := Lib.hid hd
    have O := Lib.hid ho
    have XR := Lib.hid x1
    clear hd ho x1
    by_cases hlt : k < N
    · have c8 := D.out.c 8 _ rfl
      have cf := D.out.f
      try simp only at c8
      have hk65 : k < 65 := by have := HN.out; omega
      have A2 := Lib.hid (Ext.alloc wr (.cells #[.int .i64 1, .int .i64 1, .int .i64 ((k : Int) + 1), .int .i64 0, .int .i64 0, .int .i64 0, .string ⟨#[]⟩] 54))
      have SR : Hid (SlS 7 (wr.alloc (.cells #[.int .i64 1, .int .i64 1, .int .i64 ((k : Int) + 1), .int .i64 0, .int .i64 0, .int .i64 0, .string ⟨#[]⟩] 54)) (some ⟨wr.heap.size, 0, none⟩) 1 1 (([⟨1, 1, (k : Int) + 1, 0, 0, 0, ⟨#[]⟩⟩] : List EnD).map enL)) := Lib.hid (SlS.lit wr 1 (enA ⟨1, 1, (k : Int) + 1, 0, 0, 0, ⟨#[]⟩⟩) (0, 0) (([⟨1, 1, (k : Int) + 1, 0, 0, 0, ⟨#[]⟩⟩] : List EnD).map enL) rfl wid7 rfl (by omega))
      go_wp2_with (at_builtin; refine wpList_appS rfl _ _ 29 rfl (w1.heap.size + 1) Try.underlying29 i0 _ 64 hi0 hz0 hz1 hz2 rfl (by decide) p' k cap' _ rfl (O.out.ext A2.out) (some ⟨wr.heap.size, 0, none⟩) 1 1 _ rfl SR.out one7 (by omega) (by omega) (by have := D.out.hi; have := A2.out.size; omega) ?_)
      intro p3 c3 w3 o3 g3
      have hrow : p'.map (·.block) ≠ some w1.heap.size := fun hh => by have := O.out.lt _ hh; omega
      have D3 := Lib.hid ((D.out.ext A2.out).other g3 hrow)
      have O3 := Lib.hid o3
      have X3 := Lib.hid (Below.grown (XR.out.tr A2.out) g3 (XR.out.tr A2.out).size (fun b hb => by have := O.out.lt _ hb; omega))
      clear o3 g3 c8 cf SR A2 hrow
      have c8 := D3.out.c 8 _ rfl
      have cf := D3.out.f
      try simp only at c8
      have G3 := Lib.hid (grown_put (grown_refl w3 (some w1.heap.size)) 8 (.slice p3 (k + 1) c3))
      have hrow3 : p3.map (·.block) ≠ some w1.heap.size := fun hh => by have := O3.out.lt _ hh; omega
      go_wp2
      go_roundw
      case rel => exact ⟨k + 1, p3, c3, by omega, by go_num, D3.out.put 8 _, by rw [entN_succ, List.map_append]; exact (O3.out.kept G3.out (fun b hb => by cases hb; exact hrow3)), X3.out.setCell (Nat.le_refl _) _⟩
      case measure => simp [intOf]; omega
    · obtain rfl : k = N := by omega
      have R1 := Lib.hid (fun w (h : Ext wr w) => wmay_any (m := ⟨kind, fro, too, boot, view, 0, mems, pos, comm, num, 0, false⟩) OK.out (O.out.sl.ext h) (entN_ok HN.out))
      have R2 := Lib.hid (fun w (h : Ext wr w) => rmaym_any (m := ⟨kind, fro, too, boot, view, 0, mems, pos, comm, num, 0, false⟩) (O.out.sl.ext h) (entN_ok HN.out))
      have R3 := Lib.hid (fun w (h : Ext wr w) => wencode_any (m := ⟨kind, fro, too, boot, view, 0, mems, pos, comm, num, 0, false⟩) OK.out (O.out.sl.ext h) (entN_ok HN.out))
      rw [← HBB.out] at R1 R2
      rw [← HRR.out] at R3
      have XC := Lib.hid (Ext.rfl' wr)
      cases B
      · have hRn : R = [] := HZ.out rfl
        subst hRn
        have c0 := D.out.c 0 _ rfl
        have c1 := D.out.c 1 _ rfl
        have c2 := D.out.c 2 _ rfl
        have c3 := D.out.c 3 _ rfl
        have c4 := D.out.c 4 _ rfl
        have c5 := D.out.c 5 _ rfl
        have c6 := D.out.c 6 _ rfl
        have c7 := D.out.c 7 _ rfl
        have c8 := D.out.c 8 _ rfl
        have c9 := D.out.c 9 _ rfl
        have c10 := D.out.c 10 _ rfl
        have c11 := D.out.c 11 _ rfl
        have c12 := D.out.c 12 _ rfl
        try simp only at c0 c1 c2 c3 c4 c5 c6 c7 c8 c9 c10 c11 c12
        go_wp2_with fail
        refine (R2.out _ XC.out).mono ?_
        rintro e w4 ⟨rfl, x1⟩
        replace XC := Lib.hid (XC.out.tr x1)
        clear x1
        clear c0 c1 c2 c3 c4 c5 c6 c7 c8 c9 c10 c11 c12
        have D4 := Lib.hid (D.out.ext XC.out)
        have c0 := D4.out.c 0 _ rfl
        have c1 := D4.out.c 1 _ rfl
        have c2 := D4.out.c 2 _ rfl
        have c3 := D4.out.c 3 _ rfl
        have c4 := D4.out.c 4 _ rfl
        have c5 := D4.out.c 5 _ rfl
        have c6 := D4.out.c 6 _ rfl
        have c7 := D4.out.c 7 _ rfl
        have c8 := D4.out.c 8 _ rfl
        have c9 := D4.out.c 9 _ rfl
        have c10 := D4.out.c 10 _ rfl
        have c11 := D4.out.c 11 _ rfl
        have c12 := D4.out.c 12 _ rfl
        try simp only at c0 c1 c2 c3 c4 c5 c6 c7 c8 c9 c10 c11 c12
        go_wp2_with fail
        refine (R1.out _ XC.out).mono ?_
        rintro e w5 ⟨rfl, x1⟩
        replace XC := Lib.hid (XC.out.tr x1)
        clear x1
        clear c0 c1 c2 c3 c4 c5 c6 c7 c8 c9 c10 c11 c12
        have D5 := Lib.hid (D.out.ext XC.out)
        have c0 := D5.out.c 0 _ rfl
        have c1 := D5.out.c 1 _ rfl
        have c2 := D5.out.c 2 _ rfl
        have c3 := D5.out.c 3 _ rfl
        have c4 := D5.out.c 4 _ rfl
        have c5 := D5.out.c 5 _ rfl
        have c6 := D5.out.c 6 _ rfl
        have c7 := D5.out.c 7 _ rfl
        have c8 := D5.out.c 8 _ rfl
        have c9 := D5.out.c 9 _ rfl
        have c10 := D5.out.c 10 _ rfl
        have c11 := D5.out.c 11 _ rfl
        have c12 := D5.out.c 12 _ rfl
        try simp only at c0 c1 c2 c3 c4 c5 c6 c7 c8 c9 c10 c11 c12
        go_wp2_with fail
        refine (R3.out _ XC.out).mono ?_
        rintro e w6 ⟨p6, k6, rfl, -, -, x1⟩
        replace XC := Lib.hid (XC.out.tr x1)
        clear x1
        clear c0 c1 c2 c3 c4 c5 c6 c7 c8 c9 c10 c11 c12
        go_wp2
        go_ret
        exact ⟨rfl, X.out.tr (XR.out.tr XC.out)⟩
      · have hRp : 0 < R.length := by have := HP.out rfl; omega
        have c0 := D.out.c 0 _ rfl
        have c1 := D.out.c 1 _ rfl
        have c2 := D.out.c 2 _ rfl
        have c3 := D.out.c 3 _ rfl
        have c4 := D.out.c 4 _ rfl
        have c5 := D.out.c 5 _ rfl
        have c6 := D.out.c 6 _ rfl
        have c7 := D.out.c 7 _ rfl
        have c8 := D.out.c 8 _ rfl
        have c9 := D.out.c 9 _ rfl
        have c10 := D.out.c 10 _ rfl
        have c11 := D.out.c 11 _ rfl
        have c12 := D.out.c 12 _ rfl
        try simp only at c0 c1 c2 c3 c4 c5 c6 c7 c8 c9 c10 c11 c12
        go_wp2_with fail
        refine (R2.out _ XC.out).mono ?_
        rintro e w4 ⟨rfl, x1⟩
        replace XC := Lib.hid (XC.out.tr x1)
        clear x1
        clear c0 c1 c2 c3 c4 c5 c6 c7 c8 c9 c10 c11 c12
        have D4 := Lib.hid (D.out.ext XC.out)
        have c0 := D4.out.c 0 _ rfl
        have c1 := D4.out.c 1 _ rfl
        have c2 := D4.out.c 2 _ rfl
        have c3 := D4.out.c 3 _ rfl
        have c4 := D4.out.c 4 _ rfl
        have c5 := D4.out.c 5 _ rfl
        have c6 := D4.out.c 6 _ rfl
        have c7 := D4.out.c 7 _ rfl
        have c8 := D4.out.c 8 _ rfl
        have c9 := D4.out.c 9 _ rfl
        have c10 := D4.out.c 10 _ rfl
        have c11 := D4.out.c 11 _ rfl
        have c12 := D4.out.c 12 _ rfl
        try simp only at c0 c1 c2 c3 c4 c5 c6 c7 c8 c9 c10 c11 c12
        go_wp2_with fail
        refine (R1.out _ XC.out).mono ?_
        rintro e w5 ⟨rfl, x1⟩
        replace XC := Lib.hid (XC.out.tr x1)
        clear x1
        clear c0 c1 c2 c3 c4 c5 c6 c7 c8 c9 c10 c11 c12
        have D5 := Lib.hid (D.out.ext XC.out)
        have c0 := D5.out.c 0 _ rfl
        have c1 := D5.out.c 1 _ rfl
        have c2 := D5.out.c 2 _ rfl
        have c3 := D5.out.c 3 _ rfl
        have c4 := D5.out.c 4 _ rfl
        have c5 := D5.out.c 5 _ rfl
        have c6 := D5.out.c 6 _ rfl
        have c7 := D5.out.c 7 _ rfl
        have c8 := D5.out.c 8 _ rfl
        have c9 := D5.out.c 9 _ rfl
        have c10 := D5.out.c 10 _ rfl
        have c11 := D5.out.c 11 _ rfl
        have c12 := D5.out.c 12 _ rfl
        try simp only at c0 c1 c2 c3 c4 c5 c6 c7 c8 c9 c10 c11 c12
        go_wp2_with fail
        refine (R3.out _ XC.out).mono ?_
        rintro e w6 ⟨p6, k6, rfl, -, -, x1⟩
        replace XC := Lib.hid (XC.out.tr x1)
        clear x1
        clear c0 c1 c2 c3 c4 c5 c6 c7 c8 c9 c10 c11 c12
        go_wp2
        go_ret
        exact ⟨rfl, X.out.tr (XR.out.tr XC.out)⟩
end Go.Proofs.Ytgplmbchlahbkaa
