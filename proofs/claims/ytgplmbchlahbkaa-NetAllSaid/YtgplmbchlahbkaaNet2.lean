/-
  The contract of slices.Delete at net's mails: one of them is deleted. Conditions stand at each.
-/
import Derived.Test.YtgplmbchlahbkaaNet
import Derived.Test.YtgplmbchlahbkaaCrcWalks
import Derived.Test.YtgplmbchlahbkaaNumPut
import Derived.Outline
namespace Go.Proofs.Ytgplmbchlahbkaa
open Go Go.Sort Go.RowKit
set_option linter.unusedVariables false

theorem info_mail : (Try.prog.info? 65).map (fun i => (i.zero, i.size, i.bytes)) = some (some (.agg #[.int .i64 0, .slice none 0 0]), 2, 32) := by kernel_rfl
theorem zero_mail (w : World) : (zeroValue 65).run Try.prog w = .ok (.agg #[.int .i64 0, .slice none 0 0]) w := by kernel_rfl
theorem size_mail (w : World) : (sizeOf 65).run Try.prog w = .ok 2 w := by kernel_rfl
theorem mcut_to (p : Option Addr) (n cap k : Nat) (hk : k ≤ cap) (w : World) : (Instr.slice 58 (.slice p n cap) none (some (.int .i64 (k : Int))) none).run Try.prog w = .ok (.slice p k cap) w :=
  run_cutS_to 2 58 65 Try.underlying58 size_mail p n cap k hk w
theorem mcut_from (p : Option Addr) (n cap k : Nat) (hk : k ≤ n) (w : World) : (Instr.slice 58 (.slice p n cap) (some (.int .i64 (k : Int))) none none).run Try.prog w = .ok (.slice (tailS 2 p cap k) (n - k) (cap - k)) w :=
  run_cutS_from 2 58 65 Try.underlying58 size_mail p n cap k hk w

set_option maxHeartbeats 4000000 in
set_option maxRecDepth 100000 in
/-- slices.Delete at one mail. -/
theorem delete_any {w : World} {base g n cap : Nat} {L : List (List Value)} (i : Nat) (hi : i < n) (h : OwS 65 2 w base (some ⟨g, 0, none⟩) n cap L) (h1 : ∀ r ∈ L, ∀ u ∈ r, u.oneCell' = true) :
    Calls Try.prog 41 #[.slice (some ⟨g, 0, none⟩) n cap, .int .i64 (i : Int), .int .i64 ((i + 1 : Nat) : Int)] w fun e w' =>
      e = .returned (.slice (some ⟨g, 0, none⟩) (n - 1) cap) ∧ OwS 65 2 w' base (some ⟨g, 0, none⟩) (n - 1) cap (L.eraseIdx i) ∧ w.grownBy w' (some g) := by
  have hsl := h.sl
  have hcap := hsl.le
  have hmx := hsl.max
  obtain ⟨i0, hi0, hz0, hz1, hz2⟩ := info_parts info_mail
  have R := Lib.hid (owns_erase (E := 65) (K := 2) (w := w.drew) (i := i) (zs := [.int .i64 0, .slice none 0 0]) (h.ext (Ext.drew w)) hi rfl)
  have HL : Hid (L.length = n) := Lib.hid h.1
  obtain ⟨news, hnews⟩ : ∃ news, news = (L.drop (i + 1)).flatten := ⟨_, rfl⟩
  have hlen : news.length = (n - (i + 1)) * 2 := by rw [hnews, flatten_len _ (fun y hy => h.2.1 y (List.mem_of_mem_drop hy)), List.length_drop, h.1]
  have hcl : ∀ j v, L.flatten[j]? = some v → w.cell? ⟨g, j, none⟩ = some v := fun j v hv => by
    have := h.2.2.cells (g := g) rfl j v hv
    rw [Addr.add_lit] at this
    simpa using this
  have hfl : L.flatten.length = n * 2 := by rw [flatten_len _ h.2.1, h.1]
  have hfz : ∀ j, w.frozen? ⟨g, j, none⟩ = false := h.2.2.frozenAt
  obtain ⟨A, hA, hsrc⟩ : ∃ A : Addr, tailS 2 (some ⟨g, 0, none⟩) cap (i + 1) = some A ∧ Hid (∀ t u, news[t]? = some u → w.drew.cell? (A.add t) = some u) := by
    unfold tailS
    by_cases hc : cap = i + 1
    · refine ⟨⟨g, 0, none⟩, by rw [if_pos hc], Lib.hid (fun t u hu => ?_)⟩
      have h0 : news.length = 0 := by rw [hlen]; omega
      rw [List.length_eq_zero_iff.1 h0] at hu
      simp at hu
    · refine ⟨⟨g, (i + 1) * 2, none⟩, by rw [if_neg hc]; simp [Addr.add_lit], Lib.hid (fun t u hu => ?_)⟩
      rw [Addr.add_lit]
      refine hcl _ _ ?_
      rw [flat_split (show i < L.length by rw [h.1]; exact hi), ← List.append_assoc]
      have a1 : ((L.take i).flatten ++ L[i]'(by rw [h.1]; exact hi)).length = (i + 1) * 2 := by
        rw [List.length_append, flatten_len _ (fun y hy => h.2.1 y (List.mem_of_mem_take hy)), List.length_take, h.2.1 _ (by simp), h.1, Nat.min_eq_left (by omega)]
        omega
      rw [List.getElem?_append_right (by rw [a1]; omega), a1, show (i + 1) * 2 + t - (i + 1) * 2 = t by omega, ← hnews]
      exact hu
  have s1 : Hid (news.length = (n - (i + 1)) * 2) := Lib.hid hlen
  have s2 : Hid (∀ u ∈ news, u.oneCell' = true) := Lib.hid (fun u hu => by
    rw [hnews] at hu
    obtain ⟨r, hr, hur⟩ := List.mem_flatten.1 hu
    exact h1 r (List.mem_of_mem_drop hr) u hur)
  have s3 : Hid (∀ t, t < news.length → (w.drew.cell? ⟨g, 0 + i * 2 + t, none⟩).isSome = true ∧ w.drew.frozen? ⟨g, 0 + i * 2 + t, none⟩ = false) := Lib.hid (fun t ht => by
    refine ⟨?_, hfz _⟩
    have hlt : 0 + i * 2 + t < L.flatten.length := by omega
    show (w.cell? _).isSome = true
    rw [hcl _ _ (List.getElem?_eq_getElem hlt)]
    rfl)
  obtain ⟨W1, hW1⟩ : ∃ W1, W1 = w.drew.setCells g (0 + i * 2) news := ⟨_, rfl⟩
  have hW1f : W1 = w.drew.setCells g (i * 2) (L.drop (i + 1)).flatten := by rw [hW1, Nat.zero_add, hnews]
  have HW := Lib.hid hW1
  rw [← hW1f] at R
  have hclr : ∀ ty c, (Builtin.clear_ #[58] ty #[.slice (some ⟨g, (n - 1) * 2, none⟩) 1 c]).run Try.prog W1 = .ok (.tuple #[]) (W1.setCells g ((n - 1) * 2) [.int .i64 0, .slice none 0 0]) := fun ty c =>
    run_clear_one W1 _ _ ty _ [.int .i64 0, .slice none 0 0] Try.underlying58 zero_mail rfl (by simp [Value.oneCell']) g ((n - 1) * 2) c (fun j hj => by
      rw [hW1]
      by_cases hin : 0 + i * 2 ≤ (n - 1) * 2 + j ∧ (n - 1) * 2 + j < 0 + i * 2 + news.length
      · obtain ⟨t, ht⟩ : ∃ t, (n - 1) * 2 + j = 0 + i * 2 + t := ⟨(n - 1) * 2 + j - i * 2, by omega⟩
        rw [ht, World.cell?_setCells_in g news _ _ (fun q hq => (s3.out q hq).1) t (by omega)]
        rfl
      · rw [World.cell?_setCells_out g news _ _ _ (fun _ _ => by simp only; omega)]
        have hlt : (n - 1) * 2 + j < L.flatten.length := by simp at hj; omega
        show (w.cell? _).isSome = true
        rw [hcl _ _ (List.getElem?_eq_getElem hlt)]
        rfl) (fun j hj => by rw [hW1, World.frozen?_setCells]; exact hfz _)
  clear hW1 hW1f hcl hfl hfz hlen hnews h h1
  have hA' : (if cap = i + 1 then (some ⟨g, 0, none⟩ : Option Addr) else some ⟨g, (i + 1) * 2, none⟩) = some A := by
    rw [← hA]
    unfold tailS
    split
    · rfl
    · simp [Addr.add_lit]
  clear hA
  have b1 : (0 : Int) ≤ (i : Int) + 1 := by omega
  have b2 : (i : Int) + 1 ≤ (n : Int) := by omega
  have b3 : i ≤ cap := by omega
  go_enter Try.func41, Try.ntmps41
  go_wp2_with fail
  go_region_law (refine step_append_room rfl (.tmp 22) (.tmp 25) 58 rfl 65 i0 2 Try.underlying58 hi0 hz1 g 0 i cap (by simp [Act.eval, Act.put]) A (n - (i + 1)) (cap - (i + 1)) news (by simp [Act.eval, Act.put]) s1.out hsrc.out s2.out (by omega) s3.out ?_; rw [← HW.out])
  rw [show i + (n - (i + 1)) = n - 1 by omega]
  have b4 : (0 : Int) ≤ ((n - 1 : Nat) : Int) := by omega
  have b5 : ((n - 1 : Nat) : Int) ≤ (n : Int) := by omega
  have b6 : n - (n - 1) = 1 := by omega
  have b7 : (cap = n - 1) = False := by simp; omega
  have hclr0 := hclr 0 (cap - (n - 1))
  go_wp2
  go_ret
  exact ⟨rfl, R.out.1, grown_tr (grown_ext (Ext.drew w) _) R.out.2⟩
end Go.Proofs.Ytgplmbchlahbkaa
