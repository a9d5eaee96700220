/-
  The contract of entry.Decode: at any bytes, not more than six thousand. Conditions stand at it.
-/
import Derived.Test.YtgplmbchlahbkaaEntry5
import Derived.Test.YtgplmbchlahbkaaEntry6
namespace Go.Proofs.Ytgplmbchlahbkaa
open Go Go.Sort Go.RowKit
set_option linter.unusedVariables false

theorem infoE : (Try.prog.info? 54).map (fun i => (i.zero, i.size, i.bytes)) = some (some (.agg (enA ⟨0, 0, 0, 0, 0, 0, ⟨#[]⟩⟩)), 7, 64) := by kernel_rfl
theorem one7 {M : List EnD} : ∀ r ∈ M.map enL, ∀ u ∈ r, u.oneCell' = true := by
  intro r hr u hu
  obtain ⟨d, -, rfl⟩ := List.mem_map.1 hr
  simp [enL] at hu
  rcases hu with rfl | rfl | rfl | rfl | rfl | rfl | rfl <;> rfl
theorem wid7 {M : List EnD} : ∀ r ∈ M.map enL, r.length = 7 := by
  intro r hr
  obtain ⟨d, -, rfl⟩ := List.mem_map.1 hr
  rfl
/-- What Decode leaves. -/
def DecPost (w : World) (R : Option (List EnD)) (e : Ending) (w' : World) : Prop :=
  match R with
  | none => e = .returned (.tuple #[.slice none 0 0, .int .i64 1]) ∧ Ext w w'
  | some L => ∃ p cap, e = .returned (.tuple #[.slice p L.length cap, .int .i64 0]) ∧ OwS 54 7 w' w.heap.size p L.length cap (L.map enL) ∧ Ext w w' ∧ ∀ x ∈ L, EnOk x

set_option maxRecDepth 8000 in
set_option maxHeartbeats 8000000 in
theorem decode_any {w : World} {p : Option Addr} {n cap : Nat} {b : List UInt8} (h : SlP w p n cap b) (hn : n ≤ 6000) :
    Calls Try.prog 55 #[.slice p n cap] w fun e w' => DecPost w (decL b) e w' := by
  obtain ⟨i0, hi0, hz0, hz1, hz2⟩ := info_parts infoE
  have hcap := h.le
  have H := Lib.hid h
  have HL := Lib.hid h.len
  clear h
  obtain ⟨R, hR⟩ : ∃ R, R = decL b := ⟨_, rfl⟩
  rw [← hR]
  have HR := Lib.hid hR
  clear hR
  go_enter Try.func55, Try.ntmps55
  go_wp2
  go_loopw [4, 5] (fun v ati wr => ∃ (f x : Nat) (L : List EnD) (p' : Option Addr) (cap' : Nat), ati = .int .i64 (x : Int) ∧ v = .slice p' L.length cap' ∧ decF b f x L = decF b (n + 1) 0 [] ∧ n - x < f ∧ x ≤ n ∧ 6 * L.length ≤ x ∧ OwS 54 7 wr w.heap.size p' L.length cap' (L.map enL) ∧ (∀ e ∈ L, EnOk e) ∧ Ext w wr) (fun _ ati _ => n - (intOf ati).toNat)
  case atStart => exact ⟨n + 1, 0, [], none, 0, rfl, rfl, rfl, by omega, by omega, by simp, OwS.nil _ _ _ _, (fun e he => by cases he), Ext.rfl' _⟩
  case round =>
    obtain ⟨f, x, L, p', cap', rfl, rfl, hd, hf, hx, hL6, ho, hok, x1⟩ := hrel
    obtain ⟨wo, rfl⟩ : ∃ wo : World, wo = wr := ⟨_, rfl⟩
    obtain ⟨f', rfl⟩ : ∃ f', f = f' + 1 := ⟨f - 1, by omega⟩
    have D := Lib.hid hd
    have O := Lib.hid ho
    have OK := Lib.hid hok
    have X := Lib.hid x1
    clear hd ho hok x1
    by_cases hlt : x < n
    · have DR := Lib.hid ((H.out.ext X.out).drop x hx)
      have cf := fun w => run_cut_from (P := Try.prog) 35 5 Try.underlying35 sz5 p n cap x hx w
      cases ho1 : oneL (b.drop x) with
      | none =>
        have hRn : R = none := by
          rw [HR.out]
          unfold decL
          rw [HL.out, ← D.out, decF, if_pos (by rw [HL.out]; exact hlt), ho1]
        subst hRn
        have e1 : oneE (b.drop x) = zeroE := by unfold oneE; rw [ho1]
        have e2 : oneN (b.drop x) = 0 := by unfold oneN; rw [ho1]
        have E1 := Lib.hid e1
        have E2 := Lib.hid e2
        clear e1 e2 ho1
        go_wp2_with fail
        refine (one_any DR.out (by omega)).mono ?_
        rw [E1.out, E2.out]
        rintro e w2 ⟨rfl, x2⟩
        have X2 := Lib.hid (X.out.tr x2)
        clear x2
        go_wp2
        go_ret2
        exact ⟨rfl, X2.out.tr (Ext.alloc _ _)⟩
      | some q =>
        obtain ⟨e, k⟩ := q
        have hin := oneL_in ho1
        rw [List.length_drop, HL.out] at hin
        obtain ⟨hek, hk6, hkn⟩ := hin
        have e1 : oneE (b.drop x) = e := by unfold oneE; rw [ho1]
        have e2 : oneN (b.drop x) = k := by unfold oneN; rw [ho1]
        have D2 : Hid (decF b f' (x + k) (L ++ [e]) = decF b (n + 1) 0 []) := Lib.hid (by
          rw [← D.out, decF, if_pos (by rw [HL.out]; exact hlt), ho1])
        have E1 := Lib.hid e1
        have E2 := Lib.hid e2
        have EK := Lib.hid hek
        clear e1 e2 ho1 hek
        have hk0 : ((k : Int) == 0) = false := beq_eq_false_iff_ne.2 (by omega)
        obtain ⟨f1, f2, f3, f4, f5, f6, dat⟩ := e
        go_wp2_with fail
        refine (one_any DR.out (by omega)).mono ?_
        rw [E1.out, E2.out]
        rintro e w2 ⟨rfl, x2⟩
        have X2 := Lib.hid x2
        clear x2
        have A2 := Lib.hid ((Ext.alloc w2 (.cells (enA ⟨f1, f2, f3, f4, f5, f6, dat⟩) 54)).tr (Ext.alloc _ (.cells (enA ⟨f1, f2, f3, f4, f5, f6, dat⟩) 54)))
        have SR : Hid (SlS 7 ((w2.alloc (.cells (enA ⟨f1, f2, f3, f4, f5, f6, dat⟩) 54)).alloc (.cells (enA ⟨f1, f2, f3, f4, f5, f6, dat⟩) 54)) (some ⟨w2.heap.size + 1, 0, none⟩) 1 1 (([⟨f1, f2, f3, f4, f5, f6, dat⟩] : List EnD).map enL)) := Lib.hid (by
          have h := SlS.lit (K := 7) (E := 54) (w2.alloc (.cells (enA ⟨f1, f2, f3, f4, f5, f6, dat⟩) 54)) 1 (enA ⟨f1, f2, f3, f4, f5, f6, dat⟩) (0, 0) (([⟨f1, f2, f3, f4, f5, f6, dat⟩] : List EnD).map enL) rfl wid7 rfl (by omega)
          rw [show (w2.alloc (.cells (enA ⟨f1, f2, f3, f4, f5, f6, dat⟩) 54)).heap.size = w2.heap.size + 1 by simp] at h
          exact h)
        go_wp2_with (at_builtin; refine wpList_appS rfl _ _ 29 rfl w.heap.size Try.underlying29 i0 _ 64 hi0 hz0 hz1 hz2 rfl (by decide) p' L.length cap' _ rfl (O.out.ext (X2.out.tr A2.out)) (some ⟨w2.heap.size + 1, 0, none⟩) 1 1 _ rfl SR.out one7 (by omega) (by omega) (by have := X.out.size; have := X2.out.size; simp; omega) ?_)
        intro p3 c3 w3 o3 g3
        have O3 := Lib.hid o3
        have X3 := Lib.hid (Ext.ownS (X.out.tr (X2.out.tr A2.out)) (O.out.ext (X2.out.tr A2.out)) g3 rfl)
        clear o3 g3
        go_wp2
        go_roundw
        case rel => exact ⟨f', x + k, L ++ [⟨f1, f2, f3, f4, f5, f6, dat⟩], p3, c3, by go_num, by rw [List.length_append]; rfl, D2.out, by omega, by omega, by rw [List.length_append]; simp; omega, by rw [List.length_append, List.map_append]; simpa using O3.out, (fun y hy => by
          rcases List.mem_append.1 hy with hy | hy
          · exact OK.out y hy
          · simp at hy; subst hy; exact EK.out), X3.out⟩
        case measure => simp [intOf]; omega
    · have hRs : R = if encAll L = b then some L else none := by
        rw [HR.out]
        unfold decL
        rw [HL.out, ← D.out, decF, if_neg (by rw [HL.out]; exact hlt)]
      by_cases heq : encAll L = b
      · rw [if_pos heq] at hRs
        subst hRs
        have hbq : (encAll L == b) = true := by rw [heq]; exact beq_self_eq_true _
        have HBQ := Lib.hid hbq
        clear hbq heq
        go_wp2_with fail
        refine (encode_any O.out.sl OK.out (by omega)).mono ?_
        rintro e w2 ⟨p2, c2, rfl, o2, x2⟩
        have O2 := Lib.hid o2
        have X2 := Lib.hid x2
        clear o2 x2
        go_wp2_with fail
        refine (equal_any O2.out.sl (H.out.ext (X.out.tr X2.out))).mono ?_
        rw [HBQ.out]
        rintro e w3 ⟨rfl, rfl⟩
        go_wp2
        go_ret2
        exact ⟨p', cap', rfl, O.out.ext X2.out, X.out.tr X2.out, OK.out⟩
      · rw [if_neg heq] at hRs
        subst hRs
        have hbq : (encAll L == b) = false := beq_eq_false_iff_ne.2 heq
        have HBQ := Lib.hid hbq
        clear hbq heq
        go_wp2_with fail
        refine (encode_any O.out.sl OK.out (by omega)).mono ?_
        rintro e w2 ⟨p2, c2, rfl, o2, x2⟩
        have O2 := Lib.hid o2
        have X2 := Lib.hid x2
        clear o2 x2
        go_wp2_with fail
        refine (equal_any O2.out.sl (H.out.ext (X.out.tr X2.out))).mono ?_
        rw [HBQ.out]
        rintro e w3 ⟨rfl, rfl⟩
        go_wp2
        go_ret2
        exact ⟨rfl, X.out.tr X2.out⟩
end Go.Proofs.Ytgplmbchlahbkaa
