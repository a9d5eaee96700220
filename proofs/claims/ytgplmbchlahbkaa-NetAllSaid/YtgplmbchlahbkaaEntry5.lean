/-
  Contracts of entry.Encode and of the reference's Entries: at any entries, not more than a thousand. Conditions stand at each.
-/
import Derived.Test.YtgplmbchlahbkaaEntry4
import Derived.Test.YtgplmbchlahbkaaEntry2
import Derived.Test.YtgplmbchlahbkaaNumPut2
namespace Go.Proofs.Ytgplmbchlahbkaa
open Go Go.Sort Go.RowKit
set_option linter.unusedVariables false

theorem en_at {w : World} {p : Option Addr} {n cap : Nat} {L : List EnD} (h : SlS 7 w p n cap (L.map enL)) (k : Nat) (hk : k < n) :
    ∃ b o e, p = some ⟨b, o, none⟩ ∧ L[k]? = some e ∧ w.cell? ⟨b, o + k * 7, none⟩ = some (.int .i64 e.fr) ∧ w.cell? ⟨b, o + k * 7 + 1, none⟩ = some (.int .i64 e.bt) ∧ w.cell? ⟨b, o + k * 7 + 2, none⟩ = some (.int .i64 e.sq) ∧
      w.cell? ⟨b, o + k * 7 + 3, none⟩ = some (.int .i64 e.od) ∧ w.cell? ⟨b, o + k * 7 + 4, none⟩ = some (.int .i64 e.lv) ∧ w.cell? ⟨b, o + k * 7 + 5, none⟩ = some (.int .i64 e.st) ∧ w.cell? ⟨b, o + k * 7 + 6, none⟩ = some (.string e.da) := by
  obtain ⟨b, o, x, hp, hx, -, hc⟩ := h.at k hk
  rw [List.getElem?_map] at hx
  obtain ⟨e, he, rfl⟩ := Option.map_eq_some_iff.1 hx
  exact ⟨b, o, e, hp, he, hc 0 _ rfl, hc 1 _ rfl, hc 2 _ rfl, hc 3 _ rfl, hc 4 _ rfl, hc 5 _ rfl, hc 6 _ rfl⟩
theorem en_len {w : World} {p : Option Addr} {n cap : Nat} {L : List EnD} (h : SlS 7 w p n cap (L.map enL)) : L.length = n := by have := h.len; simpa using this
theorem idx6 (f1 f2 f3 f4 f5 f6 : Int) (k : Nat) (hk : k < 6) : ∃ x, [f1, f2, f3, f4, f5, f6][k]? = some x ∧ ∀ w, (Instr.index 94 (.agg #[.int .i64 f1, .int .i64 f2, .int .i64 f3, .int .i64 f4, .int .i64 f5, .int .i64 f6]) (.int .i64 (k : Int))).run Try.prog w = .ok (.int .i64 x) w := by
  match k, hk with
  | 0, _ => exact ⟨f1, rfl, fun _ => by kernel_rfl⟩
  | 1, _ => exact ⟨f2, rfl, fun _ => by kernel_rfl⟩
  | 2, _ => exact ⟨f3, rfl, fun _ => by kernel_rfl⟩
  | 3, _ => exact ⟨f4, rfl, fun _ => by kernel_rfl⟩
  | 4, _ => exact ⟨f5, rfl, fun _ => by kernel_rfl⟩
  | 5, _ => exact ⟨f6, rfl, fun _ => by kernel_rfl⟩
theorem enAll_take {L : List EnD} {k : Nat} {e : EnD} (h : L[k]? = some e) : ((L.take (k + 1)).map enB).flatten = ((L.take k).map enB).flatten ++ enB e := by
  rw [List.take_add_one, h, List.map_append, List.flatten_append]
  simp
theorem may_take {L : List EnD} {k : Nat} {e : EnD} (h : L[k]? = some e) (hm : (L.take k).all mayB = true) (he : mayB e = true) : (L.take (k + 1)).all mayB = true := by
  rw [List.take_add_one, h, List.all_append, hm]
  simp [he]
theorem enc_bad {L : List EnD} {k : Nat} {e : EnD} (h : L[k]? = some e) (he : mayB e = false) : encAll L = [] := by
  unfold encAll
  rw [if_neg]
  intro hh
  have := List.all_eq_true.1 hh e (List.mem_of_getElem? h)
  rw [he] at this
  cases this
theorem zsI {e : EnD} (he : EnOk e) {k : Nat} {x : Int} (h : [e.fr, e.bt, e.sq, e.od, e.lv, e.st][k]? = some x) : I64 x := by
  obtain ⟨h1, h2, h3, h4, h5, h6, h7⟩ := he
  have hx := List.mem_of_getElem? h
  simp at hx
  rcases hx with rfl | rfl | rfl | rfl | rfl | rfl <;> assumption
theorem encs_len {zs : List Int} (h : ∀ x ∈ zs, I64 x) : (encs zs).length ≤ 10 * zs.length := by
  induction zs with
  | nil => simp [encs]
  | cons x r ih =>
    have h1 := enc_len10 (h x (by simp))
    have h2 := ih (fun y hy => h y (by simp [hy]))
    simp only [encs, List.length_append, List.length_cons]
    omega
/-- From a row of the call's own on, by 'Gr'. -/
theorem Ext.gr {w0 w w' : World} {p p' : Option Addr} {n cap : Nat} {l : List UInt8} (h : Ext w0 w) (ho : OwP w w0.heap.size p n cap l) (g : Gr w w' (p.map (·.block)) p') : Ext w0 w' := Ext.own h ho g.1 rfl

set_option maxRecDepth 8000 in
set_option maxHeartbeats 8000000 in
theorem encode_any {w : World} {p : Option Addr} {n cap : Nat} {L : List EnD} (h : SlS 7 w p n cap (L.map enL)) (hL : ∀ e ∈ L, EnOk e) (hn : n ≤ 1000) :
    Calls Try.prog 52 #[.slice p n cap] w fun e w' => ∃ p' cap', e = .returned (.slice p' (encAll L).length cap') ∧ OwP w' w.heap.size p' (encAll L).length cap' (encAll L) ∧ Ext w w' := by
  have hcap := h.le
  have S := Lib.hid h
  have HL := Lib.hid hL
  have N := Lib.hid (en_len h)
  clear h hL
  obtain ⟨R, hR⟩ : ∃ R, R = encAll L := ⟨_, rfl⟩
  rw [← hR]
  have HR := Lib.hid hR
  clear hR
  go_enter Try.func52, Try.ntmps52
  go_wp2
  go_loopw [3, 10] (fun v i wr => ∃ (k nn : Nat) (p' : Option Addr) (cap' : Nat), k ≤ n ∧ i = .int .i64 (k : Int) ∧ v = .slice p' nn cap' ∧ nn ≤ 100 * k ∧ OwP wr w.heap.size p' nn cap' ((L.take k).map enB).flatten ∧ (L.take k).all mayB = true ∧ Ext w wr) (fun _ i _ => n - (intOf i).toNat)
  case atStart => exact ⟨0, 0, none, 0, by omega, rfl, rfl, by omega, OwP.nil _ _, rfl, Ext.rfl' _⟩
  case round =>
    obtain ⟨k, nn, p', cap', hk, rfl, rfl, hnn, ho, hm, x1⟩ := hrel
    obtain ⟨wo, rfl⟩ : ∃ wo : World, wo = wr := ⟨_, rfl⟩
    have O := Lib.hid ho
    have M := Lib.hid hm
    have X := Lib.hid x1
    clear ho hm x1
    by_cases hlt : k < n
    · obtain ⟨b, o, e, hp, hx, c0, c1, c2, c3, c4, c5, c6⟩ := en_at (S.out.ext X.out) k hlt
      have OK := Lib.hid (HL.out e (List.mem_of_getElem? hx))
      have HX := Lib.hid hx
      clear hx
      subst hp
      obtain ⟨f1, f2, f3, f4, f5, f6, dat⟩ := e
      simp only at c0 c1 c2 c3 c4 c5 c6
      have MY := Lib.hid (fun w => may_any (w := w) OK.out)
      have D1 := Lib.hid (EnBox.new wo ⟨f1, f2, f3, f4, f5, f6, dat⟩ 54)
      have A1 := Lib.hid (Ext.alloc wo (.cells (enA ⟨f1, f2, f3, f4, f5, f6, dat⟩) 54))
      cases hmy : mayB ⟨f1, f2, f3, f4, f5, f6, dat⟩
      · have hRn : R = [] := by rw [HR.out]; exact enc_bad HX.out hmy
        subst hRn
        rw [hmy] at MY
        clear hmy
        go_wp2_with fail
        refine (MY.out _).mono ?_
        rintro x w4 ⟨rfl, x4⟩
        have X4 := Lib.hid (X.out.tr (A1.out.tr x4))
        clear x4
        go_wp2
        go_ret
        exact ⟨none, 0, rfl, OwP.nil _ _, X4.out⟩
      · have HMY := Lib.hid hmy
        have hds := may_size hmy
        simp only at hds
        rw [hmy] at MY
        clear hmy
        go_wp2_with fail
        refine (MY.out _).mono ?_
        rintro x w4 ⟨rfl, x4⟩
        have X4 := Lib.hid (X.out.tr (A1.out.tr x4))
        have O4 := Lib.hid (O.out.ext (A1.out.tr x4))
        have D4 := Lib.hid (D1.out.ext x4)
        have NE : Hid (∀ q, p'.map (·.block) = some q → q < wo.heap.size) := Lib.hid (fun q hq => (O.out.lt q hq).2)
        have W4 : Hid (wo.heap.size < w4.heap.size) := Lib.hid (World.block_lt_of_cell? w4 _ D4.out.c0)
        clear x4 D1 c0 c1 c2 c3 c4 c5 c6
        obtain ⟨c0, c1, c2, c3, c4, c5, c6⟩ := D4.out
        simp only at c0 c1 c2 c3 c4 c5 c6
        go_wp2
        clear c0 c1 c2 c3 c4 c5 c6
        go_loopw [3, 30] (fun v i wr => ∃ (m n2 : Nat) (p2 : Option Addr) (c2 : Nat), m ≤ 6 ∧ i = .int .i64 (m : Int) ∧ v = .slice p2 n2 c2 ∧ OwP wr w.heap.size p2 n2 c2 (((L.take k).map enB).flatten ++ encs ([f1, f2, f3, f4, f5, f6].take m)) ∧ Gr w4 wr (p'.map (·.block)) p2) (fun _ i _ => 6 - (intOf i).toNat)
        case atStart => exact ⟨0, nn, p', cap', by omega, rfl, rfl, by simpa [encs] using O4.out, Gr.refl _ _⟩
        case round =>
          obtain ⟨wi, rfl⟩ : ∃ wi : World, wi = wr := ⟨_, rfl⟩
          obtain ⟨m, n2, p2, c2, hm6, rfl, rfl, ho2, g2⟩ := hrel
          have O2 := Lib.hid ho2
          have G2 := Lib.hid g2
          have hn2 : n2 ≤ 100 * k + 60 := by
            have h1 := ho2.len
            have h2 := O4.out.len
            have h3 := encs_len (zs := [f1, f2, f3, f4, f5, f6].take m) (fun x hx => by
              obtain ⟨j, hj⟩ := List.getElem?_of_mem (List.mem_of_mem_take hx)
              exact zsI OK.out hj)
            have h4 : ([f1, f2, f3, f4, f5, f6].take m).length ≤ 6 := by simp; omega
            rw [List.length_append] at h1
            omega
          have hwi : Hid (w.heap.size ≤ wi.heap.size) := Lib.hid (Nat.le_trans X4.out.size g2.1.size)
          clear ho2 g2
          by_cases hm : m < 6
          · obtain ⟨x, hx, hidx⟩ := idx6 f1 f2 f3 f4 f5 f6 m hm
            have IX := Lib.hid (zsI OK.out hx)
            have HX2 := Lib.hid hx
            clear hx
            go_wp2_with fail
            refine (put_gr O2.out hwi.out (by omega) IX.out.1 IX.out.2).mono ?_
            rintro e w5 ⟨p3, c3, rfl, o3, g3⟩
            have O3 := Lib.hid o3
            have G3 := Lib.hid (G2.out.tr g3)
            clear o3 g3 hidx
            go_wp2
            go_roundw
            case rel => exact ⟨m + 1, _, p3, c3, by omega, by go_num, rfl, by rw [encs_take HX2.out, ← List.append_assoc]; exact O3.out, G3.out⟩
            case measure => simp [intOf]; omega
          · have hme : [f1, f2, f3, f4, f5, f6].take m = [f1, f2, f3, f4, f5, f6] := List.take_of_length_le (by simp; omega)
            rw [hme] at O2
            clear hme
            have c6 : wi.cell? ⟨wo.heap.size, 6, none⟩ = some (.string dat) := G2.out.cell D4.out.c6 (fun e => by have := NE.out _ e.symm; simp at this)
            go_wp2_with fail
            refine (puttext_any O2.out hwi.out (by omega) (by omega)).mono ?_
            rintro e w5 ⟨p3, c3, rfl, o3, b3⟩
            have X5 := Lib.hid (Below.trans (Ext.gr X4.out O4.out G2.out) b3)
            have O5 : Hid (OwP w5 w.heap.size p3 (n2 + (txt dat.data.toList).length) c3 (((L.take (k + 1)).map enB).flatten)) := Lib.hid (by
              rw [enAll_take HX.out, enB, ← List.append_assoc]
              exact o3)
            have hb : n2 + (txt dat.data.toList).length ≤ 100 * (k + 1) := by
              have h1 := O5.out.len
              rw [enAll_take HX.out, List.length_append] at h1
              have h2 := O4.out.len
              have h3 := enB_len OK.out hds
              omega
            clear o3 b3 c6
            go_wp2
            go_roundw
            case rel => exact ⟨k + 1, _, p3, c3, by omega, by go_num, rfl, hb, O5.out, may_take HX.out M.out HMY.out, X5.out⟩
            case measure => simp [intOf]; omega
    · have hkn : L.take k = L := List.take_of_length_le (by rw [N.out]; omega)
      rw [hkn] at O M
      have hRn : R = (L.map enB).flatten := by rw [HR.out]; unfold encAll; rw [if_pos M.out]
      rw [← hRn] at O
      have hlen : nn = R.length := O.out.len.symm
      subst hlen
      clear hkn hRn
      go_wp2
      go_ret
      exact ⟨p', cap', rfl, O.out, X.out⟩

set_option maxRecDepth 8000 in
set_option maxHeartbeats 8000000 in
theorem rentries_any {w : World} {p : Option Addr} {n cap : Nat} {L : List EnD} (h : SlS 7 w p n cap (L.map enL)) (hL : ∀ e ∈ L, EnOk e) (hn : n ≤ 1000) :
    Calls Try.prog 40 #[.slice p n cap] w fun e w' => ∃ p' cap', e = .returned (.slice p' (encAll L).length cap') ∧ OwP w' w.heap.size p' (encAll L).length cap' (encAll L) ∧ Ext w w' := by
  have hcap := h.le
  have S := Lib.hid h
  have HL := Lib.hid hL
  have N := Lib.hid (en_len h)
  clear h hL
  obtain ⟨R, hR⟩ : ∃ R, R = encAll L := ⟨_, rfl⟩
  rw [← hR]
  have HR := Lib.hid hR
  clear hR
  go_enter Try.func40, Try.ntmps40
  go_wp2
  go_loopw [3, 4] (fun v i wr => ∃ (k nn : Nat) (p' : Option Addr) (cap' : Nat), k ≤ n ∧ i = .int .i64 (k : Int) ∧ v = .slice p' nn cap' ∧ nn ≤ 100 * k ∧ OwP wr w.heap.size p' nn cap' ((L.take k).map enB).flatten ∧ (L.take k).all mayB = true ∧ Ext w wr) (fun _ i _ => n - (intOf i).toNat)
  case atStart => exact ⟨0, 0, none, 0, by omega, rfl, rfl, by omega, OwP.nil _ _, rfl, Ext.rfl' _⟩
  case round =>
    obtain ⟨k, nn, p', cap', hk, rfl, rfl, hnn, ho, hm, x1⟩ := hrel
    obtain ⟨wo, rfl⟩ : ∃ wo : World, wo = wr := ⟨_, rfl⟩
    have O := Lib.hid ho
    have M := Lib.hid hm
    have X := Lib.hid x1
    clear ho hm x1
    by_cases hlt : k < n
    · obtain ⟨b, o, e, hp, hx, c0, c1, c2, c3, c4, c5, c6⟩ := en_at (S.out.ext X.out) k hlt
      have OK := Lib.hid (HL.out e (List.mem_of_getElem? hx))
      have HX := Lib.hid hx
      clear hx
      subst hp
      obtain ⟨f1, f2, f3, f4, f5, f6, dat⟩ := e
      simp only at c0 c1 c2 c3 c4 c5 c6
      have MY := Lib.hid (fun w => rmay_any (w := w) OK.out)
      have D1 := Lib.hid (EnBox.new wo ⟨f1, f2, f3, f4, f5, f6, dat⟩ 54)
      have A1 := Lib.hid (Ext.alloc wo (.cells (enA ⟨f1, f2, f3, f4, f5, f6, dat⟩) 54))
      cases hmy : mayB ⟨f1, f2, f3, f4, f5, f6, dat⟩
      · have hRn : R = [] := by rw [HR.out]; exact enc_bad HX.out hmy
        subst hRn
        rw [hmy] at MY
        clear hmy
        go_wp2_with fail
        refine (MY.out _).mono ?_
        rintro x w4 ⟨rfl, x4⟩
        have X4 := Lib.hid (X.out.tr (A1.out.tr x4))
        clear x4
        go_wp2
        go_ret
        exact ⟨none, 0, rfl, OwP.nil _ _, X4.out⟩
      · have HMY := Lib.hid hmy
        have hds := may_size hmy
        simp only at hds
        rw [hmy] at MY
        clear hmy
        go_wp2_with fail
        refine (MY.out _).mono ?_
        rintro x w4 ⟨rfl, x4⟩
        have X4 := Lib.hid (X.out.tr (A1.out.tr x4))
        have O4 := Lib.hid (O.out.ext (A1.out.tr x4))
        have D4 := Lib.hid (D1.out.ext x4)
        have NE : Hid (∀ q, p'.map (·.block) = some q → q < wo.heap.size) := Lib.hid (fun q hq => (O.out.lt q hq).2)
        have W4 : Hid (wo.heap.size < w4.heap.size) := Lib.hid (World.block_lt_of_cell? w4 _ D4.out.c0)
        clear x4 D1 c0 c1 c2 c3 c4 c5 c6
        obtain ⟨c0, c1, c2, c3, c4, c5, c6⟩ := D4.out
        simp only at c0 c1 c2 c3 c4 c5 c6
        go_wp2
        clear c0 c1 c2 c3 c4 c5 c6
        have SZ : Hid (SlI .i64 (w4.alloc (.cells #[.int .i64 f1, .int .i64 f2, .int .i64 f3, .int .i64 f4, .int .i64 f5, .int .i64 f6] 2)) (some ⟨w4.heap.size, 0, none⟩) 6 6 [f1, f2, f3, f4, f5, f6]) := Lib.hid (SlI.lit' 2 w4 _ 6 _ _ rfl rfl rfl (by omega) (fun x hx => by
          obtain ⟨j, hj⟩ := List.getElem?_of_mem hx
          exact zsI OK.out hj))
        have A4 := Lib.hid (Ext.alloc w4 (.cells #[.int .i64 f1, .int .i64 f2, .int .i64 f3, .int .i64 f4, .int .i64 f5, .int .i64 f6] 2))
        generalize hw6 : w4.alloc (.cells #[.int .i64 f1, .int .i64 f2, .int .i64 f3, .int .i64 f4, .int .i64 f5, .int .i64 f6] 2) = w6 at *
        clear hw6
        have O6 := Lib.hid (O4.out.ext A4.out)
        have X6 := Lib.hid (X4.out.tr A4.out)
        have D6 := Lib.hid (D4.out.ext A4.out)
        have NE4 : Hid (∀ q, p'.map (·.block) = some q → q < w4.heap.size) := Lib.hid (fun q hq => (O4.out.lt q hq).2)
        go_loopw [3, 7] (fun v i wr => ∃ (m n2 : Nat) (p2 : Option Addr) (c2 : Nat), m ≤ 6 ∧ i = .int .i64 (m : Int) ∧ v = .slice p2 n2 c2 ∧ OwP wr w.heap.size p2 n2 c2 (((L.take k).map enB).flatten ++ encs ([f1, f2, f3, f4, f5, f6].take m)) ∧ Gr w6 wr (p'.map (·.block)) p2) (fun _ i _ => 6 - (intOf i).toNat)
        case atStart => exact ⟨0, nn, p', cap', by omega, rfl, rfl, by simpa [encs] using O6.out, Gr.refl _ _⟩
        case round =>
          obtain ⟨wi, rfl⟩ : ∃ wi : World, wi = wr := ⟨_, rfl⟩
          obtain ⟨m, n2, p2, c2, hm6, rfl, rfl, ho2, g2⟩ := hrel
          have O2 := Lib.hid ho2
          have G2 := Lib.hid g2
          have hn2 : n2 ≤ 100 * k + 60 := by
            have h1 := ho2.len
            have h2 := O4.out.len
            have h3 := encs_len (zs := [f1, f2, f3, f4, f5, f6].take m) (fun x hx => by
              obtain ⟨j, hj⟩ := List.getElem?_of_mem (List.mem_of_mem_take hx)
              exact zsI OK.out hj)
            have h4 : ([f1, f2, f3, f4, f5, f6].take m).length ≤ 6 := by simp; omega
            rw [List.length_append] at h1
            omega
          have hwi : Hid (w.heap.size ≤ wi.heap.size) := Lib.hid (Nat.le_trans X6.out.size g2.1.size)
          clear ho2 g2
          by_cases hm : m < 6
          · obtain ⟨b', o', x, hp, hx, hcell, hwf⟩ := SZ.out.at m hm
            have hbo : b' = w4.heap.size ∧ o' = 0 := by simp at hp; exact ⟨hp.1.symm, hp.2.symm⟩
            obtain ⟨rfl, rfl⟩ := hbo
            have hc := G2.out.cell hcell (fun e => by have := NE4.out _ e.symm; simp at this)
            rw [Nat.zero_add] at hc
            have IX := Lib.hid (zsI OK.out hx)
            have HX2 := Lib.hid hx
            clear hx hcell hwf hp
            have hpos := enc_pos (zig x)
            have hten := enc_len10 IX.out
            obtain ⟨E, hE⟩ : ∃ E, E = enc (zig x) := ⟨_, rfl⟩
            rw [← hE] at hpos hten
            have HE := Lib.hid hE
            clear hE
            go_wp2_with fail
            refine (rput_any IX.out.1 IX.out.2).mono ?_
            rw [← HE.out]
            rintro e w5 ⟨p3, c3, rfl, o3, x3⟩
            have O3 := Lib.hid o3
            have X3 := Lib.hid x3
            obtain ⟨ad, hp3⟩ : ∃ ad, p3 = some ad := by
              cases p3 with
              | none =>
                have h1 := o3.sl.nil rfl
                have h2 := o3.sl.le
                omega
              | some ad => exact ⟨ad, rfl⟩
            subst hp3
            clear o3 x3 hc
            go_wp2_with (at_builtin; refine wpList_appL rfl _ _ 35 rfl w.heap.size Try.underlying35 info5 p2 n2 c2 _ rfl (O2.out.ext X3.out) ad E.length c3 E rfl O3.out.sl hpos (by omega) (by have := hwi.out; have := X3.out.size; omega) ?_)
            intro p5 c5 w7 o5 g5 l5
            have O5 := Lib.hid o5
            have G5 := Lib.hid (G2.out.step' X3.out g5 rfl l5)
            clear o5 g5 l5
            go_wp2
            go_roundw
            case rel => exact ⟨m + 1, _, p5, c5, by omega, by go_num, rfl, by rw [encs_take HX2.out, ← HE.out]; simpa using O5.out, G5.out⟩
            case measure => simp [intOf]; omega
          · have hme : [f1, f2, f3, f4, f5, f6].take m = [f1, f2, f3, f4, f5, f6] := List.take_of_length_le (by simp; omega)
            rw [hme] at O2
            clear hme
            have c6 : wi.cell? ⟨wo.heap.size, 6, none⟩ = some (.string dat) := G2.out.cell D6.out.c6 (fun e => by have := NE.out _ e.symm; simp at this)
            have hT : (txt dat.data.toList).length ≤ 100 := by
              have h3 := enB_len OK.out hds
              simp only [enB, List.length_append] at h3
              omega
            obtain ⟨T, hTT⟩ : ∃ T, T = txt dat.data.toList := ⟨_, rfl⟩
            rw [← hTT] at hT
            have HT := Lib.hid hTT
            clear hTT
            go_wp2_with fail
            refine (rputtext_any (by omega)).mono ?_
            rw [← HT.out]
            rintro e w5 ⟨p3, c3, rfl, o3, x3⟩
            have O3 := Lib.hid o3
            have X3 := Lib.hid x3
            clear o3 x3 c6
            go_wp2_with (at_builtin; refine wpList_app rfl _ _ 35 rfl w.heap.size Try.underlying35 info5 p2 n2 c2 _ rfl (O2.out.ext X3.out) p3 T.length c3 T rfl O3.out.sl (by omega) (by have := hwi.out; have := X3.out.size; omega) ?_)
            intro p5 c5 w7 o5 g5
            have X5 := Lib.hid (Ext.own ((Ext.gr X6.out O6.out G2.out).tr X3.out) (O2.out.ext X3.out) g5 rfl)
            have O5 : Hid (OwP w7 w.heap.size p5 (n2 + T.length) c5 (((L.take (k + 1)).map enB).flatten)) := Lib.hid (by
              rw [enAll_take HX.out, enB, ← List.append_assoc]
              rw [← HT.out]
              simpa [nums] using o5)
            have hb : n2 + T.length ≤ 100 * (k + 1) := by
              have h1 := O5.out.len
              rw [enAll_take HX.out, List.length_append] at h1
              have h2 := O4.out.len
              have h3 := enB_len OK.out hds
              omega
            clear o5 g5
            go_wp2
            go_roundw
            case rel => exact ⟨k + 1, _, p5, c5, by omega, by go_num, rfl, hb, O5.out, may_take HX.out M.out HMY.out, X5.out⟩
            case measure => simp [intOf]; omega
    · have hkn : L.take k = L := List.take_of_length_le (by rw [N.out]; omega)
      rw [hkn] at O M
      have hRn : R = (L.map enB).flatten := by rw [HR.out]; unfold encAll; rw [if_pos M.out]
      rw [← hRn] at O
      have hlen : nn = R.length := O.out.len.symm
      subst hlen
      clear hkn hRn
      go_wp2
      go_ret
      exact ⟨p', cap', rfl, O.out, X.out⟩
end Go.Proofs.Ytgplmbchlahbkaa
