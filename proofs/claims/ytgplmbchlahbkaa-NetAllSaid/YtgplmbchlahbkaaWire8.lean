/-
  Contracts of wire.Encode and of the reference's Bytes: at any messages. Conditions stand at each.
-/
import Derived.Test.YtgplmbchlahbkaaWire5
namespace Go.Proofs.Ytgplmbchlahbkaa
open Go Go.Sort Go.RowKit
set_option linter.unusedVariables false

theorem idx13 (m : MsD) (n k : Nat) (hk : k < 13) : ∃ x, (numsM m n)[k]? = some x ∧ ∀ w, (Instr.index 73 (.agg (numA m n)) (.int .i64 (k : Int))).run Try.prog w = .ok (.int .i64 x) w := by
  match k, hk with
  | 0, _ => exact ⟨_, rfl, fun _ => by kernel_rfl⟩
  | 1, _ => exact ⟨_, rfl, fun _ => by kernel_rfl⟩
  | 2, _ => exact ⟨_, rfl, fun _ => by kernel_rfl⟩
  | 3, _ => exact ⟨_, rfl, fun _ => by kernel_rfl⟩
  | 4, _ => exact ⟨_, rfl, fun _ => by kernel_rfl⟩
  | 5, _ => exact ⟨_, rfl, fun _ => by kernel_rfl⟩
  | 6, _ => exact ⟨_, rfl, fun _ => by kernel_rfl⟩
  | 7, _ => exact ⟨_, rfl, fun _ => by kernel_rfl⟩
  | 8, _ => exact ⟨_, rfl, fun _ => by kernel_rfl⟩
  | 9, _ => exact ⟨_, rfl, fun _ => by kernel_rfl⟩
  | 10, _ => exact ⟨_, rfl, fun _ => by kernel_rfl⟩
  | 11, _ => exact ⟨_, rfl, fun _ => by kernel_rfl⟩
  | 12, _ => exact ⟨_, rfl, fun _ => by kernel_rfl⟩

set_option maxRecDepth 8000 in
set_option maxHeartbeats 8000000 in
/-- wire.Encode -/
theorem wencode_any {w : World} {m : MsD} {p : Option Addr} {n cap : Nat} {L : List EnD} (hm : MsOk m) (h : SlS 7 w p n cap (L.map enL)) (hL : ∀ e ∈ L, EnOk e) :
    Calls Try.prog 29 #[msV m p n cap] w fun e w' => ∃ p' cap', e = .returned (.slice p' (encM m L).length cap') ∧ OwP w' w.heap.size p' (encM m L).length cap' (encM m L) ∧ (p' = none ↔ mayM m L = false) ∧ Ext w w' := by
  have N := Lib.hid (en_len h)
  have HL := Lib.hid hL
  have OK := Lib.hid hm
  have D := Lib.hid (BoxV.new w w.heap.size (msA m p n cap) (msL m p n cap) 31 _ rfl (Nat.le_refl _) rfl)
  have X := Lib.hid (Ext.alloc w (.cells (msA m p n cap) 31))
  have S := Lib.hid (h.ext (Ext.alloc w (.cells (msA m p n cap) 31)))
  have WS := Lib.hid (Nat.le_refl w.heap.size)
  obtain ⟨B, hB⟩ : ∃ B, B = mayM m L := ⟨_, rfl⟩
  obtain ⟨R, hR⟩ : ∃ R, R = encM m L := ⟨_, rfl⟩
  rw [← hR]
  have HB := Lib.hid hB
  have HR := Lib.hid hR
  clear h hL hm hB hR
  have c0 := D.out.c 0 _ rfl
  have c1 := D.out.c 1 _ rfl
  have c2 := D.out.c 2 _ rfl
  have c3 := D.out.c 3 _ rfl
  have c4 := D.out.c 4 _ rfl
  have c5 := D.out.c 5 _ rfl
  have c6 := D.out.c 6 _ rfl
  have c7 := D.out.c 7 _ rfl
  have c8 := D.out.c 8 _ rfl
  have c9 := D.out.c 9 _ rfl
  have c10 := D.out.c 10 _ rfl
  have c11 := D.out.c 11 _ rfl
  have c12 := D.out.c 12 _ rfl
  try simp only at c0 c1 c2 c3 c4 c5 c6 c7 c8 c9 c10 c11 c12
  go_enter Try.func29, Try.ntmps29
  go_wp2_with fail
  refine (wmay_any OK.out S.out HL.out).mono ?_
  rw [← HB.out]
  rintro e w2 ⟨rfl, x2⟩
  replace X := Lib.hid (X.out.tr x2)
  replace D := Lib.hid (D.out.ext x2)
  replace S := Lib.hid (S.out.ext x2)
  clear x2
  clear c0 c1 c2 c3 c4 c5 c6 c7 c8 c9 c10 c11 c12
  cases B
  · have hRn : R = [] := by rw [HR.out]; exact encM_no HB.out.symm
    subst hRn
    go_wp2
    go_ret
    exact ⟨none, 0, rfl, OwP.nil _ _, ⟨fun _ => HB.out.symm, fun _ => rfl⟩, X.out⟩
  · have HM := Lib.hid (mayM_iff.1 HB.out.symm)
    have hn60 : n ≤ 60 := by rw [← N.out]; exact HM.out.2.2.1
    have HE := Lib.hid (encAll_len86 HL.out HM.out.2.2.2)
    obtain ⟨Z, hZ⟩ : ∃ Z, Z = numsM m n := ⟨_, rfl⟩
    have hz13 : Z.length = 13 := by rw [hZ]; rfl
    have HRB : Hid (R = sealL (encs Z ++ encAll L)) := Lib.hid (by rw [HR.out, hZ, ← N.out]; unfold encM bodyM; rw [if_pos HB.out.symm])
    have ZI : Hid (∀ x ∈ Z, I64 x) := Lib.hid (by rw [hZ]; exact numsM_ok OK.out (by omega))
    have HZ := Lib.hid hZ
    clear hZ
    obtain ⟨E, hE⟩ : ∃ E, E = encAll L := ⟨_, rfl⟩
    have hE60 : E.length ≤ 5160 := by rw [hE]; have := HE.out; rw [N.out] at this; omega
    rw [← hE] at HRB
    have HEE := Lib.hid hE
    clear hE
    have c0 := D.out.c 0 _ rfl
    have c1 := D.out.c 1 _ rfl
    have c2 := D.out.c 2 _ rfl
    have c3 := D.out.c 3 _ rfl
    have c4 := D.out.c 4 _ rfl
    have c5 := D.out.c 5 _ rfl
    have c6 := D.out.c 6 _ rfl
    have c7 := D.out.c 7 _ rfl
    have c8 := D.out.c 8 _ rfl
    have c9 := D.out.c 9 _ rfl
    have c10 := D.out.c 10 _ rfl
    have c11 := D.out.c 11 _ rfl
    have c12 := D.out.c 12 _ rfl
    try simp only at c0 c1 c2 c3 c4 c5 c6 c7 c8 c9 c10 c11 c12
    go_wp2_with fail
    refine (numbers_any (m := m) (p := p) (n := n) (cap := cap)).mono ?_
    rintro e w3 ⟨rfl, x3⟩
    replace X := Lib.hid (X.out.tr x3)
    replace D := Lib.hid (D.out.ext x3)
    replace S := Lib.hid (S.out.ext x3)
    clear x3
    clear c0 c1 c2 c3 c4 c5 c6 c7 c8 c9 c10 c11 c12
    go_wp2
    go_loopw [3, 11] (fun v i wr => ∃ (k nn : Nat) (p' : Option Addr) (cap' : Nat), k ≤ 13 ∧ i = .int .i64 (k : Int) ∧ v = .slice p' nn cap' ∧ nn ≤ 10 * k ∧ OwP wr w3.heap.size p' nn cap' (encs (Z.take k)) ∧ Ext w3 wr) (fun _ i _ => 13 - (intOf i).toNat)
    case atStart => exact ⟨0, 0, none, 0, by omega, rfl, rfl, by omega, OwP.nil _ _, Ext.rfl' _⟩
    case round =>
      obtain ⟨k, nn, p', cap', hk, rfl, rfl, hnn, ho, x1⟩ := hrel
      have O := Lib.hid ho
      have XR := Lib.hid x1
      clear ho x1
      by_cases hlt : k < 13
      · obtain ⟨x, hx, hix⟩ := idx13 m n k hlt
        rw [← HZ.out] at hx
        have IX := Lib.hid (ZI.out x (List.mem_of_getElem? hx))
        have HX := Lib.hid (encs_take hx)
        have hten := enc_len10 IX.out
        obtain ⟨F, hF⟩ : ∃ F, F = enc (zig x) := ⟨_, rfl⟩
        rw [← hF] at hten HX
        have HF := Lib.hid hF
        clear hx hF
        go_wp2_with fail
        refine (put_any O.out XR.out.size (by omega) IX.out.1 IX.out.2).mono ?_
        rw [← HF.out]
        rintro e w4 ⟨p4, c4, rfl, o4, x4⟩
        have O4 := Lib.hid o4
        have X4 : Hid (Ext w3 w4) := Lib.hid (Below.trans XR.out x4)
        clear o4 x4 hix
        go_wp2
        go_roundw
        case rel => exact ⟨k + 1, _, p4, c4, by omega, by go_num, rfl, by omega, by rw [HX.out]; exact O4.out, X4.out⟩
        case measure => simp [intOf]; omega
      · have hzl : Z.take k = Z := List.take_of_length_le (by omega)
        rw [hzl] at O
        clear hzl
        have D5 := Lib.hid (D.out.ext XR.out)
        have c8 := D5.out.c 8 _ rfl
        try simp only at c8
        go_wp2_with fail
        refine (encode_any (S.out.ext XR.out) HL.out (by omega)).mono ?_
        rw [← HEE.out]
        rintro e w5 ⟨p5, c5, rfl, o5, x5⟩
        have O5 := Lib.hid o5.sl
        have X5 := Lib.hid x5
        have XR5 := Lib.hid (XR.out.tr x5)
        clear o5 x5
        go_wp2_with (at_builtin; refine wpList_app rfl _ _ 35 rfl w3.heap.size Try.underlying35 info5 p' nn cap' _ rfl (O.out.ext X5.out) p5 E.length c5 E rfl O5.out (by omega) XR5.out.size ?_)
        intro p6 c6 w6 o6 g6
        have X6 := Lib.hid (Ext.own XR5.out (O.out.ext X5.out) g6 rfl)
        have O6 := Lib.hid o6.sl
        clear o6 g6
        go_wp2_with fail
        refine (seal_any O6.out (by omega)).mono ?_
        rintro e w7 ⟨p7, c7, rfl, o7, x7⟩
        rw [← HRB.out] at o7
        have hlen : nn + E.length + 4 = R.length := o7.len.symm
        rw [hlen] at o7 ⊢
        have O7 := Lib.hid o7
        have X7 := Lib.hid (X.out.tr (X6.out.tr x7))
        have OS := Lib.hid (Nat.le_trans (X.out.tr X6.out).size (Nat.le_refl _))
        clear o7 x7
        go_wp2
        go_ret
        exact ⟨p7, c7, rfl, O7.out.mono OS.out, ⟨(fun hp => by
            have h1 := O7.out.sl.nil hp
            have h2 := O7.out.sl.le
            omega), fun hb => by rw [← HB.out] at hb; cases hb⟩, X7.out⟩

set_option maxRecDepth 8000 in
set_option maxHeartbeats 8000000 in
/-- The reference's Bytes. -/
theorem rbytesm_any {w : World} {m : MsD} {p : Option Addr} {n cap : Nat} {L : List EnD} (hm : MsOk m) (h : SlS 7 w p n cap (L.map enL)) (hL : ∀ e ∈ L, EnOk e) :
    Calls Try.prog 21 #[msV m p n cap] w fun e w' => ∃ p' cap', e = .returned (.slice p' (encM m L).length cap') ∧ OwP w' w.heap.size p' (encM m L).length cap' (encM m L) ∧ Ext w w' := by
  have N := Lib.hid (en_len h)
  have HL := Lib.hid hL
  have OK := Lib.hid hm
  have D := Lib.hid (BoxV.new w w.heap.size (msA m p n cap) (msL m p n cap) 31 _ rfl (Nat.le_refl _) rfl)
  have X := Lib.hid (Ext.alloc w (.cells (msA m p n cap) 31))
  have S := Lib.hid (h.ext (Ext.alloc w (.cells (msA m p n cap) 31)))
  have WS := Lib.hid (Nat.le_refl w.heap.size)
  obtain ⟨B, hB⟩ : ∃ B, B = mayM m L := ⟨_, rfl⟩
  obtain ⟨R, hR⟩ : ∃ R, R = encM m L := ⟨_, rfl⟩
  rw [← hR]
  have HB := Lib.hid hB
  have HR := Lib.hid hR
  clear h hL hm hB hR
  have c0 := D.out.c 0 _ rfl
  have c1 := D.out.c 1 _ rfl
  have c2 := D.out.c 2 _ rfl
  have c3 := D.out.c 3 _ rfl
  have c4 := D.out.c 4 _ rfl
  have c5 := D.out.c 5 _ rfl
  have c6 := D.out.c 6 _ rfl
  have c7 := D.out.c 7 _ rfl
  have c8 := D.out.c 8 _ rfl
  have c9 := D.out.c 9 _ rfl
  have c10 := D.out.c 10 _ rfl
  have c11 := D.out.c 11 _ rfl
  have c12 := D.out.c 12 _ rfl
  try simp only at c0 c1 c2 c3 c4 c5 c6 c7 c8 c9 c10 c11 c12
  go_enter Try.func21, Try.ntmps21
  go_wp2_with fail
  refine (rmaym_any S.out HL.out).mono ?_
  rw [← HB.out]
  rintro e w2 ⟨rfl, x2⟩
  replace X := Lib.hid (X.out.tr x2)
  replace D := Lib.hid (D.out.ext x2)
  replace S := Lib.hid (S.out.ext x2)
  clear x2
  clear c0 c1 c2 c3 c4 c5 c6 c7 c8 c9 c10 c11 c12
  cases B
  · have hRn : R = [] := by rw [HR.out]; exact encM_no HB.out.symm
    subst hRn
    go_wp2
    go_ret
    exact ⟨none, 0, rfl, OwP.nil _ _, X.out⟩
  · have HM := Lib.hid (mayM_iff.1 HB.out.symm)
    have hn60 : n ≤ 60 := by rw [← N.out]; exact HM.out.2.2.1
    have HE := Lib.hid (encAll_len86 HL.out HM.out.2.2.2)
    obtain ⟨Z, hZ⟩ : ∃ Z, Z = numsM m n := ⟨_, rfl⟩
    have hz13 : Z.length = 13 := by rw [hZ]; rfl
    have HRB : Hid (R = sealL (encs Z ++ encAll L)) := Lib.hid (by rw [HR.out, hZ, ← N.out]; unfold encM bodyM; rw [if_pos HB.out.symm])
    have ZI : Hid (∀ x ∈ Z, I64 x) := Lib.hid (by rw [hZ]; exact numsM_ok OK.out (by omega))
    have HZ := Lib.hid hZ
    clear hZ
    obtain ⟨E, hE⟩ : ∃ E, E = encAll L := ⟨_, rfl⟩
    have hE60 : E.length ≤ 5160 := by rw [hE]; have := HE.out; rw [N.out] at this; omega
    rw [← hE] at HRB
    have HEE := Lib.hid hE
    clear hE
    cases hq : m.ye
    · have hye : yeI m = 0 := by unfold yeI; rw [hq]; rfl
      have c0 := D.out.c 0 _ rfl
      have c1 := D.out.c 1 _ rfl
      have c2 := D.out.c 2 _ rfl
      have c3 := D.out.c 3 _ rfl
      have c4 := D.out.c 4 _ rfl
      have c5 := D.out.c 5 _ rfl
      have c6 := D.out.c 6 _ rfl
      have c7 := D.out.c 7 _ rfl
      have c8 := D.out.c 8 _ rfl
      have c9 := D.out.c 9 _ rfl
      have c10 := D.out.c 10 _ rfl
      have c11 := D.out.c 11 _ rfl
      have c12 := D.out.c 12 _ rfl
      try simp only at c0 c1 c2 c3 c4 c5 c6 c7 c8 c9 c10 c11 c12
      rw [hq] at c12
      go_wp2
      have SZ : Hid (SlI .i64 (w2.alloc (.cells #[.int .i64 m.kd, .int .i64 m.fr, .int .i64 m.to, .int .i64 m.bt, .int .i64 m.vw, .int .i64 m.ls, .int .i64 m.mb, .int .i64 m.po, .int .i64 m.cm, .int .i64 m.nm, .int .i64 m.ck, .int .i64 0, .int .i64 (n : Int)] 2)) (some ⟨w2.heap.size, 0, none⟩) 13 13 Z) := Lib.hid (SlI.lit' 2 w2 _ 13 _ _ rfl hz13 (by rw [HZ.out]; unfold numsM; rw [hye]; rfl) (by omega) ZI.out)
      have A2 := Lib.hid (Ext.alloc w2 (.cells #[.int .i64 m.kd, .int .i64 m.fr, .int .i64 m.to, .int .i64 m.bt, .int .i64 m.vw, .int .i64 m.ls, .int .i64 m.mb, .int .i64 m.po, .int .i64 m.cm, .int .i64 m.nm, .int .i64 m.ck, .int .i64 0, .int .i64 (n : Int)] 2))
      generalize hw3 : w2.alloc (.cells #[.int .i64 m.kd, .int .i64 m.fr, .int .i64 m.to, .int .i64 m.bt, .int .i64 m.vw, .int .i64 m.ls, .int .i64 m.mb, .int .i64 m.po, .int .i64 m.cm, .int .i64 m.nm, .int .i64 m.ck, .int .i64 0, .int .i64 (n : Int)] 2) = w3 at *
      clear hw3 c0 c1 c2 c3 c4 c5 c6 c7 c8 c9 c10 c11 c12
      replace X := Lib.hid (X.out.tr A2.out)
      replace D := Lib.hid (D.out.ext A2.out)
      replace S := Lib.hid (S.out.ext A2.out)
      go_loopw [5, 6] (fun v i wr => ∃ (k nn : Nat) (p' : Option Addr) (cap' : Nat), k ≤ 13 ∧ i = .int .i64 (k : Int) ∧ v = .slice p' nn cap' ∧ nn ≤ 10 * k ∧ OwP wr w3.heap.size p' nn cap' (encs (Z.take k)) ∧ Ext w3 wr) (fun _ i _ => 13 - (intOf i).toNat)
      case atStart => exact ⟨0, 0, none, 0, by omega, rfl, rfl, by omega, OwP.nil _ _, Ext.rfl' _⟩
      case round =>
        obtain ⟨k, nn, p', cap', hk, rfl, rfl, hnn, ho, x1⟩ := hrel
        have O := Lib.hid ho
        have XR := Lib.hid x1
        clear ho x1
        by_cases hlt : k < 13
        · obtain ⟨b', o', x, hp, hx, hcell, hwf⟩ := (SZ.out.ext XR.out).at k hlt
          have hbo : b' = w2.heap.size ∧ o' = 0 := by simp at hp; exact ⟨hp.1.symm, hp.2.symm⟩
          obtain ⟨rfl, rfl⟩ := hbo
          rw [Nat.zero_add] at hcell
          have IX := Lib.hid (ZI.out x (List.mem_of_getElem? hx))
          have HX := Lib.hid (encs_take hx)
          have hten := enc_len10 IX.out
          obtain ⟨F, hF⟩ : ∃ F, F = enc (zig x) := ⟨_, rfl⟩
          rw [← hF] at hten HX
          have HF := Lib.hid hF
          clear hx hF hwf hp
          go_wp2_with fail
          refine (rput_any IX.out.1 IX.out.2).mono ?_
          rw [← HF.out]
          rintro e w4 ⟨p4, c4, rfl, o4, x4⟩
          have O4 := Lib.hid o4.sl
          have X4 := Lib.hid x4
          have XR4 := Lib.hid (XR.out.tr x4)
          clear o4 x4 hcell
          go_wp2_with (at_builtin; refine wpList_app rfl _ _ 35 rfl w3.heap.size Try.underlying35 info5 p' nn cap' _ rfl (O.out.ext X4.out) p4 F.length c4 F rfl O4.out (by omega) XR4.out.size ?_)
          intro p6 c6 w6 o6 g6
          have X6 := Lib.hid (Ext.own XR4.out (O.out.ext X4.out) g6 rfl)
          have O6 := Lib.hid o6
          clear o6 g6
          go_wp2
          go_roundw
          case rel => exact ⟨k + 1, _, p6, c6, by omega, by go_num, rfl, by omega, by rw [HX.out]; exact O6.out, X6.out⟩
          case measure => simp [intOf]; omega
        · have hzl : Z.take k = Z := List.take_of_length_le (by omega)
          rw [hzl] at O
          clear hzl
          have D5 := Lib.hid (D.out.ext XR.out)
          have c8 := D5.out.c 8 _ rfl
          try simp only at c8
          go_wp2_with fail
          refine (rentries_any (S.out.ext XR.out) HL.out (by omega)).mono ?_
          rw [← HEE.out]
          rintro e w5 ⟨p5, c5, rfl, o5, x5⟩
          have O5 := Lib.hid o5.sl
          have X5 := Lib.hid x5
          have XR5 := Lib.hid (XR.out.tr x5)
          clear o5 x5
          go_wp2_with (at_builtin; refine wpList_app rfl _ _ 35 rfl w3.heap.size Try.underlying35 info5 p' nn cap' _ rfl (O.out.ext X5.out) p5 E.length c5 E rfl O5.out (by omega) XR5.out.size ?_)
          intro p6 c6 w6 o6 g6
          have X6 := Lib.hid (Ext.own XR5.out (O.out.ext X5.out) g6 rfl)
          have O6 := Lib.hid o6.sl
          clear o6 g6
          go_wp2_with fail
          refine (rseal_any O6.out (by omega)).mono ?_
          rintro e w7 ⟨p7, c7, rfl, o7, x7⟩
          rw [← HRB.out] at o7
          have hlen : nn + E.length + 4 = R.length := o7.len.symm
          rw [hlen] at o7 ⊢
          have O7 := Lib.hid o7
          have X7 := Lib.hid (X.out.tr (X6.out.tr x7))
          have OS := Lib.hid (Nat.le_trans (X.out.tr X6.out).size (Nat.le_refl _))
          clear o7 x7
          go_wp2
          go_ret
          exact ⟨p7, c7, rfl, O7.out.mono OS.out, X7.out⟩
    · have hye : yeI m = 1 := by unfold yeI; rw [hq]; rfl
      have c0 := D.out.c 0 _ rfl
      have c1 := D.out.c 1 _ rfl
      have c2 := D.out.c 2 _ rfl
      have c3 := D.out.c 3 _ rfl
      have c4 := D.out.c 4 _ rfl
      have c5 := D.out.c 5 _ rfl
      have c6 := D.out.c 6 _ rfl
      have c7 := D.out.c 7 _ rfl
      have c8 := D.out.c 8 _ rfl
      have c9 := D.out.c 9 _ rfl
      have c10 := D.out.c 10 _ rfl
      have c11 := D.out.c 11 _ rfl
      have c12 := D.out.c 12 _ rfl
      try simp only at c0 c1 c2 c3 c4 c5 c6 c7 c8 c9 c10 c11 c12
      rw [hq] at c12
      go_wp2
      have SZ : Hid (SlI .i64 (w2.alloc (.cells #[.int .i64 m.kd, .int .i64 m.fr, .int .i64 m.to, .int .i64 m.bt, .int .i64 m.vw, .int .i64 m.ls, .int .i64 m.mb, .int .i64 m.po, .int .i64 m.cm, .int .i64 m.nm, .int .i64 m.ck, .int .i64 1, .int .i64 (n : Int)] 2)) (some ⟨w2.heap.size, 0, none⟩) 13 13 Z) := Lib.hid (SlI.lit' 2 w2 _ 13 _ _ rfl hz13 (by rw [HZ.out]; unfold numsM; rw [hye]; rfl) (by omega) ZI.out)
      have A2 := Lib.hid (Ext.alloc w2 (.cells #[.int .i64 m.kd, .int .i64 m.fr, .int .i64 m.to, .int .i64 m.bt, .int .i64 m.vw, .int .i64 m.ls, .int .i64 m.mb, .int .i64 m.po, .int .i64 m.cm, .int .i64 m.nm, .int .i64 m.ck, .int .i64 1, .int .i64 (n : Int)] 2))
      generalize hw3 : w2.alloc (.cells #[.int .i64 m.kd, .int .i64 m.fr, .int .i64 m.to, .int .i64 m.bt, .int .i64 m.vw, .int .i64 m.ls, .int .i64 m.mb, .int .i64 m.po, .int .i64 m.cm, .int .i64 m.nm, .int .i64 m.ck, .int .i64 1, .int .i64 (n : Int)] 2) = w3 at *
      clear hw3 c0 c1 c2 c3 c4 c5 c6 c7 c8 c9 c10 c11 c12
      replace X := Lib.hid (X.out.tr A2.out)
      replace D := Lib.hid (D.out.ext A2.out)
      replace S := Lib.hid (S.out.ext A2.out)
      go_loopw [5, 6] (fun v i wr => ∃ (k nn : Nat) (p' : Option Addr) (cap' : Nat), k ≤ 13 ∧ i = .int .i64 (k : Int) ∧ v = .slice p' nn cap' ∧ nn ≤ 10 * k ∧ OwP wr w3.heap.size p' nn cap' (encs (Z.take k)) ∧ Ext w3 wr) (fun _ i _ => 13 - (intOf i).toNat)
      case atStart => exact ⟨0, 0, none, 0, by omega, rfl, rfl, by omega, OwP.nil _ _, Ext.rfl' _⟩
      case round =>
        obtain ⟨k, nn, p', cap', hk, rfl, rfl, hnn, ho, x1⟩ := hrel
        have O := Lib.hid ho
        have XR := Lib.hid x1
        clear ho x1
        by_cases hlt : k < 13
        · obtain ⟨b', o', x, hp, hx, hcell, hwf⟩ := (SZ.out.ext XR.out).at k hlt
          have hbo : b' = w2.heap.size ∧ o' = 0 := by simp at hp; exact ⟨hp.1.symm, hp.2.symm⟩
          obtain ⟨rfl, rfl⟩ := hbo
          rw [Nat.zero_add] at hcell
          have IX := Lib.hid (ZI.out x (List.mem_of_getElem? hx))
          have HX := Lib.hid (encs_take hx)
          have hten := enc_len10 IX.out
          obtain ⟨F, hF⟩ : ∃ F, F = enc (zig x) := ⟨_, rfl⟩
          rw [← hF] at hten HX
          have HF := Lib.hid hF
          clear hx hF hwf hp
          go_wp2_with fail
          refine (rput_any IX.out.1 IX.out.2).mono ?_
          rw [← HF.out]
          rintro e w4 ⟨p4, c4, rfl, o4, x4⟩
          have O4 := Lib.hid o4.sl
          have X4 := Lib.hid x4
          have XR4 := Lib.hid (XR.out.tr x4)
          clear o4 x4 hcell
          go_wp2_with (at_builtin; refine wpList_app rfl _ _ 35 rfl w3.heap.size Try.underlying35 info5 p' nn cap' _ rfl (O.out.ext X4.out) p4 F.length c4 F rfl O4.out (by omega) XR4.out.size ?_)
          intro p6 c6 w6 o6 g6
          have X6 := Lib.hid (Ext.own XR4.out (O.out.ext X4.out) g6 rfl)
          have O6 := Lib.hid o6
          clear o6 g6
          go_wp2
          go_roundw
          case rel => exact ⟨k + 1, _, p6, c6, by omega, by go_num, rfl, by omega, by rw [HX.out]; exact O6.out, X6.out⟩
          case measure => simp [intOf]; omega
        · have hzl : Z.take k = Z := List.take_of_length_le (by omega)
          rw [hzl] at O
          clear hzl
          have D5 := Lib.hid (D.out.ext XR.out)
          have c8 := D5.out.c 8 _ rfl
          try simp only at c8
          go_wp2_with fail
          refine (rentries_any (S.out.ext XR.out) HL.out (by omega)).mono ?_
          rw [← HEE.out]
          rintro e w5 ⟨p5, c5, rfl, o5, x5⟩
          have O5 := Lib.hid o5.sl
          have X5 := Lib.hid x5
          have XR5 := Lib.hid (XR.out.tr x5)
          clear o5 x5
          go_wp2_with (at_builtin; refine wpList_app rfl _ _ 35 rfl w3.heap.size Try.underlying35 info5 p' nn cap' _ rfl (O.out.ext X5.out) p5 E.length c5 E rfl O5.out (by omega) XR5.out.size ?_)
          intro p6 c6 w6 o6 g6
          have X6 := Lib.hid (Ext.own XR5.out (O.out.ext X5.out) g6 rfl)
          have O6 := Lib.hid o6.sl
          clear o6 g6
          go_wp2_with fail
          refine (rseal_any O6.out (by omega)).mono ?_
          rintro e w7 ⟨p7, c7, rfl, o7, x7⟩
          rw [← HRB.out] at o7
          have hlen : nn + E.length + 4 = R.length := o7.len.symm
          rw [hlen] at o7 ⊢
          have O7 := Lib.hid o7
          have X7 := Lib.hid (X.out.tr (X6.out.tr x7))
          have OS := Lib.hid (Nat.le_trans (X.out.tr X6.out).size (Nat.le_refl _))
          clear o7 x7
          go_wp2
          go_ret
          exact ⟨p7, c7, rfl, O7.out.mono OS.out, X7.out⟩
end Go.Proofs.Ytgplmbchlahbkaa
