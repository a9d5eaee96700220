/-
  The statement NetFull: curfewlaw18.NetFull answers true. Conditions: the bounds of the arguments, a parameter of walk_NetFull each.
-/
import Derived.Test.YtgplmbchlahbkaaNet7
namespace Go.Proofs.Ytgplmbchlahbkaa
open Go Go.Sort Go.RowKit
set_option linter.unusedVariables false

theorem infoM : (Try.prog.info? 31).map (fun i => (i.zero, i.size, i.bytes)) = some (some (.agg (msA zeroM none 0 0)), 13, 120) := by kernel_rfl
theorem may_ping {fr tt nm : Int} (h1 : 1 ≤ fr ∧ fr ≤ 7) (h2 : 1 ≤ tt ∧ tt ≤ 7) (h3 : fr ≠ tt) (h4 : 0 ≤ nm ∧ nm ≤ 1099511627776) : mayM (pingD fr tt nm) [] = true := by
  rw [mayM_iff]
  refine ⟨(who_iff _).2 ?_, (what_iff _).2 ?_, by simp, by simp⟩
  · simp only [pingD]
    omega
  · simp only [pingD]
    omega
theorem one13 {m : MsD} {p : Option Addr} {n cap : Nat} : ∀ r ∈ [msL m p n cap], ∀ u ∈ r, u.oneCell' = true := by simp [Value.oneCell']
theorem stepK_len (l : List (Int × List UInt8)) (x : MsgD) (h : mayM x.m x.L = true) : (stepK l x).length = if l.length < 400 then l.length + 1 else l.length := by
  unfold stepK
  rw [h]
  by_cases hl : l.length < 400 <;> simp [hl]
theorem sendK_len (x : MsgD) (h : mayM x.m x.L = true) : ∀ (r : Nat) (l : List (Int × List UInt8)), l.length ≤ 400 → (sendK l (List.replicate r x)).length = min 400 (l.length + r)
  | 0, l, hl => by simp [sendK]; omega
  | r + 1, l, hl => by
    have e : sendK l (List.replicate (r + 1) x) = sendK (stepK l x) (List.replicate r x) := by simp [sendK, List.replicate_succ]
    have hs := stepK_len l x h
    rw [e, sendK_len x h r _ (by rw [hs]; split <;> omega), hs]
    split <;> omega
/-- One message is sent. -/
theorem nsend_one {w : World} {g cap : Nat} {p : Option Addr} {ds : List MailD} (h : NetV w g p cap ds) {q : Option Addr} {c : Nat} {x : MsgD}
    (hq : SlS 13 w q 1 c [msgL x]) (hx : MsgOk w x) (s1 : Sep g p q) (s2 : Sep g p x.p) :
    Calls Try.prog 18 #[.pointer (some ⟨g, 0, none⟩), .slice q 1 c] w fun e w' => ∃ p' cap' ds', e = .returned (.int .i64 (if mayM x.m x.L && decide (ds.length < 400) then 1 else 0)) ∧ NetV w' g p' cap' ds' ∧ ds'.map mkD = stepK (ds.map mkD) x ∧ Mv w w' g p ∧ Fr w p p' := by
  refine (nsend_any h (xs := [x]) hq (fun y hy => by simp at hy; subst hy; exact hx) s1 (fun y hy => by simp at hy; subst hy; exact s2)).mono ?_
  rintro e w' ⟨p', cap', ds', rfl, hn, hk, hm, hf⟩
  refine ⟨p', cap', ds', ?_, hn, hk, hm, hf⟩
  have hl := congrArg List.length hk
  simp only [List.length_map] at hl
  rw [hl]
  simp only [sendK, List.foldl, stepK, List.length_map]
  split
  · simp
    omega
  · simp

set_option maxRecDepth 8000 in
set_option maxHeartbeats 8000000 in
theorem walk_NetFull {k more : Int} {w : World} (hk : I64 k) (hmore : I64 more) :
    Calls Try.prog 4 #[.int .i64 k, .int .i64 more] w fun e w' => e = .returned (.bool true) ∧ Below w.heap.size w w' := by
  clear hk hmore
  by_cases c1 : k < 0
  · go_enter Try.func4, Try.ntmps4
    go_wp2_with fail
    refine (begun18 w).mono ?_
    rintro e w1 ⟨rfl, x1⟩
    have X := Lib.hid x1
    clear x1
    go_wp2
    go_ret
    exact ⟨rfl, X.out⟩
  by_cases c2 : 430 < k
  · go_enter Try.func4, Try.ntmps4
    go_wp2_with fail
    refine (begun18 w).mono ?_
    rintro e w1 ⟨rfl, x1⟩
    have X := Lib.hid x1
    clear x1
    go_wp2
    go_ret
    exact ⟨rfl, X.out⟩
  by_cases c3 : more < 0
  · go_enter Try.func4, Try.ntmps4
    go_wp2_with fail
    refine (begun18 w).mono ?_
    rintro e w1 ⟨rfl, x1⟩
    have X := Lib.hid x1
    clear x1
    go_wp2
    go_ret
    exact ⟨rfl, X.out⟩
  by_cases c4 : 10 < more
  · go_enter Try.func4, Try.ntmps4
    go_wp2_with fail
    refine (begun18 w).mono ?_
    rintro e w1 ⟨rfl, x1⟩
    have X := Lib.hid x1
    clear x1
    go_wp2
    go_ret
    exact ⟨rfl, X.out⟩
  obtain ⟨K, rfl⟩ : ∃ K : Nat, k = (K : Int) := ⟨k.toNat, by omega⟩
  obtain ⟨R, rfl⟩ : ∃ R : Nat, more = (R : Int) := ⟨more.toNat, by omega⟩
  have hK : K ≤ 430 := by omega
  have hR : R ≤ 10 := by omega
  obtain ⟨i0, hi0, hz0, hz1, hz2⟩ := info_parts infoM
  have HI0 := Lib.hid hi0
  clear hi0
  go_enter Try.func4, Try.ntmps4
  go_wp2_with fail
  refine (begun18 w).mono ?_
  rintro e w1 ⟨rfl, x1⟩
  have X := Lib.hid x1
  clear x1
  go_wp2_with fail
  have HG : Hid (w.heap.size ≤ w1.heap.size) := Lib.hid X.out.size
  refine (nnew_any w1).mono ?_
  rintro e w2 ⟨rfl, n2, x2⟩
  have N := Lib.hid n2
  replace X := Lib.hid (X.out.tr x2)
  clear n2 x2
  go_wp2_with fail
  generalize w1.heap.size = g at *
  go_loopw [7] (fun i wr => ∃ (j : Nat) (p' : Option Addr) (cap' : Nat) (ds' : List MailD), j ≤ K ∧ i = .int .i64 (j : Int) ∧ NetV wr g p' cap' ds' ∧ ds'.length = min j 400 ∧ Ext w wr) (fun i _ => K - (intOf i).toNat)
  case atStart => exact ⟨0, none, 0, [], by omega, rfl, N.out, by simp, X.out⟩
  case round =>
    obtain ⟨j, p', cap', ds', hj, rfl, hn, hl, hx⟩ := hrel
    have NN := Lib.hid hn
    have HL := Lib.hid hl
    have XX := Lib.hid hx
    clear hn hl hx
    by_cases hlt : j < K
    · have hlt' : (j : Int) < (K : Int) := by omega
      have MAY : Hid (mayM (pingD 1 2 (j : Int)) [] = true) := Lib.hid (may_ping (by omega) (by omega) (by decide) (by omega))
      have POK : Hid (MsOk (pingD 1 2 (j : Int))) := Lib.hid (ping_ok ⟨by decide, by decide⟩ ⟨by decide, by decide⟩ ⟨by omega, by omega⟩)
      have A2 := Lib.hid (Ext.alloc wr (.cells (msA (pingD 1 2 (j : Int)) none 0 0) 31))
      have Q3 : Hid (SlS 13 (wr.alloc (.cells (msA (pingD 1 2 (j : Int)) none 0 0) 31)) (some ⟨wr.heap.size, 0, none⟩) 1 1 [msgL ⟨(pingD 1 2 (j : Int)), none, 0, []⟩]) := Lib.hid (SlS.lit wr 1 _ _ _ rfl (by simp) rfl (by decide))
      have T := nsend_one (NN.out.ext A2.out) Q3.out (msg_nil POK.out) (sep_new (w := wr) NN.out.box.hi (fun i hi => (NN.out.row.lt i hi).2) (Nat.le_refl _)) (sep_none _ _)
      rw [MAY.out, HL.out] at T
      by_cases h4 : j < 400
      · rw [show (if (true && decide (min j 400 < 400)) = true then (1 : Int) else 0) = 1 by rw [if_pos]; simp; omega] at T
        have hge : decide ((400 : Int) ≤ (j : Int)) = false := by simp; omega
        go_wp2_with fail
        refine T.mono ?_
        rintro e w4 ⟨p4, c4, ds4, rfl, n4, k4, m4, -⟩
        have N4 := Lib.hid n4
        have K4 : Hid (ds4.length = min (j + 1) 400) := Lib.hid (by
          have := congrArg List.length k4
          rw [stepK_len _ _ MAY.out, List.length_map, List.length_map, HL.out] at this
          rw [this]
          split <;> omega)
        have X4 : Hid (Ext w w4) := Lib.hid (Below.trans (XX.out.tr A2.out) (m4.below (XX.out.tr A2.out).size HG.out (fun i hi => by have := NN.out.plt i hi; have := HG.out; omega)))
        clear T n4 k4 m4 A2 Q3 MAY POK
        go_wp2
        go_roundw
        case rel => exact ⟨j + 1, p4, c4, ds4, by omega, by go_num, N4.out, K4.out, X4.out⟩
        case measure => simp [intOf]; omega
      · rw [show (if (true && decide (min j 400 < 400)) = true then (1 : Int) else 0) = 0 by rw [if_neg]; simp; omega] at T
        have hge : decide ((400 : Int) ≤ (j : Int)) = true := by simp; omega
        go_wp2_with fail
        refine T.mono ?_
        rintro e w4 ⟨p4, c4, ds4, rfl, n4, k4, m4, -⟩
        have N4 := Lib.hid n4
        have K4 : Hid (ds4.length = min (j + 1) 400) := Lib.hid (by
          have := congrArg List.length k4
          rw [stepK_len _ _ MAY.out, List.length_map, List.length_map, HL.out] at this
          rw [this]
          split <;> omega)
        have X4 : Hid (Ext w w4) := Lib.hid (Below.trans (XX.out.tr A2.out) (m4.below (XX.out.tr A2.out).size HG.out (fun i hi => by have := NN.out.plt i hi; have := HG.out; omega)))
        clear T n4 k4 m4 A2 Q3 MAY POK
        go_wp2
        go_roundw
        case rel => exact ⟨j + 1, p4, c4, ds4, by omega, by go_num, N4.out, K4.out, X4.out⟩
        case measure => simp [intOf]; omega
    · obtain rfl : j = K := by omega
      obtain ⟨wA, hwA⟩ : ∃ x, x = wr := ⟨_, rfl⟩
      subst hwA
      have hmin : min j 400 ≤ 400 := by omega
      have HW : Hid (g < wA.heap.size) := Lib.hid NN.out.box.hi
      have HPW : Hid (∀ i, p'.map (·.block) = some i → i < wA.heap.size) := Lib.hid (fun i hi => (NN.out.row.lt i hi).2)
      go_wp2_with fail
      go_loopw [9, 10] (fun s i wr => ∃ (t : Nat) (q : Option Addr) (c : Nat), t ≤ R ∧ i = .int .i64 (t : Int) ∧ s = .slice q t c ∧ OwS 31 13 wr wA.heap.size q t c (List.replicate t (msgL ⟨(pingD 2 3 0), none, 0, []⟩)) ∧ Ext wA wr) (fun _ i _ => R - (intOf i).toNat)
      case atStart => exact ⟨0, none, 0, by omega, rfl, rfl, OwS.nil _ _ _ _, Ext.rfl' _⟩
      case round =>
        obtain ⟨t, q, c, ht, rfl, rfl, ho, hx⟩ := hrel
        have O := Lib.hid ho
        have XR := Lib.hid hx
        clear ho hx
        by_cases htl : t < R
        · have htl' : (t : Int) < (R : Int) := by omega
          have A2 := Lib.hid (Ext.alloc wr (.cells (msA (pingD 2 3 0) none 0 0) 31))
          have SR : Hid (SlS 13 (wr.alloc (.cells (msA (pingD 2 3 0) none 0 0) 31)) (some ⟨wr.heap.size, 0, none⟩) 1 1 [msgL ⟨(pingD 2 3 0), none, 0, []⟩]) := Lib.hid (SlS.lit wr 1 _ _ _ rfl (by simp) rfl (by decide))
          have hb : wA.heap.size ≤ (wr.alloc (.cells (msA (pingD 2 3 0) none 0 0) 31)).heap.size := (XR.out.tr A2.out).size
          go_wp2_with (at_builtin; refine wpList_appS rfl _ _ 26 rfl wA.heap.size Try.underlying26 i0 _ 120 HI0.out hz0 hz1 hz2 rfl (by decide) q t c _ rfl (O.out.ext A2.out) (some ⟨wr.heap.size, 0, none⟩) 1 1 _ rfl SR.out one13 (by omega) (by omega) hb ?_)
          intro p3 c3 w3 o3 g3
          have O3 := Lib.hid o3
          have X3 := Lib.hid (Below.grown (XR.out.tr A2.out) g3 (XR.out.tr A2.out).size (fun b hb => O.out.lt _ hb |>.1))
          clear o3 g3 A2 SR hb
          go_wp2
          go_roundw
          case rel => exact ⟨t + 1, p3, c3, by omega, by go_num, rfl, by rw [List.replicate_succ']; exact O3.out, X3.out⟩
          case measure => simp [intOf]; omega
        · obtain rfl : t = R := by omega
          have QL := O.out.sl
          have HQ := Lib.hid QL
          clear QL
          obtain ⟨D, hD⟩ : ∃ D, D = min 400 (min j 400 + t) := ⟨_, rfl⟩
          have T := nsend_any (NN.out.ext XR.out) (xs := List.replicate t ⟨(pingD 2 3 0), none, 0, []⟩) (by rw [List.map_replicate]; exact HQ.out) (fun x hx => by
            rw [List.eq_of_mem_replicate hx]
            exact msg_nil (ping_ok ⟨by decide, by decide⟩ ⟨by decide, by decide⟩ ⟨by decide, by decide⟩)) ⟨fun e => by have := (O.out.lt _ e).1; have := HW.out; omega, fun i hi e => by have := (O.out.lt _ e).1; have := HPW.out i hi; omega⟩ (fun x hx => by
            rw [List.eq_of_mem_replicate hx]
            exact sep_none _ _)
          obtain ⟨Z, hZ⟩ : ∃ Z : Int, Z = (D : Int) - ((min j 400 : Nat) : Int) := ⟨_, rfl⟩
          obtain ⟨M, hM⟩ : ∃ M : Nat, M = 400 - j := ⟨_, rfl⟩
          have T2 : Calls Try.prog 18 #[.pointer (some ⟨g, 0, none⟩), .slice q t c] wr fun e w' => ∃ q4 c4 ds9, e = .returned (.int .i64 Z) ∧ NetV w' g q4 c4 ds9 ∧ ds9.length = D ∧ Ext w w' := by
            refine T.mono ?_
            rintro e w4 ⟨p4, c4, ds4, rfl, n4, k4, m4, f4⟩
            have hl := congrArg List.length k4
            rw [sendK_len _ (may_ping (by decide) (by decide) (by decide) (by decide)) _ _ (by rw [List.length_map, HL.out]; exact hmin), List.length_map, List.length_map, HL.out, ← hD] at hl
            exact ⟨p4, c4, ds4, by rw [hl, HL.out, hZ], n4, hl, Below.trans (XX.out.tr XR.out) (m4.below (XX.out.tr XR.out).size HG.out (fun i hi => by have := NN.out.plt i hi; have := HG.out; omega))⟩
          have HFM : Hid (Z = (D : Int) - ((min j 400 : Nat) : Int) ∧ M = 400 - j ∧ D = min 400 (min j 400 + t)) := Lib.hid ⟨hZ, hM, hD⟩
          clear hZ hM hD T NN XX hmin HL
          go_wp2_with fail
          refine T2.mono ?_
          rintro e w5 ⟨q5, c5, ds5, rfl, n5, l5, x5⟩
          have N5 := Lib.hid n5
          have L5 := Lib.hid l5
          have X5 := Lib.hid x5
          clear n5 l5 x5 T2
          have e4 : wrap64 (400 - (j : Int)) = 400 - (j : Int) := by unfold wrap64; omega
          have e5 : wrap64 ((j : Int) + (t : Int)) = (j : Int) + (t : Int) := by unfold wrap64; omega
          have key : (j < 400 ∧ j + t < 400 ∧ Z = t ∧ D = j + t) ∨ (j < 400 ∧ j + t = 400 ∧ Z = t ∧ D = 400) ∨ (j < 400 ∧ 400 < j + t ∧ Z = 400 - (j : Int) ∧ D = 400) ∨ (400 ≤ j ∧ 0 < t ∧ Z = 0 ∧ D = 400) ∨ (400 ≤ j ∧ t = 0 ∧ Z = (t : Int) ∧ D = 400) := by
            obtain ⟨hZ, hM, hD⟩ := HFM.out
            omega
          clear HFM
          simp only []
          rcases key with ⟨a1, a2, rfl, rfl⟩ | ⟨a1, a2, rfl, rfl⟩ | ⟨a1, a2, rfl, rfl⟩ | ⟨a1, a2, rfl, rfl⟩ | ⟨a1, a2, rfl, rfl⟩
          · have b1 : (j : Int) < 400 := by omega
            have b0 : (0 : Int) < 400 - (j : Int) := by omega
            have b2 : ¬ (400 - (j : Int) < (t : Int)) := by omega
            have b3 : (j : Int) + (t : Int) < 400 := by omega
            clear hK hR hlt htl hj ht a1 a2
            go_wp2_with fail
            have T3 := nlen_any N5.out
            rw [L5.out] at T3
            refine T3.mono ?_
            rintro e w6 ⟨rfl, rfl⟩
            clear T3
            simp only []
            go_wp2
            go_ret
            exact ⟨by simp, X5.out⟩
          · have b1 : (j : Int) < 400 := by omega
            have b0 : (0 : Int) < 400 - (j : Int) := by omega
            have b2 : ¬ (400 - (j : Int) < (t : Int)) := by omega
            have b3 : ¬ ((j : Int) + (t : Int) < 400) := by omega
            clear hK hR hlt htl hj ht a1 a2
            go_wp2_with fail
            have T3 := nlen_any N5.out
            rw [L5.out] at T3
            refine T3.mono ?_
            rintro e w6 ⟨rfl, rfl⟩
            clear T3
            simp only []
            go_wp2
            go_ret
            exact ⟨by simp, X5.out⟩
          · have b1 : (j : Int) < 400 := by omega
            have b0 : (0 : Int) < 400 - (j : Int) := by omega
            have b2 : 400 - (j : Int) < (t : Int) := by omega
            have b3 : ¬ ((j : Int) + (t : Int) < 400) := by omega
            clear hK hR hlt htl hj ht a1 a2
            go_wp2_with fail
            have T3 := nlen_any N5.out
            rw [L5.out] at T3
            refine T3.mono ?_
            rintro e w6 ⟨rfl, rfl⟩
            clear T3
            simp only []
            go_wp2
            go_ret
            exact ⟨by simp, X5.out⟩
          · have b1 : ¬ (j : Int) < 400 := by omega
            have b0 : ¬ (0 : Int) < 400 - (j : Int) := by omega
            have b2 : (0 : Int) < (t : Int) := by omega
            have b3 : ¬ ((j : Int) + (t : Int) < 400) := by omega
            clear hK hR hlt htl hj ht a1 a2
            go_wp2_with fail
            have T3 := nlen_any N5.out
            rw [L5.out] at T3
            refine T3.mono ?_
            rintro e w6 ⟨rfl, rfl⟩
            clear T3
            simp only []
            go_wp2
            go_ret
            exact ⟨by simp, X5.out⟩
          · have b1 : ¬ (j : Int) < 400 := by omega
            have b0 : ¬ (0 : Int) < 400 - (j : Int) := by omega
            have b2 : ¬ (0 : Int) < (t : Int) := by omega
            have b3 : ¬ ((j : Int) + (t : Int) < 400) := by omega
            clear hK hR hlt htl hj ht a1 a2
            go_wp2_with fail
            have T3 := nlen_any N5.out
            rw [L5.out] at T3
            refine T3.mono ?_
            rintro e w6 ⟨rfl, rfl⟩
            clear T3
            simp only []
            go_wp2
            go_ret
            exact ⟨by simp, X5.out⟩
end Go.Proofs.Ytgplmbchlahbkaa
