/-
  The walk of TopOldWord. Conditions stand at each.
-/
import Derived.Test.YtjhbmbbmjaabcaaGreatOw6
namespace Go.Proofs.YtjhbmbbmjaabcaaGreat
open Go Go.Sort Go.RowKit
set_option linter.unusedVariables false

def oldM (c : Nat) : Nat → LwD → Option LwD
  | 0, L => some L
  | k + 1, L => if decide (c < L.W.ns.length) then (stepM false c L).bind (oldM c k) else some L
def oldS (n c : Nat) (L : LwD) (r : Nat) : Option LwD := (stepR L).bind fun L2 => (foldO tickT (List.range' 1 n) L2).bind (oldM c 200)
def sendsL : Nat → LwD → Option LwD
  | 0, L => match L.W.ns with
    | [] => some L
    | _ :: _ => none
  | k + 1, L => match L.W.ns with
    | [] => some L
    | _ :: _ => (stepM false 0 L).bind (sendsL k)
def oldA (who k : Nat) (L : LwD) : Option LwD := (foldO (decC who) (List.range' 0 k) L).bind (stepT who)
def oldR (n who : Nat) (L : LwD) : Option LwD := (stepX who L).bind fun L3 => (stepS who L3).bind fun L4 => (foldO (oldS n L.W.ns.length) (List.range' 0 40) L4).bind fun L5 => (sendsL 1000 L5).bind (roundsL 40)
def oldE (n : Nat) (L : LwD) : Bool := oneT (fullT n) L && match onceL L with
  | some L1 => firmOneL L1 && (onceL L1).isSome
  | none => false
def oldB (n who k : Nat) : Bool := match (wellL n).bind (oldA who k) with
  | some L => (match oldR n who L with
    | some L' => oldE n L'
    | none => false)
  | none => false
theorem oldM_n {c : Nat} : ∀ (k : Nat) (L L' : LwD), oldM c k L = some L' → L'.n = L.n
  | 0, L, L', h => by cases h; rfl
  | k + 1, L, L', h => by
    unfold oldM at h
    split at h
    · obtain ⟨V, h1, h2⟩ := Option.bind_eq_some_iff.1 h
      exact (oldM_n k V L' h2).trans (stepM_n h1)
    · cases h
      rfl
theorem sendsL_n : ∀ (k : Nat) (L L' : LwD), sendsL k L = some L' → L'.n = L.n
  | 0, L, L', h => by
    unfold sendsL at h
    split at h
    · cases h; rfl
    · cases h
  | k + 1, L, L', h => by
    unfold sendsL at h
    split at h
    · cases h; rfl
    · obtain ⟨V, h1, h2⟩ := Option.bind_eq_some_iff.1 h
      exact (sendsL_n k V L' h2).trans (stepM_n h1)
theorem foldS_n {n c : Nat} : ∀ (l : List Nat) (L L' : LwD), foldO (oldS n c) l L = some L' → L'.n = L.n
  | [], L, L', h => by cases h; rfl
  | a :: l, L, L', h => by
    obtain ⟨V, h1, h2⟩ := foldO_cons h
    unfold oldS at h1
    obtain ⟨L2, h3, h4⟩ := Option.bind_eq_some_iff.1 h1
    obtain ⟨L3, h5, h6⟩ := Option.bind_eq_some_iff.1 h4
    exact (foldS_n l V L' h2).trans ((oldM_n _ _ _ h6).trans ((foldT_n _ _ _ h5).trans (stepR_n h3)))
theorem least {P : Nat → Prop} : ∀ f : Nat, P f → ∃ g, P g ∧ ∀ h, P h → g ≤ h := by
  intro f
  induction f using Nat.strongRecOn with
  | ind f ih =>
    intro hf
    by_cases hx : ∃ g, g < f ∧ P g
    · obtain ⟨g, h1, h2⟩ := hx
      exact ih g h1 h2
    · exact ⟨f, hf, fun h hp => by
        by_cases hl : h < f
        · exact absurd ⟨h, hl, hp⟩ hx
        · omega⟩
theorem least_is {P : Nat → Prop} {f : Nat} (h : P f) : P (Classical.epsilon fun g => P g ∧ ∀ h, P h → g ≤ h) ∧ ∀ h, P h → (Classical.epsilon fun g => P g ∧ ∀ h, P h → g ≤ h) ≤ h :=
  Classical.epsilon_spec (p := fun g => P g ∧ ∀ h, P h → g ≤ h) (least f h)
variable {w w4 : World} {o o4 : Ow} {tb lw : Nat} {A A' : LwA} {L L' : LwD}
set_option maxRecDepth 8000 in
set_option maxHeartbeats 8000000 in
theorem toldword_any (x y z : Int) (hall : ∀ n who k : Nat, 3 ≤ n → n ≤ 5 → 1 ≤ who → who ≤ n → 1 ≤ k → k < 4 → oldB n who k = true) (hb : begunB = true) (w : World) :
    Calls Tryz.prog 11 #[.int .i64 x, .int .i64 y, .int .i64 z] w fun e w' => e = .returned (.bool true) ∧ Below w.heap.size w w' := by
  obtain ⟨i0, hi0, hz0, hz1, hz2⟩ := info_parts' info_int
  have HI0 := Lib.hid hi0
  clear hi0
  obtain ⟨n, hn⟩ : ∃ n : Nat, 3 + smallI x 3 = (n : Int) := ⟨(3 + smallI x 3).toNat, by have := smallI_lt (x := x) (show (0 : Int) < 3 by decide); omega⟩
  obtain ⟨k, hk⟩ : ∃ k : Nat, 1 + smallI z 3 = (k : Int) := ⟨(1 + smallI z 3).toNat, by have := smallI_lt (x := z) (show (0 : Int) < 3 by decide); omega⟩
  have hn5 : 3 ≤ n ∧ n ≤ 5 := by have := smallI_lt (x := x) (show (0 : Int) < 3 by decide); omega
  have hk4 : 1 ≤ k ∧ k < 4 := by have := smallI_lt (x := z) (show (0 : Int) < 3 by decide); omega
  obtain ⟨u, hu⟩ : ∃ u : Nat, 1 + smallI y (n : Int) = (u : Int) := ⟨(1 + smallI y (n : Int)).toNat, by have := smallI_lt (x := y) (show (0 : Int) < (n : Int) by omega); omega⟩
  have hu5 : 1 ≤ u ∧ u ≤ n := by have := smallI_lt (x := y) (show (0 : Int) < (n : Int) by omega); omega
  have hr := hall n u k hn5.1 hn5.2 hu5.1 hu5.2 hk4.1 hk4.2
  unfold oldB at hr
  split at hr
  case h_2 => cases hr
  rename_i L2 hL2
  obtain ⟨L0, hL0, hLA⟩ := Option.bind_eq_some_iff.1 hL2
  unfold oldA at hLA
  obtain ⟨L1, hb1, hb2⟩ := Option.bind_eq_some_iff.1 hLA
  split at hr
  case h_2 => cases hr
  rename_i Lf hLf
  unfold oldR at hLf
  obtain ⟨L3, hb3, hb4⟩ := Option.bind_eq_some_iff.1 hLf
  obtain ⟨L4, hb5, hb6⟩ := Option.bind_eq_some_iff.1 hb4
  obtain ⟨L5, hb7, hb8⟩ := Option.bind_eq_some_iff.1 hb6
  obtain ⟨L6, hb9, hb10⟩ := Option.bind_eq_some_iff.1 hb8
  unfold oldE at hr
  rw [Bool.and_eq_true] at hr
  obtain ⟨hone, hr⟩ := hr
  split at hr
  case h_2 => cases hr
  rename_i L8 hL8
  rw [Bool.and_eq_true, Option.isSome_iff_exists] at hr
  obtain ⟨hfirm, L9, hL9⟩ := hr
  have HO := Lib.hid hone
  have HL8 := Lib.hid hL8
  have HFI := Lib.hid hfirm
  have HL9 := Lib.hid hL9
  have HL0 := Lib.hid hL0
  have HCS := Lib.hid hb1
  have HTI := Lib.hid hb2
  have HCR := Lib.hid hb3
  have HST := Lib.hid hb5
  have HRO := Lib.hid hb7
  have HSE := Lib.hid hb9
  have HR4 := Lib.hid hb10
  have BG := Lib.hid (tbegun_any (w := w) (o := fun _ => 0) (fun _ _ => rfl) hb)
  have SM3 := Lib.hid (fun w => small_any x 3 (by decide) w)
  have SM4 := Lib.hid (fun w => small_any z 3 (by decide) w)
  have SMN := Lib.hid (fun w => small_any y (n : Int) ⟨by omega, by omega⟩ w)
  have hs3 := smallI_lt (x := x) (show (0 : Int) < 3 by decide)
  have hs4 := smallI_lt (x := z) (show (0 : Int) < 3 by decide)
  have hsn := smallI_lt (x := y) (show (0 : Int) < (n : Int) by omega)
  obtain ⟨sx, hsx⟩ : ∃ sx, sx = smallI x 3 := ⟨_, rfl⟩
  rw [← hsx] at SM3 hn hs3
  obtain ⟨sz, hsz⟩ : ∃ sz, sz = smallI z 3 := ⟨_, rfl⟩
  rw [← hsz] at SM4 hk hs4
  obtain ⟨sy, hsy⟩ : ∃ sy, sy = smallI y (n : Int) := ⟨_, rfl⟩
  rw [← hsy] at SMN hu hsn
  have HNX := Lib.hid hn
  have HKX := Lib.hid hk
  have HUX := Lib.hid hu
  have HSN := Lib.hid hsn
  clear hLA hL2 hL0 hall hb hk hsx hsy hsz hn hu hb1 hb2 hb3 hb4 hb5 hb6 hb7 hb8 hb9 hb10 hLf hone hL8 hfirm hL9 hsn
  go_enter Tryz.func11, Tryz.ntmps11
  go_wp2_with fail
  refine BG.out.mono ?_
  rintro e w1 ⟨rfl, o1, m1⟩
  have M1 := Lib.hid (m1.mono lw_top)
  clear m1 BG
  go_wp2_with fail
  refine (SM3.out _).mono ?_
  rintro e w1' ⟨rfl, rfl⟩
  go_wp2_with fail
  refine (SM4.out _).mono ?_
  rintro e w1' ⟨rfl, rfl⟩
  clear SM3 SM4
  go_upto_region 5 with fail
  rw [HNX.out, HKX.out]
  clear HNX HKX hs3 hs4
  go_wp2_with fail
  refine (SMN.out _).mono ?_
  rintro e w1' ⟨rfl, rfl⟩
  clear SMN
  have hsn := HSN.out
  go_upto_region 6 with fail
  rw [HUX.out]
  clear HUX HSN hsn
  go_wp2_with fail
  refine (twell_any M1.out.cl ⟨hn5.1, by omega⟩ HL0.out).mono ?_
  rintro e w2 ⟨tb, lw, o2, A2, rfl, h2, m2⟩
  have H2 := Lib.hid h2
  have M2 := Lib.hid (M1.out.tr m2 top0)
  have HN0 := Lib.hid (wellL_n HL0.out)
  clear h2 m2 M1 HL0
  go_wp2
  go_loopw [9] (fun v wx => ∃ (r : Nat) (oa : Ow) (Aa : LwA) (La : LwD), r ≤ k ∧ v = .int .i64 (r : Int) ∧ TopV wx oa tb lw Aa La ∧ foldO (decC u) (List.range' r (k - r)) La = some L1 ∧ La.n = n ∧ Fm topC (fun _ => 0) oa w wx) (fun v _ => k - (intOf v).toNat)
  case atStart => exact ⟨0, o2, A2, L0, by omega, rfl, H2.out, HCS.out, HN0.out, M2.out⟩
  case round =>
    clear H2 M2 HCS HN0
    obtain ⟨r, oa, Aa, La, hr, rfl, hv, hf, hna, ma⟩ := hrel
    have HX := Lib.hid hv
    have HF := Lib.hid hf
    have HNA := Lib.hid hna
    have MX := Lib.hid ma
    clear hv hf hna ma
    by_cases hlt : r < k
    · have e5 : decide ((r : Int) < (k : Int)) = true := decide_eq_true (by omega)
      have e5n : decide (r < k) = true := decide_eq_true hlt
      have hq := HF.out
      rw [show k - r = (k - (r + 1)) + 1 by omega, List.range'_succ] at hq
      obtain ⟨Lb, hq1, hq2⟩ := foldO_cons hq
      have HREST := Lib.hid hq2
      have HCAST := Lib.hid hq1
      have HN1 : Hid (Lb.n = n) := Lib.hid ((stepC_n hq1).trans HNA.out)
      have HI5 : Hid (1 ≤ u ∧ u ≤ La.n) := Lib.hid (by rw [HNA.out]; exact hu5)
      clear hq hq1 hq2 HF
      go_wp2_with fail
      refine (data_any r (by omega) _).mono ?_
      rintro e w10 ⟨rfl, x10⟩
      replace HX := Lib.hid (HX.out.ext x10)
      replace MX := Lib.hid (MX.out.tr (Fm.ext MX.out.cl x10) top0)
      clear x10
      go_wp2_with fail
      refine (tcast_any MX.out.cl HX.out (dataB_size r) HI5.out HCAST.out).mono ?_
      rintro e w11 ⟨rfl, o11, A11, h11, m11⟩
      replace HX := Lib.hid h11
      replace MX := Lib.hid (MX.out.tr m11 top0)
      clear h11 m11
      go_wp2
      go_roundw
      case rel => exact ⟨r + 1, o11, A11, Lb, by omega, by go_num, HX.out, HREST.out, HN1.out, MX.out⟩
      case measure => simp [intOf]; omega
    · have e5 : decide ((r : Int) < (k : Int)) = false := decide_eq_false (by omega)
      have e5n : decide (r < k) = false := decide_eq_false hlt
      have HEQ : Hid (La = L1) := Lib.hid (by
        have := HF.out
        rw [show k - r = 0 by omega] at this
        exact Option.some.inj this)
      rw [HEQ.out] at HX HNA
      clear HF HEQ
      go_wp2_with fail
      refine (tstep_any MX.out.cl HX.out (steps_t (i := u) (by rw [HNA.out]; exact hu5) HTI.out)).mono ?_
      rintro e w4 ⟨rfl, o4, A4, h4, m4⟩
      have H4 := Lib.hid h4
      have M4 := Lib.hid (MX.out.tr m4 top0)
      have HN2 : Hid (L2.n = n) := Lib.hid ((stepT_n HTI.out).trans HNA.out)
      clear h4 m4 HX MX HTI HNA e5 e5n hlt hr
      have HLL : Hid (L2.W.ns.length ≤ 1000000) := Lib.hid H4.out.lv.q.wr.net.lenle
      obtain ⟨c, hc⟩ : ∃ c, L2.W.ns.length = c := ⟨_, rfl⟩
      have HCC := Lib.hid hc
      rw [hc] at HRO HLL
      clear hc
      go_wp2
      go_loopw [10, 11] (fun l v wx => ∃ (i : Nat) (p : Option Addr) (cap : Nat), i ≤ c ∧ v = .int .i64 (i : Int) ∧ l = .slice p i cap ∧ Hid (OwS 3 1 wx w4.heap.size p i cap ((List.range i).map fun (j : Nat) => intL (j : Int))) ∧ Hid (Ext w4 wx)) (fun _ v _ => c - (intOf v).toNat)
      case atStart => exact ⟨0, none, 0, by omega, rfl, rfl, Lib.hid (OwS.nil _ _ _ _), Lib.hid (Ext.rfl' _)⟩
      case round =>
        obtain ⟨i, p, cap, hi, rfl, rfl, OW, XX⟩ := hrel
        have HX := Lib.hid (H4.out.ext XX.out)
        have t0 := HX.out.box.box.c 0 _ rfl
        have c0 := HX.out.lv.box.box.c 0 _ rfl
        have h6 := HLL.out
        by_cases hlt : i < c
        · have e5 : decide ((i : Int) < (c : Int)) = true := decide_eq_true (by omega)
          have e5n : decide (i < c) = true := decide_eq_true hlt
          go_wp2_with fail
          refine (wnet_any HX.out.lv.q.wr).mono ?_
          rintro e w5 ⟨rfl, rfl⟩
          go_wp2_with fail
          refine (wlen_any HX.out.lv.q.wr.net).mono ?_
          rintro e w5 ⟨rfl, rfl⟩
          rw [HCC.out]
          have A2 := Lib.hid (Ext.alloc wr (.cells #[.int .i64 (i : Int)] 3))
          have SR : Hid (SlS 1 (wr.alloc (.cells #[.int .i64 (i : Int)] 3)) (some ⟨wr.heap.size, 0, none⟩) 1 1 [intL (i : Int)]) := Lib.hid (SlS.lit wr 1 _ _ _ rfl (by simp [intL]) rfl (by decide))
          have hb : w4.heap.size ≤ (wr.alloc (.cells #[.int .i64 (i : Int)] 3)).heap.size := (XX.out.tr A2.out).size
          go_wp2_with (at_builtin; refine wpList_appS rfl _ _ 49 rfl w4.heap.size Tryz.underlying49 i0 _ 8 HI0.out hz0 hz1 hz2 rfl (by decide) p i cap _ rfl (OW.out.ext A2.out) (some ⟨wr.heap.size, 0, none⟩) 1 1 _ rfl SR.out (by simp [intL, Value.oneCell']) (by omega) (by omega) hb ?_)
          intro p3 c3 w3 o3 g3
          have O3 := Lib.hid o3
          have X3 := Lib.hid (Below.grown (XX.out.tr A2.out) g3 (XX.out.tr A2.out).size (fun b hb => OW.out.lt _ hb |>.1))
          clear o3 g3 A2 SR hb
          go_wp2
          go_roundw
          case rel => exact ⟨i + 1, p3, c3, by omega, by go_num, rfl, Lib.hid (by rw [List.range_succ, List.map_append]; exact O3.out), X3⟩
          case measure => simp [intOf]; omega
        · have e5 : decide ((i : Int) < (c : Int)) = false := decide_eq_false (by omega)
          have e5n : decide (i < c) = false := decide_eq_false hlt
          have HIC : Hid (i = c) := Lib.hid (by omega)
          have M5 := Lib.hid (M4.out.tr (Fm.ext M4.out.cl XX.out) top0)
          go_wp2_with fail
          refine (wnet_any HX.out.lv.q.wr).mono ?_
          rintro e w5 ⟨rfl, rfl⟩
          go_wp2_with fail
          refine (wlen_any HX.out.lv.q.wr.net).mono ?_
          rintro e w5 ⟨rfl, rfl⟩
          rw [HCC.out]
          clear OW XX H4 M4 t0 c0
          go_wp2_with fail
          refine (tstep_any M5.out.cl HX.out (steps_x (i := u) (by rw [HN2.out]; exact hu5) HCR.out)).mono ?_
          rintro e w6 ⟨rfl, o6, A6, h6', m6⟩
          have H6 := Lib.hid h6'
          have M6 := Lib.hid (M5.out.tr m6 top0)
          have HN3 : Hid (L3.n = n) := Lib.hid ((withL_n HCR.out).trans HN2.out)
          clear h6' m6 HX M5 HCR HN2 HCC
          go_wp2_with fail
          refine (tstep_any M6.out.cl H6.out (steps_s (i := u) (by rw [HN3.out]; exact hu5) HST.out)).mono ?_
          rintro e w7 ⟨rfl, o7, A7, h7, m7⟩
          have H7 := Lib.hid h7
          have M7 := Lib.hid (M6.out.tr m7 top0)
          have HN4 : Hid (L4.n = n) := Lib.hid ((withS_n HST.out).trans HN3.out)
          clear h7 m7 H6 M6 HST HN3 e5 e5n
          rw [HIC.out]
          clear HIC hlt hi
          go_wp2
          go_loopw [12] (fun v wx => ∃ (r : Nat) (oa : Ow) (Aa : LwA) (La : LwD), r ≤ 40 ∧ v = .int .i64 (r : Int) ∧ TopV wx oa tb lw Aa La ∧ foldO (oldS n c) (List.range' r (40 - r)) La = some L5 ∧ La.n = n ∧ Fm topC (fun _ => 0) oa w wx) (fun v _ => 40 - (intOf v).toNat)
          case atStart => exact ⟨0, o7, A7, L4, by omega, rfl, H7.out, HRO.out, HN4.out, M7.out⟩
          case round =>
            clear H7 M7 HRO HN4
            obtain ⟨r, oa, Aa, La, hr, rfl, hv, hf, hna, ma⟩ := hrel
            have HX := Lib.hid hv
            have HF := Lib.hid hf
            have HNA := Lib.hid hna
            have MX := Lib.hid ma
            clear hv hf hna ma
            have t1 := HX.out.box.box.c 1 _ rfl
            by_cases hlt : r < 40
            · have e5 : decide ((r : Int) < 40) = true := decide_eq_true (by omega)
              have e5n : decide (r < 40) = true := decide_eq_true hlt
              have hq := HF.out
              rw [show 40 - r = (40 - (r + 1)) + 1 by omega, List.range'_succ] at hq
              obtain ⟨Lr, hq1, hq2⟩ := foldO_cons hq
              unfold oldS at hq1
              obtain ⟨Lq, hq5, hq6⟩ := Option.bind_eq_some_iff.1 hq1
              obtain ⟨Lt, hq7, hq8⟩ := Option.bind_eq_some_iff.1 hq6
              have HREST := Lib.hid hq2
              have HREAL := Lib.hid hq5
              have HTICK := Lib.hid hq7
              have HMAIL := Lib.hid hq8
              have HN1 := HNA
              clear hq hq1 hq2 hq5 hq6 hq7 hq8 HF HNA
              go_wp2_with fail
              refine (tstep_any MX.out.cl HX.out (steps_r HREAL.out)).mono ?_
              rintro e w21 ⟨rfl, o21, A21, h21, m21⟩
              have H21 := Lib.hid h21
              have M21 := Lib.hid (MX.out.tr m21 top0)
              have HN2 : Hid (Lq.n = n) := Lib.hid ((stepR_n HREAL.out).trans HN1.out)
              have HNR : Hid (Lr.n = n) := Lib.hid (((oldM_n _ _ _ HMAIL.out).trans (foldT_n _ _ _ HTICK.out)).trans HN2.out)
              clear h21 m21 HX MX HREAL
              go_wp2
              go_loopw [13] (fun v wx => ∃ (a : Nat) (oa : Ow) (Aa : LwA) (La : LwD), 1 ≤ a ∧ a ≤ n + 1 ∧ v = .int .i64 (a : Int) ∧ TopV wx oa tb lw Aa La ∧ foldO tickT (List.range' a (n + 1 - a)) La = some Lt ∧ La.n = n ∧ Fm topC (fun _ => 0) oa w wx) (fun v _ => n + 1 - (intOf v).toNat)
              case atStart => exact ⟨1, o21, A21, Lq, by omega, by omega, rfl, H21.out, by rw [Nat.add_sub_cancel]; exact HTICK.out, HN2.out, M21.out⟩
              case round =>
                clear H21 M21 HTICK HN2
                obtain ⟨a, ob, Ab, Lb, ha1, ha2, rfl, hv, hf, hnb, ma⟩ := hrel
                have HX := Lib.hid hv
                have HF := Lib.hid hf
                have HNB := Lib.hid hnb
                have MX := Lib.hid ma
                clear hv hf hnb ma
                by_cases hlt2 : a ≤ n
                · have e6 : decide ((a : Int) ≤ (n : Int)) = true := decide_eq_true (by omega)
                  have e6n : decide (a ≤ n) = true := decide_eq_true hlt2
                  have hq := HF.out
                  rw [show n + 1 - a = (n + 1 - (a + 1)) + 1 by omega, List.range'_succ] at hq
                  obtain ⟨Lc, ht, hrest⟩ := foldO_cons hq
                  have HTK := Lib.hid ht
                  have HRB := Lib.hid hrest
                  have HAI : Hid (1 ≤ a ∧ a ≤ Lb.n) := Lib.hid ⟨ha1, by rw [HNB.out]; exact hlt2⟩
                  have HNC : Hid (Lc.n = n) := Lib.hid ((stepT_n ht).trans HNB.out)
                  clear hq ht hrest HF
                  go_wp2_with fail
                  refine (tstep_any MX.out.cl HX.out (steps_t HAI.out HTK.out)).mono ?_
                  rintro e w22 ⟨rfl, o22, A22, h22, m22⟩
                  have H22 := Lib.hid h22
                  have M22 := Lib.hid (MX.out.tr m22 top0)
                  clear h22 m22
                  go_wp2
                  go_roundw
                  case rel => exact ⟨a + 1, o22, A22, Lc, by omega, by omega, by go_num, H22.out, HRB.out, HNC.out, M22.out⟩
                  case measure => simp [intOf]; omega
                · have e6 : decide ((a : Int) ≤ (n : Int)) = false := decide_eq_false (by omega)
                  have e6n : decide (a ≤ n) = false := decide_eq_false hlt2
                  have HEQ : Hid (Lb = Lt) := Lib.hid (by
                    have := HF.out
                    rw [show n + 1 - a = 0 by omega] at this
                    exact Option.some.inj this)
                  rw [HEQ.out] at HX
                  clear HF HNB hlt2 ha1 ha2
                  go_wp2
                  go_loopw [14] (fun v wx => ∃ (j : Nat) (oa : Ow) (Aa : LwA) (La : LwD), j ≤ 200 ∧ v = .int .i64 (j : Int) ∧ TopV wx oa tb lw Aa La ∧ oldM c (200 - j) La = some Lr ∧ Fm topC (fun _ => 0) oa w wx) (fun v _ => 200 - (intOf v).toNat)
                  case atStart => exact ⟨0, _, _, _, by omega, rfl, HX.out, HMAIL.out, MX.out⟩
                  case round =>
                    clear HX MX HMAIL e6 e6n
                    obtain ⟨j, oc, Ac, Lc, hj, rfl, hv, hf, ma⟩ := hrel
                    have HX := Lib.hid hv
                    have HF := Lib.hid hf
                    have MX := Lib.hid ma
                    clear hv hf ma
                    have t0 := HX.out.box.box.c 0 _ rfl
                    have c0 := HX.out.lv.box.box.c 0 _ rfl
                    by_cases hlt3 : j < 200
                    · have e6 : decide ((j : Int) < 200) = true := decide_eq_true (by omega)
                      have e6n : decide (j < 200) = true := decide_eq_true hlt3
                      have hq := HF.out
                      rw [show 200 - j = (200 - (j + 1)) + 1 by omega] at hq
                      unfold oldM at hq
                      go_wp2_with fail
                      refine (wnet_any HX.out.lv.q.wr).mono ?_
                      rintro e w5 ⟨rfl, rfl⟩
                      go_wp2_with fail
                      refine (wlen_any HX.out.lv.q.wr.net).mono ?_
                      rintro e w5 ⟨rfl, rfl⟩
                      by_cases hcl : c < Lc.W.ns.length
                      · rw [if_pos (decide_eq_true hcl)] at hq
                        obtain ⟨Ld, hb1, hb2⟩ := Option.bind_eq_some_iff.1 hq
                        have HB1 := Lib.hid hb1
                        have HB2 := Lib.hid hb2
                        have e7 : decide ((c : Int) < (Lc.W.ns.length : Int)) = true := decide_eq_true (by omega)
                        have e7n : decide (c < Lc.W.ns.length) = true := decide_eq_true hcl
                        clear hq hb1 hb2 HF
                        go_wp2_with fail
                        refine (tstep_any MX.out.cl HX.out (steps_m HB1.out)).mono ?_
                        rintro e w7 ⟨rfl, o7, A7, h7, m7⟩
                        have H7 := Lib.hid h7
                        have M7 := Lib.hid (MX.out.tr m7 top0)
                        clear h7 m7
                        go_wp2
                        go_roundw
                        case rel => exact ⟨j + 1, o7, A7, Ld, by omega, by go_num, H7.out, HB2.out, M7.out⟩
                        case measure => simp [intOf]; omega
                      · rw [if_neg (by simpa using hcl)] at hq
                        have HEQ2 := Lib.hid (Option.some.inj hq)
                        have e7 : decide ((c : Int) < (Lc.W.ns.length : Int)) = false := decide_eq_false (by omega)
                        have e7n : decide (c < Lc.W.ns.length) = false := decide_eq_false hcl
                        have HX2 := HX
                        rw [HEQ2.out] at HX2
                        clear hq HF
                        go_wp2
                        go_roundw
                        case rel => exact ⟨r + 1, oc, Ac, Lr, by omega, by go_num, HX2.out, HREST.out, HNR.out, MX.out⟩
                        case measure => simp [intOf]; omega
                    · have e6 : decide ((j : Int) < 200) = false := decide_eq_false (by omega)
                      have e6n : decide (j < 200) = false := decide_eq_false hlt3
                      have HEQ2 : Hid (Lc = Lr) := Lib.hid (by
                        have := HF.out
                        rw [show 200 - j = 0 by omega] at this
                        exact Option.some.inj this)
                      rw [HEQ2.out] at HX
                      go_wp2
                      go_roundw
                      case rel => exact ⟨r + 1, oc, Ac, Lr, by omega, by go_num, HX.out, HREST.out, HNR.out, MX.out⟩
                      case measure => simp [intOf]; omega
            · have e5 : decide ((r : Int) < 40) = false := decide_eq_false (by omega)
              have e5n : decide (r < 40) = false := decide_eq_false hlt
              have HEQ : Hid (La = L5) := Lib.hid (by
                have := HF.out
                rw [show 40 - r = 0 by omega] at this
                exact Option.some.inj this)
              rw [HEQ.out] at HX HNA
              clear hlt hr HF HEQ t1
              obtain ⟨P, hP⟩ : ∃ P : World → Nat → Prop, P = fun wx f => ∃ (oa : Ow) (Aa : LwA) (La : LwD), TopV wx oa tb lw Aa La ∧ sendsL f La = some L6 ∧ La.n = n ∧ Fm topC (fun _ => 0) oa w wx := ⟨_, rfl⟩
              have HP := Lib.hid (fun wx f => (congrFun (congrFun hP wx) f : P wx f = ∃ (oa : Ow) (Aa : LwA) (La : LwD), TopV wx oa tb lw Aa La ∧ sendsL f La = some L6 ∧ La.n = n ∧ Fm topC (fun _ => 0) oa w wx))
              clear hP
              go_wp2
              go_loopw [] (fun wx => ∃ f : Nat, P wx f) (fun wx => Classical.epsilon fun g => P wx g ∧ ∀ h, P wx h → g ≤ h)
              case atStart => exact ⟨1000, by rw [HP.out]; exact ⟨oa, Aa, L5, HX.out, HSE.out, HNA.out, MX.out⟩⟩
              case round =>
                clear HX MX HNA HSE e5 e5n
                obtain ⟨f0, hf0⟩ := hrel
                obtain ⟨hp, hle⟩ := least_is hf0
                have HLE := Lib.hid hle
                clear hf0 hle
                rw [HP.out] at hp
                obtain ⟨ob, Ab, Lb, hv, hf, hnb, mb⟩ := hp
                have HX := Lib.hid hv
                have HF := Lib.hid hf
                have HNA := Lib.hid hnb
                have MX := Lib.hid mb
                clear hv hf hnb mb
                have t0 := HX.out.box.box.c 0 _ rfl
                have t1 := HX.out.box.box.c 1 _ rfl
                have c0 := HX.out.lv.box.box.c 0 _ rfl
                go_wp2_with fail
                refine (wnet_any HX.out.lv.q.wr).mono ?_
                rintro e w5 ⟨rfl, rfl⟩
                go_wp2_with fail
                refine (wlen_any HX.out.lv.q.wr.net).mono ?_
                rintro e w5 ⟨rfl, rfl⟩
                cases hns : Lb.W.ns with
                | nil =>
                  have HEQ : Hid (Lb = L6) := Lib.hid (by
                    have := HF.out
                    revert this
                    generalize (Classical.epsilon fun g => P wr g ∧ ∀ h, P wr h → g ≤ h) = ff
                    intro this
                    cases ff with
                    | zero =>
                      unfold sendsL at this
                      rw [hns] at this
                      exact Option.some.inj this
                    | succ f =>
                      unfold sendsL at this
                      rw [hns] at this
                      exact Option.some.inj this)
                  have e7 : decide ((0 : Int) < ((([] : List (MsD × List EnD)).length : Nat) : Int)) = false := rfl
                  rw [HEQ.out] at HX HNA
                  clear hns HF HLE HP
                  simp only [List.length_nil]
                  go_wp2_with fail
                  refine (trounds_any (n := 40) MX.out.cl HX.out (by decide) HR4.out).mono ?_
                  rintro e w8 ⟨rfl, o8, A8, h8, m8⟩
                  have H8 := Lib.hid h8
                  have M8 := Lib.hid (MX.out.tr m8 top0)
                  have HN7 : Hid (Lf.n = n) := Lib.hid ((roundsL_n _ _ _ HR4.out).trans HNA.out)
                  clear h8 m8 HX MX HR4 HNA t0 t1 c0
                  have AL := Lib.hid (tall_any H8.out)
                  rw [HN7.out] at AL
                  have HFT := Lib.hid (fullT_is (n := n) (by omega))
                  go_wp2_with fail
                  refine AL.out.mono ?_
                  rintro e w9 ⟨rfl, rfl⟩
                  go_wp2_with fail
                  refine (tone_any M8.out.cl H8.out HFT.out HO.out).mono ?_
                  rintro e w10 ⟨rfl, o10, A10, L10, h10, hon, m10⟩
                  have h108 : L10 = L8 := by
                    have := HL8.out
                    rw [hon] at this
                    exact Option.some.inj this
                  subst h108
                  have H10 := Lib.hid h10
                  have M10 := Lib.hid (M8.out.tr m10 top0)
                  clear h10 m10 hon H8 M8 AL HFT
                  have t0 := H10.out.box.box.c 0 _ rfl
                  go_wp2_with fail
                  refine (lone_any H10.out.lv HFI.out).mono ?_
                  rintro e w11 ⟨rfl, x11⟩
                  replace H10 := Lib.hid (H10.out.ext x11)
                  replace M10 := Lib.hid (M10.out.tr (Fm.ext M10.out.cl x11) top0)
                  clear x11 t0
                  have t0 := H10.out.box.box.c 0 _ rfl
                  go_wp2_with fail
                  refine (lonce_any M10.out.cl H10.out.lv HL9.out).mono ?_
                  rintro e w12 ⟨rfl, o12, A12, h12, m12⟩
                  have M12 := Lib.hid (M10.out.tr (m12.mono lw_top) top0)
                  clear h12 m12
                  go_wp2
                  go_ret
                  exact ⟨rfl, M12.out.all top0⟩
                | cons z zs =>
                  obtain ⟨f', Ld, hf', hd1, hd2⟩ : ∃ f' Ld, (Classical.epsilon fun g => P wr g ∧ ∀ h, P wr h → g ≤ h) = f' + 1 ∧ stepM false 0 Lb = some Ld ∧ sendsL f' Ld = some L6 := by
                    have := HF.out
                    revert this
                    generalize (Classical.epsilon fun g => P wr g ∧ ∀ h, P wr h → g ≤ h) = ff
                    intro this
                    cases ff with
                    | zero =>
                      unfold sendsL at this
                      rw [hns] at this
                      cases this
                    | succ f =>
                      unfold sendsL at this
                      rw [hns] at this
                      obtain ⟨V, h1, h2⟩ := Option.bind_eq_some_iff.1 this
                      exact ⟨f, V, rfl, h1, h2⟩
                  have HD1 := Lib.hid hd1
                  have HD2 := Lib.hid hd2
                  have HND : Hid (Ld.n = n) := Lib.hid ((stepM_n hd1).trans HNA.out)
                  have HFF := Lib.hid hf'
                  have e7 : decide ((0 : Int) < (((z :: zs).length : Nat) : Int)) = true := decide_eq_true (by simp only [List.length_cons]; omega)
                  have e7n : decide (0 < (z :: zs).length) = true := decide_eq_true (by simp)
                  clear hf' hd1 hd2 hns HF
                  go_wp2_with fail
                  refine (tstep_any MX.out.cl HX.out (steps_m (k := 0) HD1.out)).mono ?_
                  rintro e w7 ⟨rfl, o7, A7, h7, m7⟩
                  have HP7 : Hid (P w7 f') := Lib.hid (by rw [HP.out]; exact ⟨o7, A7, Ld, h7, HD2.out, HND.out, MX.out.tr m7 top0⟩)
                  have HM7 : Hid ((Classical.epsilon fun g => P w7 g ∧ ∀ h, P w7 h → g ≤ h) < (Classical.epsilon fun g => P wr g ∧ ∀ h, P wr h → g ≤ h)) := Lib.hid (by
                    have h1 := (least_is HP7.out).2 f' HP7.out
                    rw [HFF.out]
                    omega)
                  clear h7 m7
                  go_wp2
                  go_roundw
                  case rel => exact ⟨f', HP7.out⟩
                  case measure => exact HM7.out
end Go.Proofs.YtjhbmbbmjaabcaaGreat
set_option linter.unusedVariables false
set_option maxRecDepth 8000
set_option maxHeartbeats 8000000

