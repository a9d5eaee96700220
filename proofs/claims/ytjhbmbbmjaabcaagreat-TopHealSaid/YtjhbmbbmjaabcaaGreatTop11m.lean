/-
  most; TopHeal. Conditions stand at each.
-/
import Derived.Test.YtjhbmbbmjaabcaaGreatH6
namespace Go.Proofs.YtjhbmbbmjaabcaaGreat
open Go Go.Sort Go.RowKit
set_option linter.unusedVariables false

def mostG (n : Nat) : Nat → Int → Nat → Int
  | 0, s, j => s
  | f + 1, s, j => if mostT s (n : Int) then s else mostG n f (withT s ((j : Int) + 1)) (j + 1)
def wst (s : Int) : Nat → Int
  | 0 => s
  | j + 1 => withT (wst s j) ((j : Int) + 1)
theorem wst_is {s : Int} (h : isT s) : ∀ j : Nat, j ≤ 7 → isT (wst s j)
  | 0, _ => h
  | j + 1, hj => withT_is (wst_is h j (by omega)) ⟨by omega, by omega⟩
theorem wst_most {n s : Nat} (hn : 3 ≤ n ∧ n ≤ 5) (hs : s < 2 ^ n) : mostT (wst (s : Int) n) (n : Int) = true := by
  have h : ∀ (n : Fin 6) (s : Fin 32), 3 ≤ n.1 → s.1 < 2 ^ n.1 → mostT (wst (s.1 : Int) n.1) (n.1 : Int) = true := by decide +kernel
  have h5 : 2 ^ n ≤ 2 ^ 5 := Nat.pow_le_pow_right (by decide) hn.2
  exact h ⟨n, by omega⟩ ⟨s, by omega⟩ hn.1 hs
theorem mostG_ok {n s : Nat} (hn : 3 ≤ n ∧ n ≤ 5) (hs : s < 2 ^ n) : 0 ≤ mostG n n (s : Int) 0 ∧ mostG n n (s : Int) 0 < ((2 ^ n : Nat) : Int) ∧ mostT (mostG n n (s : Int) 0) (n : Int) = true := by
  have h : ∀ (n : Fin 6) (s : Fin 32), 3 ≤ n.1 → s.1 < 2 ^ n.1 → 0 ≤ mostG n.1 n.1 (s.1 : Int) 0 ∧ mostG n.1 n.1 (s.1 : Int) 0 < ((2 ^ n.1 : Nat) : Int) ∧ mostT (mostG n.1 n.1 (s.1 : Int) 0) (n.1 : Int) = true := by decide +kernel
  have h5 : 2 ^ n ≤ 2 ^ 5 := Nat.pow_le_pow_right (by decide) hn.2
  exact h ⟨n, by omega⟩ ⟨s, by omega⟩ hn.1 hs
theorem bit_wrap {j : Nat} (h : j < 7) : wrap64 (2 ^ j) = bitT ((j : Int) + 1) := by
  have : j = 0 ∨ j = 1 ∨ j = 2 ∨ j = 3 ∨ j = 4 ∨ j = 5 ∨ j = 6 := by omega
  rcases this with rfl | rfl | rfl | rfl | rfl | rfl | rfl <;> decide +kernel
set_option maxRecDepth 8000 in
set_option maxHeartbeats 4000000 in
theorem tmostf_any (x : Int) (n : Nat) (hn : 3 ≤ n ∧ n ≤ 5) (w : World) :
    Calls Tryz.prog 14 #[.int .i64 x, .int .i64 (n : Int)] w fun e w' => e = .returned (.int .i64 (mostG n n (smallI x ((2 ^ n : Nat) : Int)) 0)) ∧ Ext w w' := by
  obtain ⟨htw, ht1, ht2⟩ := two_n (n := n) ⟨hn.1, by omega⟩
  obtain ⟨s, hs⟩ : ∃ s : Nat, smallI x ((2 ^ n : Nat) : Int) = (s : Int) := ⟨(smallI x ((2 ^ n : Nat) : Int)).toNat, by have := smallI_lt (x := x) (show (0 : Int) < ((2 ^ n : Nat) : Int) by omega); omega⟩
  have hs2 : s < 2 ^ n := by have := smallI_lt (x := x) (show (0 : Int) < ((2 ^ n : Nat) : Int) by omega); omega
  have h5 : 2 ^ n ≤ 2 ^ 5 := Nat.pow_le_pow_right (by decide) hn.2
  have hs32 : s < 32 := by omega
  have HST : Hid (isT (s : Int)) := Lib.hid (by unfold isT; omega)
  have HMO := Lib.hid (wst_most hn hs2)
  have SM := Lib.hid (fun w => small_any x ((2 ^ n : Nat) : Int) ⟨by omega, by omega⟩ w)
  rw [hs] at SM
  rw [hs]
  obtain ⟨R, hR⟩ : ∃ R, mostG n n (s : Int) 0 = R := ⟨_, rfl⟩
  have HR := Lib.hid hR
  rw [hR]
  obtain ⟨tw, htw2⟩ : ∃ tw, tw = ((2 ^ n : Nat) : Int) := ⟨_, rfl⟩
  rw [← htw2] at SM htw
  have HN := Lib.hid hn
  clear hs hs2 h5 hs32 hR htw2 ht1 ht2 hn
  go_enter Tryz.func14, Tryz.ntmps14
  go_wp2_with fail
  refine (SM.out _).mono ?_
  rintro e w1 ⟨rfl, rfl⟩
  clear SM htw
  go_wp2
  go_loopw [5, 6] (fun a b wx => ∃ j : Nat, j ≤ n ∧ b = .int .i64 ((j : Int) + 1) ∧ a = .int .i64 (wst (s : Int) j) ∧ mostG n (n - j) (wst (s : Int) j) j = R ∧ Ext w wx) (fun _ b _ => n + 1 - (intOf b).toNat)
  case atStart => exact ⟨0, by omega, rfl, rfl, HR.out, Ext.rfl' _⟩
  case round =>
    obtain ⟨j, hj, rfl, rfl, hg, xx⟩ := hrel
    have X := Lib.hid xx
    have HG := Lib.hid hg
    have hn7 := HN.out
    have HIS := Lib.hid (wst_is HST.out j (by omega))
    have HWN : Hid (wst (s : Int) (j + 1) = withT (wst (s : Int) j) ((j : Int) + 1)) := Lib.hid rfl
    have HEN : Hid (j = n → mostT (wst (s : Int) j) (n : Int) = true) := Lib.hid (fun e => by rw [e]; exact HMO.out)
    clear xx hg
    obtain ⟨v, hv⟩ : ∃ v, wst (s : Int) j = v := ⟨_, rfl⟩
    rw [hv] at HG HIS HWN HEN ⊢
    clear hv
    go_wp2_with fail
    refine (trmost_any v n HIS.out ⟨hn7.1, by omega⟩ _).mono ?_
    rintro e w2 ⟨rfl, x2⟩
    have X2 := Lib.hid (X.out.tr x2)
    clear x2 X
    cases hm : mostT v (n : Int)
    · have hjn : j < n := by
        rcases Nat.lt_or_ge j n with h | h
        · exact h
        · have := HEN.out (by omega)
          rw [hm] at this
          cases this
      have HB := Lib.hid (bits_with HIS.out (i := (j : Int) + 1) ⟨by omega, by omega⟩)
      have hbw := bit_wrap (j := j) (by omega)
      rw [← hbw] at HB
      obtain ⟨u, hu⟩ : ∃ u, withT v ((j : Int) + 1) = u := ⟨_, rfl⟩
      have HG2 : Hid (mostG n (n - (j + 1)) u (j + 1) = R) := Lib.hid (by
        have h := HG.out
        rw [show n - j = (n - (j + 1)) + 1 by omega] at h
        unfold mostG at h
        rw [if_neg (by rw [hm]; simp), hu] at h
        exact h)
      rw [hu] at HB HWN
      have hb := HB.out
      have hwj : wrap64 ((j : Int) + 1 + 1) = (j : Int) + 1 + 1 := by unfold wrap64; omega
      clear hu hm hbw
      go_wp2
      go_roundw
      case rel => exact ⟨j + 1, by omega, by go_num, by rw [HWN.out], by rw [HWN.out]; exact HG2.out, X2.out⟩
      case measure => simp [intOf]; omega
    · have HVR : Hid (v = R) := Lib.hid (by
        have h := HG.out
        cases hf : n - j with
        | zero =>
          rw [hf] at h
          exact h
        | succ f =>
          rw [hf] at h
          unfold mostG at h
          rw [if_pos hm] at h
          exact h)
      clear hm
      rw [HVR.out]
      go_wp2
      go_ret
      exact ⟨rfl, X2.out⟩
def healC (d : Nat) (L : LwD) (i : Nat) : Option LwD := stepC d 1 1 (dataB i) L
def whoT (s : Int) : Nat := ((idsT.filter (hasT s)).headD 1).toNat
def healM (s : Int) (k : Nat) (L1 : LwD) : Option LwD := (onceL L1).bind fun L2 => (foldO (healC (whoT s)) (List.range' 0 k) L2).bind fun L3 => (apL s 5 L3).bind (roundsL 60)
def healL (n : Nat) (s : Int) : Option LwD := (wellL n).bind (apL s 60)
def healE (n k : Nat) (L : LwD) : Bool := oneT (fullT L.n) L && (match onceL L with
  | some L' => tellB n k L'
  | none => false)
def healB (n : Nat) (s : Int) (k : Nat) : Bool := match healL n s with
  | some L => oneT s L && (match healM s k L with
    | some L' => healE n k L'
    | none => false)
  | none => false
theorem castsH_n {d : Nat} : ∀ (l : List Nat) (L L' : LwD), foldO (healC d) l L = some L' → L'.n = L.n
  | [], L, L', h => by cases h; rfl
  | t :: l, L, L', h => by
    obtain ⟨V, h1, h2⟩ := foldO_cons h
    exact (castsH_n l V L' h2).trans (stepC_n h1)
theorem most_head {s : Int} {n : Nat} (hn : 3 ≤ n ∧ n ≤ 5) (h : 0 ≤ s ∧ s < ((2 ^ n : Nat) : Int)) (hm : mostT s (n : Int) = true) : 1 ≤ whoT s ∧ whoT s ≤ n ∧ 0 < (idsT.filter (hasT s)).length ∧ (idsT.filter (hasT s))[0]? = some (whoT s : Int) := by
  have hh : ∀ (n : Fin 6) (s : Fin 32), 3 ≤ n.1 → s.1 < 2 ^ n.1 → mostT (s.1 : Int) (n.1 : Int) = true → 1 ≤ whoT (s.1 : Int) ∧ whoT (s.1 : Int) ≤ n.1 ∧ 0 < (idsT.filter (hasT (s.1 : Int))).length ∧ (idsT.filter (hasT (s.1 : Int)))[0]? = some (whoT (s.1 : Int) : Int) := by decide +kernel
  have h5 : 2 ^ n ≤ 2 ^ 5 := Nat.pow_le_pow_right (by decide) hn.2
  obtain ⟨m, rfl⟩ : ∃ m : Nat, s = (m : Int) := ⟨s.toNat, by omega⟩
  have hm2 : m < 2 ^ n := by omega
  exact hh ⟨n, by omega⟩ ⟨m, by omega⟩ hn.1 hm2 hm
variable {w w4 : World} {o o4 : Ow} {tb lw : Nat} {A A' : LwA} {L L' : LwD}
set_option maxRecDepth 8000 in
set_option maxHeartbeats 4000000 in
theorem theal_any (x y z : Int) (hall : ∀ (n k : Nat) (s : Int), 3 ≤ n → n ≤ 5 → k < 4 → 0 ≤ s → s < ((2 ^ n : Nat) : Int) → mostT s (n : Int) = true → healB n s k = true) (hb : begunB = true) (w : World) :
    Calls Tryz.prog 4 #[.int .i64 x, .int .i64 y, .int .i64 z] w fun e w' => e = .returned (.bool true) ∧ Below w.heap.size w w' := by
  obtain ⟨n, hn⟩ : ∃ n : Nat, 3 + smallI x 3 = (n : Int) := ⟨(3 + smallI x 3).toNat, by have := smallI_lt (x := x) (show (0 : Int) < 3 by decide); omega⟩
  obtain ⟨k, hk⟩ : ∃ k : Nat, smallI z 4 = (k : Int) := ⟨(smallI z 4).toNat, by have := smallI_lt (x := z) (show (0 : Int) < 4 by decide); omega⟩
  have hn5 : 3 ≤ n ∧ n ≤ 5 := by have := smallI_lt (x := x) (show (0 : Int) < 3 by decide); omega
  have hk4 : k < 4 := by have := smallI_lt (x := z) (show (0 : Int) < 4 by decide); omega
  obtain ⟨-, ht1, ht2⟩ := two_n (n := n) ⟨hn5.1, by omega⟩
  obtain ⟨s0, hs0⟩ : ∃ s0 : Nat, smallI y ((2 ^ n : Nat) : Int) = (s0 : Int) := ⟨(smallI y ((2 ^ n : Nat) : Int)).toNat, by have := smallI_lt (x := y) (show (0 : Int) < ((2 ^ n : Nat) : Int) by omega); omega⟩
  have hs2 : s0 < 2 ^ n := by have := smallI_lt (x := y) (show (0 : Int) < ((2 ^ n : Nat) : Int) by omega); omega
  obtain ⟨m1, m2, m3⟩ := mostG_ok hn5 hs2
  have MS := Lib.hid (fun w => tmostf_any y n hn5 w)
  rw [hs0] at MS
  obtain ⟨s, hs⟩ : ∃ s, mostG n n (s0 : Int) 0 = s := ⟨_, rfl⟩
  rw [hs] at MS m1 m2 m3
  have hr := hall n k s hn5.1 hn5.2 hk4 m1 m2 m3
  have HHD := Lib.hid (most_head hn5 ⟨m1, m2⟩ m3)
  have HST : Hid (isT s) := Lib.hid ⟨m1, by omega⟩
  unfold healB at hr
  split at hr
  case h_2 => cases hr
  rename_i L1 hL1
  rw [Bool.and_eq_true] at hr
  obtain ⟨hone1, hr⟩ := hr
  split at hr
  case h_2 => cases hr
  rename_i Lf hLf
  unfold healE at hr
  rw [Bool.and_eq_true] at hr
  obtain ⟨hone2, hr⟩ := hr
  split at hr
  case h_2 => cases hr
  rename_i Lg hLg
  unfold healL at hL1
  obtain ⟨L0, hL0, hap1⟩ := Option.bind_eq_some_iff.1 hL1
  unfold healM at hLf
  obtain ⟨L2, hon2, hb2⟩ := Option.bind_eq_some_iff.1 hLf
  obtain ⟨L3, hb3, hb4⟩ := Option.bind_eq_some_iff.1 hb2
  obtain ⟨L4, hb5, hb6⟩ := Option.bind_eq_some_iff.1 hb4
  have HT := Lib.hid hr
  have HO1 := Lib.hid hone1
  have HO2 := Lib.hid hone2
  have HL0 := Lib.hid hL0
  have HAP1 := Lib.hid hap1
  have HON2 := Lib.hid hon2
  have HCS := Lib.hid hb3
  have HAP2 := Lib.hid hb5
  have HR6 := Lib.hid hb6
  have HLG := Lib.hid hLg
  have BG := Lib.hid (tbegun_any (w := w) (o := fun _ => 0) (fun _ _ => rfl) hb)
  have SM3 := Lib.hid (fun w => small_any x 3 (by decide) w)
  have SM4 := Lib.hid (fun w => small_any z 4 (by decide) w)
  have hs3 := smallI_lt (x := x) (show (0 : Int) < 3 by decide)
  rw [hk] at SM4
  obtain ⟨sx, hsx⟩ : ∃ sx, sx = smallI x 3 := ⟨_, rfl⟩
  rw [← hsx] at SM3 hn hs3
  have HNX := Lib.hid hn
  clear hr hone1 hone2 hL1 hLf hLg hL0 hap1 hon2 hb2 hb3 hb4 hb5 hb6 hall hb hk hsx hn hs hs0 hs2 m1 m2 m3 ht1 ht2
  go_enter Tryz.func4, Tryz.ntmps4
  go_wp2_with fail
  refine BG.out.mono ?_
  rintro e w1 ⟨rfl, o1, m1⟩
  have M1 := Lib.hid (m1.mono lw_top)
  clear m1 BG
  go_wp2_with fail
  refine (SM3.out _).mono ?_
  rintro e w1' ⟨rfl, rfl⟩
  go_wp2_with fail
  refine (SM4.out _).mono ?_
  rintro e w1' ⟨rfl, rfl⟩
  clear SM3 SM4
  go_upto_region 5 with fail
  rw [HNX.out]
  clear HNX hs3
  go_wp2_with fail
  refine (MS.out _).mono ?_
  rintro e w2 ⟨rfl, x2⟩
  replace M1 := Lib.hid (M1.out.tr (Fm.ext M1.out.cl x2) top0)
  clear x2 MS
  go_wp2_with fail
  refine (twell_any M1.out.cl ⟨hn5.1, by omega⟩ HL0.out).mono ?_
  rintro e w3 ⟨tb, lw, o3, A3, rfl, h3, m3⟩
  have H3 := Lib.hid h3
  have M3 := Lib.hid (M1.out.tr m3 top0)
  have HN0 := Lib.hid (wellL_n HL0.out)
  clear h3 m3 M1 HL0
  go_wp2_with fail
  refine (tapart_any (n := 60) M3.out.cl H3.out HST.out (by decide) HAP1.out).mono ?_
  rintro e w4 ⟨rfl, o4, A4, h4, m4⟩
  have H4 := Lib.hid h4
  have M4 := Lib.hid (M3.out.tr m4 top0)
  have HN1 : Hid (L1.n = n) := Lib.hid ((apL_n _ _ _ HAP1.out).trans HN0.out)
  clear h4 m4 H3 M3 HAP1 HN0
  go_wp2_with fail
  refine (tone_any M4.out.cl H4.out HST.out HO1.out).mono ?_
  rintro e w5 ⟨rfl, o5, A5, L2', h5, hon, m5⟩
  have HE2 : Hid (L2' = L2) := Lib.hid (by
    rw [HON2.out] at hon
    exact (Option.some.inj hon).symm)
  rw [HE2.out] at h5
  have H5 := Lib.hid h5
  have M5 := Lib.hid (M4.out.tr m5 top0)
  have HN2 : Hid (L2.n = n) := Lib.hid (((onceL_k _ _ _ HON2.out).2).trans HN1.out)
  clear h5 m5 hon H4 M4 HO1 HN1 HE2
  have LL := Lib.hid (fun w => trlist_any s HST.out w)
  obtain ⟨IDS, hids⟩ : ∃ l, idsT.filter (hasT s) = l := ⟨_, rfl⟩
  rw [hids] at LL HHD
  clear hids
  have hl0 := HHD.out.2.2.1
  go_wp2_with fail
  refine (LL.out _).mono ?_
  rintro e w6 ⟨pi, ci, rfl, ow, x6⟩
  have H6 := Lib.hid (H5.out.ext x6)
  have M6 := Lib.hid (M5.out.tr (Fm.ext M5.out.cl x6) top0)
  obtain ⟨ib, ioo, ix, hip, hix, -, hic⟩ := ow.sl.at 0 hl0
  rw [List.getElem?_map, HHD.out.2.2.2] at hix
  have hix2 : ix = intL (whoT s : Int) := by simpa using hix.symm
  subst hix2
  have c0 : w6.cell? ⟨ib, ioo, none⟩ = some (.int .i64 (whoT s : Int)) := by
    have := hic 0 _ rfl
    simpa using this
  have HWH : Hid (1 ≤ whoT s ∧ whoT s ≤ n) := Lib.hid ⟨HHD.out.1, HHD.out.2.1⟩
  subst hip
  have lenf : decide ((0 : Int) < (IDS.length : Int)) = true := decide_eq_true (by omega)
  have lenf2 : (0 : Int) < (IDS.length : Int) := by omega
  clear ow x6 H5 M5 LL hix hic
  obtain ⟨d, hd⟩ : ∃ d, whoT s = d := ⟨_, rfl⟩
  rw [hd] at HWH HCS c0
  clear hd
  go_wp2
  clear c0 lenf lenf2 HHD hl0
  go_loopw [10] (fun v wx => ∃ (r : Nat) (oa : Ow) (Aa : LwA) (La : LwD), r ≤ k ∧ v = .int .i64 (r : Int) ∧ TopV wx oa tb lw Aa La ∧ foldO (healC d) (List.range' r (k - r)) La = some L3 ∧ La.n = n ∧ Fm topC (fun _ => 0) oa w wx) (fun v _ => k - (intOf v).toNat)
  case atStart => exact ⟨0, o5, A5, L2, by omega, rfl, H6.out, HCS.out, HN2.out, M6.out⟩
  case round =>
    clear H6 M6 HCS HN2
    obtain ⟨r, oa, Aa, La, hr, rfl, hv, hf, hna, ma⟩ := hrel
    have HX := Lib.hid hv
    have HF := Lib.hid hf
    have HNA := Lib.hid hna
    have MX := Lib.hid ma
    clear hv hf hna ma
    by_cases hlt : r < k
    · have e5 : decide ((r : Int) < (k : Int)) = true := decide_eq_true (by omega)
      have e5n : decide (r < k) = true := decide_eq_true hlt
      have hq := HF.out
      rw [show k - r = (k - (r + 1)) + 1 by omega, List.range'_succ] at hq
      obtain ⟨Lb, hq1, hq2⟩ := foldO_cons hq
      have HREST := Lib.hid hq2
      have HCAST := Lib.hid hq1
      have HNB : Hid (Lb.n = n) := Lib.hid ((stepC_n hq1).trans HNA.out)
      have HI5 : Hid (1 ≤ d ∧ d ≤ La.n) := Lib.hid (by rw [HNA.out]; exact HWH.out)
      clear hq hq1 hq2 HF
      go_wp2_with fail
      refine (data_any r (by omega) _).mono ?_
      rintro e w10 ⟨rfl, x10⟩
      replace HX := Lib.hid (HX.out.ext x10)
      replace MX := Lib.hid (MX.out.tr (Fm.ext MX.out.cl x10) top0)
      clear x10
      go_wp2_with fail
      refine (tcast_any MX.out.cl HX.out (dataB_size r) HI5.out HCAST.out).mono ?_
      rintro e w11 ⟨rfl, o11, A11, h11, m11⟩
      replace HX := Lib.hid h11
      replace MX := Lib.hid (MX.out.tr m11 top0)
      clear h11 m11
      go_wp2
      go_roundw
      case rel => exact ⟨r + 1, o11, A11, Lb, by omega, by go_num, HX.out, HREST.out, HNB.out, MX.out⟩
      case measure => simp [intOf]; omega
    · have e5 : decide ((r : Int) < (k : Int)) = false := decide_eq_false (by omega)
      have e5n : decide (r < k) = false := decide_eq_false hlt
      have HEQ : Hid (La = L3) := Lib.hid (by
        have := HF.out
        rw [show k - r = 0 by omega] at this
        exact Option.some.inj this)
      rw [HEQ.out] at HX HNA
      clear HF HEQ
      go_wp2_with fail
      refine (tapart_any (n := 5) MX.out.cl HX.out HST.out (by decide) HAP2.out).mono ?_
      rintro e w12 ⟨rfl, o12, A12, h12, m12⟩
      have H12 := Lib.hid h12
      have M12 := Lib.hid (MX.out.tr m12 top0)
      have HN4 : Hid (L4.n = n) := Lib.hid ((apL_n _ _ _ HAP2.out).trans HNA.out)
      clear h12 m12 HX MX HAP2 HNA
      go_wp2_with fail
      refine (trounds_any (n := 60) M12.out.cl H12.out (by decide) HR6.out).mono ?_
      rintro e w13 ⟨rfl, o13, A13, h13, m13⟩
      have H13 := Lib.hid h13
      have M13 := Lib.hid (M12.out.tr m13 top0)
      have HN5 : Hid (Lf.n = n) := Lib.hid ((roundsL_n _ _ _ HR6.out).trans HN4.out)
      clear h13 m13 H12 M12 HR6 HN4
      go_wp2_with fail
      refine (tall_any H13.out).mono ?_
      rintro e w14 ⟨rfl, rfl⟩
      go_wp2_with fail
      refine (tone_any M13.out.cl H13.out (fullT_is H13.out.lv.n7.2) HO2.out).mono ?_
      rintro e w15 ⟨rfl, o15, A15, Lg', h15, hon, m15⟩
      have HE2 : Hid (Lg' = Lg) := Lib.hid (by
        rw [HLG.out] at hon
        exact (Option.some.inj hon).symm)
      rw [HE2.out] at h15
      have H15 := Lib.hid h15
      have M15 := Lib.hid (M13.out.tr m15 top0)
      have HNA : Hid (Lg.n = n) := Lib.hid (((onceL_k _ _ _ HLG.out).2).trans HN5.out)
      clear h15 m15 hon H13 M13 HO2 HN5 HE2
      go_wp2
      go_loopw [11] (fun v wx => ∃ (a : Nat), 1 ≤ a ∧ a ≤ n + 1 ∧ v = .int .i64 (a : Int) ∧ TopV wx o15 tb lw A15 Lg ∧ Fm topC (fun _ => 0) o15 w wx) (fun v _ => n + 1 - (intOf v).toNat)
      case atStart => exact ⟨1, by omega, by omega, rfl, H15.out, M15.out⟩
      case round =>
        clear H15 M15
        obtain ⟨a, ha1, ha2, rfl, hv, ma⟩ := hrel
        have HX := Lib.hid hv
        have MX := Lib.hid ma
        clear hv ma
        have t0 := HX.out.box.box.c 0 _ rfl
        have c0 := HX.out.lv.box.box.c 0 _ rfl
        by_cases hlt : a ≤ n
        · have e6 : decide ((a : Int) ≤ (n : Int)) = true := decide_eq_true (by omega)
          have e6n : decide (a ≤ n) = true := decide_eq_true hlt
          have hq := List.all_eq_true.1 HT.out a (List.mem_range'_1.2 ⟨ha1, by omega⟩)
          unfold toldB at hq
          split at hq
          case h_2 => cases hq
          rename_i sn hsl
          have HLEN : Hid (sn.T.length = k) := Lib.hid (by simpa using hq)
          have HSL := Lib.hid hsl
          have HAI : Hid (1 ≤ a ∧ a ≤ Lg.W.n) := Lib.hid ⟨ha1, by rw [HX.out.lv.q.nn, HNA.out]; exact hlt⟩
          have q0 : ((k : Int) != (k : Int)) = false := by simp
          clear hq hsl
          go_wp2_with fail
          refine (wnode_up HX.out.lv.q.wr HAI.out HSL.out).mono ?_
          rintro e w9 ⟨xx, cc, AA, rfl, -, -, nd, -, -, -, rfl⟩
          have TT := Lib.hid (ntold_any nd)
          rw [HLEN.out] at TT
          clear nd
          go_wp2_with fail
          refine TT.out.mono ?_
          rintro e w10 ⟨pt, ct, rfl, -, x10⟩
          have H10 := Lib.hid (HX.out.ext x10)
          have M10 := Lib.hid (MX.out.tr (Fm.ext MX.out.cl x10) top0)
          clear x10 TT
          go_wp2
          go_roundw
          case rel => exact ⟨a + 1, by omega, by omega, by go_num, H10.out, M10.out⟩
          case measure => simp [intOf]; omega
        · have e6 : decide ((a : Int) ≤ (n : Int)) = false := decide_eq_false (by omega)
          have e6n : decide (a ≤ n) = false := decide_eq_false hlt
          go_wp2
          go_ret
          exact ⟨rfl, MX.out.all top0⟩
end Go.Proofs.YtjhbmbbmjaabcaaGreat
set_option linter.unusedVariables false
set_option maxRecDepth 8000
set_option maxHeartbeats 8000000

