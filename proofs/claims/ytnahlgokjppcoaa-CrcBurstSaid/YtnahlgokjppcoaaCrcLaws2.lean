/-
  The walks of the statements CrcBurst and CrcEach: whatever the input, the law returns true and nothing that was there is changed. No condition.
-/
import Derived.Test.YtnahlgokjppcoaaCrcLaws
namespace Go.Proofs.Ytnahlgokjppcoaa
open Go Go.Sort Go.RowKit
set_option linter.unusedVariables false

/-- Bytes by which others are changed: xs from at on, else nothing. -/
def pat (i : Nat) (xs : List UInt8) (n : Nat) : List UInt8 := List.replicate i 0 ++ xs ++ List.replicate (n - (i + xs.length)) 0
theorem pat_get (i : Nat) (xs : List UInt8) (n j : Nat) (h : i + xs.length ≤ n) (hj : j < n) : (pat i xs n)[j]? = some (if i ≤ j then xs.getD (j - i) 0 else 0) := by
  unfold pat
  by_cases h1 : j < i
  · rw [List.getElem?_append_left (by simp; omega), List.getElem?_append_left (by simpa using h1), if_neg (by omega)]
    simp [h1]
  · rw [if_pos (by omega)]
    by_cases h2 : j < i + xs.length
    · rw [List.getElem?_append_left (by simp; omega), List.getElem?_append_right (by simp; omega)]
      simp [show j - i < xs.length by omega]
    · rw [List.getElem?_append_right (by simp; omega)]
      have e : xs[j - i]? = none := List.getElem?_eq_none (by omega)
      rw [List.getElem?_replicate, if_pos (by simp; omega), List.getD_eq_getElem?_getD, e]
      rfl
def bur (s : List UInt8) (i : Nat) (xs : List UInt8) : List UInt8 := List.zipWith (· ^^^ ·) s (pat i xs s.length)
theorem pat_length (i : Nat) (xs : List UInt8) (n : Nat) (h : i + xs.length ≤ n) : (pat i xs n).length = n := by simp [pat]; omega
theorem bur_length (s : List UInt8) (i : Nat) (xs : List UInt8) (h : i + xs.length ≤ s.length) : (bur s i xs).length = s.length := by
  unfold bur; rw [List.length_zipWith, pat_length _ _ _ h]; omega
theorem bur_get (s : List UInt8) (i : Nat) (xs : List UInt8) (j : Nat) (h : i + xs.length ≤ s.length) : (bur s i xs)[j]? = (s[j]?).map (· ^^^ (if i ≤ j then xs.getD (j - i) 0 else 0)) := by
  unfold bur
  rw [List.getElem?_zipWith]
  by_cases hj : j < s.length
  · rw [pat_get i xs s.length j h hj, List.getElem?_eq_getElem hj]
    rfl
  · rw [List.getElem?_eq_none (by omega)]
    rfl
theorem bur_nil (s : List UInt8) (i : Nat) (h : i ≤ s.length) : bur s i [] = s := by
  apply List.ext_getElem?
  intro j
  rw [bur_get s i [] j (by simpa using h)]
  cases s[j]? <;> simp
theorem bur_step (s : List UInt8) (i k : Nat) (xs : List UInt8) (c y : UInt8) (hc : xs[k]? = some c) (h : i + xs.length ≤ s.length) (hy : (bur s i (xs.take k))[i + k]? = some y) :
    (bur s i (xs.take k)).set (i + k) (y ^^^ c) = bur s i (xs.take (k + 1)) := by
  have hk : k < xs.length := (List.getElem?_eq_some_iff.1 hc).1
  have l1 : (xs.take k).length = k := by rw [List.length_take]; omega
  have l2 : (xs.take (k + 1)).length = k + 1 := by rw [List.length_take]; omega
  apply List.ext_getElem?
  intro j
  rw [List.getElem?_set, bur_length _ _ _ (by omega), bur_get _ _ _ j (by omega), bur_get _ _ _ j (by omega)]
  rw [bur_get _ _ _ _ (by omega), if_pos (by omega), show i + k - i = k by omega] at hy
  by_cases hj : i + k = j
  · subst hj
    rw [if_pos rfl, if_pos (by omega), if_pos (by omega), show i + k - i = k by omega]
    have e1 : (xs.take k).getD k 0 = 0 := by rw [List.getD_eq_getElem?_getD, List.getElem?_eq_none (by omega)]; rfl
    have e2 : (xs.take (k + 1)).getD k 0 = c := by rw [List.getD_eq_getElem?_getD, List.getElem?_take, if_pos (by omega), hc]; rfl
    rw [e1] at hy
    rw [e2]
    cases hs : s[i + k]? with
    | none => rw [hs] at hy; cases hy
    | some z =>
      rw [hs] at hy
      simp at hy
      simp [hy]
  · rw [if_neg hj]
    by_cases hij : i ≤ j
    · rw [if_pos hij, if_pos hij]
      congr 2
      have e : (xs.take k).getD (j - i) 0 = (xs.take (k + 1)).getD (j - i) 0 := by
        rw [List.getD_eq_getElem?_getD, List.getD_eq_getElem?_getD, List.getElem?_take, List.getElem?_take]
        by_cases h3 : j - i < k
        · rw [if_pos h3, if_pos (by omega)]
        · rw [if_neg h3, if_neg (by omega)]
      rw [e]
    · rw [if_neg hij, if_neg hij]
theorem opens_bur (l : List UInt8) (i : Nat) (xs : List UInt8) (h4 : xs.length ≤ 4) (h : i + xs.length ≤ l.length) (hs : xs.any (· != 0) = true) : opens (bur (sealL l) i xs) = false := by
  have hsl := sealL_length l
  have hb : (bur (sealL l) i xs).length = l.length + 4 := by rw [bur_length _ _ _ (by omega), hsl]
  have e1 : (bur (sealL l) i xs).take l.length = List.zipWith (· ^^^ ·) l (List.replicate i 0 ++ xs ++ List.replicate (l.length - (i + xs.length)) 0) := by
    apply List.ext_getElem?
    intro j
    have := bur_get l i xs j h
    unfold bur pat at this
    rw [this, List.getElem?_take, bur_get _ _ _ j (by omega)]
    by_cases hj : j < l.length
    · rw [if_pos hj]
      unfold sealL
      rw [List.getElem?_append_left hj]
    · rw [if_neg hj, List.getElem?_eq_none (by omega)]
      rfl
  have e2 : (bur (sealL l) i xs).drop l.length = b4 (crc l) := by
    apply List.ext_getElem?
    intro j
    rw [List.getElem?_drop, bur_get _ _ _ _ (by omega)]
    unfold sealL
    rw [List.getElem?_append_right (by omega), show l.length + j - l.length = j by omega]
    have e : xs.getD (l.length + j - i) 0 = 0 := by rw [List.getD_eq_getElem?_getD, List.getElem?_eq_none (by omega)]; rfl
    rw [e]
    cases (b4 (crc l))[j]? <;> simp
  unfold opens
  rw [hb, Nat.add_sub_cancel, e1, e2]
  simp only [Bool.and_eq_false_iff]
  right
  rw [beq_eq_false_iff_ne]
  intro he
  obtain ⟨c, hc, hne⟩ := List.any_eq_true.1 hs
  exact crc_burst l i xs h4 h ⟨c, hc, by simpa using hne⟩ (b4_inj (crc_lt _) (crc_lt _) he)
theorem any_step (xs : List UInt8) (k : Nat) (c : UInt8) (hc : xs[k]? = some c) : (xs.take (k + 1)).any (· != 0) = ((xs.take k).any (· != 0) || c != 0) := by
  rw [List.take_add_one, hc, List.any_append]
  simp

set_option maxHeartbeats 1000000 in
theorem walk_CrcEach {p : Option Addr} {n c : Nat} {l : List UInt8} {a : Int} {w : World} (h1 : SlP w p n c l) (h2 : 0 ≤ a ∧ a ≤ 255) :
    Calls Try.prog 6 #[.slice p n c, .int .u8 a] w fun e w' => e = .returned (.bool true) ∧ Below w.heap.size w w' := by
  obtain ⟨x, rfl⟩ := u8_of h2
  clear h2
  have hm1 : n ≤ 9223372036854775807 := Nat.le_trans h1.le h1.max
  have H1 := Lib.hid h1
  have hle := h1.le
  clear h1
  obtain ⟨m, hm⟩ : ∃ m, m = min n 60 := ⟨_, rfl⟩
  have hm60 : m ≤ 60 := by omega
  have hmn : m ≤ n := by omega
  have A1 := Lib.hid (H1.out.take m hmn)
  have hcase : (60 < n ∧ m = 60) ∨ (¬ 60 < n ∧ m = n) := by omega
  have cut : m = 60 → 60 ≤ c → ∀ w, (Instr.slice 22 (.slice p n c) none (some (.int .i64 60)) none).run Try.prog w = .ok (.slice p m c) w := fun e h w => by
    rw [e]; exact cut_to p n c 60 h w
  have HLEN := Lib.hid A1.out.len
  generalize l.take m = k at A1 HLEN
  clear hm H1
  have hsl : (sealL k).length = m + 4 := by rw [sealL_length, HLEN.out]
  have HSL := Lib.hid hsl
  have hxne : x ≠ 0 → ((x.toNat : Int) == 0) = false := fun h => beq_eq_false_iff_ne.2 (fun e => h (UInt8.toNat_inj.1 (by simpa using e)))
  have CUT := Lib.hid cut
  have XNE := Lib.hid hxne
  clear cut hxne hsl
  by_cases hx : x = 0
  · subst hx
    rcases hcase with ⟨hlt, hm⟩ | ⟨hlt, rfl⟩
    all_goals
      try (have cut := fun w => CUT.out hm (by omega) w; clear hm)
      go_enter Try.func6, Try.ntmps6
      go_wp2_with fail
      refine (begun2 w).mono ?_
      rintro e w1 ⟨rfl, x1⟩
      have X1 := Lib.hid x1
      clear x1
      go_wp2_with fail
      refine (seal_any (A1.out.ext X1.out) (by omega)).mono ?_
      rintro e w2 ⟨p2, c2, rfl, h2, x2⟩
      have X2 := Lib.hid (X1.out.tr x2)
      clear x2 h2
      go_wp2
      go_ret
      exact ⟨rfl, X2.out⟩
  · have hne := XNE.out hx
    have XN := Lib.hid hx
    clear hx
    rcases hcase with ⟨hlt, hm⟩ | ⟨hlt, rfl⟩
    all_goals
      try (have cut := fun w => CUT.out hm (by omega) w; clear hm)
      go_enter Try.func6, Try.ntmps6
      go_wp2_with fail
      refine (begun2 w).mono ?_
      rintro e w1 ⟨rfl, x1⟩
      have X1 := Lib.hid x1
      clear x1
      go_wp2_with fail
      refine (seal_any (A1.out.ext X1.out) (by omega)).mono ?_
      rintro e w2 ⟨p2, c2, rfl, h2, x2⟩
      have S2 := Lib.hid h2.sl
      have X2 := Lib.hid (X1.out.tr x2)
      clear x2 h2
      go_wp2_with fail
      go_loopw [7] (fun i wr => ∃ j : Nat, j ≤ m + 4 ∧ i = .int .i64 j ∧ Below w2.heap.size w2 wr) (fun i _ => m + 4 - (intOf i).toNat)
      case atStart => exact ⟨0, by omega, rfl, Below.refl _ _⟩
      case round =>
        obtain ⟨j, hj, rfl, hx2⟩ := hrel
        have HX := Lib.hid hx2
        clear hx2
        by_cases hjm : j < m + 4
        · go_wp2_with (at_builtin; refine wpList_app rfl _ _ 22 rfl wr.heap.size Try.underlying22 info5 none 0 0 [] rfl (OwP.nil _ _) p2 (m + 4) c2 (sealL k) rfl (S2.out.ext HX.out) (by omega) (by omega) ?_)
          intro p3 c3 w3 h3 g3
          have X3 := Lib.hid (Ext.own (Ext.rfl' wr) (OwP.nil wr _) g3 rfl)
          obtain ⟨g, y, rfl, hg, hy, hc, hf, hst⟩ := h3.store j hjm
          obtain ⟨z, hz⟩ : ∃ z, z = y ^^^ x := ⟨_, rfl⟩
          have hzz : bits .xor .u8 (y.toNat : Int) (x.toNat : Int) = (z.toNat : Int) := by rw [hz]; exact xor_u8 y x
          have hfl : (sealL k).set j z = flip (sealL k) j x := by unfold flip; rw [List.getD_eq_getElem?_getD, hy, hz]; rfl
          have st := hst z
          rw [hfl] at st
          have ST := Lib.hid st
          have hj0 : (0 : Int) ≤ (j : Int) := by omega
          have hj1 : (j : Int) < (m : Int) + 4 := by omega
          have hlt2 : w2.heap.size ≤ g := Nat.le_trans HX.out.size hg
          clear st hst hfl hz hy h3 g3
          go_wp2_with fail
          refine (open_any ST.out.1.sl (by omega)).mono ?_
          rw [opens_flip k j x (by rw [HSL.out]; exact hjm) XN.out]
          rintro e w4 ⟨p4, c4, rfl, h4, x4⟩
          have X4 : Hid (Below w2.heap.size w2 w4) := Ext.tr (Below.grown (Ext.tr HX.out X3.out) ST.out.2 (Ext.tr HX.out X3.out).size (fun q hq => by cases hq; exact hlt2)) x4
          clear h4 x4
          go_wp2
          go_roundw
          case rel => exact ⟨j + 1, by omega, by go_num, X4.out⟩
          case measure => simp [intOf]; omega
        · obtain rfl : j = m + 4 := by omega
          go_wp2
          go_ret
          exact ⟨rfl, X2.out.tr HX.out⟩
end Go.Proofs.Ytnahlgokjppcoaa
