/-
  The sum of bytes as a plain function of numbers, and its laws: linear over the exclusive or, no two words of up to four bytes alike. No program in sight. No condition beyond those written at each.
-/
import Derived.Test.YtgplmbchlahbkaaKit
namespace Go.Proofs.Ytgplmbchlahbkaa

/-- One bit. -/
def stp (x : Nat) : Nat := if x % 2 = 1 then x / 2 ^^^ 3988292384 else x / 2
def stps : Nat → Nat → Nat
  | 0, x => x
  | n + 1, x => stp (stps n x)
def upd (x : Nat) (c : UInt8) : Nat := stps 8 (x ^^^ c.toNat)
def crcF (x : Nat) (l : List UInt8) : Nat := l.foldl upd x
def crc (l : List UInt8) : Nat := 4294967295 ^^^ crcF 4294967295 l
/-- The four bytes of a sum. -/
def b4 (x : Nat) : List UInt8 := [UInt8.ofNat (x / 16777216), UInt8.ofNat (x / 65536), UInt8.ofNat (x / 256), UInt8.ofNat x]
def sealL (l : List UInt8) : List UInt8 := l ++ b4 (crc l)
def opens (l : List UInt8) : Bool := decide (4 ≤ l.length) && (b4 (crc (l.take (l.length - 4))) == l.drop (l.length - 4))
def openL (l : List UInt8) : List UInt8 := if opens l then l.take (l.length - 4) else []

theorem xor_lt32 {a b : Nat} (h : a < 4294967296) (k : b < 4294967296) : a ^^^ b < 4294967296 := Nat.xor_lt_two_pow (n := 32) h k
theorem stp_lt {x : Nat} (h : x < 4294967296) : stp x < 4294967296 := by
  unfold stp
  split
  · exact xor_lt32 (by omega) (by omega)
  · omega
theorem stps_lt (n : Nat) {x : Nat} (h : x < 4294967296) : stps n x < 4294967296 := by
  induction n with
  | zero => exact h
  | succ n ih => exact stp_lt ih
theorem byte_lt (c : UInt8) : c.toNat < 4294967296 := by have := c.toNat_lt; omega
theorem upd_lt {x : Nat} (c : UInt8) (h : x < 4294967296) : upd x c < 4294967296 := stps_lt 8 (xor_lt32 h (byte_lt c))
theorem crcF_lt (l : List UInt8) : ∀ {x : Nat}, x < 4294967296 → crcF x l < 4294967296 := by
  induction l with
  | nil => intro x h; exact h
  | cons c l ih => intro x h; exact ih (upd_lt c h)
theorem crc_lt (l : List UInt8) : crc l < 4294967296 := xor_lt32 (by omega) (crcF_lt l (by omega))
theorem crcF_snoc (x : Nat) (l : List UInt8) (c : UInt8) : crcF x (l ++ [c]) = upd (crcF x l) c := by simp [crcF, List.foldl_append]
theorem crcF_append (x : Nat) (l k : List UInt8) : crcF x (l ++ k) = crcF (crcF x l) k := by simp [crcF, List.foldl_append]
theorem crcF_take (l : List UInt8) (x k : Nat) (c : UInt8) (hc : l[k]? = some c) : crcF x (l.take (k + 1)) = upd (crcF x (l.take k)) c := by
  rw [List.take_add_one, hc]
  exact crcF_snoc _ _ _

/-! ### Linear -/
theorem half_xor (a b : Nat) : (a ^^^ b) / 2 = a / 2 ^^^ b / 2 := by
  have := Nat.shiftRight_xor_distrib (a := a) (b := b) (i := 1)
  simpa [Nat.shiftRight_eq_div_pow] using this
theorem odd_xor (a b : Nat) : (a ^^^ b) % 2 = (a % 2 + b % 2) % 2 := by
  have h := Nat.xor_mod_two_pow (a := a) (b := b) (n := 1)
  simp only [Nat.pow_one] at h
  rw [h]
  rcases Nat.mod_two_eq_zero_or_one a with ha | ha <;> rcases Nat.mod_two_eq_zero_or_one b with hb | hb <;> simp [ha, hb]
theorem stp_xor (a b : Nat) : stp (a ^^^ b) = stp a ^^^ stp b := by
  unfold stp
  rw [half_xor, odd_xor]
  rcases Nat.mod_two_eq_zero_or_one a with ha | ha <;> rcases Nat.mod_two_eq_zero_or_one b with hb | hb <;> simp only [ha, hb]
  · simp
  · simp [Nat.xor_assoc]
  · rw [if_pos (by decide), if_pos trivial, if_neg (by decide)]
    rw [Nat.xor_assoc, Nat.xor_assoc, Nat.xor_comm (b / 2)]
  · rw [if_neg (by decide), if_pos trivial, if_pos trivial]
    rw [Nat.xor_assoc, ← Nat.xor_assoc 3988292384, Nat.xor_comm 3988292384, Nat.xor_assoc (b / 2), Nat.xor_self, Nat.xor_zero]
theorem stps_xor (n a b : Nat) : stps n (a ^^^ b) = stps n a ^^^ stps n b := by
  induction n with
  | zero => rfl
  | succ n ih => simp only [stps, ih, stp_xor]
theorem xor4 (a b c d : Nat) : (a ^^^ b) ^^^ (c ^^^ d) = (a ^^^ c) ^^^ (b ^^^ d) := by
  rw [Nat.xor_assoc, Nat.xor_assoc, ← Nat.xor_assoc b c d, Nat.xor_comm b c, Nat.xor_assoc c b d]
theorem upd_xor (a b : Nat) (c d : UInt8) : upd (a ^^^ b) (c ^^^ d) = upd a c ^^^ upd b d := by
  unfold upd
  rw [UInt8.toNat_xor, xor4, stps_xor]
theorem crcF_xor : ∀ (l k : List UInt8) (x y : Nat), l.length = k.length → crcF (x ^^^ y) (List.zipWith (· ^^^ ·) l k) = crcF x l ^^^ crcF y k
  | [], [], _, _, _ => rfl
  | c :: l, d :: k, x, y, h => by
    simp only [crcF, List.zipWith_cons_cons, List.foldl_cons]
    rw [upd_xor]
    exact crcF_xor l k _ _ (by simpa using h)
  | [], _ :: _, _, _, h => by simp at h
  | _ :: _, [], _, _, h => by simp at h
theorem crc_three (a b c : List UInt8) (h1 : a.length = b.length) (h2 : a.length = c.length) :
    crc (List.zipWith (· ^^^ ·) (List.zipWith (· ^^^ ·) a b) c) = crc a ^^^ crc b ^^^ crc c := by
  have e : crcF 4294967295 (List.zipWith (· ^^^ ·) (List.zipWith (· ^^^ ·) a b) c) = crcF 4294967295 a ^^^ crcF 4294967295 b ^^^ crcF 4294967295 c := by
    rw [← crcF_xor _ _ _ _ h1, ← crcF_xor _ _ _ _ (by simp [h1, ← h2])]
    simp
  unfold crc
  rw [e, xor4 4294967295, Nat.xor_self, Nat.zero_xor]
  rw [← Nat.xor_assoc, Nat.xor_comm 4294967295, Nat.xor_assoc]

/-! ### One to one -/
theorem xor_eq_nil {a b : Nat} (h : a ^^^ b = 0) : a = b := by
  have := congrArg (· ^^^ b) h
  simpa [Nat.xor_assoc] using this
theorem stp_zero {x : Nat} (hx : x < 4294967296) (h : stp x = 0) : x = 0 := by
  unfold stp at h
  split at h
  · have : x / 2 = 3988292384 := xor_eq_nil h
    omega
  · omega
theorem stps_zero (n : Nat) {x : Nat} (hx : x < 4294967296) (h : stps n x = 0) : x = 0 := by
  induction n with
  | zero => exact h
  | succ n ih => exact ih (stp_zero (stps_lt n hx) h)
theorem stps_nil (n : Nat) : stps n 0 = 0 := by
  induction n with
  | zero => rfl
  | succ n ih => simp [stps, ih, stp]
theorem stps_inj (n : Nat) {a b : Nat} (ha : a < 4294967296) (hb : b < 4294967296) (h : stps n a = stps n b) : a = b := by
  have : stps n (a ^^^ b) = 0 := by rw [stps_xor, h, Nat.xor_self]
  exact xor_eq_nil (stps_zero n (xor_lt32 ha hb) this)
theorem stps_shift (n : Nat) : ∀ y, stps n (y * 2 ^ n) = y := by
  induction n with
  | zero => intro y; simp [stps]
  | succ n ih =>
    intro y
    have : y * 2 ^ (n + 1) = (2 * y) * 2 ^ n := by rw [Nat.pow_succ, Nat.mul_comm 2 y, Nat.mul_assoc, Nat.mul_comm 2]
    rw [this]
    simp only [stps, ih]
    unfold stp
    rw [if_neg (by omega)]
    omega
/-- The word of up to four bytes. -/
def word : List UInt8 → Nat
  | [] => 0
  | c :: r => c.toNat ^^^ (word r * 256)
theorem word_lt : ∀ (l : List UInt8), word l < 2 ^ (8 * l.length)
  | [] => by simp [word]
  | c :: r => by
    have h := word_lt r
    have hc := c.toNat_lt
    have e : 2 ^ (8 * (c :: r).length) = 2 ^ (8 * r.length) * 256 := by
      rw [List.length_cons, Nat.mul_add, Nat.pow_add]
    have h1 : 0 < 2 ^ (8 * r.length) := Nat.pow_pos (by decide)
    refine Nat.xor_lt_two_pow (by rw [e]; omega) (by rw [e]; omega)
theorem word_zero : ∀ (l : List UInt8), word l = 0 → ∀ c ∈ l, c = 0
  | [], _, c, hc => by cases hc
  | d :: r, h, c, hc => by
    have hd := d.toNat_lt
    have e : d.toNat = word r * 256 := xor_eq_nil h
    have h0 : word r = 0 := by omega
    rcases List.mem_cons.1 hc with rfl | hr
    · exact UInt8.toNat_inj.1 (by rw [e, h0]; rfl)
    · exact word_zero r h0 c hr
theorem crcF_word : ∀ (l : List UInt8) (d : Nat), d < 4294967296 → l.length ≤ 4 → crcF d l = 0 → d = word l
  | [], d, _, _, h => h
  | c :: r, d, hd, hl, h => by
    have hl' : r.length ≤ 3 := by simpa using hl
    have h1 := crcF_word r (upd d c) (upd_lt c hd) (by omega) h
    have hw := word_lt r
    have hp : 2 ^ (8 * r.length) ≤ 2 ^ 24 := Nat.pow_le_pow_right (by decide) (by omega)
    have hw2 : word r < 16777216 := by omega
    have h2 : stps 8 (d ^^^ c.toNat) = stps 8 (word r * 256) := by
      rw [show word r * 256 = word r * 2 ^ 8 from rfl, stps_shift]
      exact h1
    have h3 := stps_inj 8 (xor_lt32 hd (byte_lt c)) (by omega) h2
    have h4 : d = c.toNat ^^^ (d ^^^ c.toNat) := by rw [Nat.xor_comm d, ← Nat.xor_assoc, Nat.xor_self, Nat.zero_xor]
    rw [h4, h3]
    rfl
theorem crcF_zeros (n : Nat) : ∀ {d : Nat}, d < 4294967296 → crcF d (List.replicate n 0) = 0 → d = 0 := by
  induction n with
  | zero => intro d _ h; exact h
  | succ n ih =>
    intro d hd h
    have := ih (upd_lt 0 hd) h
    have := stps_zero 8 (xor_lt32 hd (byte_lt 0)) this
    simpa using this
theorem crcF_nil (n : Nat) : crcF 0 (List.replicate n 0) = 0 := by
  induction n with
  | zero => rfl
  | succ n ih => simpa [crcF, List.replicate_succ, upd, stps_nil] using ih
theorem crcF_burst (i : Nat) (x : List UInt8) (j : Nat) (hx : x.length ≤ 4) (hs : ∃ c ∈ x, c ≠ 0) : crcF 0 (List.replicate i 0 ++ x ++ List.replicate j 0) ≠ 0 := by
  intro h
  rw [crcF_append, crcF_append, crcF_nil] at h
  have h1 := crcF_zeros j (crcF_lt x (by omega)) h
  have h2 := crcF_word x 0 (by omega) hx h1
  obtain ⟨c, hc, hne⟩ := hs
  exact hne (word_zero x h2.symm c hc)
/-- Bytes of which up to four behind one another were changed have another sum. -/
theorem crc_burst (l : List UInt8) (i : Nat) (x : List UInt8) (hx : x.length ≤ 4) (hi : i + x.length ≤ l.length) (hs : ∃ c ∈ x, c ≠ 0) :
    crc (List.zipWith (· ^^^ ·) l (List.replicate i 0 ++ x ++ List.replicate (l.length - (i + x.length)) 0)) ≠ crc l := by
  intro h
  have hl : (List.replicate i (0 : UInt8) ++ x ++ List.replicate (l.length - (i + x.length)) 0).length = l.length := by simp; omega
  have e := crcF_xor l _ 4294967295 0 hl.symm
  rw [Nat.xor_zero] at e
  have h1 : crcF 4294967295 l ^^^ crcF 0 (List.replicate i 0 ++ x ++ List.replicate (l.length - (i + x.length)) 0) = crcF 4294967295 l := by
    rw [← e]
    unfold crc at h
    have := congrArg (4294967295 ^^^ ·) h
    simpa [← Nat.xor_assoc] using this
  have h2 := congrArg (crcF 4294967295 l ^^^ ·) h1
  simp only [← Nat.xor_assoc, Nat.xor_self, Nat.zero_xor] at h2
  exact crcF_burst i x _ hx hs h2
theorem b4_inj {x y : Nat} (hx : x < 4294967296) (hy : y < 4294967296) (h : b4 x = b4 y) : x = y := by
  simp only [b4, List.cons.injEq, and_true, ← UInt8.toNat_inj, UInt8.toNat_ofNat'] at h
  omega
theorem b4_length (x : Nat) : (b4 x).length = 4 := rfl
theorem sealL_length (l : List UInt8) : (sealL l).length = l.length + 4 := by simp [sealL, b4_length]
theorem opens_seal (l : List UInt8) : opens (sealL l) = true := by
  have e : (sealL l).length - 4 = l.length := by rw [sealL_length]; omega
  unfold opens
  rw [e, sealL_length]
  simp [sealL]
theorem openL_seal (l : List UInt8) : openL (sealL l) = l := by
  have e : (sealL l).length - 4 = l.length := by rw [sealL_length]; omega
  unfold openL
  rw [opens_seal, if_pos rfl, e]
  simp [sealL]
/-- What is sealed: four bytes behind it, its sum. -/
theorem opens_iff (l : List UInt8) : opens l = true ↔ ∃ k, l = sealL k := by
  constructor
  · intro h
    unfold opens at h
    simp only [Bool.and_eq_true, decide_eq_true_eq, beq_iff_eq] at h
    exact ⟨l.take (l.length - 4), by unfold sealL; rw [h.2, List.take_append_drop]⟩
  · rintro ⟨k, rfl⟩
    exact opens_seal k
/-- What the bytes are once the byte number j is changed. -/
def flip (l : List UInt8) (j : Nat) (x : UInt8) : List UInt8 := l.set j (l.getD j 0 ^^^ x)
theorem flip_length (l : List UInt8) (j : Nat) (x : UInt8) : (flip l j x).length = l.length := by simp [flip]
theorem zip_one (l : List UInt8) (j : Nat) (x : UInt8) (hj : j < l.length) : flip l j x = List.zipWith (· ^^^ ·) l (List.replicate j 0 ++ [x] ++ List.replicate (l.length - (j + 1)) 0) := by
  apply List.ext_getElem?
  intro i
  unfold flip
  rw [List.getElem?_zipWith, List.getElem?_set]
  by_cases hi : i < l.length
  · rw [List.getElem?_eq_getElem hi]
    by_cases hij : j = i
    · subst hij
      simp [hi]
    · rw [if_neg hij]
      by_cases h2 : i < j
      · rw [List.getElem?_append_left (by simp; omega), List.getElem?_append_left (by simpa using h2)]
        simp [h2]
      · rw [List.getElem?_append_right (by simp; omega)]
        simp [show i - (j + 1) < l.length - (j + 1) by omega]
  · rw [List.getElem?_eq_none (by omega)]
    rw [if_neg (by omega)]
theorem xor_ne (a x : UInt8) (h : x ≠ 0) : a ^^^ x ≠ a := by
  intro e
  have := congrArg (a ^^^ ·) e
  simp only [← UInt8.xor_assoc, UInt8.xor_self, UInt8.zero_xor] at this
  exact h this
/-- One byte of sealed bytes was changed: they are not opened. -/
theorem opens_flip (l : List UInt8) (j : Nat) (x : UInt8) (hj : j < (sealL l).length) (hx : x ≠ 0) : opens (flip (sealL l) j x) = false := by
  rw [sealL_length] at hj
  have hlen : (flip (sealL l) j x).length - 4 = l.length := by rw [flip_length, sealL_length]; omega
  unfold opens
  rw [hlen, flip_length, sealL_length]
  simp only [Bool.and_eq_false_iff]
  right
  rw [beq_eq_false_iff_ne]
  intro h
  by_cases hjl : j < l.length
  · have e1 : (flip (sealL l) j x).take l.length = flip l j x := by
      unfold flip sealL
      rw [List.take_set, List.take_left']
      · simp [List.getD, hjl, List.getElem?_append]
      · rfl
    have e2 : (flip (sealL l) j x).drop l.length = b4 (crc l) := by
      unfold flip sealL
      rw [List.drop_set, if_pos hjl, List.drop_left']
      rfl
    rw [e1, e2] at h
    have := b4_inj (crc_lt _) (crc_lt _) h
    rw [zip_one l j x hjl] at this
    exact crc_burst l j [x] (by simp) (by simp; omega) ⟨x, by simp, hx⟩ (by simpa using this)
  · have e1 : (flip (sealL l) j x).take l.length = l := by
      unfold flip sealL
      rw [List.take_set, List.take_left' rfl, List.set_eq_of_length_le (by omega)]
    rw [e1] at h
    have h3 := congrArg (fun k => k[j - l.length]?) h
    simp only [List.getElem?_drop, flip] at h3
    have ej : l.length + (j - l.length) = j := by omega
    rw [ej, List.getElem?_set_self (by rw [sealL_length]; omega)] at h3
    have e3 : (sealL l)[j]? = (b4 (crc l))[j - l.length]? := by
      unfold sealL
      rw [List.getElem?_append_right (by omega)]
    have hb : j - l.length < (b4 (crc l)).length := by rw [b4_length]; omega
    rw [List.getD_eq_getElem?_getD, e3, List.getElem?_eq_getElem hb] at h3
    simp only [Option.getD_some, Option.some.injEq] at h3
    exact xor_ne _ x hx h3.symm
end Go.Proofs.Ytgplmbchlahbkaa
