/-
  The plain law of messages as bytes. No program in sight.
-/
import Derived.Test.YtgplmbchlahbkaaEntry8
import Derived.Test.YtgplmbchlahbkaaCrcSeal
namespace Go.Proofs.Ytgplmbchlahbkaa
set_option linter.unusedVariables false

/-- A message but for its entries. -/
structure MsD where
  kd : Int
  fr : Int
  to : Int
  bt : Int
  vw : Int
  ls : Int
  mb : Int
  po : Int
  cm : Int
  nm : Int
  ck : Int
  ye : Bool
def MsOk (m : MsD) : Prop := I64 m.kd ∧ I64 m.fr ∧ I64 m.to ∧ I64 m.bt ∧ I64 m.vw ∧ I64 m.ls ∧ I64 m.mb ∧ I64 m.po ∧ I64 m.cm ∧ I64 m.nm ∧ I64 m.ck
def zeroM : MsD := ⟨0, 0, 0, 0, 0, 0, 0, 0, 0, 0, 0, false⟩
abbrev msL (m : MsD) (p : Option Addr) (n cap : Nat) : List Value := [.int .i64 m.kd, .int .i64 m.fr, .int .i64 m.to, .int .i64 m.bt, .int .i64 m.vw, .int .i64 m.ls, .int .i64 m.mb, .int .i64 m.po, .slice p n cap, .int .i64 m.cm, .int .i64 m.nm, .int .i64 m.ck, .bool m.ye]
abbrev msA (m : MsD) (p : Option Addr) (n cap : Nat) : Array Value := #[.int .i64 m.kd, .int .i64 m.fr, .int .i64 m.to, .int .i64 m.bt, .int .i64 m.vw, .int .i64 m.ls, .int .i64 m.mb, .int .i64 m.po, .slice p n cap, .int .i64 m.cm, .int .i64 m.nm, .int .i64 m.ck, .bool m.ye]
abbrev msV (m : MsD) (p : Option Addr) (n cap : Nat) : Value := .agg (msA m p n cap)
def whoB (m : MsD) : Bool := [m.kd].all (inB 1 13) && ([m.fr, m.to].all (inB 1 7) && ((m.fr != m.to) && [m.bt].all (inB 1 1099511627776)))
def whatB (m : MsD) : Bool := [m.vw, m.ls, m.nm, m.ck].all (inB 0 1099511627776) && ([m.mb].all (inB 0 127) && [m.po, m.cm].all (inB 0 60))
def mayM (m : MsD) (L : List EnD) : Bool := whoB m && (whatB m && (decide (L.length ≤ 60) && L.all mayB))
theorem who_iff (m : MsD) : whoB m = true ↔ 1 ≤ m.kd ∧ m.kd ≤ 13 ∧ 1 ≤ m.fr ∧ m.fr ≤ 7 ∧ 1 ≤ m.to ∧ m.to ≤ 7 ∧ m.fr ≠ m.to ∧ 1 ≤ m.bt ∧ m.bt ≤ 1099511627776 := by
  simp [whoB, inB, and_assoc]
theorem what_iff (m : MsD) : whatB m = true ↔ 0 ≤ m.vw ∧ m.vw ≤ 1099511627776 ∧ 0 ≤ m.ls ∧ m.ls ≤ 1099511627776 ∧ 0 ≤ m.nm ∧ m.nm ≤ 1099511627776 ∧ 0 ≤ m.ck ∧ m.ck ≤ 1099511627776 ∧ 0 ≤ m.mb ∧ m.mb ≤ 127 ∧ 0 ≤ m.po ∧ m.po ≤ 60 ∧ 0 ≤ m.cm ∧ m.cm ≤ 60 := by
  simp [whatB, inB, and_assoc]
theorem mayM_iff {m : MsD} {L : List EnD} : mayM m L = true ↔ whoB m = true ∧ whatB m = true ∧ L.length ≤ 60 ∧ L.all mayB = true := by
  simp [mayM]
def yeI (m : MsD) : Int := if m.ye then 1 else 0
def numsM (m : MsD) (n : Nat) : List Int := [m.kd, m.fr, m.to, m.bt, m.vw, m.ls, m.mb, m.po, m.cm, m.nm, m.ck, yeI m, (n : Int)]
def bodyM (m : MsD) (L : List EnD) : List UInt8 := encs (numsM m L.length) ++ encAll L
def encM (m : MsD) (L : List EnD) : List UInt8 := if mayM m L then sealL (bodyM m L) else []
theorem yeI_ok (m : MsD) : I64 (yeI m) := by unfold yeI I64; split <;> omega
theorem yeI_one (m : MsD) : decide (yeI m = 1) = m.ye := by unfold yeI; cases m.ye <;> rfl
theorem numsM_ok {m : MsD} {n : Nat} (h : MsOk m) (hn : n ≤ 1000000) : ∀ x ∈ numsM m n, I64 x := by
  obtain ⟨h1, h2, h3, h4, h5, h6, h7, h8, h9, h10, h11⟩ := h
  have h12 := yeI_ok m
  have h13 : I64 (n : Int) := by unfold I64; omega
  intro x hx
  simp [numsM] at hx
  rcases hx with rfl | rfl | rfl | rfl | rfl | rfl | rfl | rfl | rfl | rfl | rfl | rfl | rfl <;> assumption
theorem encs_lenM : ∀ (zs : List Int), (∀ x ∈ zs, I64 x) → (encs zs).length ≤ 10 * zs.length
  | [], _ => by simp [encs]
  | x :: zs, h => by
    have h1 := enc_len10 (h x (by simp))
    have h2 := encs_lenM zs (fun y hy => h y (by simp [hy]))
    simp only [encs, List.length_append, List.length_cons]
    omega
theorem enB_len86 {e : EnD} (h : EnOk e) (hm : e.da.size ≤ 16) : (enB e).length ≤ 86 := by
  obtain ⟨h1, h2, h3, h4, h5, h6, h7⟩ := h
  have a1 := enc_len10 h1
  have a2 := enc_len10 h2
  have a3 := enc_len10 h3
  have a4 := enc_len10 h4
  have a5 := enc_len10 h5
  have a6 := enc_len10 h6
  have hs := size_list e.da
  have a7 : (enc (zig (e.da.data.toList.length : Int))).length ≤ 10 := enc_len10 ⟨by omega, by omega⟩
  simp only [enB, nums, encs, txt, List.length_append, List.length_nil]
  omega
theorem encAll_len86 : ∀ {L : List EnD}, (∀ e ∈ L, EnOk e) → L.all mayB = true → (encAll L).length ≤ 86 * L.length := by
  intro L h hm
  unfold encAll
  rw [if_pos hm]
  induction L with
  | nil => simp
  | cons e L ih =>
    have hm2 : mayB e = true ∧ L.all mayB = true := by simpa using hm
    have h1 := enB_len86 (h e (by simp)) (may_size hm2.1)
    have h2 := ih (fun x hx => h x (by simp [hx])) hm2.2
    simp only [List.map_cons, List.flatten_cons, List.length_append, List.length_cons]
    omega
theorem bodyM_len {m : MsD} {L : List EnD} (h : MsOk m) (hL : ∀ e ∈ L, EnOk e) (hm : mayM m L = true) : (bodyM m L).length ≤ 5290 := by
  obtain ⟨-, -, h1, h2⟩ := mayM_iff.1 hm
  have a := encs_lenM _ (numsM_ok h (show L.length ≤ 1000000 by omega))
  have b := encAll_len86 hL h2
  have c : (numsM m L.length).length = 13 := rfl
  unfold bodyM
  rw [List.length_append]
  omega
theorem encM_len {m : MsD} {L : List EnD} (h : MsOk m) (hL : ∀ e ∈ L, EnOk e) : (encM m L).length ≤ 5294 := by
  unfold encM
  split
  · rename_i hm
    rw [sealL_length]
    have := bodyM_len h hL hm
    omega
  · simp
theorem encM_pos {m : MsD} {L : List EnD} (hm : mayM m L = true) : 17 ≤ (encM m L).length := by
  unfold encM
  rw [if_pos hm, sealL_length]
  unfold bodyM
  rw [List.length_append]
  simp only [numsM, encs, List.length_append, List.length_nil]
  have h := fun x => enc_pos x
  have := h (zig m.kd)
  have := h (zig m.fr)
  have := h (zig m.to)
  have := h (zig m.bt)
  have := h (zig m.vw)
  have := h (zig m.ls)
  have := h (zig m.mb)
  have := h (zig m.po)
  have := h (zig m.cm)
  have := h (zig m.nm)
  have := h (zig m.ck)
  have := h (zig (yeI m))
  have := h (zig (L.length : Int))
  omega
theorem encM_no {m : MsD} {L : List EnD} (hm : mayM m L = false) : encM m L = [] := by
  unfold encM
  rw [hm]
  rfl
def ofNums : List Int → Option MsD
  | [k, f, t, b, v, l, mb, po, cm, nm, ck, y, _] => some ⟨k, f, t, b, v, l, mb, po, cm, nm, ck, decide (y = 1)⟩
  | _ => none
theorem ofNums_nums (m : MsD) (n : Nat) : ofNums (numsM m n) = some m := by
  show some (⟨m.kd, m.fr, m.to, m.bt, m.vw, m.ls, m.mb, m.po, m.cm, m.nm, m.ck, decide (yeI m = 1)⟩ : MsD) = some m
  rw [yeI_one]
theorem ofNums_ok {l : List Int} {m : MsD} (h : ofNums l = some m) (hl : ∀ x ∈ l, I64 x) : MsOk m := by
  unfold ofNums at h
  split at h
  · cases h
    exact ⟨hl _ (by simp), hl _ (by simp), hl _ (by simp), hl _ (by simp), hl _ (by simp), hl _ (by simp), hl _ (by simp), hl _ (by simp), hl _ (by simp), hl _ (by simp), hl _ (by simp)⟩
  · cases h
def decM (b : List UInt8) : Option (MsD × List EnD) :=
  if opens b = true then
    match parseN (openL b) 13 with
    | none => none
    | some (l, i) => match ofNums l with
      | none => none
      | some m => match decL ((openL b).drop i) with
        | none => none
        | some L => if encM m L = b ∧ mayM m L = true then some (m, L) else none
  else none
theorem decM_enc {m : MsD} {L : List EnD} (h : MsOk m) (hL : ∀ e ∈ L, EnOk e) (hm : mayM m L = true) : decM (encM m L) = some (m, L) := by
  obtain ⟨-, -, h1, h2⟩ := mayM_iff.1 hm
  have e : encM m L = sealL (bodyM m L) := by unfold encM; rw [if_pos hm]
  have p := parseN_encs (numsM_ok h (show L.length ≤ 1000000 by omega)) (encAll L) 13 (by simp [numsM])
  have t : (numsM m L.length).take 13 = numsM m L.length := List.take_of_length_le (by simp [numsM])
  rw [t] at p
  unfold decM
  rw [e, if_pos (opens_seal _), openL_seal]
  unfold bodyM
  rw [p]
  simp only [ofNums_nums, List.drop_left, decL_enc hL h2]
  rw [if_pos ⟨by rw [e]; rfl, hm⟩]
theorem decM_some {b : List UInt8} {m : MsD} {L : List EnD} (h : decM b = some (m, L)) : encM m L = b ∧ mayM m L = true ∧ MsOk m := by
  unfold decM at h
  split at h
  · split at h
    · cases h
    · rename_i l i hp
      split at h
      · cases h
      · rename_i m' ho
        split at h
        · cases h
        · rename_i L' hd
          split at h
          · rename_i hh
            cases h
            exact ⟨hh.1, hh.2, ofNums_ok ho (parseN_in hp).2.1⟩
          · cases h
  · cases h
theorem encM_inj {m m' : MsD} {L L' : List EnD} (h : MsOk m) (hL : ∀ e ∈ L, EnOk e) (h' : MsOk m') (hL' : ∀ e ∈ L', EnOk e) (hm : mayM m L = true) (hm' : mayM m' L' = true) (he : encM m L = encM m' L') : m = m' ∧ L = L' := by
  have h1 := decM_enc h hL hm
  rw [he, decM_enc h' hL' hm'] at h1
  injection h1 with h1
  injection h1 with h2 h3
  exact ⟨h2.symm, h3.symm⟩
theorem decM_flip {m : MsD} {L : List EnD} (hm : mayM m L = true) {j : Nat} {x : UInt8} (hj : j < (encM m L).length) (hx : x ≠ 0) : decM (flip (encM m L) j x) = none := by
  have e : encM m L = sealL (bodyM m L) := by unfold encM; rw [if_pos hm]
  rw [e] at hj ⊢
  unfold decM
  rw [if_neg (by rw [opens_flip _ j x hj hx]; decide)]
def eqH (a b : MsD) : Bool := decide (a.kd = b.kd) && (decide (a.fr = b.fr) && (decide (a.to = b.to) && (decide (a.bt = b.bt) && (decide (a.vw = b.vw) && (decide (a.ls = b.ls) && (decide (a.mb = b.mb) && (decide (a.po = b.po) && (decide (a.cm = b.cm) && (decide (a.nm = b.nm) && (decide (a.ck = b.ck) && decide (a.ye = b.ye)))))))))))
def eqM (a : MsD) (L : List EnD) (b : MsD) (M : List EnD) : Bool := eqH a b && eqL L M
theorem eqH_iff (a b : MsD) : eqH a b = true ↔ a = b := by
  obtain ⟨a1, a2, a3, a4, a5, a6, a7, a8, a9, a10, a11, a12⟩ := a
  obtain ⟨b1, b2, b3, b4, b5, b6, b7, b8, b9, b10, b11, b12⟩ := b
  simp [eqH]
theorem eqM_iff (a : MsD) (L : List EnD) (b : MsD) (M : List EnD) : eqM a L b M = true ↔ a = b ∧ L = M := by
  unfold eqM
  rw [Bool.and_eq_true, eqH_iff, eqL_iff]
theorem nums_eq (a b : MsD) (n m : Nat) : numsM a n = numsM b m ↔ a = b ∧ n = m := by
  constructor
  · intro h
    have h1 := ofNums_nums a n
    rw [h, ofNums_nums] at h1
    injection h1 with h1
    have h2 : ((n : Int)) = (m : Int) := by
      have := congrArg (fun l => l.getD 12 0) h
      simpa [numsM] using this
    exact ⟨h1.symm, by omega⟩
  · rintro ⟨rfl, rfl⟩; rfl
end Go.Proofs.Ytgplmbchlahbkaa
