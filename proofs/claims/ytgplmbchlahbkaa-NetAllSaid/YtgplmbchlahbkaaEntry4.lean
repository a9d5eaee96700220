/-
  The plain law of entries as bytes. No program in sight.
-/
import Derived.Test.YtgplmbchlahbkaaEntry3
namespace Go.Proofs.Ytgplmbchlahbkaa
set_option linter.unusedVariables false

def encs : List Int → List UInt8
  | [] => []
  | x :: l => enc (zig x) ++ encs l
theorem encs_append (a b : List Int) : encs (a ++ b) = encs a ++ encs b := by
  induction a with
  | nil => rfl
  | cons x a ih => simp [encs, ih, List.append_assoc]
theorem encs_take {zs : List Int} {k : Nat} {x : Int} (hx : zs[k]? = some x) : encs (zs.take (k + 1)) = encs (zs.take k) ++ enc (zig x) := by
  rw [List.take_add_one, hx, encs_append]
  simp [encs]
def nums (e : EnD) : List Int := [e.fr, e.bt, e.sq, e.od, e.lv, e.st]
def enB (e : EnD) : List UInt8 := encs (nums e) ++ txt e.da.data.toList
def encAll (l : List EnD) : List UInt8 := if l.all mayB then (l.map enB).flatten else []
theorem size_list (s : ByteArray) : s.data.toList.length = s.size := by cases s; rfl
theorem enc_len10 {x : Int} (h : I64 x) : (enc (zig x)).length ≤ 10 := enc_ten (zig_lt h.1 h.2)
theorem enB_len {e : EnD} (h : EnOk e) (hm : e.da.size ≤ 16) : (enB e).length ≤ 100 := by
  obtain ⟨h1, h2, h3, h4, h5, h6, h7⟩ := h
  have a1 := enc_len10 h1
  have a2 := enc_len10 h2
  have a3 := enc_len10 h3
  have a4 := enc_len10 h4
  have a5 := enc_len10 h5
  have a6 := enc_len10 h6
  have hs := size_list e.da
  have a7 : (enc (zig (e.da.data.toList.length : Int))).length ≤ 10 := enc_len10 ⟨by omega, by omega⟩
  simp only [enB, nums, encs, txt, List.length_append, List.length_nil]
  omega
theorem may_size {e : EnD} (h : mayB e = true) : e.da.size ≤ 16 := by
  simp only [mayB, Bool.and_eq_true, decide_eq_true_eq] at h
  exact h.2.2.2.2.2.2
theorem enB_pos (e : EnD) : 0 < (enB e).length := by
  have := enc_pos (zig e.fr)
  simp only [enB, nums, encs, List.length_append]
  omega

/-- The first k numbers of some bytes, and where they end. -/
def parseN (b : List UInt8) : Nat → Option (List Int × Nat)
  | 0 => some ([], 0)
  | k + 1 => match parseN b k with
    | none => none
    | some (l, i) => if (getL (b.drop i)).2.2 = 0 then some (l ++ [(getL (b.drop i)).1], i + (getL (b.drop i)).2.1) else none
def oneL (b : List UInt8) : Option (EnD × Nat) :=
  match parseN b 6 with
  | some ([f1, f2, f3, f4, f5, f6], i) => if (textL (b.drop i)).2.2 = 0 then some (⟨f1, f2, f3, f4, f5, f6, ⟨(textL (b.drop i)).1.toArray⟩⟩, i + (textL (b.drop i)).2.1) else none
  | _ => none
theorem oneL_parse {b s : List UInt8} {f1 f2 f3 f4 f5 f6 : Int} {i k : Nat} (h : parseN b 6 = some ([f1, f2, f3, f4, f5, f6], i)) (ht : textL (b.drop i) = (s, k, 0)) : oneL b = some (⟨f1, f2, f3, f4, f5, f6, ⟨s.toArray⟩⟩, i + k) := by
  unfold oneL
  rw [h]
  simp only
  rw [if_pos (by rw [ht]), ht]
theorem oneL_not {b : List UInt8} {f1 f2 f3 f4 f5 f6 : Int} {i : Nat} (h : parseN b 6 = some ([f1, f2, f3, f4, f5, f6], i)) (ht : (textL (b.drop i)).2.2 ≠ 0) : oneL b = none := by
  unfold oneL
  rw [h]
  simp only
  rw [if_neg ht]
theorem parseN_none {b : List UInt8} {k : Nat} : ∀ m, k ≤ m → parseN b k = none → parseN b m = none
  | 0, hk, h => by
    obtain rfl : k = 0 := by omega
    exact h
  | m + 1, hk, h => by
    rcases Nat.lt_or_ge k (m + 1) with h1 | h1
    · rw [parseN, parseN_none m (by omega) h]
    · obtain rfl : k = m + 1 := by omega
      exact h
theorem oneL_no {b : List UInt8} {k : Nat} (hk : k ≤ 6) (h : parseN b k = none) : oneL b = none := by
  unfold oneL
  rw [parseN_none 6 hk h]
theorem parseN_in {b : List UInt8} : ∀ {k : Nat} {l : List Int} {i : Nat}, parseN b k = some (l, i) → l.length = k ∧ (∀ x ∈ l, I64 x) ∧ k ≤ i ∧ i ≤ b.length
  | 0, l, i, h => by
    simp [parseN] at h
    obtain ⟨rfl, rfl⟩ := h
    exact ⟨rfl, (fun x hx => by cases hx), Nat.le_refl _, Nat.zero_le _⟩
  | k + 1, l, i, h => by
    rw [parseN] at h
    cases hp : parseN b k with
    | none => rw [hp] at h; cases h
    | some q =>
      obtain ⟨l', i'⟩ := q
      rw [hp] at h
      simp only at h
      obtain ⟨h1, h2, h3, h4⟩ := parseN_in hp
      split at h
      · rename_i he
        simp at h
        obtain ⟨rfl, rfl⟩ := h
        rcases getL_in (b.drop i') with ⟨g1, g2, g3, g4, g5, g6⟩ | ⟨g1, g2, g3⟩
        · rw [List.length_drop] at g3
          refine ⟨by simp [h1], fun x hx => ?_, by omega, by omega⟩
          rcases List.mem_append.1 hx with hx | hx
          · exact h2 x hx
          · simp at hx; subst hx; exact ⟨g5, g6⟩
        · omega
      · cases h
theorem parseN_encs {zs : List Int} (hz : ∀ x ∈ zs, I64 x) (rest : List UInt8) : ∀ k, k ≤ zs.length → parseN (encs zs ++ rest) k = some (zs.take k, (encs (zs.take k)).length)
  | 0, _ => by simp [parseN, encs]
  | k + 1, hk => by
    have hx : zs[k]? = some zs[k] := List.getElem?_eq_getElem (by omega)
    have hdrop : (encs zs ++ rest).drop (encs (zs.take k)).length = enc (zig zs[k]) ++ (encs (zs.drop (k + 1)) ++ rest) := by
      have e : encs zs = encs (zs.take k) ++ (enc (zig zs[k]) ++ encs (zs.drop (k + 1))) := by
        have h1 : zs = zs.take k ++ (zs[k] :: zs.drop (k + 1)) := by rw [← List.drop_eq_getElem_cons (by omega), List.take_append_drop]
        have h2 := congrArg encs h1
        rw [encs_append] at h2
        exact h2
      rw [e, List.append_assoc, List.drop_left, List.append_assoc]
    have hi := hz zs[k] (List.getElem_mem _)
    rw [parseN, parseN_encs hz rest k (by omega)]
    simp only
    rw [hdrop, getL_enc (zig_lt hi.1 hi.2)]
    simp only [if_true, unzig_zig]
    rw [encs_take hx, List.length_append, List.take_add_one, hx]
    rfl
theorem text_in (b : List UInt8) : ((textL b).2.2 = 0 → (textL b).2.1 ≤ b.length ∧ (textL b).1.length ≤ 65536) := by
  intro h
  unfold textL at h ⊢
  split at h
  · rename_i h1; exact absurd h h1
  · split at h
    · cases h
    · split at h
      · cases h
      · rename_i h1 h2 h3
        rw [if_neg h1, if_neg h2, if_neg h3]
        rcases getL_in b with ⟨g1, g2, g3, g4, g5, g6⟩ | ⟨g1, g2, g3⟩
        · simp only [List.length_take, List.length_drop]
          omega
        · omega
theorem oneL_in {b : List UInt8} {e : EnD} {k : Nat} (h : oneL b = some (e, k)) : EnOk e ∧ 6 ≤ k ∧ k ≤ b.length := by
  unfold oneL at h
  split at h
  · rename_i f1 f2 f3 f4 f5 f6 i hp
    obtain ⟨h1, h2, h3, h4⟩ := parseN_in hp
    split at h
    · rename_i ht
      simp at h
      obtain ⟨rfl, rfl⟩ := h
      obtain ⟨t1, t2⟩ := text_in _ ht
      rw [List.length_drop] at t1
      refine ⟨⟨h2 _ (by simp), h2 _ (by simp), h2 _ (by simp), h2 _ (by simp), h2 _ (by simp), h2 _ (by simp), ?_⟩, by omega, by omega⟩
      show (textL (b.drop i)).1.toArray.size ≤ _
      simp
      omega
    · cases h
  · cases h
theorem oneL_enB {e : EnD} (he : EnOk e) (hm : e.da.size ≤ 16) (rest : List UInt8) : oneL (enB e ++ rest) = some (e, (enB e).length) := by
  have hn : ∀ x ∈ nums e, I64 x := by
    obtain ⟨h1, h2, h3, h4, h5, h6, h7⟩ := he
    intro x hx
    simp [nums] at hx
    rcases hx with rfl | rfl | rfl | rfl | rfl | rfl <;> assumption
  have h6 := parseN_encs hn (txt e.da.data.toList ++ rest) 6 (by simp [nums])
  have e1 : (nums e).take 6 = nums e := List.take_of_length_le (by simp [nums])
  rw [e1] at h6
  have hl := size_list e.da
  have h7 : parseN (enB e ++ rest) 6 = some ([e.fr, e.bt, e.sq, e.od, e.lv, e.st], (encs (nums e)).length) := by
    rw [enB, List.append_assoc]
    exact h6
  have h8 : textL ((enB e ++ rest).drop (encs (nums e)).length) = (e.da.data.toList, (txt e.da.data.toList).length, 0) := by
    rw [enB, List.append_assoc, List.drop_left, textL_txt (by omega)]
  rw [oneL_parse h7 h8, enB, List.length_append]
/-- The loop of Decode. -/
def decF (b : List UInt8) : Nat → Nat → List EnD → Option (List EnD)
  | 0, _, _ => none
  | f + 1, i, L => if i < b.length then match oneL (b.drop i) with
      | none => none
      | some (e, k) => decF b f (i + k) (L ++ [e])
    else some L
def decL (b : List UInt8) : Option (List EnD) :=
  match decF b (b.length + 1) 0 [] with
  | none => none
  | some L => if encAll L = b then some L else none
theorem decF_of (l : List EnD) (h : ∀ e ∈ l, EnOk e ∧ e.da.size ≤ 16) : ∀ (m f : Nat), m ≤ l.length → ((l.map enB).flatten).length - (((l.take (l.length - m)).map enB).flatten).length < f →
    decF (l.map enB).flatten f (((l.take (l.length - m)).map enB).flatten).length (l.take (l.length - m)) = some l
  | 0, f, hm, hf => by
    obtain ⟨f', rfl⟩ : ∃ f', f = f' + 1 := ⟨f - 1, by omega⟩
    rw [Nat.sub_zero, List.take_length, decF, if_neg (Nat.lt_irrefl _)]
  | m + 1, f, hm, hf => by
    obtain ⟨f', rfl⟩ : ∃ f', f = f' + 1 := ⟨f - 1, by omega⟩
    obtain ⟨j, hj⟩ : ∃ j, j = l.length - (m + 1) := ⟨_, rfl⟩
    have hj2 : l.length - m = j + 1 := by omega
    have hjl : j < l.length := by omega
    rw [← hj] at hf ⊢
    have split1 : (l.map enB).flatten = ((l.take j).map enB).flatten ++ (enB l[j] ++ ((l.drop (j + 1)).map enB).flatten) := by
      have h1 : l = l.take j ++ (l[j] :: l.drop (j + 1)) := by rw [← List.drop_eq_getElem_cons hjl, List.take_append_drop]
      conv => lhs; rw [h1]
      rw [List.map_append, List.flatten_append, List.map_cons, List.flatten_cons]
    have step : ((l.take (j + 1)).map enB).flatten = ((l.take j).map enB).flatten ++ enB l[j] := by
      rw [List.take_succ_eq_append_getElem hjl, List.map_append, List.flatten_append, List.map_cons, List.map_nil, List.flatten_cons, List.flatten_nil, List.append_nil]
    have hp := enB_pos l[j]
    obtain ⟨o1, o2⟩ := h l[j] (List.getElem_mem _)
    have ih := decF_of l h m f' (by omega) (by
      rw [hj2, step, List.length_append]
      have := congrArg List.length split1
      simp only [List.length_append] at this hf
      omega)
    rw [hj2] at ih
    rw [decF, if_pos (by have := congrArg List.length split1; simp only [List.length_append] at this; omega)]
    have hd : ((l.map enB).flatten).drop (((l.take j).map enB).flatten).length = enB l[j] ++ ((l.drop (j + 1)).map enB).flatten := by
      rw [split1, List.drop_left]
    rw [hd, oneL_enB o1 o2]
    simp only
    rw [step, List.length_append, List.take_succ_eq_append_getElem hjl] at ih
    exact ih
/-- Entries that may be go to bytes and back. -/
theorem decL_enc {l : List EnD} (h : ∀ e ∈ l, EnOk e) (hm : l.all mayB = true) : decL (encAll l) = some l := by
  have hb : encAll l = (l.map enB).flatten := by unfold encAll; rw [if_pos hm]
  have h2 : ∀ e ∈ l, EnOk e ∧ e.da.size ≤ 16 := fun e he => ⟨h e he, may_size (List.all_eq_true.1 hm e he)⟩
  have := decF_of l h2 l.length ((encAll l).length + 1) (Nat.le_refl _) (by rw [hb]; omega)
  rw [Nat.sub_self, List.take_zero, ← hb] at this
  unfold decL
  rw [show decF (encAll l) ((encAll l).length + 1) 0 [] = some l from this]
  simp
theorem decL_some {b : List UInt8} {L : List EnD} (h : decL b = some L) : encAll L = b := by
  unfold decL at h
  split at h
  · cases h
  · split at h
    · cases h; assumption
    · cases h
end Go.Proofs.Ytgplmbchlahbkaa
