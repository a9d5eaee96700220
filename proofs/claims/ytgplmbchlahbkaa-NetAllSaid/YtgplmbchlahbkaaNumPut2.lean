/-
  The contract of num.Put: it turns the row's own block alone, or leads to a new one. Conditions stand at each.
-/
import Derived.Test.YtgplmbchlahbkaaNumText
import Derived.Deep.AppendLies
namespace Go.Proofs.Ytgplmbchlahbkaa
open Go Go.Sort Go.RowKit
set_option linter.unusedVariables false

/-- The row p' lies in the block 'row' or in one that is not older than H. -/
def Loc (H : Nat) (row : Option Nat) (p' : Option Addr) : Prop := p'.map (·.block) = row ∨ ∀ k, p'.map (·.block) = some k → H ≤ k
/-- From w on only the block 'row' was turned, and the row p' lies there or in a new block. -/
def Gr (w w' : World) (row : Option Nat) (p' : Option Addr) : Prop := w.grownBy w' row ∧ (p'.map (·.block) = row ∨ ∀ k, p'.map (·.block) = some k → w.heap.size ≤ k)
theorem Gr.refl (w : World) (p : Option Addr) : Gr w w (p.map (·.block)) p := ⟨World.grownBy.refl _ _, .inl rfl⟩
theorem Gr.step {w wr wm w3 : World} {row : Option Nat} {p1 p3 : Option Addr} (h : Gr w wr row p1) (he : Ext wr wm) (g : wm.grownBy w3 (p1.map (·.block))) (l : Loc wm.heap.size (p1.map (·.block)) p3) : Gr w w3 row p3 := by
  obtain ⟨h1, h2⟩ := h
  refine ⟨⟨g.os.trans (he.os.trans h1.os), g.tape.trans (he.tape.trans h1.tape), g.output.trans (he.output.trans h1.output), Nat.le_trans h1.size (Nat.le_trans he.size g.size), fun i hi hne => ?_⟩, ?_⟩
  · have hi1 := Nat.lt_of_lt_of_le hi h1.size
    refine (g.block i (Nat.lt_of_lt_of_le hi1 he.size) ?_).trans ((he.block i hi1).trans (h1.block i hi hne))
    intro e
    rcases h2 with h2 | h2
    · exact hne (e.trans h2)
    · have := h2 i e.symm
      omega
  · rcases l with l | l
    · rcases h2 with h2 | h2
      · exact .inl (l.trans h2)
      · exact .inr fun k hk => h2 k (l ▸ hk)
    · exact .inr fun k hk => Nat.le_trans h1.size (Nat.le_trans he.size (l k hk))
theorem Gr.step' {w wr wm w3 : World} {row : Option Nat} {p1 p3 : Option Addr} {H : Nat} (h : Gr w wr row p1) (he : Ext wr wm) (g : wm.grownBy w3 (p1.map (·.block))) (hH : wm.heap.size = H) (l : Loc H (p1.map (·.block)) p3) : Gr w w3 row p3 :=
  h.step he g (by rw [hH]; exact l)
theorem Gr.tr {a b c : World} {row : Option Nat} {p q : Option Addr} (h : Gr a b row p) (k : Gr b c (p.map (·.block)) q) : Gr a c row q := h.step (Ext.rfl' _) k.1 (by
  rcases k.2 with k | k
  · exact .inl k
  · exact .inr k)
theorem Gr.cell {w w' : World} {row : Option Nat} {p : Option Addr} (h : Gr w w' row p) {a : Addr} {v : Value} (hc : w.cell? a = some v) (hne : some a.block ≠ row) : w'.cell? a = some v := h.1.cell hc hne
/-- append(v, x...), x not empty: the result lies in the old block or in a new one. -/
theorem wpList_appL {P : Program} {w : World} {ops : Array Oper} {rest : List Oper} {o : Oper} {a : Act} {Q : Exit → Act → World → Prop} (hgd : o.guard = none) (s x : Operand) (t : TypeId)
    (ho : o.op = .call { callee := .builtin .append, args := #[s, x], argTypes := #[t, t] })
    (base : Nat) (ht : P.underlying t = some (.slice 5)) (hi : (P.info? 5).map (fun i => (i.zero, i.size, i.bytes)) = some (some (.int .u8 0), 1, 1))
    (p : Option Addr) (n cap : Nat) (l : List UInt8) (hs : a.eval s = .slice p n cap) (hown : OwP w base p n cap l)
    (ad : Addr) (m c : Nat) (k : List UInt8) (hx : a.eval x = .slice (some ad) m c) (hsl : SlP w (some ad) m c k) (hm : 0 < m)
    (hbytes : n + m ≤ 140737488355328) (hbase : base ≤ w.heap.size)
    (h : ∀ p' cap' w', OwP w' base p' (n + m) cap' (l ++ k) → w.grownBy w' (p.map (·.block)) → Loc w.heap.size (p.map (·.block)) p' → wpList P ops Q rest (a.put o.dst (.slice p' (n + m) cap')) w') : wpList P ops Q (o :: rest) a w := by
  obtain ⟨i0, hi, hz0, hz1, hz2⟩ := info_parts hi
  refine wpList_append_lies w hgd s x t ho base 5 i0 (.int .u8 0) 1 1 ht hi hz0 hz1 hz2 rfl (by decide) _ n (l.map bv) hs hown.2 ad m c (k.map bv) hx (by simp [hsl.len]) ?_ ?_ hm (by unfold maxLen; omega) (by omega) hbase w.heap.size rfl ?_
  · intro j u hj
    rw [List.getElem?_map] at hj
    obtain ⟨y, hy, rfl⟩ := Option.map_eq_some_iff.1 hj
    have hjk : j < k.length := (List.getElem?_eq_some_iff.1 hy).1
    obtain ⟨b, o', hp, hh⟩ := hsl.cells (by have := hsl.len; omega)
    cases hp
    rw [Addr.add_lit]
    exact hh j y hy
  · intro u hu
    obtain ⟨y, _, rfl⟩ := List.mem_map.1 hu
    rfl
  · intro g cap' w' ho' hg hl hlt
    rw [ownBlock_slice] at hg hl
    refine h (some ⟨g, 0, none⟩) cap' w' ⟨by rw [List.length_append, hown.1, hsl.len], by rw [List.map_append]; exact ho'⟩ hg ?_
    rcases hl with hl | hl
    · exact .inl (by simpa using hl.symm)
    · exact .inr fun k hk => by simp at hk; omega

set_option maxRecDepth 8000 in
set_option maxHeartbeats 1000000 in
theorem put_gr {base : Nat} {p : Option Addr} {n cap : Nat} {l : List UInt8} {x : Int} {w : World} (h : OwP w base p n cap l) (hb : base ≤ w.heap.size) (hn : n ≤ 1099511627776) (h1 : -9223372036854775808 ≤ x) (h2 : x ≤ 9223372036854775807) :
    Calls Try.prog 50 #[.slice p n cap, .int .i64 x] w fun e w' => ∃ p' cap', e = .returned (.slice p' (n + (enc (zig x)).length) cap') ∧ OwP w' base p' (n + (enc (zig x)).length) cap' (l ++ enc (zig x)) ∧ Gr w w' (p.map (·.block)) p' := by
  have hsg : IntKind.u64.signed = false := rfl
  have hmx : IntKind.u64.max = 18446744073709551615 := rfl
  have H := Lib.hid h
  have hln := h.1
  clear h
  have hz := zig_lt h1 h2
  have hzt := enc_ten hz
  obtain ⟨L, hL⟩ : ∃ L, L = l ++ enc (zig x) := ⟨_, rfl⟩
  obtain ⟨N, hN⟩ : ∃ N, N = n + (enc (zig x)).length := ⟨_, rfl⟩
  rw [← hL, ← hN]
  have HL := Lib.hid hL
  have hNL : L.length = N := by rw [hL, hN, List.length_append, hln]
  have HN := Lib.hid hNL
  have hN2 : N ≤ 1099511627786 := by omega
  clear hL hNL hzt hN
  by_cases hx : x < 0
  all_goals
    have HX := Lib.hid hx
    go_enter Try.func50, Try.ntmps50
    go_wp2
    go_loopw [0, 5] (fun b u wr => ∃ p' n' c' l' v, b = .slice p' n' c' ∧ u = .int .u64 ((v : Nat) : Int) ∧ v < 18446744073709551616 ∧ OwP wr base p' n' c' l' ∧ l' ++ enc v = L ∧ Gr w wr (p.map (·.block)) p') (fun _ u _ => (intOf u).toNat)
    case atStart => 
      refine ⟨_, _, _, _, zig x, rfl, ?_, hz, H.out, HL.out.symm, Gr.refl _ _⟩
      first | rw [zig_bits h1 HX.out] | rw [zig_pos (by have := HX.out; omega)]
    case round => 
      obtain ⟨p1, n1, c1, l1, v, rfl, rfl, hv, ho, hl, hbl⟩ := hrel
      have HO := Lib.hid ho
      have HLL := Lib.hid hl
      have HB := Lib.hid hbl
      have hnn : n1 + (enc v).length = N := by rw [← HN.out, ← hl, List.length_append, ho.1]
      have hsz := hbl.1.size
      have hp := enc_pos v
      clear ho hl hbl
      by_cases hlt : v < 128
      · go_wp2_with (at_builtin; refine wpList_appL rfl _ _ 35 rfl base Try.underlying35 info5 p1 n1 c1 l1 rfl (HO.out.alloc _) ⟨_, 0, none⟩ 1 1 [UInt8.ofNat v] rfl (one_sl _ _ _ _ ?hone) (by omega) (by omega) (by simp; omega) ?_)
        case hone => rw [u8_ofNat]; omega
        intro p3 c3 w3 h3 g3 l3
        have H3 := Lib.hid h3
        have G3 := Lib.hid g3
        have L3 := Lib.hid l3
        clear h3 g3 l3
        go_wp2
        go_ret
        have e1 : n1 + 1 = N := by rw [← hnn, enc_last hlt]; rfl
        have e2 : l1 ++ [UInt8.ofNat v] = L := by rw [← HLL.out, enc_last hlt]
        rw [e1, e2] at H3
        refine ⟨_, _, by rw [e1]; rfl, H3.out, ?_⟩
        exact HB.out.step' (Ext.alloc _ _) G3.out (by simp) L3.out
      · obtain ⟨c, hc⟩ : ∃ c, c = UInt8.ofNat (v % 128 + 128) := ⟨_, rfl⟩
        have HC := Lib.hid hc
        clear hc
        go_wp2_with (at_builtin; refine wpList_appL rfl _ _ 35 rfl base Try.underlying35 info5 p1 n1 c1 l1 rfl (HO.out.alloc _) ⟨_, 0, none⟩ 1 1 [c] rfl (one_sl _ _ _ _ ?hone) (by omega) (by omega) (by simp; omega) ?_)
        case hone => rw [HC.out]; exact or_cont v
        intro p3 c3 w3 h3 g3 l3
        have H3 := Lib.hid h3
        have G3 := Lib.hid g3
        have L3 := Lib.hid l3
        clear h3 g3 l3
        go_wp2
        go_round
        case rel =>
          refine ⟨_, _, _, _, v / 128, rfl, by go_num, by omega, H3.out, ?_, ?_⟩
          · rw [← HLL.out, enc_more hlt, List.append_assoc, HC.out]; rfl
          · exact HB.out.step' (Ext.alloc _ _) G3.out (by simp) L3.out
        case measure => simp [intOf]; omega
end Go.Proofs.Ytgplmbchlahbkaa
