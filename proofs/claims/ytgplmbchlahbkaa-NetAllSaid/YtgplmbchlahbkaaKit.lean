/-
  Lemmas on slices of bytes in the model's memory: what is read, what is owned, how a slice is cut, converted and appended to. No program in sight. Conditions stand at each.
-/
import Derived.WalkKit
import Derived.ProofKit
import Derived.WalkLawsBesides
import Derived.WalkSpells
import Derived.Lib.Hide
import Derived.Laws.AppendOwnNone
import Derived.BigQuiet
import Derived.OpenShut
namespace Go.Proofs.Ytgplmbchlahbkaa
open Go.RowKit
set_option linter.unusedVariables false

theorem u8_of {a : Int} (h : 0 ≤ a ∧ a ≤ 255) : ∃ x : UInt8, a = (x.toNat : Int) :=
  ⟨UInt8.ofNat a.toNat, by rw [UInt8.toNat_ofNat']; omega⟩

/-- The cell of a byte. -/
def bv (x : UInt8) : Value := .int .u8 (x.toNat : Int)

/-- The slice (p, n, cap) holds the bytes l in the world w. -/
structure SlP (w : World) (p : Option Addr) (n cap : Nat) (l : List UInt8) : Prop where
  len : l.length = n
  le : n ≤ cap
  max : cap ≤ 9223372036854775807
  nil : p = none → cap = 0
  cells : 0 < n → ∃ b o, p = some ⟨b, o, none⟩ ∧ ∀ i x, l[i]? = some x → w.cell? ⟨b, o + i, none⟩ = some (bv x)

/-- The slice (p, n, cap) is a row of its own, from block base on, and holds the bytes l. -/
def OwP (w : World) (base : Nat) (p : Option Addr) (n cap : Nat) (l : List UInt8) : Prop :=
  l.length = n ∧ w.ownsRow base 5 1 (.slice p n cap) n (l.map bv)

/-- All that was there is as it was. -/
abbrev Ext (w w' : World) : Prop := Below w.heap.size w w'

theorem Ext.rfl' (w : World) : Ext w w := Below.refl _ _
theorem Ext.tr {a b c : World} (h : Ext a b) (k : Ext b c) : Ext a c := Below.trans h (k.mono h.size)
theorem Ext.cell {w w' : World} (h : Ext w w') {a : Addr} {v : Value} (hc : w.cell? a = some v) : w'.cell? a = some v := by
  rw [Below.cell h (World.block_lt_of_cell? w a hc)]; exact hc
theorem Ext.alloc (w : World) (o : Obj) : Ext w (w.alloc o) := (Below.refl _ _).alloc (Nat.le_refl _) o
theorem Ext.drew (w : World) : Ext w w.drew := (Below.refl _ _).drew
theorem Ext.drewN (w : World) (n : Nat) : Ext w (w.drewN n) := ⟨rfl, rfl, rfl, Nat.le_refl _, fun _ _ => rfl⟩
theorem Ext.grown {w w' : World} {row : Option Nat} (hg : w.grownBy w' row) (hr : ∀ k, row = some k → w.heap.size ≤ k) : Ext w w' :=
  (Below.refl _ _).grown hg (Nat.le_refl _) hr

theorem SlP.of_cells {w w' : World} {p : Option Addr} {n cap : Nat} {l : List UInt8} (h : SlP w p n cap l) (hc : ∀ a v, p.map (·.block) = some a.block → w.cell? a = some v → w'.cell? a = some v) : SlP w' p n cap l :=
  ⟨h.len, h.le, h.max, h.nil, fun hl => by
    obtain ⟨b, o, hp, hh⟩ := h.cells hl
    exact ⟨b, o, hp, fun i x hx => hc _ _ (by rw [hp]; simp) (hh i x hx)⟩⟩
theorem SlP.ext {w w' : World} {p : Option Addr} {n cap : Nat} {l : List UInt8} (h : SlP w p n cap l) (he : Ext w w') : SlP w' p n cap l :=
  h.of_cells fun _ _ _ hv => Ext.cell he hv
theorem SlP.drew {w : World} {p : Option Addr} {n cap : Nat} {l : List UInt8} (h : SlP w p n cap l) : SlP w.drew p n cap l := h.ext (Ext.drew w)
theorem SlP.alloc {w : World} {p : Option Addr} {n cap : Nat} {l : List UInt8} (h : SlP w p n cap l) (o : Obj) : SlP (w.alloc o) p n cap l := h.ext (Ext.alloc w o)
/-- Behind writes to another row. -/
theorem SlP.grown {w w' : World} {p : Option Addr} {n cap : Nat} {l : List UInt8} {row : Option Nat} (h : SlP w p n cap l) (hg : w.grownBy w' row) (hne : ∀ k, row = some k → p.map (·.block) ≠ some k) : SlP w' p n cap l :=
  h.of_cells fun a v ha hv => hg.cell hv (fun e => hne a.block e.symm ha)

theorem SlP.empty (w : World) : SlP w none 0 0 [] := ⟨rfl, Nat.le_refl _, by decide, fun _ => rfl, fun h => absurd h (Nat.lt_irrefl _)⟩

/-- v[:k] -/
theorem SlP.take {w : World} {p : Option Addr} {n cap : Nat} {l : List UInt8} (h : SlP w p n cap l) (k : Nat) (hk : k ≤ n) : SlP w p k cap (l.take k) :=
  ⟨by rw [List.length_take, h.len]; omega, by have := h.le; omega, h.max, h.nil, fun hl => by
    obtain ⟨b, o, hp, hh⟩ := h.cells (by omega)
    refine ⟨b, o, hp, fun i x hx => hh i x ?_⟩
    rw [List.getElem?_take] at hx
    split at hx
    · exact hx
    · cases hx⟩

/-- The address of v[k:]. -/
def tailP (p : Option Addr) (cap k : Nat) : Option Addr := if cap = k then p else p.map (·.add k)

/-- v[k:] -/
theorem SlP.drop {w : World} {p : Option Addr} {n cap : Nat} {l : List UInt8} (h : SlP w p n cap l) (k : Nat) (hk : k ≤ n) : SlP w (tailP p cap k) (n - k) (cap - k) (l.drop k) :=
  ⟨by rw [List.length_drop, h.len], by have := h.le; omega, by have := h.max; omega, fun hp => by
    unfold tailP at hp
    split at hp
    · omega
    · cases p with
      | none => have := h.nil rfl; omega
      | some a => simp at hp, fun hl => by
    obtain ⟨b, o, hp, hh⟩ := h.cells (by omega)
    refine ⟨b, o + k, ?_, fun i x hx => ?_⟩
    · have := h.le
      unfold tailP
      rw [if_neg (by omega), hp]
      simp [Addr.add]
    · rw [List.getElem?_drop] at hx
      rw [Nat.add_assoc]
      exact hh (k + i) x hx⟩

theorem tailP_block (p : Option Addr) (cap k : Nat) : (tailP p cap k).map (·.block) = p.map (·.block) := by
  unfold tailP
  split
  · rfl
  · cases p with
    | none => rfl
    | some a => simp [Addr.add]; split <;> rfl

/-- The k-th byte. -/
theorem SlP.at {w : World} {p : Option Addr} {n cap : Nat} {l : List UInt8} (h : SlP w p n cap l) (k : Nat) (hk : k < n) : ∃ b o x, p = some ⟨b, o, none⟩ ∧ l[k]? = some x ∧ w.cell? ⟨b, o + k, none⟩ = some (.int .u8 (x.toNat : Int)) := by
  obtain ⟨b, o, hp, hh⟩ := h.cells (by omega)
  have hkl : k < l.length := by rw [h.len]; exact hk
  exact ⟨b, o, l[k], hp, by simp, hh k _ (by simp)⟩

/-- What an argument's reading says of a slice of bytes. -/
theorem sl_of_row {w : World} {x : Addr} {n cap : Nat} {zs : List Int} (hl : n ≤ cap) (hm : cap ≤ maxLen) (hz : zs.length = cap) (hc : ∀ i, i < zs.length → w.cell? (x.add i) = some (.int .u8 (zs.getD i 0))) (hw : ∀ k ∈ zs, (Lit.int .u8 k).wf = true) :
    ∃ l, SlP w (some x) n cap l := by
  refine ⟨(zs.take n).map fun z => UInt8.ofNat z.toNat, by simp [hz]; omega, hl, by unfold maxLen at hm; omega, (fun h => by cases h), fun hn => ?_⟩
  obtain ⟨b, o, sp⟩ := x
  have h0 := hc 0 (by omega)
  have hsp : sp = none := by simpa [Addr.add] using World.cell?_spot h0
  subst hsp
  refine ⟨b, o, rfl, fun i y hy => ?_⟩
  rw [List.getElem?_map] at hy
  obtain ⟨z, hz1, rfl⟩ := Option.map_eq_some_iff.1 hy
  have hi : i < (zs.take n).length := (List.getElem?_eq_some_iff.1 hz1).1
  have hi2 : i < zs.length := by rw [List.length_take] at hi; omega
  have h1 := hc i hi2
  rw [Addr.add_lit] at h1
  rw [h1]
  rw [List.getElem?_take] at hz1
  have hin : i < n := by rw [List.length_take] at hi; omega
  rw [if_pos hin] at hz1
  have hmem : z ∈ zs := List.mem_of_getElem? hz1
  have hb := bounds_u8 (hw z hmem)
  have : (UInt8.ofNat z.toNat).toNat = z.toNat := by rw [UInt8.toNat_ofNat']; omega
  rw [List.getD_eq_getElem?_getD, hz1]
  simp only [bv, this, Option.getD_some]
  rw [Int.toNat_of_nonneg hb.1]

theorem OwP.len {w : World} {base : Nat} {p : Option Addr} {n cap : Nat} {l : List UInt8} (h : OwP w base p n cap l) : l.length = n := h.1
/-- What is owned is read. -/
theorem OwP.sl {w : World} {base : Nat} {p : Option Addr} {n cap : Nat} {l : List UInt8} (h : OwP w base p n cap l) : SlP w p n cap l := by
  obtain ⟨hl, h1, h2⟩ := h
  rcases h2 with ⟨hv, hn⟩ | ⟨g, c, cur, hv, hg, hh, hn, hm, hs, ht⟩
  · cases hv
    exact ⟨hl, Nat.le_refl _, by decide, fun _ => rfl, fun h => absurd h (by omega)⟩
  · cases hv
    refine ⟨hl, hn, by unfold maxLen at hm; omega, (fun h => by cases h), fun _ => ⟨g, 0, rfl, fun i x hx => ?_⟩⟩
    have := World.ownsRow.cells (w := w) (base := base) (e := 5) (size := 1) (v := .slice (some ⟨g, 0, none⟩) n cap) (n := n) (xs := l.map bv) ⟨h1, Or.inr ⟨g, cap, cur, rfl, hg, hh, hn, hm, hs, ht⟩⟩ (g := g) rfl i (bv x) (by rw [List.getElem?_map, hx]; rfl)
    rw [Addr.add_lit] at this
    simpa using this
theorem OwP.lt {w : World} {base : Nat} {p : Option Addr} {n cap : Nat} {l : List UInt8} (h : OwP w base p n cap l) : ∀ k, p.map (·.block) = some k → base ≤ k ∧ k < w.heap.size := by
  intro k hk
  cases p with
  | none => simp at hk
  | some a => exact World.ownsRow.lt h.2 k (by simpa [Value.ownBlock] using hk)
theorem ownBlock_slice (p : Option Addr) (n cap : Nat) : (Value.slice p n cap).ownBlock = p.map (·.block) := by cases p <;> rfl
theorem OwP.nil (w : World) (base : Nat) : OwP w base none 0 0 [] := ⟨rfl, World.ownsRow_nil _ _ _ _⟩
theorem OwP.kept {w w' : World} {base : Nat} {p : Option Addr} {n cap : Nat} {l : List UInt8} {row : Option Nat} (h : OwP w base p n cap l) (hg : w.grownBy w' row) (hne : ∀ k, row = some k → p.map (·.block) ≠ some k) : OwP w' base p n cap l :=
  ⟨h.1, h.2.kept hg (by
    rw [ownBlock_slice]
    cases row with
    | none => cases p <;> simp
    | some k => exact Or.inr (hne k rfl))⟩
theorem OwP.alloc {w : World} {base : Nat} {p : Option Addr} {n cap : Nat} {l : List UInt8} (h : OwP w base p n cap l) (o : Obj) : OwP (w.alloc o) base p n cap l := ⟨h.1, h.2.alloc o⟩
theorem OwP.ext {w w' : World} {base : Nat} {p : Option Addr} {n cap : Nat} {l : List UInt8} (h : OwP w base p n cap l) (he : Ext w w') : OwP w' base p n cap l :=
  h.kept (row := none) ⟨he.os, he.tape, he.output, he.size, fun k hk _ => he.block k hk⟩ (fun k hk => by cases hk)
theorem OwP.mono {w : World} {base base' : Nat} {p : Option Addr} {n cap : Nat} {l : List UInt8} (h : OwP w base p n cap l) (hb : base' ≤ base) : OwP w base' p n cap l := by
  refine ⟨h.1, h.2.1, ?_⟩
  rcases h.2.2 with hn | ⟨g, c, cur, hv, hg, r⟩
  · exact .inl hn
  · exact .inr ⟨g, c, cur, hv, by omega, r⟩
/-- A new block of just these bytes. -/
theorem OwP.made (w : World) (base : Nat) (n : Nat) (cur : Array Value) (l : List UInt8) (hb : base ≤ w.heap.size) (hl : l.length = n) (hcur : cur.toList = l.map bv) (hn : n ≤ 140737488355328) :
    OwP (w.alloc (.cells cur 5)) base (some ⟨w.heap.size, 0, none⟩) n n l := by
  have hs : cur.size = n := by rw [← Array.length_toList, hcur]; simp [hl]
  refine ⟨hl, by simp [hl], .inr ⟨w.heap.size, n, cur, rfl, hb, heap_alloc_new w _, Nat.le_refl _, by unfold maxLen; omega, by omega, ?_⟩⟩
  rw [Nat.mul_one, ← hs, ← Array.length_toList, List.take_length, hcur]

/-- A new block of just these bytes, whatever mark it bears. -/
theorem SlP.lit (w : World) (n : Nat) (cur : Array Value) (mark : Nat × Nat) (l : List UInt8) (hl : l.length = n) (hcur : cur.toList = l.map bv) (hn : n ≤ 140737488355328) :
    SlP (w.alloc (.cells cur 5 mark)) (some ⟨w.heap.size, 0, none⟩) n n l :=
  ⟨hl, Nat.le_refl _, by omega, (fun h => by cases h), fun _ => ⟨w.heap.size, 0, rfl, fun i x hx => by
    rw [World.cell?_alloc_mark, Nat.zero_add, ← Array.getElem?_toList, hcur, List.getElem?_map, hx]
    rfl⟩⟩

/-- One byte of a row of the call's own is stored. -/
theorem OwP.store {w : World} {base : Nat} {p : Option Addr} {n cap : Nat} {l : List UInt8} (h : OwP w base p n cap l) (j : Nat) (hj : j < n) :
    ∃ g x, p = some ⟨g, 0, none⟩ ∧ base ≤ g ∧ l[j]? = some x ∧ w.cell? ⟨g, j, none⟩ = some (.int .u8 (x.toNat : Int)) ∧ w.frozen? ⟨g, j, none⟩ = false ∧
      ∀ u : UInt8, OwP (w.setCell ⟨g, j, none⟩ (.int .u8 (u.toNat : Int))) base p n cap (l.set j u) ∧ w.grownBy (w.setCell ⟨g, j, none⟩ (.int .u8 (u.toNat : Int))) (some g) := by
  obtain ⟨b, o, x, hp, hx, hc⟩ := h.sl.at j hj
  obtain ⟨hl, h1, h2⟩ := h
  rcases h2 with ⟨hv, hn⟩ | ⟨g, c, cur, hv, hg, r⟩
  · omega
  · cases hv
    cases hp
    have hO : w.ownsRow base 5 1 (.slice (some ⟨b, 0, none⟩) n cap) n (l.map bv) := ⟨h1, .inr ⟨b, cap, cur, rfl, hg, r⟩⟩
    refine ⟨b, x, rfl, hg, hx, by simpa using hc, hO.frozenAt j, fun u => ?_⟩
    have := hO.stored j (bv u)
    rw [← List.map_set] at this
    exact ⟨⟨by simpa using hl, this.1⟩, this.2⟩

/-- From a row of the call's own on: an extension of a world that the own row was not part of. -/
theorem Ext.own {w0 w w' : World} {p : Option Addr} {n cap : Nat} {l : List UInt8} {row : Option Nat} (h : Ext w0 w) (ho : OwP w w0.heap.size p n cap l) (hg : w.grownBy w' row) (hr : row = p.map (·.block)) : Ext w0 w' :=
  Below.grown h hg h.size (fun k hk => (ho.lt k (by rw [← hr]; exact hk)).1)

section
variable {P : Program}
theorem run_cut_to (t e : TypeId) (ht : P.underlying t = some (.slice e)) (hs : ∀ w, (sizeOf e).run P w = .ok 1 w) (p : Option Addr) (n cap : Nat) (k : Nat) (hk : k ≤ cap) (w : World) :
    (Instr.slice t (.slice p n cap) none (some (.int .i64 (k : Int))) none).run P w = .ok (.slice p k cap) w := by
  have he : P.elem t = e := by simp [Program.elem, ht]
  have h := run_slice_h (P := P) w t p n cap (by rw [he]; exact ht) .i64 (k : Int) (by omega) (by omega)
  rw [h, he, hs]
  simp only [Result.andThen_ok, sliced, Int.toNat_natCast, Nat.sub_zero, Nat.zero_mul]
  congr 2
  split
  · rfl
  · cases p <;> simp [Addr.add]
theorem run_cut_from (t e : TypeId) (ht : P.underlying t = some (.slice e)) (hs : ∀ w, (sizeOf e).run P w = .ok 1 w) (p : Option Addr) (n cap : Nat) (k : Nat) (hk : k ≤ n) (w : World) :
    (Instr.slice t (.slice p n cap) (some (.int .i64 (k : Int))) none none).run P w = .ok (.slice (tailP p cap k) (n - k) (cap - k)) w := by
  have he : P.elem t = e := by simp [Program.elem, ht]
  have h := run_slice_l (P := P) w t p n cap (by rw [he]; exact ht) .i64 (k : Int) (by omega) (by omega)
  rw [h, he, hs]
  simp only [Result.andThen_ok, sliced, Int.toNat_natCast, Nat.mul_one, tailP]

/-- string(v) -/
theorem run_str (t e d : TypeId) (ht : P.underlying t = some (.slice e)) (he : P.underlying e = some (.int .u8)) (hd : P.underlying d = some .string) {w : World} {p : Option Addr} {n cap : Nat} {l : List UInt8} (h : SlP w p n cap l) :
    (convert t d (.slice p n cap)).run P w = .ok (.string ⟨l.toArray⟩) w := by
  rcases Nat.eq_zero_or_pos n with hn | hn
  · subst hn
    have hl : l = [] := List.eq_nil_of_length_eq_zero h.len
    subst hl
    rw [run_convert_bytes_string w t d e _ 0 cap ht he hd]
    cases p <;> simp [Conv.bytesToString, loadCells] <;> rfl
  · obtain ⟨b, o, hp, hh⟩ := h.cells hn
    subst hp
    have hlen := h.len
    have := run_convert_bytes_arg (P := P) w t e ht he b o n cap (l.map fun x => (x.toNat : Int)) (by simpa using hlen) (fun i hi => by
      have hil : i < l.length := by omega
      rw [hh i l[i] (by simp)]
      simp [bv, List.getD, hil]) d hd
    rw [this]
    simp [strOfNums, Function.comp_def]

/-- min(a, b) -/
theorem run_min (a b c : Nat) (h : c = min a b) (ts : Array TypeId) (t : TypeId) (w : World) : (Builtin.min_ ts t #[.int .i64 (a : Int), .int .i64 (b : Int)]).run P w = .ok (.int .i64 (c : Int)) w := by
  rw [run_min_int2]
  congr 2
  split <;> omega
/-- max(a, b) -/
theorem run_max (a b c : Nat) (h : c = max a b) (ts : Array TypeId) (t : TypeId) (w : World) : (Builtin.max_ ts t #[.int .i64 (a : Int), .int .i64 (b : Int)]).run P w = .ok (.int .i64 (c : Int)) w := by
  rw [run_max_int2]
  congr 2
  split <;> omega

/-- make([]byte, n) -/
theorem wpList_mk {w : World} {ops : Array Oper} {rest : List Oper} {o : Oper} {a : Act} {Q : Exit → Act → World → Prop} (hg : o.guard = none) (l c : Operand) (t : TypeId) (hop : o.op = Op.makeSlice t l c)
    (base : Nat) (ht : P.underlying t = some (.slice 5)) (hi : (P.info? 5).map (fun i => (i.zero, i.size, i.bytes)) = some (some (.int .u8 0), 1, 1))
    (n : Nat) (hl : a.eval l = .int .i64 (n : Int)) (hc : a.eval c = .int .i64 (n : Int)) (hn : n ≤ 140737488355328) (hb : base ≤ w.heap.size)
    (hK : ∀ p w', OwP w' base p n n (List.replicate n 0) → w.grownBy w' none → wpList P ops Q rest (a.put o.dst (.slice p n n)) w') :
    wpList P ops Q (o :: rest) a w := by
  obtain ⟨i0, h2, h3, h4, h5⟩ := info_parts hi
  refine wpList_make_full w hg l c t hop base 5 i0 (.int .u8 0) 1 ht h2 h3 h4 .i64 .i64 n n n hl hc rfl rfl (by rw [h5]; omega) (by unfold maxLen; omega) hb (fun w' ho hg' => ?_)
  refine hK _ w' ⟨by simp, ?_⟩ hg'
  rw [Nat.mul_one, show (Value.int .u8 0).cells = #[Value.int .u8 0] from rfl, toList_madeCells_one] at ho
  simpa [bv] using ho

/-- append(v, x...): v of the call's own, x any slice of bytes. -/
theorem wpList_app {w : World} {ops : Array Oper} {rest : List Oper} {o : Oper} {a : Act} {Q : Exit → Act → World → Prop} (hgd : o.guard = none) (s x : Operand) (t : TypeId)
    (ho : o.op = .call { callee := .builtin .append, args := #[s, x], argTypes := #[t, t] })
    (base : Nat) (ht : P.underlying t = some (.slice 5)) (hi : (P.info? 5).map (fun i => (i.zero, i.size, i.bytes)) = some (some (.int .u8 0), 1, 1))
    (p : Option Addr) (n cap : Nat) (l : List UInt8) (hs : a.eval s = .slice p n cap) (hown : OwP w base p n cap l)
    (q : Option Addr) (m c : Nat) (k : List UInt8) (hx : a.eval x = .slice q m c) (hsl : SlP w q m c k)
    (hbytes : n + m ≤ 140737488355328) (hbase : base ≤ w.heap.size)
    (h : ∀ p' cap' w', OwP w' base p' (n + m) cap' (l ++ k) → w.grownBy w' (p.map (·.block)) → wpList P ops Q rest (a.put o.dst (.slice p' (n + m) cap')) w') : wpList P ops Q (o :: rest) a w := by
  obtain ⟨i0, hi, hz0, hz1, hz2⟩ := info_parts hi
  have shape : ∀ (v' : Value) (w' : World), w'.ownsRow base 5 1 v' (n + m) (l.map bv ++ k.map bv) → ∃ p' cap', v' = .slice p' (n + m) cap' ∧ OwP w' base p' (n + m) cap' (l ++ k) := by
    intro v' w' ho'
    have hlen : (l ++ k).length = n + m := by rw [List.length_append, hown.1, hsl.len]
    have ho2 := ho'
    rcases ho'.2 with ⟨hv, hn⟩ | ⟨g, c', cur, hv, r⟩
    · subst hv
      exact ⟨none, 0, by rw [hn], hlen, by rw [hn] at *; rw [List.map_append]; exact ho2⟩
    · subst hv
      exact ⟨_, _, rfl, hlen, by rw [List.map_append]; exact ho2⟩
  cases q with
  | none =>
    have hc0 := hsl.nil rfl
    have hle := hsl.le
    have hm : m = 0 := by omega
    subst hc0
    subst hm
    have hk : k = [] := List.eq_nil_of_length_eq_zero hsl.len
    subst hk
    refine wpList_plain hgd fun K hK' => ?_
    have hrun := run_append_owned_none (P := P) w base t o.type 5 i0 1 ht hi _ n (l.map bv) hown.2
    unfold Oper.wp
    simp [execOp, ho, resolve, invoke, builtin, hs, hx, hrun, Result.andThen]
    exact hK' _ _ (by simpa using h p cap w (by simpa using hown) (World.grownBy.refl _ _))
  | some ad =>
    refine wpList_append_own w hgd s x t ho base 5 i0 (.int .u8 0) 1 1 ht hi hz0 hz1 hz2 rfl (by decide) _ n (l.map bv) hs hown.2 ad m c (k.map bv) hx (by simp [hsl.len]) ?_ ?_ (by unfold maxLen; omega) (by omega) hbase ?_
    · intro j u hj
      rw [List.getElem?_map] at hj
      obtain ⟨y, hy, rfl⟩ := Option.map_eq_some_iff.1 hj
      have hjk : j < k.length := (List.getElem?_eq_some_iff.1 hy).1
      obtain ⟨b, o', hp, hh⟩ := hsl.cells (by have := hsl.len; omega)
      cases hp
      rw [Addr.add_lit]
      exact hh j y hy
    · intro u hu
      obtain ⟨y, _, rfl⟩ := List.mem_map.1 hu
      rfl
    · intro v' w' ho' hg _
      obtain ⟨p', cap', rfl, hO⟩ := shape v' w' ho'
      rw [ownBlock_slice] at hg
      exact h p' cap' w' hO hg
end
end Go.Proofs.Ytgplmbchlahbkaa
