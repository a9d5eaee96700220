/-
  Lemmas on rows of structs that a call owns. No program in sight. Conditions stand at each.
-/
import Derived.Test.YtgplmbchlahbkaaStructs
import Derived.Tactics
import Derived.Tactics2
import Derived.StillTactics
import Derived.OwnWalk
import Derived.Laws.Pointers
import Derived.Deep.RegionHeld3
import Derived.Deep.AppendLies
namespace Go.Proofs.Ytgplmbchlahbkaa
open Go Go.RowKit Go.Deep
set_option linter.unusedVariables false

/-- The slice (p, n, cap) is a row of its own, from block base on, of elements of the type E of K cells each, and holds the rows L. -/
def OwS (E : TypeId) (K : Nat) (w : World) (base : Nat) (p : Option Addr) (n cap : Nat) (L : List (List Value)) : Prop :=
  L.length = n ∧ (∀ x ∈ L, x.length = K) ∧ w.ownsRow base E K (.slice p n cap) n L.flatten
theorem flatten_len {K : Nat} : ∀ (L : List (List Value)), (∀ x ∈ L, x.length = K) → L.flatten.length = L.length * K
  | [], _ => by simp
  | x :: L, h => by
    rw [List.flatten_cons, List.length_append, flatten_len L (fun y hy => h y (by simp [hy])), h x (by simp), List.length_cons, Nat.add_mul]
    omega
theorem flatten_at {K : Nat} : ∀ (L : List (List Value)), (∀ x ∈ L, x.length = K) → ∀ (i : Nat) (x : List Value), L[i]? = some x → ∀ (j : Nat) (v : Value), x[j]? = some v → L.flatten[i * K + j]? = some v
  | [], _, i, x, hx => by simp at hx
  | y :: L, h, 0, x, hx => by
    intro j v hv
    simp at hx
    subst hx
    have hj : j < y.length := (List.getElem?_eq_some_iff.1 hv).1
    rw [List.flatten_cons, List.getElem?_append_left (by omega)]
    simpa using hv
  | y :: L, h, i + 1, x, hx => by
    intro j v hv
    have hy := h y (by simp)
    rw [List.flatten_cons, List.getElem?_append_right (by rw [hy, Nat.add_mul]; omega), hy]
    have := flatten_at L (fun z hz => h z (by simp [hz])) i x (by simpa using hx) j v hv
    rw [show (i + 1) * K + j - K = i * K + j by rw [Nat.add_mul]; omega]
    exact this
theorem OwS.nil (E : TypeId) (K : Nat) (w : World) (base : Nat) : OwS E K w base none 0 0 [] := ⟨rfl, (fun x hx => by cases hx), World.ownsRow_nil _ _ _ _⟩
theorem OwS.sl {E : TypeId} {K : Nat} {w : World} {base : Nat} {p : Option Addr} {n cap : Nat} {L : List (List Value)} (h : OwS E K w base p n cap L) : SlS K w p n cap L := by
  obtain ⟨hl, hw, h1, h2⟩ := h
  rcases h2 with ⟨hv, hn⟩ | ⟨g, c, cur, hv, hg, hh, hn, hm, hs, ht⟩
  · cases hv
    exact ⟨hl, Nat.le_refl _, by decide, (fun _ => rfl), hw, fun h => absurd h (by omega)⟩
  · cases hv
    refine ⟨hl, hn, by unfold maxLen at hm; omega, (fun h => by cases h), hw, fun _ => ⟨g, 0, rfl, fun i x hx j v hv => ?_⟩⟩
    have := World.ownsRow.cells (w := w) (base := base) (e := E) (size := K) (v := .slice (some ⟨g, 0, none⟩) n cap) (n := n) (xs := L.flatten) ⟨h1, Or.inr ⟨g, cap, cur, rfl, hg, hh, hn, hm, hs, ht⟩⟩ (g := g) rfl (i * K + j) v (flatten_at L hw i x hx j v hv)
    rw [Addr.add_lit] at this
    simpa using this
theorem OwS.lt {E : TypeId} {K : Nat} {w : World} {base : Nat} {p : Option Addr} {n cap : Nat} {L : List (List Value)} (h : OwS E K w base p n cap L) : ∀ k, p.map (·.block) = some k → base ≤ k ∧ k < w.heap.size := by
  intro k hk
  cases p with
  | none => simp at hk
  | some a => exact World.ownsRow.lt h.2.2 k (by simpa [Value.ownBlock] using hk)
theorem OwS.kept {E : TypeId} {K : Nat} {w w' : World} {base : Nat} {p : Option Addr} {n cap : Nat} {L : List (List Value)} {row : Option Nat} (h : OwS E K w base p n cap L) (hg : w.grownBy w' row) (hne : ∀ k, row = some k → p.map (·.block) ≠ some k) : OwS E K w' base p n cap L :=
  ⟨h.1, h.2.1, h.2.2.kept hg (by
    rw [ownBlock_slice]
    cases row with
    | none => cases p <;> simp
    | some k => exact Or.inr (hne k rfl))⟩
theorem OwS.ext {E : TypeId} {K : Nat} {w w' : World} {base : Nat} {p : Option Addr} {n cap : Nat} {L : List (List Value)} (h : OwS E K w base p n cap L) (he : Ext w w') : OwS E K w' base p n cap L :=
  h.kept (row := none) ⟨he.os, he.tape, he.output, he.size, fun k hk _ => he.block k hk⟩ (fun k hk => by cases hk)
theorem OwS.mono {E : TypeId} {K : Nat} {w : World} {base base' : Nat} {p : Option Addr} {n cap : Nat} {L : List (List Value)} (h : OwS E K w base p n cap L) (hb : base' ≤ base) : OwS E K w base' p n cap L := by
  refine ⟨h.1, h.2.1, h.2.2.1, ?_⟩
  rcases h.2.2.2 with hn | ⟨g, c, cur, hv, hg, r⟩
  · exact .inl hn
  · exact .inr ⟨g, c, cur, hv, by omega, r⟩
/-- What the law of append leaves, one row more. -/
theorem OwS.app {E : TypeId} {K : Nat} {w w' : World} {base : Nat} {p p' : Option Addr} {n cap cap' : Nat} {L : List (List Value)} {r : List Value} (h : OwS E K w base p n cap L) (hr : r.length = K) (ho : w'.ownsRow base E K (.slice p' (n + 1) cap') (n + 1) (L.flatten ++ r)) : OwS E K w' base p' (n + 1) cap' (L ++ [r]) :=
  ⟨by simp [h.1], (fun x hx => by
    rcases List.mem_append.1 hx with hx | hx
    · exact h.2.1 x hx
    · simp at hx; subst hx; exact hr), by simpa using ho⟩
theorem OwS.app_all {E : TypeId} {K : Nat} {w w' : World} {base : Nat} {p p' : Option Addr} {n m cap cap' : Nat} {L M : List (List Value)} (h : OwS E K w base p n cap L) (hm : M.length = m) (hr : ∀ x ∈ M, x.length = K) (ho : w'.ownsRow base E K (.slice p' (n + m) cap') (n + m) (L.flatten ++ M.flatten)) : OwS E K w' base p' (n + m) cap' (L ++ M) :=
  ⟨by simp [h.1, hm], (fun x hx => by
    rcases List.mem_append.1 hx with hx | hx
    · exact h.2.1 x hx
    · exact hr x hx), by simpa using ho⟩
/-- A new block of just these rows. -/
theorem OwS.made {E : TypeId} {K : Nat} (w : World) (base n : Nat) (cur : Array Value) (L : List (List Value)) (hb : base ≤ w.heap.size) (hl : L.length = n) (hw : ∀ x ∈ L, x.length = K) (hcur : cur.toList = L.flatten) (hn : n ≤ 140737488355328) :
    OwS E K (w.alloc (.cells cur E)) base (some ⟨w.heap.size, 0, none⟩) n n L := by
  have hs : cur.size = n * K := by rw [← Array.length_toList, hcur, flatten_len L hw, hl]
  refine ⟨hl, hw, by rw [flatten_len L hw, hl], .inr ⟨w.heap.size, n, cur, rfl, hb, heap_alloc_new w _, Nat.le_refl _, by unfold maxLen; omega, hs, ?_⟩⟩
  rw [← hs, ← Array.length_toList, List.take_length, hcur]
/-- .. whatever mark it bears. -/
theorem SlS.lit {E : TypeId} {K : Nat} (w : World) (n : Nat) (cur : Array Value) (mark : Nat × Nat) (L : List (List Value)) (hl : L.length = n) (hw : ∀ x ∈ L, x.length = K) (hcur : cur.toList = L.flatten) (hn : n ≤ 140737488355328) :
    SlS K (w.alloc (.cells cur E mark)) (some ⟨w.heap.size, 0, none⟩) n n L :=
  ⟨hl, Nat.le_refl _, by omega, (fun h => by cases h), hw, fun _ => ⟨w.heap.size, 0, rfl, fun i x hx j v hv => by
    rw [World.cell?_alloc_mark, Nat.zero_add, ← Array.getElem?_toList, hcur]
    exact flatten_at L hw i x hx j v hv⟩⟩
theorem run_cutS_to {P : Program} (K : Nat) (t e : TypeId) (ht : P.underlying t = some (.slice e)) (hs : ∀ w, (sizeOf e).run P w = .ok K w) (p : Option Addr) (n cap : Nat) (k : Nat) (hk : k ≤ cap) (w : World) :
    (Instr.slice t (.slice p n cap) none (some (.int .i64 (k : Int))) none).run P w = .ok (.slice p k cap) w := by
  have he : P.elem t = e := by simp [Program.elem, ht]
  have h := run_slice_h (P := P) w t p n cap (by rw [he]; exact ht) .i64 (k : Int) (by omega) (by omega)
  rw [h, he, hs]
  simp only [Result.andThen_ok, sliced, Int.toNat_natCast, Nat.sub_zero, Nat.zero_mul]
  congr 2
  split
  · rfl
  · cases p <;> simp [Addr.add]
theorem run_cutS_from {P : Program} (K : Nat) (t e : TypeId) (ht : P.underlying t = some (.slice e)) (hs : ∀ w, (sizeOf e).run P w = .ok K w) (p : Option Addr) (n cap : Nat) (k : Nat) (hk : k ≤ n) (w : World) :
    (Instr.slice t (.slice p n cap) (some (.int .i64 (k : Int))) none none).run P w = .ok (.slice (tailS K p cap k) (n - k) (cap - k)) w := by
  have he : P.elem t = e := by simp [Program.elem, ht]
  have h := run_slice_l (P := P) w t p n cap (by rw [he]; exact ht) .i64 (k : Int) (by omega) (by omega)
  rw [h, he, hs]
  simp only [Result.andThen_ok, sliced, Int.toNat_natCast, tailS]
/-- From a row of the call's own on. -/
theorem Ext.ownS {E : TypeId} {K : Nat} {w0 w w' : World} {p : Option Addr} {n cap : Nat} {L : List (List Value)} {row : Option Nat} (h : Ext w0 w) (ho : OwS E K w w0.heap.size p n cap L) (hg : w.grownBy w' row) (hr : row = p.map (·.block)) : Ext w0 w' :=
  Below.grown h hg h.size (fun k hk => (ho.lt k (by rw [← hr]; exact hk)).1)
/-- append(v, x...): v of the call's own, x any slice of structs. -/
theorem wpList_appS {P : Program} {E : TypeId} {K : Nat} {w : World} {ops : Array Oper} {rest : List Oper} {o : Oper} {a : Act} {Q : Exit → Act → World → Prop} (hgd : o.guard = none) (s x : Operand) (t : TypeId)
    (ho : o.op = .call { callee := .builtin .append, args := #[s, x], argTypes := #[t, t] })
    (base : Nat) (ht : P.underlying t = some (.slice E)) (i0 : TypeInfo) (z : Value) (bytes : Nat) (hi : P.info? E = some i0) (hz0 : i0.zero = some z) (hz1 : i0.size = K) (hz2 : i0.bytes = bytes) (hzs : z.cells.size = K) (hK : 0 < K)
    (p : Option Addr) (n cap : Nat) (L : List (List Value)) (hs : a.eval s = .slice p n cap) (hown : OwS E K w base p n cap L)
    (q : Option Addr) (m c : Nat) (M : List (List Value)) (hx : a.eval x = .slice q m c) (hsl : SlS K w q m c M) (hone : ∀ r ∈ M, ∀ u ∈ r, u.oneCell' = true)
    (hbytes : (n + m) * bytes ≤ 140737488355328) (hmax : n + m ≤ 140737488355328) (hbase : base ≤ w.heap.size)
    (h : ∀ p' cap' w', OwS E K w' base p' (n + m) cap' (L ++ M) → w.grownBy w' (p.map (·.block)) → wpList P ops Q rest (a.put o.dst (.slice p' (n + m) cap')) w') : wpList P ops Q (o :: rest) a w := by
  have shape : ∀ (v' : Value) (w' : World), w'.ownsRow base E K v' (n + m) (L.flatten ++ M.flatten) → ∃ p' cap', v' = .slice p' (n + m) cap' ∧ OwS E K w' base p' (n + m) cap' (L ++ M) := by
    intro v' w' ho'
    have ho2 := ho'
    rcases ho'.2 with ⟨hv, hn⟩ | ⟨g, c', cur, hv, r⟩
    · subst hv
      exact ⟨none, 0, by rw [hn], OwS.app_all hown hsl.len hsl.wid (by rw [hn] at *; exact ho2)⟩
    · subst hv
      exact ⟨_, _, rfl, OwS.app_all hown hsl.len hsl.wid ho2⟩
  cases q with
  | none =>
    have hc0 := hsl.nil rfl
    have hle := hsl.le
    have hm : m = 0 := by omega
    subst hc0
    subst hm
    have hk : M = [] := List.eq_nil_of_length_eq_zero hsl.len
    subst hk
    refine wpList_plain hgd fun KK hK' => ?_
    have hrun := run_append_owned_none (P := P) w base t o.type E i0 K ht hi _ n L.flatten hown.2.2
    unfold Oper.wp
    simp [execOp, ho, resolve, invoke, builtin, hs, hx, hrun, Result.andThen]
    exact hK' _ _ (by simpa using h p cap w (by simpa using hown) (World.grownBy.refl _ _))
  | some ad =>
    refine wpList_append_own w hgd s x t ho base E i0 z K bytes ht hi hz0 hz1 hz2 hzs hK _ n L.flatten hs hown.2.2 ad m c M.flatten hx (by rw [flatten_len M hsl.wid, hsl.len]) ?_ ?_ (by unfold maxLen; omega) hbytes hbase ?_
    · intro j u hj
      have hjl : j < M.flatten.length := (List.getElem?_eq_some_iff.1 hj).1
      rw [flatten_len M hsl.wid, hsl.len] at hjl
      have hm0 : 0 < m := by
        rcases Nat.eq_zero_or_pos m with h0 | h0
        · rw [h0] at hjl; omega
        · exact h0
      obtain ⟨b, o', hp, hh⟩ := hsl.cells hm0
      cases hp
      rw [Addr.add_lit]
      have hdiv : j / K < m := (Nat.div_lt_iff_lt_mul hK).2 hjl
      have hmod : j % K < K := Nat.mod_lt _ hK
      have hj2 : j / K * K + j % K = j := by rw [Nat.mul_comm]; exact Nat.div_add_mod j K
      obtain ⟨r, hr⟩ : ∃ r, M[j / K]? = some r := ⟨M[j / K]'(by rw [hsl.len]; exact hdiv), by simp⟩
      obtain ⟨v, hv⟩ : ∃ v, r[j % K]? = some v := ⟨r[j % K]'(by rw [hsl.wid r (List.mem_of_getElem? hr)]; exact hmod), by simp⟩
      have e := flatten_at M hsl.wid _ _ hr _ _ hv
      rw [hj2, hj] at e
      cases e
      have := hh _ _ hr _ _ hv
      rwa [hj2] at this
    · intro u hu
      obtain ⟨r, hr, hur⟩ := List.mem_flatten.1 hu
      exact hone r hr u hur
    · intro v' w' ho' hg _
      obtain ⟨p', cap', rfl, hO⟩ := shape v' w' ho'
      rw [ownBlock_slice] at hg
      exact h p' cap' w' hO hg
end Go.Proofs.Ytgplmbchlahbkaa
