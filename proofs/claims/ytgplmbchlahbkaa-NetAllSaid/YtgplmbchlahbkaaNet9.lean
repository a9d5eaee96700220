/-
  Lists of messages of which one is cut out by append(l[:i:i], l[i+1:]...), or to which one is appended, whatever room they have. Conditions stand at each.
-/
import Derived.Test.YtgplmbchlahbkaaNet8
import Derived.Deep.RegionLawGrows
import Derived.ArgAppend
import Derived.Deep.Upon
namespace Go.Proofs.Ytgplmbchlahbkaa
open Go Go.Sort Go.RowKit
set_option linter.unusedVariables false

theorem SlS.flat {K : Nat} {w : World} {b o n cap : Nat} {L : List (List Value)} (h : SlS K w (some ⟨b, o, none⟩) n cap L) (hK : 0 < K) : ∀ j u, L.flatten[j]? = some u → w.cell? ⟨b, o + j, none⟩ = some u := by
  intro j u hj
  have hjl : j < L.flatten.length := (List.getElem?_eq_some_iff.1 hj).1
  rw [flatten_len L h.wid, h.len] at hjl
  have hm0 : 0 < n := by
    rcases Nat.eq_zero_or_pos n with h0 | h0
    · rw [h0] at hjl; omega
    · exact h0
  obtain ⟨b', o', hp, hh⟩ := h.cells hm0
  cases hp
  have hdiv : j / K < n := (Nat.div_lt_iff_lt_mul hK).2 hjl
  have hmod : j % K < K := Nat.mod_lt _ hK
  have hj2 : j / K * K + j % K = j := by rw [Nat.mul_comm]; exact Nat.div_add_mod j K
  obtain ⟨r, hr⟩ : ∃ r, L[j / K]? = some r := ⟨L[j / K]'(by rw [h.len]; exact hdiv), by simp⟩
  obtain ⟨v, hv⟩ : ∃ v, r[j % K]? = some v := ⟨r[j % K]'(by rw [h.wid r (List.mem_of_getElem? hr)]; exact hmod), by simp⟩
  have e := flatten_at L h.wid _ _ hr _ _ hv
  rw [hj2, hj] at e
  cases e
  have := hh _ _ hr _ _ hv
  rwa [hj2] at this
theorem owns_form {E : TypeId} {K base n : Nat} {v : Value} {w : World} {L : List (List Value)} (h : w.ownsRow base E K v n L.flatten) (hl : L.length = n) (hw : ∀ x ∈ L, x.length = K) : ∃ p cap, v = .slice p n cap ∧ OwS E K w base p n cap L := by
  have h' := h
  rcases h.2 with ⟨hv, hn⟩ | ⟨g, c, cur, hv, r⟩
  · subst hv
    subst hn
    exact ⟨none, 0, rfl, hl, hw, h'⟩
  · subst hv
    exact ⟨_, _, rfl, hl, hw, h'⟩
theorem msg_size1 (w : World) : (sizeOf 31).run Try.prog w = .ok 13 w := by kernel_rfl
theorem mscut_from (p : Option Addr) (n cap k : Nat) (hk : k ≤ n) (w : World) : (Instr.slice 26 (.slice p n cap) (some (.int .i64 (k : Int))) none none).run Try.prog w = .ok (.slice (tailS 13 p cap k) (n - k) (cap - k)) w :=
  run_cutS_from 13 26 31 Try.underlying26 msg_size1 p n cap k hk w
theorem mscut3 (p : Option Addr) (n cap k : Nat) (hk : k ≤ cap) (w : World) : (Instr.slice 26 (.slice p n cap) none (some (.int .i64 (k : Int))) (some (.int .i64 (k : Int)))).run Try.prog w = .ok (.slice p k k) w := by
  have he : Try.prog.elem 26 = 31 := by simp [Program.elem, Try.underlying26]
  have h := run_slice_hm (P := Try.prog) w 26 p n cap (by rw [he]; exact Try.underlying26) .i64 .i64 (k : Int) (k : Int) (by omega) (by omega) (by omega)
  rw [h, he, msg_size1]
  simp only [Result.andThen_ok, sliced, Int.toNat_natCast, Nat.sub_zero, Nat.zero_mul]
  congr 2
  split
  · rfl
  · cases p <;> simp [Addr.add]

/-- A readable list of messages, in blocks from base on; a row of its own, or without room. -/
structure LV (w : World) (base : Nat) (p : Option Addr) (n cap : Nat) (L : List (List Value)) : Prop where
  sl : SlS 13 w p n cap L
  lt : ∀ k, p.map (·.block) = some k → base ≤ k ∧ k < w.heap.size
  own : n = cap ∨ OwS 31 13 w base p n cap L
theorem LV.ext {w w' : World} {base n cap : Nat} {p : Option Addr} {L : List (List Value)} (h : LV w base p n cap L) (k : Ext w w') : LV w' base p n cap L :=
  ⟨h.sl.ext k, fun i hi => ⟨(h.lt i hi).1, Nat.lt_of_lt_of_le (h.lt i hi).2 k.size⟩, h.own.imp id (fun o => o.ext k)⟩
theorem LV.mv {w w' : World} {base n cap g : Nat} {p pn : Option Addr} {L : List (List Value)} (h : LV w base p n cap L) (k : Mv w w' g pn) (s : Sep g pn p) : LV w' base p n cap L :=
  ⟨h.sl.mv k s.1 s.2, fun i hi => ⟨(h.lt i hi).1, Nat.lt_of_lt_of_le (h.lt i hi).2 k.size⟩, h.own.imp id (fun o => o.mv k s.1 s.2)⟩
theorem LV.nil (w : World) (base : Nat) : LV w base none 0 0 [] := ⟨SlS.empty 13 w, (fun k hk => by cases hk), .inl rfl⟩
theorem LV.of_own {w : World} {base n cap : Nat} {p : Option Addr} {L : List (List Value)} (h : OwS 31 13 w base p n cap L) : LV w base p n cap L := ⟨h.sl, h.lt, .inr h⟩
/-- append(l, x), whatever room there is. -/
theorem wpList_appLV {w : World} {ops : Array Oper} {rest : List Oper} {o : Oper} {a : Act} {Q : Exit → Act → World → Prop} (hgd : o.guard = none) (s x : Operand)
    (ho : o.op = .call { callee := .builtin .append, args := #[s, x], argTypes := #[26, 26] })
    (base : Nat) (p : Option Addr) (n cap : Nat) (L : List (List Value)) (hs : a.eval s = .slice p n cap) (hl : LV w base p n cap L)
    (q : Addr) (c : Nat) (M : List (List Value)) (hx : a.eval x = .slice (some q) 1 c) (hsl : SlS 13 w (some q) 1 c M) (hone : ∀ r ∈ M, ∀ u ∈ r, u.oneCell' = true)
    (hmax : n ≤ 1000000) (hbase : base ≤ w.heap.size)
    (h : ∀ p' cap' w', OwS 31 13 w' base p' (n + 1) cap' (L ++ M) → (w.grownBy w' none ∨ (OwS 31 13 w base p n cap L ∧ w.grownBy w' (p.map (·.block)))) → Fr w p p' → wpList Try.prog ops Q rest (a.put o.dst (.slice p' (n + 1) cap')) w') : wpList Try.prog ops Q (o :: rest) a w := by
  obtain ⟨i0, hi0, hz0, hz1, hz2⟩ := info_parts infoM
  rcases hl.own with hn | hown
  · obtain ⟨b, o', hq, -⟩ := hsl.cells (by decide)
    cases hq
    refine wpList_append_grows (P := Try.prog) w hgd s x _ ho 31 i0 _ 13 120 Try.underlying26 hi0 hz0 hz1 hz2 rfl (by decide) p n cap L.flatten hs (fun hp => ?_) (by rw [flatten_len L hl.sl.wid, hl.sl.len]) (fun b' hb' j u hj => ?_) ⟨b, o', none⟩ 1 c M.flatten hx (by rw [flatten_len M hsl.wid, hsl.len]) (fun j u hj => by rw [Addr.add_lit]; exact hsl.flat (by decide) j u hj) (fun u hu => ?_) (by omega) (by unfold maxLen; omega) (by omega) (fun v' w' ho' hg => ?_)
    · have := hl.sl.nil hp
      exact ⟨by omega, this⟩
    · subst hb'
      have hp0 : 0 < n := by
        have hjl := (List.getElem?_eq_some_iff.1 hj).1
        rw [flatten_len L hl.sl.wid, hl.sl.len] at hjl
        omega
      obtain ⟨b2, o2, he, -⟩ := hl.sl.cells hp0
      cases he
      rw [Addr.add_lit]
      exact hl.sl.flat (by decide) j u hj
    · obtain ⟨r, hr, hur⟩ := List.mem_flatten.1 hu
      exact hone r hr u hur
    · rw [← List.flatten_append] at ho'
      obtain ⟨p', cap', rfl, hO⟩ := owns_form ho' (by rw [List.length_append, hl.sl.len, hsl.len]) (fun y hy => by
        rcases List.mem_append.1 hy with hy | hy
        · exact hl.sl.wid y hy
        · exact hsl.wid y hy)
      exact h p' cap' w' (hO.mono hbase) (.inl hg) (fun i hi => .inr (hO.lt i hi).1)
  · refine wpList_appAt hgd s x _ ho base Try.underlying26 i0 _ 120 hi0 hz0 hz1 hz2 rfl (by decide) p n cap L hs hown q 1 c M hx hsl hone (by omega) (by omega) hbase (fun p' cap' w' hO hg hw => h p' cap' w' hO (.inr ⟨hown, hg⟩) (fun i hi => ?_))
    rcases hw with hw | hw
    · exact .inl (by rw [← hw]; exact hi)
    · rw [hw] at hi
      cases hi
      exact .inr (Nat.le_refl _)
/-- append(l[:i:i], l[i+1:]...), as a step of a region that draws its order. -/
theorem step_del {ops : Array Oper} {o : Oper} {a : Act} {w : World} {K : Act → World → Prop} {Q : Exit → Act → World → Prop} {E : Prop} (hgd : o.guard = none) (s x : Operand)
    (ho : o.op = .call { callee := .builtin .append, args := #[s, x], argTypes := #[26, 26] })
    (base : Nat) (p : Option Addr) (n cap : Nat) (L : List (List Value)) (hl : LV w base p n cap L) (hone : ∀ r ∈ L, ∀ u ∈ r, u.oneCell' = true) (i : Nat) (hi : i < n)
    (hs : a.eval s = .slice p i i) (hx : a.eval x = .slice (tailS 13 p cap (i + 1)) (n - (i + 1)) (cap - (i + 1))) (hmax : n ≤ 1000000) (hbase : base ≤ w.heap.size)
    (h : ∀ p' cap' w', LV w' base p' (n - 1) cap' (L.eraseIdx i) → Ext w w' → Fr w p p' → K (a.put o.dst (.slice p' (n - 1) cap')) w') : if Region.wanted o (yielded ops a.tmps) = true then Oper.wp Try.prog o a w K Q else E := by
  obtain ⟨i0, hi0, hz0, hz1, hz2⟩ := info_parts infoM
  have hiL : i < L.length := by rw [hl.sl.len]; exact hi
  have hle := hl.sl.le
  have hE : L.eraseIdx i = L.take i ++ L.drop (i + 1) := List.eraseIdx_eq_take_drop_succ ..
  have hT := hl.sl.take i (by omega)
  have hD := hl.sl.drop (i + 1) (by omega)
  obtain ⟨b, o', hp, -⟩ := hl.sl.cells (by omega)
  by_cases hm : n - (i + 1) = 0
  · have hw : Region.wanted o (yielded ops a.tmps) = true := by simp [Region.wanted, hgd]
    rw [if_pos hw]
    have hDn : L.drop (i + 1) = [] := by rw [List.drop_eq_nil_iff, hl.sl.len]; omega
    rw [hm] at hx
    have hrun : ∀ q c, (Builtin.append_ #[26, 26] o.type #[.slice p i i, .slice q 0 c]).run Try.prog w = .ok (.slice p i i) w := fun q c => by
      cases q with
      | none => exact run_append_nothing (P := Try.prog) w _ _ _ 31 i0 Try.underlying26 hi0 p i i (Nat.le_refl _) _ (Src.ofNil w Try.underlying26 c)
      | some q => exact run_append_nothing (P := Try.prog) w _ _ _ 31 i0 Try.underlying26 hi0 p i i (Nat.le_refl _) _ (Src.ofSlice w Try.underlying26 q 0 c [] (by simp) (by simp) (by simp))
    unfold Oper.wp
    simp [execOp, ho, resolve, invoke, builtin, hs, hx, hrun, Result.andThen]
    rw [show i = n - 1 by omega]
    rw [show n - 1 = i by omega] at *
    have hL : L.eraseIdx i = L.take i := by rw [hE, hDn, List.append_nil]
    refine h p i w ⟨?_, hl.lt, .inl rfl⟩ (Ext.rfl' _) (fun k hk => .inl hk)
    rw [hL]
    exact ⟨hT.len, Nat.le_refl _, by have := hl.sl.max; omega, (fun e => by rw [e] at hp; cases hp), hT.wid, hT.cells⟩
  · have hta : tailS 13 p cap (i + 1) = some ⟨b, o' + (i + 1) * 13, none⟩ := by
      unfold tailS
      rw [if_neg (by omega), hp]
      simp [Addr.add_lit]
    rw [hta] at hx hD
    refine step_append_grows hgd s x _ ho 31 i0 _ 13 120 Try.underlying26 hi0 hz0 hz1 hz2 rfl (by decide) p i i (L.take i).flatten hs (fun e => by rw [e] at hp; cases hp) (by rw [flatten_len _ hT.wid, hT.len]) (fun b' hb' j u hj => ?_) ⟨b, o' + (i + 1) * 13, none⟩ (n - (i + 1)) (cap - (i + 1)) (L.drop (i + 1)).flatten hx (by rw [flatten_len _ hD.wid, hD.len]) (fun j u hj => by rw [Addr.add_lit]; exact hD.flat (by decide) j u hj) (fun u hu => ?_) (by omega) (by unfold maxLen; omega) (by omega) (fun v' w' ho' hg => ?_)
    · rw [hp] at hb'
      cases hb'
      rw [hp] at hT
      rw [Addr.add_lit]
      exact hT.flat (by decide) j u hj
    · obtain ⟨r, hr, hur⟩ := List.mem_flatten.1 hu
      exact hone r (List.mem_of_mem_drop hr) u hur
    · rw [← List.flatten_append, ← hE, show i + (n - (i + 1)) = n - 1 by omega] at ho'
      obtain ⟨p', cap', rfl, hO⟩ := owns_form ho' (by rw [List.length_eraseIdx, if_pos hiL, hl.sl.len]) (fun y hy => hl.sl.wid y (List.mem_of_mem_eraseIdx hy))
      exact h p' cap' w' (LV.of_own (hO.mono hbase)) (Ext.grown hg (fun k hk => by cases hk)) (fun k hk => .inr (hO.lt k hk).1)
end Go.Proofs.Ytgplmbchlahbkaa
