/-
  Contracts of a disk's methods and of the reference's. Conditions stand at each.
-/
import Derived.Test.YtkgcmobijbakmaaStable
namespace Go.Proofs.Ytkgcmobijbakmaa
open Go Go.Sort Go.RowKit
set_option linter.unusedVariables false

set_option maxHeartbeats 400000 in
theorem boot_any {base g : Nat} {a b : Int} {w : World} (h : Two w base g a b) :
    Calls Try.prog 35 #[.pointer (some ⟨g, 0, none⟩)] w fun e w' => e = .returned (.int .i64 a) ∧ w = w' := by
  have c0 := h.c0
  clear h
  go_enter Try.func35, Try.ntmps35
  go_wp2
  go_ret
  exact ⟨rfl, rfl⟩
set_option maxHeartbeats 400000 in
theorem view_any {base g : Nat} {a b : Int} {w : World} (h : Two w base g a b) :
    Calls Try.prog 36 #[.pointer (some ⟨g, 0, none⟩)] w fun e w' => e = .returned (.int .i64 b) ∧ w = w' := by
  have c1 := h.c1
  clear h
  go_enter Try.func36, Try.ntmps36
  go_wp2
  go_ret
  exact ⟨rfl, rfl⟩
set_option maxHeartbeats 1000000 in
theorem start_only {base g : Nat} {a b : Int} {w : World} (h : Two w base g a b) (ha : 0 ≤ a) (ha2 : a ≤ 1099511627776) :
    Calls Try.prog 33 #[.pointer (some ⟨g, 0, none⟩)] w fun e w' => e = .returned (.int .i64 (stR a)) ∧ Two w' base g (stA a) b ∧ w.grownBy w' (some g) := by
  have H := Lib.hid h
  have c0 := h.c0
  have c1 := h.c1
  have f0 := h.f0
  have f1 := h.f1
  clear h
  by_cases hd : 1099511627776 ≤ a
  · have e1 : stR a = 0 := if_pos hd
    have e2 : stA a = a := if_pos hd
    rw [e1, e2]
    clear e1 e2
    go_enter Try.func33, Try.ntmps33
    go_wp2
    go_ret
    exact ⟨rfl, H.out, only_refl _ _⟩
  · have e1 : stR a = a + 1 := if_neg hd
    have e2 : stA a = a + 1 := if_neg hd
    rw [e1, e2]
    clear e1 e2
    have c0' := (H.out.put0 (a + 1)).c0
    have hdd : decide (1099511627776 ≤ a) = false := decide_eq_false hd
    go_enter Try.func33, Try.ntmps33
    go_wp2
    go_ret
    exact ⟨rfl, H.out.put0 _, only_put (only_refl _ _) _ _⟩
set_option maxHeartbeats 1000000 in
theorem promise_only {base g : Nat} {a b v : Int} {w : World} (h : Two w base g a b) :
    Calls Try.prog 31 #[.pointer (some ⟨g, 0, none⟩), .int .i64 v] w fun e w' => e = .returned (.bool (prB b v)) ∧ Two w' base g a (prV b v) ∧ w.grownBy w' (some g) := by
  have H := Lib.hid h
  have c0 := h.c0
  have c1 := h.c1
  have f0 := h.f0
  have f1 := h.f1
  clear h
  by_cases h1 : v ≤ b
  · have e1 : prB b v = false := by unfold prB; rw [decide_eq_false (by omega)]; rfl
    have e2 : prV b v = b := by unfold prV; rw [e1]; rfl
    rw [e1, e2]
    clear e1 e2
    go_enter Try.func31, Try.ntmps31
    go_wp2
    go_ret
    exact ⟨rfl, H.out, only_refl _ _⟩
  · have hd1 : decide (v ≤ b) = false := decide_eq_false h1
    by_cases h2 : 1099511627776 < v
    · have e1 : prB b v = false := by unfold prB; rw [decide_eq_false (show ¬ v ≤ 1099511627776 by omega), Bool.and_false]
      have e2 : prV b v = b := by unfold prV; rw [e1]; rfl
      rw [e1, e2]
      clear e1 e2
      go_enter Try.func31, Try.ntmps31
      go_wp2
      go_ret
      exact ⟨rfl, H.out, only_refl _ _⟩
    · have hd2 : decide (1099511627776 < v) = false := decide_eq_false h2
      have e1 : prB b v = true := by unfold prB; rw [decide_eq_true (show b < v by omega), decide_eq_true (show v ≤ 1099511627776 by omega)]; rfl
      have e2 : prV b v = v := by unfold prV; rw [e1]; rfl
      rw [e1, e2]
      clear e1 e2
      go_enter Try.func31, Try.ntmps31
      go_wp2
      go_ret
      exact ⟨rfl, H.out.put1 _, only_put (only_refl _ _) _ _⟩
set_option maxHeartbeats 1000000 in
theorem rpromise_only {base g : Nat} {a b v : Int} {w : World} (h : Two w base g a b) :
    Calls Try.prog 32 #[.pointer (some ⟨g, 0, none⟩), .int .i64 v] w fun e w' => e = .returned (.bool (prB b v)) ∧ Two w' base g a (prV b v) ∧ w.grownBy w' (some g) := by
  have H := Lib.hid h
  have c0 := h.c0
  have c1 := h.c1
  have f0 := h.f0
  have f1 := h.f1
  clear h
  by_cases h1 : v ≤ b
  · have e1 : prB b v = false := by unfold prB; rw [decide_eq_false (by omega)]; rfl
    have e2 : prV b v = b := by unfold prV; rw [e1]; rfl
    rw [e1, e2]
    clear e1 e2
    go_enter Try.func32, Try.ntmps32
    go_wp2
    go_ret
    exact ⟨rfl, H.out, only_refl _ _⟩
  · have hd1 : decide (v ≤ b) = false := decide_eq_false h1
    by_cases h2 : 1099511627776 < v
    · have e1 : prB b v = false := by unfold prB; rw [decide_eq_false (show ¬ v ≤ 1099511627776 by omega), Bool.and_false]
      have e2 : prV b v = b := by unfold prV; rw [e1]; rfl
      rw [e1, e2]
      clear e1 e2
      go_enter Try.func32, Try.ntmps32
      go_wp2
      go_ret
      exact ⟨rfl, H.out, only_refl _ _⟩
    · have hd2 : decide (1099511627776 < v) = false := decide_eq_false h2
      have e1 : prB b v = true := by unfold prB; rw [decide_eq_true (show b < v by omega), decide_eq_true (show v ≤ 1099511627776 by omega)]; rfl
      have e2 : prV b v = v := by unfold prV; rw [e1]; rfl
      rw [e1, e2]
      clear e1 e2
      go_enter Try.func32, Try.ntmps32
      go_wp2
      go_ret
      exact ⟨rfl, H.out.put1 _, only_put (only_refl _ _) _ _⟩

theorem wp_appL {P : Program} {w : World} {o : Oper} {a : Act} {K : Act → World → Prop} {Q : Exit → Act → World → Prop} (s x : Operand) (t : TypeId)
    (ho : o.op = .call { callee := .builtin .append, args := #[s, x], argTypes := #[t, t] })
    (base : Nat) (ht : P.underlying t = some (.slice 5)) (hi : (P.info? 5).map (fun i => (i.zero, i.size, i.bytes)) = some (some (.int .u8 0), 1, 1))
    (p : Option Addr) (n cap : Nat) (l : List UInt8) (hs : a.eval s = .slice p n cap) (hown : OwP w base p n cap l)
    (ad : Addr) (m c : Nat) (k : List UInt8) (hx : a.eval x = .slice (some ad) m c) (hsl : SlP w (some ad) m c k) (hm : 0 < m)
    (hbytes : n + m ≤ 140737488355328) (hbase : base ≤ w.heap.size)
    (h : ∀ p' cap' w', OwP w' base p' (n + m) cap' (l ++ k) → w.grownBy w' (p.map (·.block)) → Loc w.heap.size (p.map (·.block)) p' → K (a.put o.dst (.slice p' (n + m) cap')) w') : o.wp P a w K Q := by
  obtain ⟨i0, hi, hz0, hz1, hz2⟩ := info_parts hi
  refine wp_append_lies w s x t ho base 5 i0 (.int .u8 0) 1 1 ht hi hz0 hz1 hz2 rfl (by decide) _ n (l.map bv) hs hown.2 ad m c (k.map bv) hx (by simp [hsl.len]) ?_ ?_ hm (by unfold maxLen; omega) (by omega) hbase w.heap.size rfl ?_
  · intro j u hj
    rw [List.getElem?_map] at hj
    obtain ⟨y, hy, rfl⟩ := Option.map_eq_some_iff.1 hj
    have hjk : j < k.length := (List.getElem?_eq_some_iff.1 hy).1
    obtain ⟨b, o', hp, hh⟩ := hsl.cells (by have := hsl.len; omega)
    cases hp
    rw [Addr.add_lit]
    exact hh j y hy
  · intro u hu
    obtain ⟨y, _, rfl⟩ := List.mem_map.1 hu
    rfl
  · intro g cap' w' ho' hg hl hlt
    rw [ownBlock_slice] at hg hl
    refine h (some ⟨g, 0, none⟩) cap' w' ⟨by rw [List.length_append, hown.1, hsl.len], by rw [List.map_append]; exact ho'⟩ hg ?_
    rcases hl with hl | hl
    · exact .inl (by simpa using hl.symm)
    · exact .inr fun k hk => by simp at hk; omega
theorem enc_len10 {x : Int} (h : J64 x) : (enc (zig x)).length ≤ 10 := enc_ten (zig_lt h.1 h.2)
set_option maxRecDepth 8000 in
set_option maxHeartbeats 2000000 in
theorem bytes_any {base g : Nat} {a b : Int} {w : World} (h : Two w base g a b) (ha : J64 a) (hb : J64 b) :
    Calls Try.prog 34 #[.pointer (some ⟨g, 0, none⟩)] w fun e w' => ∃ p n cap, e = .returned (.slice p n cap) ∧ OwP w' w.heap.size p n cap (diskL a b) ∧ Ext w w' := by
  have la := enc_len10 ha
  have lb := enc_len10 hb
  have HA := Lib.hid ha
  have HB := Lib.hid hb
  have r0 := fun d os => Ext.cell (Ext.reg w.drew d os) (Ext.cell (Ext.drew w) h.c0)
  have r1 := fun d os => Ext.cell (Ext.reg w.drew d os) (Ext.cell (Ext.drew w) h.c1)
  clear h ha hb
  go_enter Try.func34, Try.ntmps34
  go_wp2_with fail
  refine ra_start [0, 1, 2, 3, 5, 6, 7, 8, 4] [9, 10, 11] (by kernel_rfl) (by kernel_rfl) (fun _ _ d _ _ h => by cases d <;> exact h) ?_
  repeat (first | (refine ra_quiet rfl (by rfl) (by rfl) (fun K hK => ?_); go_big_quiet_op; refine hK _ ?_; clear hK K) | (refine ra_skip rfl (by rfl) (fun K hK => ?_); go_big_quiet_op; refine hK _ ?_; clear hK K))
  clear r0 r1
  refine ra_call rfl (by rfl) (by rfl) (fun K hK => ?_)
  go_simp
  refine (put_any (base := w.heap.size) (w := w.drew) (OwP.nil _ _) (Nat.le_refl w.heap.size) (by omega) HA.out.1 HA.out.2).mono ?_
  rintro e w1 ⟨p1, c1, rfl, o1, x1⟩
  refine hK _ _ x1 ?_
  clear hK K
  refine ra_nil ?_
  have O1 : Hid (OwP w1 w.heap.size p1 (enc (zig a)).length c1 (enc (zig a))) := Lib.hid (by simpa using o1)
  have X1 : Hid (Ext w w1) := Lib.hid (Ext.tr (Ext.drew w) x1)
  clear o1 x1
  refine rt_op rfl (by rfl) (fun K hK => ?_)
  go_simp
  refine (put_any O1.out X1.out.size (by omega) HB.out.1 HB.out.2).mono ?_
  rintro e w2 ⟨p2, c2, rfl, o2, x2⟩
  refine hK _ _ ?_
  clear hK K
  have O2 := Lib.hid o2
  have X2 : Hid (Ext w w2) := Lib.hid (Below.trans X1.out x2)
  clear o2 x2
  refine rt_op rfl (by rfl) (fun K hK => ?_)
  go_simp
  refine (seal_any O2.out.sl (by omega)).mono ?_
  rintro e w3 ⟨p3, c3, rfl, o3, x3⟩
  refine hK _ _ ?_
  clear hK K
  have O3 : Hid (OwP w3 w.heap.size p3 ((enc (zig a)).length + (enc (zig b)).length + 4) c3 (diskL a b)) := Lib.hid (OwP.mono o3 X2.out.size)
  have X3 := Lib.hid (X2.out.tr x3)
  clear o3 x3
  refine rt_op rfl (by rfl) (fun K hK => ?_)
  go_simp
  refine hK _ _ ?_
  clear hK K
  refine rt_nil ?_
  go_wp2
  go_ret
  exact ⟨_, _, _, rfl, O3.out, X3.out⟩

set_option maxRecDepth 8000 in
set_option maxHeartbeats 2000000 in
theorem rbytes_any {base g : Nat} {a b : Int} {w : World} (h : Two w base g a b) (ha : J64 a) (hb : J64 b) :
    Calls Try.prog 37 #[.pointer (some ⟨g, 0, none⟩)] w fun e w' => ∃ p n cap, e = .returned (.slice p n cap) ∧ OwP w' w.heap.size p n cap (diskL a b) ∧ Ext w w' := by
  have la := enc_len10 ha
  have lb := enc_len10 hb
  have HA := Lib.hid ha
  have HB := Lib.hid hb
  have r0 := fun d os => Ext.cell (Ext.reg w.drew d os) (Ext.cell (Ext.drew w) h.c0)
  have r1 := fun d os => Ext.cell (Ext.reg w.drew d os) (Ext.cell (Ext.drew w) h.c1)
  clear h ha hb
  obtain ⟨x, hx⟩ : ∃ x, x = enc (zig a) := ⟨_, rfl⟩
  obtain ⟨y, hy⟩ : ∃ y, y = enc (zig b) := ⟨_, rfl⟩
  rw [← hx] at la
  rw [← hy] at lb
  have HX := Lib.hid hx
  have HY := Lib.hid hy
  clear hx hy
  go_enter Try.func37, Try.ntmps37
  go_wp2_with fail
  refine ra_start [0, 1, 2, 3, 5, 6, 7, 8, 4] [9, 10, 11, 12] (by kernel_rfl) (by kernel_rfl) (fun _ _ d _ _ h => by cases d <;> exact h) ?_
  repeat (first | (refine ra_quiet rfl (by rfl) (by rfl) (fun K hK => ?_); go_big_quiet_op; refine hK _ ?_; clear hK K) | (refine ra_skip rfl (by rfl) (fun K hK => ?_); go_big_quiet_op; refine hK _ ?_; clear hK K))
  clear r0 r1
  refine ra_call rfl (by rfl) (by rfl) (fun K hK => ?_)
  go_simp
  refine (rput_any HA.out.1 HA.out.2).mono ?_
  rw [← HX.out]
  rintro e w1 ⟨p1, c1, rfl, o1, x1⟩
  refine hK _ _ x1 ?_
  clear hK K
  refine ra_nil ?_
  have O1 := Lib.hid o1
  have X1 : Hid (Ext w w1) := Lib.hid (Ext.tr (Ext.drew w) x1)
  clear o1 x1
  refine rt_op rfl (by rfl) (fun K hK => ?_)
  go_simp
  refine (rput_any HB.out.1 HB.out.2).mono ?_
  rw [← HY.out]
  rintro e w2 ⟨p2, c2, rfl, o2, x2⟩
  refine hK _ _ ?_
  clear hK K
  have O2 := Lib.hid o2
  have E2 := Lib.hid x2
  have X2 : Hid (Ext w w2) := Lib.hid (X1.out.tr x2)
  clear o2 x2
  obtain ⟨ad, hp2⟩ : ∃ ad, p2 = some ad := by
    cases p2 with
    | none =>
      have h1 := O2.out.sl.nil rfl
      have h2 := O2.out.sl.le
      have h3 := enc_pos (zig b)
      rw [← HY.out] at h3
      omega
    | some ad => exact ⟨ad, rfl⟩
  subst hp2
  have hyp : 0 < y.length := by rw [HY.out]; exact enc_pos _
  refine rt_op rfl (by rfl) (fun K hK => ?_)
  refine wp_appL _ _ 30 rfl w.heap.size Try.underlying30 info5 p1 x.length c1 x rfl ((O1.out.ext E2.out).mono (Ext.drew w).size) ad y.length c2 y rfl O2.out.sl hyp (by omega) X2.out.size ?_
  intro p3 c3 w3 o3 g3 l3
  refine hK _ _ ?_
  clear hK K
  have O3 := Lib.hid o3
  have X3 : Hid (Ext w w3) := Lib.hid (Ext.own X2.out ((O1.out.ext E2.out).mono (Ext.drew w).size) g3 rfl)
  clear o3 g3 l3
  refine rt_op rfl (by rfl) (fun K hK => ?_)
  go_simp
  refine (rseal_any O3.out.sl (by omega)).mono ?_
  rintro e w4 ⟨p4, c4, rfl, o4, x4⟩
  refine hK _ _ ?_
  clear hK K
  have O4 : Hid (OwP w4 w.heap.size p4 (x.length + y.length + 4) c4 (diskL a b)) := Lib.hid (by
    unfold diskL
    rw [← HX.out, ← HY.out]
    exact o4.mono X3.out.size)
  have X4 := Lib.hid (X3.out.tr x4)
  clear o4 x4
  refine rt_op rfl (by rfl) (fun K hK => ?_)
  go_simp
  refine hK _ _ ?_
  clear hK K
  refine rt_nil ?_
  go_wp2
  go_ret
  exact ⟨_, _, _, rfl, O4.out, X4.out⟩
end Go.Proofs.Ytkgcmobijbakmaa
