/-
  The contracts of num.PutText, GetText, their references', the statements' own Cut and begun. Conditions: lengths up to 2^40.
-/
import Derived.Test.YtgplmbchlahbkaaNumRef
import Derived.Lib.AppendStr
namespace Go.Proofs.Ytgplmbchlahbkaa
open Go Go.Sort Go.RowKit
set_option linter.unusedVariables false

/-- v[i:j] -/
theorem cut_mid (p : Option Addr) (n cap i j : Nat) (hij : i ≤ j) (hj : j ≤ cap) (w : World) :
    (Instr.slice 35 (.slice p n cap) (some (.int .i64 (i : Int))) (some (.int .i64 (j : Int))) none).run Try.prog w = .ok (.slice (tailP p cap i) (j - i) (cap - i)) w := by
  have ht : Try.prog.underlying 35 = some (.slice 5) := Try.underlying35
  have he : Try.prog.elem 35 = 5 := by simp [Program.elem, ht]
  have h := run_slice_lh (P := Try.prog) w 35 p n cap (by rw [he]; exact ht) .i64 .i64 (i : Int) (j : Int) (by omega) (by omega) (by omega)
  rw [h, he, sz5]
  simp only [Result.andThen_ok, sliced, Int.toNat_natCast, Nat.mul_one, tailP]

/-- append(v, s...): v of the call's own, s a text. -/
theorem wpList_apps {w : World} {ops : Array Oper} {rest : List Oper} {o : Oper} {a : Act} {Q : Exit → Act → World → Prop} (hgd : o.guard = none) (s x : Operand)
    (ho : o.op = .call { callee := .builtin .append, args := #[s, x], argTypes := #[35, 9] })
    (base : Nat) (p : Option Addr) (n cap : Nat) (l : List UInt8) (hs : a.eval s = .slice p n cap) (hown : OwP w base p n cap l)
    (k : ByteArray) (hx : a.eval x = .string k) (hbytes : n + k.size ≤ 140737488355328) (hbase : base ≤ w.heap.size)
    (h : ∀ p' cap' w', OwP w' base p' (n + k.size) cap' (l ++ k.data.toList) → w.grownBy w' (p.map (·.block)) → wpList Try.prog ops Q rest (a.put o.dst (.slice p' (n + k.size) cap')) w') : wpList Try.prog ops Q (o :: rest) a w := by
  obtain ⟨i0, hi, hz0, hz1, hz2⟩ := info_parts info5
  refine Lib.wpList_append_own_string w hgd s x 35 9 ho base 5 i0 Try.underlying35 Try.underlying9 hi hz0 hz1 hz2 _ n (l.map bv) hs hown.2 k hx (by unfold maxLen; omega) hbytes hbase ?_
  intro v' w' ho' hg _
  have hlen : (l ++ k.data.toList).length = n + k.size := by rw [List.length_append, hown.1]; simp
  have hc : l.map bv ++ Lib.strCells k = (l ++ k.data.toList).map bv := by rw [List.map_append]; rfl
  rw [hc] at ho'
  rw [ownBlock_slice] at hg
  have ho2 := ho'
  rcases ho'.2 with ⟨hv, hn⟩ | ⟨g, c', cur, hv, r⟩
  · subst hv
    have := h none 0 w' ⟨hlen, by rw [hn] at *; exact ho2⟩ hg
    rw [hn] at this
    exact this
  · subst hv
    exact h _ _ w' ⟨hlen, ho2⟩ hg

set_option maxRecDepth 8000 in
set_option maxHeartbeats 1000000 in
/-- num.PutText -/
theorem puttext_any {base : Nat} {p : Option Addr} {n cap : Nat} {l : List UInt8} {s : ByteArray} {w : World} (h : OwP w base p n cap l) (hb : base ≤ w.heap.size) (hn : n ≤ 1099511627776) (hs : s.size ≤ 1099511627776) :
    Calls Try.prog 66 #[.slice p n cap, .string s] w fun e w' => ∃ p' cap', e = .returned (.slice p' (n + (txt s.data.toList).length) cap') ∧ OwP w' base p' (n + (txt s.data.toList).length) cap' (l ++ txt s.data.toList) ∧ Below base w w' := by
  have H := Lib.hid h
  clear h
  have hsz : s.data.toList.length = s.size := by simp
  obtain ⟨L, hL⟩ : ∃ L, L = l ++ txt s.data.toList := ⟨_, rfl⟩
  obtain ⟨N, hN⟩ : ∃ N, N = n + (txt s.data.toList).length := ⟨_, rfl⟩
  rw [← hL, ← hN]
  obtain ⟨E, hE⟩ : ∃ E, E = enc (zig (s.size : Int)) := ⟨_, rfl⟩
  have hL2 : L = l ++ E ++ s.data.toList := by rw [hL, txt, hsz, hE, List.append_assoc]
  have hN2 : N = n + E.length + s.size := by rw [hN, txt, List.length_append, hsz, hE]; omega
  have he : E.length ≤ 10 := by rw [hE]; exact enc_ten (zig_lt (by omega) (by omega))
  have HL := Lib.hid hL2
  have HN := Lib.hid hN2
  have HE := Lib.hid hE
  clear hL hN hL2 hN2 hE hsz
  go_enter Try.func66, Try.ntmps66
  go_wp2_with fail
  refine (put_any H.out hb hn (x := (s.size : Int)) (by omega) (by omega)).mono ?_
  rw [← HE.out]
  rintro e w1 ⟨p1, c1, rfl, h1, x1⟩
  have H1 := Lib.hid h1
  have X1 := Lib.hid x1
  have z1 := x1.size
  clear h1 x1
  go_wp2_with (at_builtin; refine wpList_apps rfl _ _ rfl base p1 (n + E.length) c1 (l ++ E) rfl H1.out s rfl (by omega) (by omega) ?_)
  intro p2 c2 w2 h2 g2
  have H2 := Lib.hid h2
  have G2 := Lib.hid g2
  clear h2 g2
  go_wp2
  go_ret
  refine ⟨p2, c2, by rw [HN.out]; rfl, by rw [HL.out, HN.out, List.append_assoc]; exact H2.out, ?_⟩
  exact Below.grown X1.out G2.out (by omega) (fun k hk => (H1.out.lt k hk).1)

set_option maxRecDepth 8000 in
set_option maxHeartbeats 1000000 in
/-- The reference's PutText -/
theorem rputtext_any {s : ByteArray} {w : World} (hs : s.size ≤ 1099511627776) :
    Calls Try.prog 59 #[.string s] w fun e w' => ∃ p' cap', e = .returned (.slice p' (txt s.data.toList).length cap') ∧ OwP w' w.heap.size p' (txt s.data.toList).length cap' (txt s.data.toList) ∧ Ext w w' := by
  have hsz : s.data.toList.length = s.size := by simp
  obtain ⟨N, hN⟩ : ∃ N, N = (txt s.data.toList).length := ⟨_, rfl⟩
  rw [← hN]
  obtain ⟨L, hL⟩ : ∃ L, L = txt s.data.toList := ⟨_, rfl⟩
  rw [← hL]
  obtain ⟨E, hE⟩ : ∃ E, E = enc (zig (s.size : Int)) := ⟨_, rfl⟩
  have hL2 : L = E ++ s.data.toList := by rw [hL, txt, hsz, hE]
  have hN2 : N = E.length + s.size := by rw [hN, txt, List.length_append, hsz, hE]
  have he : E.length ≤ 10 := by rw [hE]; exact enc_ten (zig_lt (by omega) (by omega))
  have HL := Lib.hid hL2
  have HN := Lib.hid hN2
  have HE := Lib.hid hE
  clear hL hN hL2 hN2 hE hsz
  go_enter Try.func59, Try.ntmps59
  go_wp2_with fail
  refine (rput_any (x := (s.size : Int)) (by omega) (by omega)).mono ?_
  rw [← HE.out]
  rintro e w1 ⟨p1, c1, rfl, h1, x1⟩
  have H1 := Lib.hid h1
  have X1 := Lib.hid x1
  have z1 := x1.size
  clear h1 x1
  go_wp2_with (at_builtin; refine wpList_apps rfl _ _ rfl w.heap.size p1 E.length c1 E rfl H1.out s rfl (by omega) (by omega) ?_)
  intro p2 c2 w2 h2 g2
  have H2 := Lib.hid h2
  have G2 := Lib.hid g2
  clear h2 g2
  go_wp2
  go_ret
  refine ⟨p2, c2, by rw [HN.out]; rfl, by rw [HL.out, HN.out]; exact H2.out, ?_⟩
  exact Below.grown X1.out G2.out (by omega) (fun k hk => (H1.out.lt k hk).1)

theorem text_err {l : List UInt8} (h : (getL l).2.2 ≠ 0) : textL l = ([], 0, (getL l).2.2) := by unfold textL; rw [if_pos h]
theorem text_form {l : List UInt8} (h : (getL l).2.2 = 0) (h2 : (getL l).1 < 0 ∨ 65536 < (getL l).1) : textL l = ([], 0, 1) := by unfold textL; rw [if_neg (by simpa using h), if_pos h2]
theorem text_more {l : List UInt8} (h : (getL l).2.2 = 0) (h2 : ¬ ((getL l).1 < 0 ∨ 65536 < (getL l).1)) (h3 : ((l.length - (getL l).2.1 : Nat) : Int) < (getL l).1) : textL l = ([], 0, 2) := by
  unfold textL; rw [if_neg (by simpa using h), if_neg h2, if_pos h3]
theorem text_is {l : List UInt8} (h : (getL l).2.2 = 0) (h2 : ¬ ((getL l).1 < 0 ∨ 65536 < (getL l).1)) (h3 : ¬ ((l.length - (getL l).2.1 : Nat) : Int) < (getL l).1) :
    textL l = ((l.drop (getL l).2.1).take (getL l).1.toNat, (getL l).2.1 + (getL l).1.toNat, 0) := by
  unfold textL; rw [if_neg (by simpa using h), if_neg h2, if_neg h3]

set_option maxRecDepth 8000 in
set_option maxHeartbeats 1000000 in
theorem gettext_any {p : Option Addr} {n cap : Nat} {l : List UInt8} {w : World} (h : SlP w p n cap l) (hn : n ≤ 70368744177664) :
    Calls Try.prog 70 #[.slice p n cap] w fun e w' => e = .returned (.tuple #[.string ⟨(textL l).1.toArray⟩, .int .i64 ((textL l).2.1 : Int), .int .i64 (textL l).2.2]) ∧ w = w' := by
  have H := Lib.hid h
  have hle := h.le
  have hlen := h.len
  clear h
  have hin := getL_in l
  have e0 := @text_err l
  have e1 := @text_form l
  have e2 := @text_more l
  have e3 := @text_is l
  have C := Lib.hid (get_any H.out hn)
  obtain ⟨t, ht⟩ : ∃ t, t = textL l := ⟨_, rfl⟩
  rw [← ht] at e0 e1 e2 e3 ⊢
  clear ht
  generalize getL l = g at *
  obtain ⟨gn, gk, ge⟩ := g
  simp only at hin e0 e1 e2 e3 C
  rcases hin with ⟨rfl, k1, k2, k3, k4, k5⟩ | ⟨rfl, rfl, hge⟩
  · clear e0
    by_cases c0 : gn < 0
    · have := e1 rfl (.inl c0)
      subst this
      clear e1 e2 e3
      go_enter Try.func70, Try.ntmps70
      go_wp2_with fail
      refine C.out.mono ?_
      rintro e w1 ⟨rfl, rfl⟩
      go_wp2
      go_ret3
      exact ⟨rfl, rfl⟩
    by_cases c1 : 65536 < gn
    · have := e1 rfl (.inr c1)
      subst this
      clear e1 e2 e3
      go_enter Try.func70, Try.ntmps70
      go_wp2_with fail
      refine C.out.mono ?_
      rintro e w1 ⟨rfl, rfl⟩
      go_wp2
      go_ret3
      exact ⟨rfl, rfl⟩
    have c2 : ¬ (gn < 0 ∨ 65536 < gn) := by omega
    obtain ⟨m, rfl⟩ := Int.eq_ofNat_of_zero_le (show 0 ≤ gn by omega)
    rw [Int.toNat_natCast, hlen] at *
    clear e1
    by_cases c3 : n - gk < m
    · have := e2 rfl c2 (by omega)
      subst this
      clear e2 e3
      go_enter Try.func70, Try.ntmps70
      go_wp2_with fail
      refine C.out.mono ?_
      rintro e w1 ⟨rfl, rfl⟩
      go_wp2
      go_ret3
      exact ⟨rfl, rfl⟩
    · have := e3 rfl c2 (by omega)
      have hcut := cut_mid p n cap gk (gk + m) (by omega) (by omega) w
      rw [Nat.add_sub_cancel_left, Int.natCast_add] at hcut
      have hm := ((H.out.drop gk (by omega)).take m (by omega))
      have hstr := str_of hm
      clear e2 e3 hm
      obtain ⟨bs, hbs⟩ : ∃ bs, bs = (l.drop gk).take m := ⟨_, rfl⟩
      rw [← hbs] at this hstr
      subst this
      clear hbs
      go_enter Try.func70, Try.ntmps70
      go_wp2_with fail
      refine C.out.mono ?_
      rintro e w1 ⟨rfl, rfl⟩
      go_wp2
      go_ret3
      exact ⟨rfl, rfl⟩
  · have := e0 (by omega)
    subst this
    clear e0 e1 e2 e3
    rcases hge with rfl | rfl
    all_goals
      go_enter Try.func70, Try.ntmps70
      go_wp2_with fail
      refine C.out.mono ?_
      rintro e w1 ⟨rfl, rfl⟩
      go_wp2
      go_ret3
      exact ⟨rfl, rfl⟩

set_option maxHeartbeats 400000 in
/-- The statements' Cut -/
theorem cut_any {s : ByteArray} {w : World} (k : Nat) (hk : k ≤ 1000) (hs : s.size ≤ 9223372036854775807) :
    Calls Try.prog 68 #[.string s, .int .i64 (k : Int)] w fun e w' => ∃ t : ByteArray, t.size ≤ k ∧ e = .returned (.string t) ∧ w = w' := by
  by_cases hlt : k < s.size
  · go_enter Try.func68, Try.ntmps68
    go_wp2
    go_ret
    refine ⟨_, ?_, rfl, rfl⟩
    rw [ByteArray.size_extract]
    omega
  · go_enter Try.func68, Try.ntmps68
    go_wp2
    go_ret
    exact ⟨s, by omega, rfl, rfl⟩
end Go.Proofs.Ytgplmbchlahbkaa
