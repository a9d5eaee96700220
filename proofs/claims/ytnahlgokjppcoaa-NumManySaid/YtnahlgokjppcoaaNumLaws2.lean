/-
  The walk of NumMany: whatever the numbers, the law returns true. No condition.
-/
import Derived.Test.YtnahlgokjppcoaaNumLaws
import Derived.Test.YtnahlgokjppcoaaInts
namespace Go.Proofs.Ytnahlgokjppcoaa
open Go Go.Sort Go.RowKit
set_option linter.unusedVariables false

theorem sz8 : ∀ w, (sizeOf 2).run Try.prog w = .ok 1 w := fun w => by kernel_rfl
theorem cut_ints (p : Option Addr) (n cap k : Nat) (hk : k ≤ cap) (w : World) : (Instr.slice 47 (.slice p n cap) none (some (.int .i64 (k : Int))) none).run Try.prog w = .ok (.slice p k cap) w :=
  run_cut_to 47 2 Try.underlying47 sz8 p n cap k hk w

def encs : List Int → List UInt8
  | [] => []
  | x :: r => enc (zig x) ++ encs r
theorem encs_append (a b : List Int) : encs (a ++ b) = encs a ++ encs b := by
  induction a with
  | nil => rfl
  | cons x r ih => simp [encs, ih]
theorem encs_take {zs : List Int} {k : Nat} {x : Int} (hx : zs[k]? = some x) : encs (zs.take (k + 1)) = encs (zs.take k) ++ enc (zig x) := by
  rw [List.take_add_one, hx, encs_append]
  simp [encs]
theorem encs_drop {zs : List Int} {k : Nat} {x : Int} (hx : zs[k]? = some x) : encs (zs.drop k) = enc (zig x) ++ encs (zs.drop (k + 1)) := by
  have hk : k < zs.length := (List.getElem?_eq_some_iff.1 hx).1
  have he : zs[k] = x := (List.getElem?_eq_some_iff.1 hx).2
  rw [List.drop_eq_getElem_cons hk, he, encs]
theorem encs_len : ∀ (zs : List Int), (∀ x ∈ zs, (Lit.int .i64 x).wf = true) → (encs zs).length ≤ 10 * zs.length
  | [], _ => by simp [encs]
  | x :: r, h => by
    have h1 := bounds_i64 (h x (by simp))
    have h2 := enc_ten (zig_lt h1.1 h1.2)
    have h3 := encs_len r (fun y hy => h y (by simp [hy]))
    simp only [encs, List.length_append, List.length_cons]
    omega

set_option maxRecDepth 8000 in
set_option maxHeartbeats 4000000 in
theorem walk_NumMany {p : Option Addr} {n cap : Nat} {zs : List Int} {w : World} (h : SlI .i64 w p n cap zs) :
    Calls Try.prog 10 #[.slice p n cap] w fun e w' => e = .returned (.bool true) ∧ Below w.heap.size w w' := by
  have hmax := h.max
  have hle := h.le
  obtain ⟨m, us, hm, hcase, H⟩ : ∃ m us, m ≤ 40 ∧ ((¬ 40 < n ∧ m = n) ∨ (40 < n ∧ m = 40)) ∧ Hid (SlI .i64 w p m cap us) := by
    by_cases c : 40 < n
    · exact ⟨40, zs.take 40, by omega, .inr ⟨c, rfl⟩, Lib.hid (h.take 40 (by omega))⟩
    · exact ⟨n, zs, by omega, .inl ⟨c, rfl⟩, Lib.hid h⟩
  clear h
  have HW := Lib.hid H.out.wf
  have HLen := Lib.hid H.out.len
  have hcut : ∀ w1 : World, 40 < n → m = 40 → (Instr.slice 47 (.slice p n cap) none (some (.int .i64 40)) none).run Try.prog w1 = .ok (.slice p m cap) w1 := fun w1 h1 h2 => by
    have := cut_ints p n cap 40 (by omega) w1
    rw [h2]; exact this
  have HC := Lib.hid hcut
  clear hcut
  rcases hcase with ⟨c, hmn⟩ | ⟨c, hmn⟩
  rotate_left
  · have hcut := fun w1 => HC.out w1 c hmn
    have HM := Lib.hid hmn
    clear hmn
    go_enter Try.func10, Try.ntmps10
    go_wp2_with fail
    refine (begunN _).mono ?_
    rintro e w1 ⟨rfl, x1⟩
    have X := Lib.hid x1
    clear x1
    go_wp2
    generalize decide ((40 : Int) < (n : Int)) = dd
    go_loopw [4, 5] (fun b i wr => ∃ p' c' n' k, b = .slice p' n' c' ∧ i = .int .i64 ((k : Nat) : Int) ∧ k ≤ m ∧ OwP wr w.heap.size p' n' c' (encs (us.take k)) ∧ Below w.heap.size w wr) (fun _ i _ => m - (intOf i).toNat)
    case atStart => exact ⟨_, _, _, 0, rfl, rfl, by omega, OwP.nil _ _, X.out⟩
    case round =>
      obtain ⟨p1, c1, n1, k, rfl, rfl, hk, ho, hbl⟩ := hrel
      have HOW := Lib.hid ho
      have HB := Lib.hid hbl
      have hsz := hbl.size
      have hn1 : n1 ≤ 400 := by
        have h1 := encs_len (us.take k) (fun x hx => HW.out x (List.mem_of_mem_take hx))
        have h2 := ho.1
        rw [List.length_take] at h1
        omega
      clear ho hbl
      by_cases hlt : k < m
      · obtain ⟨b, off, x, rfl, hx, hcell, hw⟩ := (SlI.ext H.out HB.out).at k hlt
        have HX := Lib.hid (encs_take hx)
        have hxb := bounds_i64 hw
        have HXB := Lib.hid hxb
        clear hx hw hxb
        go_wp2_with fail
        refine (put_any HOW.out (by omega) (by omega) HXB.out.1 HXB.out.2).mono ?_
        rintro e w3 ⟨p3, c3, rfl, h3, x3⟩
        rw [← HX.out] at h3
        have H3 := Lib.hid h3
        have X3 := Lib.hid (Below.trans HB.out x3)
        clear h3 x3
        go_wp2
        go_round
        case rel => exact ⟨_, _, _, k + 1, rfl, by go_num, by omega, H3.out, X3.out⟩
        case measure => simp [intOf]; omega
      · have hkm : k = m := by omega
        subst hkm
        have hus : us.take k = us := List.take_of_length_le (by rw [HLen.out]; omega)
        rw [hus] at HOW
        clear hus
        have HS := Lib.hid HOW.out.sl
        have H2 := Lib.hid (SlI.ext H.out HB.out)
        clear HOW H
        go_wp2
        go_loop [4, 6] (fun b i => ∃ p' c' n' j, b = .slice p' n' c' ∧ i = .int .i64 ((j : Nat) : Int) ∧ j ≤ k ∧ n' ≤ 400 ∧ SlP wr p' n' c' (encs (us.drop j))) (fun _ i => k - (intOf i).toNat)
        case atStart => exact ⟨_, _, _, 0, rfl, rfl, by omega, by omega, HS.out⟩
        case round =>
          obtain ⟨p2, c2, n2, j, rfl, rfl, hj, hn2, hs⟩ := hrel
          have HSS := Lib.hid hs
          clear hs
          by_cases hlt2 : j < k
          · obtain ⟨b, off, x, rfl, hx, hcell, hw⟩ := H2.out.at j hlt2
            have hxb := bounds_i64 hw
            have hd := encs_drop hx
            have hg := getL_enc (zig_lt hxb.1 hxb.2) (encs (us.drop (j + 1)))
            rw [unzig_zig] at hg
            rw [hd] at HSS
            have hlen := HSS.out.len
            rw [List.length_append] at hlen
            have hct := cut_from p2 n2 c2 (enc (zig x)).length (by omega) wr
            have HD := Lib.hid (HSS.out.drop (enc (zig x)).length (by omega))
            rw [List.drop_left] at HD
            have HG := Lib.hid hg
            clear hx hw hxb hd hg
            generalize hE : (enc (zig x)).length = el at *
            have HE := Lib.hid hE
            clear hE
            go_wp2_with fail
            refine (get_any HSS.out (by omega)).mono ?_
            rw [HG.out]
            rintro e w3 ⟨rfl, rfl⟩
            go_wp2
            go_round
            case rel => exact ⟨_, _, _, j + 1, rfl, by go_num, by omega, by omega, HD.out⟩
            case measure => simp [intOf]; omega
          · have hjk : j = k := by omega
            subst hjk
            have hz := HSS.out.len
            rw [List.drop_of_length_le (by rw [HLen.out]; omega)] at hz
            have hz2 : n2 = 0 := by simpa [encs] using hz.symm
            subst hz2
            clear hz
            go_wp2
            go_ret
            exact ⟨rfl, HB.out⟩
  · subst hmn
    go_enter Try.func10, Try.ntmps10
    go_wp2_with fail
    refine (begunN _).mono ?_
    rintro e w1 ⟨rfl, x1⟩
    have X := Lib.hid x1
    clear x1
    go_wp2
    go_loopw [4, 5] (fun b i wr => ∃ p' c' n' k, b = .slice p' n' c' ∧ i = .int .i64 ((k : Nat) : Int) ∧ k ≤ m ∧ OwP wr w.heap.size p' n' c' (encs (us.take k)) ∧ Below w.heap.size w wr) (fun _ i _ => m - (intOf i).toNat)
    case atStart => exact ⟨_, _, _, 0, rfl, rfl, by omega, OwP.nil _ _, X.out⟩
    case round =>
      obtain ⟨p1, c1, n1, k, rfl, rfl, hk, ho, hbl⟩ := hrel
      have HOW := Lib.hid ho
      have HB := Lib.hid hbl
      have hsz := hbl.size
      have hn1 : n1 ≤ 400 := by
        have h1 := encs_len (us.take k) (fun x hx => HW.out x (List.mem_of_mem_take hx))
        have h2 := ho.1
        rw [List.length_take] at h1
        omega
      clear ho hbl
      by_cases hlt : k < m
      · obtain ⟨b, off, x, rfl, hx, hcell, hw⟩ := (SlI.ext H.out HB.out).at k hlt
        have HX := Lib.hid (encs_take hx)
        have hxb := bounds_i64 hw
        have HXB := Lib.hid hxb
        clear hx hw hxb
        go_wp2_with fail
        refine (put_any HOW.out (by omega) (by omega) HXB.out.1 HXB.out.2).mono ?_
        rintro e w3 ⟨p3, c3, rfl, h3, x3⟩
        rw [← HX.out] at h3
        have H3 := Lib.hid h3
        have X3 := Lib.hid (Below.trans HB.out x3)
        clear h3 x3
        go_wp2
        go_round
        case rel => exact ⟨_, _, _, k + 1, rfl, by go_num, by omega, H3.out, X3.out⟩
        case measure => simp [intOf]; omega
      · have hkm : k = m := by omega
        subst hkm
        have hus : us.take k = us := List.take_of_length_le (by rw [HLen.out]; omega)
        rw [hus] at HOW
        clear hus
        have HS := Lib.hid HOW.out.sl
        have H2 := Lib.hid (SlI.ext H.out HB.out)
        clear HOW H
        go_wp2
        go_loop [4, 6] (fun b i => ∃ p' c' n' j, b = .slice p' n' c' ∧ i = .int .i64 ((j : Nat) : Int) ∧ j ≤ k ∧ n' ≤ 400 ∧ SlP wr p' n' c' (encs (us.drop j))) (fun _ i => k - (intOf i).toNat)
        case atStart => exact ⟨_, _, _, 0, rfl, rfl, by omega, by omega, HS.out⟩
        case round =>
          obtain ⟨p2, c2, n2, j, rfl, rfl, hj, hn2, hs⟩ := hrel
          have HSS := Lib.hid hs
          clear hs
          by_cases hlt2 : j < k
          · obtain ⟨b, off, x, rfl, hx, hcell, hw⟩ := H2.out.at j hlt2
            have hxb := bounds_i64 hw
            have hd := encs_drop hx
            have hg := getL_enc (zig_lt hxb.1 hxb.2) (encs (us.drop (j + 1)))
            rw [unzig_zig] at hg
            rw [hd] at HSS
            have hlen := HSS.out.len
            rw [List.length_append] at hlen
            have hct := cut_from p2 n2 c2 (enc (zig x)).length (by omega) wr
            have HD := Lib.hid (HSS.out.drop (enc (zig x)).length (by omega))
            rw [List.drop_left] at HD
            have HG := Lib.hid hg
            clear hx hw hxb hd hg
            generalize hE : (enc (zig x)).length = el at *
            have HE := Lib.hid hE
            clear hE
            go_wp2_with fail
            refine (get_any HSS.out (by omega)).mono ?_
            rw [HG.out]
            rintro e w3 ⟨rfl, rfl⟩
            go_wp2
            go_round
            case rel => exact ⟨_, _, _, j + 1, rfl, by go_num, by omega, by omega, HD.out⟩
            case measure => simp [intOf]; omega
          · have hjk : j = k := by omega
            subst hjk
            have hz := HSS.out.len
            rw [List.drop_of_length_le (by rw [HLen.out]; omega)] at hz
            have hz2 : n2 = 0 := by simpa [encs] using hz.symm
            subst hz2
            clear hz
            go_wp2
            go_ret
            exact ⟨rfl, HB.out⟩
end Go.Proofs.Ytnahlgokjppcoaa
