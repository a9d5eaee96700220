/-
  The net: mails by whom and what; the statements' own begun. Conditions stand at each.
-/
import Derived.Test.YtgplmbchlahbkaaNet4
import Derived.Test.YtgplmbchlahbkaaWire9
import Derived.Test.YtgplmbchlahbkaaRegion3
import Derived.Deep.CutBlock
import Derived.Deep.DeepCutAuto
namespace Go.Proofs.Ytgplmbchlahbkaa
open Go Go.Sort Go.RowKit
set_option linter.unusedVariables false

def pingD (fr tt nm : Int) : MsD := ⟨12, fr, tt, 1, 0, 0, 0, 0, 0, nm, 0, false⟩
theorem ping_ok {fr tt nm : Int} (h1 : I64 fr) (h2 : I64 tt) (h3 : I64 nm) : MsOk (pingD fr tt nm) := by
  have p : I64 1 := ⟨by decide, by decide⟩
  have q : I64 12 := ⟨by decide, by decide⟩
  have z : I64 0 := ⟨by decide, by decide⟩
  exact ⟨q, h1, h2, p, z, z, z, z, z, h3, z⟩
theorem zeroM_ok : MsOk zeroM := by
  have z : I64 0 := ⟨by decide, by decide⟩
  exact ⟨z, z, z, z, z, z, z, z, z, z, z⟩
theorem msg_nil {w : World} {m : MsD} (h : MsOk m) : MsgOk w ⟨m, none, 0, []⟩ := ⟨h, (OwS.nil 54 7 w 0).sl, fun e he => by cases he⟩
theorem sep_none (g : Nat) (p : Option Addr) : Sep g p none := ⟨by simp, by simp⟩
theorem sep_new {w : World} {g : Nat} {p : Option Addr} {a : Addr} (hg : g < w.heap.size) (hp : ∀ i, p.map (·.block) = some i → i < w.heap.size) (ha : w.heap.size ≤ a.block) : Sep g p (some a) :=
  ⟨fun e => by simp at e; omega, fun i hi e => by have := hp i hi; simp at e; omega⟩
theorem map_two {ds : List MailD} {a b : Int × List UInt8} (h : ds.map mkD = [a, b]) : ∃ d e, ds = [d, e] ∧ mkD d = a ∧ mkD e = b := by
  match ds, h with
  | [d, e], h => simp at h; exact ⟨d, e, rfl, h.1, h.2⟩

set_option maxRecDepth 8000 in
set_option maxHeartbeats 8000000 in
theorem begun18 (w : World) : Calls Try.prog 14 #[] w fun e w' => e = .returned (.bool true) ∧ Ext w w' := by
  have hm1 : mayM (pingD 1 2 0) [] = true := by decide
  have hm0 : mayM zeroM [] = false := by decide
  obtain ⟨B, hB⟩ : ∃ B, B = encM (pingD 1 2 0) [] := ⟨_, rfl⟩
  have HE := Lib.hid hB
  have HS : Hid (sendK [] [⟨pingD 1 2 0, none, 0, []⟩, ⟨zeroM, none, 0, []⟩, ⟨pingD 1 2 0, none, 0, []⟩] = [(2, B), (2, B)]) := Lib.hid (by have ht : (pingD 1 2 0).to = 2 := rfl; simp [sendK, stepK, hm1, hm0, hB, ht])
  clear hm1 hm0 hB
  have P1 : Hid (MsOk (pingD 1 2 0)) := Lib.hid (ping_ok ⟨by decide, by decide⟩ ⟨by decide, by decide⟩ ⟨by decide, by decide⟩)
  go_enter Try.func14, Try.ntmps14
  go_wp2_with fail
  refine (nnew_any w).mono ?_
  rintro e w1 ⟨rfl, n1, x1⟩
  have N := Lib.hid n1
  have X := Lib.hid x1
  clear n1 x1
  go_upto_region 5 with fail
  change Code.wp _ _ _ _ (w1.alloc (.cells (msA (pingD 1 2 0) none 0 0) 31))
  have MB := Lib.hid (BoxV.new w1 w1.heap.size (msA (pingD 1 2 0) none 0 0) (msL (pingD 1 2 0) none 0 0) 31 _ rfl (Nat.le_refl _) rfl)
  have A1 := Lib.hid (Ext.alloc w1 (.cells (msA (pingD 1 2 0) none 0 0) 31))
  generalize w1.alloc (.cells (msA (pingD 1 2 0) none 0 0) 31) = w2 at *
  have HG1 : Hid (w.heap.size < w1.heap.size) := Lib.hid N.out.box.hi
  have HG2 : Hid (w1.heap.size < w2.heap.size) := Lib.hid MB.out.hi
  generalize w1.heap.size = mg at *
  replace N := Lib.hid (N.out.ext A1.out)
  replace X := Lib.hid (X.out.tr A1.out)
  clear A1
  have c0 := MB.out.c 0 _ rfl
  have c1 := MB.out.c 1 _ rfl
  have c2 := MB.out.c 2 _ rfl
  have c3 := MB.out.c 3 _ rfl
  have c4 := MB.out.c 4 _ rfl
  have c5 := MB.out.c 5 _ rfl
  have c6 := MB.out.c 6 _ rfl
  have c7 := MB.out.c 7 _ rfl
  have c8 := MB.out.c 8 _ rfl
  have c9 := MB.out.c 9 _ rfl
  have c10 := MB.out.c 10 _ rfl
  have c11 := MB.out.c 11 _ rfl
  have c12 := MB.out.c 12 _ rfl
  try simp only [pingD] at c0 c1 c2 c3 c4 c5 c6 c7 c8 c9 c10 c11 c12
  go_wp2_with fail
  clear c0 c1 c2 c3 c4 c5 c6 c7 c8 c9 c10 c11 c12
  have A2 := Lib.hid (Ext.alloc w2 (.cells (msL (pingD 1 2 0) none 0 0 ++ (msL zeroM none 0 0 ++ msL (pingD 1 2 0) none 0 0)).toArray 31))
  have Q3 : Hid (SlS 13 (w2.alloc (.cells (msL (pingD 1 2 0) none 0 0 ++ (msL zeroM none 0 0 ++ msL (pingD 1 2 0) none 0 0)).toArray 31)) (some ⟨w2.heap.size, 0, none⟩) 3 3 (([⟨pingD 1 2 0, none, 0, []⟩, ⟨zeroM, none, 0, []⟩, ⟨pingD 1 2 0, none, 0, []⟩] : List MsgD).map msgL)) := Lib.hid (SlS.lit w2 3 _ _ _ rfl (by simp) rfl (by decide))
  refine (nsend_any (N.out.ext A2.out) Q3.out (xs := [⟨pingD 1 2 0, none, 0, []⟩, ⟨zeroM, none, 0, []⟩, ⟨pingD 1 2 0, none, 0, []⟩]) (fun x hx => by
    simp at hx
    rcases hx with rfl | rfl | rfl
    · exact msg_nil P1.out
    · exact msg_nil zeroM_ok
    · exact msg_nil P1.out) (sep_new (w := w2) (by have := HG1.out; have := HG2.out; omega) (by simp) (Nat.le_refl _)) (fun x hx => by
    simp at hx
    rcases hx with rfl | rfl | rfl <;> exact sep_none _ _)).mono ?_
  rintro e w4 ⟨p4, c4, ds, rfl, n4, k4, m4, f4⟩
  have A2 := A2.out
  rw [show ([] : List MailD).map mkD = [] from rfl, HS.out] at k4
  obtain ⟨d, e, rfl, hd, he⟩ := map_two k4
  have N4 := Lib.hid n4
  have M4 := Lib.hid m4
  have HD : Hid (d.b = B) := Lib.hid (by have := congrArg Prod.snd hd; exact this)
  have HT : Hid (e.to = 2) := Lib.hid (by have := congrArg Prod.fst he; exact this)
  have F4 : Hid (∀ i, p4.map (·.block) = some i → w2.heap.size ≤ i) := Lib.hid (fun i hi => by
    rcases f4 i hi with h | h
    · cases h
    · exact Nat.le_trans A2.size h)
  have X4 : Hid (Ext w w4) := Lib.hid (Below.trans X.out (A2.mono X.out.size |>.trans (M4.out.below (by have := X.out.size; have := A2.size; omega) (Nat.le_refl _) (by simp))))
  replace MB := Lib.hid ((MB.out.ext A2).mv M4.out (by have := HG1.out; omega) (by simp))
  clear n4 k4 m4 f4 hd he A2 Q3 N X
  go_wp2_with fail
  refine (ntake_any N4.out 0).mono ?_
  rw [show lookN [d, e] 0 = B from HD.out, show inN 0 [d, e].length = true from rfl, show dropN [d, e] 0 = [e] from rfl]
  rintro x w5 ⟨p5, c5, rfl, o5, n5, m5⟩
  have O5 := Lib.hid o5
  have HG5 : Hid (w.heap.size < w4.heap.size ∧ (∀ i, p4.map (·.block) = some i → i < w4.heap.size)) := Lib.hid ⟨N4.out.box.hi, fun i hi => (N4.out.row.lt i hi).2⟩
  have MNE : Hid (mg ≠ w.heap.size ∧ p4.map (·.block) ≠ some mg) := Lib.hid ⟨by have := HG1.out; omega, fun e => by have := F4.out _ e; have := HG2.out; omega⟩
  have N5 := Lib.hid n5
  replace MB := Lib.hid (MB.out.mv m5 MNE.out.1 MNE.out.2)
  have X5 : Hid (Ext w w5) := Lib.hid (X4.out.trans (m5.below X4.out.size (Nat.le_refl _) (fun k hk => by have := N4.out.plt k hk; omega)))
  have SEP : Hid (Sep w.heap.size p4 p5) := Lib.hid ⟨fun e => by have := (O5.out.lt _ e).1; have := HG5.out.1; omega, fun i hi e => by have := (O5.out.lt _ e).1; have := HG5.out.2 i hi; omega⟩
  clear n5 m5 o5 N4 M4 X4
  go_upto_region 7 with fail
  obtain ⟨w6, hw6⟩ : ∃ w6, w6 = w5.drew := ⟨_, rfl⟩
  replace N5 : Hid (NetV w6 w.heap.size p4 c4 [e]) := Lib.hid (by rw [hw6]; exact N5.out.ext (Ext.drew w5))
  replace O5 : Hid (OwP w6 w4.heap.size p5 B.length c5 B) := Lib.hid (by rw [hw6]; exact O5.out.ext (Ext.drew w5))
  replace MB : Hid (BoxV w6 mg mg (msL (pingD 1 2 0) none 0 0)) := Lib.hid (by rw [hw6]; exact MB.out.ext (Ext.drew w5))
  replace X5 : Hid (Ext w w6) := Lib.hid (by rw [hw6]; exact X5.out.tr (Ext.drew w5))
  have cv := fun (q : Wrap (fun x => Mv w6 x w.heap.size p4)) => str_of (O5.out.mv q.h SEP.out.1 SEP.out.2).sl
  have r0 := fun (q : Wrap (fun x => Mv w6 x w.heap.size p4)) => (MB.out.mv q.h MNE.out.1 MNE.out.2).c 0 _ rfl
  have r1 := fun (q : Wrap (fun x => Mv w6 x w.heap.size p4)) => (MB.out.mv q.h MNE.out.1 MNE.out.2).c 1 _ rfl
  have r2 := fun (q : Wrap (fun x => Mv w6 x w.heap.size p4)) => (MB.out.mv q.h MNE.out.1 MNE.out.2).c 2 _ rfl
  have r3 := fun (q : Wrap (fun x => Mv w6 x w.heap.size p4)) => (MB.out.mv q.h MNE.out.1 MNE.out.2).c 3 _ rfl
  have r4 := fun (q : Wrap (fun x => Mv w6 x w.heap.size p4)) => (MB.out.mv q.h MNE.out.1 MNE.out.2).c 4 _ rfl
  have r5 := fun (q : Wrap (fun x => Mv w6 x w.heap.size p4)) => (MB.out.mv q.h MNE.out.1 MNE.out.2).c 5 _ rfl
  have r6 := fun (q : Wrap (fun x => Mv w6 x w.heap.size p4)) => (MB.out.mv q.h MNE.out.1 MNE.out.2).c 6 _ rfl
  have r7 := fun (q : Wrap (fun x => Mv w6 x w.heap.size p4)) => (MB.out.mv q.h MNE.out.1 MNE.out.2).c 7 _ rfl
  have r8 := fun (q : Wrap (fun x => Mv w6 x w.heap.size p4)) => (MB.out.mv q.h MNE.out.1 MNE.out.2).c 8 _ rfl
  have r9 := fun (q : Wrap (fun x => Mv w6 x w.heap.size p4)) => (MB.out.mv q.h MNE.out.1 MNE.out.2).c 9 _ rfl
  have r10 := fun (q : Wrap (fun x => Mv w6 x w.heap.size p4)) => (MB.out.mv q.h MNE.out.1 MNE.out.2).c 10 _ rfl
  have r11 := fun (q : Wrap (fun x => Mv w6 x w.heap.size p4)) => (MB.out.mv q.h MNE.out.1 MNE.out.2).c 11 _ rfl
  have r12 := fun (q : Wrap (fun x => Mv w6 x w.heap.size p4)) => (MB.out.mv q.h MNE.out.1 MNE.out.2).c 12 _ rfl
  try simp only [pingD] at r0 r1 r2 r3 r4 r5 r6 r7 r8 r9 r10 r11 r12
  refine rg_start [0, 1, 2, 3, 4, 5, 6, 7, 8, 9, 10, 11, 12, 13, 14, 15, 16, 17, 18, 19, 20, 21, 22, 23, 24, 25, 26, 27, 28, 29, 30, 31, 32] (fun x => Mv w6 x w.heap.size p4) (by kernel_rfl) (by kernel_rfl) (fun _ _ d _ _ h => by cases d <;> exact h) (by rw [hw6]; exact Mv.refl _ _ _) (fun _ => ?_)
  rw [← hw6]
  clear hw6
  repeat (first | (refine rg_quiet rfl (by rfl) (by rfl) (fun K hK => ?_); go_big_quiet_op; refine hK _ ?_; clear hK K) | (refine rg_skip rfl (by rfl) (fun K hK => ?_); go_big_quiet_op; refine hK _ ?_; clear hK K))
  refine rg_call rfl (by rfl) (by rfl) (fun K hK => ?_)
  go_simp
  have T1 := nto_any N5.out 0
  rw [show toN [e] 0 = e.to from rfl, HT.out] at T1
  refine T1.mono ?_
  rintro x w7 ⟨rfl, rfl⟩
  refine hK _ _ _ (fun _ h => h) (Mv.refl _ _ _) (fun _ => ?_)
  clear hK K T1
  repeat (first | (refine rg_quiet rfl (by rfl) (by rfl) (fun K hK => ?_); go_big_quiet_op; refine hK _ ?_; clear hK K) | (refine rg_skip rfl (by rfl) (fun K hK => ?_); go_big_quiet_op; refine hK _ ?_; clear hK K))
  clear cv r0 r1 r2 r3 r4 r5 r6 r7 r8 r9 r10 r11 r12
  refine rg_call rfl (by rfl) (by rfl) (fun K hK => ?_)
  go_simp
  have T1 := rbytesm_any (w := w6) (m := pingD 1 2 0) (L := []) P1.out (OwS.nil 54 7 w6 0).sl (fun e he => by cases he)
  rw [← HE.out] at T1
  refine T1.mono ?_
  rintro x w7 ⟨p7, c7, rfl, o7, x7⟩
  have O7 := Lib.hid o7
  have X7 := Lib.hid x7
  have M7 := Lib.hid (Mv.ext x7 w.heap.size p4)
  have N7 := Lib.hid (N5.out.ext x7)
  have HG7 : Hid (w.heap.size < w6.heap.size ∧ (∀ i, p4.map (·.block) = some i → i < w6.heap.size)) := Lib.hid ⟨N5.out.box.hi, fun i hi => (N5.out.row.lt i hi).2⟩
  have SEP7 : Hid (Sep w.heap.size p4 p7) := Lib.hid ⟨fun e => by have := (O7.out.lt _ e).1; have := HG7.out.1; omega, fun i hi e => by have := (O7.out.lt _ e).1; have := HG7.out.2 i hi; omega⟩
  refine hK (fun x => Mv w7 x w.heap.size p4) _ _ (fun _ h => M7.out.tr h) (Mv.refl _ _ _) (fun _ => ?_)
  clear hK K T1 o7 x7
  have cv := fun (q : Wrap (fun x => Mv w7 x w.heap.size p4)) => str_of (O7.out.mv q.h SEP7.out.1 SEP7.out.2).sl
  repeat (first | (refine rg_quiet rfl (by rfl) (by rfl) (fun K hK => ?_); go_big_quiet_op; refine hK _ ?_; clear hK K) | (refine rg_skip rfl (by rfl) (fun K hK => ?_); go_big_quiet_op; refine hK _ ?_; clear hK K))
  clear cv
  refine rg_call rfl (by rfl) (by rfl) (fun K hK => ?_)
  go_simp
  refine (nlen_any N7.out).mono ?_
  rintro x w8 ⟨rfl, rfl⟩
  refine hK _ _ _ (fun _ h => h) (Mv.refl _ _ _) (fun _ => ?_)
  clear hK K
  repeat (first | (refine rg_quiet rfl (by rfl) (by rfl) (fun K hK => ?_); go_big_quiet_op; refine hK _ ?_; clear hK K) | (refine rg_skip rfl (by rfl) (fun K hK => ?_); go_big_quiet_op; refine hK _ ?_; clear hK K))
  refine rg_call rfl (by rfl) (by rfl) (fun K hK => ?_)
  go_simp
  refine (ndrop_any N7.out 0).mono ?_
  rw [show dropN [e] 0 = [] from rfl, show inN 0 [e].length = true from rfl]
  rintro x w8 ⟨rfl, n8, m8⟩
  have N8 := Lib.hid n8
  have M8 := Lib.hid m8
  refine hK _ _ _ (fun _ h => h) M8.out (fun _ => ?_)
  clear hK K n8 m8
  repeat (first | (refine rg_quiet rfl (by rfl) (by rfl) (fun K hK => ?_); go_big_quiet_op; refine hK _ ?_; clear hK K) | (refine rg_skip rfl (by rfl) (fun K hK => ?_); go_big_quiet_op; refine hK _ ?_; clear hK K))
  refine rg_call rfl (by rfl) (by rfl) (fun K hK => ?_)
  go_simp
  refine (ndrop_any N8.out 0).mono ?_
  rw [show inN 0 ([] : List MailD).length = false from rfl]
  rintro x w9 ⟨rfl, n9, m9⟩
  have M9 := Lib.hid (M8.out.tr m9)
  refine hK _ _ _ (fun _ h => h) M9.out (fun _ => ?_)
  clear hK K n9 m9
  repeat (first | (refine rg_quiet rfl (by rfl) (by rfl) (fun K hK => ?_); go_big_quiet_op; refine hK _ ?_; clear hK K) | (refine rg_skip rfl (by rfl) (fun K hK => ?_); go_big_quiet_op; refine hK _ ?_; clear hK K))
  refine rg_nil ?_
  go_wp2
  go_ret
  exact ⟨rfl, X5.out.trans ((Mv.ext X7.out w.heap.size p4).tr M9.out |>.below X5.out.size (Nat.le_refl _) (fun k hk => by have := N5.out.plt k hk; omega))⟩
end Go.Proofs.Ytgplmbchlahbkaa
