/-
  The contract of (*Gram).Took. Conditions stand at it.
-/
import Derived.Test.YtbhgbkbdojhofaaGram
import Derived.Test.YtbhgbkbdojhofaaWire
import Derived.Test.YtbhgbkbdojhofaaRegion3
import Derived.Test.YtbhgbkbdojhofaaDelay
namespace Go.Proofs.Ytbhgbkbdojhofaa
open Go Go.Sort Go.RowKit
set_option linter.unusedVariables false

def tkB (ps : Nat → Int × Int × Bool) (m : MsD) : Bool := decide (m.kd = 13) && (isI m.fr && ((ps m.fr.toNat).2.2 && decide ((ps m.fr.toNat).1 = m.nm)))
def tkV (ps : Nat → Int × Int × Bool) (m : MsD) (clk ppm : Int) : Int := if tkB ps m then bndV (ps m.fr.toNat).2.1 m.ck m.ck clk ppm else 0
def tkO (ps : Nat → Int × Int × Bool) (m : MsD) (clk ppm : Int) : Bool := tkB ps m && bndOk (ps m.fr.toNat).2.1 m.ck m.ck clk ppm

set_option maxRecDepth 8000 in
set_option maxHeartbeats 4000000 in
/-- (*Gram).Took -/
theorem took_any {w : World} {base g : Nat} {me : Int} {bs : Nat → Int} {ps : Nat → Int × Int × Bool} (h : BoxV w base g (grL me bs ps)) {m : MsD} {p : Option Addr} {n cap : Nat} (hm : MsOk m) (clk ppm : Int) (hc : I64 clk) (hp : ∀ F, I64 (ps F).2.1) :
    Calls Try.prog 17 #[.pointer (some ⟨g, 0, none⟩), msV m p n cap, .int .i64 clk, .int .i64 ppm] w fun e w' => e = .returned (.tuple #[.int .i64 (tkV ps m clk ppm), .bool (tkO ps m clk ppm)]) ∧ Ext w w' := by
  have D := Lib.hid h
  have OK := Lib.hid hm
  have HC := Lib.hid hc
  have HP := Lib.hid hp
  clear h hm hc hp
  obtain ⟨kd, fr, tt, bt, vw, ls, mb, po, cm, nm, ck, ye⟩ := m
  have X := Lib.hid (Ext.alloc w (.cells (msA ⟨kd, fr, tt, bt, vw, ls, mb, po, cm, nm, ck, ye⟩ p n cap) 30))
  have I := fun w => is_any fr w
  obtain ⟨V, hV⟩ : ∃ V, V = tkV ps ⟨kd, fr, tt, bt, vw, ls, mb, po, cm, nm, ck, ye⟩ clk ppm := ⟨_, rfl⟩
  obtain ⟨O, hO⟩ : ∃ O, O = tkO ps ⟨kd, fr, tt, bt, vw, ls, mb, po, cm, nm, ck, ye⟩ clk ppm := ⟨_, rfl⟩
  rw [← hV, ← hO]
  have HV := Lib.hid hV
  have HO := Lib.hid hO
  clear hV hO
  have NO : Hid (tkB ps ⟨kd, fr, tt, bt, vw, ls, mb, po, cm, nm, ck, ye⟩ = false → V = 0 ∧ O = false) := Lib.hid (fun h => ⟨by rw [HV.out]; unfold tkV; rw [h]; rfl, by rw [HO.out]; unfold tkO; rw [h]; rfl⟩)
  have TB : Hid (tkB ps ⟨kd, fr, tt, bt, vw, ls, mb, po, cm, nm, ck, ye⟩ = (decide (kd = 13) && (isI fr && ((ps fr.toNat).2.2 && decide ((ps fr.toNat).1 = nm))))) := Lib.hid rfl
  by_cases hk : kd = 13
  · have TB1 : Hid (tkB ps ⟨kd, fr, tt, bt, vw, ls, mb, po, cm, nm, ck, ye⟩ = (isI fr && ((ps fr.toNat).2.2 && decide ((ps fr.toNat).1 = nm)))) := Lib.hid (by rw [TB.out, decide_eq_true hk]; rfl)
    subst hk
    cases hz : isI fr
    · obtain ⟨rfl, rfl⟩ := NO.out (by rw [TB1.out, hz]; rfl)
      rw [hz] at I
      clear hz
      go_enter Try.func17, Try.ntmps17
      go_wp2_with fail
      refine (I _).mono ?_
      rintro e w1 ⟨rfl, rfl⟩
      clear I
      go_wp2
      go_ret2
      exact ⟨rfl, X.out⟩
    · have TB2 : Hid (tkB ps ⟨13, fr, tt, bt, vw, ls, mb, po, cm, nm, ck, ye⟩ = ((ps fr.toNat).2.2 && decide ((ps fr.toNat).1 = nm))) := Lib.hid (by rw [TB1.out, hz]; rfl)
      rw [hz] at I
      obtain ⟨h1, h2⟩ := isI_yes hz
      clear hz
      obtain ⟨F, rfl⟩ : ∃ F : Nat, fr = (F : Int) := ⟨fr.toNat, by omega⟩
      have hF : F < 8 := by omega
      have FT : Hid ((F : Int).toNat = F) := Lib.hid (by omega)
      rw [FT.out] at TB2
      have DN := Lib.hid (D.out.ext X.out)
      go_enter Try.func17, Try.ntmps17
      go_wp2_with fail
      refine (I _).mono ?_
      rintro e w1 ⟨rfl, rfl⟩
      clear I
      go_wp2_with fail
      obtain ⟨w0, hw0⟩ : ∃ w0, w0 = w.alloc (.cells (msA ⟨13, F, tt, bt, vw, ls, mb, po, cm, nm, ck, ye⟩ p n cap) 30) := ⟨_, rfl⟩
      change Code.wp _ _ _ _ (w.alloc (.cells (msA ⟨13, F, tt, bt, vw, ls, mb, po, cm, nm, ck, ye⟩ p n cap) 30))
      have M0 : Hid (BoxV w0 w.heap.size w.heap.size (msL ⟨13, F, tt, bt, vw, ls, mb, po, cm, nm, ck, ye⟩ p n cap)) := Lib.hid (by rw [hw0]; exact BoxV.new w w.heap.size (msA ⟨13, F, tt, bt, vw, ls, mb, po, cm, nm, ck, ye⟩ p n cap) (msL ⟨13, F, tt, bt, vw, ls, mb, po, cm, nm, ck, ye⟩ p n cap) 30 _ rfl (Nat.le_refl _) rfl)
      rw [← hw0] at DN X ⊢
      clear hw0
      have KA := Lib.hid (DN.out.ext (Ext.drew w0))
      have KM := Lib.hid (M0.out.ext (Ext.drew w0))
      have r0 := fun (q : Wrap (Ext w0.drew)) => Ext.cell q.h (KA.out.c _ _ (grL_num (me := me) (bs := bs) (ps := ps) hF))
      have r1 := fun (q : Wrap (Ext w0.drew)) => Ext.cell q.h (KA.out.c _ _ (grL_clk (me := me) (bs := bs) (ps := ps) hF))
      have r2 := fun (q : Wrap (Ext w0.drew)) => Ext.cell q.h (KA.out.c _ _ (grL_snt (me := me) (bs := bs) (ps := ps) hF))
      have s1 := fun (q : Wrap (Ext w0.drew)) => Ext.cell q.h (KM.out.c 1 _ rfl)
      try simp only at s1
      refine rg_start [0, 1, 2, 3, 4, 5, 6, 7, 8] (Ext w0.drew) (by kernel_rfl) (by kernel_rfl) (fun _ _ d _ _ h => by cases d <;> exact h) (Ext.rfl' _) (fun _ => ?_)
      repeat (first | (refine rg_quiet rfl (by rfl) (by rfl) (fun K hK => ?_); go_big_quiet_op; refine hK _ ?_; clear hK K) | (refine rg_skip rfl (by rfl) (fun K hK => ?_); go_big_quiet_op; refine hK _ ?_; clear hK K))
      clear r0 r1 r2 s1
      have A1 := Lib.hid (Ext.alloc w0.drew (.cells #[.int .i64 0, .int .i64 0, .bool false] 55))
      have B1 := Lib.hid (BoxV.new w0.drew w0.heap.size #[.int .i64 0, .int .i64 0, .bool false] [.int .i64 0, .int .i64 0, .bool false] 55 w0.heap.size rfl (Nat.le_refl _) rfl)
      refine rg_call rfl (by rfl) (by rfl) (fun K hK => ?_)
      go_simp
      refine hK _ _ _ (fun _ h => h) A1.out (fun _ => ?_)
      clear hK K
      obtain ⟨wa, hwa⟩ : ∃ wa, wa = w0.drew.alloc (.cells #[.int .i64 0, .int .i64 0, .bool false] 55) := ⟨_, rfl⟩
      change RG _ _ _ _ _ _ (w0.drew.alloc (.cells #[.int .i64 0, .int .i64 0, .bool false] 55))
      rw [← hwa] at A1 B1 ⊢
      clear hwa
      have c0 := B1.out.c 0 _ rfl
      have c1 := B1.out.c 1 _ rfl
      have c2 := B1.out.c 2 _ rfl
      have cf := B1.out.f
      refine rg_call rfl (by rfl) (by rfl) (fun K hK => ?_)
      go_simp
      have B2 := Lib.hid (B1.out.fill (vs := [.int .i64 (ps F).1, .int .i64 (ps F).2.1, .bool (ps F).2.2]) (Nat.le_refl _))
      have A2 : Hid (Ext w0.drew (fillV wa w0.heap.size 0 [.int .i64 (ps F).1, .int .i64 (ps F).2.1, .bool (ps F).2.2])) := Lib.hid (fillV_below A1.out (Nat.le_refl _) _ 0)
      refine hK _ _ (fillV wa w0.heap.size 0 [.int .i64 (ps F).1, .int .i64 (ps F).2.1, .bool (ps F).2.2]) (fun _ h => h) A2.out (fun _ => ?_)
      clear hK K c0 c1 c2 cf
      refine rg_nil ?_
      have M2 := Lib.hid (KM.out.ext A2.out)
      have X2 := Lib.hid (X.out.tr ((Ext.drew w0).tr A2.out))
      generalize fillV wa w0.heap.size 0 [.int .i64 (ps F).1, .int .i64 (ps F).2.1, .bool (ps F).2.2] = wb at *
      have HQ := Lib.hid (HP.out F)
      have VV : Hid (tkB ps ⟨13, F, tt, bt, vw, ls, mb, po, cm, nm, ck, ye⟩ = true → V = bndV (ps F).2.1 ck ck clk ppm ∧ O = bndOk (ps F).2.1 ck ck clk ppm) := Lib.hid (fun h => ⟨by rw [HV.out]; unfold tkV; rw [if_pos h]; simp only [FT.out], by rw [HO.out]; unfold tkO; rw [h]; simp only [FT.out, Bool.true_and]⟩)
      generalize ps F = q at *
      obtain ⟨q1, q2, q3⟩ := q
      simp only at B2 HQ VV TB2
      have d0 := B2.out.c 0 _ rfl
      have d1 := B2.out.c 1 _ rfl
      have d2 := B2.out.c 2 _ rfl
      have e10 := M2.out.c 10 _ rfl
      have e11 := M2.out.c 11 _ rfl
      try simp only at e10 e11
      cases q3
      · obtain ⟨rfl, rfl⟩ := NO.out (by rw [TB2.out]; rfl)
        go_wp2
        go_ret2
        exact ⟨rfl, X2.out⟩
      · by_cases hn : q1 = nm
        · subst hn
          obtain ⟨rfl, rfl⟩ := VV.out (by rw [TB2.out]; simp)
          go_wp2_with fail
          refine (bound_any q2 ck ck clk ppm HQ.out OK.out.2.2.2.2.2.2.2.2.2.2 OK.out.2.2.2.2.2.2.2.2.2.2 HC.out _).mono ?_
          rintro e w3 ⟨rfl, x3⟩
          replace X2 := Lib.hid (X2.out.tr x3)
          clear x3
          go_wp2
          go_ret2
          exact ⟨rfl, X2.out⟩
        · obtain ⟨rfl, rfl⟩ := NO.out (by rw [TB2.out]; simp [hn])
          have g1 : (q1 == nm) = false := beq_eq_false_iff_ne.2 hn
          have g2 : (q1 != nm) = true := bne_iff_ne.2 hn
          go_wp2
          go_ret2
          exact ⟨rfl, X2.out⟩
  · have f1 : (kd == 13) = false := beq_eq_false_iff_ne.2 hk
    have f2 : (kd != 13) = true := bne_iff_ne.2 hk
    obtain ⟨rfl, rfl⟩ := NO.out (by rw [TB.out, decide_eq_false hk]; rfl)
    clear I
    go_enter Try.func17, Try.ntmps17
    go_wp2
    go_ret2
    exact ⟨rfl, X.out⟩
end Go.Proofs.Ytbhgbkbdojhofaa
