/-
  The net: messages as a list of rows; an append that tells where its row lies; the contract of Send. Conditions stand at each.
-/
import Derived.Test.YtgplmbchlahbkaaNet3
import Derived.Test.YtgplmbchlahbkaaWire9
import Derived.Maps.AppendAt
import Derived.Deep.MidRow
import Derived.Deep.CutBlock
import Derived.Deep.DeepCutAuto
namespace Go.Proofs.Ytgplmbchlahbkaa
open Go Go.Sort Go.RowKit
set_option linter.unusedVariables false

/-- append(v, x...), where v's row lies then. -/
theorem wpList_appAt {P : Program} {E : TypeId} {K : Nat} {w : World} {ops : Array Oper} {rest : List Oper} {o : Oper} {a : Act} {Q : Exit → Act → World → Prop} (hgd : o.guard = none) (s x : Operand) (t : TypeId)
    (ho : o.op = .call { callee := .builtin .append, args := #[s, x], argTypes := #[t, t] })
    (base : Nat) (ht : P.underlying t = some (.slice E)) (i0 : TypeInfo) (z : Value) (bytes : Nat) (hi : P.info? E = some i0) (hz0 : i0.zero = some z) (hz1 : i0.size = K) (hz2 : i0.bytes = bytes) (hzs : z.cells.size = K) (hK : 0 < K)
    (p : Option Addr) (n cap : Nat) (L : List (List Value)) (hs : a.eval s = .slice p n cap) (hown : OwS E K w base p n cap L)
    (q : Addr) (m c : Nat) (M : List (List Value)) (hx : a.eval x = .slice (some q) m c) (hsl : SlS K w (some q) m c M) (hone : ∀ r ∈ M, ∀ u ∈ r, u.oneCell' = true)
    (hbytes : (n + m) * bytes ≤ 140737488355328) (hmax : n + m ≤ 140737488355328) (hbase : base ≤ w.heap.size)
    (h : ∀ p' cap' w', OwS E K w' base p' (n + m) cap' (L ++ M) → w.grownBy w' (p.map (·.block)) → (p'.map (·.block) = p.map (·.block) ∨ p'.map (·.block) = some w.heap.size) → wpList P ops Q rest (a.put o.dst (.slice p' (n + m) cap')) w') : wpList P ops Q (o :: rest) a w := by
  have shape : ∀ (v' : Value) (w' : World), w'.ownsRow base E K v' (n + m) (L.flatten ++ M.flatten) → ∃ p' cap', v' = .slice p' (n + m) cap' ∧ OwS E K w' base p' (n + m) cap' (L ++ M) := by
    intro v' w' ho'
    have ho2 := ho'
    rcases ho'.2 with ⟨hv, hn⟩ | ⟨g, c', cur, hv, r⟩
    · subst hv
      exact ⟨none, 0, by rw [hn], OwS.app_all hown hsl.len hsl.wid (by rw [hn] at *; exact ho2)⟩
    · subst hv
      exact ⟨_, _, rfl, OwS.app_all hown hsl.len hsl.wid ho2⟩
  refine wpList_append_own_at w hgd s x t ho base E i0 z K bytes ht hi hz0 hz1 hz2 hzs hK _ n L.flatten hs hown.2.2 q m c M.flatten hx (by rw [flatten_len M hsl.wid, hsl.len]) ?_ ?_ (by unfold maxLen; omega) hbytes hbase ?_
  · intro j u hj
    have hjl : j < M.flatten.length := (List.getElem?_eq_some_iff.1 hj).1
    rw [flatten_len M hsl.wid, hsl.len] at hjl
    have hm0 : 0 < m := by
      rcases Nat.eq_zero_or_pos m with h0 | h0
      · rw [h0] at hjl; omega
      · exact h0
    obtain ⟨b, o', hp, hh⟩ := hsl.cells hm0
    cases hp
    rw [Addr.add_lit]
    have hdiv : j / K < m := (Nat.div_lt_iff_lt_mul hK).2 hjl
    have hmod : j % K < K := Nat.mod_lt _ hK
    have hj2 : j / K * K + j % K = j := by rw [Nat.mul_comm]; exact Nat.div_add_mod j K
    obtain ⟨r, hr⟩ : ∃ r, M[j / K]? = some r := ⟨M[j / K]'(by rw [hsl.len]; exact hdiv), by simp⟩
    obtain ⟨v, hv⟩ : ∃ v, r[j % K]? = some v := ⟨r[j % K]'(by rw [hsl.wid r (List.mem_of_getElem? hr)]; exact hmod), by simp⟩
    have e := flatten_at M hsl.wid _ _ hr _ _ hv
    rw [hj2, hj] at e
    cases e
    have := hh _ _ hr _ _ hv
    rwa [hj2] at this
  · intro u hu
    obtain ⟨r, hr, hur⟩ := List.mem_flatten.1 hu
    exact hone r hr u hur
  · intro v' w' ho' hg _ hw
    obtain ⟨p', cap', rfl, hO⟩ := shape v' w' ho'
    rw [ownBlock_slice] at hg
    rw [ownBlock_slice, ownBlock_slice] at hw
    exact h p' cap' w' hO hg hw
theorem nfill (g : Nat) : ∀ (vs : List Value) (j : Nat) (w : World), w.setCells g j vs = fillV w g j vs
  | [], _, _ => rfl
  | v :: vs, j, w => nfill g vs (j + 1) _
theorem nthere {w : World} {base g : Nat} {vs : List Value} (h : BoxV w base g vs) : w.there g 0 vs.length := fun j hj => ⟨by rw [Nat.zero_add, h.c j _ (List.getElem?_eq_getElem hj)]; rfl, by rw [Nat.zero_add]; exact h.f j⟩
theorem SlS.mv {K n cap g : Nat} {p q : Option Addr} {L : List (List Value)} {w w' : World} (h : SlS K w q n cap L) (k : Mv w w' g p) (hg : q.map (·.block) ≠ some g) (hp : ∀ i, p.map (·.block) = some i → q.map (·.block) ≠ some i) : SlS K w' q n cap L :=
  ⟨h.len, h.le, h.max, h.nil, h.wid, fun hn => by
    obtain ⟨b, o, rfl, hc⟩ := h.cells hn
    refine ⟨b, o, rfl, fun i x hx j v hv => ?_⟩
    have h1 := hc i x hx j v hv
    have hb := k.block b (World.block_lt_of_cell? w _ h1) (fun e => hg (by rw [e]; rfl)) (fun e => hp b e rfl)
    exact (World.cell?_of_block hb).trans h1⟩

/-- A message with its entries. -/
structure MsgD where
  m : MsD
  p : Option Addr
  cap : Nat
  L : List EnD
abbrev msgL (x : MsgD) : List Value := msL x.m x.p x.L.length x.cap
structure MsgOk (w : World) (x : MsgD) : Prop where
  ok : MsOk x.m
  sl : SlS 7 w x.p x.L.length x.cap (x.L.map enL)
  en : ∀ e ∈ x.L, EnOk e
theorem MsgOk.ext {w w' : World} {x : MsgD} (h : MsgOk w x) (k : Ext w w') : MsgOk w' x := ⟨h.ok, h.sl.ext k, h.en⟩
/-- The slice lies neither in the block g nor in p's. -/
def Sep (g : Nat) (p q : Option Addr) : Prop := q.map (·.block) ≠ some g ∧ ∀ i, p.map (·.block) = some i → q.map (·.block) ≠ some i
def mkD (d : MailD) : Int × List UInt8 := (d.to, d.b)
def stepK (l : List (Int × List UInt8)) (x : MsgD) : List (Int × List UInt8) := if mayM x.m x.L && decide (l.length < 400) then l ++ [(x.m.to, encM x.m x.L)] else l
def sendK (l : List (Int × List UInt8)) (xs : List MsgD) : List (Int × List UInt8) := xs.foldl stepK l
theorem sendK_take {l : List (Int × List UInt8)} {xs : List MsgD} {k : Nat} (h : k < xs.length) : sendK l (xs.take (k + 1)) = stepK (sendK l (xs.take k)) xs[k] := by
  unfold sendK
  rw [List.take_succ_eq_append_getElem h, List.foldl_append]
  rfl
theorem msg_size : (Try.prog.info? 31).map (·.size) = some 13 := by kernel_rfl
theorem msg_one (m : MsD) (p : Option Addr) (n cap : Nat) : (msA m p n cap).all (·.oneCell') = true := by simp [Value.oneCell']
theorem Mv.tr2 {a b c : World} {g : Nat} {p q : Option Addr} (h : Mv a b g p) (k : Mv b c g q) (hq : ∀ i, q.map (·.block) = some i → p.map (·.block) = some i ∨ a.heap.size ≤ i) : Mv a c g p :=
  ⟨k.os.trans h.os, k.tape.trans h.tape, k.output.trans h.output, Nat.le_trans h.size k.size, fun i hi hg hp => (k.block i (Nat.lt_of_lt_of_le hi h.size) hg (by
    intro e
    rcases hq i e with h1 | h1
    · exact hp h1
    · omega)).trans (h.block i hi hg hp)⟩
/-- A mail more stands behind the others. -/
theorem NetV.more {w w4 : World} {g cap c4 : Nat} {p p4 : Option Addr} {ds : List MailD} {d : MailD} (h : NetV w g p cap ds) (hl : ds.length < 400) (hs : d.b.length ≤ 5294) (ho : OwP w (g + 1) d.q d.b.length d.cap d.b) (hqg : d.q.map (·.block) ≠ some g) (hqp : ∀ i, p.map (·.block) = some i → d.q.map (·.block) ≠ some i)
    (o4 : OwS 65 2 w4 (g + 1) p4 (ds.length + 1) c4 (ds.map mailL ++ [mailL d])) (g4 : Mv w w4 g p) (hb : BoxV w4 g g [.slice p ds.length cap]) :
    NetV (w4.setCell ⟨g, 0, none⟩ (.slice p4 (ds.length + 1) c4)) g p4 c4 (ds ++ [d]) := by
  have G := grown_put (grown_refl w4 (some g)) 0 (.slice p4 (ds.length + 1) c4)
  have M := g4.tr (Mv.self G p)
  have hl2 : (ds ++ [d]).length = ds.length + 1 := by simp
  refine ⟨by rw [hl2]; exact hb.put 0 _, by rw [hl2, List.map_append]; exact o4.kept G (fun k hk => by cases hk; exact fun e => by have := (o4.lt g e).1; omega), fun e he => ?_, by omega, fun e he => ?_⟩
  · rcases List.mem_append.1 he with he | he
    · exact (h.own e he).mv M (h.qne he) (h.qp he)
    · simp at he
      subst he
      exact ho.mv M hqg hqp
  · rcases List.mem_append.1 he with he | he
    · exact h.small e he
    · simp at he
      subst he
      exact hs
theorem one_mail (d : MailD) : ∀ r ∈ [mailL d], ∀ u ∈ r, u.oneCell' = true := by simp [mailL, Value.oneCell']

/-- The row q is the row p, or new. -/
def Fr (w : World) (p q : Option Addr) : Prop := ∀ i, q.map (·.block) = some i → p.map (·.block) = some i ∨ w.heap.size ≤ i
set_option maxRecDepth 8000 in
set_option maxHeartbeats 8000000 in
/-- (*Net).Send -/
theorem nsend_any {w : World} {g cap : Nat} {p : Option Addr} {ds : List MailD} (h : NetV w g p cap ds) {q : Option Addr} {n c : Nat} {xs : List MsgD}
    (hq : SlS 13 w q n c (xs.map msgL)) (hx : ∀ x ∈ xs, MsgOk w x) (s1 : Sep g p q) (s2 : ∀ x ∈ xs, Sep g p x.p) :
    Calls Try.prog 18 #[.pointer (some ⟨g, 0, none⟩), .slice q n c] w fun e w' => ∃ p' cap' ds', e = .returned (.int .i64 ((ds'.length : Int) - (ds.length : Int))) ∧ NetV w' g p' cap' ds' ∧ ds'.map mkD = sendK (ds.map mkD) xs ∧ Mv w w' g p ∧ Fr w p p' := by
  have c0 := h.box.c 0 _ rfl
  have N0 := Lib.hid h
  have Q0 := Lib.hid hq
  have X0 := Lib.hid hx
  have S1 := Lib.hid s1
  have S2 := Lib.hid s2
  obtain ⟨i0, hi0, hz0, hz1, hz2⟩ := info_parts info_mail
  have HLN : Hid (xs.length = n) := Lib.hid (by have := hq.len; simpa using this)
  have HI0 := Lib.hid hi0
  have hnm : n ≤ 9223372036854775807 := Nat.le_trans Q0.out.le Q0.out.max
  clear h hq hx s1 s2 hi0
  go_enter Try.func18, Try.ntmps18
  go_wp2
  clear c0
  go_loopw [18] (fun i wr => ∃ (k : Nat) (p' : Option Addr) (cap' : Nat) (ds' : List MailD), k ≤ n ∧ i = .int .i64 (k : Int) ∧ NetV wr g p' cap' ds' ∧ ds'.map mkD = sendK (ds.map mkD) (xs.take k) ∧ Mv w wr g p ∧ Fr w p p') (fun i _ => n - (intOf i).toNat)
  case atStart => exact ⟨0, p, cap, ds, by omega, rfl, N0.out, rfl, Mv.refl _ _ _, fun i hi => .inl hi⟩
  case round =>
    obtain ⟨k, p', cap', ds', hk, rfl, hN, hm, hM, hF⟩ := hrel
    have NN := Lib.hid hN
    have HM := Lib.hid hm
    have MM := Lib.hid hM
    have FF := Lib.hid hF
    clear hN hm hM hF
    by_cases hlt : k < n
    · obtain ⟨b, o, hp, hc⟩ := (Q0.out.mv MM.out S1.out.1 S1.out.2).cells (by omega)
      have hkx : k < xs.length := by rw [HLN.out]; exact hlt
      obtain ⟨x, hxk⟩ : ∃ x, x = xs[k] := ⟨_, rfl⟩
      have hxm : x ∈ xs := by rw [hxk]; simp
      have hrow : (xs.map msgL)[k]? = some (msgL x) := by rw [hxk]; simp [hkx]
      have HRC : Hid (wr.rangeAt b (o + k * 13) (msgL x)) := Lib.hid (fun j v hv => by rw [Nat.add_assoc]; exact hc k _ hrow j v hv)
      have HS : Hid (sendK (ds.map mkD) (xs.take (k + 1)) = stepK (sendK (ds.map mkD) (xs.take k)) x) := Lib.hid (by rw [hxk]; exact sendK_take hkx)
      have MX := Lib.hid (X0.out x hxm)
      have SX := Lib.hid (S2.out x hxm)
      clear hc hrow hxk hxm hkx
      subst hp
      have hlt' : (k : Int) < (n : Int) := by omega
      obtain ⟨xm, xp, xc, xL⟩ := x
      go_upto_region 6 with fail
      go_cut [7] (fun s7 wx => s7 = .pointer (some ⟨wr.heap.size, 0, none⟩) ∧ wx = (wr.alloc (.cells (msA zeroM none 0 0) 31)).setCells wr.heap.size 0 (msL xm xp xL.length xc))
      case first =>
        have TH : Hid ((wr.alloc (.cells (msA zeroM none 0 0) 31)).there wr.heap.size 0 13) := Lib.hid (nthere (BoxV.new wr wr.heap.size (msA zeroM none 0 0) (msL zeroM none 0 0) 31 wr.heap.size rfl (Nat.le_refl _) (by rfl)))
        go_wp2_with (first | ((with_reducible (refine wpList_load_mid (op := ⟨some 21, .load 31 (.tmp 20), _, _, _, _⟩) ?_ 31 (.tmp 20) ?_ b (o + k * 13) ?_ (msL xm xp xL.length xc) _ ?_ Try.underlying31 ?_ ?_ ?_)); (rfl); (rfl); (rfl); exact HRC.out; (rfl); exact msg_size) | ((with_reducible (refine wpList_store_mid (op := ⟨none, .store 31 (.tmp 7) (.tmp 21), _, _, _, _⟩) ?_ 31 (.tmp 7) (.tmp 21) ?_ wr.heap.size 0 (msA xm xp xL.length xc) ?_ ?_ ?_ ?_ ?_ ?_)); (rfl); (rfl); (rfl); (rfl); exact TH.out; exact msg_size; exact msg_one _ _ _ _))
        go_meet
        exact ⟨rfl, rfl⟩
      case rest =>
      obtain ⟨rfl, rfl⟩ := hcut
      have MB : Hid (BoxV ((wr.alloc (.cells (msA zeroM none 0 0) 31)).setCells wr.heap.size 0 (msL xm xp xL.length xc)) wr.heap.size wr.heap.size (msL xm xp xL.length xc)) := Lib.hid (by rw [nfill]; exact (BoxV.new wr wr.heap.size (msA zeroM none 0 0) (msL zeroM none 0 0) 31 wr.heap.size rfl (Nat.le_refl _) (by rfl)).fill (Nat.le_refl _))
      have AO : Hid (Ext wr ((wr.alloc (.cells (msA zeroM none 0 0) 31)).setCells wr.heap.size 0 (msL xm xp xL.length xc))) := Lib.hid (by rw [nfill]; exact fillV_below (Ext.alloc wr _) (Nat.le_refl _) _ 0)
      replace NN := Lib.hid (NN.out.ext AO.out)
      replace MM := Lib.hid (MM.out.tr (Mv.ext AO.out g p))
      clear HRC
      generalize (wr.alloc (.cells (msA zeroM none 0 0) 31)).setCells wr.heap.size 0 (msL xm xp xL.length xc) = w2 at *
      generalize wr.heap.size = sg at *
      clear AO
      have HRB : Hid (w2.rangeAt sg 0 (msL xm xp xL.length xc)) := Lib.hid (fun j v hv => by rw [Nat.zero_add]; exact MB.out.c j v hv)
      go_wp2_with ((with_reducible (refine wpList_load_mid (op := ⟨some 22, .load 31 (.tmp 7), _, _, _, _⟩) ?_ 31 (.tmp 7) ?_ sg 0 ?_ (msL xm xp xL.length xc) _ ?_ Try.underlying31 ?_ ?_ ?_)); (rfl); (rfl); (rfl); exact HRB.out; (rfl); exact msg_size)
      refine (wencode_any (m := xm) (L := xL) MX.out.ok (MX.out.sl.mv MM.out SX.out.1 SX.out.2) MX.out.en).mono ?_
      rintro e w3 ⟨p3, c3, rfl, o3, hiff, x3⟩
      have HEL : Hid ((encM xm xL).length ≤ 5294) := Lib.hid (encM_len MX.out.ok MX.out.en)
      have HG2 : Hid (g < w2.heap.size) := Lib.hid NN.out.box.hi
      have HP2 : Hid (∀ i, p'.map (·.block) = some i → i < w2.heap.size) := Lib.hid (fun i hi => (NN.out.row.lt i hi).2)
      have HW2 : Hid (w.heap.size ≤ w2.heap.size) := Lib.hid MM.out.size
      have X3 := Lib.hid x3
      replace NN := Lib.hid (NN.out.ext x3)
      replace MM := Lib.hid (MM.out.tr (Mv.ext x3 g p))
      replace MB := Lib.hid (MB.out.ext x3)
      have O3 := Lib.hid o3
      clear x3 o3 HRB
      cases hmay : mayM xm xL
      · have hpn := hiff.2 hmay
        have HEN := Lib.hid (encM_no hmay)
        have HST : Hid (stepK (sendK (ds.map mkD) (xs.take k)) ⟨xm, xp, xc, xL⟩ = sendK (ds.map mkD) (xs.take k)) := Lib.hid (by simp [stepK, hmay])
        subst hpn
        clear hiff hmay
        go_wp2
        go_roundw
        case rel => exact ⟨k + 1, p', cap', ds', by omega, by go_num, NN.out, by rw [HS.out, HST.out]; exact HM.out, MM.out, FF.out⟩
        case measure => simp [intOf]; omega
      · obtain ⟨pa, rfl⟩ : ∃ pa, p3 = some pa := by
          cases p3 with
          | none => exact absurd (hiff.1 rfl) (by rw [hmay]; decide)
          | some pa => exact ⟨pa, rfl⟩
        clear hiff
        have HKL : Hid ((sendK (ds.map mkD) (xs.take k)).length = ds'.length) := Lib.hid (by rw [← HM.out]; simp)
        have c0 := NN.out.box.c 0 _ rfl
        have cf := NN.out.box.f
        by_cases hfull : ds'.length < 400
        · have d1 : decide ((ds'.length : Int) < 400) = true := by simp; omega
          have m2 := MB.out.c 2 _ rfl
          try simp only at m2
          have HST : Hid (stepK (sendK (ds.map mkD) (xs.take k)) ⟨xm, xp, xc, xL⟩ = sendK (ds.map mkD) (xs.take k) ++ [(xm.to, encM xm xL)]) := Lib.hid (by simp [stepK, hmay, HKL.out, hfull])
          clear hmay
          have A1 := Lib.hid (Ext.alloc w3 (.cells #[.int .i64 xm.to, .slice (some pa) (encM xm xL).length c3] 65))
          have A2 := Lib.hid (A1.out.tr (Ext.drew (w3.alloc (.cells #[.int .i64 xm.to, .slice (some pa) (encM xm xL).length c3] 65))))
          have HB3 : Hid (g + 1 ≤ (w3.alloc (.cells #[.int .i64 xm.to, .slice (some pa) (encM xm xL).length c3] 65)).drew.heap.size) := Lib.hid (by have := NN.out.box.hi; have := A2.out.size; omega)
          have BX2 := Lib.hid (NN.out.box.ext A2.out)
          have RW2 := Lib.hid ((NN.out.row.ext A1.out).ext (Ext.drew _)).2.2
          have hl9 : ds'.length + 1 ≤ 400 := by omega
          have b0 := (NN.out.box.ext A1.out).c 0 _ rfl
          have m20 := (MB.out.ext A1.out).c 2 _ rfl
          try simp only at b0 m20
          go_wp2_with fail
          go_region_law (refine step_append_lies _ (by rfl) _ _ _ (by rfl) (g + 1) 65 i0 _ 2 32 Try.underlying58 HI0.out hz0 hz1 hz2 rfl (by omega) (.slice p' ds'.length cap') ds'.length _ (by rfl) RW2.out ⟨w3.heap.size, 0, none⟩ 1 1 [.int .i64 xm.to, .slice (some pa) (encM xm xL).length c3] (by rfl) (by rfl) (World.news_of_block (cs := #[.int .i64 xm.to, .slice (some pa) (encM xm xL).length c3]) (t := 65) (fr := (0, 0)) (heap_alloc_new w3 _)) (by simp [Value.oneCell']) (by omega) (by unfold maxLen; omega) (by omega) HB3.out (w3.heap.size + 1) (by simp) ?_; intro g4 c4 w4 o4 gr4 l4 lt4; have D4 := Lib.hid (BX2.out.other gr4 (by rw [ownBlock_slice]; exact NN.out.pne)); have b4 := D4.out.c 0 _ rfl; have f4 := D4.out.f 0)
          all_goals
            have M4 : Hid (Mv w3 w4 g p') := Lib.hid ((Mv.ext A2.out g p').tr (Mv.row (by rw [ownBlock_slice] at gr4; exact gr4) g))
            have F4 : Hid (Fr w p (some ⟨g4, 0, none⟩)) := Lib.hid (fun i hi => by
              cases hi
              rcases l4 with l4 | l4
              · rw [ownBlock_slice] at l4
                exact FF.out _ l4
              · have := MM.out.size
                exact .inr (by simp only; omega))
            have MG : Hid (Mv w3 (w4.setCell ⟨g, 0, none⟩ (.slice (some ⟨g4, 0, none⟩) (ds'.length + 1) c4)) g p') := Lib.hid (M4.out.tr (Mv.self (grown_put (grown_refl w4 (some g)) 0 (.slice (some ⟨g4, 0, none⟩) (ds'.length + 1) c4)) p'))
            have NV : Hid (NetV (w4.setCell ⟨g, 0, none⟩ (.slice (some ⟨g4, 0, none⟩) (ds'.length + 1) c4)) g (some ⟨g4, 0, none⟩) c4 (ds' ++ [⟨xm.to, some pa, c3, encM xm xL⟩])) := Lib.hid (NN.out.more (d := ⟨xm.to, some pa, c3, encM xm xL⟩) hfull HEL.out (O3.out.mono (by have := HG2.out; omega)) (fun e => by have := (O3.out.lt g e).1; have := HG2.out; omega) (fun i hi e => by have := (O3.out.lt i e).1; have := HP2.out i hi; omega) (NN.out.row.app rfl o4) M4.out D4.out)
            clear o4 gr4 l4 lt4 D4 b4 f4 M4 A1 A2 BX2 RW2 b0 m20 c0 cf m2 hfull d1 HB3
            generalize w4.setCell ⟨g, 0, none⟩ (.slice (some ⟨g4, 0, none⟩) (ds'.length + 1) c4) = w5 at *
            go_wp2
            go_roundw
            case rel => exact ⟨k + 1, _, c4, _, by omega, by go_num, NV.out, by rw [HS.out, HST.out, ← HM.out]; simp [mkD], MM.out.tr2 MG.out FF.out, F4.out⟩
            case measure => simp [intOf]; omega
        · have d1 : decide ((ds'.length : Int) < 400) = false := by simp; omega
          have HST : Hid (stepK (sendK (ds.map mkD) (xs.take k)) ⟨xm, xp, xc, xL⟩ = sendK (ds.map mkD) (xs.take k)) := Lib.hid (by simp [stepK, hmay, HKL.out, hfull])
          clear hmay cf
          go_wp2
          go_roundw
          case rel => exact ⟨k + 1, p', cap', ds', by omega, by go_num, NN.out, by rw [HS.out, HST.out]; exact HM.out, MM.out, FF.out⟩
          case measure => simp [intOf]; omega
    · obtain rfl : k = n := by omega
      have c0 := NN.out.box.c 0 _ rfl
      have HT : Hid (xs.take k = xs) := Lib.hid (by rw [← HLN.out]; exact List.take_length)
      have h4 := NN.out.max
      have h40 := N0.out.max
      have e4 : wrap64 ((ds'.length : Int) - (ds.length : Int)) = (ds'.length : Int) - (ds.length : Int) := by unfold wrap64; omega
      go_wp2
      go_ret
      exact ⟨p', cap', ds', rfl, NN.out, by rw [HM.out, HT.out], MM.out, FF.out⟩
end Go.Proofs.Ytgplmbchlahbkaa
