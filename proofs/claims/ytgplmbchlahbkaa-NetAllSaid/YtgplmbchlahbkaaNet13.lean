/-
  The statement NetAll: curfewlaw18.NetAll answers true. Conditions: that the arguments are readable, a parameter of walk_NetAll each.
-/
import Derived.Test.YtgplmbchlahbkaaNet12
import Derived.Deep.CutBlock
import Derived.Deep.MidRow
import Derived.Deep.DeepCutAuto
namespace Go.Proofs.Ytgplmbchlahbkaa
open Go Go.Sort Go.RowKit
set_option linter.unusedVariables false

def mayX (x : MsgD) : Bool := mayM x.m x.L
theorem sendK_all : ∀ (ys : List MsgD) (l : List (Int × List UInt8)), l.length + ys.length ≤ 400 → sendK l ys = l ++ (ys.filter mayX).map keyM
  | [], l, _ => by simp [sendK]
  | y :: ys, l, h => by
    have e : sendK l (y :: ys) = sendK (stepK l y) ys := rfl
    simp only [List.length_cons] at h
    rw [e]
    unfold stepK
    cases hm : mayM y.m y.L
    · rw [show (false && decide (l.length < 400)) = false from rfl, if_neg (by decide), sendK_all ys l (by omega), List.filter_cons_of_neg (by unfold mayX; rw [hm]; decide)]
    · rw [Bool.true_and, decide_eq_true (by omega), if_pos rfl, sendK_all ys _ (by simp; omega), List.filter_cons_of_pos (by unfold mayX; rw [hm])]
      simp [keyM]
/-- Another list of messages was appended to. -/
theorem ST.other {w w' : World} {g cl cn nm cm base : Nat} {pl pn pm : Option Addr} {xs : List MsgD} {ds : List MailD} {L : List (List Value)} (h : ST w g pl cl pn cn xs ds) (k : w.grownBy w' none ∨ (OwS 31 13 w base pm nm cm L ∧ w.grownBy w' (pm.map (·.block)))) (hg : pm.map (·.block) ≠ some g) (hp : ∀ i, pm.map (·.block) = some i → pl.map (·.block) ≠ some i) : ST w' g pl cl pn cn xs ds :=
  ⟨by
    rcases k with k | ⟨-, k⟩
    · exact h.lv.ext (Ext.grown k (fun i hi => by cases hi))
    · exact h.lv.mv (Mv.row k g) ⟨h.sl.1, hp⟩, h.nv.app k hg, fun x hx => (h.ok x hx).app k, h.may, h.sl⟩
theorem BoxV.app {w w' : World} {base b nm cm base' : Nat} {pm : Option Addr} {vs : List Value} {L : List (List Value)} (h : BoxV w base b vs) (k : w.grownBy w' none ∨ (OwS 31 13 w base' pm nm cm L ∧ w.grownBy w' (pm.map (·.block)))) (hb : pm.map (·.block) ≠ some b) : BoxV w' base b vs := by
  rcases k with k | ⟨-, k⟩
  · exact h.other k (by simp)
  · exact h.other k hb
theorem OwS.app2 {w w' : World} {base nm cm base' n cap : Nat} {p pm : Option Addr} {L M : List (List Value)} (h : OwS 31 13 w base p n cap M) (k : w.grownBy w' none ∨ (OwS 31 13 w base' pm nm cm L ∧ w.grownBy w' (pm.map (·.block)))) (hp : ∀ i, pm.map (·.block) = some i → p.map (·.block) ≠ some i) : OwS 31 13 w' base p n cap M := by
  rcases k with k | ⟨-, k⟩
  · exact h.kept k (fun i hi => by cases hi)
  · exact h.kept k hp
theorem app_ext {w0 w w' : World} {nm cm base' : Nat} {pm : Option Addr} {L : List (List Value)} (x : Ext w0 w) (k : w.grownBy w' none ∨ (OwS 31 13 w base' pm nm cm L ∧ w.grownBy w' (pm.map (·.block)))) (hb : ∀ i, pm.map (·.block) = some i → w0.heap.size ≤ i) : Ext w0 w' := by
  rcases k with k | ⟨-, k⟩
  · exact x.tr (Ext.grown k (fun i hi => by cases hi))
  · exact Below.grown x k x.size hb
theorem bs_msg (m : MsD) (p : Option Addr) (n cap : Nat) (w : World) : (Instr.buildSlice 26 1 #[(0, .agg (msA m p n cap))]).run Try.prog w = .ok (.slice (some ⟨w.heap.size, 0, none⟩) 1 1) (w.alloc (.cells (msA m p n cap) 31)) := by kernel_rfl
theorem wpList_bs {ops : Array Oper} {rest : List Oper} {op : Oper} {a : Act} {w : World} {Q : Exit → Act → World → Prop} (hgd : op.guard = none) (x : Operand) (ho : op.op = .buildSlice 26 1 #[(0, x)])
    (m : MsD) (p : Option Addr) (n cap : Nat) (hx : a.eval x = .agg (msA m p n cap))
    (h : wpList Try.prog ops Q rest (a.put op.dst (.slice (some ⟨w.heap.size, 0, none⟩) 1 1)) (w.alloc (.cells (msA m p n cap) 31))) : wpList Try.prog ops Q (op :: rest) a w := by
  refine wpList_plain hgd fun K hK => ?_
  have e : (execOp a.eval op).run Try.prog w = .ok (.value (.slice (some ⟨w.heap.size, 0, none⟩) 1 1)) (w.alloc (.cells (msA m p n cap) 31)) := by
    simp [execOp, ho, hx, bs_msg]
  unfold Oper.wp
  rw [e]
  exact hK _ _ h
theorem sendK_key {xs ys zs : List MsgD} {ds ds' : List MailD} (hk : ds.map mkD = xs.map keyM) (h : ds'.map mkD = sendK (ds.map mkD) ys) (hz : zs = xs ++ ys.filter mayX) (hl : xs.length + ys.length ≤ 400) : ds'.map mkD = zs.map keyM ∧ (ds'.length : Int) - (ds.length : Int) = ((ys.filter mayX).length : Int) := by
  have e : ds'.map mkD = zs.map keyM := by
    rw [h, sendK_all ys _ (by rw [hk, List.length_map]; exact hl), hk, hz, List.map_append]
  refine ⟨e, ?_⟩
  rw [len_key e, len_key hk, hz, List.length_append]
  omega
theorem filter_no {ys : List MsgD} {y : MsgD} (h : mayM y.m y.L = false) : (ys ++ [y]).filter mayX = ys.filter mayX := by
  simp [List.filter_append, mayX, h]
theorem filter_yes {ys : List MsgD} {y : MsgD} (h : mayM y.m y.L = true) : (ys ++ [y]).filter mayX = ys.filter mayX ++ [y] := by
  simp [List.filter_append, mayX, h]
theorem all_snoc {P : MsgD → Prop} {ys : List MsgD} {y : MsgD} (h : ∀ x ∈ ys, P x) (hy : P y) : ∀ x ∈ ys ++ [y], P x := by
  intro x hx
  rcases List.mem_append.1 hx with hx | hx
  · exact h x hx
  · simp at hx
    subst hx
    exact hy
theorem grow_size {w w' : World} {nm cm base' : Nat} {pm : Option Addr} {L : List (List Value)} (k : w.grownBy w' none ∨ (OwS 31 13 w base' pm nm cm L ∧ w.grownBy w' (pm.map (·.block)))) : w.heap.size ≤ w'.heap.size := by
  rcases k with k | ⟨-, k⟩ <;> exact k.size

set_option maxRecDepth 8000 in
set_option maxHeartbeats 32000000 in
theorem walk_NetAll {p : Option Addr} {n cap : Nat} {ops : List OpN} {w : World} (h : SlS 3 w p n cap (ops.map opL)) (ho : ∀ o ∈ ops, OpNOk w o) :
    Calls Try.prog 3 #[.slice p n cap] w fun e w' => e = .returned (.bool true) ∧ Below w.heap.size w w' := by
  have hn : n ≤ 9223372036854775807 := Nat.le_trans h.le h.max
  have Z := Lib.hid h
  have HO := Lib.hid ho
  clear h ho
  go_enter Try.func3, Try.ntmps3
  go_wp2_with fail
  refine (begun18 w).mono ?_
  rintro e w1 ⟨rfl, x1⟩
  have X := Lib.hid x1
  clear x1
  go_wp2_with fail
  have HG : Hid (w.heap.size ≤ w1.heap.size) := Lib.hid X.out.size
  refine (nnew_any w1).mono ?_
  rintro e w2 ⟨rfl, n2, x2⟩
  have N2 := Lib.hid n2
  replace X := Lib.hid (X.out.tr x2)
  clear n2 x2
  go_wp2_with fail
  generalize w1.heap.size = g at *
  go_loopw [5, 6] (fun l i wr => ∃ (k : Nat) (pl : Option Addr) (cl : Nat) (pn : Option Addr) (cn : Nat) (xs : List MsgD) (ds : List MailD), k ≤ n ∧ k ≤ 50 ∧ i = .int .i64 (k : Int) ∧ l = .slice pl xs.length cl ∧ xs.length ≤ 4 * k ∧ ST wr g pl cl pn cn xs ds ∧ ds.map mkD = xs.map keyM ∧ Ext w wr) (fun _ i _ => n - (intOf i).toNat)
  case atStart => exact ⟨0, none, 0, none, 0, [], [], by omega, by omega, rfl, rfl, by simp, ⟨LV.nil _ _, N2.out, (fun x hx => by cases hx), (fun x hx => by cases hx), sep_none _ _⟩, rfl, X.out⟩
  case round =>
    obtain ⟨k, pl, cl, pn, cn, xs, ds, hk, hk50, rfl, rfl, hx4, hst, hkey, hx⟩ := hrel
    have S := Lib.hid hst
    have KEY := Lib.hid hkey
    have XX := Lib.hid hx
    clear hst hkey hx
    by_cases hgo : k < n ∧ k < 50
    · obtain ⟨h1, h2⟩ := hgo
      have b1 : (k : Int) < (n : Int) := by omega
      have b2 : (k : Int) < 50 := by omega
      obtain ⟨b, o, hp, hc⟩ := (Z.out.ext XX.out).cells (by omega)
      subst hp
      obtain ⟨oo, hok⟩ : ∃ oo, ops[k]? = some oo := ⟨ops[k]'(by have := Z.out.len; simp at this; omega), List.getElem?_eq_getElem _⟩
      have OK := Lib.hid (HO.out oo (List.mem_of_getElem? hok))
      have hrow := hc k (opL oo) (by rw [List.getElem?_map, hok]; rfl)
      obtain ⟨okd, oid, oq, ocap, oxs⟩ := oo
      have c0 : wr.cell? ⟨b, o + k * 3, none⟩ = some (.int .i64 okd) := hrow 0 _ rfl
      have c1 : wr.cell? ⟨b, o + k * 3 + 1, none⟩ = some (.int .i64 oid) := hrow 1 _ rfl
      have c2 : wr.cell? ⟨b, o + k * 3 + 2, none⟩ = some (.slice oq oxs.length ocap) := hrow 2 _ rfl
      clear hrow hc hok
      go_upto_region 10 with fail
      clear c0 c1 c2
      have SL := Lib.hid (fun i hi => (S.out.lv.lt i hi).2)
      have SN := Lib.hid (fun i hi => (S.out.nv.row.lt i hi).2)
      have SG := Lib.hid (S.out.nv.box.hi)
      change Code.wp _ _ _ _ (wr.alloc (.cells #[.int .i64 okd, .int .i64 oid, .slice oq oxs.length ocap] 28))
      have OB := Lib.hid (BoxV.new wr wr.heap.size #[.int .i64 okd, .int .i64 oid, .slice oq oxs.length ocap] (opL ⟨okd, oid, oq, ocap, oxs⟩) 28 _ rfl (Nat.le_refl _) rfl)
      have A1 := Lib.hid (Ext.alloc wr (.cells #[.int .i64 okd, .int .i64 oid, .slice oq oxs.length ocap] 28))
      generalize wr.alloc (.cells #[.int .i64 okd, .int .i64 oid, .slice oq oxs.length ocap] 28) = w3 at *
      replace S := Lib.hid (S.out.ext A1.out)
      replace XX := Lib.hid (XX.out.tr A1.out)
      clear A1
      generalize wr.heap.size = bo at *
      have PB : Hid (pl.map (·.block) ≠ some bo ∧ pn.map (·.block) ≠ some bo ∧ bo ≠ g) := Lib.hid ⟨fun e => by have := SL.out _ e; omega, fun e => by have := SN.out _ e; omega, by have := SG.out; omega⟩
      clear SL SN
      have GB := SG
      clear SG
      have c1 := OB.out.c 1 _ rfl
      try simp only at c1
      go_cut [8] (fun s8 wx => s8 = .bool (inN oid xs.length) ∧ wx = w3)
      case first =>
        by_cases d0 : 0 ≤ oid
        · have d1 : decide (0 ≤ oid) = true := decide_eq_true d0
          go_wp2_with fail
          go_meet
          exact ⟨by unfold inN; rw [d1]; rfl, rfl⟩
        · have d1 : decide (0 ≤ oid) = false := decide_eq_false d0
          go_wp2_with fail
          go_meet
          exact ⟨by unfold inN; rw [d1]; rfl, rfl⟩
      case rest =>
      obtain ⟨rfl, rfl⟩ := hcut
      clear c1
      have o0 := OB.out.c 0 _ rfl
      try simp only at o0
      by_cases q0 : okd = 0
      · subst q0
        as_aux_lemma =>
          have OSL : Hid (SlS 13 w oq oxs.length ocap (oxs.map msgL)) := Lib.hid OK.out.2.2.1
          have OMS : Hid (∀ x ∈ oxs, MsgOk w x) := Lib.hid OK.out.2.2.2
          have hx200 : xs.length ≤ 196 := by omega
          have SN := Lib.hid S.out.nv.plt
          clear OK
          go_wp2_with fail
          clear o0
          go_loopw [5, 9, 10, 11] (fun l ms kk jj wx => ∃ (j : Nat) (pm : Option Addr) (cm : Nat) (ys : List MsgD) (ql : Option Addr) (kl : Nat) (zs : List MsgD) (c : Nat), j ≤ oxs.length ∧ j ≤ 4 ∧ Hid (ys.length = j) ∧ jj = .int .i64 (j : Int) ∧ ms = .slice pm ys.length cm ∧ l = .slice ql zs.length kl ∧ kk = .int .i64 (c : Int) ∧ Hid (c = (ys.filter mayX).length) ∧ Hid (zs = xs ++ ys.filter mayX) ∧ zs.length ≤ xs.length + j ∧ Hid (OwS 31 13 wx (bo + 1) pm ys.length cm (ys.map msgL)) ∧ Hid (∀ y ∈ ys, MsgO wx (g + 1) y) ∧ Hid (ST wx g ql kl pn cn zs ds) ∧ Hid (∀ i, pm.map (·.block) = some i → ql.map (·.block) ≠ some i) ∧ Hid (ql.map (·.block) ≠ some bo) ∧ Hid (BoxV wx bo bo (opL ⟨0, oid, oq, ocap, oxs⟩)) ∧ Hid (Ext w wx)) (fun _ _ _ jj _ => 4 - (intOf jj).toNat)
          case atStart => exact ⟨0, none, 0, [], pl, cl, xs, 0, by omega, by omega, Lib.hid rfl, rfl, rfl, rfl, rfl, Lib.hid rfl, Lib.hid (by simp), by omega, Lib.hid (OwS.nil _ _ _ _), Lib.hid (fun y hy => by cases hy), S, Lib.hid (fun i hi => by cases hi), Lib.hid PB.out.1, OB, XX⟩
          case round =>
            obtain ⟨j, pm, cm, ys, ql, kl, zs, c, hj1, hj4, HYL, rfl, rfl, rfl, rfl, HC, HZ, hzl, O, YS, S, SEP, QB, OB, XX⟩ := hrel
            have hyl : ys.length ≤ 4 := by have := HYL.out; omega
            have hc4 : c ≤ 4 := by rw [HC.out]; exact Nat.le_trans (List.length_filter_le _ _) hyl
            by_cases hgo2 : j < oxs.length ∧ j < 4
            · obtain ⟨j1, j2⟩ := hgo2
              have b3 : (j : Int) < (oxs.length : Int) := by omega
              have b4 : (j : Int) < 4 := by omega
              obtain ⟨⟨m, mp, mc, mL⟩, hm⟩ : ∃ x, oxs[j]? = some x := ⟨oxs[j]'j1, List.getElem?_eq_getElem j1⟩
              obtain ⟨bq, oo, hq, hc⟩ := (OSL.out.ext XX.out).cells (by omega)
              subst hq
              have R0 : Hid (∀ (i : Nat) (v : Value), (msL m mp mL.length mc)[i]? = some v → wr.cell? ⟨bq, oo + j * 13 + i, none⟩ = some v) := Lib.hid (fun i v hv => by rw [Nat.add_assoc]; exact hc j _ (by rw [List.getElem?_map, hm]; rfl) i v hv)
              have MOK : Hid (MsgOk w ⟨m, mp, mc, mL⟩) := Lib.hid (OMS.out _ (List.mem_of_getElem? hm))
              clear hc hm
              have o2 := OB.out.c 2 _ rfl
              try simp only at o2
              go_wp2_with ((with_reducible (refine wpList_load_mid (op := ⟨some 83, .load 31 (.tmp 82), _, _, _, _⟩) ?_ 31 (.tmp 82) ?_ (bq) (oo + j * 13) ?_ (msL m mp mL.length mc) _ ?_ Try.underlying31 ?_ ?_ ?_)); (rfl); (rfl); (rfl); exact R0.out; (rfl); exact msg_size)
              refine (wcut_any (MOK.out.sl.ext XX.out) MOK.out.en).mono ?_
              rintro e w5 ⟨M, mq, mk, rfl, hM62, o5, e5, x5⟩
              have Y : Hid (MsgO w5 (g + 1) ⟨m, mq, mk, M⟩) := Lib.hid ⟨MOK.out.ok, o5.mono S.out.nv.box.hi, e5⟩
              replace S := Lib.hid (S.out.ext x5)
              replace XX := Lib.hid (XX.out.tr x5)
              replace OB := Lib.hid (OB.out.ext x5)
              replace O := Lib.hid (O.out.ext x5)
              replace YS : Hid (∀ y ∈ ys, MsgO w5 (g + 1) y) := Lib.hid (fun y hy => (YS.out y hy).ext x5)
              clear o5 e5 x5 R0 o2 hM62
              have TH : Hid ((w5.alloc (.cells (msA zeroM none 0 0) 31)).there w5.heap.size 0 13) := Lib.hid (nthere (BoxV.new w5 w5.heap.size (msA zeroM none 0 0) (msL zeroM none 0 0) 31 w5.heap.size rfl (Nat.le_refl _) (by rfl)))
              go_upto_region 23 with (((with_reducible (refine wpList_store_mid (op := ⟨none, .store 31 (.tmp 12) (.tmp 84), _, _, _, _⟩) ?_ 31 (.tmp 12) (.tmp 84) ?_ (w5.heap.size) 0 (msA m mq M.length mk) ?_ ?_ ?_ ?_ ?_ ?_)); (rfl); (rfl); (rfl); (rfl); exact TH.out; exact msg_size; exact msg_one _ _ _ _))
              change Code.wp _ _ _ _ ((w5.alloc (.cells (msA zeroM none 0 0) 31)).setCells w5.heap.size 0 (msL m mq M.length mk))
              have MB : Hid (BoxV ((w5.alloc (.cells (msA zeroM none 0 0) 31)).setCells w5.heap.size 0 (msL m mq M.length mk)) w5.heap.size w5.heap.size (msL m mq M.length mk)) := Lib.hid (by rw [nfill]; exact (BoxV.new w5 w5.heap.size (msA zeroM none 0 0) (msL zeroM none 0 0) 31 w5.heap.size rfl (Nat.le_refl _) (by rfl)).fill (Nat.le_refl _))
              have A1 : Hid (Ext w5 ((w5.alloc (.cells (msA zeroM none 0 0) 31)).setCells w5.heap.size 0 (msL m mq M.length mk))) := Lib.hid (by rw [nfill]; exact fillV_below (Ext.alloc w5 _) (Nat.le_refl _) _ 0)
              clear TH
              have PMB : Hid (∀ i, pm.map (·.block) = some i → i < w5.heap.size) := Lib.hid (fun i hi => (O.out.lt i hi).2)
              have QLB : Hid (∀ i, ql.map (·.block) = some i → i < w5.heap.size) := Lib.hid (fun i hi => (S.out.lv.lt i hi).2)
              generalize (w5.alloc (.cells (msA zeroM none 0 0) 31)).setCells w5.heap.size 0 (msL m mq M.length mk) = w6 at *
              replace S := Lib.hid (S.out.ext A1.out)
              replace XX := Lib.hid (XX.out.tr A1.out)
              replace OB := Lib.hid (OB.out.ext A1.out)
              replace O := Lib.hid (O.out.ext A1.out)
              replace Y := Lib.hid (Y.out.ext A1.out)
              replace YS : Hid (∀ y ∈ ys, MsgO w6 (g + 1) y) := Lib.hid (fun y hy => (YS.out y hy).ext A1.out)
              clear A1
              generalize w5.heap.size = bm at *
              have R1 := Lib.hid (nrange MB.out)
              have A2 := Lib.hid (Ext.alloc w6 (.cells (msA m mq M.length mk) 31))
              have SR : Hid (SlS 13 (w6.alloc (.cells (msA m mq M.length mk) 31)) (some ⟨w6.heap.size, 0, none⟩) 1 1 [msgL ⟨m, mq, mk, M⟩]) := Lib.hid (SlS.lit w6 1 _ _ _ rfl (by simp) rfl (by decide))
              have hb : bo + 1 ≤ (w6.alloc (.cells (msA m mq M.length mk) 31)).heap.size := Nat.le_trans OB.out.hi A2.out.size
              have hy6 : ys.length ≤ 1000000 := by omega
              have HLV := Lib.hid (LV.of_own (O.out.ext A2.out))
              go_wp2_with (first | ((with_reducible (refine wpList_load_mid (op := ⟨some 86, .load 31 (.tmp 12), _, _, _, _⟩) ?_ 31 (.tmp 12) ?_ (bm) (0) ?_ (msL m mq M.length mk) _ ?_ Try.underlying31 ?_ ?_ ?_)); (rfl); (rfl); (rfl); exact R1.out; (rfl); exact msg_size) | ((with_reducible (refine wpList_bs (op := ⟨some 87, .buildSlice 26 1 #[(0, .tmp 86)], _, _, _, _⟩) ?_ (.tmp 86) ?_ m mq M.length mk ?_ ?_)); (rfl); (rfl); (rfl)) | (at_builtin; refine wpList_appLV rfl _ _ rfl (bo + 1) pm ys.length cm (ys.map msgL) rfl HLV.out ⟨w6.heap.size, 0, none⟩ 1 _ rfl SR.out one13 hy6 hb ?_))
              intro p7 c7 w7 o7 g7 f7
              have PG : Hid (∀ i, pm.map (·.block) = some i → bo + 1 ≤ i) := Lib.hid (fun i hi => (O.out.lt i hi).1)
              have G7 := Lib.hid g7
              have O7 := Lib.hid o7
              have S7 := Lib.hid ((S.out.ext A2.out).other G7.out (fun e => by have := PG.out _ e; have := GB.out; omega) SEP.out)
              have MB7 := Lib.hid ((MB.out.ext A2.out).app G7.out (fun e => by have := PMB.out _ e; omega))
              have OB7 := Lib.hid ((OB.out.ext A2.out).app G7.out (fun e => by have := PG.out _ e; omega))
              have Y7 := Lib.hid ((Y.out.ext A2.out).app G7.out)
              have YS7 : Hid (∀ y ∈ ys, MsgO w7 (g + 1) y) := Lib.hid (fun y hy => ((YS.out y hy).ext A2.out).app G7.out)
              have XX7 := Lib.hid (app_ext (XX.out.tr A2.out) G7.out (fun i hi => by have := PG.out _ hi; have := GB.out; have := HG.out; omega))
              have SEP7 : Hid (∀ i, p7.map (·.block) = some i → ql.map (·.block) ≠ some i) := Lib.hid (fun i hi e => by
                rcases f7 i hi with h1 | h1
                · exact SEP.out i h1 e
                · exact absurd h1 (Nat.not_le_of_lt ((S.out.ext A2.out).lv.lt i e).2))
              have hl7 : (ys ++ [(⟨m, mq, mk, M⟩ : MsgD)]).length = ys.length + 1 := by simp
              clear o7 g7 f7 G7 HLV SR A2 hb S XX MB OB Y YS O R1 SEP PG PMB
              have HL7 := Lib.hid hl7
              clear hl7
              have R7 := Lib.hid (nrange MB7.out)
              go_wp2_with ((with_reducible (refine wpList_load_mid (op := ⟨some 89, .load 31 (.tmp 12), _, _, _, _⟩) ?_ 31 (.tmp 12) ?_ (bm) (0) ?_ (msL m mq M.length mk) _ ?_ Try.underlying31 ?_ ?_ ?_)); (rfl); (rfl); (rfl); exact R7.out; (rfl); exact msg_size)
              refine (rmaym_any Y7.out.ow.sl Y7.out.en).mono ?_
              rintro e w8 ⟨rfl, x8⟩
              replace S7 := Lib.hid (S7.out.ext x8)
              replace MB7 := Lib.hid (MB7.out.ext x8)
              replace OB7 := Lib.hid (OB7.out.ext x8)
              replace O7 := Lib.hid (O7.out.ext x8)
              replace Y7 := Lib.hid (Y7.out.ext x8)
              replace YS7 : Hid (∀ y ∈ ys, MsgO w8 (g + 1) y) := Lib.hid (fun y hy => (YS7.out y hy).ext x8)
              replace XX7 := Lib.hid (XX7.out.tr x8)
              clear x8 R7
              have hj5 : j + 1 ≤ 4 := by omega
              cases hmay : mayM m M
              · have HMAY : Hid (mayM m M = false) := Lib.hid hmay
                clear hmay
                go_wp2
                go_roundw
                case rel => exact ⟨j + 1, p7, c7, ys ++ [⟨m, mq, mk, M⟩], ql, kl, zs, c, by omega, by omega, Lib.hid (by rw [HL7.out, HYL.out]), by go_num, by rw [HL7.out], rfl, rfl, Lib.hid (by rw [filter_no HMAY.out]; exact HC.out), Lib.hid (by rw [filter_no HMAY.out]; exact HZ.out), by omega, Lib.hid (by rw [HL7.out, List.map_append]; exact O7.out), Lib.hid (all_snoc YS7.out Y7.out), S7, SEP7, QB, OB7, XX7⟩
                case measure => simp [intOf]; omega
              · have HMAY : Hid (mayM m M = true) := Lib.hid hmay
                clear hmay
                have R8 := Lib.hid (nrange MB7.out)
                have A8 := Lib.hid (Ext.alloc w8 (.cells (msA m mq M.length mk) 31))
                have SR : Hid (SlS 13 (w8.alloc (.cells (msA m mq M.length mk) 31)) (some ⟨w8.heap.size, 0, none⟩) 1 1 [msgL ⟨m, mq, mk, M⟩]) := Lib.hid (SlS.lit w8 1 _ _ _ rfl (by simp) rfl (by decide))
                have hb : g + 1 ≤ (w8.alloc (.cells (msA m mq M.length mk) 31)).heap.size := Nat.le_trans S7.out.nv.box.hi A8.out.size
                have hz6 : zs.length ≤ 1000000 := by omega
                have HLV := Lib.hid (S7.out.ext A8.out).lv
                go_wp2_with (first | ((with_reducible (refine wpList_load_mid (op := ⟨some 92, .load 31 (.tmp 12), _, _, _, _⟩) ?_ 31 (.tmp 12) ?_ (bm) (0) ?_ (msL m mq M.length mk) _ ?_ Try.underlying31 ?_ ?_ ?_)); (rfl); (rfl); (rfl); exact R8.out; (rfl); exact msg_size) | ((with_reducible (refine wpList_bs (op := ⟨some 93, .buildSlice 26 1 #[(0, .tmp 92)], _, _, _, _⟩) ?_ (.tmp 92) ?_ m mq M.length mk ?_ ?_)); (rfl); (rfl); (rfl)) | (at_builtin; refine wpList_appLV rfl _ _ rfl (g + 1) ql zs.length kl (zs.map msgL) rfl HLV.out ⟨w8.heap.size, 0, none⟩ 1 _ rfl SR.out one13 hz6 hb ?_))
                intro p9 c9 w9 o9 g9 f9
                have G9 := Lib.hid g9
                have SYM : Hid (∀ i, ql.map (·.block) = some i → p7.map (·.block) ≠ some i) := Lib.hid (fun i hi e => SEP7.out i e hi)
                have S9 := Lib.hid (ST.app rfl (S7.out.ext A8.out) (Y7.out.ext A8.out) HMAY.out o9 G9.out f9)
                have O9 := Lib.hid ((O7.out.ext A8.out).app2 G9.out SYM.out)
                have OB9 := Lib.hid ((OB7.out.ext A8.out).app G9.out QB.out)
                have Y9 := Lib.hid ((Y7.out.ext A8.out).app G9.out)
                have YS9 : Hid (∀ y ∈ ys, MsgO w9 (g + 1) y) := Lib.hid (fun y hy => ((YS7.out y hy).ext A8.out).app G9.out)
                have XX9 := Lib.hid (app_below rfl (XX7.out.tr A8.out) (S7.out.ext A8.out) HG.out G9.out)
                have SEP9 : Hid (∀ i, p7.map (·.block) = some i → p9.map (·.block) ≠ some i) := Lib.hid (fun i hi e => by
                  rcases f9 i e with h1 | h1
                  · exact SEP7.out i hi h1
                  · exact absurd h1 (Nat.not_le_of_lt ((O7.out.ext A8.out).lt i hi).2))
                have QB9 : Hid (p9.map (·.block) ≠ some bo) := Lib.hid (fun e => by
                  rcases f9 _ e with h1 | h1
                  · exact QB.out h1
                  · exact absurd h1 (Nat.not_le_of_lt (OB7.out.ext A8.out).hi))
                have hl9 : (zs ++ [(⟨m, mq, mk, M⟩ : MsgD)]).length = zs.length + 1 := by simp
                have HL9 := Lib.hid hl9
                clear o9 g9 f9 G9 HLV SR A8 hb S7 XX7 MB7 OB7 Y7 YS7 O7 R8 SEP7 SYM QB hl9
                go_wp2
                go_roundw
                case rel => exact ⟨j + 1, p7, c7, ys ++ [⟨m, mq, mk, M⟩], p9, c9, zs ++ [⟨m, mq, mk, M⟩], c + 1, by omega, by omega, Lib.hid (by rw [HL7.out, HYL.out]), by go_num, by rw [HL7.out], by rw [HL9.out], by go_num, Lib.hid (by rw [filter_yes HMAY.out, List.length_append, HC.out]; rfl), Lib.hid (by rw [filter_yes HMAY.out, HZ.out, List.append_assoc]), by rw [HL9.out]; omega, Lib.hid (by rw [HL7.out, List.map_append]; exact O9.out), Lib.hid (all_snoc YS9.out Y9.out), S9, SEP9, QB9, OB9, XX9⟩
                case measure => simp [intOf]; omega
            · have hout2 : ¬ j < oxs.length ∨ (j < oxs.length ∧ ¬ j < 4) := (Nat.lt_or_ge j oxs.length).elim (fun h => .inr ⟨h, fun h' => hgo2 ⟨h, h'⟩⟩) (fun h => .inl (Nat.not_lt_of_le h))
              clear hgo2
              have o2 := OB.out.c 2 _ rfl
              try simp only at o2
              have T := nsend_any S.out.nv (xs := ys) O.out.sl (fun y hy => (YS.out y hy).msg) ⟨fun e => by have := (O.out.lt _ e).1; have := GB.out; omega, own_ne S.out.nv.row.2.2 O.out.2.2 (by decide)⟩ (fun y hy => (YS.out y hy).sep S.out.nv)
              have T2 : Calls Try.prog 18 #[.pointer (some ⟨g, 0, none⟩), .slice pm ys.length cm] wr fun e w' => ∃ p' cap' ds', e = .returned (.int .i64 (c : Int)) ∧ NetV w' g p' cap' ds' ∧ ds'.map mkD = zs.map keyM ∧ Mv wr w' g pn ∧ Fr wr pn p' := by
                refine T.mono ?_
                rintro e w' ⟨p', cap', ds', rfl, n4, k4, m4, f4⟩
                obtain ⟨q1, q2⟩ := sendK_key KEY.out k4 HZ.out (by omega)
                exact ⟨p', cap', ds', by rw [q2, HC.out], n4, q1, m4, f4⟩
              clear T
              have hz4 : zs.length ≤ 4 * (k + 1) := by omega
              rcases hout2 with h3 | ⟨h3, h4⟩
              · have b3 : ¬ (j : Int) < (oxs.length : Int) := by omega
                clear hj1
                go_wp2_with fail
                refine T2.mono ?_
                rintro e w4 ⟨p4, c4, ds4, rfl, n4, k4, m4, f4⟩
                have KEY4 := Lib.hid k4
                have X4 : Hid (Ext w w4) := Lib.hid (Below.trans XX.out (m4.below XX.out.size HG.out (fun i hi => by have := SN.out i hi; have := HG.out; omega)))
                have S4 := Lib.hid (S.out.net m4 n4 f4)
                clear n4 k4 m4 f4 T2 S XX KEY o2 O YS OB
                go_wp2_with fail
                have T9 := nlen_any S4.out.nv
                rw [len_key KEY4.out] at T9
                refine T9.mono ?_
                rintro e w99 ⟨rfl, rfl⟩
                clear T9
                go_wp2
                go_roundw
                case rel => exact ⟨k + 1, ql, kl, p4, c4, zs, ds4, by omega, by omega, by go_num, rfl, hz4, S4.out, KEY4.out, X4.out⟩
                case measure => simp [intOf]; omega
              · have b3 : (j : Int) < (oxs.length : Int) := by omega
                have b4 : ¬ (j : Int) < 4 := by omega
                go_wp2_with fail
                refine T2.mono ?_
                rintro e w4 ⟨p4, c4, ds4, rfl, n4, k4, m4, f4⟩
                have KEY4 := Lib.hid k4
                have X4 : Hid (Ext w w4) := Lib.hid (Below.trans XX.out (m4.below XX.out.size HG.out (fun i hi => by have := SN.out i hi; have := HG.out; omega)))
                have S4 := Lib.hid (S.out.net m4 n4 f4)
                clear n4 k4 m4 f4 T2 S XX KEY o2 O YS OB
                go_wp2_with fail
                have T9 := nlen_any S4.out.nv
                rw [len_key KEY4.out] at T9
                refine T9.mono ?_
                rintro e w99 ⟨rfl, rfl⟩
                clear T9
                go_wp2
                go_roundw
                case rel => exact ⟨k + 1, ql, kl, p4, c4, zs, ds4, by omega, by omega, by go_num, rfl, hz4, S4.out, KEY4.out, X4.out⟩
                case measure => simp [intOf]; omega
      · have e0 : (okd == 0) = false := beq_eq_false_iff_ne.2 q0
        by_cases q1 : okd = 1
        · subst q1
          clear q0
          cases hin : inN oid xs.length
          · as_aux_lemma =>
              have HIN := Lib.hid hin
              clear hin
              have LN : Hid (lookN ds oid = [] ∧ dropN ds oid = ds) := Lib.hid ⟨by unfold lookN; rw [len_key KEY.out, HIN.out]; rfl, by unfold dropN; rw [len_key KEY.out, HIN.out]; rfl⟩
              have o1 := OB.out.c 1 _ rfl
              try simp only at o1
              have T := nlook_any S.out.nv oid
              rw [len_key KEY.out, HIN.out, LN.out.1] at T
              go_wp2_with fail
              refine T.mono ?_
              rintro e w4 ⟨p4, c4, rfl, o4, x4⟩
              replace S := Lib.hid (S.out.ext x4)
              replace OB := Lib.hid (OB.out.ext x4)
              replace XX := Lib.hid (XX.out.tr x4)
              clear T o1 o4 x4 o0
              have o0 := OB.out.c 0 _ rfl
              have o1 := OB.out.c 1 _ rfl
              try simp only at o0 o1
              have T := ntake_any S.out.nv oid
              rw [len_key KEY.out, HIN.out, LN.out.1, LN.out.2] at T
              go_wp2_with fail
              refine T.mono ?_
              rintro e w5 ⟨p5, c5, rfl, o5, n5, m5⟩
              replace XX : Hid (Ext w w5) := Lib.hid (Below.trans XX.out (m5.below XX.out.size HG.out (fun i hi => by have := S.out.nv.plt i hi; have := HG.out; omega)))
              replace OB := Lib.hid (OB.out.mv m5 PB.out.2.2 PB.out.2.1)
              replace S := Lib.hid (S.out.net m5 n5 (Fr.same _ _))
              clear T o0 o1 o5 n5 m5
              have o0 := OB.out.c 0 _ rfl
              have o1 := OB.out.c 1 _ rfl
              try simp only at o0 o1
              go_upto_region 34 with fail
              obtain ⟨w9, hw9⟩ : ∃ w9, w9 = w5.drew := ⟨_, rfl⟩
              replace S : Hid (ST w9 g pl cl pn cn xs ds) := Lib.hid (by rw [hw9]; exact S.out.ext (Ext.drew w5))
              replace XX : Hid (Ext w w9) := Lib.hid (by rw [hw9]; exact XX.out.tr (Ext.drew w5))
              replace OB : Hid (BoxV w9 bo bo (opL ⟨1, oid, oq, ocap, oxs⟩)) := Lib.hid (by rw [hw9]; exact OB.out.ext (Ext.drew w5))
              clear o0 o1
              refine rw_start [0, 1, 2, 3, 4, 5, 6, 7, 8, 9, 10, 11, 12, 13, 14, 15, 16, 17, 18, 19, 20, 21, 22, 23, 24, 25, 26] (by kernel_rfl) (by kernel_rfl) (fun _ _ d _ _ h => by cases d <;> exact h) ?_
              rw [← hw9]
              clear hw9
              repeat (first | (refine rw_quiet rfl (by rfl) (by rfl) (fun K hK => ?_); go_big_quiet_op; refine hK _ ?_; clear hK K) | (refine rw_skip rfl (by rfl) (fun K hK => ?_); go_big_quiet_op; refine hK _ ?_; clear hK K))
              refine rw_nil ?_
              go_wp2_with fail
              have T9 := nlen_any S.out.nv
              rw [len_key KEY.out] at T9
              refine T9.mono ?_
              rintro e w99 ⟨rfl, rfl⟩
              clear T9
              go_wp2
              go_roundw
              case rel => exact ⟨k + 1, pl, cl, pn, cn, xs, ds, by omega, by omega, by go_num, rfl, by omega, S.out, KEY.out, XX.out⟩
              case measure => simp [intOf]; omega
          · as_aux_lemma =>
              obtain ⟨K, rfl, hKl⟩ := inN_nat hin
              have HKL := Lib.hid hKl
              have HIN := Lib.hid hin
              clear hin
              obtain ⟨x, hxk⟩ : ∃ x, xs[K]? = some x := ⟨xs[K]'hKl, List.getElem?_eq_getElem hKl⟩
              have HXK := Lib.hid hxk
              obtain ⟨l1, l2, l3⟩ := look_at KEY.out hxk
              obtain ⟨B, hB⟩ : ∃ B, B = encM x.m x.L := ⟨_, rfl⟩
              rw [← hB] at l1
              have HB := Lib.hid hB
              have HL := Lib.hid (And.intro l1 l3)
              clear hxk l1 l2 l3 hB
              have o1 := OB.out.c 1 _ rfl
              try simp only at o1
              have T := nlook_any S.out.nv (K : Int)
              rw [HL.out.1, HL.out.2] at T
              go_wp2_with fail
              refine T.mono ?_
              rintro e w4 ⟨p4, c4, rfl, o4, x4⟩
              have O4 := Lib.hid o4.sl
              replace S := Lib.hid (S.out.ext x4)
              replace OB := Lib.hid (OB.out.ext x4)
              replace XX := Lib.hid (XX.out.tr x4)
              clear T o1 o4 x4 o0
              have o0 := OB.out.c 0 _ rfl
              have o1 := OB.out.c 1 _ rfl
              try simp only at o0 o1
              have T := ntake_any S.out.nv (K : Int)
              rw [HL.out.1, HL.out.2] at T
              go_wp2_with fail
              refine T.mono ?_
              rintro e w5 ⟨p5, c5, rfl, o5, n5, m5⟩
              have OX := Lib.hid o5.sl
              replace XX : Hid (Ext w w5) := Lib.hid (Below.trans XX.out (m5.below XX.out.size HG.out (fun i hi => by have := S.out.nv.plt i hi; have := HG.out; omega)))
              replace OB := Lib.hid (OB.out.mv m5 PB.out.2.2 PB.out.2.1)
              replace S := Lib.hid (S.out.net m5 n5 (Fr.same _ _))
              have KEY4 := Lib.hid (drop_key KEY.out hKl)
              generalize dropN ds (K : Int) = ds4 at *
              clear T o0 o1 o5 n5 m5 KEY
              have o0 := OB.out.c 0 _ rfl
              have o1 := OB.out.c 1 _ rfl
              try simp only at o0 o1
              have OKX : Hid (MsgO w5 (g + 1) x) := Lib.hid (S.out.ok _ (List.mem_of_getElem? HXK.out))
              obtain ⟨bl, ol, hpl, -⟩ := S.out.lv.sl.cells (by omega)
              subst hpl
              have HCW : Hid (∀ j v, (msgL x)[j]? = some v → w5.cell? ⟨bl, ol + K * 13 + j, none⟩ = some v) := Lib.hid (fun j v hv => by
                obtain ⟨b', o', he, hc⟩ := S.out.lv.sl.cells (by omega)
                cases he
                rw [Nat.add_assoc]
                exact hc K (msgL x) (by rw [List.getElem?_map, HXK.out]; rfl) j v hv)
              obtain ⟨xm, xp, xc, xL⟩ := x
              simp only at HB
              clear HXK
              have b6 : (K : Int) < (xs.length : Int) := by omega
              go_upto_region 34 with fail
              obtain ⟨w9, hw9⟩ : ∃ w9, w9 = w5.drew := ⟨_, rfl⟩
              replace S : Hid (ST w9 g (some ⟨bl, ol, none⟩) cl pn cn xs ds4) := Lib.hid (by rw [hw9]; exact S.out.ext (Ext.drew w5))
              replace XX : Hid (Ext w w9) := Lib.hid (by rw [hw9]; exact XX.out.tr (Ext.drew w5))
              replace OB : Hid (BoxV w9 bo bo (opL ⟨1, (K : Int), oq, ocap, oxs⟩)) := Lib.hid (by rw [hw9]; exact OB.out.ext (Ext.drew w5))
              replace OKX : Hid (MsgO w9 (g + 1) ⟨xm, xp, xc, xL⟩) := Lib.hid (by rw [hw9]; exact OKX.out.ext (Ext.drew w5))
              have OC : Hid (SlP w9 p5 B.length c5 B) := Lib.hid (by rw [hw9]; exact OX.out.ext (Ext.drew w5))
              have HROW : Hid (∀ j v, (msL xm xp xL.length xc)[j]? = some v → w9.cell? ⟨bl, ol + K * 13 + j, none⟩ = some v) := Lib.hid (fun j v hv => by rw [hw9]; exact Ext.cell (Ext.drew w5) (HCW.out j v hv))
              have cv := fun d os => str_of (OC.out.ext (Ext.reg w9 d os))
              have ro : ∀ d os, (grow (redrawn w9 d) os).cell? ⟨bo, 1, none⟩ = some (.int .i64 (K : Int)) := fun d os => Ext.cell (Ext.reg w9 d os) (OB.out.c 1 _ rfl)
              have r0 : ∀ d os, (grow (redrawn w9 d) os).cell? ⟨bl, ol + K * 13, none⟩ = some (.int .i64 xm.kd) := fun d os => Ext.cell (Ext.reg w9 d os) (HROW.out 0 _ rfl)
              have r1 := fun d os => Ext.cell (Ext.reg w9 d os) (HROW.out 1 _ rfl)
              have r2 := fun d os => Ext.cell (Ext.reg w9 d os) (HROW.out 2 _ rfl)
              have r3 := fun d os => Ext.cell (Ext.reg w9 d os) (HROW.out 3 _ rfl)
              have r4 := fun d os => Ext.cell (Ext.reg w9 d os) (HROW.out 4 _ rfl)
              have r5 := fun d os => Ext.cell (Ext.reg w9 d os) (HROW.out 5 _ rfl)
              have r6 := fun d os => Ext.cell (Ext.reg w9 d os) (HROW.out 6 _ rfl)
              have r7 := fun d os => Ext.cell (Ext.reg w9 d os) (HROW.out 7 _ rfl)
              have r8 := fun d os => Ext.cell (Ext.reg w9 d os) (HROW.out 8 _ rfl)
              have r9 := fun d os => Ext.cell (Ext.reg w9 d os) (HROW.out 9 _ rfl)
              have r10 := fun d os => Ext.cell (Ext.reg w9 d os) (HROW.out 10 _ rfl)
              have r11 := fun d os => Ext.cell (Ext.reg w9 d os) (HROW.out 11 _ rfl)
              have r12 := fun d os => Ext.cell (Ext.reg w9 d os) (HROW.out 12 _ rfl)
              try simp only at r0 r1 r2 r3 r4 r5 r6 r7 r8 r9 r10 r11 r12
              clear o0 o1
              refine rw_start [0, 1, 2, 3, 4, 5, 6, 7, 8, 9, 10, 11, 12, 13, 14, 15, 16, 17, 18, 19, 20, 21, 22, 23, 24, 25, 26] (by kernel_rfl) (by kernel_rfl) (fun _ _ d _ _ h => by cases d <;> exact h) ?_
              rw [← hw9]
              clear hw9 HCW
              repeat (first | (refine rw_quiet rfl (by rfl) (by rfl) (fun K hK => ?_); go_big_quiet_op; refine hK _ ?_; clear hK K) | (refine rw_skip rfl (by rfl) (fun K hK => ?_); go_big_quiet_op; refine hK _ ?_; clear hK K))
              clear cv ro r0 r1 r2 r3 r4 r5 r6 r7 r8 r9 r10 r11 r12
              refine rw_call rfl (by rfl) (by rfl) (fun K hK => ?_)
              go_simp
              have T1 := rbytesm_any (m := xm) OKX.out.ok OKX.out.ow.sl OKX.out.en
              rw [← HB.out] at T1
              refine T1.mono ?_
              rintro e w10 ⟨p10, c10, rfl, o10, x10⟩
              refine hK _ _ x10 ?_
              clear hK K
              have S10 := Lib.hid (S.out.ext x10)
              have X10 := Lib.hid (XX.out.tr x10)
              have OB10 := Lib.hid (OB.out.ext x10)
              have cv := fun d os => str_of (o10.sl.ext (Ext.reg w10 d os))
              clear o10 x10 T1 S XX OB
              repeat (first | (refine rw_quiet rfl (by rfl) (by rfl) (fun K hK => ?_); go_big_quiet_op; refine hK _ ?_; clear hK K) | (refine rw_skip rfl (by rfl) (fun K hK => ?_); go_big_quiet_op; refine hK _ ?_; clear hK K))
              clear cv
              refine rw_nil ?_
              have o0 := OB10.out.c 0 _ rfl
              have o1 := OB10.out.c 1 _ rfl
              try simp only at o0 o1
              go_upto_region 37 with fail
              have hle := S10.out.lv.sl.le
              have b7 : (K : Int) + 1 ≤ (xs.length : Int) := by omega
              have b8 : (0 : Int) ≤ (K : Int) + 1 := by omega
              have b9 : K ≤ cl := by omega
              have b10 : (K : Int) ≤ (cl : Int) := by omega
              have e9 : wrap64 ((K : Int) + 1) = (K : Int) + 1 := by unfold wrap64; omega
              have e10 : IntKind.i64.wrap ((K : Int) + 1) = (K : Int) + 1 := IntWalk.i64_in _ (by omega)
              obtain ⟨A, hA, hAif⟩ : ∃ A, tailS 13 (some ⟨bl, ol, none⟩) cl (K + 1) = some A ∧ (if cl = K + 1 then (some ⟨bl, ol, none⟩ : Option Addr) else some ⟨bl, ol + (K + 1) * 13, none⟩) = some A := by
                unfold tailS
                by_cases hc : cl = K + 1
                · exact ⟨⟨bl, ol, none⟩, by rw [if_pos hc], by rw [if_pos hc]⟩
                · exact ⟨⟨bl, ol + (K + 1) * 13, none⟩, by rw [if_neg hc]; simp [Addr.add_lit], by rw [if_neg hc]⟩
              have LVd := Lib.hid (S10.out.lv.ext (Ext.drew w10))
              have hb : g + 1 ≤ w10.drew.heap.size := S10.out.nv.box.hi
              have HA := Lib.hid hA
              have xl : xs.length ≤ 1000000 := by omega
              clear hA
              go_region_law (refine step_del rfl (.tmp 160) (.tmp 165) rfl (g + 1) (some ⟨bl, ol, none⟩) xs.length cl (xs.map msgL) LVd.out (msgs_one xs) K HKL.out (by simp [Act.eval, Act.put]) (by simp [Act.eval, Act.put, HA.out]) xl hb ?_; intro p11 cl11 w11 lv11 x11 f11)
              all_goals
                have X11 := Lib.hid ((Ext.drew w10).tr x11)
                have S11 := Lib.hid (S10.out.cut HKL.out X11.out lv11 (Fr.ext f11 (Ext.drew w10)))
                have X12 := Lib.hid (X10.out.tr X11.out)
                clear lv11 x11 f11
                have hl11 : (xs.eraseIdx K).length = xs.length - 1 := by rw [List.length_eraseIdx, if_pos HKL.out]
                have H11 := Lib.hid hl11
                clear hl11 hle b7 b8 b9 b10 e9 e10 hAif hb LVd xl o0 o1
                go_wp2_with fail
                have T9 := nlen_any S11.out.nv
                rw [len_key KEY4.out, H11.out] at T9
                refine T9.mono ?_
                rintro e w99 ⟨rfl, rfl⟩
                clear T9
                go_wp2
                go_roundw
                case rel => exact ⟨k + 1, p11, cl11, pn, cn, xs.eraseIdx K, ds4, by omega, by omega, by go_num, by rw [H11.out], by rw [H11.out]; omega, S11.out, KEY4.out, X12.out⟩
                case measure => simp [intOf]; omega
        · have e1 : (okd == 1) = false := beq_eq_false_iff_ne.2 q1
          by_cases q2 : okd = 2
          · subst q2
            clear q0 q1
            cases hin : inN oid xs.length
            · as_aux_lemma =>
                have HIN := Lib.hid hin
                clear hin
                have LN : Hid (lookN ds oid = [] ∧ dropN ds oid = ds) := Lib.hid ⟨by unfold lookN; rw [len_key KEY.out, HIN.out]; rfl, by unfold dropN; rw [len_key KEY.out, HIN.out]; rfl⟩
                have o1 := OB.out.c 1 _ rfl
                try simp only at o1
                have T := nlook_any S.out.nv oid
                rw [len_key KEY.out, HIN.out, LN.out.1] at T
                go_wp2_with fail
                refine T.mono ?_
                rintro e w4 ⟨p4, c4, rfl, o4, x4⟩
                replace S := Lib.hid (S.out.ext x4)
                replace OB := Lib.hid (OB.out.ext x4)
                replace XX := Lib.hid (XX.out.tr x4)
                clear T o1 o4 x4 o0
                have o0 := OB.out.c 0 _ rfl
                have o1 := OB.out.c 1 _ rfl
                try simp only at o0 o1
                go_upto_region 34 with fail
                obtain ⟨w9, hw9⟩ : ∃ w9, w9 = w4.drew := ⟨_, rfl⟩
                replace S : Hid (ST w9 g pl cl pn cn xs ds) := Lib.hid (by rw [hw9]; exact S.out.ext (Ext.drew w4))
                replace XX : Hid (Ext w w9) := Lib.hid (by rw [hw9]; exact XX.out.tr (Ext.drew w4))
                replace OB : Hid (BoxV w9 bo bo (opL ⟨2, oid, oq, ocap, oxs⟩)) := Lib.hid (by rw [hw9]; exact OB.out.ext (Ext.drew w4))
                clear o0 o1
                refine rw_start [0, 1, 2, 3, 4, 5, 6, 7, 8, 9, 10, 11, 12, 13, 14, 15, 16, 17, 18, 19, 20, 21, 22, 23, 24, 25, 26] (by kernel_rfl) (by kernel_rfl) (fun _ _ d _ _ h => by cases d <;> exact h) ?_
                rw [← hw9]
                clear hw9
                repeat (first | (refine rw_quiet rfl (by rfl) (by rfl) (fun K hK => ?_); go_big_quiet_op; refine hK _ ?_; clear hK K) | (refine rw_skip rfl (by rfl) (fun K hK => ?_); go_big_quiet_op; refine hK _ ?_; clear hK K))
                refine rw_nil ?_
                go_wp2_with fail
                have T9 := nlen_any S.out.nv
                rw [len_key KEY.out] at T9
                refine T9.mono ?_
                rintro e w99 ⟨rfl, rfl⟩
                clear T9
                go_wp2
                go_roundw
                case rel => exact ⟨k + 1, pl, cl, pn, cn, xs, ds, by omega, by omega, by go_num, rfl, by omega, S.out, KEY.out, XX.out⟩
                case measure => simp [intOf]; omega
            · as_aux_lemma =>
                obtain ⟨K, rfl, hKl⟩ := inN_nat hin
                have HKL := Lib.hid hKl
                have HIN := Lib.hid hin
                clear hin
                obtain ⟨x, hxk⟩ : ∃ x, xs[K]? = some x := ⟨xs[K]'hKl, List.getElem?_eq_getElem hKl⟩
                have HXK := Lib.hid hxk
                obtain ⟨l1, l2, l3⟩ := look_at KEY.out hxk
                obtain ⟨B, hB⟩ : ∃ B, B = encM x.m x.L := ⟨_, rfl⟩
                rw [← hB] at l1
                have HB := Lib.hid hB
                have HL := Lib.hid (And.intro l1 l3)
                clear hxk l1 l2 l3 hB
                have o1 := OB.out.c 1 _ rfl
                try simp only at o1
                have T := nlook_any S.out.nv (K : Int)
                rw [HL.out.1, HL.out.2] at T
                go_wp2_with fail
                refine T.mono ?_
                rintro e w4 ⟨p4, c4, rfl, o4, x4⟩
                have O4 := Lib.hid o4.sl
                replace S := Lib.hid (S.out.ext x4)
                replace OB := Lib.hid (OB.out.ext x4)
                replace XX := Lib.hid (XX.out.tr x4)
                clear T o1 o4 x4 o0
                have OX := O4
                have o0 := OB.out.c 0 _ rfl
                have o1 := OB.out.c 1 _ rfl
                try simp only at o0 o1
                have OKX : Hid (MsgO w4 (g + 1) x) := Lib.hid (S.out.ok _ (List.mem_of_getElem? HXK.out))
                obtain ⟨bl, ol, hpl, -⟩ := S.out.lv.sl.cells (by omega)
                subst hpl
                have HCW : Hid (∀ j v, (msgL x)[j]? = some v → w4.cell? ⟨bl, ol + K * 13 + j, none⟩ = some v) := Lib.hid (fun j v hv => by
                  obtain ⟨b', o', he, hc⟩ := S.out.lv.sl.cells (by omega)
                  cases he
                  rw [Nat.add_assoc]
                  exact hc K (msgL x) (by rw [List.getElem?_map, HXK.out]; rfl) j v hv)
                obtain ⟨xm, xp, xc, xL⟩ := x
                simp only at HB
                clear HXK
                have b6 : (K : Int) < (xs.length : Int) := by omega
                go_upto_region 34 with fail
                obtain ⟨w9, hw9⟩ : ∃ w9, w9 = w4.drew := ⟨_, rfl⟩
                replace S : Hid (ST w9 g (some ⟨bl, ol, none⟩) cl pn cn xs ds) := Lib.hid (by rw [hw9]; exact S.out.ext (Ext.drew w4))
                replace XX : Hid (Ext w w9) := Lib.hid (by rw [hw9]; exact XX.out.tr (Ext.drew w4))
                replace OB : Hid (BoxV w9 bo bo (opL ⟨2, (K : Int), oq, ocap, oxs⟩)) := Lib.hid (by rw [hw9]; exact OB.out.ext (Ext.drew w4))
                replace OKX : Hid (MsgO w9 (g + 1) ⟨xm, xp, xc, xL⟩) := Lib.hid (by rw [hw9]; exact OKX.out.ext (Ext.drew w4))
                have OC : Hid (SlP w9 p4 B.length c4 B) := Lib.hid (by rw [hw9]; exact OX.out.ext (Ext.drew w4))
                have HROW : Hid (∀ j v, (msL xm xp xL.length xc)[j]? = some v → w9.cell? ⟨bl, ol + K * 13 + j, none⟩ = some v) := Lib.hid (fun j v hv => by rw [hw9]; exact Ext.cell (Ext.drew w4) (HCW.out j v hv))
                have cv := fun d os => str_of (OC.out.ext (Ext.reg w9 d os))
                have ro : ∀ d os, (grow (redrawn w9 d) os).cell? ⟨bo, 1, none⟩ = some (.int .i64 (K : Int)) := fun d os => Ext.cell (Ext.reg w9 d os) (OB.out.c 1 _ rfl)
                have r0 : ∀ d os, (grow (redrawn w9 d) os).cell? ⟨bl, ol + K * 13, none⟩ = some (.int .i64 xm.kd) := fun d os => Ext.cell (Ext.reg w9 d os) (HROW.out 0 _ rfl)
                have r1 := fun d os => Ext.cell (Ext.reg w9 d os) (HROW.out 1 _ rfl)
                have r2 := fun d os => Ext.cell (Ext.reg w9 d os) (HROW.out 2 _ rfl)
                have r3 := fun d os => Ext.cell (Ext.reg w9 d os) (HROW.out 3 _ rfl)
                have r4 := fun d os => Ext.cell (Ext.reg w9 d os) (HROW.out 4 _ rfl)
                have r5 := fun d os => Ext.cell (Ext.reg w9 d os) (HROW.out 5 _ rfl)
                have r6 := fun d os => Ext.cell (Ext.reg w9 d os) (HROW.out 6 _ rfl)
                have r7 := fun d os => Ext.cell (Ext.reg w9 d os) (HROW.out 7 _ rfl)
                have r8 := fun d os => Ext.cell (Ext.reg w9 d os) (HROW.out 8 _ rfl)
                have r9 := fun d os => Ext.cell (Ext.reg w9 d os) (HROW.out 9 _ rfl)
                have r10 := fun d os => Ext.cell (Ext.reg w9 d os) (HROW.out 10 _ rfl)
                have r11 := fun d os => Ext.cell (Ext.reg w9 d os) (HROW.out 11 _ rfl)
                have r12 := fun d os => Ext.cell (Ext.reg w9 d os) (HROW.out 12 _ rfl)
                try simp only at r0 r1 r2 r3 r4 r5 r6 r7 r8 r9 r10 r11 r12
                clear o0 o1
                refine rw_start [0, 1, 2, 3, 4, 5, 6, 7, 8, 9, 10, 11, 12, 13, 14, 15, 16, 17, 18, 19, 20, 21, 22, 23, 24, 25, 26] (by kernel_rfl) (by kernel_rfl) (fun _ _ d _ _ h => by cases d <;> exact h) ?_
                rw [← hw9]
                clear hw9 HCW
                repeat (first | (refine rw_quiet rfl (by rfl) (by rfl) (fun K hK => ?_); go_big_quiet_op; refine hK _ ?_; clear hK K) | (refine rw_skip rfl (by rfl) (fun K hK => ?_); go_big_quiet_op; refine hK _ ?_; clear hK K))
                clear cv ro r0 r1 r2 r3 r4 r5 r6 r7 r8 r9 r10 r11 r12
                refine rw_call rfl (by rfl) (by rfl) (fun K hK => ?_)
                go_simp
                have T1 := rbytesm_any (m := xm) OKX.out.ok OKX.out.ow.sl OKX.out.en
                rw [← HB.out] at T1
                refine T1.mono ?_
                rintro e w10 ⟨p10, c10, rfl, o10, x10⟩
                refine hK _ _ x10 ?_
                clear hK K
                have S10 := Lib.hid (S.out.ext x10)
                have X10 := Lib.hid (XX.out.tr x10)
                have OB10 := Lib.hid (OB.out.ext x10)
                have cv := fun d os => str_of (o10.sl.ext (Ext.reg w10 d os))
                clear o10 x10 T1 S XX OB
                repeat (first | (refine rw_quiet rfl (by rfl) (by rfl) (fun K hK => ?_); go_big_quiet_op; refine hK _ ?_; clear hK K) | (refine rw_skip rfl (by rfl) (fun K hK => ?_); go_big_quiet_op; refine hK _ ?_; clear hK K))
                clear cv
                refine rw_nil ?_
                have o0 := OB10.out.c 0 _ rfl
                try simp only at o0
                go_wp2_with fail
                have T9 := nlen_any S10.out.nv
                rw [len_key KEY.out] at T9
                refine T9.mono ?_
                rintro e w99 ⟨rfl, rfl⟩
                clear T9
                go_wp2
                go_roundw
                case rel => exact ⟨k + 1, some ⟨bl, ol, none⟩, cl, pn, cn, xs, ds, by omega, by omega, by go_num, rfl, by omega, S10.out, KEY.out, X10.out⟩
                case measure => simp [intOf]; omega
          · have e2 : (okd == 2) = false := beq_eq_false_iff_ne.2 q2
            clear q0 q1 q2
            cases hin : inN oid xs.length
            · as_aux_lemma =>
                have HIN := Lib.hid hin
                clear hin
                have o1 := OB.out.c 1 _ rfl
                try simp only at o1
                have T := ndrop_any S.out.nv oid
                rw [len_key KEY.out, HIN.out] at T
                go_wp2_with fail
                refine T.mono ?_
                rintro e w4 ⟨rfl, n4, m4⟩
                rw [show dropN ds oid = ds by unfold dropN; rw [len_key KEY.out, HIN.out]; rfl] at n4
                have S4 := Lib.hid (S.out.net m4 n4 (Fr.same _ _))
                have X4 : Hid (Ext w w4) := Lib.hid (Below.trans XX.out (m4.below XX.out.size HG.out (fun i hi => by have := S.out.nv.plt i hi; have := HG.out; omega)))
                clear T n4 m4 o1
                go_wp2_with fail
                have T9 := nlen_any S4.out.nv
                rw [len_key KEY.out] at T9
                refine T9.mono ?_
                rintro e w99 ⟨rfl, rfl⟩
                clear T9
                go_wp2
                go_roundw
                case rel => exact ⟨k + 1, pl, cl, pn, cn, xs, ds, by omega, by omega, by go_num, rfl, by omega, S4.out, KEY.out, X4.out⟩
                case measure => simp [intOf]; omega
            · as_aux_lemma =>
                obtain ⟨K, rfl, hKl⟩ := inN_nat hin
                have HKL := Lib.hid hKl
                have HIN := Lib.hid hin
                clear hin
                have o1 := OB.out.c 1 _ rfl
                try simp only at o1
                have T := ndrop_any S.out.nv (K : Int)
                rw [len_key KEY.out, HIN.out] at T
                go_wp2_with fail
                clear o1
                refine T.mono ?_
                rintro e w4 ⟨rfl, n4, m4⟩
                have S4 := Lib.hid (S.out.net m4 n4 (Fr.same _ _))
                have KEY4 := Lib.hid (drop_key KEY.out hKl)
                have X4 : Hid (Ext w w4) := Lib.hid (Below.trans XX.out (m4.below XX.out.size HG.out (fun i hi => by have := S.out.nv.plt i hi; have := HG.out; omega)))
                have OB4 := Lib.hid (OB.out.mv m4 PB.out.2.2 PB.out.2.1)
                generalize dropN ds (K : Int) = ds4 at *
                clear T n4 m4 S KEY XX OB
                have o1 := OB4.out.c 1 _ rfl
                try simp only at o1
                go_upto_region 15 with fail
                have hle := S4.out.lv.sl.le
                have b7 : (K : Int) + 1 ≤ (xs.length : Int) := by omega
                have b8 : (0 : Int) ≤ (K : Int) + 1 := by omega
                have b9 : K ≤ cl := by omega
                have b10 : (K : Int) ≤ (cl : Int) := by omega
                have e9 : wrap64 ((K : Int) + 1) = (K : Int) + 1 := by unfold wrap64; omega
                have e10 : IntKind.i64.wrap ((K : Int) + 1) = (K : Int) + 1 := IntWalk.i64_in _ (by omega)
                obtain ⟨bl, ol, hpl, -⟩ := S4.out.lv.sl.cells (by omega)
                subst hpl
                obtain ⟨A, hA, hAif⟩ : ∃ A, tailS 13 (some ⟨bl, ol, none⟩) cl (K + 1) = some A ∧ (if cl = K + 1 then (some ⟨bl, ol, none⟩ : Option Addr) else some ⟨bl, ol + (K + 1) * 13, none⟩) = some A := by
                  unfold tailS
                  by_cases hc : cl = K + 1
                  · exact ⟨⟨bl, ol, none⟩, by rw [if_pos hc], by rw [if_pos hc]⟩
                  · exact ⟨⟨bl, ol + (K + 1) * 13, none⟩, by rw [if_neg hc]; simp [Addr.add_lit], by rw [if_neg hc]⟩
                have LVd := Lib.hid (S4.out.lv.ext (Ext.drew w4))
                have hb : g + 1 ≤ w4.drew.heap.size := S4.out.nv.box.hi
                have HA := Lib.hid hA
                have xl : xs.length ≤ 1000000 := by omega
                clear hA
                go_region_law (refine step_del rfl (.tmp 59) (.tmp 64) rfl (g + 1) (some ⟨bl, ol, none⟩) xs.length cl (xs.map msgL) LVd.out (msgs_one xs) K HKL.out (by simp [Act.eval, Act.put]) (by simp [Act.eval, Act.put, HA.out]) xl hb ?_; intro p11 cl11 w11 lv11 x11 f11)
                all_goals
                  have X11 := Lib.hid ((Ext.drew w4).tr x11)
                  have S11 := Lib.hid (S4.out.cut HKL.out X11.out lv11 (Fr.ext f11 (Ext.drew w4)))
                  have X12 := Lib.hid (X4.out.tr X11.out)
                  clear lv11 x11 f11
                  have hl11 : (xs.eraseIdx K).length = xs.length - 1 := by rw [List.length_eraseIdx, if_pos HKL.out]
                  have H11 := Lib.hid hl11
                  clear hl11 hle b7 b8 b9 b10 e9 e10 hAif hb LVd xl o1
                  go_wp2_with fail
                  have T9 := nlen_any S11.out.nv
                  rw [len_key KEY4.out, H11.out] at T9
                  refine T9.mono ?_
                  rintro e w99 ⟨rfl, rfl⟩
                  clear T9
                  go_wp2
                  go_roundw
                  case rel => exact ⟨k + 1, p11, cl11, pn, cn, xs.eraseIdx K, ds4, by omega, by omega, by go_num, by rw [H11.out], by rw [H11.out]; omega, S11.out, KEY4.out, X12.out⟩
                  case measure => simp [intOf]; omega
    · have hout : ¬ k < n ∨ (k < n ∧ ¬ k < 50) := by omega
      clear hgo
      rcases hout with h1 | ⟨h1, h2⟩
      · have b1 : ¬ (k : Int) < (n : Int) := by omega
        clear hk
        as_aux_lemma =>
          have hx200 : xs.length ≤ 200 := by omega
          clear hx4 hk50
          go_wp2_with fail
          go_loop [15] (fun i => ∃ z : Int, -1 ≤ z ∧ z ≤ (xs.length : Int) + 1 ∧ i = .int .i64 z) (fun i => ((xs.length : Int) + 1 - intOf i).toNat)
          case atStart => exact ⟨-1, by omega, by omega, rfl⟩
          case round =>
            obtain ⟨z, hz1, hz2, rfl⟩ := hrel
            by_cases hle : z ≤ (xs.length : Int)
            · by_cases hin : 0 ≤ z ∧ z < (xs.length : Int)
              · obtain ⟨t, rfl⟩ : ∃ t : Nat, z = (t : Int) := ⟨z.toNat, by omega⟩
                have htl : t < xs.length := by omega
                obtain ⟨x, hxk⟩ : ∃ x, xs[t]? = some x := ⟨xs[t]'htl, List.getElem?_eq_getElem htl⟩
                obtain ⟨bl, ol, hpl, hcl⟩ := S.out.lv.sl.cells (by omega)
                have c2 : wr.cell? ⟨bl, ol + t * 13 + 2, none⟩ = some (.int .i64 x.m.to) := by
                  rw [Nat.add_assoc]
                  exact hcl t (msgL x) (by rw [List.getElem?_map, hxk]; rfl) 2 _ rfl
                subst hpl
                obtain ⟨l1, l2, l3⟩ := look_at KEY.out hxk
                have T := nto_any S.out.nv (t : Int)
                rw [l2] at T
                have b5 : (t : Int) < (xs.length : Int) := by omega
                clear l1 l2 l3 hcl hxk hin
                go_wp2_with fail
                refine T.mono ?_
                rintro e w4 ⟨rfl, rfl⟩
                clear T c2
                go_wp2
                go_round
                case rel => exact ⟨(t : Int) + 1, by omega, by omega, rfl⟩
                case measure => simp [intOf]; omega
              · have hT : toN ds z = 0 := by
                  unfold toN
                  rw [if_neg]
                  rw [len_key KEY.out]
                  simp [inN]
                  omega
                have T := nto_any S.out.nv z
                rw [hT] at T
                clear hT
                by_cases h0 : 0 ≤ z
                · have h1 : ¬ z < (xs.length : Int) := by omega
                  clear hin
                  go_wp2_with fail
                  refine T.mono ?_
                  rintro e w4 ⟨rfl, rfl⟩
                  clear T
                  go_wp2
                  go_round
                  case rel => exact ⟨z + 1, by omega, by omega, rfl⟩
                  case measure => simp [intOf]; omega
                · clear hin
                  go_wp2_with fail
                  refine T.mono ?_
                  rintro e w4 ⟨rfl, rfl⟩
                  clear T
                  go_wp2
                  go_round
                  case rel => exact ⟨z + 1, by omega, by omega, rfl⟩
                  case measure => simp [intOf]; omega
            · go_wp2
              go_ret
              exact ⟨rfl, XX.out⟩
      · have b1 : (k : Int) < (n : Int) := by omega
        have b2 : ¬ (k : Int) < 50 := by omega
        as_aux_lemma =>
          have hx200 : xs.length ≤ 200 := by omega
          clear hx4 hk50 hk
          go_wp2_with fail
          go_loop [15] (fun i => ∃ z : Int, -1 ≤ z ∧ z ≤ (xs.length : Int) + 1 ∧ i = .int .i64 z) (fun i => ((xs.length : Int) + 1 - intOf i).toNat)
          case atStart => exact ⟨-1, by omega, by omega, rfl⟩
          case round =>
            obtain ⟨z, hz1, hz2, rfl⟩ := hrel
            by_cases hle : z ≤ (xs.length : Int)
            · by_cases hin : 0 ≤ z ∧ z < (xs.length : Int)
              · obtain ⟨t, rfl⟩ : ∃ t : Nat, z = (t : Int) := ⟨z.toNat, by omega⟩
                have htl : t < xs.length := by omega
                obtain ⟨x, hxk⟩ : ∃ x, xs[t]? = some x := ⟨xs[t]'htl, List.getElem?_eq_getElem htl⟩
                obtain ⟨bl, ol, hpl, hcl⟩ := S.out.lv.sl.cells (by omega)
                have c2 : wr.cell? ⟨bl, ol + t * 13 + 2, none⟩ = some (.int .i64 x.m.to) := by
                  rw [Nat.add_assoc]
                  exact hcl t (msgL x) (by rw [List.getElem?_map, hxk]; rfl) 2 _ rfl
                subst hpl
                obtain ⟨l1, l2, l3⟩ := look_at KEY.out hxk
                have T := nto_any S.out.nv (t : Int)
                rw [l2] at T
                have b5 : (t : Int) < (xs.length : Int) := by omega
                clear l1 l2 l3 hcl hxk hin
                go_wp2_with fail
                refine T.mono ?_
                rintro e w4 ⟨rfl, rfl⟩
                clear T c2
                go_wp2
                go_round
                case rel => exact ⟨(t : Int) + 1, by omega, by omega, rfl⟩
                case measure => simp [intOf]; omega
              · have hT : toN ds z = 0 := by
                  unfold toN
                  rw [if_neg]
                  rw [len_key KEY.out]
                  simp [inN]
                  omega
                have T := nto_any S.out.nv z
                rw [hT] at T
                clear hT
                by_cases h0 : 0 ≤ z
                · have h1 : ¬ z < (xs.length : Int) := by omega
                  clear hin
                  go_wp2_with fail
                  refine T.mono ?_
                  rintro e w4 ⟨rfl, rfl⟩
                  clear T
                  go_wp2
                  go_round
                  case rel => exact ⟨z + 1, by omega, by omega, rfl⟩
                  case measure => simp [intOf]; omega
                · clear hin
                  go_wp2_with fail
                  refine T.mono ?_
                  rintro e w4 ⟨rfl, rfl⟩
                  clear T
                  go_wp2
                  go_round
                  case rel => exact ⟨z + 1, by omega, by omega, rfl⟩
                  case measure => simp [intOf]; omega
            · go_wp2
              go_ret
              exact ⟨rfl, XX.out⟩
end Go.Proofs.Ytgplmbchlahbkaa
