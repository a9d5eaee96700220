/-
  The net beside a list of its messages; the statement NetOrder: curfewlaw18.NetOrder answers true. Conditions: that the arguments are readable, a parameter of walk_NetOrder each.
-/
import Derived.Test.YtgplmbchlahbkaaNet9
import Derived.Deep.CutBlock
import Derived.Deep.DeepCutAuto
namespace Go.Proofs.Ytgplmbchlahbkaa
open Go Go.Sort Go.RowKit
set_option linter.unusedVariables false

def keyM (x : MsgD) : Int × List UInt8 := (x.m.to, encM x.m x.L)
/-- A message whose entries lie in a row of its own. -/
structure MsgO (w : World) (base : Nat) (x : MsgD) : Prop where
  ok : MsOk x.m
  ow : OwS 54 7 w base x.p x.L.length x.cap (x.L.map enL)
  en : ∀ e ∈ x.L, EnOk e
theorem MsgO.ext {w w' : World} {base : Nat} {x : MsgD} (h : MsgO w base x) (k : Ext w w') : MsgO w' base x := ⟨h.ok, h.ow.ext k, h.en⟩
theorem MsgO.msg {w : World} {base : Nat} {x : MsgD} (h : MsgO w base x) : MsgOk w x := ⟨h.ok, h.ow.sl, h.en⟩
theorem MsgO.sep {w : World} {g cn : Nat} {pn : Option Addr} {ds : List MailD} {x : MsgD} (h : MsgO w (g + 1) x) (n : NetV w g pn cn ds) : Sep g pn x.p :=
  ⟨fun e => by have := (h.ow.lt g e).1; omega, own_ne n.row.2.2 h.ow.2.2 (by decide)⟩
theorem MsgO.mv {w w' : World} {g cn : Nat} {pn : Option Addr} {ds : List MailD} {x : MsgD} (h : MsgO w (g + 1) x) (n : NetV w g pn cn ds) (k : Mv w w' g pn) : MsgO w' (g + 1) x := ⟨h.ok, h.ow.mv k (h.sep n).1 (h.sep n).2, h.en⟩
theorem msgO_nil {w : World} {base : Nat} {m : MsD} (h : MsOk m) : MsgO w base ⟨m, none, 0, []⟩ := ⟨h, OwS.nil _ _ _ _, fun e he => by cases he⟩
/-- The list xs lies at pl; the net at g holds ds. -/
structure ST (w : World) (g : Nat) (pl : Option Addr) (cl : Nat) (pn : Option Addr) (cn : Nat) (xs : List MsgD) (ds : List MailD) : Prop where
  lv : LV w (g + 1) pl xs.length cl (xs.map msgL)
  nv : NetV w g pn cn ds
  ok : ∀ x ∈ xs, MsgO w (g + 1) x
  may : ∀ x ∈ xs, mayM x.m x.L = true
  sl : Sep g pn pl
theorem ST.ext {w w' : World} {g cl cn : Nat} {pl pn : Option Addr} {xs : List MsgD} {ds : List MailD} (h : ST w g pl cl pn cn xs ds) (k : Ext w w') : ST w' g pl cl pn cn xs ds :=
  ⟨h.lv.ext k, h.nv.ext k, fun x hx => (h.ok x hx).ext k, h.may, h.sl⟩
theorem len_key {xs : List MsgD} {ds : List MailD} (h : ds.map mkD = xs.map keyM) : ds.length = xs.length := by
  have := congrArg List.length h
  simpa using this
theorem look_key {xs : List MsgD} {ds : List MailD} (h : ds.map mkD = xs.map keyM) {i : Nat} (hi : i < xs.length) : lookN ds (i : Int) = encM (xs[i]).m (xs[i]).L ∧ toN ds (i : Int) = (xs[i]).m.to ∧ inN (i : Int) ds.length = true := by
  have hid : i < ds.length := by rw [len_key h]; exact hi
  have hin := inN_of hid
  have hk : mkD ds[i] = keyM xs[i] := by
    have := congrArg (fun l => l[i]?) h
    simpa [hid, hi] using this
  have h1 := congrArg Prod.fst hk
  have h2 := congrArg Prod.snd hk
  refine ⟨?_, ?_, hin⟩
  · simp only [lookN, hin, Int.toNat_natCast, if_true, List.getElem?_eq_getElem hid, Option.map_some, Option.getD_some]
    exact h2
  · simp only [toN, hin, Int.toNat_natCast, if_true, List.getElem?_eq_getElem hid, Option.map_some, Option.getD_some]
    exact h1
theorem look_at {xs : List MsgD} {ds : List MailD} (h : ds.map mkD = xs.map keyM) {i : Nat} {x : MsgD} (hx : xs[i]? = some x) : lookN ds (i : Int) = encM x.m x.L ∧ toN ds (i : Int) = x.m.to ∧ inN (i : Int) ds.length = true := by
  obtain ⟨hi, rfl⟩ := List.getElem?_eq_some_iff.1 hx
  exact look_key h hi
theorem drop_key {xs : List MsgD} {ds : List MailD} (h : ds.map mkD = xs.map keyM) {i : Nat} (hi : i < xs.length) : (dropN ds (i : Int)).map mkD = (xs.eraseIdx i).map keyM := by
  have hin : inN (i : Int) ds.length = true := inN_of (by rw [len_key h]; exact hi)
  unfold dropN
  rw [if_pos hin, Int.toNat_natCast, erase_map, erase_map, h]
/-- The net has changed. -/
theorem ST.net {w w' : World} {g cl cn cn' : Nat} {pl pn pn' : Option Addr} {xs : List MsgD} {ds ds' : List MailD} (h : ST w g pl cl pn cn xs ds) (k : Mv w w' g pn) (n : NetV w' g pn' cn' ds') (f : Fr w pn pn') : ST w' g pl cl pn' cn' xs ds' :=
  ⟨h.lv.mv k h.sl, n, fun x hx => (h.ok x hx).mv h.nv k, h.may, ⟨h.sl.1, fun i hi e => by
    rcases f i hi with h1 | h1
    · exact h.sl.2 i h1 e
    · have := (h.lv.lt i e).2
      omega⟩⟩
theorem Fr.same (w : World) (p : Option Addr) : Fr w p p := fun i hi => .inl hi
theorem Fr.ext {w w' : World} {p q : Option Addr} (h : Fr w' p q) (k : Ext w w') : Fr w p q := fun i hi => (h i hi).imp id (fun h => Nat.le_trans k.size h)
/-- The list has lost its i-th. -/
theorem ST.cut {w w' : World} {g cl cn i cl' : Nat} {pl pn pl' : Option Addr} {xs : List MsgD} {ds : List MailD} (h : ST w g pl cl pn cn xs ds) (hi : i < xs.length) (k : Ext w w') (l : LV w' (g + 1) pl' (xs.length - 1) cl' ((xs.map msgL).eraseIdx i)) (f : Fr w pl pl') : ST w' g pl' cl' pn cn (xs.eraseIdx i) ds := by
  refine ⟨?_, h.nv.ext k, fun x hx => (h.ok x (List.mem_of_mem_eraseIdx hx)).ext k, fun x hx => h.may x (List.mem_of_mem_eraseIdx hx), ⟨fun e => ?_, fun j hj e => ?_⟩⟩
  · rw [List.length_eraseIdx, if_pos hi, erase_map]
    exact l
  · rcases f _ e with h1 | h1
    · exact h.sl.1 h1
    · have := h.nv.box.hi
      omega
  · rcases f _ e with h1 | h1
    · exact h.sl.2 j hj h1
    · have := (h.nv.row.lt j hj).2
      omega
/-- What is typed otherwise stays when a list of messages is appended to. -/
theorem app_keep {E : TypeId} {K n cap nl cl base base' : Nat} {p pl : Option Addr} {xs : List Value} {L : List (List Value)} {w w' : World} (h : w.ownsRow base E K (.slice p n cap) n xs) (hE : E ≠ 31) (g : w.grownBy w' none ∨ (OwS 31 13 w base' pl nl cl L ∧ w.grownBy w' (pl.map (·.block)))) : w'.ownsRow base E K (.slice p n cap) n xs := by
  refine owns_same h fun i hi => ?_
  rw [ownBlock_slice] at hi
  have hlt : i < w.heap.size := (h.lt i (by rw [ownBlock_slice]; exact hi)).2
  rcases g with g | ⟨o, g⟩
  · exact g.block i hlt (by simp)
  · exact g.block i hlt (fun e => own_ne h o.2.2 hE i hi e.symm)
theorem NetV.app {w w' : World} {g cn nl cl base : Nat} {pn pl : Option Addr} {ds : List MailD} {L : List (List Value)} (h : NetV w g pn cn ds) (k : w.grownBy w' none ∨ (OwS 31 13 w base pl nl cl L ∧ w.grownBy w' (pl.map (·.block)))) (hg : pl.map (·.block) ≠ some g) : NetV w' g pn cn ds :=
  ⟨by
    rcases k with k | ⟨o, k⟩
    · exact h.box.other k (by simp)
    · exact h.box.other k hg, ⟨h.row.1, h.row.2.1, app_keep h.row.2.2 (by decide) k⟩, fun d hd => ⟨(h.own d hd).1, app_keep (h.own d hd).2 (by decide) k⟩, h.max, h.small⟩
theorem MsgO.app {w w' : World} {nl cl base base' : Nat} {pl : Option Addr} {x : MsgD} {L : List (List Value)} (h : MsgO w base x) (k : w.grownBy w' none ∨ (OwS 31 13 w base' pl nl cl L ∧ w.grownBy w' (pl.map (·.block)))) : MsgO w' base x :=
  ⟨h.ok, ⟨h.ow.1, h.ow.2.1, app_keep h.ow.2.2 (by decide) k⟩, h.en⟩
/-- The list has one more. -/
theorem ST.app {w w' : World} {g cl cn cl' : Nat} {pl pn pl' : Option Addr} {xs : List MsgD} {ds : List MailD} {x : MsgD} {n : Nat} (hn : xs.length = n) (h : ST w g pl cl pn cn xs ds) (hx : MsgO w (g + 1) x) (hm : mayM x.m x.L = true) (o : OwS 31 13 w' (g + 1) pl' (n + 1) cl' (xs.map msgL ++ [msgL x]))
    (k : w.grownBy w' none ∨ (OwS 31 13 w (g + 1) pl n cl (xs.map msgL) ∧ w.grownBy w' (pl.map (·.block)))) (f : Fr w pl pl') : ST w' g pl' cl' pn cn (xs ++ [x]) ds := by
  subst hn
  refine ⟨?_, h.nv.app k h.sl.1, fun y hy => ?_, fun y hy => ?_, ⟨fun e => ?_, fun j hj e => ?_⟩⟩
  · rw [List.length_append, List.map_append]
    exact LV.of_own o
  · rcases List.mem_append.1 hy with hy | hy
    · exact (h.ok y hy).app k
    · simp at hy
      subst hy
      exact hx.app k
  · rcases List.mem_append.1 hy with hy | hy
    · exact h.may y hy
    · simp at hy
      subst hy
      exact hm
  · rcases f _ e with h1 | h1
    · exact h.sl.1 h1
    · have := h.nv.box.hi
      omega
  · rcases f _ e with h1 | h1
    · exact h.sl.2 j hj h1
    · have := (h.nv.row.lt j hj).2
      omega
theorem app_below {w0 w w' : World} {g cn cl : Nat} {pl pn : Option Addr} {xs : List MsgD} {ds : List MailD} {n : Nat} (hn : xs.length = n) (x : Ext w0 w) (h : ST w g pl cl pn cn xs ds) (hg : w0.heap.size ≤ g) (k : w.grownBy w' none ∨ (OwS 31 13 w (g + 1) pl n cl (xs.map msgL) ∧ w.grownBy w' (pl.map (·.block)))) : Ext w0 w' := by
  rcases k with k | ⟨o, k⟩
  · exact x.tr (Ext.grown k (fun i hi => by cases hi))
  · exact Below.grown x k x.size (fun i hi => by have := (o.lt i hi).1; omega)
theorem msgs_one (xs : List MsgD) : ∀ r ∈ xs.map msgL, ∀ u ∈ r, u.oneCell' = true := by
  intro r hr u hu
  obtain ⟨x, -, rfl⟩ := List.mem_map.1 hr
  exact one13 (m := x.m) (p := x.p) (n := x.L.length) (cap := x.cap) _ (by simp) u hu
end Go.Proofs.Ytgplmbchlahbkaa
