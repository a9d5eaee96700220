/-
  The net: what stays when it is written; the contracts of Len, has, To, Look, Drop, Take. Conditions stand at each.
-/
import Derived.Test.YtgplmbchlahbkaaNet2
import Derived.Test.YtgplmbchlahbkaaCrcSeal
import Derived.Test.YtgplmbchlahbkaaBox
namespace Go.Proofs.Ytgplmbchlahbkaa
open Go Go.Sort Go.RowKit
set_option linter.unusedVariables false

/-- All is as it was but for the blocks g and p's. -/
structure Mv (w w' : World) (g : Nat) (p : Option Addr) : Prop where
  os : w'.os = w.os
  tape : w'.tape = w.tape
  output : w'.output = w.output
  size : w.heap.size ≤ w'.heap.size
  block : ∀ k, k < w.heap.size → k ≠ g → p.map (·.block) ≠ some k → w'.heap[k]? = w.heap[k]?
theorem Mv.refl (w : World) (g : Nat) (p : Option Addr) : Mv w w g p := ⟨rfl, rfl, rfl, Nat.le_refl _, fun _ _ _ _ => rfl⟩
theorem Mv.tr {a b c : World} {g : Nat} {p : Option Addr} (h : Mv a b g p) (k : Mv b c g p) : Mv a c g p :=
  ⟨k.os.trans h.os, k.tape.trans h.tape, k.output.trans h.output, Nat.le_trans h.size k.size, fun i hi hg hp => (k.block i (Nat.lt_of_lt_of_le hi h.size) hg hp).trans (h.block i hi hg hp)⟩
/-- .. the row may have moved to a new block. -/
theorem Mv.tr' {a b c : World} {g : Nat} {p q : Option Addr} (h : Mv a b g p) (k : Mv b c g q) (hq : q = p ∨ ∀ i, q.map (·.block) = some i → a.heap.size ≤ i) : Mv a c g p :=
  ⟨k.os.trans h.os, k.tape.trans h.tape, k.output.trans h.output, Nat.le_trans h.size k.size, fun i hi hg hp => (k.block i (Nat.lt_of_lt_of_le hi h.size) hg (by
    rcases hq with rfl | hq
    · exact hp
    · intro e
      have := hq i e
      omega)).trans (h.block i hi hg hp)⟩
theorem Mv.ext {w w' : World} (h : Ext w w') (g : Nat) (p : Option Addr) : Mv w w' g p := ⟨h.os, h.tape, h.output, h.size, fun i hi _ _ => h.block i hi⟩
theorem Mv.row {w w' : World} {p : Option Addr} (h : w.grownBy w' (p.map (·.block))) (g : Nat) : Mv w w' g p := ⟨h.os, h.tape, h.output, h.size, fun i hi _ hp => h.block i hi (fun e => hp e.symm)⟩
theorem Mv.self {w w' : World} {g : Nat} (h : w.grownBy w' (some g)) (p : Option Addr) : Mv w w' g p := ⟨h.os, h.tape, h.output, h.size, fun i hi hg _ => h.block i hi (fun e => hg (by cases e; rfl))⟩
theorem Mv.below {w w' : World} {g base : Nat} {p : Option Addr} (h : Mv w w' g p) (hs : base ≤ w.heap.size) (hg : base ≤ g) (hp : ∀ k, p.map (·.block) = some k → base ≤ k) : Below base w w' :=
  ⟨h.os, h.tape, h.output, h.size, fun i hi => h.block i (by omega) (by omega) (fun e => by have := hp i e; omega)⟩
theorem owns_same {E : TypeId} {K base n : Nat} {v : Value} {xs : List Value} {w w' : World} (h : w.ownsRow base E K v n xs) (hk : ∀ k, v.ownBlock = some k → w'.heap[k]? = w.heap[k]?) : w'.ownsRow base E K v n xs := by
  refine ⟨h.1, ?_⟩
  rcases h.2 with hn | ⟨g, cap, cur, rfl, hb, hg, r⟩
  · exact .inl hn
  · exact .inr ⟨g, cap, cur, rfl, hb, by rw [hk g rfl]; exact hg, r⟩
theorem OwS.mv {E : TypeId} {K base n cap g : Nat} {p q : Option Addr} {L : List (List Value)} {w w' : World} (h : OwS E K w base q n cap L) (k : Mv w w' g p) (hg : q.map (·.block) ≠ some g) (hp : ∀ i, p.map (·.block) = some i → q.map (·.block) ≠ some i) : OwS E K w' base q n cap L :=
  ⟨h.1, h.2.1, owns_same h.2.2 fun i hi => by
    have hi' : q.map (·.block) = some i := by rwa [ownBlock_slice] at hi
    exact k.block i (h.lt i hi').2 (fun e => hg (by rw [← e]; exact hi')) (fun e => hp i e hi')⟩
theorem OwP.mv {base n cap g : Nat} {p q : Option Addr} {l : List UInt8} {w w' : World} (h : OwP w base q n cap l) (k : Mv w w' g p) (hg : q.map (·.block) ≠ some g) (hp : ∀ i, p.map (·.block) = some i → q.map (·.block) ≠ some i) : OwP w' base q n cap l :=
  ⟨h.1, owns_same h.2 fun i hi => by
    have hi' : q.map (·.block) = some i := by rwa [ownBlock_slice] at hi
    exact k.block i (h.lt i hi').2 (fun e => hg (by rw [← e]; exact hi')) (fun e => hp i e hi')⟩
theorem BoxV.mv {base k g : Nat} {p : Option Addr} {vs : List Value} {w w' : World} (h : BoxV w base k vs) (m : Mv w w' g p) (hg : k ≠ g) (hp : p.map (·.block) ≠ some k) : BoxV w' base k vs := by
  have hb := m.block k h.hi hg hp
  refine ⟨h.lo, Nat.lt_of_lt_of_le h.hi m.size, fun j v hv => (World.cell?_of_block hb).trans (h.c j v hv), fun j => ?_⟩
  have := h.f j
  simp only [World.frozen?, hb] at this ⊢
  exact this
theorem own_ne {E E' : TypeId} {K K' base base' n m cap cap' : Nat} {p q : Option Addr} {xs ys : List Value} {w : World} (h : w.ownsRow base E K (.slice p n cap) n xs) (h' : w.ownsRow base' E' K' (.slice q m cap') m ys) (hE : E ≠ E') : ∀ k, p.map (·.block) = some k → q.map (·.block) ≠ some k := by
  intro k hp hq
  rcases h.2 with ⟨hv, -⟩ | ⟨a, _, cur, hv, -, ha, -⟩
  · cases hv
    simp at hp
  · cases hv
    rcases h'.2 with ⟨hv, -⟩ | ⟨b, _, cur', hv, -, hb, -⟩
    · cases hv
      simp at hq
    · cases hv
      simp at hp hq
      subst hp
      subst hq
      rw [ha] at hb
      simp at hb
      exact hE hb.2

theorem erase_map {α β : Type} (f : α → β) : ∀ (l : List α) (i : Nat), (l.eraseIdx i).map f = (l.map f).eraseIdx i
  | [], _ => rfl
  | _ :: _, 0 => rfl
  | x :: l, i + 1 => by simp [erase_map f l i]
/-- A message's bytes on their way. -/
structure MailD where
  to : Int
  q : Option Addr
  cap : Nat
  b : List UInt8
abbrev mailL (d : MailD) : List Value := [.int .i64 d.to, .slice d.q d.b.length d.cap]
/-- The net at block g holds the mails ds. -/
structure NetV (w : World) (g : Nat) (p : Option Addr) (cap : Nat) (ds : List MailD) : Prop where
  box : BoxV w g g [.slice p ds.length cap]
  row : OwS 65 2 w (g + 1) p ds.length cap (ds.map mailL)
  own : ∀ d ∈ ds, OwP w (g + 1) d.q d.b.length d.cap d.b
  max : ds.length ≤ 400
  small : ∀ d ∈ ds, d.b.length ≤ 5294
theorem NetV.ext {w w' : World} {g cap : Nat} {p : Option Addr} {ds : List MailD} (h : NetV w g p cap ds) (k : Ext w w') : NetV w' g p cap ds :=
  ⟨h.box.ext k, h.row.ext k, fun d hd => (h.own d hd).ext k, h.max, h.small⟩
theorem NetV.pne {w : World} {g cap : Nat} {p : Option Addr} {ds : List MailD} (h : NetV w g p cap ds) : p.map (·.block) ≠ some g := fun e => by
  have := (h.row.lt g e).1
  omega
theorem NetV.plt {w : World} {g cap : Nat} {p : Option Addr} {ds : List MailD} (h : NetV w g p cap ds) : ∀ k, p.map (·.block) = some k → g + 1 ≤ k := fun k e => (h.row.lt k e).1
theorem NetV.qne {w : World} {g cap : Nat} {p : Option Addr} {ds : List MailD} (h : NetV w g p cap ds) {d : MailD} (hd : d ∈ ds) : d.q.map (·.block) ≠ some g := fun e => by
  have := ((h.own d hd).lt g e).1
  omega
theorem NetV.qp {w : World} {g cap : Nat} {p : Option Addr} {ds : List MailD} (h : NetV w g p cap ds) {d : MailD} (hd : d ∈ ds) : ∀ k, p.map (·.block) = some k → d.q.map (·.block) ≠ some k :=
  own_ne h.row.2.2 (h.own d hd).2 (by decide)
def inN (z : Int) (n : Nat) : Bool := decide (0 ≤ z) && decide (z < (n : Int))
theorem inN_nat {z : Int} {n : Nat} (h : inN z n = true) : ∃ i : Nat, z = (i : Int) ∧ i < n := by
  simp [inN] at h
  exact ⟨z.toNat, by omega, by omega⟩
theorem inN_of {i n : Nat} (h : i < n) : inN (i : Int) n = true := by simp [inN, h]
def toN (ds : List MailD) (z : Int) : Int := if inN z ds.length then (ds[z.toNat]?.map (·.to)).getD 0 else 0
def lookN (ds : List MailD) (z : Int) : List UInt8 := if inN z ds.length then (ds[z.toNat]?.map (·.b)).getD [] else []
def dropN (ds : List MailD) (z : Int) : List MailD := if inN z ds.length then ds.eraseIdx z.toNat else ds

set_option maxHeartbeats 4000000 in
/-- (*Net).Len -/
theorem nlen_any {w : World} {g cap : Nat} {p : Option Addr} {ds : List MailD} (h : NetV w g p cap ds) :
    Calls Try.prog 23 #[.pointer (some ⟨g, 0, none⟩)] w fun e w' => e = .returned (.int .i64 (ds.length : Int)) ∧ w = w' := by
  have c0 := h.box.c 0 _ rfl
  clear h
  go_enter Try.func23, Try.ntmps23
  go_wp2
  go_ret
  simp
set_option maxHeartbeats 4000000 in
/-- (*Net).has -/
theorem nhas_any {w : World} {g cap : Nat} {p : Option Addr} {ds : List MailD} (h : NetV w g p cap ds) (z : Int) :
    Calls Try.prog 36 #[.pointer (some ⟨g, 0, none⟩), .int .i64 z] w fun e w' => e = .returned (.bool (inN z ds.length)) ∧ w = w' := by
  have I := nlen_any h
  clear h
  by_cases hz : 0 ≤ z
  · have d1 : decide (0 ≤ z) = true := by simp [hz]
    go_enter Try.func36, Try.ntmps36
    go_wp2_with fail
    refine I.mono ?_
    rintro e w1 ⟨rfl, rfl⟩
    clear I
    go_wp2
    go_ret
    simp [inN, hz]
  · have d1 : decide (0 ≤ z) = false := by simp [hz]
    go_enter Try.func36, Try.ntmps36
    go_wp2
    go_ret
    simp [inN]
    omega
set_option maxHeartbeats 4000000 in
/-- (*Net).To -/
theorem nto_any {w : World} {g cap : Nat} {p : Option Addr} {ds : List MailD} (h : NetV w g p cap ds) (z : Int) :
    Calls Try.prog 24 #[.pointer (some ⟨g, 0, none⟩), .int .i64 z] w fun e w' => e = .returned (.int .i64 (toN ds z)) ∧ w = w' := by
  have I := nhas_any h z
  cases hz : inN z ds.length
  · rw [hz] at I
    have R : Hid (toN ds z = 0) := Lib.hid (by simp [toN, hz])
    clear hz h
    go_enter Try.func24, Try.ntmps24
    go_wp2_with fail
    refine I.mono ?_
    rintro e w1 ⟨rfl, rfl⟩
    clear I
    go_wp2
    go_ret
    rw [R.out]
    simp
  · rw [hz] at I
    obtain ⟨i, rfl, hi⟩ := inN_nat hz
    obtain ⟨b, o, hp, hc⟩ := h.row.sl.cells (by omega)
    have c0 := h.box.c 0 _ rfl
    subst hp
    have hd : (ds.map mailL)[i]? = some (mailL ds[i]) := by simp [hi]
    have c1 : w.cell? ⟨b, o + i * 2, none⟩ = some (.int .i64 ds[i].to) := hc i _ hd 0 _ rfl
    have R : Hid (toN ds i = ds[i].to) := Lib.hid (by simp [toN, hz, hi])
    have h1 : (i : Int) < (ds.length : Int) := by omega
    clear hz h hc hd
    go_enter Try.func24, Try.ntmps24
    go_wp2_with fail
    refine I.mono ?_
    rintro e w1 ⟨rfl, rfl⟩
    clear I
    go_wp2
    go_ret
    rw [R.out]
    simp
set_option maxHeartbeats 4000000 in
/-- (*Net).Look -/
theorem nlook_any {w : World} {g cap : Nat} {p : Option Addr} {ds : List MailD} (h : NetV w g p cap ds) (z : Int) :
    Calls Try.prog 19 #[.pointer (some ⟨g, 0, none⟩), .int .i64 z] w fun e w' => ∃ p' cap', e = .returned (.tuple #[.slice p' (lookN ds z).length cap', .bool (inN z ds.length)]) ∧ OwP w' w.heap.size p' (lookN ds z).length cap' (lookN ds z) ∧ Ext w w' := by
  have I := nhas_any h z
  cases hz : inN z ds.length
  · rw [hz] at I
    have R : Hid (lookN ds z = []) := Lib.hid (by simp [lookN, hz])
    clear hz h
    go_enter Try.func19, Try.ntmps19
    go_wp2_with fail
    refine I.mono ?_
    rintro e w1 ⟨rfl, rfl⟩
    clear I
    go_wp2
    go_ret2
    rw [R.out]
    exact ⟨none, 0, rfl, OwP.nil _ _, Ext.rfl' _⟩
  · rw [hz] at I
    obtain ⟨i, rfl, hi⟩ := inN_nat hz
    obtain ⟨b, o, hp, hc⟩ := h.row.sl.cells (by omega)
    have c0 := h.box.c 0 _ rfl
    subst hp
    have hd : (ds.map mailL)[i]? = some (mailL ds[i]) := by simp [hi]
    have c1 : w.cell? ⟨b, o + i * 2 + 1, none⟩ = some (.slice ds[i].q ds[i].b.length ds[i].cap) := hc i _ hd 1 _ rfl
    have R : Hid (lookN ds i = ds[i].b) := Lib.hid (by simp [lookN, hz, hi])
    have h1 : (i : Int) < (ds.length : Int) := by omega
    have C := clone_any (h.own ds[i] (by simp)).sl (by have := h.small ds[i] (by simp); omega)
    clear hz h hc hd
    go_enter Try.func19, Try.ntmps19
    go_wp2_with fail
    refine I.mono ?_
    rintro e w1 ⟨rfl, rfl⟩
    clear I
    go_wp2_with fail
    refine C.mono ?_
    rintro e w1 ⟨p', cap', rfl, H, X⟩
    clear C
    have H := Lib.hid H
    have X := Lib.hid X
    go_wp2
    go_ret2
    rw [R.out]
    exact ⟨p', cap', rfl, H.out, X.out⟩

set_option maxHeartbeats 4000000 in
/-- (*Net).Drop -/
theorem ndrop_any {w : World} {g cap : Nat} {p : Option Addr} {ds : List MailD} (h : NetV w g p cap ds) (z : Int) :
    Calls Try.prog 22 #[.pointer (some ⟨g, 0, none⟩), .int .i64 z] w fun e w' => e = .returned (.bool (inN z ds.length)) ∧ NetV w' g p cap (dropN ds z) ∧ Mv w w' g p := by
  have I := nhas_any h z
  cases hz : inN z ds.length
  · rw [hz] at I
    have R : Hid (dropN ds z = ds) := Lib.hid (by simp [dropN, hz])
    have D := Lib.hid h
    clear hz h
    go_enter Try.func22, Try.ntmps22
    go_wp2_with fail
    refine I.mono ?_
    rintro e w1 ⟨rfl, rfl⟩
    clear I
    go_wp2
    go_ret
    rw [R.out]
    exact ⟨rfl, D.out, Mv.refl _ _ _⟩
  · rw [hz] at I
    obtain ⟨i, rfl, hi⟩ := inN_nat hz
    obtain ⟨gr, hp⟩ : ∃ gr, p = some ⟨gr, 0, none⟩ := by
      rcases h.row.2.2.2 with ⟨hv, hn⟩ | ⟨gr, _, _, hv, -⟩
      · omega
      · cases hv
        exact ⟨gr, rfl⟩
    subst hp
    have c0 := h.box.c 0 _ rfl
    have f0 := h.box.f
    have hmx := h.max
    have ei : wrap64 ((i : Int) + 1) = ((i + 1 : Nat) : Int) := by unfold wrap64; omega
    have R : Hid (dropN ds i = ds.eraseIdx i) := Lib.hid (by simp [dropN, hz])
    have C := delete_any i hi h.row (by simp [mailL, Value.oneCell'])
    have D := Lib.hid h
    clear hz h hmx
    go_enter Try.func22, Try.ntmps22
    go_wp2_with fail
    refine I.mono ?_
    rintro e w1 ⟨rfl, rfl⟩
    clear I
    go_wp2_with fail
    refine C.mono ?_
    rintro e w1 ⟨rfl, H, X⟩
    clear C
    have hne : gr ≠ g := fun e => D.out.pne (by rw [e]; rfl)
    have B := (D.out.box.other X (by simpa using hne))
    have b0 := B.c 0 _ rfl
    have bf := B.f
    have B := Lib.hid B
    have H := Lib.hid H
    have X := Lib.hid X
    clear c0 f0
    go_wp2
    go_ret
    rw [R.out]
    have hl : (ds.eraseIdx i).length = ds.length - 1 := by rw [List.length_eraseIdx, if_pos hi]
    have M1 : Mv _ _ g (some ⟨gr, 0, none⟩) := Mv.row (p := some ⟨gr, 0, none⟩) X.out g
    have P := B.out.put 0 (.slice (some ⟨gr, 0, none⟩) (ds.length - 1) cap)
    have M2 := Mv.self (grown_put (grown_refl w1 (some g)) 0 (.slice (some ⟨gr, 0, none⟩) (ds.length - 1) cap)) (some ⟨gr, 0, none⟩)
    have H2 := H.out.kept (grown_put (grown_refl _ (some g)) 0 (.slice (some ⟨gr, 0, none⟩) (ds.length - 1) cap)) (fun k hk => by cases hk; simpa using hne)
    refine ⟨rfl, ⟨by rw [hl]; exact P, by rw [hl]; rw [erase_map]; exact H2, fun d hd => ?_, by have := D.out.max; omega, fun d hd => D.out.small d (List.mem_of_mem_eraseIdx hd)⟩, M1.tr M2⟩
    have hd' := List.mem_of_mem_eraseIdx hd
    exact (D.out.own d hd').mv (M1.tr M2) (D.out.qne hd') (D.out.qp hd')
set_option maxHeartbeats 4000000 in
/-- (*Net).Take -/
theorem ntake_any {w : World} {g cap : Nat} {p : Option Addr} {ds : List MailD} (h : NetV w g p cap ds) (z : Int) :
    Calls Try.prog 20 #[.pointer (some ⟨g, 0, none⟩), .int .i64 z] w fun e w' => ∃ p' cap', e = .returned (.tuple #[.slice p' (lookN ds z).length cap', .bool (inN z ds.length)]) ∧ OwP w' w.heap.size p' (lookN ds z).length cap' (lookN ds z) ∧ NetV w' g p cap (dropN ds z) ∧ Mv w w' g p := by
  have D := Lib.hid h
  clear h
  go_enter Try.func20, Try.ntmps20
  go_wp2_with fail
  refine (nlook_any D.out z).mono ?_
  rintro e w1 ⟨p', cap', rfl, H, X⟩
  have H := Lib.hid H
  have X := Lib.hid X
  go_wp2_with fail
  refine (ndrop_any (D.out.ext X.out) z).mono ?_
  rintro e w2 ⟨rfl, N, M⟩
  have N := Lib.hid N
  have M := Lib.hid M
  go_wp2
  go_ret2
  refine ⟨p', cap', rfl, H.out.mv M.out (fun e => ?_) (fun i hi e => ?_), N.out, (Mv.ext X.out g p).tr M.out⟩
  · have := (H.out.lt g e).1
    have := D.out.box.hi
    omega
  · have := (H.out.lt i e).1
    have := (D.out.row.lt i hi).2
    omega
set_option maxHeartbeats 4000000 in
/-- net.New -/
theorem nnew_any (w : World) : Calls Try.prog 15 #[] w fun e w' => e = .returned (.pointer (some ⟨w.heap.size, 0, none⟩)) ∧ NetV w' w.heap.size none 0 [] ∧ Ext w w' := by
  go_enter Try.func15, Try.ntmps15
  go_wp2
  go_ret
  exact ⟨rfl, ⟨BoxV.new w w.heap.size #[.slice none 0 0] [.slice none 0 0] 60 _ rfl (Nat.le_refl _) rfl, OwS.nil _ _ _ _, (fun d hd => by cases hd), by decide, fun d hd => by cases hd⟩, Ext.alloc w _⟩
end Go.Proofs.Ytgplmbchlahbkaa
