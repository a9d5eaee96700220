/-
  Contracts of the program's functions, in order. Conditions stand at each.
-/
import Derived.Deep.AppendLies
import Derived.Deep.RegionLaw
import Derived.Deep.CutBlock
import Derived.Deep.DeepCutAuto
import Derived.Test.YtjhbmbbmjaabcaaGreatRows
import Derived.Deep.AppendSrc
import Derived.ChangeKeysEq
import Derived.Maps.Own
import Derived.Lib.Bytealg
import Derived.Lib.SliceRun
import Derived.Maps.AppendAt
import Derived.Deep.MidRow
import Derived.Test.YtjhbmbbmjaabcaaGreatH1
set_option linter.unusedVariables false
set_option maxRecDepth 8000
set_option maxHeartbeats 8000000
namespace Go.Proofs.YtjhbmbbmjaabcaaGreat
section
open Go Go.RowKit
abbrev Ow:=Nat→Nat
def dcol (j:Nat):Nat:=if 1≤j∧j≤32∧2≤(j-1) % 4 then 32 * ((j-1) / 4)+13 else 1
def Cl (w:World) (o:Ow):Prop:=∀ i,w.heap.size≤i→o i=0
structure Fm (C:Nat→Prop) (o o':Ow) (w w':World):Prop where
 os:w'.os=w.os
 tape:w'.tape=w.tape
 output:w'.output=w.output
 size:w.heap.size≤w'.heap.size
 col:∀ i,i<w.heap.size→o' i=o i∨(o i≠1∧C (o i)∧o' i=0)
 blk:∀ i,i<w.heap.size→o i≠1→¬ C (o i)→w'.heap[i]?=w.heap[i]?
 cel:∀ i j,i<w.heap.size→o i=1→¬ C (dcol j)→w'.cell? ⟨i,j,none⟩=w.cell? ⟨i,j,none⟩
 frz:∀ i j,i<w.heap.size→o i=1→w'.frozen? ⟨i,j,none⟩=w.frozen? ⟨i,j,none⟩
 cl:Cl w' o'
theorem Fm.refl {C:Nat→Prop} {o:Ow} {w:World} (h:Cl w o):Fm C o o w w:=
 ⟨rfl,rfl,rfl,Nat.le_refl _,fun _ _=>.inl rfl,fun _ _ _ _=>rfl,fun _ _ _ _ _=>rfl,fun _ _ _ _=>rfl,h⟩
theorem Fm.ext {C:Nat→Prop} {o:Ow} {w w':World} (h:Cl w o) (k:Ext w w'):Fm C o o w w':=
 ⟨k.os,k.tape,k.output,k.size,fun _ _=>.inl rfl,fun i hi _ _=>k.block i hi,fun i j hi _ _=>World.cell?_of_block (k.block i hi),fun i j hi _=>World.frozen?_of_block (k.block i hi),fun i hi=>h i (Nat.le_trans k.size hi)⟩
theorem Fm.tr {C:Nat→Prop} {o o1 o2:Ow} {a b c:World} (h:Fm C o o1 a b) (k:Fm C o1 o2 b c) (h0:¬ C 0):Fm C o o2 a c:=by
 have hs:=h.size
 refine ⟨k.os.trans h.os,k.tape.trans h.tape,k.output.trans h.output,Nat.le_trans h.size k.size,fun i hi=>?_,fun i hi h1 hc=>?_,fun i j hi h1 hc=>?_,fun i j hi h1=>?_,k.cl⟩
 ·rcases h.col i hi with e | ⟨e1,e2,e3⟩
  ·rcases k.col i (by omega) with f | f
   ·exact .inl (f.trans e)
   ·rw [e] at f
    exact .inr f
  ·rcases k.col i (by omega) with f | ⟨f1,f2,f3⟩
   ·exact .inr ⟨e1,e2,f.trans e3⟩
   ·rw [e3] at f2
    exact absurd f2 h0
 ·have e:o1 i=o i:=by
   rcases h.col i hi with e | ⟨-,e2,-⟩
   ·exact e
   ·exact absurd e2 hc
  exact (k.blk i (by omega) (by rw [e];exact h1) (by rw [e];exact hc)).trans (h.blk i hi h1 hc)
 ·have e:o1 i=1:=by
   rcases h.col i hi with e | ⟨e1,-,-⟩
   ·exact e.trans h1
   ·exact absurd h1 e1
  exact (k.cel i j (by omega) e hc).trans (h.cel i j hi h1 hc)
 ·have e:o1 i=1:=by
   rcases h.col i hi with e | ⟨e1,-,-⟩
   ·exact e.trans h1
   ·exact absurd h1 e1
  exact (k.frz i j (by omega) e).trans (h.frz i j hi h1)
theorem Fm.mono {C C':Nat→Prop} {o o':Ow} {w w':World} (h:Fm C o o' w w') (hc:∀ c,C c→C' c):Fm C' o o' w w':=
 ⟨h.os,h.tape,h.output,h.size,fun i hi=>(h.col i hi).imp id (fun ⟨a,b,c⟩=>⟨a,hc _ b,c⟩),fun i hi h1 h2=>h.blk i hi h1 (fun e=>h2 (hc _ e)),fun i j hi h1 h2=>h.cel i j hi h1 (fun e=>h2 (hc _ e)),h.frz,h.cl⟩
def dye (o:Ow) (b c:Nat):Ow:=fun i=>if i=b then c else o i
theorem dye_same (o:Ow) (b c:Nat):dye o b c b=c:=by simp [dye]
theorem dye_other {o:Ow} {b c i:Nat} (h:i≠b):dye o b c i=o i:=by simp [dye,h]
theorem Fm.paint {C:Nat→Prop} {o o':Ow} {w w':World} (h:Fm C o o' w w') {b:Nat} (c:Nat) (hb:w.heap.size≤b) (hb':b<w'.heap.size):Fm C o (dye o' b c) w w':=
 ⟨h.os,h.tape,h.output,h.size,fun i hi=>by rw [dye_other (by omega)];exact h.col i hi,h.blk,h.cel,h.frz,fun i hi=>by rw [dye_other (by omega)];exact h.cl i hi⟩
theorem Fm.free {C:Nat→Prop} {o o':Ow} {w w':World} (h:Fm C o o' w w') {b:Nat} (h1:o' b≠1) (hc:C (o' b)):Fm C o (dye o' b 0) w w':=
 ⟨h.os,h.tape,h.output,h.size,fun i hi=>by
  by_cases e:i=b
  ·subst e
   rcases h.col i hi with f | ⟨f1,f2,f3⟩
   ·rw [f] at h1 hc
    exact .inr ⟨h1,hc,dye_same _ _ _⟩
   ·exact .inr ⟨f1,f2,dye_same _ _ _⟩
  ·rw [dye_other e]
   exact h.col i hi,h.blk,h.cel,h.frz,fun i hi=>by
  by_cases e:i=b
  ·subst e
   exact dye_same _ _ _
  ·rw [dye_other e]
   exact h.cl i hi⟩
theorem Fm.grown {C:Nat→Prop} {o:Ow} {w w':World} {row:Option Nat} (h:Cl w o) (k:w.grownBy w' row) (hr:∀ g,row=some g→o g≠1∧C (o g)):Fm C o o w w':=
 ⟨k.os,k.tape,k.output,k.size,fun _ _=>.inl rfl,fun i hi _ hc=>k.block i hi (fun e=>hc (hr i e.symm).2),fun i j hi h1 _=>World.cell?_of_block (k.block i hi (fun e=>(hr i e.symm).1 h1)),fun i j hi h1=>World.frozen?_of_block (k.block i hi (fun e=>(hr i e.symm).1 h1)),fun i hi=>h i (Nat.le_trans k.size hi)⟩
theorem Fm.cell1 {C:Nat→Prop} {o:Ow} {w:World} (h:Cl w o) {g j:Nat} (v:Value) (h1:o g=1) (hc:C (dcol j)):Fm C o o w (w.setCell ⟨g,j,none⟩ v):=by
 have G:=grown_put (grown_refl w (some g)) j v
 refine ⟨G.os,G.tape,G.output,G.size,fun _ _=>.inl rfl,fun i hi h2 _=>G.block i hi (fun e=>by cases e;exact h2 h1),fun i k hi h2 hk=>?_,fun i k hi h2=>by simp,fun i hi=>h i (Nat.le_trans G.size hi)⟩
 by_cases e:i=g∧k=j
 ·obtain ⟨rfl,rfl⟩:=e
  exact absurd hc hk
 ·exact World.cell?_setCell_other (h:=by simp <;> omega) ..
theorem Fm.all {C:Nat→Prop} {o':Ow} {w w':World} (h:Fm C (fun _=>0) o' w w') (h0:¬ C 0):Below w.heap.size w w':=
 ⟨h.os,h.tape,h.output,h.size,fun i hi=>h.blk i hi (by decide) h0⟩
theorem Fm.drew {C:Nat→Prop} {o:Ow} {w:World} (h:Cl w o):Fm C o o w w.drew:=Fm.ext h (Ext.drew w)
theorem Cl.ext {o:Ow} {w w':World} (h:Cl w o) (k:Ext w w'):Cl w' o:=fun i hi=>h i (Nat.le_trans k.size hi)
theorem Fm.at {C:Nat→Prop} {o o':Ow} {w w':World} (h:Fm C o o' w w') {i:Nat} (hi:i<w.heap.size) (hc:¬ C (o i)):o' i=o i:=by
 rcases h.col i hi with e | ⟨-,e2,-⟩
 ·exact e
 ·exact absurd e2 hc
structure BoxC (w:World) (o:Ow) (c g:Nat) (vs:List Value):Prop where
 col:o g=c
 box:BoxV w 0 g vs
theorem BoxC.fr {C:Nat→Prop} {w w':World} {o o':Ow} {c g:Nat} {vs:List Value} (h:BoxC w o c g vs) (k:Fm C o o' w w') (h1:c≠1) (hc:¬ C c):BoxC w' o' c g vs:=by
 have hb:=k.blk g h.box.hi (by rw [h.col];exact h1) (by rw [h.col];exact hc)
 refine ⟨(k.at h.box.hi (by rw [h.col];exact hc)).trans h.col,h.box.lo,Nat.lt_of_lt_of_le h.box.hi k.size,fun j v hv=>(World.cell?_of_block hb).trans (h.box.c j v hv),fun j=>?_⟩
 have:=h.box.f j
 simp only [World.frozen?,hb] at this ⊢
 exact this
theorem BoxC.ext {w w':World} {o:Ow} {c g:Nat} {vs:List Value} (h:BoxC w o c g vs) (k:Ext w w'):BoxC w' o c g vs:=⟨h.col,h.box.ext k⟩
theorem BoxC.put {w:World} {o:Ow} {c g:Nat} {vs:List Value} (h:BoxC w o c g vs) (j:Nat) (v:Value):BoxC (w.setCell ⟨g,j,none⟩ v) o c g (vs.set j v):=⟨h.col,h.box.put j v⟩
theorem BoxC.paint {w:World} {o:Ow} {c g b d:Nat} {vs:List Value} (h:BoxC w o c g vs) (hb:g≠b):BoxC w (dye o b d) c g vs:=⟨(dye_other hb).trans h.col,h.box⟩
structure RowC (E:TypeId) (K:Nat) (w:World) (o:Ow) (c:Nat) (p:Option Addr) (n cap:Nat) (L:List (List Value)):Prop where
 row:OwS E K w 0 p n cap L
 col:∀ k,p.map (·.block)=some k→o k=c
theorem OwS.fr {E:TypeId} {K:Nat} {C:Nat→Prop} {w w':World} {o o':Ow} {base:Nat} {p:Option Addr} {n cap:Nat} {L:List (List Value)} (h:OwS E K w base p n cap L) (k:Fm C o o' w w') (hc:∀ i,p.map (·.block)=some i→o i≠1∧¬ C (o i)):OwS E K w' base p n cap L:=by
 refine ⟨h.1,h.2.1,h.2.2.1,?_⟩
 rcases h.2.2.2 with hn | ⟨g,c,cur,hv,hb,hg,r⟩
 ·exact .inl hn
 ·have hp:p.map (·.block)=some g:=by
   cases hv
   rfl
  have hlt:g<w.heap.size:=(h.lt g hp).2
  obtain ⟨h1,h2⟩:=hc g hp
  exact .inr ⟨g,c,cur,hv,hb,by rw [k.blk g hlt h1 h2];exact hg,r⟩
theorem RowC.fr {E:TypeId} {K:Nat} {C:Nat→Prop} {w w':World} {o o':Ow} {c:Nat} {p:Option Addr} {n cap:Nat} {L:List (List Value)} (h:RowC E K w o c p n cap L) (k:Fm C o o' w w') (h1:c≠1) (hc:¬ C c):RowC E K w' o' c p n cap L:=
 ⟨h.row.fr k (fun i hi=>by rw [h.col i hi];exact ⟨h1,hc⟩),fun i hi=>(k.at (h.row.lt i hi).2 (by rw [h.col i hi];exact hc)).trans (h.col i hi)⟩
theorem RowC.ext {E:TypeId} {K:Nat} {w w':World} {o:Ow} {c:Nat} {p:Option Addr} {n cap:Nat} {L:List (List Value)} (h:RowC E K w o c p n cap L) (k:Ext w w'):RowC E K w' o c p n cap L:=⟨h.row.ext k,h.col⟩
theorem RowC.nil (E:TypeId) (K:Nat) (w:World) (o:Ow) (c:Nat):RowC E K w o c none 0 0 []:=⟨OwS.nil _ _ _ _,fun k hk=>by cases hk⟩
theorem RowC.paint {E:TypeId} {K:Nat} {w:World} {o:Ow} {c b d:Nat} {p:Option Addr} {n cap:Nat} {L:List (List Value)} (h:RowC E K w o c p n cap L) (hb:p.map (·.block)≠some b):RowC E K w (dye o b d) c p n cap L:=
 ⟨h.row,fun k hk=>(dye_other (fun e=>hb (by rw [← e];exact hk))).trans (h.col k hk)⟩
structure SlC (K:Nat) (w:World) (o:Ow) (p:Option Addr) (n cap:Nat) (L:List (List Value)):Prop where
 sl:SlS K w p n cap L
 lt:∀ k,p.map (·.block)=some k→k<w.heap.size∧o k=0
theorem SlS.fr {K:Nat} {C:Nat→Prop} {w w':World} {o o':Ow} {p:Option Addr} {n cap:Nat} {L:List (List Value)} (h:SlS K w p n cap L) (k:Fm C o o' w w') (hc:∀ i,p.map (·.block)=some i→i<w.heap.size∧o i≠1∧¬ C (o i)):SlS K w' p n cap L:=
 ⟨h.len,h.le,h.max,h.nil,h.wid,fun hn=>by
  obtain ⟨b,f,rfl,hh⟩:=h.cells hn
  obtain ⟨h0,h1,h2⟩:=hc b rfl
  exact ⟨b,f,rfl,fun i x hx j v hv=>by
   have:=hh i x hx j v hv
   rwa [World.cell?_of_block (k.blk b h0 h1 h2)]⟩⟩
theorem SlC.fr {K:Nat} {C:Nat→Prop} {w w':World} {o o':Ow} {p:Option Addr} {n cap:Nat} {L:List (List Value)} (h:SlC K w o p n cap L) (k:Fm C o o' w w') (h0:¬ C 0):SlC K w' o' p n cap L:=
 ⟨h.sl.fr k (fun i hi=>by obtain ⟨a,b⟩:=h.lt i hi;rw [b];exact ⟨a,by decide,h0⟩),fun i hi=>by
  obtain ⟨a,b⟩:=h.lt i hi
  exact ⟨Nat.lt_of_lt_of_le a k.size,(k.at a (by rw [b];exact h0)).trans b⟩⟩
theorem SlC.ext {K:Nat} {w w':World} {o:Ow} {p:Option Addr} {n cap:Nat} {L:List (List Value)} (h:SlC K w o p n cap L) (k:Ext w w'):SlC K w' o p n cap L:=⟨h.sl.ext k,fun i hi=>⟨Nat.lt_of_lt_of_le (h.lt i hi).1 k.size,(h.lt i hi).2⟩⟩
theorem SlC.empty (K:Nat) (w:World) (o:Ow):SlC K w o none 0 0 []:=⟨SlS.empty K w,fun k hk=>by cases hk⟩
theorem SlC.fresh {E:TypeId} {K base:Nat} {w w':World} {o:Ow} {p:Option Addr} {n cap:Nat} {L:List (List Value)} (h:OwS E K w' base p n cap L) (hc:Cl w o) (hb:w.heap.size≤base):SlC K w' o p n cap L:=
 ⟨h.sl,fun k hk=>⟨(h.lt k hk).2,hc k (Nat.le_trans hb (h.lt k hk).1)⟩⟩
theorem SlC.paint {K:Nat} {w:World} {o:Ow} {b d:Nat} {p:Option Addr} {n cap:Nat} {L:List (List Value)} (h:SlC K w o p n cap L) (hb:p.map (·.block)≠some b):SlC K w (dye o b d) p n cap L:=
 ⟨h.sl,fun k hk=>⟨(h.lt k hk).1,(dye_other (fun e=>hb (by rw [← e];exact hk))).trans (h.lt k hk).2⟩⟩
end
section
open Go Go.RowKit
theorem Fm.put {C:Nat→Prop} {o:Ow} {w:World} {c g:Nat} {vs:List Value} (h:Cl w o) (b:BoxC w o c g vs) (h1:c≠1) (hc:C c) (j:Nat) (v:Value):Fm C o o w (w.setCell ⟨g,j,none⟩ v):=
 Fm.grown h (grown_put (grown_refl w (some g)) j v) (fun k hk=>by cases hk;rw [b.col];exact ⟨h1,hc⟩)
theorem Fm.fill {C:Nat→Prop} {o:Ow} {w:World} {c g:Nat} {vs us:List Value} (h:Cl w o) (b:BoxC w o c g vs) (h1:c≠1) (hc:C c):Fm C o o w (fillV w g 0 us):=
 Fm.grown h (fillV_grown g us 0 w w (grown_refl w (some g))) (fun k hk=>by cases hk;rw [b.col];exact ⟨h1,hc⟩)
theorem BoxC.fill {w:World} {o:Ow} {c g:Nat} {us vs:List Value} (h:BoxC w o c g us) (hl:vs.length≤us.length):BoxC (fillV w g 0 vs) o c g vs:=⟨h.col,h.box.fill hl⟩
theorem BoxC.made (w:World) (o:Ow) (c:Nat) (cur:Array Value) (vs:List Value) (t:TypeId) (hc:cur.toList=vs):BoxC (w.alloc (.cells cur t)) (dye o w.heap.size c) c w.heap.size vs:=
 ⟨dye_same _ _ _,BoxV.new w 0 cur vs t _ rfl (Nat.zero_le _) hc⟩
theorem Fm.made {C:Nat→Prop} {o:Ow} {w:World} (h:Cl w o) (b:Obj) (c:Nat):Fm C o (dye o w.heap.size c) w (w.alloc b):=
 (Fm.ext h (Ext.alloc w b)).paint c (Nat.le_refl _) (by simp)
theorem news_at {w:World} {cur:Array Value} {t:TypeId} {vs:List Value} (hc:cur.toList=vs):∀ (j:Nat) (u:Value),vs[j]?=some u→(w.alloc (.cells cur t)).cell? ⟨w.heap.size,j,none⟩=some u:=fun j u hu=>by
 rw [World.cell?_alloc_mark,← Array.getElem?_toList,hc,hu]
section
variable {P:Program} {w:World}
theorem row_append {E:TypeId} {K:Nat} {o:Ow} {c n cap:Nat} {p:Option Addr} {L:List (List Value)} {r:List Value} {C:Nat→Prop} {g cap':Nat} {w':World} (hcl:Cl w o) (row:RowC E K w o c p n cap L) (hr:r.length=K) (h1:c≠1) (hC:C c)
  (h2:w'.ownsRow 0 E K (.slice (some ⟨g,0,none⟩) (n+1) cap') (n+1) (L.flatten++r)) (h3:w.grownBy w' (Value.slice p n cap).ownBlock) (h4:(Value.slice p n cap).ownBlock=some g∨g=w.heap.size) (h5:g<w'.heap.size) :
  ∃ o',RowC E K w' o' c (some ⟨g,0,none⟩) (n+1) cap' (L++[r])∧Fm C o o' w w':=by
 rw [ownBlock_slice] at h3 h4
 have hF:Fm C o o w w':=Fm.grown hcl h3 (fun k hk=>by rw [row.col k hk];exact ⟨h1,hC⟩)
 refine ⟨dye o g c,⟨⟨by simp [row.row.1],fun x hx=>?_,?_⟩,fun k hk=>?_⟩,?_⟩
 ·rcases List.mem_append.1 hx with hx | hx
  ·exact row.row.2.1 x hx
  ·simp at hx
   subst hx
   exact hr
 ·have e:(L++[r]).flatten=L.flatten++r:=by simp
  rw [e]
  exact h2
 ·simp at hk
  subst hk
  exact dye_same _ _ _
 ·rcases h4 with h4 | h4
  ·have hg:=row.col g h4
   have:dye o g c=o:=by
    funext i
    unfold dye
    split
    ·rename_i e
     subst e
     exact hg.symm
    ·rfl
   rw [this]
   exact hF
  ·exact hF.paint c (by omega) h5
theorem step_appC {ops:Array Oper} {op:Oper} {a:Act} {K':Act→World→Prop} {Q:Exit→Act→World→Prop} {F:Prop} (hgd:op.guard=none) (s x:Operand) (t:TypeId)
  (ho:op.op=.call { callee:=.builtin .append,args:=#[s,x],argTypes:=#[t,t] })
  (E:TypeId) (K bytes:Nat) (z:Value) (ht:P.underlying t=some (.slice E)) (hi:(P.info? E).map (fun i=>(i.zero,i.size,i.bytes))=some (some z,K,bytes)) (hzs:z.cells.size=K) (hK:0<K)
  {o:Ow} {c n cap:Nat} {p:Option Addr} {L:List (List Value)} (hcl:Cl w o) (row:RowC E K w o c p n cap L) (hs:a.eval s=.slice p n cap)
  (B cc:Nat) (r:List Value) (hx:a.eval x=.slice (some ⟨B,0,none⟩) 1 cc) (hr:r.length=K) (hnews:∀ j u,r[j]?=some u→w.cell? ⟨B,j,none⟩=some u) (hone:∀ u ∈ r,u.oneCell'=true)
  (hn:n≤1000000) (hb:bytes≤100000) (h1:c≠1) (C:Nat→Prop) (hC:C c)
  (h:∀ p' cap' o' w',RowC E K w' o' c p' (n+1) cap' (L++[r])→Fm C o o' w w'→K' (a.put op.dst (.slice p' (n+1) cap')) w') :
  if Region.wanted op (yielded ops a.tmps)=true then Oper.wp P op a w K' Q else F:=by
 cases hi':P.info? E with
 | none=>rw [hi'] at hi;cases hi
 | some i=>
  rw [hi'] at hi
  simp at hi
  obtain ⟨hz,hsz,hby⟩:=hi
  refine step_append_lies w hgd s x t ho 0 E i z K bytes ht hi' hz hsz hby hzs hK (.slice p n cap) n L.flatten hs row.row.2.2 ⟨B,0,none⟩ 1 cc r hx (by omega) (fun j u hj=>?_) hone (by omega) (by unfold maxLen;omega) ?_ (Nat.zero_le _) w.heap.size rfl (fun g cap' w' h2 h3 h4 h5=>?_)
  ·have:(⟨B,0,none⟩:Addr).add j=⟨B,j,none⟩:=by unfold Addr.add;split <;> simp_all
   rw [this]
   exact hnews j u hj
  ·calc (n+1) * bytes≤1000001 * 100000:=Nat.mul_le_mul (by omega) hb
    _≤140737488355328:=by decide
  ·obtain ⟨o',R,M⟩:=row_append hcl row hr h1 hC h2 h3 h4 h5
   exact h _ cap' o' w' R M
theorem wpList_appC {ops:Array Oper} {rest:List Oper} {op:Oper} {a:Act} {Q:Exit→Act→World→Prop} (hgd:op.guard=none) (s x:Operand) (t:TypeId)
  (ho:op.op=.call { callee:=.builtin .append,args:=#[s,x],argTypes:=#[t,t] })
  (E:TypeId) (K bytes:Nat) (z:Value) (ht:P.underlying t=some (.slice E)) (hi:(P.info? E).map (fun i=>(i.zero,i.size,i.bytes))=some (some z,K,bytes)) (hzs:z.cells.size=K) (hK:0<K)
  {o:Ow} {c n cap:Nat} {p:Option Addr} {L:List (List Value)} (hcl:Cl w o) (row:RowC E K w o c p n cap L) (hs:a.eval s=.slice p n cap)
  (B cc:Nat) (r:List Value) (hx:a.eval x=.slice (some ⟨B,0,none⟩) 1 cc) (hr:r.length=K) (hnews:∀ j u,r[j]?=some u→w.cell? ⟨B,j,none⟩=some u) (hone:∀ u ∈ r,u.oneCell'=true)
  (hn:n≤1000000) (hb:bytes≤100000) (h1:c≠1) (C:Nat→Prop) (hC:C c)
  (h:∀ p' cap' o' w',RowC E K w' o' c p' (n+1) cap' (L++[r])→Fm C o o' w w'→wpList P ops Q rest (a.put op.dst (.slice p' (n+1) cap')) w') :
  wpList P ops Q (op::rest) a w:=by
 cases hi':P.info? E with
 | none=>rw [hi'] at hi;cases hi
 | some i=>
  rw [hi'] at hi
  simp at hi
  obtain ⟨hz,hsz,hby⟩:=hi
  refine wpList_append_lies w hgd s x t ho 0 E i z K bytes ht hi' hz hsz hby hzs hK (.slice p n cap) n L.flatten hs row.row.2.2 ⟨B,0,none⟩ 1 cc r hx (by omega) (fun j u hj=>?_) hone (by omega) (by unfold maxLen;omega) ?_ (Nat.zero_le _) w.heap.size rfl (fun g cap' w' h2 h3 h4 h5=>?_)
  ·have:(⟨B,0,none⟩:Addr).add j=⟨B,j,none⟩:=by unfold Addr.add;split <;> simp_all
   rw [this]
   exact hnews j u hj
  ·calc (n+1) * bytes≤1000001 * 100000:=Nat.mul_le_mul (by omega) hb
    _≤140737488355328:=by decide
  ·obtain ⟨o',R,M⟩:=row_append hcl row hr h1 hC h2 h3 h4 h5
   exact h _ cap' o' w' R M
end
theorem Fm.back {C:Nat→Prop} {o o':Ow} {w w':World} (h:Fm C o o' w w') {g c:Nat} (hg:g<w.heap.size) (hc:o g=c) (h1:c≠1) (hC:C c) (j:Nat) (v:Value):Fm C o (dye o' g c) w (w'.setCell ⟨g,j,none⟩ v):=by
 have G:=grown_put (grown_refl w' (some g)) j v
 refine ⟨G.os.trans h.os,G.tape.trans h.tape,G.output.trans h.output,Nat.le_trans h.size G.size,fun i hi=>?_,fun i hi h2 h3=>?_,fun i k hi h2 h3=>?_,fun i k hi h2=>?_,fun i hi=>?_⟩
 ·by_cases e:i=g
  ·subst e
   rw [dye_same]
   exact .inl hc.symm
  ·rw [dye_other e]
   exact h.col i hi
 ·have hne:i≠g:=fun e=>by subst e;rw [hc] at h3;exact h3 hC
  exact (G.block i (Nat.lt_of_lt_of_le hi h.size) (fun e=>hne (by cases e;rfl))).trans (h.blk i hi h2 h3)
 ·have hne:i≠g:=fun e=>by subst e;rw [hc] at h2;exact h1 h2
  exact (World.cell?_of_block (G.block i (Nat.lt_of_lt_of_le hi h.size) (fun e=>hne (by cases e;rfl)))).trans (h.cel i k hi h2 h3)
 ·have hne:i≠g:=fun e=>by subst e;rw [hc] at h2;exact h1 h2
  exact (World.frozen?_of_block (G.block i (Nat.lt_of_lt_of_le hi h.size) (fun e=>hne (by cases e;rfl)))).trans (h.frz i k hi h2)
 ·have:i≠g:=fun e=>by
   have:=h.size
   have:=G.size
   omega
  rw [dye_other this]
  exact h.cl i (Nat.le_trans G.size hi)
theorem SlC.drop {K:Nat} {w:World} {o:Ow} {p:Option Addr} {n cap:Nat} {L:List (List Value)} (h:SlC K w o p n cap L) (k:Nat) (hk:k≤n):SlC K w o (tailS K p cap k) (n-k) (cap-k) (L.drop k):=
 ⟨h.sl.drop k hk,fun i hi=>h.lt i (by
  unfold tailS at hi
  split at hi
  ·exact hi
  ·cases p with
   | none=>simp at hi
   | some a=>simp [Addr.add] at hi ⊢;split at hi <;> exact hi)⟩
theorem app_done {C:Nat→Prop} {E:TypeId} {K:Nat} {w0 w w4:World} {o0 o o4:Ow} {c d g j n cap:Nat} {p:Option Addr} {vs:List Value} {L:List (List Value)} (h0:¬ C 0) (M0:Fm C o0 o w0 w) (B:BoxC w4 o4 c g vs) (f4:Fm (fun x=>x=d) o o4 w w4) (r4:RowC E K w4 o4 d p n cap L) (h1:c≠1) (h2:d≠1) (hc:C c) (hd:C d) (hne:d≠c) (v:Value) :
  BoxC (w4.setCell ⟨g,j,none⟩ v) o4 c g (vs.set j v)∧RowC E K (w4.setCell ⟨g,j,none⟩ v) o4 d p n cap L∧Fm C o0 o4 w0 (w4.setCell ⟨g,j,none⟩ v):=
 ⟨B.put j v,r4.fr (Fm.put (C:=fun x=>x=c) f4.cl B h1 rfl j v) h2 hne,(M0.tr (f4.mono (fun x hx=>by rw [hx];exact hd)) h0).tr (Fm.put f4.cl B h1 hc j v) h0⟩
end
section
open Go Go.RowKit
theorem enter_of {P : Program} {k : FuncId} {fn : Func} (hf : P.funcs[k]? = some fn) (hn : (fn.name == "runtime.NumGoroutine") = false) (hb : fn.body.isNone = false) : ∀ (args : Array Value) (w : World), (callFunc k args).run P w = .ok (.enter k args) w := by
 intro args w
 have h1 : ¬ fn.name = "runtime.NumGoroutine" := by simpa using hn
 have h2:¬ fn.body=none:=by
  intro e
  rw [e] at hb
  simp at hb
 simp [callFunc,hf,h1,h2]
structure LogP (w:World) (o:Ow) (c g:Nat) (p:Option Addr) (cap:Nat) (L:List EnD):Prop where
 box:BoxC w o c g [.slice p L.length cap]
 row:RowC 71 7 w o (c+1) p L.length cap (L.map enL)
 max:L.length≤60
 ok:∀ e ∈ L,EnOk e
def LogV (w:World) (o:Ow) (c g:Nat) (L:List EnD):Prop:=∃ p cap,LogP w o c g p cap L
theorem LogP.fr {C:Nat→Prop} {w w':World} {o o':Ow} {c g cap:Nat} {p:Option Addr} {L:List EnD} (h:LogP w o c g p cap L) (k:Fm C o o' w w') (h1:1<c) (hc:¬ C c) (hc':¬ C (c+1)):LogP w' o' c g p cap L:=
 ⟨h.box.fr k (by omega) hc,h.row.fr k (by omega) hc',h.max,h.ok⟩
theorem LogP.ext {w w':World} {o:Ow} {c g cap:Nat} {p:Option Addr} {L:List EnD} (h:LogP w o c g p cap L) (k:Ext w w'):LogP w' o c g p cap L:=⟨h.box.ext k,h.row.ext k,h.max,h.ok⟩
theorem LogV.fr {C:Nat→Prop} {w w':World} {o o':Ow} {c g:Nat} {L:List EnD} (h:LogV w o c g L) (k:Fm C o o' w w') (h1:1<c) (hc:¬ C c) (hc':¬ C (c+1)):LogV w' o' c g L:=by
 obtain ⟨p,cap,h⟩:=h
 exact ⟨p,cap,h.fr k h1 hc hc'⟩
theorem LogV.ext {w w':World} {o:Ow} {c g:Nat} {L:List EnD} (h:LogV w o c g L) (k:Ext w w'):LogV w' o c g L:=by
 obtain ⟨p,cap,h⟩:=h
 exact ⟨p,cap,h.ext k⟩
theorem llen_any {w:World} {o:Ow} {c g:Nat} {L:List EnD} (h:LogV w o c g L) :
  Calls Tryz.prog 99 #[.pointer (some ⟨g,0,none⟩)] w fun e w'=>e=.returned (.int .i64 (L.length:Int))∧w=w':=by
 obtain ⟨p,cap,h⟩:=h
 have c0:=h.box.box.c 0 _ rfl
 clear h
 go_enter Tryz.func99,Tryz.ntmps99
 go_wp2
 go_ret
 exact ⟨rfl,rfl⟩
theorem lhas1_any {w:World} {g:Nat} {x e:EnD} (h:EnBox w g e) :
  Calls Tryz.prog 202 #[enV x,.pointer (some ⟨g,0,none⟩)] w fun r w'=>r=.returned (.bool (sameB x e))∧Ext w w':=by
 have B1:=hI (h.ext (Ext.alloc w (.cells (enA x) 71)))
 obtain ⟨f1,f2,f3,f4,f5,f6,fd⟩:=x
 obtain ⟨g1,g2,g3,g4,g5,g6,gd⟩:=e
 have B0:=hI (EnBox.new w ⟨f1,f2,f3,f4,f5,f6,fd⟩ 71)
 clear h
 have ⟨c0,c1,c2,c3,c4,c5,c6⟩:=B0.o
 have ⟨d0,d1,d2,d3,d4,d5,d6⟩:=B1.o
 simp only at c0 c1 c2 c3 c4 c5 c6 d0 d1 d2 d3 d4 d5 d6
 go_enter Tryz.func202,Tryz.ntmps202
 go_wp2_with fail
 refine (same_any (a:=⟨f1,f2,f3,f4,f5,f6,fd⟩) (b:=⟨g1,g2,g3,g4,g5,g6,gd⟩)).mono ?_
 rintro r w2 ⟨rfl,x2⟩
 have X2:=hI ((Ext.alloc w (.cells (enA ⟨f1,f2,f3,f4,f5,f6,fd⟩) 71)).tr x2)
 clear x2
 go_wp2
 go_ret
 exact ⟨rfl,X2.o⟩
theorem indexf_any {w:World} {p:Option Addr} {n cap k:Nat} {L:List EnD} {a:Value} {f:EnD→Bool} (h:SlS 7 w p n cap (L.map enL)) (hen:∀ (args:Array Value) (w:World),(callFunc k args).run Tryz.prog w=.ok (.enter k args) w) (hF:∀ e w',Ext w w'→Calls Tryz.prog k #[enV e,a] w' fun r w2=>r=.returned (.bool (f e))∧Ext w' w2) :
  Calls Tryz.prog 165 #[.slice p n cap,.func (.func k) #[] #[a]] w fun e w'=>(∃ z:Int,e=.returned (.int .i64 z)∧(decide (0≤z))=L.any f)∧Ext w w':=by
 have hn:n≤9223372036854775807:=Nat.le_trans h.le h.max
 have N:=hI (en_len h)
 have S:=hI h
 have HF:=hI hF
 clear h hF
 go_enter Tryz.func165,Tryz.ntmps165
 go_wp2
 go_loopw [8] (fun i wr=>∃ k:Nat,k≤n∧i=.int .i64 (k:Int)∧(L.take k).any f=false∧Ext w wr) (fun i _=>n-(intOf i).toNat)
 case atStart=>exact ⟨0,by omega,rfl,rfl,Ext.rfl' _⟩
 case round=>
  obtain ⟨k,hk,rfl,ht,x1⟩:=hrel
  have T:=hI ht
  have X:=hI x1
  clear ht x1
  by_cases hlt:k<n
  ·obtain ⟨b,o,e,hp,hx,c0,c1,c2,c3,c4,c5,c6⟩:=en_at (S.o.ext X.o) k hlt
   have HX:=hI hx
   clear hx
   subst hp
   obtain ⟨f1,f2,f3,f4,f5,f6,dat⟩:=e
   simp only at c0 c1 c2 c3 c4 c5 c6
   have ME:=hI (HF.o ⟨f1,f2,f3,f4,f5,f6,dat⟩ _ X.o)
   cases he:f ⟨f1,f2,f3,f4,f5,f6,dat⟩
   ·have T2:Hid ((L.take (k+1)).any f=false):=hI (by
     rw [List.take_add_one,HX.o,List.any_append,T.o]
     simp [he])
    rw [he] at ME
    clear he
    go_wp2_with fail
    refine ME.o.mono ?_
    rintro e w4 ⟨rfl,x4⟩
    have X4:=hI (X.o.tr x4)
    clear x4
    go_wp2
    go_roundw
    case rel=>exact ⟨k+1,by omega,by go_num,T2.o,X4.o⟩
    case measure=>simp [intOf];omega
   ·have hB:Hid (L.any f=true):=hI (by
     rw [List.any_eq_true]
     exact ⟨_,List.mem_of_getElem? HX.o,he⟩)
    rw [he] at ME
    clear he
    go_wp2_with fail
    refine ME.o.mono ?_
    rintro e w4 ⟨rfl,x4⟩
    have X4:=hI (X.o.tr x4)
    clear x4
    go_wp2
    go_ret
    exact ⟨⟨_,rfl,by rw [hB.out,decide_eq_true (by omega)]⟩,X4.o⟩
  ·have hB:Hid (L.any f=false):=hI (by
    have h1:=T.o
    rwa [List.take_of_length_le (by rw [N.o];omega)] at h1)
   go_wp2
   go_ret
   exact ⟨⟨_,rfl,by rw [hB.out];rfl⟩,X.o⟩
theorem containsf_any {w:World} {p:Option Addr} {n cap k:Nat} {L:List EnD} {a:Value} {f:EnD→Bool} (h:SlS 7 w p n cap (L.map enL)) (hen:∀ (args:Array Value) (w:World),(callFunc k args).run Tryz.prog w=.ok (.enter k args) w) (hF:∀ e w',Ext w w'→Calls Tryz.prog k #[enV e,a] w' fun r w2=>r=.returned (.bool (f e))∧Ext w' w2) :
  Calls Tryz.prog 124 #[.slice p n cap,.func (.func k) #[] #[a]] w fun e w'=>e=.returned (.bool (L.any f))∧Ext w w':=by
 have S:=hI h
 have HF:=hI hF
 clear h hF
 go_enter Tryz.func124,Tryz.ntmps124
 go_wp2_with fail
 refine (indexf_any S.o hen HF.o).mono ?_
 rintro e w2 ⟨⟨z,rfl,hz⟩,x2⟩
 have X2:=hI x2
 have HZ:=hI hz
 clear x2 hz
 go_wp2
 go_ret
 exact ⟨by rw [← HZ.o];rfl,X2.o⟩
theorem lhas_any {w:World} {o:Ow} {c g:Nat} {L:List EnD} {e:EnD} (h:LogV w o c g L) :
  Calls Tryz.prog 186 #[.pointer (some ⟨g,0,none⟩),enV e] w fun r w'=>r=.returned (.bool (L.any fun x=>sameB x e))∧Ext w w':=by
 obtain ⟨p,cap,h⟩:=h
 have H:=hI (h.ext (Ext.alloc w (.cells (enA e) 71)))
 clear h
 obtain ⟨f1,f2,f3,f4,f5,f6,fd⟩:=e
 have B0:=hI (EnBox.new w ⟨f1,f2,f3,f4,f5,f6,fd⟩ 71)
 have c0:=H.o.box.box.c 0 _ rfl
 go_enter Tryz.func186,Tryz.ntmps186
 go_wp2_with fail
 refine (containsf_any (f:=fun x=>sameB x ⟨f1,f2,f3,f4,f5,f6,fd⟩) H.o.row.row.sl (enter_of Tryz.func202 (by kernel_rfl) (by kernel_rfl)) (fun x w' k=>lhas1_any (B0.o.ext k))).mono ?_
 rintro r w2 ⟨rfl,x2⟩
 have X2:=hI ((Ext.alloc w (.cells (enA ⟨f1,f2,f3,f4,f5,f6,fd⟩) 71)).tr x2)
 clear x2
 go_wp2
 go_ret
 exact ⟨rfl,X2.o⟩
end
section
open Go Go.RowKit
def isT (t:Int):Prop:=0≤t∧t<128
def isId (i:Int):Prop:=1≤i∧i≤7
def hasT (t i:Int):Bool:=(t.toNat >>> (i.toNat-1)) % 2==1
def withT (t i:Int):Int:=((t.toNat ||| (1 <<< (i.toNat-1)):Nat):Int)
theorem tis_any (i:Int) (h:isId i) (w:World):Calls Tryz.prog 97 #[.int .i64 i] w fun e w'=>e=.returned (.bool true)∧w=w':=by
 obtain ⟨h1,h2⟩:=h
 go_enter Tryz.func97,Tryz.ntmps97
 go_wp2
 go_ret
 exact ⟨rfl,rfl⟩
def bitT (i:Int):Int:=((1 <<< (i.toNat-1):Nat):Int)
theorem tbit_any (i:Int) (h:isId i) (w:World):Calls Tryz.prog 98 #[.int .i64 i] w fun e w'=>e=.returned (.int .i64 (bitT i))∧w=w':=by
 obtain ⟨h1,h2⟩:=h
 have hi:i=1∨i=2∨i=3∨i=4∨i=5∨i=6∨i=7:=by omega
 clear h1 h2
 go_enter Tryz.func98,Tryz.ntmps98
 rcases hi with rfl | rfl | rfl | rfl | rfl | rfl | rfl
 all_goals
  go_wp2
  go_ret
  exact ⟨rfl,rfl⟩
theorem team_all {P:Int→Int→Bool} (h:∀ (t:Fin 128) (i:Fin 7),P (t.1:Int) ((i.1+1:Nat):Int)=true) {t i:Int} (ht:isT t) (hi:isId i):P t i=true:=by
 obtain ⟨t1,t2⟩:=ht
 obtain ⟨i1,i2⟩:=hi
 have:=h ⟨t.toNat,by omega⟩ ⟨i.toNat-1,by omega⟩
 simpa [show ((t.toNat:Nat):Int)=t by omega,show ((i.toNat-1+1:Nat):Int)=i by omega] using this
theorem bits_has {t i:Int} (ht:isT t) (hi:isId i):(bits BinOp.and IntKind.i64 t (bitT i) != 0)=hasT t i:=by
 have:=team_all (P:=fun t i=>(bits BinOp.and IntKind.i64 t (bitT i) != 0)==hasT t i) (by decide +kernel) ht hi
 simpa using this
theorem bits_with {t i:Int} (ht:isT t) (hi:isId i):bits BinOp.or IntKind.i64 t (bitT i)=withT t i:=by
 have:=team_all (P:=fun t i=>decide (bits BinOp.or IntKind.i64 t (bitT i)=withT t i)) (by decide +kernel) ht hi
 simpa using this
theorem withT_is {t i:Int} (ht:isT t) (hi:isId i):isT (withT t i):=by
 have:=team_all (P:=fun t i=>decide (0≤withT t i∧withT t i<128)) (by decide +kernel) ht hi
 unfold isT
 simpa using this
theorem thas_any (t i:Int) (ht:isT t) (h:isId i) (w:World):Calls Tryz.prog 75 #[.int .i64 t,.int .i64 i] w fun e w'=>e=.returned (.bool (hasT t i))∧w=w':=by
 have A:=tis_any i h w
 have B:=tbit_any i h w
 have E:=hI (bits_has ht h)
 go_enter Tryz.func75,Tryz.ntmps75
 go_wp2_with fail
 refine A.mono ?_
 rintro e w' ⟨rfl,rfl⟩
 go_wp2_with fail
 refine B.mono ?_
 rintro e w' ⟨rfl,rfl⟩
 go_wp2
 go_ret
 exact ⟨by rw [← E.o];rfl,rfl⟩
theorem twith_any (t i:Int) (ht:isT t) (h:isId i) (w:World):Calls Tryz.prog 173 #[.int .i64 t,.int .i64 i] w fun e w'=>e=.returned (.int .i64 (withT t i))∧w=w':=by
 have A:=tis_any i h w
 have B:=tbit_any i h w
 have E:=hI (bits_with ht h)
 go_enter Tryz.func173,Tryz.ntmps173
 go_wp2_with fail
 refine A.mono ?_
 rintro e w' ⟨rfl,rfl⟩
 go_wp2_with fail
 refine B.mono ?_
 rintro e w' ⟨rfl,rfl⟩
 go_wp2
 go_ret
 exact ⟨by rw [← E.o];rfl,rfl⟩
def decT (v n:Int):Int:=1+Int.tmod (v-1) n
theorem tdec_any (v n:Int) (hv:1≤v∧v≤1099511627776) (hn:3≤n∧n≤7) (w:World):Calls Tryz.prog 80 #[.int .i64 v,.int .i64 n] w fun e w'=>e=.returned (.int .i64 (decT v n))∧w=w':=by
 obtain ⟨v1,v2⟩:=hv
 obtain ⟨n1,n2⟩:=hn
 have n0:¬ n=0:=by omega
 have hm:=hI (Int.tmod_lt_of_pos (v-1) (show 0<n by omega))
 have hz:=hI (Int.tmod_nonneg n (show 0≤v-1 by omega))
 obtain ⟨R,hR⟩:∃ R,R=Int.tmod (v-1) n:=⟨_,rfl⟩
 have r1:R<n:=by have:=hm.out;omega
 have r0:0≤R:=by have:=hz.out;omega
 unfold decT
 rw [← hR]
 replace hR:=hR.symm
 go_enter Tryz.func80,Tryz.ntmps80
 go_wp2
 go_ret
 exact ⟨rfl,rfl⟩
end
section
open Go Go.RowKit
theorem int_ret {k:IntKind} {a b:Int} (h:a=b):Ending.returned (.int k a)=.returned (.int k b):=by rw [h]
def idsT:List Int:=[1,2,3,4,5,6,7]
def lenT (t:Int):Int:=((idsT.filter (hasT t)).length:Int)
theorem ones_any (t:Int) (ht:isT t) (w:World):Calls Tryz.prog 203 #[.int .u64 t] w fun e w'=>e=.returned (.int .i64 (lenT t))∧w=w':=by
 obtain ⟨t1,t2⟩:=ht
 obtain ⟨k,rfl⟩:∃ k:Fin 128,t=(k.1:Int):=⟨⟨t.toNat,by omega⟩,by simp;omega⟩
 go_enter Tryz.func203,Tryz.ntmps203
 go_wp2
 go_ret
 refine ⟨int_ret ?_,rfl⟩
 clear t1 t2 w
 revert k
 decide +kernel
theorem land_127 {t:Int} (ht:isT t):bits BinOp.and IntKind.i64 t 127=t:=by
 have:=team_all (P:=fun t i=>decide (bits BinOp.and IntKind.i64 t 127=t)) (by decide +kernel) ht (i:=1) (by unfold isId;decide)
 simpa using this
theorem lenT_le {t:Int} (ht:isT t):0≤lenT t∧lenT t≤7:=by
 have:=team_all (P:=fun t i=>decide (0≤lenT t∧lenT t≤7)) (by decide +kernel) ht (i:=1) (by unfold isId;decide)
 simpa using this
theorem tlen_any (t:Int) (ht:isT t) (w:World):Calls Tryz.prog 188 #[.int .i64 t] w fun e w'=>e=.returned (.int .i64 (lenT t))∧w=w':=by
 have A:=ones_any t ht w
 have E:=land_127 ht
 have ⟨t1,t2⟩:=ht
 go_enter Tryz.func188,Tryz.ntmps188
 go_wp2_with fail
 refine A.mono ?_
 rintro e w' ⟨rfl,rfl⟩
 go_wp2
 go_ret
 exact ⟨rfl,rfl⟩
def mayT (t n:Int):Bool:=decide (t<((1 <<< n.toNat:Nat):Int))
theorem may7 {t:Int} (h:t<128):mayT t 7=true:=by
 unfold mayT
 have e:((1 <<< (7:Int).toNat:Nat):Int)=128:=by decide
 rw [e]
 exact decide_eq_true h
def mostT (t n:Int):Bool:=mayT t n&&decide (n<2 * lenT t)
theorem tmay_any (t n:Int) (ht:isT t) (hn:3≤n∧n≤7) (w:World):Calls Tryz.prog 187 #[.int .i64 t,.int .i64 n] w fun e w'=>e=.returned (.bool (mayT t n))∧w=w':=by
 obtain ⟨t1,t2⟩:=ht
 have hi:n=3∨n=4∨n=5∨n=6∨n=7:=by omega
 clear hn
 rcases hi with rfl | rfl | rfl | rfl | rfl
 all_goals
  go_enter Tryz.func187,Tryz.ntmps187
  go_wp2
  go_ret
  first
   | exact ⟨rfl,rfl⟩
   | exact ⟨by rw [may7 t2];rfl,rfl⟩
theorem tmost_any (t n:Int) (ht:isT t) (hn:3≤n∧n≤7) (w:World):Calls Tryz.prog 168 #[.int .i64 t,.int .i64 n] w fun e w'=>e=.returned (.bool (mostT t n))∧w=w':=by
 have A:=tmay_any t n ht hn w
 have B:=tlen_any t ht w
 obtain ⟨l1,l2⟩:=lenT_le ht
 unfold mostT
 generalize lenT t=l at *
 generalize mayT t n=m at *
 clear ht hn
 cases m
 ·go_enter Tryz.func168,Tryz.ntmps168
  go_wp2_with fail
  refine A.mono ?_
  rintro e w' ⟨rfl,rfl⟩
  go_wp2
  go_ret
  exact ⟨rfl,rfl⟩
 ·go_enter Tryz.func168,Tryz.ntmps168
  go_wp2_with fail
  refine A.mono ?_
  rintro e w' ⟨rfl,rfl⟩
  go_wp2_with fail
  refine B.mono ?_
  rintro e w' ⟨rfl,rfl⟩
  go_wp2
  go_ret
  exact ⟨rfl,rfl⟩
def intL (x:Int):List Value:=[.int .i64 x]
def upT (t:Int) (k:Nat):List Int:=(idsT.take k).filter (hasT t)
theorem upT_succ (t:Int) (k:Nat) (hk:k<7):upT t (k+1)=upT t k++(if hasT t ((k:Int)+1) then [(k:Int)+1] else []):=by
 have hg:idsT[k]?=some ((k:Int)+1):=by
  have:k=0∨k=1∨k=2∨k=3∨k=4∨k=5∨k=6:=by omega
  rcases this with rfl | rfl | rfl | rfl | rfl | rfl | rfl <;> rfl
 unfold upT
 rw [List.take_add_one,hg,List.filter_append]
 congr 1
 show List.filter (hasT t) [(k:Int)+1]=_
 rw [List.filter_cons]
 rfl
theorem upT_le (t:Int) (k:Nat):(upT t k).length≤7:=by
 have h1:=List.length_filter_le (hasT t) (idsT.take k)
 have h2:(idsT.take k).length≤7:=by rw [List.length_take];exact Nat.min_le_right _ _
 unfold upT
 omega
theorem info_int:(Tryz.prog.info? 3).map (fun i=>(i.zero,i.size,i.bytes))=some (some (.int .i64 0),1,8):=by kernel_rfl
theorem info_parts' {P:Program} {E:TypeId} {z:Option Value} {K b:Nat} (h:(P.info? E).map (fun i=>(i.zero,i.size,i.bytes))=some (z,K,b)):∃ i,P.info? E=some i∧i.zero=z∧i.size=K∧i.bytes=b:=by
 cases hi:P.info? E with
 | none=>rw [hi] at h;cases h
 | some i=>
  rw [hi] at h
  simp at h
  exact ⟨i,rfl,h.1,h.2.1,h.2.2⟩
theorem tlist_any (t:Int) (ht:isT t) (w:World):Calls Tryz.prog 172 #[.int .i64 t] w fun e w'=>∃ p cap,e=.returned (.slice p (idsT.filter (hasT t)).length cap)∧OwS 3 1 w' w.heap.size p (idsT.filter (hasT t)).length cap ((idsT.filter (hasT t)).map intL)∧Ext w w':=by
 obtain ⟨i0,hi0,hz0,hz1,hz2⟩:=info_parts' info_int
 have HI0:=hI hi0
 have HT:=hI ht
 clear hi0 ht
 go_enter Tryz.func172,Tryz.ntmps172
 go_wp2_with fail
 go_loopw [3,4] (fun l i wr=>∃ (k:Nat) (p:Option Addr) (cap:Nat),k≤7∧i=.int .i64 ((k:Int)+1)∧l=.slice p (upT t k).length cap∧Hid (OwS 3 1 wr w.heap.size p (upT t k).length cap ((upT t k).map intL))∧Hid (Ext w wr)) (fun _ i _=>8-(intOf i).toNat)
 case atStart=>exact ⟨0,none,0,by omega,rfl,rfl,hI (OwS.nil _ _ _ _),hI (Ext.rfl' _)⟩
 case round=>
  obtain ⟨k,p,cap,hk,rfl,rfl,O,X⟩:=hrel
  by_cases hlt:k<7
  ·have h1:(k:Int)+1≤7:=by omega
   have hu:=upT_le t k
   have HS:=hI (upT_succ t k hlt)
   have A:=fun w=>thas_any t ((k:Int)+1) HT.o ⟨by omega,by omega⟩ w
   cases hh:hasT t ((k:Int)+1)
   ·rw [hh] at A
    have HS2:Hid (upT t (k+1)=upT t k):=hI (by rw [HS.o,hh];simp)
    clear HS hh
    go_wp2_with fail
    refine (A _).mono ?_
    rintro e w' ⟨rfl,rfl⟩
    go_wp2
    go_roundw
    case rel=>exact ⟨k+1,p,cap,by omega,by go_num,by rw [HS2.o],by rw [HS2.o];exact O,X⟩
    case measure=>simp [intOf];omega
   ·rw [hh] at A
    have HS2:Hid (upT t (k+1)=upT t k++[(k:Int)+1]):=hI (by rw [HS.o,hh];simp)
    have HL2:Hid ((upT t (k+1)).length=(upT t k).length+1):=hI (by rw [HS2.o];simp)
    clear HS hh
    have A2:=hI (Ext.alloc wr (.cells #[.int .i64 ((k:Int)+1)] 3))
    have SR:Hid (SlS 1 (wr.alloc (.cells #[.int .i64 ((k:Int)+1)] 3)) (some ⟨wr.heap.size,0,none⟩) 1 1 [intL ((k:Int)+1)]):=hI (SlS.lit wr 1 _ _ _ rfl (by simp [intL]) rfl (by decide))
    have hb:w.heap.size≤(wr.alloc (.cells #[.int .i64 ((k:Int)+1)] 3)).heap.size:=(X.o.tr A2.o).size
    go_wp2_with (first | (at_builtin;refine wpList_appS rfl _ _ 49 rfl w.heap.size Tryz.underlying49 i0 _ 8 HI0.o hz0 hz1 hz2 rfl (by decide) p (upT t k).length cap _ rfl (O.o.ext A2.o) (some ⟨wr.heap.size,0,none⟩) 1 1 _ rfl SR.o (by simp [intL,Value.oneCell']) (by omega) (by omega) hb ?_) | (refine (A _).mono ?_;rintro e w' ⟨rfl,rfl⟩))
    intro p3 c3 w3 o3 g3
    have O3:=hI o3
    have X3:=hI (Below.grown (X.o.tr A2.o) g3 (X.o.tr A2.o).size (fun b hb=>O.o.lt _ hb |>.1))
    clear o3 g3 A2 SR hb
    go_wp2
    go_roundw
    case rel=>exact ⟨k+1,p3,c3,by omega,by go_num,by rw [HL2.o],hI (by rw [HL2.o,HS2.o,List.map_append];exact O3.o),X3⟩
    case measure=>simp [intOf];omega
  ·have hk7:k=7:=by omega
   subst hk7
   go_wp2
   go_ret
   exact ⟨p,cap,rfl,O.o,X.o⟩
end
section
open Go Go.RowKit
structure RowU (K:Nat) (w:World) (o:Ow) (c:Nat) (p:Option Addr) (n cap:Nat) (L:List (List Value)):Prop where
 len:L.length=n
 wid:∀ x ∈ L,x.length=K
 le:n≤cap
 max:cap≤maxLen
 lies:(p=none∧cap=0)∨∃ b off,p=some ⟨b,off,none⟩∧o b=c∧b<w.heap.size∧(∀ j u,L.flatten[j]?=some u→w.cell? ⟨b,off+j,none⟩=some u)∧∀ j,n * K≤j→j<cap * K→(w.cell? ⟨b,off+j,none⟩).isSome=true∧w.frozen? ⟨b,off+j,none⟩=false
theorem RowU.nil (K:Nat) (w:World) (o:Ow) (c:Nat):RowU K w o c none 0 0 []:=
 ⟨rfl,(fun x hx=>by cases hx),Nat.le_refl _,Nat.zero_le _,.inl ⟨rfl,rfl⟩⟩
theorem RowU.blk {K:Nat} {w w':World} {o o':Ow} {c n cap:Nat} {p:Option Addr} {L:List (List Value)} (h:RowU K w o c p n cap L) (k:∀ b,b<w.heap.size→o b=c→w'.heap[b]?=w.heap[b]?∧o' b=c) (hs:w.heap.size≤w'.heap.size):RowU K w' o' c p n cap L:=by
 refine ⟨h.len,h.wid,h.le,h.max,?_⟩
 rcases h.lies with h1 | ⟨b,off,hp,hc,hb,h2,h3⟩
 ·exact .inl h1
 ·obtain ⟨e1,e2⟩:=k b hb hc
  refine .inr ⟨b,off,hp,e2,Nat.lt_of_lt_of_le hb hs,fun j u hu=>?_,fun j h4 h5=>?_⟩
  ·rw [World.cell?_of_block (a:=⟨b,off+j,none⟩) e1]
   exact h2 j u hu
  ·rw [World.cell?_of_block (a:=⟨b,off+j,none⟩) e1,World.frozen?_of_block (a:=⟨b,off+j,none⟩) e1]
   exact h3 j h4 h5
theorem RowU.ext {K:Nat} {w w':World} {o:Ow} {c n cap:Nat} {p:Option Addr} {L:List (List Value)} (h:RowU K w o c p n cap L) (k:Ext w w'):RowU K w' o c p n cap L:=
 h.blk (fun b hb hc=>⟨k.block b hb,hc⟩) k.size
theorem RowU.fr {C:Nat→Prop} {K:Nat} {w w':World} {o o':Ow} {c n cap:Nat} {p:Option Addr} {L:List (List Value)} (h:RowU K w o c p n cap L) (k:Fm C o o' w w') (h1:c≠1) (hc:¬ C c):RowU K w' o' c p n cap L:=
 h.blk (fun b hb e=>⟨k.blk b hb (by rw [e];exact h1) (by rw [e];exact hc),(k.at hb (by rw [e];exact hc)).trans e⟩) k.size
theorem RowU.sl {K:Nat} {w:World} {o:Ow} {c n cap:Nat} {p:Option Addr} {L:List (List Value)} (h:RowU K w o c p n cap L):SlS K w p n cap L:=by
 refine ⟨h.len,h.le,Nat.le_trans h.max (by decide),fun hp=>?_,h.wid,fun hn=>?_⟩
 ·rcases h.lies with h1 | ⟨b,off,hp2,-⟩
  ·exact h1.2
  ·rw [hp] at hp2
   cases hp2
 ·rcases h.lies with ⟨-,h1⟩ | ⟨b,off,hp,-,-,h2,-⟩
  ·have:=h.le
   omega
  ·exact ⟨b,off,hp,fun i x hx j v hv=>h2 _ _ (flatten_at L h.wid i x hx j v hv)⟩
theorem RowU.drop {K:Nat} {w:World} {o:Ow} {c n cap:Nat} {p:Option Addr} {L:List (List Value)} (h:RowU K w o c p n cap L) (k:Nat) (hk:k≤n):RowU K w o c (tailS K p cap k) (n-k) (cap-k) (L.drop k):=by
 have hle:=h.le
 refine ⟨by rw [List.length_drop,h.len],fun x hx=>h.wid x (List.mem_of_mem_drop hx),by omega,Nat.le_trans (Nat.sub_le _ _) h.max,?_⟩
 have hfl:(L.drop k).flatten=L.flatten.drop (k * K):=by
  have e1:L.flatten=(L.take k).flatten++(L.drop k).flatten:=by rw [← List.flatten_append,List.take_append_drop]
  have e2:(L.take k).flatten.length=k * K:=by
   rw [flatten_len _ (fun y hy=>h.wid y (List.mem_of_mem_take hy)),List.length_take,h.len,Nat.min_eq_left hk]
  rw [e1,← e2,List.drop_left]
 rcases h.lies with ⟨rfl,h1⟩ | ⟨b,off,rfl,hc,hb,h2,h3⟩
 ·refine .inl ⟨?_,by omega⟩
  unfold tailS
  split <;> rfl
 ·by_cases hck:cap=k
  ·refine .inr ⟨b,off,by unfold tailS;rw [if_pos hck],hc,hb,fun j u hu=>?_,fun j h4 h5=>?_⟩
   ·have:L.drop k=[]:=List.drop_eq_nil_of_le (by rw [h.len];omega)
    rw [this] at hu
    simp at hu
   ·rw [show cap-k=0 by omega] at h5
    omega
  ·refine .inr ⟨b,off+k * K,by unfold tailS;rw [if_neg hck];simp [Addr.add],hc,hb,fun j u hu=>?_,fun j h4 h5=>?_⟩
   ·rw [hfl,List.getElem?_drop] at hu
    have:=h2 _ _ hu
    rwa [← Nat.add_assoc] at this
   ·have e3:(n-k) * K+k * K=n * K:=by rw [← Nat.add_mul];congr 1;omega
    have e4:(cap-k) * K+k * K=cap * K:=by rw [← Nat.add_mul];congr 1;omega
    have:=h3 (k * K+j) (by omega) (by omega)
    rwa [← Nat.add_assoc] at this
theorem grown_sets (b:Nat):∀ (vs:List Value) (j:Nat) (a w:World),a.grownBy w (some b)→a.grownBy (w.setCells b j vs) (some b)
 | [],j,a,w,h=>h
 | v::vs,j,a,w,h=>grown_sets b vs (j+1) a _ (grown_put h j v)
section
variable {P:Program} {w:World}
theorem run_appU {E:TypeId} {K bytes:Nat} {z:Value} {i:TypeInfo} {o:Ow} {c n cap:Nat} {p:Option Addr} {L:List (List Value)} (hcl:Cl w o) (h:RowU K w o c p n cap L) (t ty:TypeId) (ht:P.underlying t=some (.slice E)) (hi:P.info? E=some i) (hz:i.zero=some z) (hsz:i.size=K) (hby:i.bytes=bytes) (hzs:z.cells.size=K) (hK:0<K)
  {x:Value} {r:List Value} (hs:Src P K t x 1 r w) (hn:n≤1000000) (hb:bytes≤100000) (h1:c≠1) :
  ∃ p' cap' w' o',(Builtin.append_ #[t,t] ty #[.slice p n cap,x]).run P w=.ok (.slice p' (n+1) cap') w'∧RowU K w' o' c p' (n+1) cap' (L++[r])∧Fm (fun d=>d=c) o o' w w':=by
 subst hsz
 subst hby
 have hrl:r.length=i.size:=by rw [hs.newsLen,Nat.one_mul]
 have hfl:L.flatten.length=n * i.size:=by rw [flatten_len L h.wid,h.len]
 have hwid:∀ y ∈ L++[r],y.length=i.size:=fun y hy=>by
  rcases List.mem_append.1 hy with hy | hy
  ·exact h.wid y hy
  ·rw [List.mem_singleton] at hy
   rw [hy]
   exact hrl
 have hf2:(L++[r]).flatten=L.flatten++r:=by simp
 have hbytes:(n+1) * i.bytes≤140737488355328:=by
  calc (n+1) * i.bytes≤1000001 * 100000:=Nat.mul_le_mul (by omega) hb
   _≤140737488355328:=by decide
 by_cases hroom:n+1≤cap
 ·rcases h.lies with ⟨-,h2⟩ | ⟨b,off,rfl,hc,hbl,h2,h3⟩
  ·omega
  ·have hcap:(n+1) * i.size≤cap * i.size:=Nat.mul_le_mul_right _ hroom
   have hnk:(n+1) * i.size=n * i.size+i.size:=by rw [Nat.add_mul,Nat.one_mul]
   have hr:=run_append_room_src (P:=P) w t t ty E i ht hi b off n cap x 1 r hs hroom (fun j hj=>by
    have:=(h3 (n * i.size+j) (by omega) (by omega)).1
    rwa [← Nat.add_assoc] at this) (fun j hj=>by
    have:=(h3 (n * i.size+j) (by omega) (by omega)).2
    rwa [← Nat.add_assoc] at this)
   have G:=grown_sets b r (off+n * i.size) w w (grown_refl w (some b))
   refine ⟨_,cap,_,o,hr,⟨by simp [h.len],hwid,hroom,h.max,.inr ⟨b,off,rfl,hc,Nat.lt_of_lt_of_le hbl G.size,fun j u hu=>?_,fun j h4 h5=>?_⟩⟩,Fm.grown hcl G (fun g hg=>by cases hg;rw [hc];exact ⟨h1,rfl⟩)⟩
   ·rw [hf2] at hu
    by_cases hj:j<n * i.size
    ·rw [List.getElem?_append_left (by omega)] at hu
     rw [World.cell?_setCells_out b r (off+n * i.size) w ⟨b,off+j,none⟩ (fun _ _=>.inl (by simp only;omega))]
     exact h2 j u hu
    ·rw [List.getElem?_append_right (by omega),hfl] at hu
     have hjr:j-n * i.size<r.length:=(List.getElem?_eq_some_iff.1 hu).1
     have e:=World.cell?_setCells_in b r (off+n * i.size) w (fun k hk=>by
      have:=(h3 (n * i.size+k) (by omega) (by omega)).1
      rwa [← Nat.add_assoc] at this) (j-n * i.size) hjr
     rw [show off+n * i.size+(j-n * i.size)=off+j by omega] at e
     rw [e,← hu,List.getElem?_eq_getElem hjr]
   ·have:=h3 j (by omega) h5
    rw [World.frozen?_setCells]
    exact ⟨World.isSome_setCells b r _ w _ this.1,this.2⟩
 ·have hg:cap<n+1:=by omega
  have hn0:n+1≤maxLen:=by unfold maxLen;omega
  have hold:(Builtin.firstCells i.size n (.slice p n cap)).run P w.drew=.ok L.flatten.toArray w.drew:=by
   rcases h.lies with ⟨rfl,h2⟩ | ⟨b,off,rfl,-,-,h2,-⟩
   ·have hn1:n=0:=by have:=h.le;omega
    subst hn1
    have hL:L=[]:=List.eq_nil_of_length_eq_zero h.len
    subst hL
    subst h2
    exact run_firstCells_none w.drew i.size 0 0 0
   ·exact run_firstCells_some w.drew i.size n ⟨b,off,none⟩ n cap L.flatten hfl (fun j u hu=>by
     rw [Addr.add_lit]
     exact h2 j u hu)
  have hr:=run_append_grow_src (P:=P) w t t ty E i z ht hi hz p n cap L.flatten hold x 1 r hs hg (by unfold maxLen at hn0;omega) (growslice_fits hg hbytes)
  have hge:=grownCap_ge w (n+1) cap E
  have hcm:=grownCap_le_maxLen w (n+1) cap E hn0
  have hL:(L.flatten++r).length=(n+1) * i.size:=by rw [List.length_append,hfl,hrl,Nat.add_mul,Nat.one_mul]
  have F:Fm (fun d=>d=c) o (dye o w.heap.size c) w (w.drew.alloc (.cells ((L.flatten++r).toArray++Builtin.zeroCells z.cells (grownCap w (n+1) cap E-(n+1))) E)):=
   (Fm.ext hcl ((Ext.drew w).tr (Ext.alloc w.drew _))).paint c (Nat.le_refl _) (by simp)
  refine ⟨_,_,_,_,hr,⟨by simp [h.len],hwid,hge,hcm,.inr ⟨w.heap.size,0,rfl,dye_same _ _ _,by simp,fun j u hu=>?_,fun j h4 h5=>?_⟩⟩,F⟩
  ·rw [hf2] at hu
   have hj:j<(L.flatten++r).length:=(List.getElem?_eq_some_iff.1 hu).1
   have e1:(w.drew.alloc (.cells ((L.flatten++r).toArray++Builtin.zeroCells z.cells (grownCap w (n+1) cap E-(n+1))) E)).cell? ⟨w.heap.size,j,none⟩=_:=World.cell?_alloc_new w.drew _ _ j
   rw [Nat.zero_add,e1,Array.getElem?_append_left (by simpa using hj),List.getElem?_toArray]
   exact hu
  ·have e1:(w.drew.alloc (.cells ((L.flatten++r).toArray++Builtin.zeroCells z.cells (grownCap w (n+1) cap E-(n+1))) E)).cell? ⟨w.heap.size,j,none⟩=_:=World.cell?_alloc_new w.drew _ _ j
   have hsz:((L.flatten++r).toArray++Builtin.zeroCells z.cells (grownCap w (n+1) cap E-(n+1))).size=grownCap w (n+1) cap E * i.size:=by
    rw [Array.size_append,List.size_toArray,hL,size_zeroCells,hzs,← Nat.add_mul]
    congr 1
    omega
   rw [Nat.zero_add]
   refine ⟨?_,World.frozen?_alloc_new w.drew _ _ j⟩
   rw [e1,Array.getElem?_eq_getElem (by rw [hsz];exact h5)]
   rfl
theorem step_appU {ops:Array Oper} {op:Oper} {a:Act} {K':Act→World→Prop} {Q:Exit→Act→World→Prop} {F:Prop} (hgd:op.guard=none) (s x:Operand) (t:TypeId)
  (ho:op.op=.call { callee:=.builtin .append,args:=#[s,x],argTypes:=#[t,t] })
  (E:TypeId) (K bytes:Nat) (z:Value) (ht:P.underlying t=some (.slice E)) (hi:(P.info? E).map (fun i=>(i.zero,i.size,i.bytes))=some (some z,K,bytes)) (hzs:z.cells.size=K) (hK:0<K)
  {o:Ow} {c n cap:Nat} {p:Option Addr} {L:List (List Value)} (hcl:Cl w o) (row:RowU K w o c p n cap L) (hs:a.eval s=.slice p n cap)
  (B cc:Nat) (r:List Value) (hx:a.eval x=.slice (some ⟨B,0,none⟩) 1 cc) (hr:r.length=K) (hnews:∀ j u,r[j]?=some u→w.cell? ⟨B,j,none⟩=some u) (hone:∀ u ∈ r,u.oneCell'=true)
  (hn:n≤1000000) (hb:bytes≤100000) (h1:c≠1) (C:Nat→Prop) (hC:C c)
  (h:∀ p' cap' o' w',RowU K w' o' c p' (n+1) cap' (L++[r])→Fm C o o' w w'→K' (a.put op.dst (.slice p' (n+1) cap')) w') :
  if Region.wanted op (yielded ops a.tmps)=true then Oper.wp P op a w K' Q else F:=by
 have hw:Region.wanted op (yielded ops a.tmps)=true:=by simp [Region.wanted,hgd]
 rw [if_pos hw]
 cases hi':P.info? E with
 | none=>rw [hi'] at hi;cases hi
 | some i=>
  rw [hi'] at hi
  simp at hi
  obtain ⟨hz,hsz,hby⟩:=hi
  have S:Src P K t (.slice (some ⟨B,0,none⟩) 1 cc) 1 r w:=Src.ofSlice w ht ⟨B,0,none⟩ 1 cc r (by rw [hr,Nat.one_mul]) (fun j u hj=>by
   rw [Addr.add_lit,Nat.zero_add]
   exact hnews j u hj) hone
  obtain ⟨p',cap',w',o',e,R,M⟩:=run_appU (P:=P) hcl row t op.type ht hi' hz hsz hby hzs hK S hn hb h1
  unfold Oper.wp execOp
  simp only [ho,resolve,invoke,builtin,Sem.run_bind,Sem.run_pure,Result.andThen_ok,List.map_toArray,List.map_cons,List.map_nil,hs,hx,e]
  exact h p' cap' o' w' R (M.mono (fun d hd=>by rw [hd];exact hC))
end
end
section
open Go Go.RowKit
structure PfD where
 nm:Int
 ask:List (Int × Int)
 has:Bool
 bn:Int
 bc:Int
 cm:Int
abbrev pfL (x:PfD) (p:Option Addr) (cap:Nat):List Value:=[.int .i64 x.nm,.slice p x.ask.length cap,.bool x.has,.int .i64 x.bn,.int .i64 x.bc,.int .i64 x.cm]
def qL (q:Int × Int):List Value:=[.int .i64 q.1,.int .i64 q.2]
def two (c:Nat):Nat→Prop:=fun d=>d=c∨d=c+1
structure PfP (w:World) (o:Ow) (c g:Nat) (p:Option Addr) (cap:Nat) (x:PfD):Prop where
 box:BoxC w o c g (pfL x p cap)
 row:RowU 2 w o (c+1) p x.ask.length cap (x.ask.map qL)
def PfV (w:World) (o:Ow) (c g:Nat) (x:PfD):Prop:=∃ p cap,PfP w o c g p cap x
theorem PfP.fr {C:Nat→Prop} {w w':World} {o o':Ow} {c g cap:Nat} {p:Option Addr} {x:PfD} (h:PfP w o c g p cap x) (k:Fm C o o' w w') (h1:1<c) (hc:¬ C c) (hc':¬ C (c+1)):PfP w' o' c g p cap x:=
 ⟨h.box.fr k (by omega) hc,h.row.fr k (by omega) hc'⟩
theorem PfV.fr {C:Nat→Prop} {w w':World} {o o':Ow} {c g:Nat} {x:PfD} (h:PfV w o c g x) (k:Fm C o o' w w') (h1:1<c) (hc:¬ C c) (hc':¬ C (c+1)):PfV w' o' c g x:=by
 obtain ⟨p,cap,h⟩:=h
 exact ⟨p,cap,h.fr k h1 hc hc'⟩
theorem PfP.ext {w w':World} {o:Ow} {c g cap:Nat} {p:Option Addr} {x:PfD} (h:PfP w o c g p cap x) (k:Ext w w'):PfP w' o c g p cap x:=⟨h.box.ext k,h.row.ext k⟩
def askP (x:PfD) (clock:Int):PfD:={ x with nm:=x.nm+1,ask:=(x.ask++[(x.nm+1,clock)]).drop (x.ask.length+1-64) }
def dropP (x:PfD):PfD:=⟨x.nm,[],false,0,0,0⟩
def newP (b:Int):PfD:=⟨b,[],false,0,0,0⟩
def leftP (x:PfD) (clock cm:Int):Int:=if x.has=false∨cm<x.cm∨clock<x.bc∨12≤clock-x.bc then 0 else 12-(clock-x.bc)
def goodP (x:PfD) (clock cm:Int):Bool:=decide (0<leftP x clock cm)
theorem info_q:(Tryz.prog.info? 153).map (fun i=>(i.zero,i.size,i.bytes))=some (some (.agg #[.int .i64 0,.int .i64 0]),2,16):=by kernel_rfl
theorem pnew_any {w:World} {o:Ow} (h:Cl w o) (c:Nat) (C:Nat→Prop) (b:Int) :
  Calls Tryz.prog 133 #[.int .i64 b] w fun e w'=>∃ o',e=.returned (.pointer (some ⟨w.heap.size,0,none⟩))∧PfV w' o' c w.heap.size (newP b)∧Fm C o o' w w':=by
 have H:=hI h
 clear h
 go_enter Tryz.func133,Tryz.ntmps133
 go_wp2
 go_ret
 exact ⟨_,rfl,⟨none,0,BoxC.made w o c _ _ _ rfl,RowU.nil _ _ _ _⟩,Fm.made H.o _ c⟩
theorem pask_any {w:World} {o:Ow} {c g:Nat} {x:PfD} {clock:Int} (hcl:Cl w o) (h:PfV w o c g x) (h1:1<c) (hm:0≤x.nm∧x.nm≤1099511627776) (hl:x.ask.length≤64) :
  Calls Tryz.prog 143 #[.pointer (some ⟨g,0,none⟩),.int .i64 clock] w fun e w'=>∃ o',e=.returned (.int .i64 (x.nm+1))∧PfV w' o' c g (askP x clock)∧Fm (two c) o o' w w':=by
 obtain ⟨p,cap,h⟩:=h
 obtain ⟨nm,ask,has,bn,bc,cm⟩:=x
 simp only at hm hl
 obtain ⟨m1,m2⟩:=hm
 have H:=hI h
 have HC:=hI hcl
 have c0:=h.box.box.c 0 _ rfl
 have f0:=h.box.box.f 0
 have H1:=hI h1
 clear h hcl h1
 simp only at c0
 go_enter Tryz.func143,Tryz.ntmps143
 go_upto_region 4 with fail
 have M1:Hid (Fm (two c) o o w (w.setCell ⟨g,0,none⟩ (.int .i64 (nm+1)))):=hI (Fm.put HC.o H.o.box (by have:=H1.o;omega) (.inl rfl) 0 _)
 have B1:Hid (BoxC (w.setCell ⟨g,0,none⟩ (.int .i64 (nm+1))) o c g (pfL ⟨nm+1,ask,has,bn,bc,cm⟩ p cap)):=hI (H.o.box.put 0 (.int .i64 (nm+1)))
 have MR:Hid (Fm (fun d=>d=c) o o w (w.setCell ⟨g,0,none⟩ (.int .i64 (nm+1)))):=hI (Fm.put (C:=fun d=>d=c) HC.o H.o.box (by have:=H1.o;omega) rfl 0 _)
 have R1:=hI (H.o.row.fr MR.o (by have:=H1.o;omega) (by omega))
 have C1:=hI MR.o.cl
 generalize w.setCell ⟨g,0,none⟩ (.int .i64 (nm+1))=w1 at *
 clear c0 f0 MR H
 have A1:=hI (Ext.alloc w1 (.cells #[.int .i64 (nm+1),.int .i64 clock] 153))
 have A2:=hI (A1.o.tr (Ext.drew (w1.alloc (.cells #[.int .i64 (nm+1),.int .i64 clock] 153))))
 have b0:=(B1.o.ext A1.o).box.c 0 _ rfl
 have b1:=(B1.o.ext A1.o).box.c 1 _ rfl
 have d0:=B1.o.box.c 0 _ rfl
 have d1:=B1.o.box.c 1 _ rfl
 simp only at b0 b1 d0 d1
 have hl6:ask.length≤1000000:=by omega
 go_region_law (refine step_appU (by rfl) _ _ _ (by rfl) 153 2 16 _ Tryz.underlying151 info_q (by rfl) (by omega) (C1.o.ext A2.o) (R1.o.ext A2.o) (by rfl) w1.heap.size 1 [.int .i64 (nm+1),.int .i64 clock] (by rfl) (by rfl) (fun j u hu=>news_at (w:=w1) rfl j u hu) (by simp [Value.oneCell']) hl6 (by omega) (by have:=H1.o;omega) (fun d=>d=c+1) rfl ?_;intro p4 c4 o4 w4 r4 f4;have D4:=hI ((B1.o.ext A2.o).fr f4 (by have:=H1.o;omega) (by omega));have b4:=D4.o.box.c 1 _ rfl;have f40:=D4.o.box.f 1)
 all_goals
  have M4:Hid (Fm (two c) o o4 w w4):=hI ((M1.o.tr (Fm.ext C1.o A2.o) (by unfold two;have:=H1.o;omega)).tr (f4.mono (fun d hd=>.inr hd)) (by unfold two;have:=H1.o;omega))
  have M5:Hid (Fm (two c) o o4 w (w4.setCell ⟨g,1,none⟩ (.slice p4 (ask.length+1) c4))):=hI (M4.o.tr (Fm.put M4.o.cl D4.o (by have:=H1.o;omega) (.inl rfl) 1 _) (by unfold two;have:=H1.o;omega))
  have B5:Hid (BoxC (w4.setCell ⟨g,1,none⟩ (.slice p4 (ask.length+1) c4)) o4 c g (pfL ⟨nm+1,ask++[(nm+1,clock)],has,bn,bc,cm⟩ p4 c4)):=hI (by
   have:=D4.o.put 1 (.slice p4 (ask.length+1) c4)
   simpa [pfL] using this)
  have R5:Hid (RowU 2 (w4.setCell ⟨g,1,none⟩ (.slice p4 (ask.length+1) c4)) o4 (c+1) p4 (ask.length+1) c4 ((ask++[(nm+1,clock)]).map qL)):=hI (by
   have:=r4.fr (Fm.put (C:=fun d=>d=c) M4.o.cl D4.o (by have:=H1.o;omega) rfl 1 (.slice p4 (ask.length+1) c4)) (by have:=H1.o;omega) (by omega)
   simpa [qL] using this)
  clear r4 f4 D4 b4 f40 b0 b1 d0 d1 A1 A2 M4 R1 B1 M1 C1
  generalize w4.setCell ⟨g,1,none⟩ (.slice p4 (ask.length+1) c4)=w5 at *
  have b0:=B5.o.box.c 0 _ rfl
  have b1:=B5.o.box.c 1 _ rfl
  have f1:=B5.o.box.f 1
  try simp only at b0 b1
  have hl7:(ask++[(nm+1,clock)]).length=ask.length+1:=by simp
  rw [hl7] at b1
  have HL7:=hI hl7
  clear hl7
  by_cases h64:ask.length+1≤64
  ·have e1:wrap64 (((ask.length+1:Nat):Int)-64)=((ask.length+1:Nat):Int)-64:=by unfold wrap64;omega
   have e2:¬ 0<((ask.length+1:Nat):Int)-64:=by omega
   have e3:((ask.length+1:Nat):Int)-64≤0:=by omega
   have HA:Hid (askP ⟨nm,ask,has,bn,bc,cm⟩ clock=⟨nm+1,ask++[(nm+1,clock)],has,bn,bc,cm⟩):=hI (by
    unfold askP
    simp only [show ask.length+1-64=0 by omega,List.drop_zero])
   go_wp2_with fail
   go_region
   have B6:Hid (BoxC (w5.setCell ⟨g,1,none⟩ (.slice p4 (ask.length+1) c4)) o4 c g (pfL ⟨nm+1,ask++[(nm+1,clock)],has,bn,bc,cm⟩ p4 c4)):=hI (by
    have:=B5.o.put 1 (.slice p4 (ask.length+1) c4)
    simpa [pfL] using this)
   have M6:Hid (Fm (two c) o o4 w (w5.setCell ⟨g,1,none⟩ (.slice p4 (ask.length+1) c4))):=hI (M5.o.tr (Fm.put M5.o.cl B5.o (by have:=H1.o;omega) (.inl rfl) 1 _) (by unfold two;have:=H1.o;omega))
   have R6:=hI (R5.o.fr (Fm.put (C:=fun d=>d=c) M5.o.cl B5.o (by have:=H1.o;omega) rfl 1 (.slice p4 (ask.length+1) c4)) (by have:=H1.o;omega) (by omega))
   clear b0 b1 f1 M5 B5 R5
   generalize w5.setCell ⟨g,1,none⟩ (.slice p4 (ask.length+1) c4)=w6 at *
   have M7:=hI (M6.o.tr (Fm.drew M6.o.cl) (by unfold two;have:=H1.o;omega))
   have c0:=(B6.o.ext (Ext.drew w6)).box.c 0 _ rfl
   simp only at c0
   go_wp2
   go_ret
   exact ⟨o4,rfl,⟨p4,c4,by rw [HA.o];exact B6.o.ext (Ext.drew w6),by rw [HA.o];rw [show (⟨nm+1,ask++[(nm+1,clock)],has,bn,bc,cm⟩:PfD).ask.length=ask.length+1 from HL7.o];exact R6.o.ext (Ext.drew w6)⟩,M7.o⟩
  ·have e1:wrap64 (((ask.length+1:Nat):Int)-64)=1:=by unfold wrap64;omega
   have HA:Hid (askP ⟨nm,ask,has,bn,bc,cm⟩ clock=⟨nm+1,(ask++[(nm+1,clock)]).drop 1,has,bn,bc,cm⟩):=hI (by
    unfold askP
    simp only [show ask.length+1-64=1 by omega])
   have HL8:Hid (((ask++[(nm+1,clock)]).drop 1).length=ask.length):=hI (by simp)
   have R6:=hI (R5.o.drop 1 (by omega))
   rw [Nat.add_sub_cancel,← List.map_drop] at R6
   obtain ⟨p6,hp6⟩:∃ p6,tailS 2 p4 c4 1=p6:=⟨_,rfl⟩
   obtain ⟨c6,hc6⟩:∃ c6,c4-1=c6:=⟨_,rfl⟩
   rw [hp6,hc6] at R6
   have HV:Hid (Value.slice (if c4=ask.length-63 then p4 else Option.map (fun x=>x.add ((ask.length-63) * 2)) p4) (ask.length+1-(ask.length-63)) (c4-(ask.length-63))=.slice p6 ask.length c6):=hI (by
    rw [show ask.length-63=1 by omega,Nat.add_sub_cancel,← hp6,← hc6]
    rfl)
   clear hp6 hc6
   go_wp2_with fail
   go_region
   rw [HV.o]
   have B6:Hid (BoxC (w5.setCell ⟨g,1,none⟩ (.slice p6 ask.length c6)) o4 c g (pfL ⟨nm+1,(ask++[(nm+1,clock)]).drop 1,has,bn,bc,cm⟩ p6 c6)):=hI (by
    have:=B5.o.put 1 (.slice p6 ask.length c6)
    have e:(pfL ⟨nm+1,ask++[(nm+1,clock)],has,bn,bc,cm⟩ p4 c4).set 1 (.slice p6 ask.length c6)=pfL ⟨nm+1,(ask++[(nm+1,clock)]).drop 1,has,bn,bc,cm⟩ p6 c6:=by
     unfold pfL
     simp only [HL8.o]
     rfl
    rw [e] at this
    exact this)
   have M6:Hid (Fm (two c) o o4 w (w5.setCell ⟨g,1,none⟩ (.slice p6 ask.length c6))):=hI (M5.o.tr (Fm.put M5.o.cl B5.o (by have:=H1.o;omega) (.inl rfl) 1 _) (by unfold two;have:=H1.o;omega))
   have R7:=hI (R6.o.fr (Fm.put (C:=fun d=>d=c) M5.o.cl B5.o (by have:=H1.o;omega) rfl 1 (.slice p6 ask.length c6)) (by have:=H1.o;omega) (by omega))
   clear b0 b1 f1 M5 B5 R5 R6
   generalize w5.setCell ⟨g,1,none⟩ (.slice p6 ask.length c6)=w6 at *
   have M7:=hI (M6.o.tr (Fm.drew M6.o.cl) (by unfold two;have:=H1.o;omega))
   have c0:=(B6.o.ext (Ext.drew w6)).box.c 0 _ rfl
   simp only at c0
   go_wp2
   all_goals
    go_ret
    first | exact ⟨o4,rfl,⟨p6,c6,by rw [HA.o];exact B6.o.ext (Ext.drew w6),by rw [HA.o];rw [show (⟨nm+1,(ask++[(nm+1,clock)]).drop 1,has,bn,bc,cm⟩:PfD).ask.length=ask.length from HL8.o];exact R7.o.ext (Ext.drew w6)⟩,M7.o⟩ | exact ⟨rfl,o4,⟨p6,c6,by rw [HA.o];exact B6.o.ext (Ext.drew w6),by rw [HA.o];rw [show (⟨nm+1,(ask++[(nm+1,clock)]).drop 1,has,bn,bc,cm⟩:PfD).ask.length=ask.length from HL8.o];exact R7.o.ext (Ext.drew w6)⟩,M7.o⟩
theorem pdrop_any {w:World} {o:Ow} {c g:Nat} {x:PfD} (hcl:Cl w o) (h:PfV w o c g x) (h1:1<c) :
  Calls Tryz.prog 150 #[.pointer (some ⟨g,0,none⟩)] w fun e w'=>e=.returned (.tuple #[])∧PfV w' o c g (dropP x)∧Fm (two c) o o w w':=by
 obtain ⟨p,cap,h⟩:=h
 obtain ⟨nm,ask,has,bn,bc,cm⟩:=x
 have H:=hI h
 have HC:=hI hcl
 have c0:=h.box.box.c 0 _ rfl
 have c1:=h.box.box.c 1 _ rfl
 have c2:=h.box.box.c 2 _ rfl
 have c3:=h.box.box.c 3 _ rfl
 have c4:=h.box.box.c 4 _ rfl
 have c5:=h.box.box.c 5 _ rfl
 have f:=h.box.box.f
 have H1:=hI h1
 clear h hcl h1
 simp only at c0 c1 c2 c3 c4 c5
 go_enter Tryz.func150,Tryz.ntmps150
 go_wp2
 refine bodyPost_end (v:=.tuple #[]) (by simp [results,Tryz.results150,go_sem]) rfl ?_
 have M:=Fm.fill (us:=[.int .i64 nm,.slice none 0 0,.bool false,.int .i64 0,.int .i64 0,.int .i64 0]) (C:=two c) HC.o H.o.box (by have:=H1.o;omega) (.inl rfl)
 have B:=H.o.box.fill (vs:=[.int .i64 nm,.slice none 0 0,.bool false,.int .i64 0,.int .i64 0,.int .i64 0]) (by simp)
 refine ⟨rfl,?_⟩
 change PfV (fillV w g 0 [.int .i64 nm,.slice none 0 0,.bool false,.int .i64 0,.int .i64 0,.int .i64 0]) o c g _∧Fm _ _ _ _ (fillV w g 0 [.int .i64 nm,.slice none 0 0,.bool false,.int .i64 0,.int .i64 0,.int .i64 0])
 generalize fillV w g 0 [.int .i64 nm,.slice none 0 0,.bool false,.int .i64 0,.int .i64 0,.int .i64 0]=w2 at *
 exact ⟨⟨none,0,B,RowU.nil _ _ _ _⟩,M⟩
theorem pleft_any {w:World} {o:Ow} {c g:Nat} {x:PfD} {clock cm:Int} (h:PfV w o c g x) (hk:0≤clock∧clock≤1099511627776) (hb:0≤x.bc∧x.bc≤1099511627776) :
  Calls Tryz.prog 76 #[.pointer (some ⟨g,0,none⟩),.int .i64 clock,.int .i64 cm] w fun e w'=>e=.returned (.int .i64 (leftP x clock cm))∧w=w':=by
 obtain ⟨p,cap,h⟩:=h
 obtain ⟨nm,ask,has,bn,bc,xc⟩:=x
 simp only at hb
 obtain ⟨k1,k2⟩:=hk
 obtain ⟨b1,b2⟩:=hb
 have c2:=h.box.box.c 2 _ rfl
 have c4:=h.box.box.c 4 _ rfl
 have c5:=h.box.box.c 5 _ rfl
 clear h
 simp only at c2 c4 c5
 obtain ⟨R,hR⟩:∃ R,R=leftP ⟨nm,ask,has,bn,bc,xc⟩ clock cm:=⟨_,rfl⟩
 rw [← hR]
 unfold leftP at hR
 simp only at hR
 cases has
 ·rw [if_pos (.inl rfl)] at hR
  subst hR
  go_enter Tryz.func76,Tryz.ntmps76
  go_wp2
  go_ret
  exact ⟨rfl,rfl⟩
 ·by_cases h1:cm<xc
  ·rw [if_pos (.inr (.inl h1))] at hR
   subst hR
   go_enter Tryz.func76,Tryz.ntmps76
   go_wp2
   go_ret
   exact ⟨rfl,rfl⟩
  ·by_cases h2:clock<bc
   ·rw [if_pos (.inr (.inr (.inl h2)))] at hR
    subst hR
    go_enter Tryz.func76,Tryz.ntmps76
    go_wp2
    go_ret
    exact ⟨rfl,rfl⟩
   ·by_cases h3:12≤clock-bc
    ·rw [if_pos (.inr (.inr (.inr h3)))] at hR
     subst hR
     go_enter Tryz.func76,Tryz.ntmps76
     go_wp2
     go_ret
     exact ⟨rfl,rfl⟩
    ·have h4:0≤clock-bc:=by omega
     rw [if_neg (by simp;omega)] at hR
     subst hR
     go_enter Tryz.func76,Tryz.ntmps76
     go_wp2
     go_ret
     exact ⟨rfl,rfl⟩
theorem pgood_any {w:World} {o:Ow} {c g:Nat} {x:PfD} {clock cm:Int} (h:PfV w o c g x) (hk:0≤clock∧clock≤1099511627776) (hb:0≤x.bc∧x.bc≤1099511627776) :
  Calls Tryz.prog 51 #[.pointer (some ⟨g,0,none⟩),.int .i64 clock,.int .i64 cm] w fun e w'=>e=.returned (.bool (goodP x clock cm))∧w=w':=by
 have T:=pleft_any (cm:=cm) h hk hb
 unfold goodP
 generalize leftP x clock cm=l at *
 clear h hk hb
 go_enter Tryz.func51,Tryz.ntmps51
 go_wp2_with fail
 refine T.mono ?_
 rintro e w' ⟨rfl,rfl⟩
 go_wp2
 go_ret
 exact ⟨rfl,rfl⟩
end
section
open Go Go.RowKit
theorem info_en:(Tryz.prog.info? 71).map (fun i=>(i.zero,i.size,i.bytes))=some (some (enV zeroE),7,64):=by kernel_rfl
theorem en_one (L:List EnD):∀ r ∈ L.map enL,∀ u ∈ r,u.oneCell'=true:=by
 intro r hr u hu
 obtain ⟨e,-,rfl⟩:=List.mem_map.1 hr
 simp [enL] at hu
 rcases hu with rfl | rfl | rfl | rfl | rfl | rfl | rfl <;> rfl
theorem q_eclone:∀ (w:World) (a:Option Addr) (n c n' c':Nat),(binOp .eql 43 (.slice a n c) (.slice none n' c')).run Tryz.prog w=.ok (.bool a.isNone) w:=fun w a n c n' c'=>Lib.run_eql_slice_nil w _ _ a n c n' c' Tryz.underlying43
theorem eclone_any {w:World} {p:Option Addr} {n cap:Nat} {L:List (List Value)} (h:SlS 7 w p n cap L) (hone:∀ r ∈ L,∀ u ∈ r,u.oneCell'=true) (hn:n≤1000000) :
  Calls Tryz.prog 100 #[.slice p n cap] w fun e w'=>∃ p' cap',e=.returned (.slice p' n cap')∧OwS 71 7 w' w.heap.size p' n cap' L∧Ext w w':=by
 have q22:=q_eclone
 obtain ⟨i0,hi0,hz0,hz1,hz2⟩:=info_parts' info_en
 have HI0:=hI hi0
 clear hi0
 cases p with
 | none=>
  have hc0:=h.nil rfl
  have hle:=h.le
  have hl:=h.len
  obtain rfl:cap=0:=hc0
  obtain rfl:n=0:=by omega
  obtain rfl:L=[]:=List.eq_nil_of_length_eq_zero hl
  clear h hl hle hone
  go_enter Tryz.func100,Tryz.ntmps100
  go_wp2
  go_ret
  exact ⟨_,_,rfl,OwS.nil _ _ _ _,Ext.rfl' _⟩
 | some a=>
  have H:=hI h
  have HO:=hI hone
  clear h hone
  have A1:=hI (Ext.alloc w (.cells #[] 71))
  have OM:Hid (OwS 71 7 (w.alloc (.cells #[] 71)) w.heap.size (some ⟨w.heap.size,0,none⟩) 0 0 []):=hI (OwS.made w w.heap.size 0 #[] [] (Nat.le_refl _) rfl (fun x hx=>by cases hx) rfl (by omega))
  have hb:w.heap.size≤(w.alloc (.cells #[] 71)).heap.size:=A1.o.size
  have hby:(0+n) * 64≤140737488355328:=by omega
  have hmx:0+n≤140737488355328:=by omega
  go_enter Tryz.func100,Tryz.ntmps100
  go_wp2_with (at_builtin;refine wpList_appS rfl _ _ 43 rfl w.heap.size Tryz.underlying43 i0 _ 64 HI0.o hz0 hz1 hz2 rfl (by decide) (some ⟨w.heap.size,0,none⟩) 0 0 [] rfl OM.o (some a) n cap L rfl (H.o.ext A1.o) HO.o hby hmx hb ?_)
  intro p' cap' w1 hown hg
  have O1:Hid (OwS 71 7 w1 w.heap.size p' n cap' L):=hI (by simpa using hown)
  have G1:=hI hg
  clear hown hg
  try simp only [Nat.zero_add]
  go_wp2
  go_ret
  exact ⟨_,_,rfl,O1.o,Below.grown A1.o G1.o hb (fun k hk=>by simp at hk;omega)⟩
theorem LogV.max {w:World} {o:Ow} {c g:Nat} {L:List EnD} (h:LogV w o c g L):L.length≤60:=by
 obtain ⟨p,cap,h⟩:=h
 exact h.max
theorem encut_from (p:Option Addr) (n cap k:Nat) (hk:k≤n) (w:World):(Instr.slice 43 (.slice p n cap) (some (.int .i64 (k:Int))) none none).run Tryz.prog w=.ok (.slice (tailS 7 p cap k) (n-k) (cap-k)) w:=
 run_cutS_from 7 43 71 Tryz.underlying43 (fun w=>by kernel_rfl) p n cap k hk w
theorem lfrom_any {w:World} {o:Ow} {c g a:Nat} {L:List EnD} (h:LogV w o c g L) (ha:a≤1000000) :
  Calls Tryz.prog 78 #[.pointer (some ⟨g,0,none⟩),.int .i64 (a:Int)] w fun e w'=>∃ p' cap',e=.returned (.slice p' (L.drop a).length cap')∧OwS 71 7 w' w.heap.size p' (L.drop a).length cap' ((L.drop a).map enL)∧Ext w w':=by
 have T:=llen_any h
 obtain ⟨p,cap,h⟩:=h
 have hm:=h.max
 have H:=hI h
 have c0:=h.box.box.c 0 _ rfl
 clear h
 by_cases hl:L.length≤a
 ·have e:L.drop a=[]:=List.drop_of_length_le hl
  rw [e]
  have hl':(L.length:Int)≤(a:Int):=by omega
  clear e hl c0
  go_enter Tryz.func78,Tryz.ntmps78
  go_wp2_with fail
  refine T.mono ?_
  rintro e w1 ⟨rfl,rfl⟩
  go_wp2
  go_ret
  exact ⟨_,_,rfl,OwS.nil _ _ _ _,Ext.rfl' _⟩
 ·have hl':¬ (L.length:Int)≤(a:Int):=by omega
  have hd:(L.drop a).length=L.length-a:=by simp
  have HD:=hI hd
  rw [hd]
  have cut:=encut_from p L.length cap a (by omega)
  have SL:Hid (SlS 7 w (tailS 7 p cap a) (L.length-a) (cap-a) ((L.drop a).map enL)):=hI (by
   have:=H.o.row.row.sl.drop a (by omega)
   rwa [← List.map_drop] at this)
  have hn6:L.length-a≤1000000:=by omega
  clear hd hl
  go_enter Tryz.func78,Tryz.ntmps78
  go_wp2_with fail
  refine T.mono ?_
  rintro e w1 ⟨rfl,rfl⟩
  go_wp2_with fail
  refine (eclone_any SL.o (en_one _) hn6).mono ?_
  rintro e w2 ⟨p2,c2,rfl,o2,x2⟩
  have O2:=hI o2
  have X2:=hI x2
  clear o2 x2 T cut c0
  go_wp2
  go_ret
  exact ⟨_,_,rfl,O2.o,X2.o⟩
end
section
open Go Go.RowKit
def lastE (L:List EnD):EnD:=L.getLast?.getD zeroE
theorem lat_any {w:World} {o:Ow} {c g:Nat} {L:List EnD} (h:LogV w o c g L) :
  Calls Tryz.prog 174 #[.pointer (some ⟨g,0,none⟩),.int .i64 (L.length:Int)] w fun r w'=>r=.returned (.tuple #[enV (lastE L),.bool (!L.isEmpty)])∧Ext w w':=by
 have TT:=fun w' (k:Ext w w')=>llen_any (h.ext k)
 obtain ⟨p,cap,h⟩:=h
 have hm:=h.max
 have A1:=hI (Ext.alloc w (.cells (enA zeroE) 71))
 have T:=TT _ A1.o
 have H:=hI (h.ext A1.o)
 have B0:=hI (EnOwn.new w zeroE 71 _ rfl)
 clear h TT
 have bf:=B0.o.f
 rcases List.eq_nil_or_concat L with rfl | ⟨M,e,hL⟩
 ·clear bf
  go_enter Tryz.func174,Tryz.ntmps174
  go_upto_region 1 with fail
  change Code.wp _ _ _ _ (w.alloc (.cells (enA zeroE) 71))
  clear H T
  generalize w.alloc (.cells (enA zeroE) 71)=w0 at *
  obtain ⟨b0,b1,b2,b3,b4,b5,b6⟩:=B0.o.box
  have bf:=B0.o.f
  go_wp2
  obtain ⟨w9,hw9⟩:∃ w9,w9=fillE w0 w.heap.size zeroE:=⟨_,rfl⟩
  change bodyPost _ _ _ Exit.ret _ (fillE w0 w.heap.size zeroE)
  have FB:=B0.o.fill zeroE
  have FX:=hI (fill_below A1.o (Nat.le_refl _) zeroE)
  rw [← hw9] at FB FX ⊢
  obtain ⟨f0,f1,f2,f3,f4,f5,f6⟩:=FB
  simp only [zeroE] at f0 f1 f2 f3 f4 f5 f6
  exact bodyPost_ret (v:=.tuple #[enV zeroE,.bool false]) (by simp [results,Tryz.results174,go_sem,f0,f1,f2,f3,f4,f5,f6,zeroE]) rfl ⟨rfl,FX.o⟩
 ·have hk:L.length=M.length+1:=by rw [hL];simp
  have he:L[M.length]?=some e:=by rw [hL];simp
  have hla:lastE L=e:=by unfold lastE;rw [hL];simp
  have hem:L.isEmpty=false:=by rw [hL];cases M <;> rfl
  rw [hla,hem]
  obtain ⟨b,oo,e',hp,he',c0,c1,c2,c3,c4,c5,c6⟩:=en_at H.o.row.row.sl M.length (by omega)
  rw [he] at he'
  cases he'
  have hz:((L.length:Nat):Int)=(M.length:Int)+1:=by omega
  rw [hz] at T ⊢
  have d0:=H.o.box.box.c 0 _ rfl
  obtain ⟨K,hK⟩:∃ K,K=M.length:=⟨_,rfl⟩
  rw [← hK] at c0 c1 c2 c3 c4 c5 c6 T hz ⊢
  have b1:K<L.length:=by omega
  have b2:(K:Int)<(L.length:Int):=by omega
  clear hL he hla hem hk hK hz M
  subst hp
  obtain ⟨g1,g2,g3,g4,g5,g6,gd⟩:=e
  simp only at c0 c1 c2 c3 c4 c5 c6
  clear bf
  go_enter Tryz.func174,Tryz.ntmps174
  go_upto_region 1 with fail
  change Code.wp _ _ _ _ (w.alloc (.cells (enA zeroE) 71))
  clear H
  generalize w.alloc (.cells (enA zeroE) 71)=w0 at *
  obtain ⟨z0,z1,z2,z3,z4,z5,z6⟩:=B0.o.box
  have bf:=B0.o.f
  go_wp2_with fail
  refine T.mono ?_
  rintro e w2 ⟨rfl,rfl⟩
  go_wp2
  obtain ⟨w9,hw9⟩:∃ w9,w9=fillE w0 w.heap.size ⟨g1,g2,g3,g4,g5,g6,gd⟩:=⟨_,rfl⟩
  change bodyPost _ _ _ Exit.ret _ (fillE w0 w.heap.size ⟨g1,g2,g3,g4,g5,g6,gd⟩)
  have FB:=B0.o.fill ⟨g1,g2,g3,g4,g5,g6,gd⟩
  have FX:=hI (fill_below A1.o (Nat.le_refl _) ⟨g1,g2,g3,g4,g5,g6,gd⟩)
  rw [← hw9] at FB FX ⊢
  obtain ⟨f0,f1,f2,f3,f4,f5,f6⟩:=FB
  simp only at f0 f1 f2 f3 f4 f5 f6
  exact bodyPost_ret (v:=.tuple #[enV ⟨g1,g2,g3,g4,g5,g6,gd⟩,.bool true]) (by simp [results,Tryz.results174,go_sem,f0,f1,f2,f3,f4,f5,f6]) rfl ⟨rfl,FX.o⟩
end
section
open Go Go.RowKit
theorem EnBox.c {w:World} {g:Nat} {e:EnD} (h:EnBox w g e):∀ j u,(enL e)[j]?=some u→w.cell? ⟨g,j,none⟩=some u:=fun j u hu=>by
 obtain ⟨c0,c1,c2,c3,c4,c5,c6⟩:=h
 match j,hu with
 | 0,hu=>simp [enL] at hu;rw [← hu];exact c0
 | 1,hu=>simp [enL] at hu;rw [← hu];exact c1
 | 2,hu=>simp [enL] at hu;rw [← hu];exact c2
 | 3,hu=>simp [enL] at hu;rw [← hu];exact c3
 | 4,hu=>simp [enL] at hu;rw [← hu];exact c4
 | 5,hu=>simp [enL] at hu;rw [← hu];exact c5
 | 6,hu=>simp [enL] at hu;rw [← hu];exact c6
 | j+7,hu=>simp [enL] at hu
theorem ladd_yes {w:World} {o:Ow} {c g:Nat} {L:List EnD} {e:EnD} (hcl:Cl w o) (h:LogV w o c g L) (h1:1<c) (he:EnOk e) (hm:mayB e=true) (hn:(L.any fun x=>sameB x e)=false) (hl:L.length≤59) (hs:(lastE L).st≤e.st) :
  Calls Tryz.prog 167 #[.pointer (some ⟨g,0,none⟩),enV e] w fun r w'=>∃ o',r=.returned (.bool true)∧LogV w' o' c g (L++[e])∧Fm (two c) o o' w w':=by
 obtain ⟨e1,e2,e3,e4,e5,e6,ed⟩:=e
 obtain ⟨le,hle⟩:∃ le,le=lastE L:=⟨_,rfl⟩
 obtain ⟨l1,l2,l3,l4,l5,l6,ld⟩:=le
 rw [← hle] at hs
 simp only at hs
 have HLE:=hI hle
 have HE:=hI he
 have HM:=hI hm
 have HN:=hI hn
 have HS:=hI hs
 have H1:=hI h1
 have A0:=hI (Ext.alloc w (.cells (enA ⟨e1,e2,e3,e4,e5,e6,ed⟩) 71))
 have EB:=hI (EnBox.new w ⟨e1,e2,e3,e4,e5,e6,ed⟩ 71)
 have HC:=hI (hcl.ext A0.o)
 have M0:Hid (Fm (two c) o o w (w.alloc (.cells (enA ⟨e1,e2,e3,e4,e5,e6,ed⟩) 71))):=hI (Fm.ext hcl A0.o)
 have H:=hI (h.ext A0.o)
 clear h hcl hle he hm hn hs h1
 go_enter Tryz.func167,Tryz.ntmps167
 go_upto_region 1 with fail
 change Code.wp _ _ _ _ (w.alloc (.cells (enA ⟨e1,e2,e3,e4,e5,e6,ed⟩) 71))
 clear A0
 generalize w.alloc (.cells (enA ⟨e1,e2,e3,e4,e5,e6,ed⟩) 71)=w0 at *
 generalize w.heap.size=bb at *
 obtain ⟨d0,d1,d2,d3,d4,d5,d6⟩:=EB.o
 simp only at d0 d1 d2 d3 d4 d5 d6
 go_wp2_with fail
 refine (may_any (e:=⟨e1,e2,e3,e4,e5,e6,ed⟩) HE.o).mono ?_
 rw [HM.o]
 rintro x w2 ⟨rfl,x2⟩
 replace H:=hI (H.o.ext x2)
 replace EB:=hI (EB.o.ext x2)
 replace M0:=hI (M0.o.tr (Fm.ext HC.o x2) (by unfold two;have:=H1.o;omega))
 replace HC:=hI (HC.o.ext x2)
 clear x2 d0 d1 d2 d3 d4 d5 d6
 obtain ⟨d0,d1,d2,d3,d4,d5,d6⟩:=EB.o
 simp only at d0 d1 d2 d3 d4 d5 d6
 go_wp2_with fail
 refine (lhas_any (e:=⟨e1,e2,e3,e4,e5,e6,ed⟩) H.o).mono ?_
 rw [HN.o]
 rintro x w3 ⟨rfl,x3⟩
 replace H:=hI (H.o.ext x3)
 replace EB:=hI (EB.o.ext x3)
 replace M0:=hI (M0.o.tr (Fm.ext HC.o x3) (by unfold two;have:=H1.o;omega))
 replace HC:=hI (HC.o.ext x3)
 clear x3 d0 d1 d2 d3 d4 d5 d6
 obtain ⟨p,cap,h⟩:=H.o
 have c0:=h.box.box.c 0 _ rfl
 clear h
 have hl':¬ (60:Int)≤(L.length:Int):=by omega
 go_wp2_with fail
 have T:=lat_any H.o
 obtain ⟨BE,hBE⟩:∃ B,B=!L.isEmpty:=⟨_,rfl⟩
 rw [← HLE.o,← hBE] at T
 clear hBE
 refine T.mono ?_
 clear T
 rintro x w4 ⟨rfl,x4⟩
 replace H:=hI (H.o.ext x4)
 replace EB:=hI (EB.o.ext x4)
 replace M0:=hI (M0.o.tr (Fm.ext HC.o x4) (by unfold two;have:=H1.o;omega))
 replace HC:=hI (HC.o.ext x4)
 clear x4 c0
 go_upto_region 4 with fail
 change Code.wp _ _ _ _ (w4.alloc (.cells (enA ⟨l1,l2,l3,l4,l5,l6,ld⟩) 71))
 have A5:=hI (Ext.alloc w4 (.cells (enA ⟨l1,l2,l3,l4,l5,l6,ld⟩) 71))
 have EL:=hI (EnBox.new w4 ⟨l1,l2,l3,l4,l5,l6,ld⟩ 71)
 generalize w4.alloc (.cells (enA ⟨l1,l2,l3,l4,l5,l6,ld⟩) 71)=w5 at *
 replace H:=hI (H.o.ext A5.o)
 replace EB:=hI (EB.o.ext A5.o)
 replace M0:=hI (M0.o.tr (Fm.ext HC.o A5.o) (by unfold two;have:=H1.o;omega))
 replace HC:=hI (HC.o.ext A5.o)
 clear A5
 generalize w4.heap.size=b5 at *
 have m5:=EL.o.c5
 simp only at m5
 have h6:¬ e6<l6:=by have:=HS.o;omega
 obtain ⟨p,cap,h⟩:=H.o
 have HP:=hI h
 clear h
 have hl6:L.length≤1000000:=by omega
 obtain ⟨d0,d1,d2,d3,d4,d5,d6⟩:=EB.o
 have A1:=hI (Ext.alloc w5 (.cells (enA ⟨e1,e2,e3,e4,e5,e6,ed⟩) 71))
 have A2:=hI (A1.o.tr (Ext.drew (w5.alloc (.cells (enA ⟨e1,e2,e3,e4,e5,e6,ed⟩) 71))))
 obtain ⟨a0,a1,a2,a3,a4,a5,a6⟩:=EB.o.ext A1.o
 simp only at d0 d1 d2 d3 d4 d5 d6 a0 a1 a2 a3 a4 a5 a6
 have c0:=HP.o.box.box.c 0 _ rfl
 have b0:=(HP.o.box.ext A1.o).box.c 0 _ rfl
 go_wp2_with fail
 all_goals
  clear m5 h6
  go_region_law (refine step_appC (by rfl) _ _ _ (by rfl) 71 7 64 _ Tryz.underlying43 info_en (by rfl) (by omega) (HC.o.ext A2.o) (HP.o.row.ext A2.o) (by rfl) w5.heap.size 1 (enL ⟨e1,e2,e3,e4,e5,e6,ed⟩) (by rfl) (by rfl) (fun j u hu=>news_at (w:=w5) rfl j u hu) (en_one [⟨e1,e2,e3,e4,e5,e6,ed⟩] (enL ⟨e1,e2,e3,e4,e5,e6,ed⟩) (by simp)) hl6 (by omega) (by have:=H1.o;omega) (fun d=>d=c+1) rfl ?_;intro p4 c4 o4 w4 r4 f4;have D4:=hI ((HP.o.box.ext A2.o).fr f4 (by have:=H1.o;omega) (by omega));have b4:=D4.o.box.c 0 _ rfl;have f40:=D4.o.box.f 0)
  all_goals
   obtain ⟨B5,R5,M5⟩:=app_done (C:=two c) (j:=0) (by unfold two;have:=H1.o;omega) (M0.o.tr (Fm.ext HC.o A2.o) (by unfold two;have:=H1.o;omega)) D4.o f4 r4 (by have:=H1.o;omega) (by have:=H1.o;omega) (.inl rfl) (.inr rfl) (by omega) (.slice p4 (L.length+1) c4)
   have B6:=hI B5
   have R6:=hI R5
   have M6:=hI M5
   clear r4 f4 D4 b4 f40 B5 R5 M5 A1 A2 d0 d1 d2 d3 d4 d5 d6 a0 a1 a2 a3 a4 a5 a6 c0 b0
   go_wp2
   go_ret
   refine ⟨o4,rfl,⟨p4,c4,⟨?_,?_,?_,?_⟩⟩,?_⟩
   ·have:=B6.o
    simpa using this
   ·have:=R6.o
    simpa using this
   ·simp
    omega
   ·intro x hx
    rcases List.mem_append.1 hx with hx | hx
    ·exact HP.o.ok x hx
    ·simp at hx
     subst hx
     exact HE.o
   ·exact M6.o
end
section
open Go Go.Sort Go.RowKit
theorem equalf_any {w:World} {p q:Option Addr} {n m cap c2:Nat} {L M:List EnD} (h:SlS 7 w p n cap (L.map enL)) (h2:SlS 7 w q m c2 (M.map enL)) :
  Calls Tryz.prog 198 #[.slice p n cap,.slice q m c2,.func (.func 199) #[] #[]] w fun e w'=>e=.returned (.bool (eqL L M))∧Ext w w':=by
 have hn:n≤9223372036854775807:=Nat.le_trans h.le h.max
 have N:=hI (en_len h)
 have N2:=hI (en_len h2)
 have S:=hI h
 have S2:=hI h2
 clear h h2
 obtain ⟨B,hB⟩:∃ B,B=eqL L M:=⟨_,rfl⟩
 rw [← hB]
 have HB:=hI hB
 clear hB
 by_cases hnm:n=m
 ·subst hnm
  go_enter Tryz.func198,Tryz.ntmps198
  go_wp2
  go_loopw [17] (fun i wr=>∃ k:Nat,k≤n∧i=.int .i64 (k:Int)∧L.take k=M.take k∧Ext w wr) (fun i _=>n-(intOf i).toNat)
  case atStart=>exact ⟨0,by omega,rfl,rfl,Ext.rfl' _⟩
  case round=>
   obtain ⟨k,hk,rfl,ht,x1⟩:=hrel
   have T:=hI ht
   have X:=hI x1
   clear ht x1
   by_cases hlt:k<n
   ·obtain ⟨b,o,e,hp,hx,c0,c1,c2,c3,c4,c5,c6⟩:=en_at (S.o.ext X.o) k hlt
    have HX:=hI hx
    clear hx
    subst hp
    obtain ⟨f1,f2,f3,f4,f5,f6,dat⟩:=e
    simp only at c0 c1 c2 c3 c4 c5 c6
    obtain ⟨b',o',e',hp',hx',d0,d1,d2,d3,d4,d5,d6⟩:=en_at (S2.o.ext (X.o.tr (Ext.alloc wr (.cells (enA ⟨f1,f2,f3,f4,f5,f6,dat⟩) 71)))) k hlt
    have HX':=hI hx'
    clear hx'
    subst hp'
    obtain ⟨g1,g2,g3,g4,g5,g6,gat⟩:=e'
    simp only at d0 d1 d2 d3 d4 d5 d6
    have EQ:=hI (fun w=>eq_any (a:=⟨f1,f2,f3,f4,f5,f6,dat⟩) (b:=⟨g1,g2,g3,g4,g5,g6,gat⟩) (w:=w))
    replace X:=hI ((X.o.tr (Ext.alloc wr (.cells (enA ⟨f1,f2,f3,f4,f5,f6,dat⟩) 71))).tr (Ext.alloc (wr.alloc (.cells (enA ⟨f1,f2,f3,f4,f5,f6,dat⟩) 71)) (.cells (enA ⟨g1,g2,g3,g4,g5,g6,gat⟩) 71)))
    cases he:eqB ⟨f1,f2,f3,f4,f5,f6,dat⟩ ⟨g1,g2,g3,g4,g5,g6,gat⟩
    ·have hBf:B=false:=by
      rw [HB.o]
      refine eqL_no fun hh=>?_
      have h1:=HX.o
      rw [hh,HX'.o] at h1
      injection h1 with h1
      exact eqB_ne he h1.symm
     subst hBf
     rw [he] at EQ
     clear he
     go_wp2_with fail
     refine (EQ.o _).mono ?_
     rintro e w4 ⟨rfl,x4⟩
     have X4:=hI (X.o.tr x4)
     clear x4
     go_wp2
     go_ret
     exact ⟨rfl,X4.o⟩
    ·have T2:Hid (L.take (k+1)=M.take (k+1)):=hI (by
      rw [List.take_add_one,List.take_add_one,HX.o,HX'.o,T.o,(eqB_iff _ _).1 he])
     rw [he] at EQ
     clear he
     go_wp2_with fail
     refine (EQ.o _).mono ?_
     rintro e w4 ⟨rfl,x4⟩
     have X4:=hI (X.o.tr x4)
     clear x4
     go_wp2
     go_roundw
     case rel=>exact ⟨k+1,by omega,by go_num,T2.o,X4.o⟩
     case measure=>simp [intOf];omega
   ·have hBt:B=true:=by
     rw [HB.o]
     refine (eqL_iff L M).2 ?_
     have h1:=T.o
     rwa [List.take_of_length_le (by rw [N.o];omega),List.take_of_length_le (by rw [N2.o];omega)] at h1
    subst hBt
    go_wp2
    go_ret
    exact ⟨rfl,X.o⟩
 ·have hBf:B=false:=by
   rw [HB.o]
   refine eqL_no fun hh=>hnm ?_
   rw [← N.o,hh,N2.o]
  subst hBf
  have h1:((n:Int) != (m:Int))=true:=bne_iff_ne.2 (by omega)
  have h2:((n:Int)==(m:Int))=false:=beq_eq_false_iff_ne.2 (by omega)
  clear hnm
  go_enter Tryz.func198,Tryz.ntmps198
  go_wp2
  go_ret
  exact ⟨rfl,Ext.rfl' _⟩
end
section
open Go Go.RowKit
theorem ladd_no {w:World} {o:Ow} {c g:Nat} {L:List EnD} {e:EnD} (h:LogV w o c g L) (he:EnOk e) (hm:mayB e=true) (hn:(L.any fun x=>sameB x e)=true) :
  Calls Tryz.prog 167 #[.pointer (some ⟨g,0,none⟩),enV e] w fun r w'=>r=.returned (.bool false)∧Ext w w':=by
 obtain ⟨e1,e2,e3,e4,e5,e6,ed⟩:=e
 have HE:=hI he
 have HM:=hI hm
 have HN:=hI hn
 have A0:=hI (Ext.alloc w (.cells (enA ⟨e1,e2,e3,e4,e5,e6,ed⟩) 71))
 have EB:=hI (EnBox.new w ⟨e1,e2,e3,e4,e5,e6,ed⟩ 71)
 have H:=hI (h.ext A0.o)
 clear h he hm hn
 go_enter Tryz.func167,Tryz.ntmps167
 go_upto_region 1 with fail
 change Code.wp _ _ _ _ (w.alloc (.cells (enA ⟨e1,e2,e3,e4,e5,e6,ed⟩) 71))
 generalize w.alloc (.cells (enA ⟨e1,e2,e3,e4,e5,e6,ed⟩) 71)=w0 at *
 obtain ⟨d0,d1,d2,d3,d4,d5,d6⟩:=EB.o
 simp only at d0 d1 d2 d3 d4 d5 d6
 go_wp2_with fail
 refine (may_any (e:=⟨e1,e2,e3,e4,e5,e6,ed⟩) HE.o).mono ?_
 rw [HM.o]
 rintro x w2 ⟨rfl,x2⟩
 replace H:=hI (H.o.ext x2)
 replace EB:=hI (EB.o.ext x2)
 replace A0:=hI (A0.o.tr x2)
 clear x2 d0 d1 d2 d3 d4 d5 d6
 obtain ⟨d0,d1,d2,d3,d4,d5,d6⟩:=EB.o
 simp only at d0 d1 d2 d3 d4 d5 d6
 go_wp2_with fail
 refine (lhas_any (e:=⟨e1,e2,e3,e4,e5,e6,ed⟩) H.o).mono ?_
 rw [HN.o]
 rintro x w3 ⟨rfl,x3⟩
 replace A0:=hI (A0.o.tr x3)
 clear x3 d0 d1 d2 d3 d4 d5 d6
 go_wp2
 go_ret
 exact ⟨rfl,A0.o⟩
def addL (L:List EnD) (e:EnD):Option (List EnD):=if mayB e&&!(L.any fun x=>sameB x e)&&decide (L.length<60)&&decide ((lastE L).st≤e.st) then some (L++[e]) else none
def addsL (L:List EnD) (M:List EnD):Option (List EnD):=M.foldl (fun o e=>o.bind fun L=>addL L e) (some L)
theorem adds_none (M:List EnD):M.foldl (fun o e=>o.bind fun L=>addL L e) (none:Option (List EnD))=none:=by
 induction M with
 | nil=>rfl
 | cons e M ih=>exact ih
theorem adds_cons {L M R:List EnD} {e:EnD} (h:addsL L (e::M)=some R):∃ L',addL L e=some L'∧addsL L' M=some R:=by
 unfold addsL at h
 rw [List.foldl_cons] at h
 cases ha:addL L e with
 | none=>
  simp only [Option.bind_some,ha] at h
  rw [adds_none] at h
  cases h
 | some L'=>
  simp only [Option.bind_some,ha] at h
  exact ⟨L',rfl,h⟩
theorem addL_some {L L':List EnD} {e:EnD} (h:addL L e=some L'):mayB e=true∧(L.any fun x=>sameB x e)=false∧L.length≤59∧(lastE L).st≤e.st∧L'=L++[e]:=by
 unfold addL at h
 split at h
 ·rename_i hc
  simp only [Bool.and_eq_true,Bool.not_eq_true',decide_eq_true_eq] at hc
  obtain ⟨⟨⟨h1,h2⟩,h3⟩,h4⟩:=hc
  cases h
  exact ⟨h1,h2,by omega,h4,rfl⟩
 ·cases h
theorem ladd_any {w:World} {o:Ow} {c g:Nat} {L L':List EnD} {e:EnD} (hcl:Cl w o) (h:LogV w o c g L) (h1:1<c) (he:EnOk e) (ha:addL L e=some L') :
  Calls Tryz.prog 167 #[.pointer (some ⟨g,0,none⟩),enV e] w fun r w'=>∃ o',r=.returned (.bool true)∧LogV w' o' c g L'∧Fm (two c) o o' w w':=by
 obtain ⟨a,b,d,f,rfl⟩:=addL_some ha
 exact ladd_yes hcl h h1 he a b d f
theorem lnew_any {w:World} {o:Ow} {p:Option Addr} {n cap:Nat} {M L:List EnD} (hcl:Cl w o) (c:Nat) (h1:1<c) (hs:SlC 7 w o p n cap (M.map enL)) (hM:∀ e ∈ M,EnOk e) (ha:addsL [] M=some L) :
  Calls Tryz.prog 128 #[.slice p n cap] w fun r w'=>∃ o' g,r=.returned (.pointer (some ⟨g,0,none⟩))∧LogV w' o' c g L∧w.heap.size≤g∧Fm (two c) o o' w w':=by
 have hn:n≤9223372036854775807:=Nat.le_trans hs.sl.le hs.sl.max
 have N:=hI (en_len hs.sl)
 have HM:=hI hM
 have HA:=hI ha
 have H1:=hI h1
 have M0:Hid (Fm (two c) o (dye o w.heap.size c) w (w.alloc (.cells #[.slice none 0 0] 158))):=hI (Fm.made hcl _ c)
 have L0:Hid (LogV (w.alloc (.cells #[.slice none 0 0] 158)) (dye o w.heap.size c) c w.heap.size []):=hI ⟨none,0,BoxC.made w o c _ _ _ rfl,RowC.nil _ _ _ _ _,by decide,fun e he=>by cases he⟩
 have S:=hI (hs.fr M0.o (by unfold two;omega))
 clear hs hM ha h1 hcl
 go_enter Tryz.func128,Tryz.ntmps128
 go_upto_region 2 with fail
 change Code.wp _ _ _ _ (w.alloc (.cells #[.slice none 0 0] 158))
 generalize w.alloc (.cells #[.slice none 0 0] 158)=w1 at *
 generalize dye o w.heap.size c=o1 at *
 obtain ⟨g,hg⟩:∃ g,g=w.heap.size:=⟨_,rfl⟩
 rw [← hg] at L0 ⊢
 have HGE:Hid (w.heap.size≤g):=hI (by omega)
 clear hg
 go_wp2_with fail
 go_loopw [10] (fun i wr=>∃ (k:Nat) (o':Ow) (L':List EnD),k≤n∧i=.int .i64 (k:Int)∧Hid (LogV wr o' c g L')∧Hid (addsL L' (M.drop k)=some L)∧Hid (SlC 7 wr o' p n cap (M.map enL))∧Hid (Fm (two c) o o' w wr)) (fun i _=>n-(intOf i).toNat)
 case atStart=>exact ⟨0,o1,[],by omega,rfl,L0,hI (by rw [List.drop_zero];exact HA.o),S,M0⟩
 clear L0 S M0 HA
 case round=>
  obtain ⟨k,o',L',hk,rfl,LV,AD,S,M0⟩:=hrel
  by_cases hlt:k<n
  ·obtain ⟨b,oo,e,hp,hx,c0,c1,c2,c3,c4,c5,c6⟩:=en_at S.o.sl k hlt
   have HX:=hI hx
   have hdr:M.drop k=e::M.drop (k+1):=by
    obtain ⟨hkl,rfl⟩:=List.getElem?_eq_some_iff.1 hx
    exact List.drop_eq_getElem_cons hkl
   have had:=AD.o
   rw [hdr] at had
   obtain ⟨L2,ha1,ha2⟩:=adds_cons had
   have HA1:=hI ha1
   have HA2:=hI ha2
   clear hx had ha1 ha2 hdr AD
   subst hp
   have HEO:=hI (HM.o _ (List.mem_of_getElem? HX.o))
   clear HX
   obtain ⟨e1,e2,e3,e4,e5,e6,ed⟩:=e
   simp only at c0 c1 c2 c3 c4 c5 c6
   go_upto_region 5 with fail
   change Code.wp _ _ _ _ (wr.alloc (.cells (enA ⟨e1,e2,e3,e4,e5,e6,ed⟩) 71))
   clear c0 c1 c2 c3 c4 c5 c6
   have A1:=hI (Ext.alloc wr (.cells (enA ⟨e1,e2,e3,e4,e5,e6,ed⟩) 71))
   have EB:=hI (EnBox.new wr ⟨e1,e2,e3,e4,e5,e6,ed⟩ 71)
   generalize wr.alloc (.cells (enA ⟨e1,e2,e3,e4,e5,e6,ed⟩) 71)=w2 at *
   replace LV:=hI (LV.o.ext A1.o)
   replace S:=hI (S.o.ext A1.o)
   have C2:=hI (M0.o.cl.ext A1.o)
   replace M0:=hI (M0.o.tr (Fm.ext M0.o.cl A1.o) (by unfold two;have:=H1.o;omega))
   clear A1
   generalize wr.heap.size=bb at *
   obtain ⟨d0,d1,d2,d3,d4,d5,d6⟩:=EB.o
   simp only at d0 d1 d2 d3 d4 d5 d6
   go_wp2_with fail
   refine (ladd_any (e:=⟨e1,e2,e3,e4,e5,e6,ed⟩) C2.o LV.o H1.o HEO.o HA1.o).mono ?_
   rintro r w3 ⟨o3,rfl,l3,m3⟩
   have L3:=hI l3
   replace S:=hI (S.o.fr m3 (by unfold two;have:=H1.o;omega))
   replace M0:=hI (M0.o.tr m3 (by unfold two;have:=H1.o;omega))
   clear l3 m3 d0 d1 d2 d3 d4 d5 d6 EB LV C2
   go_wp2
   go_roundw
   case rel=>exact ⟨k+1,o3,L2,by omega,by go_num,L3,HA2,S,M0⟩
   case measure=>simp [intOf];omega
  ·have hkn:k=n:=by omega
   have HL:Hid (L'=L):=hI (by
    have:=AD.o
    rw [List.drop_of_length_le (by rw [N.o];omega)] at this
    simpa [addsL] using this)
   clear hkn
   go_wp2
   go_ret
   exact ⟨o',g,rfl,by rw [← HL.o];exact LV.o,HGE.o,M0.o⟩
end
section
open Go Go.RowKit
theorem encut_mid (p:Option Addr) (n cap i j:Nat) (hij:i≤j) (hj:j≤cap) (w:World):(Instr.slice 43 (.slice p n cap) (some (.int .i64 (i:Int))) (some (.int .i64 (j:Int))) none).run Tryz.prog w=.ok (.slice (tailS 7 p cap i) (j-i) (cap-i)) w:=by
 have he:Tryz.prog.elem 43=71:=by simp [Program.elem,Tryz.underlying43]
 have h:=run_slice_lh (P:=Tryz.prog) w 43 p n cap (by rw [he];exact Tryz.underlying43) .i64 .i64 (i:Int) (j:Int) (by omega) (by omega) (by omega)
 have hsz:(sizeOf 71).run Tryz.prog w=.ok 7 w:=by kernel_rfl
 rw [h,he,hsz]
 simp only [Result.andThen_ok,sliced,Int.toNat_natCast]
 rfl
theorem encut_to (p:Option Addr) (n cap k:Nat) (hk:k≤cap) (w:World):(Instr.slice 43 (.slice p n cap) none (some (.int .i64 (k:Int))) none).run Tryz.prog w=.ok (.slice p k cap) w:=
 run_cutS_to 7 43 71 Tryz.underlying43 (fun w=>by kernel_rfl) p n cap k hk w
theorem log_fork {w w2:World} {o:Ow} {c g c6:Nat} {p p6:Option Addr} {cap:Nat} {L:List EnD} (hcl:Cl w o) (h:LogP w o c g p cap L) (h1:1<c) (x:Ext w w2) (o6:OwS 71 7 w2 w.heap.size p6 L.length c6 (L.map enL)) :
  ∃ o3,LogP (w2.alloc (.cells #[.slice p6 L.length c6] 158)) o3 c w2.heap.size p6 c6 L∧BoxC (w2.alloc (.cells #[.slice p6 L.length c6] 158)) o3 0 g [.slice p L.length cap]∧Fm (two c) o o3 w (w2.alloc (.cells #[.slice p6 L.length c6] 158)):=by
 have h00:¬ two c 0:=by unfold two;omega
 have hsz:=x.size
 have hbg:=h.box.box.hi
 have M1:Fm (two c) o (dye o g 0) w w2:=(Fm.ext hcl x).free (by rw [h.box.col];omega) (by rw [h.box.col];exact .inl rfl)
 -- the elder row
 obtain ⟨o2,M2,hg2,hrow⟩:∃ o2,Fm (two c) o o2 w w2∧o2 g=0∧∀ i,i≠g→p.map (·.block)≠some i→o2 i=o i:=by
  cases hp:p.map (·.block) with
  | none=>exact ⟨_,M1,dye_same _ _ _,fun i hi _=>dye_other hi⟩
  | some b=>
   have hb:o b=c+1:=h.row.col b hp
   have hbne:b≠g:=fun e=>by rw [e,h.box.col] at hb;omega
   refine ⟨dye (dye o g 0) b 0,M1.free (by rw [dye_other hbne,hb];omega) (by rw [dye_other hbne,hb];exact .inr rfl),?_,fun i hi hib=>?_⟩
   ·rw [dye_other (fun e=>hbne e.symm)]
    exact dye_same _ _ _
   ·rw [dye_other (fun e=>hib (by rw [e])),dye_other hi]
 have M3:Fm (two c) o o2 w (w2.alloc (.cells #[.slice p6 L.length c6] 158)):=M2.tr (Fm.ext M2.cl (Ext.alloc w2 _)) h00
 have M4:=M3.paint (b:=w2.heap.size) c hsz (by simp)
 have X2:=x.tr (Ext.alloc w2 (.cells #[.slice p6 L.length c6] 158))
 have B6:BoxV (w2.alloc (.cells #[.slice p6 L.length c6] 158)) 0 w2.heap.size [.slice p6 L.length c6]:=BoxV.new w2 0 _ _ _ _ rfl (Nat.zero_le _) rfl
 have O6:OwS 71 7 (w2.alloc (.cells #[.slice p6 L.length c6] 158)) 0 p6 L.length c6 (L.map enL):=(o6.ext (Ext.alloc w2 _)).mono (Nat.zero_le _)
 cases hp6:p6.map (·.block) with
 | none=>
  refine ⟨_,⟨⟨dye_same _ _ _,B6⟩,⟨O6,fun k hk=>by rw [hp6] at hk;cases hk⟩,h.max,h.ok⟩,⟨?_,h.box.box.ext X2⟩,M4⟩
  rw [dye_other (by omega)]
  exact hg2
 | some b6=>
  obtain ⟨l1,l2⟩:=o6.lt b6 hp6
  have hb6:b6≠w2.heap.size:=by omega
  refine ⟨_,⟨⟨?_,B6⟩,⟨O6,fun k hk=>?_⟩,h.max,h.ok⟩,⟨?_,h.box.box.ext X2⟩,M4.paint (b:=b6) (c+1) l1 (by simp;omega)⟩
  ·rw [dye_other (fun e=>hb6 e.symm)]
   exact dye_same _ _ _
  ·rw [hp6] at hk
   cases hk
   exact dye_same _ _ _
  ·rw [dye_other (by omega),dye_other (by omega)]
   exact hg2
theorem log_join {w w4:World} {o o4:Ow} {c g gx cx:Nat} {px:Option Addr} {vs:List Value} {L:List EnD} (h1:1<c) (hg:g<w.heap.size) (hc:o g=c) (hl:vs.length=1) (h:LogP w4 o4 c gx px cx L) (b:BoxC w4 o4 0 g vs) (m:Fm (two c) o o4 w w4) :
  ∃ o5,LogV (w4.setCell ⟨g,0,none⟩ (.slice px L.length cx)) o5 c g L∧Fm (two c) o o5 w (w4.setCell ⟨g,0,none⟩ (.slice px L.length cx)):=by
 have hgx:gx≠g:=fun e=>by
  have:=h.box.col
  rw [e,b.col] at this
  omega
 have M1:=m.free (b:=gx) (by rw [h.box.col];omega) (by rw [h.box.col];exact .inl rfl)
 have M2:=M1.back hg hc (by omega) (.inl rfl) 0 (.slice px L.length cx)
 refine ⟨_,⟨px,cx,⟨⟨dye_same _ _ _,?_⟩,⟨?_,fun k hk=>?_⟩,h.max,h.ok⟩⟩,M2⟩
 ·have:=b.box.put 0 (.slice px L.length cx)
  match vs,hl with
  | [v],_=>exact this
 ·have k:=Fm.grown (C:=fun d=>d=0) m.cl (grown_put (grown_refl w4 (some g)) 0 (.slice px L.length cx)) (fun i hi=>by cases hi;rw [b.col];exact ⟨by decide,rfl⟩)
  exact h.row.row.fr k (fun i hi=>by rw [h.row.col i hi];omega)
 ·have hk4:=h.row.col k hk
  have e1:k≠g:=fun e=>by rw [e,b.col] at hk4;omega
  have e2:k≠gx:=fun e=>by rw [e,h.box.col] at hk4;omega
  rw [dye_other e1,dye_other e2]
  exact hk4
theorem lput_any {w:World} {o:Ow} {c g a hv:Nat} {L L' M:List EnD} {q:Option Addr} {n c2:Nat} (hcl:Cl w o) (h:LogV w o c g L) (h1:1<c) (ha:a≤L.length) (hs:SlC 7 w o q n c2 (M.map enL)) (hM:∀ e ∈ M,EnOk e)
  (hhv:hv=min (L.length-a) M.length) (heq:eqL ((L.drop a).take hv) (M.take hv)=true) (had:addsL L (M.drop hv)=some L') (hn6:n≤1000000) :
  Calls Tryz.prog 182 #[.pointer (some ⟨g,0,none⟩),.int .i64 (a:Int),.slice q n c2] w fun r w'=>∃ o',r=.returned (.bool true)∧LogV w' o' c g L'∧Fm (two c) o o' w w':=by
 obtain ⟨p,cap,h⟩:=h
 have N:=en_len hs.sl
 have hm:=h.max
 have hcap:=h.row.row.sl.le
 have hc2:=hs.sl.le
 have hva:hv≤L.length-a:=by rw [hhv];exact Nat.min_le_left _ _
 have hvn:hv≤n:=by rw [hhv,← N];exact Nat.min_le_right _ _
 have HV:Hid (hv=min (L.length-a) n):=hI (by rw [hhv,N])
 have HP:=hI h
 have S:=hI hs
 have HEQ:=hI heq
 have HAD:=hI had
 have HM:=hI hM
 have H1:=hI h1
 have HC:=hI hcl
 have HN:=hI N
 have c0:=h.box.box.c 0 _ rfl
 have c0d:=(h.box.ext (Ext.drew w)).box.c 0 _ rfl
 clear h hs heq had hM h1 hcl hhv N
 have a1:¬ (L.length:Int)<(a:Int):=by omega
 have e1:wrap64 ((L.length:Int)-(a:Int))=(L.length:Int)-(a:Int):=by unfold wrap64;omega
 go_enter Tryz.func182,Tryz.ntmps182
 go_upto_region 3 with fail
 go_cut [7] (fun s7 wx=>s7=.int .i64 (hv:Int)∧wx=w)
 case first=>
  by_cases hlt:L.length-a<n
  ·have b1:(L.length:Int)-(a:Int)<(n:Int):=by omega
   have b2:¬ (n:Int)<(L.length:Int)-(a:Int):=by omega
   have b3:(L.length:Int)-(a:Int)≤(n:Int):=by omega
   go_wp2
   go_meet
   exact ⟨by rw [HV.o,Nat.min_eq_left (by omega)];congr 1;omega,rfl⟩
  ·have b1:¬ (L.length:Int)-(a:Int)<(n:Int):=by omega
   by_cases heq:L.length-a=n
   ·have b2:(L.length:Int)-(a:Int)=(n:Int):=by omega
    rw [b2] at e1
    go_wp2
    go_meet
    exact ⟨by rw [HV.o,heq,Nat.min_self],rfl⟩
   ·have b2:(n:Int)<(L.length:Int)-(a:Int):=by omega
    have b3:¬ (L.length:Int)-(a:Int)≤(n:Int):=by omega
    go_wp2
    go_meet
    exact ⟨by rw [HV.o,Nat.min_eq_right (by omega)],rfl⟩
 case rest=>
 obtain ⟨rfl,rfl⟩:=hcut
 have HG:=hI (And.intro HP.o.box.box.hi HP.o.box.col)
 have MZ:Hid (Fm (two c) o o wc wc.drew):=hI (Fm.drew HC.o)
 have cut1:∀ w,(Instr.slice 43 (.slice p L.length cap) (some (.int .i64 (a:Int))) (some (.int .i64 ((a:Int)+(hv:Int)))) none).run Tryz.prog w=.ok (.slice (tailS 7 p cap a) hv (cap-a)) w:=fun w=>by
  have:=encut_mid p L.length cap a (a+hv) (by omega) (by omega) w
  rw [show a+hv-a=hv by omega] at this
  simpa using this
 have cut2:=fun w=>encut_to q n c2 hv (by omega) w
 have e2:IntKind.i64.wrap ((a:Int)+(hv:Int))=(a:Int)+(hv:Int):=IntWalk.i64_in _ (by omega)
 obtain ⟨w9,hw9⟩:∃ w9,w9=wc.drew:=⟨_,rfl⟩
 replace HP:Hid (LogP w9 o c g p cap L):=hI (by rw [hw9];exact HP.o.ext (Ext.drew wc))
 replace S:Hid (SlC 7 w9 o q n c2 (M.map enL)):=hI (by rw [hw9];exact S.o.ext (Ext.drew wc))
 replace MZ:Hid (Fm (two c) o o wc w9):=hI (by rw [hw9];exact MZ.o)
 clear c0 c0d a1 e1 HC
 have r0:=fun d os=>Ext.cell (Ext.reg w9 d os) (HP.o.box.box.c 0 _ rfl)
 have SA:Hid (SlS 7 w9 (tailS 7 p cap a) hv (cap-a) (((L.drop a).take hv).map enL)):=hI (by
  have:=(HP.o.row.row.sl.drop a ha).take hv hva
  rwa [← List.map_drop,← List.map_take] at this)
 have SB:Hid (SlS 7 w9 q hv c2 ((M.take hv).map enL)):=hI (by
  have:=S.o.sl.take hv hvn
  rwa [← List.map_take] at this)
 go_upto_region 4 with fail
 refine att [0,1,2,3,4,5,6,7,8,9,10,11,12,13] [] ?_
 rw [← hw9]
 clear hw9
 repeat ((first|refine aqq fun K hK=>?_|refine akk fun K hK=>?_);go_big_quiet_op;refine hK _ ?_;clear hK K)
 clear r0 cut1 cut2 e2
 refine acc fun K hK=>?_
 go_simp
 refine (equalf_any SA.o SB.o).mono ?_
 rw [HEQ.o]
 rintro e w5 ⟨rfl,x5⟩
 have X5:=hI x5
 refine hK _ _ x5 ?_
 clear hK K x5 SA SB
 replace HP:=hI (HP.o.ext X5.o)
 replace S:=hI (S.o.ext X5.o)
 replace MZ:=hI (MZ.o.tr (Fm.ext MZ.o.cl X5.o) (by unfold two;have:=H1.o;omega))
 clear X5
 repeat ((first|refine aqq fun K hK=>?_|refine akk fun K hK=>?_);go_big_quiet_op;refine hK _ ?_;clear hK K)
 refine ra_nil ?_
 refine rt_nil ?_
 have c0:=HP.o.box.box.c 0 _ rfl
 have hl6:L.length≤1000000:=by omega
 go_wp2_with fail
 refine (eclone_any HP.o.row.row.sl (en_one _) hl6).mono ?_
 rintro e w6 ⟨p6,c6,rfl,o6,x6⟩
 go_upto_region 7 with fail
 change Code.wp _ _ _ _ (w6.alloc (.cells #[.slice p6 L.length c6] 158))
 obtain ⟨o3,l3,b3,m3⟩:=log_fork MZ.o.cl HP.o H1.o x6 o6
 have L3:Hid (LogV (w6.alloc (.cells #[.slice p6 L.length c6] 158)) o3 c w6.heap.size L):=hI ⟨_,_,l3⟩
 have B3:=hI b3
 replace S:=hI (S.o.fr m3 (by unfold two;have:=H1.o;omega))
 have M3:=hI (MZ.o.tr m3 (by unfold two;have:=H1.o;omega))
 clear l3 b3 m3 o6 x6 MZ HP c0
 generalize w6.alloc (.cells #[.slice p6 L.length c6] 158)=w7 at *
 generalize w6.heap.size=gx at *
 have cut3:=encut_from q n c2 hv hvn
 have ST:Hid (SlC 7 w7 o3 (tailS 7 q c2 hv) (n-hv) (c2-hv) ((M.drop hv).map enL)):=hI (by
  have:=S.o.drop hv hvn
  rwa [← List.map_drop] at this)
 have HML:Hid ((M.drop hv).length=n-hv):=hI (by rw [List.length_drop,HN.o])
 have HMO:Hid (∀ e ∈ M.drop hv,EnOk e):=hI (fun e he=>HM.o e (List.mem_of_mem_drop he))
 have hnv:n-hv≤1000000:=by omega
 go_wp2_with fail
 clear cut3 S HM HN HEQ HV hva hvn
 generalize M.drop hv=R at *
 generalize tailS 7 q c2 hv=qt at *
 generalize n-hv=nt at *
 generalize c2-hv=ct at *
 go_loopw [61] (fun i wr=>∃ (k:Nat) (o':Ow) (L2:List EnD),k≤nt∧i=.int .i64 (k:Int)∧Hid (LogV wr o' c gx L2)∧Hid (BoxC wr o' 0 g [.slice p L.length cap])∧Hid (addsL L2 (R.drop k)=some L')∧Hid (SlC 7 wr o' qt nt ct (R.map enL))∧Hid (Fm (two c) o o' wc wr)) (fun i _=>nt-(intOf i).toNat)
 case atStart=>exact ⟨0,o3,L,by omega,rfl,L3,B3,hI (by rw [List.drop_zero];exact HAD.o),ST,M3⟩
 clear L3 ST M3 HAD B3
 case round=>
  obtain ⟨k,o',L2,hk,rfl,LV,BG,AD,S,M0⟩:=hrel
  by_cases hlt:k<nt
  ·obtain ⟨b,oo,e,hp,hx,c0,c1,c2',c3,c4,c5,c6'⟩:=en_at S.o.sl k hlt
   have HX:=hI hx
   have hdr:R.drop k=e::R.drop (k+1):=by
    obtain ⟨hkl,rfl⟩:=List.getElem?_eq_some_iff.1 hx
    exact List.drop_eq_getElem_cons hkl
   have had:=AD.o
   rw [hdr] at had
   obtain ⟨L4,ha1,ha2⟩:=adds_cons had
   have HA1:=hI ha1
   have HA2:=hI ha2
   clear hx had ha1 ha2 hdr AD
   subst hp
   have HEO:=hI (HMO.o _ (List.mem_of_getElem? HX.o))
   clear HX
   obtain ⟨e1,e2,e3,e4,e5,e6,ed⟩:=e
   simp only at c0 c1 c2' c3 c4 c5 c6'
   go_upto_region 10 with fail
   change Code.wp _ _ _ _ (wr.alloc (.cells (enA ⟨e1,e2,e3,e4,e5,e6,ed⟩) 71))
   clear c0 c1 c2' c3 c4 c5 c6'
   have A1:=hI (Ext.alloc wr (.cells (enA ⟨e1,e2,e3,e4,e5,e6,ed⟩) 71))
   have EB:=hI (EnBox.new wr ⟨e1,e2,e3,e4,e5,e6,ed⟩ 71)
   generalize wr.alloc (.cells (enA ⟨e1,e2,e3,e4,e5,e6,ed⟩) 71)=w2 at *
   replace LV:=hI (LV.o.ext A1.o)
   replace BG:=hI (BG.o.ext A1.o)
   replace S:=hI (S.o.ext A1.o)
   have C2:=hI (M0.o.cl.ext A1.o)
   replace M0:=hI (M0.o.tr (Fm.ext M0.o.cl A1.o) (by unfold two;have:=H1.o;omega))
   clear A1
   generalize wr.heap.size=bb at *
   obtain ⟨d0,d1,d2,d3,d4,d5,d6⟩:=EB.o
   simp only at d0 d1 d2 d3 d4 d5 d6
   go_wp2_with fail
   refine (ladd_any (e:=⟨e1,e2,e3,e4,e5,e6,ed⟩) C2.o LV.o H1.o HEO.o HA1.o).mono ?_
   rintro r w3 ⟨o4,rfl,l3,m3⟩
   have L3:=hI l3
   replace S:=hI (S.o.fr m3 (by unfold two;have:=H1.o;omega))
   replace BG:=hI (BG.o.fr m3 (by omega) (by unfold two;have:=H1.o;omega))
   replace M0:=hI (M0.o.tr m3 (by unfold two;have:=H1.o;omega))
   clear l3 m3 d0 d1 d2 d3 d4 d5 d6 EB LV C2
   go_wp2
   go_roundw
   case rel=>exact ⟨k+1,o4,L4,by omega,by go_num,L3,BG,HA2,S,M0⟩
   case measure=>simp [intOf];omega
  ·have hkn:k=nt:=by omega
   have HL:Hid (L2=L'):=hI (by
    have:=AD.o
    rw [List.drop_of_length_le (by rw [HML.o];omega)] at this
    simpa [addsL] using this)
   clear hkn
   obtain ⟨px,cx,lp⟩:=LV.o
   have LP:=hI lp
   have d0:=lp.box.box.c 0 _ rfl
   have g0:=BG.o.box.c 0 _ rfl
   have gf:=BG.o.box.f 0
   clear lp
   go_wp2
   go_ret
   obtain ⟨o5,l5,m5⟩:=log_join H1.o HG.o.1 HG.o.2 rfl LP.o BG.o M0.o
   exact ⟨o5,rfl,by rw [← HL.o];exact l5,m5⟩
end
section
open Go Go.Sort Go.RowKit
structure PnP (w:World) (o:Ow) (c g:Nat) (p:Option Addr) (cap:Nat) (fr bt sq:Int) (L:List EnD):Prop where
 box:BoxC w o c g [.int .i64 fr,.int .i64 bt,.int .i64 sq,.slice p L.length cap]
 row:RowC 71 7 w o (c+1) p L.length cap (L.map enL)
 ok:∀ e ∈ L,EnOk e
 le:L.length≤60
def PnV (w:World) (o:Ow) (c g:Nat) (fr bt sq:Int) (L:List EnD):Prop:=∃ p cap,PnP w o c g p cap fr bt sq L
theorem PnP.fr' {C:Nat→Prop} {w w':World} {o o':Ow} {c g cap:Nat} {p:Option Addr} {fr bt sq:Int} {L:List EnD} (h:PnP w o c g p cap fr bt sq L) (k:Fm C o o' w w') (h1:1<c) (hc:¬ C c) (hc':¬ C (c+1)):PnP w' o' c g p cap fr bt sq L:=
 ⟨h.box.fr k (by omega) hc,h.row.fr k (by omega) hc',h.ok,h.le⟩
theorem PnV.fr' {C:Nat→Prop} {w w':World} {o o':Ow} {c g:Nat} {fr bt sq:Int} {L:List EnD} (h:PnV w o c g fr bt sq L) (k:Fm C o o' w w') (h1:1<c) (hc:¬ C c) (hc':¬ C (c+1)):PnV w' o' c g fr bt sq L:=by
 obtain ⟨p,cap,h⟩:=h
 exact ⟨p,cap,h.fr' k h1 hc hc'⟩
theorem PnP.ext {w w':World} {o:Ow} {c g cap:Nat} {p:Option Addr} {fr bt sq:Int} {L:List EnD} (h:PnP w o c g p cap fr bt sq L) (k:Ext w w'):PnP w' o c g p cap fr bt sq L:=⟨h.box.ext k,h.row.ext k,h.ok,h.le⟩
theorem PnV.ext {w w':World} {o:Ow} {c g:Nat} {fr bt sq:Int} {L:List EnD} (h:PnV w o c g fr bt sq L) (k:Ext w w'):PnV w' o c g fr bt sq L:=by
 obtain ⟨p,cap,h⟩:=h
 exact ⟨p,cap,h.ext k⟩
theorem nnewp_any {w:World} {o:Ow} (h:Cl w o) (c:Nat) (C:Nat→Prop) {fr bt:Int} (hf:isId fr) (hb:1≤bt∧bt≤1099511627776) :
  Calls Tryz.prog 129 #[.int .i64 fr,.int .i64 bt] w fun e w'=>∃ o',e=.returned (.pointer (some ⟨w.heap.size,0,none⟩))∧PnV w' o' c w.heap.size fr bt 0 []∧Fm C o o' w w':=by
 have H:=hI h
 obtain ⟨f1,f2⟩:=hf
 obtain ⟨b1,b2⟩:=hb
 clear h
 go_enter Tryz.func129,Tryz.ntmps129
 go_wp2
 go_ret
 exact ⟨_,rfl,⟨none,0,BoxC.made w o c _ _ _ rfl,RowC.nil _ _ _ _ _,(fun e he=>by cases he),by decide⟩,Fm.made H.o _ c⟩
theorem nlenp_any {w:World} {o:Ow} {c g:Nat} {fr bt sq:Int} {L:List EnD} (h:PnV w o c g fr bt sq L) :
  Calls Tryz.prog 190 #[.pointer (some ⟨g,0,none⟩)] w fun e w'=>e=.returned (.int .i64 (L.length:Int))∧w=w':=by
 obtain ⟨p,cap,h⟩:=h
 have c3:=h.box.box.c 3 _ rfl
 clear h
 go_enter Tryz.func190,Tryz.ntmps190
 go_wp2
 go_ret
 exact ⟨rfl,rfl⟩
theorem nlistp_any {w:World} {o:Ow} {c g:Nat} {fr bt sq:Int} {L:List EnD} (h:PnV w o c g fr bt sq L) :
  Calls Tryz.prog 139 #[.pointer (some ⟨g,0,none⟩)] w fun e w'=>∃ p' cap',e=.returned (.slice p' L.length cap')∧OwS 71 7 w' w.heap.size p' L.length cap' (L.map enL)∧Ext w w':=by
 obtain ⟨p,cap,h⟩:=h
 have c3:=h.box.box.c 3 _ rfl
 have hl:=h.le
 have hl6:L.length≤1000000:=by omega
 have H:=hI h
 clear h
 go_enter Tryz.func139,Tryz.ntmps139
 go_wp2_with fail
 refine (eclone_any H.o.row.row.sl (en_one _) hl6).mono ?_
 rintro e w2 ⟨p2,c2,rfl,o2,x2⟩
 have O2:=hI o2
 have X2:=hI x2
 clear o2 x2 c3
 go_wp2
 go_ret
 exact ⟨_,_,rfl,O2.o,X2.o⟩
end
section
open Go Go.Sort Go.RowKit
structure TdD where
 at':Int
 e:EnD
def tdL (x:TdD):List Value:=.int .i64 x.at'::enL x.e
abbrev tdA (x:TdD):Array Value:=#[.int .i64 x.at',.int .i64 x.e.fr,.int .i64 x.e.bt,.int .i64 x.e.sq,.int .i64 x.e.od,.int .i64 x.e.lv,.int .i64 x.e.st,.string x.e.da]
abbrev tdV (x:TdD):Value:=.agg (tdA x)
theorem td_one (L:List TdD):∀ r ∈ L.map tdL,∀ u ∈ r,u.oneCell'=true:=by
 intro r hr u hu
 obtain ⟨e,-,rfl⟩:=List.mem_map.1 hr
 simp [tdL,enL] at hu
 rcases hu with rfl | rfl | rfl | rfl | rfl | rfl | rfl | rfl <;> rfl
theorem td_at {w:World} {p:Option Addr} {n cap:Nat} {L:List TdD} (h:SlS 8 w p n cap (L.map tdL)) (k:Nat) (hk:k<n) :
  ∃ b o x,p=some ⟨b,o,none⟩∧L[k]?=some x∧w.cell? ⟨b,o+k * 8,none⟩=some (.int .i64 x.at')∧w.cell? ⟨b,o+k * 8+1,none⟩=some (.int .i64 x.e.fr)∧w.cell? ⟨b,o+k * 8+2,none⟩=some (.int .i64 x.e.bt)∧w.cell? ⟨b,o+k * 8+3,none⟩=some (.int .i64 x.e.sq) ∧
   w.cell? ⟨b,o+k * 8+4,none⟩=some (.int .i64 x.e.od)∧w.cell? ⟨b,o+k * 8+5,none⟩=some (.int .i64 x.e.lv)∧w.cell? ⟨b,o+k * 8+6,none⟩=some (.int .i64 x.e.st)∧w.cell? ⟨b,o+k * 8+7,none⟩=some (.string x.e.da):=by
 obtain ⟨b,o,x,hp,hx,-,hc⟩:=h.at k hk
 rw [List.getElem?_map] at hx
 obtain ⟨e,he,rfl⟩:=Option.map_eq_some_iff.1 hx
 exact ⟨b,o,e,hp,he,hc 0 _ rfl,hc 1 _ rfl,hc 2 _ rfl,hc 3 _ rfl,hc 4 _ rfl,hc 5 _ rfl,hc 6 _ rfl,hc 7 _ rfl⟩
theorem td_len {w:World} {p:Option Addr} {n cap:Nat} {L:List TdD} (h:SlS 8 w p n cap (L.map tdL)):L.length=n:=by have:=h.len;simpa using this
theorem info_td:(Tryz.prog.info? 109).map (fun i=>(i.zero,i.size,i.bytes))=some (some (tdV ⟨0,zeroE⟩),8,72):=by kernel_rfl
theorem q_tclone:∀ (w:World) (a:Option Addr) (n c n' c':Nat),(binOp .eql 55 (.slice a n c) (.slice none n' c')).run Tryz.prog w=.ok (.bool a.isNone) w:=fun w a n c n' c'=>Lib.run_eql_slice_nil w _ _ a n c n' c' Tryz.underlying55
theorem tclone_any {w:World} {p:Option Addr} {n cap:Nat} {L:List (List Value)} (h:SlS 8 w p n cap L) (hone:∀ r ∈ L,∀ u ∈ r,u.oneCell'=true) (hn:n≤1000000) :
  Calls Tryz.prog 77 #[.slice p n cap] w fun e w'=>∃ p' cap',e=.returned (.slice p' n cap')∧OwS 109 8 w' w.heap.size p' n cap' L∧Ext w w':=by
 have q22:=q_tclone
 obtain ⟨i0,hi0,hz0,hz1,hz2⟩:=info_parts' info_td
 have HI0:=hI hi0
 clear hi0
 cases p with
 | none=>
  have hc0:=h.nil rfl
  have hle:=h.le
  have hl:=h.len
  obtain rfl:cap=0:=hc0
  obtain rfl:n=0:=by omega
  obtain rfl:L=[]:=List.eq_nil_of_length_eq_zero hl
  clear h hl hle hone
  go_enter Tryz.func77,Tryz.ntmps77
  go_wp2
  go_ret
  exact ⟨_,_,rfl,OwS.nil _ _ _ _,Ext.rfl' _⟩
 | some a=>
  have H:=hI h
  have HO:=hI hone
  clear h hone
  have A1:=hI (Ext.alloc w (.cells #[] 109))
  have OM:Hid (OwS 109 8 (w.alloc (.cells #[] 109)) w.heap.size (some ⟨w.heap.size,0,none⟩) 0 0 []):=hI (OwS.made w w.heap.size 0 #[] [] (Nat.le_refl _) rfl (fun x hx=>by cases hx) rfl (by omega))
  have hb:w.heap.size≤(w.alloc (.cells #[] 109)).heap.size:=A1.o.size
  have hby:(0+n) * 72≤140737488355328:=by omega
  have hmx:0+n≤140737488355328:=by omega
  go_enter Tryz.func77,Tryz.ntmps77
  go_wp2_with (at_builtin;refine wpList_appS rfl _ _ 55 rfl w.heap.size Tryz.underlying55 i0 _ 72 HI0.o hz0 hz1 hz2 rfl (by decide) (some ⟨w.heap.size,0,none⟩) 0 0 [] rfl OM.o (some a) n cap L rfl (H.o.ext A1.o) HO.o hby hmx hb ?_)
  intro p' cap' w1 hown hg
  have O1:Hid (OwS 109 8 w1 w.heap.size p' n cap' L):=hI (by simpa using hown)
  have G1:=hI hg
  clear hown hg
  try simp only [Nat.zero_add]
  go_wp2
  go_ret
  exact ⟨_,_,rfl,O1.o,Below.grown A1.o G1.o hb (fun k hk=>by simp at hk;omega)⟩
structure RdP (w:World) (o:Ow) (c g:Nat) (p:Option Addr) (cap:Nat) (L:List TdD):Prop where
 box:BoxC w o c g [.slice p L.length cap]
 row:RowC 109 8 w o (c+1) p L.length cap (L.map tdL)
 max:L.length≤100000
def RdV (w:World) (o:Ow) (c g:Nat) (L:List TdD):Prop:=∃ p cap,RdP w o c g p cap L
theorem RdP.fr {C:Nat→Prop} {w w':World} {o o':Ow} {c g cap:Nat} {p:Option Addr} {L:List TdD} (h:RdP w o c g p cap L) (k:Fm C o o' w w') (h1:1<c) (hc:¬ C c) (hc':¬ C (c+1)):RdP w' o' c g p cap L:=
 ⟨h.box.fr k (by omega) hc,h.row.fr k (by omega) hc',h.max⟩
theorem RdP.ext {w w':World} {o:Ow} {c g cap:Nat} {p:Option Addr} {L:List TdD} (h:RdP w o c g p cap L) (k:Ext w w'):RdP w' o c g p cap L:=⟨h.box.ext k,h.row.ext k,h.max⟩
theorem RdV.fr {C:Nat→Prop} {w w':World} {o o':Ow} {c g:Nat} {L:List TdD} (h:RdV w o c g L) (k:Fm C o o' w w') (h1:1<c) (hc:¬ C c) (hc':¬ C (c+1)):RdV w' o' c g L:=by
 obtain ⟨p,cap,h⟩:=h
 exact ⟨p,cap,h.fr k h1 hc hc'⟩
theorem RdV.ext {w w':World} {o:Ow} {c g:Nat} {L:List TdD} (h:RdV w o c g L) (k:Ext w w'):RdV w' o c g L:=by
 obtain ⟨p,cap,h⟩:=h
 exact ⟨p,cap,h.ext k⟩
theorem rnew_any {w:World} {o:Ow} (h:Cl w o) (c:Nat) (C:Nat→Prop) :
  Calls Tryz.prog 130 #[] w fun e w'=>∃ o',e=.returned (.pointer (some ⟨w.heap.size,0,none⟩))∧RdV w' o' c w.heap.size []∧Fm C o o' w w':=by
 have H:=hI h
 clear h
 go_enter Tryz.func130,Tryz.ntmps130
 go_wp2
 go_ret
 exact ⟨_,rfl,⟨none,0,BoxC.made w o c _ _ _ rfl,RowC.nil _ _ _ _ _,by decide⟩,Fm.made H.o _ c⟩
theorem rtold_any {w:World} {o:Ow} {c g:Nat} {L:List TdD} (h:RdV w o c g L) :
  Calls Tryz.prog 52 #[.pointer (some ⟨g,0,none⟩)] w fun e w'=>∃ p' cap',e=.returned (.slice p' L.length cap')∧OwS 109 8 w' w.heap.size p' L.length cap' (L.map tdL)∧Ext w w':=by
 obtain ⟨p,cap,h⟩:=h
 have c3:=h.box.box.c 0 _ rfl
 have hl:=h.max
 have hl6:L.length≤1000000:=by omega
 have H:=hI h
 clear h
 go_enter Tryz.func52,Tryz.ntmps52
 go_wp2_with fail
 refine (tclone_any H.o.row.row.sl (td_one _) hl6).mono ?_
 rintro e w2 ⟨p2,c2,rfl,o2,x2⟩
 have O2:=hI o2
 have X2:=hI x2
 clear o2 x2 c3
 go_wp2
 go_ret
 exact ⟨_,_,rfl,O2.o,X2.o⟩
theorem rhas1_any {w:World} {g:Nat} {x:TdD} {e:EnD} (h:EnBox w g e) :
  Calls Tryz.prog 205 #[tdV x,.pointer (some ⟨g,0,none⟩)] w fun r w'=>r=.returned (.bool (sameB x.e e))∧Ext w w':=by
 have B1:=hI (h.ext (Ext.alloc w (.cells (tdA x) 109)))
 obtain ⟨xa,⟨f1,f2,f3,f4,f5,f6,fd⟩⟩:=x
 obtain ⟨g1,g2,g3,g4,g5,g6,gd⟩:=e
 have B0:=hI (BoxV.new w 0 (tdA ⟨xa,⟨f1,f2,f3,f4,f5,f6,fd⟩⟩) (tdL ⟨xa,⟨f1,f2,f3,f4,f5,f6,fd⟩⟩) 109 _ rfl (Nat.zero_le _) rfl)
 clear h
 have ⟨d0,d1,d2,d3,d4,d5,d6⟩:=B1.o
 have c1:=B0.o.c 1 _ rfl
 have c2:=B0.o.c 2 _ rfl
 have c3:=B0.o.c 3 _ rfl
 have c4:=B0.o.c 4 _ rfl
 have c5:=B0.o.c 5 _ rfl
 have c6:=B0.o.c 6 _ rfl
 have c7:=B0.o.c 7 _ rfl
 simp only at c1 c2 c3 c4 c5 c6 c7 d0 d1 d2 d3 d4 d5 d6
 go_enter Tryz.func205,Tryz.ntmps205
 go_wp2_with fail
 refine (same_any (a:=⟨f1,f2,f3,f4,f5,f6,fd⟩) (b:=⟨g1,g2,g3,g4,g5,g6,gd⟩)).mono ?_
 rintro r w2 ⟨rfl,x2⟩
 have X2:=hI ((Ext.alloc w (.cells (tdA ⟨xa,⟨f1,f2,f3,f4,f5,f6,fd⟩⟩) 109)).tr x2)
 clear x2
 go_wp2
 go_ret
 exact ⟨rfl,X2.o⟩
theorem indext_any {w:World} {p:Option Addr} {n cap k:Nat} {L:List TdD} {a:Value} {f:TdD→Bool} (h:SlS 8 w p n cap (L.map tdL)) (hen:∀ (args:Array Value) (w:World),(callFunc k args).run Tryz.prog w=.ok (.enter k args) w) (hF:∀ e w',Ext w w'→Calls Tryz.prog k #[tdV e,a] w' fun r w2=>r=.returned (.bool (f e))∧Ext w' w2) :
  Calls Tryz.prog 208 #[.slice p n cap,.func (.func k) #[] #[a]] w fun e w'=>(∃ z:Int,e=.returned (.int .i64 z)∧(decide (0≤z))=L.any f)∧Ext w w':=by
 have hn:n≤9223372036854775807:=Nat.le_trans h.le h.max
 have N:=hI (td_len h)
 have S:=hI h
 have HF:=hI hF
 clear h hF
 go_enter Tryz.func208,Tryz.ntmps208
 go_wp2
 go_loopw [8] (fun i wr=>∃ k:Nat,k≤n∧i=.int .i64 (k:Int)∧(L.take k).any f=false∧Ext w wr) (fun i _=>n-(intOf i).toNat)
 case atStart=>exact ⟨0,by omega,rfl,rfl,Ext.rfl' _⟩
 case round=>
  obtain ⟨k,hk,rfl,ht,x1⟩:=hrel
  have T:=hI ht
  have X:=hI x1
  clear ht x1
  by_cases hlt:k<n
  ·obtain ⟨b,o,e,hp,hx,c0,c1,c2,c3,c4,c5,c6,c7⟩:=td_at (S.o.ext X.o) k hlt
   have HX:=hI hx
   clear hx
   subst hp
   obtain ⟨xa,⟨f1,f2,f3,f4,f5,f6,dat⟩⟩:=e
   simp only at c0 c1 c2 c3 c4 c5 c6 c7
   have ME:=hI (HF.o ⟨xa,⟨f1,f2,f3,f4,f5,f6,dat⟩⟩ _ X.o)
   cases he:f ⟨xa,⟨f1,f2,f3,f4,f5,f6,dat⟩⟩
   ·have T2:Hid ((L.take (k+1)).any f=false):=hI (by
     rw [List.take_add_one,HX.o,List.any_append,T.o]
     simp [he])
    rw [he] at ME
    clear he
    go_wp2_with fail
    refine ME.o.mono ?_
    rintro e w4 ⟨rfl,x4⟩
    have X4:=hI (X.o.tr x4)
    clear x4
    go_wp2
    go_roundw
    case rel=>exact ⟨k+1,by omega,by go_num,T2.o,X4.o⟩
    case measure=>simp [intOf];omega
   ·have hB:Hid (L.any f=true):=hI (by
     rw [List.any_eq_true]
     exact ⟨_,List.mem_of_getElem? HX.o,he⟩)
    rw [he] at ME
    clear he
    go_wp2_with fail
    refine ME.o.mono ?_
    rintro e w4 ⟨rfl,x4⟩
    have X4:=hI (X.o.tr x4)
    clear x4
    go_wp2
    go_ret
    exact ⟨⟨_,rfl,by rw [hB.out,decide_eq_true (by omega)]⟩,X4.o⟩
  ·have hB:Hid (L.any f=false):=hI (by
    have h1:=T.o
    rwa [List.take_of_length_le (by rw [N.o];omega)] at h1)
   go_wp2
   go_ret
   exact ⟨⟨_,rfl,by rw [hB.out];rfl⟩,X.o⟩
theorem containst_any {w:World} {p:Option Addr} {n cap k:Nat} {L:List TdD} {a:Value} {f:TdD→Bool} (h:SlS 8 w p n cap (L.map tdL)) (hen:∀ (args:Array Value) (w:World),(callFunc k args).run Tryz.prog w=.ok (.enter k args) w) (hF:∀ e w',Ext w w'→Calls Tryz.prog k #[tdV e,a] w' fun r w2=>r=.returned (.bool (f e))∧Ext w' w2) :
  Calls Tryz.prog 204 #[.slice p n cap,.func (.func k) #[] #[a]] w fun e w'=>e=.returned (.bool (L.any f))∧Ext w w':=by
 have S:=hI h
 have HF:=hI hF
 clear h hF
 go_enter Tryz.func204,Tryz.ntmps204
 go_wp2_with fail
 refine (indext_any S.o hen HF.o).mono ?_
 rintro e w2 ⟨⟨z,rfl,hz⟩,x2⟩
 have X2:=hI x2
 have HZ:=hI hz
 clear x2 hz
 go_wp2
 go_ret
 exact ⟨by rw [← HZ.o];rfl,X2.o⟩
theorem rhas_any {w:World} {o:Ow} {c g:Nat} {L:List TdD} {e:EnD} (h:RdV w o c g L) :
  Calls Tryz.prog 195 #[.pointer (some ⟨g,0,none⟩),enV e] w fun r w'=>r=.returned (.bool (L.any fun x=>sameB x.e e))∧Ext w w':=by
 obtain ⟨p,cap,h⟩:=h
 have H:=hI (h.ext (Ext.alloc w (.cells (enA e) 71)))
 clear h
 obtain ⟨f1,f2,f3,f4,f5,f6,fd⟩:=e
 have B0:=hI (EnBox.new w ⟨f1,f2,f3,f4,f5,f6,fd⟩ 71)
 have c0:=H.o.box.box.c 0 _ rfl
 go_enter Tryz.func195,Tryz.ntmps195
 go_wp2_with fail
 refine (containst_any (f:=fun x=>sameB x.e ⟨f1,f2,f3,f4,f5,f6,fd⟩) H.o.row.row.sl (enter_of Tryz.func205 (by kernel_rfl) (by kernel_rfl)) (fun x w' k=>rhas1_any (B0.o.ext k))).mono ?_
 rintro r w2 ⟨rfl,x2⟩
 have X2:=hI ((Ext.alloc w (.cells (enA ⟨f1,f2,f3,f4,f5,f6,fd⟩) 71)).tr x2)
 clear x2
 go_wp2
 go_ret
 exact ⟨rfl,X2.o⟩
end
section
open Go Go.Sort Go.RowKit
structure SeD where
 all:Bool
 o0:Bool
 o1:Bool
 o2:Bool
def seL (s:SeD):List Value:=[.bool s.all,.bool s.o0,.bool s.o1,.bool s.o2]
abbrev seA (s:SeD):Array Value:=#[.bool s.all,.bool s.o0,.bool s.o1,.bool s.o2]
abbrev seV (s:SeD):Value:=.agg (seA s)
def mayR (s:SeD) (e:EnD) (k cm now:Int):Bool:=
 if e.lv≠0∧cm<k then false
 else if e.lv=2∧s.all=false then false
 else if e.od=1 then s.o1
 else if e.od=2 then s.o2&&(decide (e.st<now)&&decide (3≤now-e.st))
 else true
theorem rmay_any {w:World} {s:SeD} {e:EnD} {k cm now:Int} (hn:0≤now∧now≤1099511627776) (hs:0≤e.st∧e.st≤1099511627776) :
  Calls Tryz.prog 196 #[seV s,enV e,.int .i64 k,.int .i64 cm,.int .i64 now] w fun r w'=>r=.returned (.bool (mayR s e k cm now))∧Ext w w':=by
 obtain ⟨n1,n2⟩:=hn
 obtain ⟨t1,t2⟩:=hs
 obtain ⟨f1,f2,f3,f4,f5,f6,fd⟩:=e
 obtain ⟨s1,s2,s3,s4⟩:=s
 simp only at *
 have A1:=hI (Ext.alloc w (.cells (seA ⟨s1,s2,s3,s4⟩) 243))
 have A2:=hI (A1.o.tr (Ext.alloc _ (.cells (enA ⟨f1,f2,f3,f4,f5,f6,fd⟩) 71)))
 have SB:=hI ((BoxV.new w 0 (seA ⟨s1,s2,s3,s4⟩) (seL ⟨s1,s2,s3,s4⟩) 243 _ rfl (Nat.zero_le _) rfl).ext (Ext.alloc _ (.cells (enA ⟨f1,f2,f3,f4,f5,f6,fd⟩) 71)))
 have EB:=hI (BoxV.new (w.alloc (.cells (seA ⟨s1,s2,s3,s4⟩) 243)) 0 (enA ⟨f1,f2,f3,f4,f5,f6,fd⟩) (enL ⟨f1,f2,f3,f4,f5,f6,fd⟩) 71 (w.heap.size+1) (by simp) (Nat.zero_le _) rfl)
 go_enter Tryz.func196,Tryz.ntmps196
 go_upto_region 1 with fail
 change Code.wp _ _ _ _ ((w.alloc (.cells (seA ⟨s1,s2,s3,s4⟩) 243)).alloc (.cells (enA ⟨f1,f2,f3,f4,f5,f6,fd⟩) 71))
 generalize (w.alloc (.cells (seA ⟨s1,s2,s3,s4⟩) 243)).alloc (.cells (enA ⟨f1,f2,f3,f4,f5,f6,fd⟩) 71)=w1 at *
 generalize w.heap.size+1=b1 at *
 generalize w.heap.size=b0 at *
 have c0:=SB.o.c 0 _ rfl
 have c1:=SB.o.c 1 _ rfl
 have c2:=SB.o.c 2 _ rfl
 have c3:=SB.o.c 3 _ rfl
 have d3:=EB.o.c 3 _ rfl
 have d4:=EB.o.c 4 _ rfl
 have d5:=EB.o.c 5 _ rfl
 simp only at c0 c1 c2 c3 d3 d4 d5
 clear SB EB A1
 go_wp2_with fail
 all_goals
  go_ret
  refine ⟨?_,A2.o⟩
  clear c0 c1 c2 c3 d3 d4 d5 A2
  simp only [mayR]
  try subst_vars
  try simp_all
  try omega
end
section
open Go Go.Sort Go.RowKit
abbrev jnL (me n bt pr:Int) (m:MsD) (p:Option Addr) (z cap:Nat) (got:Bool):List Value:=.int .i64 me::.int .i64 n::.int .i64 bt::.int .i64 pr::(msL m p z cap++[.bool got])
def JnV (w:World) (o:Ow) (c g:Nat) (me n bt pr:Int) (got:Bool):Prop:=∃ m p z cap,BoxC w o c g (jnL me n bt pr m p z cap got)
theorem JnV.fr {C:Nat→Prop} {w w':World} {o o':Ow} {c g:Nat} {me n bt pr:Int} {got:Bool} (h:JnV w o c g me n bt pr got) (k:Fm C o o' w w') (h1:1<c) (hc:¬ C c):JnV w' o' c g me n bt pr got:=by
 obtain ⟨m,p,z,cap,h⟩:=h
 exact ⟨m,p,z,cap,h.fr k (by omega) hc⟩
theorem JnV.ext {w w':World} {o:Ow} {c g:Nat} {me n bt pr:Int} {got:Bool} (h:JnV w o c g me n bt pr got) (k:Ext w w'):JnV w' o c g me n bt pr got:=by
 obtain ⟨m,p,z,cap,h⟩:=h
 exact ⟨m,p,z,cap,h.ext k⟩
theorem jnew_any {w:World} {o:Ow} (h:Cl w o) (c:Nat) (C:Nat→Prop) {me n bt pr:Int} (hn:3≤n∧n≤7) (hm:1≤me∧me≤n) (hb:1≤bt∧bt≤1099511627776) (hp:0≤pr∧pr≤1099511627776) :
  Calls Tryz.prog 132 #[.int .i64 me,.int .i64 n,.int .i64 bt,.int .i64 pr] w fun e w'=>∃ o',e=.returned (.pointer (some ⟨w.heap.size,0,none⟩))∧JnV w' o' c w.heap.size me n bt pr false∧Fm C o o' w w':=by
 have H:=hI h
 have T:=tdec_any 1 n (by omega) hn w
 have hd:¬ decT 1 n=0:=by
  simp [decT]
 have HD:=hI hd
 obtain ⟨n1,n2⟩:=hn
 obtain ⟨m1,m2⟩:=hm
 obtain ⟨b1,b2⟩:=hb
 obtain ⟨p1,p2⟩:=hp
 have g1:decide (me<1)=false:=decide_eq_false (by omega)
 have g2:decide (n<me)=false:=decide_eq_false (by omega)
 have g3:decide (bt<1)=false:=decide_eq_false (by omega)
 have g4:decide (1099511627776<bt)=false:=decide_eq_false (by omega)
 have g5:decide (pr<0)=false:=decide_eq_false (by omega)
 have g6:decide (1099511627776<pr)=false:=decide_eq_false (by omega)
 clear h
 go_enter Tryz.func132,Tryz.ntmps132
 go_wp2_with fail
 refine T.mono ?_
 clear T
 rintro e w2 ⟨rfl,rfl⟩
 generalize decT 1 n=dd at *
 have h0:=HD.o
 go_wp2
 go_ret
 exact ⟨_,rfl,⟨zeroM,none,0,0,BoxC.made w o c _ _ _ rfl⟩,Fm.made H.o _ c⟩
end
section
open Go Go.RowKit
structure QuD where
 n:Int
 mb:Int
 me:Int
 hv:List Int
 pr:List Int
 la:Int
def i64L (l:List Int):List Value:=l.map (Value.int .i64)
def quL (x:QuD):List Value:=[.int .i64 x.n,.int .i64 x.mb,.int .i64 x.me]++(i64L x.hv++(i64L x.pr++[.int .i64 x.la]))
structure QuOk (x:QuD):Prop where
 n:3≤x.n∧x.n≤7
 mb:isT x.mb
 me:isId x.me
 hl:x.hv.length=8
 pl:x.pr.length=8
 la:0≤x.la∧x.la≤1099511627776
structure QuV (w:World) (o:Ow) (c g:Nat) (x:QuD):Prop where
 box:BoxC w o c g (quL x)
 ok:QuOk x
theorem QuV.fr {C:Nat→Prop} {w w':World} {o o':Ow} {c g:Nat} {x:QuD} (h:QuV w o c g x) (k:Fm C o o' w w') (h1:1<c) (hc:¬ C c):QuV w' o' c g x:=⟨h.box.fr k (by omega) hc,h.ok⟩
theorem QuV.ext {w w':World} {o:Ow} {c g:Nat} {x:QuD} (h:QuV w o c g x) (k:Ext w w'):QuV w' o c g x:=⟨h.box.ext k,h.ok⟩
def one (c:Nat):Nat→Prop:=fun d=>d=c
theorem i64L_len (l:List Int):(i64L l).length=l.length:=by simp [i64L]
theorem i64L_at {l:List Int} {i:Nat} {v:Int} (h:l[i]?=some v):(i64L l)[i]?=some (.int .i64 v):=by
 unfold i64L
 rw [List.getElem?_map,h]
 rfl
theorem quL_hv {x:QuD} {i:Nat} {v:Int} (h:x.hv[i]?=some v):(quL x)[3+i]?=some (.int .i64 v):=by
 have hi:i<x.hv.length:=(List.getElem?_eq_some_iff.1 h).1
 unfold quL
 rw [List.getElem?_append_right (by simp),List.getElem?_append_left (by simp [i64L_len];omega)]
 simp only [List.length_cons,List.length_nil]
 rw [show 3+i-(0+1+1+1)=i by omega]
 exact i64L_at h
theorem quL_pr {x:QuD} {i:Nat} {v:Int} (ok:QuOk x) (h:x.pr[i]?=some v):(quL x)[11+i]?=some (.int .i64 v):=by
 have hi:i<x.pr.length:=(List.getElem?_eq_some_iff.1 h).1
 have:=ok.hl
 unfold quL
 rw [List.getElem?_append_right (by simp;omega),List.getElem?_append_right (by simp [i64L_len];omega),List.getElem?_append_left (by simp [i64L_len];omega)]
 simp only [List.length_cons,List.length_nil,i64L_len]
 rw [show 11+i-(0+1+1+1)-x.hv.length=i by omega]
 exact i64L_at h
theorem quL_la {x:QuD} (ok:QuOk x):(quL x)[19]?=some (.int .i64 x.la):=by
 have:=ok.hl
 have:=ok.pl
 unfold quL
 rw [List.getElem?_append_right (by simp),List.getElem?_append_right (by simp [i64L_len];omega),List.getElem?_append_right (by simp [i64L_len];omega)]
 simp only [List.length_cons,List.length_nil,i64L_len]
 rw [show 19-(0+1+1+1)-x.hv.length-x.pr.length=0 by omega]
 rfl
theorem i64L_set (l:List Int) (i:Nat) (v:Int):i64L (l.set i v)=(i64L l).set i (.int .i64 v):=by
 unfold i64L
 rw [List.map_set]
theorem quL_seth {x:QuD} {i:Nat} (v:Int) (hi:i<x.hv.length):(quL x).set (3+i) (.int .i64 v)=quL { x with hv:=x.hv.set i v }:=by
 unfold quL
 rw [List.set_append_right _ _ (by simp),List.set_append_left _ _ (by simp [i64L_len];omega)]
 simp only [List.length_cons,List.length_nil]
 rw [show 3+i-(0+1+1+1)=i by omega,i64L_set]
theorem quL_setp {x:QuD} {i:Nat} (v:Int) (ok:QuOk x) (hi:i<x.pr.length):(quL x).set (11+i) (.int .i64 v)=quL { x with pr:=x.pr.set i v }:=by
 have:=ok.hl
 unfold quL
 rw [List.set_append_right _ _ (by simp;omega),List.set_append_right _ _ (by simp [i64L_len];omega),List.set_append_left _ _ (by simp [i64L_len];omega)]
 simp only [List.length_cons,List.length_nil,i64L_len]
 rw [show 11+i-(0+1+1+1)-x.hv.length=i by omega,i64L_set]
theorem quL_setl {x:QuD} (v:Int) (ok:QuOk x):(quL x).set 19 (.int .i64 v)=quL { x with la:=v }:=by
 have:=ok.hl
 have:=ok.pl
 unfold quL
 rw [List.set_append_right _ _ (by simp),List.set_append_right _ _ (by simp [i64L_len];omega),List.set_append_right _ _ (by simp [i64L_len];omega)]
 simp only [List.length_cons,List.length_nil,i64L_len]
 rw [show 19-(0+1+1+1)-x.hv.length-x.pr.length=0 by omega]
 rfl
def newQ (n mb me:Int):QuD:=⟨n,mb,me,List.replicate 8 0,List.replicate 8 0,0⟩
theorem qnew_any {w:World} {o:Ow} (h:Cl w o) (c:Nat) (C:Nat→Prop) {n mb me:Int} (hn:3≤n∧n≤7) (hm:isT mb) (hme:isId me) (hmo:mostT mb n=true) (hh:hasT mb me=true) :
  Calls Tryz.prog 170 #[.int .i64 n,.int .i64 mb,.int .i64 me] w fun e w'=>∃ o',e=.returned (.pointer (some ⟨w.heap.size,0,none⟩))∧QuV w' o' c w.heap.size (newQ n mb me)∧Fm C o o' w w':=by
 have A:=tmost_any mb n hm hn w
 have B:=thas_any mb me hm hme w
 rw [hmo] at A
 rw [hh] at B
 have H:=hI h
 have OK:Hid (QuOk (newQ n mb me)):=hI ⟨hn,hm,hme,rfl,rfl,by simp [newQ]⟩
 clear h hn hm hme hmo hh
 go_enter Tryz.func170,Tryz.ntmps170
 go_wp2_with fail
 refine A.mono ?_
 rintro e w' ⟨rfl,rfl⟩
 go_wp2_with fail
 refine B.mono ?_
 rintro e w' ⟨rfl,rfl⟩
 go_wp2
 go_ret
 exact ⟨_,rfl,⟨BoxC.made w o c _ _ _ rfl,OK.o⟩,Fm.made H.o _ c⟩
theorem qhas_any {w:World} {o:Ow} {c g:Nat} {x:QuD} {i:Int} (h:QuV w o c g x) (hi:isId i) :
  Calls Tryz.prog 175 #[.pointer (some ⟨g,0,none⟩),.int .i64 i] w fun e w'=>e=.returned (.bool (hasT x.mb i))∧w=w':=by
 have B:=thas_any x.mb i h.ok.mb hi w
 have c1:w.cell? ⟨g,1,none⟩=some (.int .i64 x.mb):=h.box.box.c 1 _ rfl
 clear h hi
 go_enter Tryz.func175,Tryz.ntmps175
 go_wp2_with fail
 refine B.mono ?_
 rintro e w' ⟨rfl,rfl⟩
 go_wp2
 go_ret
 exact ⟨rfl,rfl⟩
theorem qlast_any {w:World} {o:Ow} {c g:Nat} {x:QuD} (h:QuV w o c g x) :
  Calls Tryz.prog 184 #[.pointer (some ⟨g,0,none⟩)] w fun e w'=>e=.returned (.int .i64 x.la)∧w=w':=by
 have c19:w.cell? ⟨g,19,none⟩=some (.int .i64 x.la):=h.box.box.c 19 _ (quL_la h.ok)
 clear h
 go_enter Tryz.func184,Tryz.ntmps184
 go_wp2
 go_ret
 exact ⟨rfl,rfl⟩
def haveQ (x:QuD) (i:Int):Int:=if hasT x.mb i then x.hv.getD i.toNat 0 else 0
theorem qhave_any {w:World} {o:Ow} {c g:Nat} {x:QuD} {i:Int} (h:QuV w o c g x) (hi:isId i) :
  Calls Tryz.prog 146 #[.pointer (some ⟨g,0,none⟩),.int .i64 i] w fun e w'=>e=.returned (.int .i64 (haveQ x i))∧w=w':=by
 have A:=qhas_any h hi
 have hl:=h.ok.hl
 obtain ⟨i1,i2⟩:=hi
 obtain ⟨k,rfl⟩:∃ k:Nat,i=(k:Int):=⟨i.toNat,by omega⟩
 obtain ⟨v,hv⟩:∃ v,x.hv[k]?=some v:=⟨x.hv[k]'(by omega),List.getElem?_eq_getElem _⟩
 have c3:w.cell? ⟨g,3+k,none⟩=some (.int .i64 v):=h.box.box.c _ _ (quL_hv hv)
 have e:haveQ x (k:Int)=if hasT x.mb (k:Int) then v else 0:=by
  unfold haveQ
  rw [Int.toNat_natCast,List.getD_eq_getElem?_getD,hv]
  rfl
 rw [e]
 have k8:(k:Int)<8:=by omega
 have k8':k<8:=by omega
 clear h e hv hl
 cases hh:hasT x.mb (k:Int)
 ·rw [hh] at A
  clear hh
  go_enter Tryz.func146,Tryz.ntmps146
  go_wp2_with fail
  refine A.mono ?_
  rintro e w' ⟨rfl,rfl⟩
  go_wp2
  go_ret
  exact ⟨rfl,rfl⟩
 ·rw [hh] at A
  clear hh
  go_enter Tryz.func146,Tryz.ntmps146
  go_wp2_with fail
  refine A.mono ?_
  rintro e w' ⟨rfl,rfl⟩
  go_wp2
  go_ret
  exact ⟨rfl,rfl⟩
def mxI (a b:Int):Int:=if a<b then b else a
def ackQ (x:QuD) (i have_ probe:Int):QuD:=
 { x with hv:=x.hv.set i.toNat (mxI (x.hv.getD i.toNat 0) have_),pr:=if probe≤x.la then x.pr.set i.toNat (mxI (x.pr.getD i.toNat 0) probe) else x.pr }
theorem qack_any {w:World} {o:Ow} {c g:Nat} {x:QuD} {i a b:Int} (hcl:Cl w o) (h:QuV w o c g x) (h1:1<c) (hi:isId i) (ha:0≤a∧a≤60) (hm:hasT x.mb i=true) :
  Calls Tryz.prog 171 #[.pointer (some ⟨g,0,none⟩),.int .i64 i,.int .i64 a,.int .i64 b] w fun e w'=>e=.returned (.bool true)∧QuV w' o c g (ackQ x i a b)∧Fm (one c) o o w w':=by
 have A:=qhas_any h hi
 rw [hm] at A
 have HL:=hI h.ok
 obtain ⟨i1,i2⟩:=hi
 obtain ⟨a1,a2⟩:=ha
 obtain ⟨k,rfl⟩:∃ k:Nat,i=(k:Int):=⟨i.toNat,by omega⟩
 have k8:(k:Int)<8:=by omega
 have k8':k<8:=by omega
 have H:=hI h
 have HC:=hI hcl
 have H1:=hI h1
 obtain ⟨v,hv⟩:∃ v,x.hv[k]?=some v:=⟨x.hv[k]'(by have:=HL.o.hl;omega),List.getElem?_eq_getElem _⟩
 obtain ⟨u,hu⟩:∃ u,x.pr[k]?=some u:=⟨x.pr[k]'(by have:=HL.o.pl;omega),List.getElem?_eq_getElem _⟩
 have f:=h.box.box.f
 have c3:w.cell? ⟨g,3+k,none⟩=some (.int .i64 v):=h.box.box.c _ _ (quL_hv hv)
 have c3d:w.drew.cell? ⟨g,3+k,none⟩=some (.int .i64 v):=(h.box.ext (Ext.drew w)).box.c _ _ (quL_hv hv)
 obtain ⟨V,hV⟩:∃ V,V=mxI v a:=⟨_,rfl⟩
 obtain ⟨U,hU⟩:∃ U,U=mxI u b:=⟨_,rfl⟩
 have HU:=hI hu
 have HVV:=hI hv
 obtain ⟨PR,hPR⟩:∃ PR,PR=(if b≤x.la then x.pr.set k U else x.pr):=⟨_,rfl⟩
 have RES:Hid (ackQ x (k:Int) a b={ x with hv:=x.hv.set k V,pr:=PR }):=hI (by
  unfold ackQ
  rw [Int.toNat_natCast,List.getD_eq_getElem?_getD,hv,List.getD_eq_getElem?_getD,hu,hPR,hV,hU]
  rfl)
 rw [RES.o]
 have EV:Hid (V=mxI v a):=hI hV
 have EU:Hid (U=mxI u b):=hI hU
 have EP:=hI hPR
 clear h hcl h1 hm hv hu hV hU RES hPR
 go_enter Tryz.func171,Tryz.ntmps171
 go_wp2_with fail
 refine A.mono ?_
 rintro e w' ⟨rfl,rfl⟩
 clear A
 go_upto_region 3 with fail
 go_cut [] (fun wx=>Hid (QuV wx o c g { x with hv:=x.hv.set k V })∧Hid (Fm (one c) o o w wx))
 case first=>
  have W1:Hid (QuV (w.setCell ⟨g,3+k,none⟩ (.int .i64 V)) o c g { x with hv:=x.hv.set k V }∧Fm (one c) o o w (w.setCell ⟨g,3+k,none⟩ (.int .i64 V))):=hI ⟨⟨by
   have:=H.o.box.put (3+k) (.int .i64 V)
   rwa [quL_seth V (by rw [HL.o.hl];omega)] at this,⟨HL.o.n,HL.o.mb,HL.o.me,by simp [HL.o.hl],HL.o.pl,HL.o.la⟩⟩,Fm.put (C:=one c) HC.o H.o.box (by have:=H1.o;omega) rfl _ _⟩
  by_cases hlt:v<a
  ·have e:V=a:=by rw [EV.o];unfold mxI;rw [if_pos hlt]
   subst e
   go_wp2_with fail
   go_region
   go_wp2_with fail
   go_meet
   exact ⟨hI (W1.o.1.ext (Ext.drew _)),hI (W1.o.2.tr (Fm.drew W1.o.2.cl) (by unfold one;have:=H1.o;omega))⟩
  ·have e:V=v:=by rw [EV.o];unfold mxI;rw [if_neg hlt]
   subst e
   go_wp2_with fail
   go_region
   go_wp2_with fail
   go_meet
   exact ⟨hI (W1.o.1.ext (Ext.drew _)),hI (W1.o.2.tr (Fm.drew W1.o.2.cl) (by unfold one;have:=H1.o;omega))⟩
 case rest=>
 obtain ⟨W1,M1⟩:=hcut
 clear f c3 c3d H HC
 have OK1:=hI W1.o.ok
 have f:=W1.o.box.box.f
 have c19:wc.cell? ⟨g,19,none⟩=some (.int .i64 x.la):=W1.o.box.box.c 19 _ (quL_la OK1.o)
 have c11:wc.cell? ⟨g,11+k,none⟩=some (.int .i64 u):=W1.o.box.box.c _ _ (quL_pr OK1.o HU.o)
 have c11d:wc.drew.cell? ⟨g,11+k,none⟩=some (.int .i64 u):=(W1.o.box.ext (Ext.drew wc)).box.c _ _ (quL_pr OK1.o HU.o)
 by_cases hb:b≤x.la
 ·have E2:Hid (PR=x.pr.set k U):=hI (by rw [EP.o,if_pos hb])
  have W2:Hid (QuV (wc.setCell ⟨g,11+k,none⟩ (.int .i64 U)) o c g { x with hv:=x.hv.set k V,pr:=PR }∧Fm (one c) o o wc (wc.setCell ⟨g,11+k,none⟩ (.int .i64 U))):=hI ⟨⟨by
   have:=W1.o.box.put (11+k) (.int .i64 U)
   rw [quL_setp U OK1.o (by rw [HL.o.pl];omega)] at this
   rw [E2.o]
   exact this,⟨HL.o.n,HL.o.mb,HL.o.me,by simp [HL.o.hl],by rw [E2.o];simp [HL.o.pl],HL.o.la⟩⟩,Fm.put (C:=one c) M1.o.cl W1.o.box (by have:=H1.o;omega) rfl _ _⟩
  clear EP E2
  by_cases hlt:u<b
  ·have e:U=b:=by rw [EU.o];unfold mxI;rw [if_pos hlt]
   subst e
   go_wp2_with fail
   go_region
   go_wp2
   go_ret
   exact ⟨rfl,W2.o.1.ext (Ext.drew _),(M1.o.tr W2.o.2 (by unfold one;have:=H1.o;omega)).tr (Fm.drew W2.o.2.cl) (by unfold one;have:=H1.o;omega)⟩
  ·have e:U=u:=by rw [EU.o];unfold mxI;rw [if_neg hlt]
   subst e
   go_wp2_with fail
   go_region
   go_wp2
   go_ret
   exact ⟨rfl,W2.o.1.ext (Ext.drew _),(M1.o.tr W2.o.2 (by unfold one;have:=H1.o;omega)).tr (Fm.drew W2.o.2.cl) (by unfold one;have:=H1.o;omega)⟩
 ·have E2:Hid (PR=x.pr):=hI (by rw [EP.o,if_neg hb])
  clear EP
  go_wp2
  go_ret
  exact ⟨rfl,by rw [E2.o];exact W1.o,M1.o⟩
def nextQ (x:QuD):QuD:={ x with la:=x.la+1,pr:=x.pr.set x.me.toNat (x.la+1) }
theorem qnext_any {w:World} {o:Ow} {c g:Nat} {x:QuD} (hcl:Cl w o) (h:QuV w o c g x) (h1:1<c) (hm:x.la≤1000000) :
  Calls Tryz.prog 142 #[.pointer (some ⟨g,0,none⟩)] w fun e w'=>e=.returned (.int .i64 (x.la+1))∧QuV w' o c g (nextQ x)∧Fm (one c) o o w w':=by
 have HL:=hI h.ok
 obtain ⟨n,mb,me,hv,pr,la⟩:=x
 simp only at hm
 obtain ⟨i1,i2⟩:=HL.o.me
 obtain ⟨k,rfl⟩:∃ k:Nat,me=(k:Int):=⟨me.toNat,by simp only at i1;omega⟩
 have k8:(k:Int)<8:=by simp only at i2;omega
 have k8':k<8:=by omega
 have l0:0≤la:=HL.o.la.1
 have H:=hI h
 have HC:=hI hcl
 have H1:=hI h1
 have f:=h.box.box.f
 have c19:w.cell? ⟨g,19,none⟩=some (.int .i64 la):=h.box.box.c 19 _ (quL_la h.ok)
 have OK1:Hid (QuOk ⟨n,mb,(k:Int),hv,pr,la+1⟩):=hI ⟨HL.o.n,HL.o.mb,HL.o.me,HL.o.hl,HL.o.pl,by simp only;omega⟩
 have B1:Hid (BoxC (w.setCell ⟨g,19,none⟩ (.int .i64 (la+1))) o c g (quL ⟨n,mb,(k:Int),hv,pr,la+1⟩)∧Fm (one c) o o w (w.setCell ⟨g,19,none⟩ (.int .i64 (la+1)))):=hI ⟨by
  have:=h.box.put 19 (.int .i64 (la+1))
  rwa [quL_setl (la+1) h.ok] at this,Fm.put (C:=one c) HC.o h.box (by omega) rfl _ _⟩
 clear h hcl h1 i1 i2
 go_enter Tryz.func142,Tryz.ntmps142
 go_upto_region 4 with fail
 clear f c19 H
 generalize w.setCell ⟨g,19,none⟩ (.int .i64 (la+1))=w1 at *
 have f:=B1.o.1.box.f
 obtain ⟨u,hu⟩:∃ u,pr[k]?=some u:=⟨pr[k]'(by have:=HL.o.pl;simp only at this;omega),List.getElem?_eq_getElem _⟩
 have c19:w1.cell? ⟨g,19,none⟩=some (.int .i64 (la+1)):=B1.o.1.box.c 19 _ (quL_la OK1.o)
 have c2:w1.cell? ⟨g,2,none⟩=some (.int .i64 (k:Int)):=B1.o.1.box.c 2 _ rfl
 have c11:w1.cell? ⟨g,11+k,none⟩=some (.int .i64 u):=B1.o.1.box.c _ _ (quL_pr OK1.o hu)
 have c11d:w1.drew.cell? ⟨g,11+k,none⟩=some (.int .i64 u):=(B1.o.1.ext (Ext.drew w1)).box.c _ _ (quL_pr OK1.o hu)
 have OK2:Hid (QuOk ⟨n,mb,(k:Int),hv,pr.set k (la+1),la+1⟩):=hI ⟨OK1.o.n,OK1.o.mb,OK1.o.me,OK1.o.hl,by simp only [List.length_set];exact OK1.o.pl,OK1.o.la⟩
 have B2:Hid (BoxC (w1.setCell ⟨g,11+k,none⟩ (.int .i64 (la+1))) o c g (quL ⟨n,mb,(k:Int),hv,pr.set k (la+1),la+1⟩)∧Fm (one c) o o w1 (w1.setCell ⟨g,11+k,none⟩ (.int .i64 (la+1)))):=hI ⟨by
  have:=B1.o.1.put (11+k) (.int .i64 (la+1))
  rwa [quL_setp (la+1) OK1.o (by have:=HL.o.pl;simp only at this;rw [this];omega)] at this,Fm.put (C:=one c) B1.o.2.cl B1.o.1 (by have:=H1.o;omega) rfl _ _⟩
 clear hu
 go_region
 clear f c19 c2 c11 c11d
 generalize w1.setCell ⟨g,11+k,none⟩ (.int .i64 (la+1))=w2 at *
 have c19:w2.drew.cell? ⟨g,19,none⟩=some (.int .i64 (la+1)):=(B2.o.1.ext (Ext.drew w2)).box.c 19 _ (quL_la OK2.o)
 go_wp2
 go_ret
 exact ⟨rfl,⟨B2.o.1.ext (Ext.drew w2),OK2.o⟩,(B1.o.2.tr B2.o.2 (by unfold one;have:=H1.o;omega)).tr (Fm.drew B2.o.2.cl) (by unfold one;have:=H1.o;omega)⟩
end
section
open Go Go.Sort Go.RowKit
structure DkV (w:World) (o:Ow) (c b j:Nat) (bt vw:Int):Prop where
 col:o b=1
 lt:b<w.heap.size
 d0:dcol j=c
 d1:dcol (j+1)=c
 c0:w.cell? ⟨b,j,none⟩=some (.int .i64 bt)
 c1:w.cell? ⟨b,j+1,none⟩=some (.int .i64 vw)
 f0:w.frozen? ⟨b,j,none⟩=false
 f1:w.frozen? ⟨b,j+1,none⟩=false
theorem Fm.at1 {C:Nat→Prop} {o o':Ow} {w w':World} (k:Fm C o o' w w') {b:Nat} (hb:b<w.heap.size) (h:o b=1):o' b=1:=by
 rcases k.col b hb with e | ⟨e1,-,-⟩
 ·exact e.trans h
 ·exact absurd h e1
theorem DkV.fr {C:Nat→Prop} {w w':World} {o o':Ow} {c b j:Nat} {bt vw:Int} (h:DkV w o c b j bt vw) (k:Fm C o o' w w') (hc:¬ C c):DkV w' o' c b j bt vw:=
 ⟨k.at1 h.lt h.col,Nat.lt_of_lt_of_le h.lt k.size,h.d0,h.d1,(k.cel b j h.lt h.col (by rw [h.d0];exact hc)).trans h.c0,(k.cel b (j+1) h.lt h.col (by rw [h.d1];exact hc)).trans h.c1,(k.frz b j h.lt h.col).trans h.f0,(k.frz b (j+1) h.lt h.col).trans h.f1⟩
theorem DkV.ext {w w':World} {o:Ow} {c b j:Nat} {bt vw:Int} (h:DkV w o c b j bt vw) (k:Ext w w'):DkV w' o c b j bt vw:=by
 have hb:=k.block b h.lt
 exact ⟨h.col,Nat.lt_of_lt_of_le h.lt k.size,h.d0,h.d1,(World.cell?_of_block hb).trans h.c0,(World.cell?_of_block hb).trans h.c1,(World.frozen?_of_block hb).trans h.f0,(World.frozen?_of_block hb).trans h.f1⟩
theorem DkV.put0 {w:World} {o:Ow} {c b j:Nat} {bt vw:Int} (hcl:Cl w o) (h:DkV w o c b j bt vw) (v:Int):DkV (w.setCell ⟨b,j,none⟩ (.int .i64 v)) o c b j v vw∧Fm (one c) o o w (w.setCell ⟨b,j,none⟩ (.int .i64 v)):=by
 have K:=Fm.cell1 (C:=one c) hcl (.int .i64 v) h.col (show one c (dcol j) from h.d0)
 refine ⟨⟨h.col,Nat.lt_of_lt_of_le h.lt K.size,h.d0,h.d1,?_,?_,(K.frz b j h.lt h.col).trans h.f0,(K.frz b (j+1) h.lt h.col).trans h.f1⟩,K⟩
 ·exact World.cell?_setCell_same (h:=h.c0) ..
 ·exact (World.cell?_setCell_other (h:=by simp) ..).trans h.c1
theorem DkV.put1 {w:World} {o:Ow} {c b j:Nat} {bt vw:Int} (hcl:Cl w o) (h:DkV w o c b j bt vw) (v:Int):DkV (w.setCell ⟨b,j+1,none⟩ (.int .i64 v)) o c b j bt v∧Fm (one c) o o w (w.setCell ⟨b,j+1,none⟩ (.int .i64 v)):=by
 have K:=Fm.cell1 (C:=one c) hcl (.int .i64 v) h.col (show one c (dcol (j+1)) from h.d1)
 refine ⟨⟨h.col,Nat.lt_of_lt_of_le h.lt K.size,h.d0,h.d1,?_,?_,(K.frz b j h.lt h.col).trans h.f0,(K.frz b (j+1) h.lt h.col).trans h.f1⟩,K⟩
 ·exact (World.cell?_setCell_other (h:=by simp) ..).trans h.c0
 ·exact World.cell?_setCell_same (h:=h.c1) ..
theorem dboot_any {w:World} {o:Ow} {c b j:Nat} {bt vw:Int} (h:DkV w o c b j bt vw) :
  Calls Tryz.prog 58 #[.pointer (some ⟨b,j,none⟩)] w fun e w'=>e=.returned (.int .i64 bt)∧w=w':=by
 have c0:=h.c0
 clear h
 go_enter Tryz.func58,Tryz.ntmps58
 go_wp2
 go_ret
 exact ⟨rfl,rfl⟩
theorem dview_any {w:World} {o:Ow} {c b j:Nat} {bt vw:Int} (h:DkV w o c b j bt vw) :
  Calls Tryz.prog 59 #[.pointer (some ⟨b,j,none⟩)] w fun e w'=>e=.returned (.int .i64 vw)∧w=w':=by
 have c1:=h.c1
 clear h
 go_enter Tryz.func59,Tryz.ntmps59
 go_wp2
 go_ret
 exact ⟨rfl,rfl⟩
theorem dstart_any {w:World} {o:Ow} {c b j:Nat} {bt vw:Int} (hcl:Cl w o) (h:DkV w o c b j bt vw) (hb:0≤bt∧bt<1099511627776) :
  Calls Tryz.prog 126 #[.pointer (some ⟨b,j,none⟩)] w fun e w'=>e=.returned (.int .i64 (bt+1))∧DkV w' o c b j (bt+1) vw∧Fm (one c) o o w w':=by
 have H:=hI h
 have HC:=hI hcl
 have c0:=h.c0
 have c1:=h.c1
 have f0:=h.f0
 have f1:=h.f1
 have c0':=(h.put0 hcl (bt+1)).1.c0
 have hdd:decide (1099511627776≤bt)=false:=decide_eq_false (by omega)
 have hw:wrap64 (bt+1)=bt+1:=by unfold wrap64;omega
 clear h hcl
 go_enter Tryz.func126,Tryz.ntmps126
 go_wp2
 go_ret
 exact ⟨rfl,(H.o.put0 HC.o _).1,(H.o.put0 HC.o _).2⟩
theorem dpromise_any {w:World} {o:Ow} {c b j:Nat} {bt vw v:Int} (hcl:Cl w o) (h:DkV w o c b j bt vw) (hv:vw<v∧v≤1099511627776) :
  Calls Tryz.prog 147 #[.pointer (some ⟨b,j,none⟩),.int .i64 v] w fun e w'=>e=.returned (.bool true)∧DkV w' o c b j bt v∧Fm (one c) o o w w':=by
 have H:=hI h
 have HC:=hI hcl
 have c0:=h.c0
 have c1:=h.c1
 have f0:=h.f0
 have f1:=h.f1
 have hd1:decide (v≤vw)=false:=decide_eq_false (by omega)
 have hd2:decide (1099511627776<v)=false:=decide_eq_false (by omega)
 clear h hcl
 go_enter Tryz.func147,Tryz.ntmps147
 go_wp2
 go_ret
 exact ⟨rfl,(H.o.put1 HC.o _).1,(H.o.put1 HC.o _).2⟩
theorem dpromise_no {w:World} {o:Ow} {c b j:Nat} {bt vw v:Int} (h:DkV w o c b j bt vw) (hv:v≤vw) :
  Calls Tryz.prog 147 #[.pointer (some ⟨b,j,none⟩),.int .i64 v] w fun e w'=>e=.returned (.bool false)∧w=w':=by
 have c1:=h.c1
 have hd1:decide (v≤vw)=true:=decide_eq_true hv
 clear h
 go_enter Tryz.func147,Tryz.ntmps147
 go_wp2
 go_ret
 exact ⟨rfl,rfl⟩
end
section
open Go Go.Sort Go.RowKit Go.Maps Go.WideMaps
def TbV (w:World) (o:Ow) (c g m:Nat):Prop:=∃ (b:Nat) (D:DataW Unit),BoxC w o c g [.map (some b)]∧o b=c∧w.ownsMap Tryz.prog 9 (plainElem Tryz.prog 9) b m D
theorem ownsMap_fr {C:Nat→Prop} {w w':World} {o o':Ow} {b n:Nat} {D:DataW Unit} {R:Value→Option (DataW Unit × List MemPlace)} {P:Program} {kt:TypeId} (h:w.ownsMap P kt R b n D) (k:Fm C o o' w w') (h1:o b≠1) (hc:¬ C (o b)):w'.ownsMap P kt R b n D:=by
 have hlt:=h.lt
 obtain ⟨es,clock,hb,F,hs,hD⟩:=h
 exact ⟨es,clock,(k.blk b hlt h1 hc).trans hb,F,hs,hD⟩
theorem TbV.fr {C:Nat→Prop} {w w':World} {o o':Ow} {c g m:Nat} (h:TbV w o c g m) (k:Fm C o o' w w') (h1:1<c) (hc:¬ C c):TbV w' o' c g m:=by
 obtain ⟨b,D,hb,hc',ho⟩:=h
 exact ⟨b,D,hb.fr k (by omega) hc,(k.at ho.lt (by rw [hc'];exact hc)).trans hc',ownsMap_fr ho k (by rw [hc'];omega) (by rw [hc'];exact hc)⟩
theorem TbV.ext {w w':World} {o:Ow} {c g m:Nat} (h:TbV w o c g m) (k:Ext w w'):TbV w' o c g m:=by
 obtain ⟨b,D,hb,hc',ho⟩:=h
 have hlt:=ho.lt
 obtain ⟨es,clock,h1,F,hs,hD⟩:=ho
 exact ⟨b,D,hb.ext k,hc',es,clock,(k.block b hlt).trans h1,F,hs,hD⟩
theorem tnew_any {w:World} {o:Ow} (h:Cl w o) (c:Nat) (C:Nat→Prop) :
  Calls Tryz.prog 131 #[] w fun e w'=>∃ o' g,e=.returned (.pointer (some ⟨g,0,none⟩))∧TbV w' o' c g 0∧Fm C o o' w w':=by
 have H:=hI h
 clear h
 have hmm:=@run_makeMap Tryz.prog
 go_enter Tryz.func131,Tryz.ntmps131
 go_wp2
 go_ret
 refine ⟨dye (dye o w.heap.size c) (w.heap.size+1) c,w.heap.size+1,rfl,⟨w.heap.size,.map [],?_,?_,?_⟩,?_⟩
 ·have:=BoxC.made (w.alloc (.map #[] 0)) (dye o w.heap.size c) c #[.map (some w.heap.size)] [.map (some w.heap.size)] 221 rfl
  rw [show (w.alloc (.map #[] 0)).heap.size=w.heap.size+1 by simp] at this
  exact this
 ·rw [dye_other (by omega)]
  exact dye_same _ _ _
 ·exact (World.ownsMap_made w _ _ _).alloc _
 ·have M1:=Fm.made (C:=C) H.o (.map #[] 0) c
  have M2:=(M1.cl.ext (Ext.alloc _ (.cells #[.map (some w.heap.size)] 221)))
  have x1:Ext w ((w.alloc (.map #[] 0)).alloc (.cells #[.map (some w.heap.size)] 221)):=(Ext.alloc w _).tr (Ext.alloc _ _)
  exact ((Fm.ext H.o x1).paint c (Nat.le_refl _) (by simp;omega)).paint c (by omega) (by simp)
theorem ixb_any (s:ByteArray) (c:Int) (w:World) :
  Calls Tryz.prog 215 #[.string s,.int .u8 c] w fun e w'=>e=.returned (.int .i64 (Lib.indexByte s.data.toList c.toNat.toUInt8))∧w=w':=by
 go_enter Tryz.func215,Tryz.ntmps215
 go_wp2_with fail
 rw [run_callFunc_extern Tryz.func230 (by kernel_rfl) (by kernel_rfl) (by kernel_rfl) (e:=Extern.BytealgIndexByte.indexByte) (by kernel_rfl),Lib.run_indexByteString]
 simp only [Result.andThen]
 rw [Oper.upon_value]
 go_wp2
 go_ret
 exact ⟨rfl,rfl⟩
structure Names (s:ByteArray) (i:Nat):Prop where
 ix:Lib.indexByte s.data.toList 61=(i:Int)
 lo:1≤i
 hi:i+1<s.size
 le:s.size≤1000
theorem ixs_any {s:ByteArray} {i:Nat} (h:Names s i) (w:World) :
  Calls Tryz.prog 212 #[.string s,.string ⟨#[61]⟩] w fun e w'=>e=.returned (.int .i64 (i:Int))∧w=w':=by
 have hx:Lib.indexByte s.data.toList ((61:Int).toNat.toUInt8)=(i:Int):=h.ix
 have hne:([61]==s.toList)=false:=by
  have h1:=h.hi
  rw [Lib.toList_data]
  rw [Lib.size_eq] at h1
  cases hl:s.data.toList with
  | nil=>rfl
  | cons a l=>
   cases l with
   | nil=>rw [hl] at h1;simp at h1
   | cons b l=>simp
 have I:=ixb_any s 61 w
 rw [hx] at I
 have HI:=hI I
 clear h hx I
 go_enter Tryz.func212,Tryz.ntmps212
 go_wp2_with fail
 refine HI.o.mono ?_
 rintro e w1 ⟨rfl,rfl⟩
 go_wp2
 go_ret
 exact ⟨rfl,rfl⟩
theorem scut_any {s:ByteArray} {i:Nat} (h:Names s i) (w:World) :
  Calls Tryz.prog 209 #[.string s,.string ⟨#[61]⟩] w fun e w'=>e=.returned (.tuple #[.string (s.extract 0 i),.string (s.extract (i+1) s.size),.bool true])∧Ext w w':=by
 have H:=hI h
 have c1:(0:Int)≤(i:Int):=by omega
 have c2:(i:Int)≤(s.size:Int):=by have:=h.hi;omega
 have c3:(0:Int)≤(i:Int)+1:=by omega
 have c4:(i:Int)+1≤(s.size:Int):=by have:=h.hi;omega
 have c5:wrap64 ((i:Int)+1)=(i:Int)+1:=by have:=h.hi;have:=h.le;unfold wrap64;omega
 clear h
 go_enter Tryz.func209,Tryz.ntmps209
 go_wp2_with fail
 refine (ixs_any H.o w).mono ?_
 rintro e w1 ⟨rfl,rfl⟩
 go_wp2
 refine att [0,1,2,3,4,5,6,7,8,9,10,11] [] ?_
 repeat ((first|refine aqq fun K hK=>?_|refine akk fun K hK=>?_);go_big_quiet_op;refine hK _ ?_;clear hK K)
 refine ra_nil ?_
 refine rt_nil ?_
 go_wp2
 go_ret3
 exact ⟨rfl,Ext.drew _⟩
theorem ne_of_size {b:ByteArray} (h:0<b.size):b.toList.isEmpty=false:=by
 rw [Lib.toList_data]
 rw [Lib.size_eq] at h
 cases hl:b.data.toList with
 | nil=>rw [hl] at h;simp at h
 | cons _ _=>rfl
theorem stcut_any {s:ByteArray} {i:Nat} (h:Names s i) (w:World) :
  Calls Tryz.prog 206 #[.string s,.string ⟨#[61]⟩] w fun e w'=>e=.returned (.tuple #[.string (s.extract 0 i),.string (s.extract (i+1) s.size),.bool true])∧Ext w w':=by
 have H:=hI h
 clear h
 go_enter Tryz.func206,Tryz.ntmps206
 go_wp2_with fail
 refine (scut_any H.o w).mono ?_
 rintro e w1 ⟨rfl,x1⟩
 have X:=hI x1
 clear x1
 go_wp2
 go_ret3
 exact ⟨rfl,X.o⟩
theorem tword_any {s:ByteArray} {i:Nat} (h:Names s i) (w:World) :
  Calls Tryz.prog 197 #[.string s] w fun e w'=>∃ nm wt:ByteArray,e=.returned (.tuple #[.string nm,.string wt,.bool true])∧nm.size≤1000∧wt.size≤1000∧wt.toList.isEmpty=false∧Ext w w':=by
 have H:=hI h
 clear h
 go_enter Tryz.func197,Tryz.ntmps197
 go_wp2_with fail
 refine (stcut_any H.o w).mono ?_
 rintro e w1 ⟨rfl,x1⟩
 have X:=hI x1
 clear x1
 obtain ⟨nm,hnm⟩:∃ nm,nm=s.extract 0 i:=⟨_,rfl⟩
 obtain ⟨wt,hwt⟩:∃ wt,wt=s.extract (i+1) s.size:=⟨_,rfl⟩
 have n1:Hid (nm.size≤1000):=hI (by rw [hnm,ByteArray.size_extract];have:=H.o.le;omega)
 have n2:Hid (wt.size≤1000):=hI (by rw [hwt,ByteArray.size_extract];have:=H.o.le;omega)
 have e1:nm.toList.isEmpty=false:=ne_of_size (by rw [hnm,ByteArray.size_extract];have:=H.o.lo;have:=H.o.hi;omega)
 have e2:Hid (wt.toList.isEmpty=false):=hI (ne_of_size (by rw [hwt,ByteArray.size_extract];have:=H.o.hi;omega))
 rw [← hnm,← hwt]
 clear hnm hwt
 go_wp2
 go_ret3
 exact ⟨_,_,rfl,n1.out,n2.out,e2.out,X.o⟩
theorem str_keyed:Keyed Tryz.prog 9:=string_keyed Tryz.underlying9
theorem tdo_any {w:World} {o:Ow} {c g m i:Nat} {e:EnD} (hcl:Cl w o) (h:TbV w o c g m) (h1:1<c) (hn:Names e.da i) (hm:mayB e=true) (he:EnOk e) (hmm:m<1000000) :
  Calls Tryz.prog 178 #[.pointer (some ⟨g,0,none⟩),enV e] w fun r w'=>r=.returned (.bool true)∧TbV w' o c g (m+1)∧Fm (fun d=>d=c) o o w w':=by
 have A0:=hI (Ext.alloc w (.cells (enA e) 71))
 have H:=hI (h.ext A0.o)
 have HC:=hI (hcl.ext A0.o)
 have M0:=hI (Fm.ext (C:=fun d=>d=c) hcl A0.o)
 have H1:=hI h1
 have HN:=hI hn
 have HM:=hI hm
 have HE:=hI he
 have HMM:=hI hmm
 clear h hcl h1 hn hm he hmm
 obtain ⟨f1,f2,f3,f4,f5,f6,fd⟩:=e
 have B0:=hI (EnBox.new w ⟨f1,f2,f3,f4,f5,f6,fd⟩ 71)
 go_enter Tryz.func178,Tryz.ntmps178
 go_upto_region 1 with fail
 change Code.wp _ _ _ _ (w.alloc (.cells (enA ⟨f1,f2,f3,f4,f5,f6,fd⟩) 71))
 clear A0
 generalize w.alloc (.cells (enA ⟨f1,f2,f3,f4,f5,f6,fd⟩) 71)=w0 at *
 generalize w.heap.size=eb at *
 have c6:=B0.o.c6
 simp only at c6
 go_wp2_with fail
 refine (tword_any HN.o w0).mono ?_
 rintro r w1 ⟨nm,wt,rfl,n1,n2,e2,x1⟩
 have N1:=hI n1
 have N2:=hI n2
 have B1:=hI (B0.o.ext x1)
 replace H:=hI (H.o.ext x1)
 replace M0:=hI (M0.o.tr (Fm.ext HC.o x1) (by have:=H1.o;omega))
 replace HC:=hI (HC.o.ext x1)
 clear x1 n1 n2 B0 c6
 have ⟨d0,d1,d2,d3,d4,d5,d6⟩:=B1.o
 simp only at d0 d1 d2 d3 d4 d5 d6
 go_wp2_with fail
 refine (may_any (e:=⟨f1,f2,f3,f4,f5,f6,fd⟩) HE.o).mono ?_
 rw [HM.o]
 rintro r w2 ⟨rfl,x2⟩
 obtain ⟨b,D,hb,hc,ho⟩:=H.o.ext x2
 have HB:=hI hb
 have HO:=hI ho
 have HCO:=hI hc
 replace M0:=hI (M0.o.tr (Fm.ext HC.o x2) (by have:=H1.o;omega))
 replace HC:=hI (HC.o.ext x2)
 have c0:=hb.box.c 0 _ rfl
 clear x2 hb ho hc d0 d1 d2 d3 d4 d5 d6 H
 have hk1:keyOf Tryz.prog 9 (.string nm)=some (.string nm.data.toList):=keyOf_string_mk Tryz.underlying9 (by have:=N1.o;unfold maxLen;omega)
 have hv1:plainElem (H:=Unit) Tryz.prog 9 (.string wt)=some (.lit (.string wt.data.toList),[]):=plainElem_string Tryz.underlying9 (by have:=N2.o;unfold maxLen;omega)
 have hm1:m<maxLen:=by have:=HMM.o;unfold maxLen;omega
 go_wp2_with (first | (at_mapUpdate;refine wpList_mapUpdate_own _ rfl _ _ _ 219 rfl 9 9 str_keyed Tryz.underlying219 _ b m D rfl HO.o hm1 _ _ _ rfl rfl hk1 _ [] hv1 ?_) | go_in)
 intro w3 o3 g3
 have M3:=hI (Fm.grown (C:=fun d=>d=c) HC.o g3 (fun k hk=>by cases hk;rw [HCO.o];exact ⟨by have:=H1.o;omega,rfl⟩))
 have O3:=hI o3
 have hbg:g≠b:=fun e=>by
  have h1:=HB.o.box.c 0 _ rfl
  obtain ⟨es,clock,h2,-⟩:=HO.o
  rw [e] at h1
  simp [World.cell?,h2] at h1
 have B3:Hid (BoxC w3 o c g [.map (some b)]):=hI ⟨HB.o.col,HB.o.box.other g3 (fun e=>hbg (by cases e;rfl))⟩
 clear o3 g3 hbg
 go_wp2
 go_ret
 exact ⟨rfl,⟨b,_,B3.o,HCO.o,O3.o⟩,M0.o.tr M3.o (by have:=H1.o;omega)⟩
end
section
open Go Go.Sort Go.RowKit
theorem idx13 (m:MsD) (n k:Nat) (hk:k<13):∃ x,(numsM m n)[k]?=some x∧∀ w,(Instr.index 121 (.agg (numA m n)) (.int .i64 (k:Int))).run Tryz.prog w=.ok (.int .i64 x) w:=by
 match k,hk with
 | 0,_=>exact ⟨_,rfl,fun _=>by kernel_rfl⟩
 | 1,_=>exact ⟨_,rfl,fun _=>by kernel_rfl⟩
 | 2,_=>exact ⟨_,rfl,fun _=>by kernel_rfl⟩
 | 3,_=>exact ⟨_,rfl,fun _=>by kernel_rfl⟩
 | 4,_=>exact ⟨_,rfl,fun _=>by kernel_rfl⟩
 | 5,_=>exact ⟨_,rfl,fun _=>by kernel_rfl⟩
 | 6,_=>exact ⟨_,rfl,fun _=>by kernel_rfl⟩
 | 7,_=>exact ⟨_,rfl,fun _=>by kernel_rfl⟩
 | 8,_=>exact ⟨_,rfl,fun _=>by kernel_rfl⟩
 | 9,_=>exact ⟨_,rfl,fun _=>by kernel_rfl⟩
 | 10,_=>exact ⟨_,rfl,fun _=>by kernel_rfl⟩
 | 11,_=>exact ⟨_,rfl,fun _=>by kernel_rfl⟩
 | 12,_=>exact ⟨_,rfl,fun _=>by kernel_rfl⟩
theorem wencode_any {w:World} {m:MsD} {p:Option Addr} {n cap:Nat} {L:List EnD} (hm:MsOk m) (h:SlS 7 w p n cap (L.map enL)) (hL:∀ e ∈ L,EnOk e) :
  Calls Tryz.prog 73 #[msV m p n cap] w fun e w'=>∃ p' cap',e=.returned (.slice p' (encM m L).length cap')∧OwP w' w.heap.size p' (encM m L).length cap' (encM m L)∧(p'=none↔mayM m L=false)∧Ext w w':=by
 have N:=hI (en_len h)
 have HL:=hI hL
 have OK:=hI hm
 have D:=hI (BoxV.new w w.heap.size (msA m p n cap) (msL m p n cap) 76 _ rfl (Nat.le_refl _) rfl)
 have X:=hI (Ext.alloc w (.cells (msA m p n cap) 76))
 have S:=hI (h.ext (Ext.alloc w (.cells (msA m p n cap) 76)))
 have WS:=hI (Nat.le_refl w.heap.size)
 obtain ⟨B,hB⟩:∃ B,B=mayM m L:=⟨_,rfl⟩
 obtain ⟨R,hR⟩:∃ R,R=encM m L:=⟨_,rfl⟩
 rw [← hR]
 have HB:=hI hB
 have HR:=hI hR
 clear h hL hm hB hR
 have c0:=D.o.c 0 _ rfl
 have c1:=D.o.c 1 _ rfl
 have c2:=D.o.c 2 _ rfl
 have c3:=D.o.c 3 _ rfl
 have c4:=D.o.c 4 _ rfl
 have c5:=D.o.c 5 _ rfl
 have c6:=D.o.c 6 _ rfl
 have c7:=D.o.c 7 _ rfl
 have c8:=D.o.c 8 _ rfl
 have c9:=D.o.c 9 _ rfl
 have c10:=D.o.c 10 _ rfl
 have c11:=D.o.c 11 _ rfl
 have c12:=D.o.c 12 _ rfl
 try simp only at c0 c1 c2 c3 c4 c5 c6 c7 c8 c9 c10 c11 c12
 go_enter Tryz.func73,Tryz.ntmps73
 go_wp2_with fail
 refine (wmay_any OK.o S.o HL.o).mono ?_
 rw [← HB.o]
 rintro e w2 ⟨rfl,x2⟩
 replace X:=hI (X.o.tr x2)
 replace D:=hI (D.o.ext x2)
 replace S:=hI (S.o.ext x2)
 clear x2
 clear c0 c1 c2 c3 c4 c5 c6 c7 c8 c9 c10 c11 c12
 cases B
 ·have hRn:R=[]:=by rw [HR.o];exact encM_no HB.o.symm
  subst hRn
  go_wp2
  go_ret
  exact ⟨none,0,rfl,OwP.nil _ _,⟨fun _=>HB.o.symm,fun _=>rfl⟩,X.o⟩
 ·have HM:=hI (mayM_iff.1 HB.o.symm)
  have hn60:n≤60:=by rw [← N.o];exact HM.o.2.2.1
  have HE:=hI (encAll_len86 HL.o HM.o.2.2.2)
  obtain ⟨Z,hZ⟩:∃ Z,Z=numsM m n:=⟨_,rfl⟩
  have hz13:Z.length=13:=by rw [hZ];rfl
  have HRB:Hid (R=sealL (encs Z++encAll L)):=hI (by rw [HR.o,hZ,← N.o];unfold encM bodyM;rw [if_pos HB.o.symm])
  have ZI:Hid (∀ x ∈ Z,I64 x):=hI (by rw [hZ];exact numsM_ok OK.o (by omega))
  have HZ:=hI hZ
  clear hZ
  obtain ⟨E,hE⟩:∃ E,E=encAll L:=⟨_,rfl⟩
  have hE60:E.length≤5160:=by rw [hE];have:=HE.o;rw [N.o] at this;omega
  rw [← hE] at HRB
  have HEE:=hI hE
  clear hE
  have c0:=D.o.c 0 _ rfl
  have c1:=D.o.c 1 _ rfl
  have c2:=D.o.c 2 _ rfl
  have c3:=D.o.c 3 _ rfl
  have c4:=D.o.c 4 _ rfl
  have c5:=D.o.c 5 _ rfl
  have c6:=D.o.c 6 _ rfl
  have c7:=D.o.c 7 _ rfl
  have c8:=D.o.c 8 _ rfl
  have c9:=D.o.c 9 _ rfl
  have c10:=D.o.c 10 _ rfl
  have c11:=D.o.c 11 _ rfl
  have c12:=D.o.c 12 _ rfl
  try simp only at c0 c1 c2 c3 c4 c5 c6 c7 c8 c9 c10 c11 c12
  go_wp2_with fail
  refine (numbers_any (m:=m) (p:=p) (n:=n) (cap:=cap)).mono ?_
  rintro e w3 ⟨rfl,x3⟩
  replace X:=hI (X.o.tr x3)
  replace D:=hI (D.o.ext x3)
  replace S:=hI (S.o.ext x3)
  clear x3
  clear c0 c1 c2 c3 c4 c5 c6 c7 c8 c9 c10 c11 c12
  go_wp2
  go_loopw [3,11] (fun v i wr=>∃ (k nn:Nat) (p':Option Addr) (cap':Nat),k≤13∧i=.int .i64 (k:Int)∧v=.slice p' nn cap'∧nn≤10 * k∧OwP wr w3.heap.size p' nn cap' (encs (Z.take k))∧Ext w3 wr) (fun _ i _=>13-(intOf i).toNat)
  case atStart=>exact ⟨0,0,none,0,by omega,rfl,rfl,by omega,OwP.nil _ _,Ext.rfl' _⟩
  case round=>
   obtain ⟨k,nn,p',cap',hk,rfl,rfl,hnn,ho,x1⟩:=hrel
   have O:=hI ho
   have XR:=hI x1
   clear ho x1
   by_cases hlt:k<13
   ·obtain ⟨x,hx,hix⟩:=idx13 m n k hlt
    rw [← HZ.o] at hx
    have IX:=hI (ZI.o x (List.mem_of_getElem? hx))
    have HX:=hI (encs_take hx)
    have hten:=enc_len10 IX.o
    obtain ⟨F,hF⟩:∃ F,F=enc (zig x):=⟨_,rfl⟩
    rw [← hF] at hten HX
    have HF:=hI hF
    clear hx hF
    go_wp2_with fail
    refine (put_any O.o XR.o.size (by omega) IX.o.1 IX.o.2).mono ?_
    rw [← HF.o]
    rintro e w4 ⟨p4,c4,rfl,o4,x4⟩
    have O4:=hI o4
    have X4:Hid (Ext w3 w4):=hI (Below.trans XR.o x4)
    clear o4 x4 hix
    go_wp2
    go_roundw
    case rel=>exact ⟨k+1,_,p4,c4,by omega,by go_num,rfl,by omega,by rw [HX.o];exact O4.o,X4.o⟩
    case measure=>simp [intOf];omega
   ·have hzl:Z.take k=Z:=List.take_of_length_le (by omega)
    rw [hzl] at O
    clear hzl
    have D5:=hI (D.o.ext XR.o)
    have c8:=D5.o.c 8 _ rfl
    try simp only at c8
    go_wp2_with fail
    refine (encode_any (S.o.ext XR.o) HL.o (by omega)).mono ?_
    rw [← HEE.o]
    rintro e w5 ⟨p5,c5,rfl,o5,x5⟩
    have O5:=hI o5.sl
    have X5:=hI x5
    have XR5:=hI (XR.o.tr x5)
    clear o5 x5
    go_wp2_with (at_builtin;refine wpList_app rfl _ _ 72 rfl w3.heap.size Tryz.underlying72 info5 p' nn cap' _ rfl (O.o.ext X5.o) p5 E.length c5 E rfl O5.o (by omega) XR5.o.size ?_)
    intro p6 c6 w6 o6 g6
    have X6:=hI (Ext.own XR5.o (O.o.ext X5.o) g6 rfl)
    have O6:=hI o6.sl
    clear o6 g6
    go_wp2_with fail
    refine (seal_any O6.o (by omega)).mono ?_
    rintro e w7 ⟨p7,c7,rfl,o7,x7⟩
    rw [← HRB.o] at o7
    have hlen:nn+E.length+4=R.length:=o7.len.symm
    rw [hlen] at o7 ⊢
    have O7:=hI o7
    have X7:=hI (X.o.tr (X6.o.tr x7))
    have OS:=hI (Nat.le_trans (X.o.tr X6.o).size (Nat.le_refl _))
    clear o7 x7
    go_wp2
    go_ret
    exact ⟨p7,c7,rfl,O7.o.mono OS.o,⟨(fun hp=>by
      have h1:=O7.o.sl.nil hp
      have h2:=O7.o.sl.le
      omega),fun hb=>by rw [← HB.o] at hb;cases hb⟩,X7.o⟩
end
section
open Go Go.Sort Go.RowKit
def MDPost (w:World) (R:Option (MsD × List EnD)) (e:Ending) (w':World):Prop:=
 match R with
 | none=>e=.returned (.tuple #[msV zeroM none 0 0,.int .i64 1])∧Ext w w'
 | some (m,L)=>∃ p cap,e=.returned (.tuple #[msV m p L.length cap,.int .i64 0])∧OwS 71 7 w' w.heap.size p L.length cap (L.map enL)∧(∀ x ∈ L,EnOk x)∧MsOk m∧Ext w w'
def arrL (zs:List Int):List Value:=(zs++List.replicate (13-zs.length) 0).map (Value.int .i64)
theorem arrL_put {zs:List Int} {v:Int} (h:zs.length<13):(arrL zs).set zs.length (.int .i64 v)=arrL (zs++[v]):=by
 unfold arrL
 rw [show 13-zs.length=(13-(zs++[v]).length)+1 by simp;omega,List.replicate_succ]
 rw [← List.map_set,List.set_append_right _ _ (Nat.le_refl _),Nat.sub_self]
 simp
theorem arrL_at {zs:List Int} {k:Nat} (h:k<13) (hz:zs.length≤13):∃ u,(arrL zs)[k]?=some u:=by
 have:k<(arrL zs).length:=by unfold arrL;simp;omega
 exact ⟨_,List.getElem?_eq_getElem this⟩
theorem decM_no {b:List UInt8} {l:List Int} {i:Nat} {m:MsD} (hp:parseN (openL b) 13=some (l,i)) (ho:ofNums l=some m) (h:∀ L,decL ((openL b).drop i)=some L→¬ (encM m L=b∧mayM m L=true)):decM b=none:=by
 unfold decM
 split
 ·rw [hp]
  simp only [ho]
  split
  ·rfl
  ·rename_i L hL
   rw [if_neg (h L hL)]
 ·rfl
theorem decM_yes {b:List UInt8} {l:List Int} {i:Nat} {m:MsD} {L:List EnD} (h0:opens b=true) (hp:parseN (openL b) 13=some (l,i)) (ho:ofNums l=some m) (hL:decL ((openL b).drop i)=some L) (h:encM m L=b) (hm:mayM m L=true):decM b=some (m,L):=by
 unfold decM
 rw [if_pos h0,hp]
 simp only [ho,hL]
 rw [if_pos ⟨h,hm⟩]
theorem decM_short {b:List UInt8} {k:Nat} (hk:k≤13) (h:parseN (openL b) k=none):decM b=none:=by
 unfold decM
 split
 ·rw [parseN_none 13 hk h]
 ·rfl
theorem decM_shut {b:List UInt8} (h:opens b=false):decM b=none:=by
 unfold decM
 rw [if_neg (by rw [h];decide)]
theorem openL_len (l:List UInt8):(openL l).length≤l.length:=by
 unfold openL
 split
 ·rw [List.length_take];omega
 ·simp
theorem nil_eq (a:Option Addr) (n c:Nat) (w:World):(binOp .eql 72 (.slice a n c) (.slice none 0 0)).run Tryz.prog w=.ok (.bool a.isNone) w:=Go.Lib.run_eql_slice_nil w _ _ a n c 0 0 Tryz.underlying72
theorem wdecode_any {w:World} {p:Option Addr} {n cap:Nat} {b:List UInt8} (h:SlP w p n cap b) (hn:n≤6000) :
  Calls Tryz.prog 48 #[.slice p n cap] w fun e w'=>MDPost w (decM b) e w':=by
 have H:=hI h
 have HL:=hI h.len
 have hle:=openL_len b
 rw [h.len] at hle
 clear h
 obtain ⟨R,hR⟩:∃ R,R=decM b:=⟨_,rfl⟩
 rw [← hR]
 have HR:=hI hR
 clear hR
 have OP:=hI (fun (w:World) (h:SlP w p n cap b)=>open_any h (by omega))
 obtain ⟨r,hr⟩:∃ r,r=openL b:=⟨_,rfl⟩
 obtain ⟨nr,hnr⟩:∃ nr,nr=r.length:=⟨_,rfl⟩
 rw [← hr,← hnr] at hle
 rw [← hr,← hnr] at OP
 have HRR:=hI hr
 have HNR:=hI hnr
 clear hr hnr
 have T:=hI (BoxV.new w w.heap.size (msA zeroM none 0 0) (msL zeroM none 0 0) 76 _ rfl (Nat.le_refl _) rfl)
 have X:=hI (Ext.alloc w (.cells (msA zeroM none 0 0) 76))
 cases ho:opens b
 ·rw [ho] at OP
  have hRn:R=none:=by rw [HR.o];exact decM_shut ho
  subst hRn
  clear ho
  go_enter Tryz.func48,Tryz.ntmps48
  go_wp2_with fail
  refine (OP.o _ (H.o.ext X.o)).mono ?_
  rintro e w1 ⟨p1,c1,rfl,o1,x1⟩
  replace X:=hI (X.o.tr x1)
  replace T:=hI (T.o.ext x1)
  clear x1 o1
  have b0:=T.o.c 0 _ rfl
  have b1:=T.o.c 1 _ rfl
  have b2:=T.o.c 2 _ rfl
  have b3:=T.o.c 3 _ rfl
  have b4:=T.o.c 4 _ rfl
  have b5:=T.o.c 5 _ rfl
  have b6:=T.o.c 6 _ rfl
  have b7:=T.o.c 7 _ rfl
  have b8:=T.o.c 8 _ rfl
  have b9:=T.o.c 9 _ rfl
  have b10:=T.o.c 10 _ rfl
  have b11:=T.o.c 11 _ rfl
  have b12:=T.o.c 12 _ rfl
  try simp only at b0 b1 b2 b3 b4 b5 b6 b7 b8 b9 b10 b11 b12
  have bf:=T.o.f
  go_wp2
  obtain ⟨w9,hw9⟩:∃ w9,w9=fillV w1 w.heap.size 0 (msL zeroM none 0 0):=⟨_,rfl⟩
  change bodyPost _ _ _ Exit.ret _ (fillV w1 w.heap.size 0 (msL zeroM none 0 0))
  have FB:=hI (T.o.fill (vs:=msL zeroM none 0 0) (Nat.le_refl _))
  have FX:=hI (fillV_below X.o (Nat.le_refl _) (msL zeroM none 0 0) 0)
  rw [← hw9] at FB FX ⊢
  have f0:=FB.o.c 0 _ rfl
  have f1:=FB.o.c 1 _ rfl
  have f2:=FB.o.c 2 _ rfl
  have f3:=FB.o.c 3 _ rfl
  have f4:=FB.o.c 4 _ rfl
  have f5:=FB.o.c 5 _ rfl
  have f6:=FB.o.c 6 _ rfl
  have f7:=FB.o.c 7 _ rfl
  have f8:=FB.o.c 8 _ rfl
  have f9:=FB.o.c 9 _ rfl
  have f10:=FB.o.c 10 _ rfl
  have f11:=FB.o.c 11 _ rfl
  have f12:=FB.o.c 12 _ rfl
  try simp only at f0 f1 f2 f3 f4 f5 f6 f7 f8 f9 f10 f11 f12
  simp only [zeroM] at f0 f1 f2 f3 f4 f5 f6 f7 f8 f9 f10 f11 f12
  exact bodyPost_ret (v:=.tuple #[msV zeroM none 0 0,.int .i64 1]) (by simp [results,Tryz.results48,go_sem,f0,f1,f2,f3,f4,f5,f6,f7,f8,f9,f10,f11,f12,zeroM]) rfl ⟨rfl,FX.o⟩
 ·rw [ho] at OP
  have HO:=hI ho
  clear ho
  go_enter Tryz.func48,Tryz.ntmps48
  go_wp2_with fail
  refine (OP.o _ (H.o.ext X.o)).mono ?_
  rintro e w1 ⟨p1,c1,rfl,o1,x1⟩
  replace X:=hI (X.o.tr x1)
  replace T:=hI (T.o.ext x1)
  have O1:=hI o1.sl
  clear x1 o1
  go_wp2
  have A1:=hI (Ext.alloc w1 (.cells #[.int .i64 0,.int .i64 0,.int .i64 0,.int .i64 0,.int .i64 0,.int .i64 0,.int .i64 0,.int .i64 0,.int .i64 0,.int .i64 0,.int .i64 0,.int .i64 0,.int .i64 0] 121))
  have G1:=hI (BoxV.new w1 w1.heap.size #[.int .i64 0,.int .i64 0,.int .i64 0,.int .i64 0,.int .i64 0,.int .i64 0,.int .i64 0,.int .i64 0,.int .i64 0,.int .i64 0,.int .i64 0,.int .i64 0,.int .i64 0] (arrL []) 121 _ rfl (Nat.le_refl _) rfl)
  go_loopw [4,23] (fun v i wr=>∃ (k x:Nat) (zs:List Int) (p':Option Addr) (c':Nat),k≤13∧i=.int .i64 (k:Int)∧v=.slice p' (nr-x) c'∧parseN r k=some (zs,x)∧SlP w1 p' (nr-x) c' (r.drop x)∧BoxV wr w1.heap.size w1.heap.size (arrL zs)∧Ext w1 wr) (fun _ i _=>13-(intOf i).toNat)
  case atStart=>exact ⟨0,0,[],p1,c1,by omega,rfl,rfl,rfl,O1.o,G1.o,A1.o⟩
  case round=>
   clear A1 G1 O1
   obtain ⟨k,x,zs,p',c',hk,rfl,rfl,hp,s1,g1,x1⟩:=hrel
   obtain ⟨hzl,hzi,-,hxl⟩:=parseN_in hp
   rw [← HNR.o] at hxl
   have P:=hI hp
   have S:=hI s1
   have G:=hI g1
   have XR:=hI x1
   have ZI:=hI hzi
   clear hp s1 g1 x1 hzi
   by_cases hlt:k<13
   ·obtain ⟨v,hv⟩:∃ v,v=(getL (r.drop x)).1:=⟨_,rfl⟩
    obtain ⟨c,hc⟩:∃ c,c=(getL (r.drop x)).2.1:=⟨_,rfl⟩
    obtain ⟨q,hq⟩:∃ q,q=(getL (r.drop x)).2.2:=⟨_,rfl⟩
    have GI:=getL_in (r.drop x)
    rw [← hv,← hc,← hq,List.length_drop,← HNR.o] at GI
    have HV:=hI hv
    have HC:=hI hc
    have HQ:=hI hq
    clear hv hc hq
    by_cases hq0:q=0
    ·subst hq0
     have hcx:c≤nr-x:=by omega
     clear GI
     have P2:Hid (parseN r (k+1)=some (zs++[v],x+c)):=hI (by
      rw [parseN,P.o]
      simp only
      rw [if_pos HQ.o.symm,← HV.o,← HC.o])
     have cf:=fun w=>run_cut_from (P:=Tryz.prog) 72 5 Tryz.underlying72 sz5 p' (nr-x) c' c hcx w
     have D2:Hid (SlP w1 (tailP p' c' c) (nr-(x+c)) (c'-c) (r.drop (x+c))):=hI (by
      have h:=S.o.drop c hcx
      rwa [List.drop_drop,show nr-x-c=nr-(x+c) by omega] at h)
     obtain ⟨u,hu⟩:=arrL_at (zs:=zs) hlt (by omega)
     have cu:=G.o.c k u hu
     have fu:=G.o.f k
     have G2:Hid (BoxV (wr.setCell ⟨w1.heap.size,k,none⟩ (.int .i64 v)) w1.heap.size w1.heap.size (arrL (zs++[v]))):=hI (by
      have h:=G.o.put k (.int .i64 v)
      rwa [← hzl,arrL_put (by omega),hzl] at h)
     have X2:Hid (Ext w1 (wr.setCell ⟨w1.heap.size,k,none⟩ (.int .i64 v))):=hI (XR.o.setCell (Nat.le_refl _) (.int .i64 v))
     have hsub:nr-x-c=nr-(x+c):=by omega
     clear hu
     go_wp2_with fail
     refine (get_any (S.o.ext XR.o) (by omega)).mono ?_
     rw [← HV.o,← HC.o,← HQ.o]
     rintro e w2 ⟨rfl,rfl⟩
     go_wp2
     go_roundw
     case rel=>exact ⟨k+1,x+c,zs++[v],tailP p' c' c,c'-c,by omega,by go_num,by go_num,P2.o,D2.o,G2.o,X2.o⟩
     case measure=>simp [intOf];omega
    ·have h1:(q != 0)=true:=bne_iff_ne.2 hq0
     have h2:(q==0)=false:=beq_eq_false_iff_ne.2 hq0
     have hRn:R=none:=by
      rw [HR.o]
      refine decM_short (k:=k+1) (by omega) ?_
      rw [← HRR.o,parseN,P.o]
      simp only
      rw [if_neg (by rw [← HQ.o];exact hq0)]
     subst hRn
     clear hq0 GI
     have T2:=hI (T.o.ext XR.o)
     have X2:=hI (X.o.tr XR.o)
     go_wp2_with fail
     refine (get_any (S.o.ext XR.o) (by omega)).mono ?_
     rw [← HV.o,← HC.o,← HQ.o]
     rintro e w2 ⟨rfl,rfl⟩
     have b0:=T2.o.c 0 _ rfl
     have b1:=T2.o.c 1 _ rfl
     have b2:=T2.o.c 2 _ rfl
     have b3:=T2.o.c 3 _ rfl
     have b4:=T2.o.c 4 _ rfl
     have b5:=T2.o.c 5 _ rfl
     have b6:=T2.o.c 6 _ rfl
     have b7:=T2.o.c 7 _ rfl
     have b8:=T2.o.c 8 _ rfl
     have b9:=T2.o.c 9 _ rfl
     have b10:=T2.o.c 10 _ rfl
     have b11:=T2.o.c 11 _ rfl
     have b12:=T2.o.c 12 _ rfl
     try simp only at b0 b1 b2 b3 b4 b5 b6 b7 b8 b9 b10 b11 b12
     have bf:=T2.o.f
     go_wp2
     obtain ⟨w9,hw9⟩:∃ w9,w9=fillV wr w.heap.size 0 (msL zeroM none 0 0):=⟨_,rfl⟩
     change bodyPost _ _ _ Exit.ret _ (fillV wr w.heap.size 0 (msL zeroM none 0 0))
     have FB:=hI (T2.o.fill (vs:=msL zeroM none 0 0) (Nat.le_refl _))
     have FX:=hI (fillV_below X2.o (Nat.le_refl _) (msL zeroM none 0 0) 0)
     rw [← hw9] at FB FX ⊢
     have f0:=FB.o.c 0 _ rfl
     have f1:=FB.o.c 1 _ rfl
     have f2:=FB.o.c 2 _ rfl
     have f3:=FB.o.c 3 _ rfl
     have f4:=FB.o.c 4 _ rfl
     have f5:=FB.o.c 5 _ rfl
     have f6:=FB.o.c 6 _ rfl
     have f7:=FB.o.c 7 _ rfl
     have f8:=FB.o.c 8 _ rfl
     have f9:=FB.o.c 9 _ rfl
     have f10:=FB.o.c 10 _ rfl
     have f11:=FB.o.c 11 _ rfl
     have f12:=FB.o.c 12 _ rfl
     try simp only at f0 f1 f2 f3 f4 f5 f6 f7 f8 f9 f10 f11 f12
     simp only [zeroM] at f0 f1 f2 f3 f4 f5 f6 f7 f8 f9 f10 f11 f12
     exact bodyPost_ret (v:=.tuple #[msV zeroM none 0 0,.int .i64 1]) (by simp [results,Tryz.results48,go_sem,f0,f1,f2,f3,f4,f5,f6,f7,f8,f9,f10,f11,f12,zeroM]) rfl ⟨rfl,FX.o⟩
   ·have hk13:k=13:=by omega
    subst hk13
    obtain ⟨z0,z1,z2,z3,z4,z5,z6,z7,z8,z9,z10,z11,z12,rfl⟩:∃ z0 z1 z2 z3 z4 z5 z6 z7 z8 z9 z10 z11 z12,zs=[z0,z1,z2,z3,z4,z5,z6,z7,z8,z9,z10,z11,z12]:=by
     match zs,hzl with
     | [z0,z1,z2,z3,z4,z5,z6,z7,z8,z9,z10,z11,z12],_=>exact ⟨z0,z1,z2,z3,z4,z5,z6,z7,z8,z9,z10,z11,z12,rfl⟩
    have c0:=G.o.c 0 _ rfl
    have c1:=G.o.c 1 _ rfl
    have c2:=G.o.c 2 _ rfl
    have c3:=G.o.c 3 _ rfl
    have c4:=G.o.c 4 _ rfl
    have c5:=G.o.c 5 _ rfl
    have c6:=G.o.c 6 _ rfl
    have c7:=G.o.c 7 _ rfl
    have c8:=G.o.c 8 _ rfl
    have c9:=G.o.c 9 _ rfl
    have c10:=G.o.c 10 _ rfl
    have c11:=G.o.c 11 _ rfl
    try simp only at c0 c1 c2 c3 c4 c5 c6 c7 c8 c9 c10 c11
    change wr.cell? _=some (.int .i64 z0) at c0
    change wr.cell? _=some (.int .i64 z1) at c1
    change wr.cell? _=some (.int .i64 z2) at c2
    change wr.cell? _=some (.int .i64 z3) at c3
    change wr.cell? _=some (.int .i64 z4) at c4
    change wr.cell? _=some (.int .i64 z5) at c5
    change wr.cell? _=some (.int .i64 z6) at c6
    change wr.cell? _=some (.int .i64 z7) at c7
    change wr.cell? _=some (.int .i64 z8) at c8
    change wr.cell? _=some (.int .i64 z9) at c9
    change wr.cell? _=some (.int .i64 z10) at c10
    change wr.cell? _=some (.int .i64 z11) at c11
    obtain ⟨m,hmm⟩:∃ m:MsD,m=⟨z0,z1,z2,z3,z4,z5,z6,z7,z8,z9,z10,decide (z11=1)⟩:=⟨_,rfl⟩
    have HM:=hI hmm
    have hof:ofNums [z0,z1,z2,z3,z4,z5,z6,z7,z8,z9,z10,z11,z12]=some m:=by rw [hmm];rfl
    have MOK:=hI (ofNums_ok hof ZI.o)
    have HOF:=hI hof
    have hz11:(z11==1)=decide (z11=1):=by
     cases hq:(z11==1)
     ·rw [decide_eq_false (beq_eq_false_iff_ne.1 hq)]
     ·rw [decide_eq_true (eq_of_beq hq)]
    clear hmm hof
    have DD:=decode_any (S.o.ext XR.o) (by omega)
    have HP:Hid (parseN (openL b) 13=some ([z0,z1,z2,z3,z4,z5,z6,z7,z8,z9,z10,z11,z12],x)):=hI (by rw [← HRR.o];exact P.o)
    rw [HRR.o] at DD
    have T2:=hI (T.o.ext XR.o)
    have X2:=hI (X.o.tr XR.o)
    have XR2:=hI XR.o
    cases hdl:decL ((openL b).drop x) with
    | none=>
     have hRn:R=none:=by
      rw [HR.o]
      exact decM_no HP.o HOF.o (fun L hL=>by rw [hdl] at hL;cases hL)
     subst hRn
     rw [hdl] at DD
     clear hdl
     go_wp2_with fail
     refine DD.mono ?_
     rintro e w2 ⟨rfl,x2⟩
     replace X2:=hI (X2.o.tr x2)
     replace T2:=hI (T2.o.ext x2)
     replace G:=hI (G.o.ext x2)
     clear x2 DD c0 c1 c2 c3 c4 c5 c6 c7 c8 c9 c10 c11
     have c0:=G.o.c 0 _ rfl
     have c1:=G.o.c 1 _ rfl
     have c2:=G.o.c 2 _ rfl
     have c3:=G.o.c 3 _ rfl
     have c4:=G.o.c 4 _ rfl
     have c5:=G.o.c 5 _ rfl
     have c6:=G.o.c 6 _ rfl
     have c7:=G.o.c 7 _ rfl
     have c8:=G.o.c 8 _ rfl
     have c9:=G.o.c 9 _ rfl
     have c10:=G.o.c 10 _ rfl
     have c11:=G.o.c 11 _ rfl
     try simp only at c0 c1 c2 c3 c4 c5 c6 c7 c8 c9 c10 c11
     change w2.cell? _=some (.int .i64 z0) at c0
     change w2.cell? _=some (.int .i64 z1) at c1
     change w2.cell? _=some (.int .i64 z2) at c2
     change w2.cell? _=some (.int .i64 z3) at c3
     change w2.cell? _=some (.int .i64 z4) at c4
     change w2.cell? _=some (.int .i64 z5) at c5
     change w2.cell? _=some (.int .i64 z6) at c6
     change w2.cell? _=some (.int .i64 z7) at c7
     change w2.cell? _=some (.int .i64 z8) at c8
     change w2.cell? _=some (.int .i64 z9) at c9
     change w2.cell? _=some (.int .i64 z10) at c10
     change w2.cell? _=some (.int .i64 z11) at c11
     have S3:=hI (SlS.empty 7 (w2.alloc (.cells (msA m none 0 0) 76)))
     have A3:=hI (Ext.alloc w2 (.cells (msA m none 0 0) 76))
     have M3:=hI (BoxV.new w2 w2.heap.size (msA m none 0 0) (msL m none 0 0) 76 _ rfl (Nat.le_refl _) rfl)
     have EN:=hI (fun w (h:SlS 7 w none 0 0 (([]:List EnD).map enL))=>wencode_any (L:=[]) MOK.o h (fun e he=>by cases he))
     rw [HM.o] at EN A3 M3 S3
     try simp only at EN A3 M3 S3
     go_wp2_with fail
     refine (EN.o _ S3.o).mono ?_
     rintro e w3 ⟨p3,k3,rfl,o3,hn3,x3⟩
     replace X2:=hI (X2.o.tr (A3.o.tr x3))
     replace T2:=hI (T2.o.ext (A3.o.tr x3))
     clear x3 o3 hn3
     have b0:=T2.o.c 0 _ rfl
     have b1:=T2.o.c 1 _ rfl
     have b2:=T2.o.c 2 _ rfl
     have b3:=T2.o.c 3 _ rfl
     have b4:=T2.o.c 4 _ rfl
     have b5:=T2.o.c 5 _ rfl
     have b6:=T2.o.c 6 _ rfl
     have b7:=T2.o.c 7 _ rfl
     have b8:=T2.o.c 8 _ rfl
     have b9:=T2.o.c 9 _ rfl
     have b10:=T2.o.c 10 _ rfl
     have b11:=T2.o.c 11 _ rfl
     have b12:=T2.o.c 12 _ rfl
     try simp only at b0 b1 b2 b3 b4 b5 b6 b7 b8 b9 b10 b11 b12
     have bf:=T2.o.f
     go_wp2
     obtain ⟨w9,hw9⟩:∃ w9,w9=fillV w3 w.heap.size 0 (msL zeroM none 0 0):=⟨_,rfl⟩
     change bodyPost _ _ _ Exit.ret _ (fillV w3 w.heap.size 0 (msL zeroM none 0 0))
     have FB:=hI (T2.o.fill (vs:=msL zeroM none 0 0) (Nat.le_refl _))
     have FX:=hI (fillV_below X2.o (Nat.le_refl _) (msL zeroM none 0 0) 0)
     rw [← hw9] at FB FX ⊢
     have f0:=FB.o.c 0 _ rfl
     have f1:=FB.o.c 1 _ rfl
     have f2:=FB.o.c 2 _ rfl
     have f3:=FB.o.c 3 _ rfl
     have f4:=FB.o.c 4 _ rfl
     have f5:=FB.o.c 5 _ rfl
     have f6:=FB.o.c 6 _ rfl
     have f7:=FB.o.c 7 _ rfl
     have f8:=FB.o.c 8 _ rfl
     have f9:=FB.o.c 9 _ rfl
     have f10:=FB.o.c 10 _ rfl
     have f11:=FB.o.c 11 _ rfl
     have f12:=FB.o.c 12 _ rfl
     try simp only at f0 f1 f2 f3 f4 f5 f6 f7 f8 f9 f10 f11 f12
     simp only [zeroM] at f0 f1 f2 f3 f4 f5 f6 f7 f8 f9 f10 f11 f12
     exact bodyPost_ret (v:=.tuple #[msV zeroM none 0 0,.int .i64 1]) (by simp [results,Tryz.results48,go_sem,f0,f1,f2,f3,f4,f5,f6,f7,f8,f9,f10,f11,f12,zeroM]) rfl ⟨rfl,FX.o⟩
    | some L=>
     have DLEN:=decL_len hdl
     rw [← HRR.o,List.length_drop,← HNR.o] at DLEN
     have HD:=hI hdl
     rw [hdl] at DD
     clear hdl
     go_wp2_with fail
     refine DD.mono ?_
     rintro e w2 ⟨pe,ce,rfl,oe,x2,lok⟩
     replace X2:=hI (X2.o.tr x2)
     replace T2:=hI (T2.o.ext x2)
     replace G:=hI (G.o.ext x2)
     have OE:=hI oe
     have LOK:=hI lok
     have XS:=hI x2.size
     replace XR2:=hI (XR2.o.tr x2)
     clear x2 DD oe lok c0 c1 c2 c3 c4 c5 c6 c7 c8 c9 c10 c11
     have c0:=G.o.c 0 _ rfl
     have c1:=G.o.c 1 _ rfl
     have c2:=G.o.c 2 _ rfl
     have c3:=G.o.c 3 _ rfl
     have c4:=G.o.c 4 _ rfl
     have c5:=G.o.c 5 _ rfl
     have c6:=G.o.c 6 _ rfl
     have c7:=G.o.c 7 _ rfl
     have c8:=G.o.c 8 _ rfl
     have c9:=G.o.c 9 _ rfl
     have c10:=G.o.c 10 _ rfl
     have c11:=G.o.c 11 _ rfl
     try simp only at c0 c1 c2 c3 c4 c5 c6 c7 c8 c9 c10 c11
     change w2.cell? _=some (.int .i64 z0) at c0
     change w2.cell? _=some (.int .i64 z1) at c1
     change w2.cell? _=some (.int .i64 z2) at c2
     change w2.cell? _=some (.int .i64 z3) at c3
     change w2.cell? _=some (.int .i64 z4) at c4
     change w2.cell? _=some (.int .i64 z5) at c5
     change w2.cell? _=some (.int .i64 z6) at c6
     change w2.cell? _=some (.int .i64 z7) at c7
     change w2.cell? _=some (.int .i64 z8) at c8
     change w2.cell? _=some (.int .i64 z9) at c9
     change w2.cell? _=some (.int .i64 z10) at c10
     change w2.cell? _=some (.int .i64 z11) at c11
     have S3:=hI (OE.o.sl.ext (Ext.alloc w2 (.cells (msA m pe L.length ce) 76)))
     have A3:=hI (Ext.alloc w2 (.cells (msA m pe L.length ce) 76))
     have M3:=hI (BoxV.new w2 w2.heap.size (msA m pe L.length ce) (msL m pe L.length ce) 76 _ rfl (Nat.le_refl _) rfl)
     have EN:=hI (fun w (h:SlS 7 w pe L.length ce (L.map enL))=>wencode_any MOK.o h LOK.o)
     obtain ⟨F,hF⟩:∃ F,F=encM m L:=⟨_,rfl⟩
     obtain ⟨B,hB⟩:∃ B,B=mayM m L:=⟨_,rfl⟩
     rw [← hF,← hB] at EN
     have HF:=hI hF
     have HB:=hI hB
     clear hF hB
     rw [HM.o] at EN A3 M3 S3
     try simp only at EN A3 M3 S3
     go_wp2_with fail
     refine (EN.o _ S3.o).mono ?_
     rintro e w3 ⟨p3,k3,rfl,o3,hn3,x3⟩
     replace X2:=hI (X2.o.tr (A3.o.tr x3))
     replace T2:=hI (T2.o.ext (A3.o.tr x3))
     replace M3:=hI (M3.o.ext x3)
     replace OE:=hI (OE.o.ext (A3.o.tr x3))
     have O3:=hI o3.sl
     clear x3 o3 c0 c1 c2 c3 c4 c5 c6 c7 c8 c9 c10 c11
     cases B
     ·have hp3:=hn3.2 rfl
      subst hp3
      have ne:=fun w=>nil_eq none F.length k3 w
      simp only [Option.isNone_none] at ne
      have hRn:R=none:=by
       rw [HR.o]
       refine decM_no HP.o HOF.o (fun L' hL h=>?_)
       rw [HD.o] at hL
       cases hL
       rw [← HB.o] at h
       cases h.2
      subst hRn
      clear hn3
      have b0:=T2.o.c 0 _ rfl
      have b1:=T2.o.c 1 _ rfl
      have b2:=T2.o.c 2 _ rfl
      have b3:=T2.o.c 3 _ rfl
      have b4:=T2.o.c 4 _ rfl
      have b5:=T2.o.c 5 _ rfl
      have b6:=T2.o.c 6 _ rfl
      have b7:=T2.o.c 7 _ rfl
      have b8:=T2.o.c 8 _ rfl
      have b9:=T2.o.c 9 _ rfl
      have b10:=T2.o.c 10 _ rfl
      have b11:=T2.o.c 11 _ rfl
      have b12:=T2.o.c 12 _ rfl
      try simp only at b0 b1 b2 b3 b4 b5 b6 b7 b8 b9 b10 b11 b12
      have bf:=T2.o.f
      go_wp2
      obtain ⟨w9,hw9⟩:∃ w9,w9=fillV w3 w.heap.size 0 (msL zeroM none 0 0):=⟨_,rfl⟩
      change bodyPost _ _ _ Exit.ret _ (fillV w3 w.heap.size 0 (msL zeroM none 0 0))
      have FB:=hI (T2.o.fill (vs:=msL zeroM none 0 0) (Nat.le_refl _))
      have FX:=hI (fillV_below X2.o (Nat.le_refl _) (msL zeroM none 0 0) 0)
      rw [← hw9] at FB FX ⊢
      have f0:=FB.o.c 0 _ rfl
      have f1:=FB.o.c 1 _ rfl
      have f2:=FB.o.c 2 _ rfl
      have f3:=FB.o.c 3 _ rfl
      have f4:=FB.o.c 4 _ rfl
      have f5:=FB.o.c 5 _ rfl
      have f6:=FB.o.c 6 _ rfl
      have f7:=FB.o.c 7 _ rfl
      have f8:=FB.o.c 8 _ rfl
      have f9:=FB.o.c 9 _ rfl
      have f10:=FB.o.c 10 _ rfl
      have f11:=FB.o.c 11 _ rfl
      have f12:=FB.o.c 12 _ rfl
      try simp only at f0 f1 f2 f3 f4 f5 f6 f7 f8 f9 f10 f11 f12
      simp only [zeroM] at f0 f1 f2 f3 f4 f5 f6 f7 f8 f9 f10 f11 f12
      exact bodyPost_ret (v:=.tuple #[msV zeroM none 0 0,.int .i64 1]) (by simp [results,Tryz.results48,go_sem,f0,f1,f2,f3,f4,f5,f6,f7,f8,f9,f10,f11,f12,zeroM]) rfl ⟨rfl,FX.o⟩
     ·obtain ⟨ad,rfl⟩:∃ ad,p3=some ad:=by
       cases p3 with
       | none=>cases hn3.1 rfl
       | some ad=>exact ⟨ad,rfl⟩
      clear hn3
      have ne:=fun w=>nil_eq (some ad) F.length k3 w
      simp only [Option.isNone_some] at ne
      have EQ:=hI (equal_any O3.o (H.o.ext X2.o))
      cases hfb:(F==b)
      ·rw [hfb] at EQ
       have hRn:R=none:=by
        rw [HR.o]
        refine decM_no HP.o HOF.o (fun L' hL h=>?_)
        rw [HD.o] at hL
        cases hL
        rw [← HF.o] at h
        rw [h.1,beq_self_eq_true] at hfb
        cases hfb
       subst hRn
       clear hfb
       go_wp2_with fail
       refine EQ.o.mono ?_
       rintro e w4 ⟨rfl,rfl⟩
       have b0:=T2.o.c 0 _ rfl
       have b1:=T2.o.c 1 _ rfl
       have b2:=T2.o.c 2 _ rfl
       have b3:=T2.o.c 3 _ rfl
       have b4:=T2.o.c 4 _ rfl
       have b5:=T2.o.c 5 _ rfl
       have b6:=T2.o.c 6 _ rfl
       have b7:=T2.o.c 7 _ rfl
       have b8:=T2.o.c 8 _ rfl
       have b9:=T2.o.c 9 _ rfl
       have b10:=T2.o.c 10 _ rfl
       have b11:=T2.o.c 11 _ rfl
       have b12:=T2.o.c 12 _ rfl
       try simp only at b0 b1 b2 b3 b4 b5 b6 b7 b8 b9 b10 b11 b12
       have bf:=T2.o.f
       go_wp2
       obtain ⟨w9,hw9⟩:∃ w9,w9=fillV w3 w.heap.size 0 (msL zeroM none 0 0):=⟨_,rfl⟩
       change bodyPost _ _ _ Exit.ret _ (fillV w3 w.heap.size 0 (msL zeroM none 0 0))
       have FB:=hI (T2.o.fill (vs:=msL zeroM none 0 0) (Nat.le_refl _))
       have FX:=hI (fillV_below X2.o (Nat.le_refl _) (msL zeroM none 0 0) 0)
       rw [← hw9] at FB FX ⊢
       have f0:=FB.o.c 0 _ rfl
       have f1:=FB.o.c 1 _ rfl
       have f2:=FB.o.c 2 _ rfl
       have f3:=FB.o.c 3 _ rfl
       have f4:=FB.o.c 4 _ rfl
       have f5:=FB.o.c 5 _ rfl
       have f6:=FB.o.c 6 _ rfl
       have f7:=FB.o.c 7 _ rfl
       have f8:=FB.o.c 8 _ rfl
       have f9:=FB.o.c 9 _ rfl
       have f10:=FB.o.c 10 _ rfl
       have f11:=FB.o.c 11 _ rfl
       have f12:=FB.o.c 12 _ rfl
       try simp only at f0 f1 f2 f3 f4 f5 f6 f7 f8 f9 f10 f11 f12
       simp only [zeroM] at f0 f1 f2 f3 f4 f5 f6 f7 f8 f9 f10 f11 f12
       exact bodyPost_ret (v:=.tuple #[msV zeroM none 0 0,.int .i64 1]) (by simp [results,Tryz.results48,go_sem,f0,f1,f2,f3,f4,f5,f6,f7,f8,f9,f10,f11,f12,zeroM]) rfl ⟨rfl,FX.o⟩
      ·rw [hfb] at EQ
       have hRs:R=some (m,L):=by
        rw [HR.o]
        exact decM_yes HO.o HP.o HOF.o HD.o (by rw [← HF.o];exact eq_of_beq hfb) HB.o.symm
       subst hRs
       clear hfb
       go_wp2_with fail
       refine EQ.o.mono ?_
       rintro e w4 ⟨rfl,rfl⟩
       obtain rfl:=HM.o
       have c0:=M3.o.c 0 _ rfl
       have c1:=M3.o.c 1 _ rfl
       have c2:=M3.o.c 2 _ rfl
       have c3:=M3.o.c 3 _ rfl
       have c4:=M3.o.c 4 _ rfl
       have c5:=M3.o.c 5 _ rfl
       have c6:=M3.o.c 6 _ rfl
       have c7:=M3.o.c 7 _ rfl
       have c8:=M3.o.c 8 _ rfl
       have c9:=M3.o.c 9 _ rfl
       have c10:=M3.o.c 10 _ rfl
       have c11:=M3.o.c 11 _ rfl
       have c12:=M3.o.c 12 _ rfl
       try simp only at c0 c1 c2 c3 c4 c5 c6 c7 c8 c9 c10 c11 c12
       have b0:=T2.o.c 0 _ rfl
       have b1:=T2.o.c 1 _ rfl
       have b2:=T2.o.c 2 _ rfl
       have b3:=T2.o.c 3 _ rfl
       have b4:=T2.o.c 4 _ rfl
       have b5:=T2.o.c 5 _ rfl
       have b6:=T2.o.c 6 _ rfl
       have b7:=T2.o.c 7 _ rfl
       have b8:=T2.o.c 8 _ rfl
       have b9:=T2.o.c 9 _ rfl
       have b10:=T2.o.c 10 _ rfl
       have b11:=T2.o.c 11 _ rfl
       have b12:=T2.o.c 12 _ rfl
       try simp only at b0 b1 b2 b3 b4 b5 b6 b7 b8 b9 b10 b11 b12
       have bf:=T2.o.f
       have hgw:w.heap.size<wr.heap.size:=(T.o.ext XR.o).hi
       go_wp2
       obtain ⟨w9,hw9⟩:∃ w9,w9=fillV w3 w.heap.size 0 (msL ⟨z0,z1,z2,z3,z4,z5,z6,z7,z8,z9,z10,decide (z11=1)⟩ pe L.length ce):=⟨_,rfl⟩
       change bodyPost _ _ _ Exit.ret _ (fillV w3 w.heap.size 0 (msL ⟨z0,z1,z2,z3,z4,z5,z6,z7,z8,z9,z10,decide (z11=1)⟩ pe L.length ce))
       have FB:=hI (T2.o.fill (vs:=msL ⟨z0,z1,z2,z3,z4,z5,z6,z7,z8,z9,z10,decide (z11=1)⟩ pe L.length ce) (Nat.le_refl _))
       have FX:=hI (fillV_below X2.o (Nat.le_refl _) (msL ⟨z0,z1,z2,z3,z4,z5,z6,z7,z8,z9,z10,decide (z11=1)⟩ pe L.length ce) 0)
       have FO:=hI ((OE.o.kept (fillV_grown w.heap.size (msL ⟨z0,z1,z2,z3,z4,z5,z6,z7,z8,z9,z10,decide (z11=1)⟩ pe L.length ce) 0 w3 w3 (grown_refl _ _)) (fun k hk=>by
        cases hk
        intro hc
        have:=OE.o.lt _ hc
        omega)).mono (show w.heap.size≤wr.heap.size by omega))
       rw [← hw9] at FB FX FO ⊢
       have f0:=FB.o.c 0 _ rfl
       have f1:=FB.o.c 1 _ rfl
       have f2:=FB.o.c 2 _ rfl
       have f3:=FB.o.c 3 _ rfl
       have f4:=FB.o.c 4 _ rfl
       have f5:=FB.o.c 5 _ rfl
       have f6:=FB.o.c 6 _ rfl
       have f7:=FB.o.c 7 _ rfl
       have f8:=FB.o.c 8 _ rfl
       have f9:=FB.o.c 9 _ rfl
       have f10:=FB.o.c 10 _ rfl
       have f11:=FB.o.c 11 _ rfl
       have f12:=FB.o.c 12 _ rfl
       try simp only at f0 f1 f2 f3 f4 f5 f6 f7 f8 f9 f10 f11 f12
       try simp only at f0 f1 f2 f3 f4 f5 f6 f7 f8 f9 f10 f11 f12
       exact bodyPost_ret (v:=.tuple #[msV ⟨z0,z1,z2,z3,z4,z5,z6,z7,z8,z9,z10,decide (z11=1)⟩ pe L.length ce,.int .i64 0]) (by simp [results,Tryz.results48,go_sem,f0,f1,f2,f3,f4,f5,f6,f7,f8,f9,f10,f11,f12]) rfl ⟨pe,ce,rfl,FO.o,LOK.o,MOK.o,FX.o⟩
end
section
open Go Go.Sort Go.RowKit
theorem nfill (g:Nat):∀ (vs:List Value) (j:Nat) (w:World),w.setCells g j vs=fillV w g j vs
 | [],_,_=>rfl
 | v::vs,j,w=>nfill g vs (j+1) _
theorem nthere {w:World} {base g:Nat} {vs:List Value} (h:BoxV w base g vs):w.there g 0 vs.length:=fun j hj=>⟨by rw [Nat.zero_add,h.c j _ (List.getElem?_eq_getElem hj)];rfl,by rw [Nat.zero_add];exact h.f j⟩
theorem SlS.mv {K n cap g:Nat} {p q:Option Addr} {L:List (List Value)} {w w':World} (h:SlS K w q n cap L) (k:Mv w w' g p) (hg:q.map (·.block)≠some g) (hp:∀ i,p.map (·.block)=some i→q.map (·.block)≠some i):SlS K w' q n cap L:=
 ⟨h.len,h.le,h.max,h.nil,h.wid,fun hn=>by
  obtain ⟨b,o,rfl,hc⟩:=h.cells hn
  refine ⟨b,o,rfl,fun i x hx j v hv=>?_⟩
  have h1:=hc i x hx j v hv
  have hb:=k.block b (World.block_lt_of_cell? w _ h1) (fun e=>hg (by rw [e];rfl)) (fun e=>hp b e rfl)
  exact (World.cell?_of_block hb).trans h1⟩
structure MsgD where
 m:MsD
 p:Option Addr
 cap:Nat
 L:List EnD
abbrev msgL (x:MsgD):List Value:=msL x.m x.p x.L.length x.cap
structure MsgOk (w:World) (x:MsgD):Prop where
 ok:MsOk x.m
 sl:SlS 7 w x.p x.L.length x.cap (x.L.map enL)
 en:∀ e ∈ x.L,EnOk e
theorem MsgOk.ext {w w':World} {x:MsgD} (h:MsgOk w x) (k:Ext w w'):MsgOk w' x:=⟨h.ok,h.sl.ext k,h.en⟩
def Sep (g:Nat) (p q:Option Addr):Prop:=q.map (·.block)≠some g∧∀ i,p.map (·.block)=some i→q.map (·.block)≠some i
def mkD (d:MailD):Int × List UInt8:=(d.to,d.b)
def stepK (l:List (Int × List UInt8)) (x:MsgD):List (Int × List UInt8):=if mayM x.m x.L&&decide (l.length<400) then l++[(x.m.to,encM x.m x.L)] else l
def sendK (l:List (Int × List UInt8)) (xs:List MsgD):List (Int × List UInt8):=xs.foldl stepK l
theorem sendK_take {l:List (Int × List UInt8)} {xs:List MsgD} {k:Nat} (h:k<xs.length):sendK l (xs.take (k+1))=stepK (sendK l (xs.take k)) xs[k]:=by
 unfold sendK
 rw [List.take_succ_eq_append_getElem h,List.foldl_append]
 rfl
theorem msg_size:(Tryz.prog.info? 76).map (·.size)=some 13:=by kernel_rfl
theorem msg_one (m:MsD) (p:Option Addr) (n cap:Nat):(msA m p n cap).all (·.oneCell')=true:=by simp [Value.oneCell']
theorem Mv.tr2 {a b c:World} {g:Nat} {p q:Option Addr} (h:Mv a b g p) (k:Mv b c g q) (hq:∀ i,q.map (·.block)=some i→p.map (·.block)=some i∨a.heap.size≤i):Mv a c g p:=
 ⟨k.os.trans h.os,k.tape.trans h.tape,k.output.trans h.output,Nat.le_trans h.size k.size,fun i hi hg hp=>(k.block i (Nat.lt_of_lt_of_le hi h.size) hg (by
  intro e
  rcases hq i e with h1 | h1
  ·exact hp h1
  ·omega)).trans (h.block i hi hg hp)⟩
theorem NetV.more {w w4:World} {g cap c4:Nat} {p p4:Option Addr} {ds:List MailD} {d:MailD} (h:NetV w g p cap ds) (hl:ds.length<400) (hs:d.b.length≤5294) (ho:OwP w (g+1) d.q d.b.length d.cap d.b) (hqg:d.q.map (·.block)≠some g) (hqp:∀ i,p.map (·.block)=some i→d.q.map (·.block)≠some i)
  (o4:OwS 119 2 w4 (g+1) p4 (ds.length+1) c4 (ds.map mailL++[mailL d])) (g4:Mv w w4 g p) (hb:BoxV w4 g g [.slice p ds.length cap]) :
  NetV (w4.setCell ⟨g,0,none⟩ (.slice p4 (ds.length+1) c4)) g p4 c4 (ds++[d]):=by
 have G:=grown_put (grown_refl w4 (some g)) 0 (.slice p4 (ds.length+1) c4)
 have M:=g4.tr (Mv.self G p)
 have hl2:(ds++[d]).length=ds.length+1:=by simp
 refine ⟨by rw [hl2];exact hb.put 0 _,by rw [hl2,List.map_append];exact o4.kept G (fun k hk=>by cases hk;exact fun e=>by have:=(o4.lt g e).1;omega),fun e he=>?_,by omega,fun e he=>?_⟩
 ·rcases List.mem_append.1 he with he | he
  ·exact (h.own e he).mv M (h.qne he) (h.qp he)
  ·simp at he
   subst he
   exact ho.mv M hqg hqp
 ·rcases List.mem_append.1 he with he | he
  ·exact h.small e he
  ·simp at he
   subst he
   exact hs
def Fr (w:World) (p q:Option Addr):Prop:=∀ i,q.map (·.block)=some i→p.map (·.block)=some i∨w.heap.size≤i
end
section
open Go Go.Sort Go.RowKit
abbrev grL (me:Int) (bs:Nat→Int) (ps:Nat→Int × Int × Bool):List Value:=[.int .i64 me,.int .i64 (bs 0),.int .i64 (bs 1),.int .i64 (bs 2),.int .i64 (bs 3),.int .i64 (bs 4),.int .i64 (bs 5),.int .i64 (bs 6),.int .i64 (bs 7),.int .i64 (ps 0).1,.int .i64 (ps 0).2.1,.bool (ps 0).2.2,.int .i64 (ps 1).1,.int .i64 (ps 1).2.1,.bool (ps 1).2.2,.int .i64 (ps 2).1,.int .i64 (ps 2).2.1,.bool (ps 2).2.2,.int .i64 (ps 3).1,.int .i64 (ps 3).2.1,.bool (ps 3).2.2,.int .i64 (ps 4).1,.int .i64 (ps 4).2.1,.bool (ps 4).2.2,.int .i64 (ps 5).1,.int .i64 (ps 5).2.1,.bool (ps 5).2.2,.int .i64 (ps 6).1,.int .i64 (ps 6).2.1,.bool (ps 6).2.2,.int .i64 (ps 7).1,.int .i64 (ps 7).2.1,.bool (ps 7).2.2]
abbrev grA (me:Int) (bs:Nat→Int) (ps:Nat→Int × Int × Bool):Array Value:=#[.int .i64 me,.int .i64 (bs 0),.int .i64 (bs 1),.int .i64 (bs 2),.int .i64 (bs 3),.int .i64 (bs 4),.int .i64 (bs 5),.int .i64 (bs 6),.int .i64 (bs 7),.int .i64 (ps 0).1,.int .i64 (ps 0).2.1,.bool (ps 0).2.2,.int .i64 (ps 1).1,.int .i64 (ps 1).2.1,.bool (ps 1).2.2,.int .i64 (ps 2).1,.int .i64 (ps 2).2.1,.bool (ps 2).2.2,.int .i64 (ps 3).1,.int .i64 (ps 3).2.1,.bool (ps 3).2.2,.int .i64 (ps 4).1,.int .i64 (ps 4).2.1,.bool (ps 4).2.2,.int .i64 (ps 5).1,.int .i64 (ps 5).2.1,.bool (ps 5).2.2,.int .i64 (ps 6).1,.int .i64 (ps 6).2.1,.bool (ps 6).2.2,.int .i64 (ps 7).1,.int .i64 (ps 7).2.1,.bool (ps 7).2.2]
def updF {α:Type} (f:Nat→α) (k:Nat) (v:α):Nat→α:=fun i=>if i=k then v else f i
theorem lt8 {F:Nat} (h:F<8):F=0∨F=1∨F=2∨F=3∨F=4∨F=5∨F=6∨F=7:=by omega
section
variable {me:Int} {bs:Nat→Int} {ps:Nat→Int × Int × Bool}
theorem grL_boot {F:Nat} (h:F<8):(grL me bs ps)[1+F]?=some (.int .i64 (bs F)):=by rcases lt8 h with rfl | rfl | rfl | rfl | rfl | rfl | rfl | rfl <;> rfl
theorem grL_setb {F:Nat} {v:Int} (h:F<8):(grL me bs ps).set (1+F) (.int .i64 v)=grL me (updF bs F v) ps:=by rcases lt8 h with rfl | rfl | rfl | rfl | rfl | rfl | rfl | rfl <;> rfl
end
def zP:Nat→Int × Int × Bool:=fun _=>(0,0,false)
def zB:Nat→Int:=fun _=>0
def isI (z:Int):Bool:=decide (1≤z)&&decide (z≤7)
theorem is_any (z:Int) (w:World):Calls Tryz.prog 166 #[.int .i64 z] w fun e w'=>e=.returned (.bool (isI z))∧w=w':=by
 by_cases h1:1≤z
 ·by_cases h2:z≤7
  all_goals
   have e:isI z=(decide (1≤z)&&decide (z≤7)):=rfl
   simp only [h1,h2,decide_true,decide_false,Bool.and_true,Bool.and_false] at e
   rw [e]
   clear e
   go_enter Tryz.func166,Tryz.ntmps166
   go_wp2
   go_ret
   simp
 ·have e:isI z=false:=by unfold isI;rw [decide_eq_false h1];rfl
  rw [e]
  clear e
  go_enter Tryz.func166,Tryz.ntmps166
  go_wp2
  go_ret
  simp
theorem gnew_any (z:Int) (w:World):Calls Tryz.prog 127 #[.int .i64 z] w fun e w'=>(isI z=true→e=.returned (.pointer (some ⟨w.heap.size,0,none⟩))∧BoxV w' w.heap.size w.heap.size (grL z zB zP))∧(isI z=false→e=.returned (.pointer none))∧Ext w w':=by
 have I:=fun w=>is_any z w
 cases hz:isI z
 ·rw [hz] at I
  clear hz
  go_enter Tryz.func127,Tryz.ntmps127
  go_wp2_with fail
  refine (I _).mono ?_
  rintro e w1 ⟨rfl,rfl⟩
  clear I
  go_wp2
  go_ret
  exact ⟨(fun h=>by cases h),fun _=>rfl,Ext.rfl' _⟩
 ·rw [hz] at I
  clear hz
  go_enter Tryz.func127,Tryz.ntmps127
  go_wp2_with fail
  refine (I _).mono ?_
  rintro e w1 ⟨rfl,rfl⟩
  clear I
  go_wp2
  go_ret
  exact ⟨fun _=>⟨rfl,BoxV.new w w.heap.size (grA z zB zP) (grL z zB zP) 210 _ rfl (Nat.le_refl _) rfl⟩,(fun h=>by cases h),Ext.alloc w _⟩
end
section
open Go Go.Sort Go.RowKit
theorem grown_fill1 {a:World} {t:Nat} {row:Option Nat} (ht:a.heap.size≤t):∀ (vs:List Value) (j:Nat) (w:World),a.grownBy w row→a.grownBy (fillV w t j vs) row
 | [],_,_,h=>h
 | v::vs,j,w,h=>grown_fill1 ht vs (j+1) _ ⟨h.os,h.tape,h.output,by simpa [World.setCell] using h.size,fun i hi hne=>(Below.heap_setCell w ⟨t,j,none⟩ v i (by rintro rfl;exact absurd hi (Nat.not_lt.2 ht))).trans (h.block i hi hne)⟩
theorem grown_fill {a w:World} {t:Nat} {row:Option Nat} (h:a.grownBy w row) (ht:a.heap.size≤t) (vs:List Value) (j:Nat):a.grownBy (fillV w t j vs) row:=grown_fill1 ht vs j w h
def hearR (me:Int) (bs:Nat→Int) (b:List UInt8):(MsD × List EnD) ⊕ Int:=
 match decM b with
 | none=>.inr 1
 | some (m,L)=>if m.to=me then (if m.bt<bs m.fr.toNat then .inr 7 else .inl (m,L)) else .inr 1
def HearPost (w:World) (base g:Nat) (me:Int) (bs:Nat→Int) (ps:Nat→Int × Int × Bool) (R:(MsD × List EnD) ⊕ Int) (e:Ending) (w':World):Prop:=
 match R with
 | .inr c=>e=.returned (.tuple #[msV zeroM none 0 0,.int .i64 c])∧BoxV w' base g (grL me bs ps)∧w.grownBy w' (some g)
 | .inl (m,L)=>∃ p cap,e=.returned (.tuple #[msV m p L.length cap,.int .i64 0])∧OwS 71 7 w' w.heap.size p L.length cap (L.map enL)∧(∀ x ∈ L,EnOk x)∧MsOk m∧BoxV w' base g (grL me (updF bs m.fr.toNat m.bt) ps)∧w.grownBy w' (some g)
theorem may_from {m:MsD} {L:List EnD} (h:mayM m L=true):1≤m.fr∧m.fr≤7:=by
 have:=(who_iff m).1 (mayM_iff.1 h).1
 omega
theorem hear_any {w:World} {base g:Nat} {me:Int} {bs:Nat→Int} {ps:Nat→Int × Int × Bool} (h:BoxV w base g (grL me bs ps)) {p:Option Addr} {n cap:Nat} {b:List UInt8} (hb:SlP w p n cap b) (hn:n≤6000) :
  Calls Tryz.prog 113 #[.pointer (some ⟨g,0,none⟩),.slice p n cap] w fun e w'=>HearPost w base g me bs ps (hearR me bs b) e w':=by
 obtain ⟨w0,hw0⟩:∃ w0,w0=w.alloc (.cells (msA zeroM none 0 0) 76):=⟨_,rfl⟩
 have D:Hid (BoxV w0 base g (grL me bs ps)):=hI (by rw [hw0];exact h.ext (Ext.alloc w _))
 have T:Hid (BoxV w0 w.heap.size w.heap.size (msL zeroM none 0 0)):=hI (by rw [hw0];exact BoxV.new w w.heap.size (msA zeroM none 0 0) (msL zeroM none 0 0) 76 _ rfl (Nat.le_refl _) rfl)
 have X:Hid (Ext w w0):=hI (by rw [hw0];exact Ext.alloc w _)
 have S:=hI (hb.ext X.o)
 have HG:=hI h.hi
 have HNE:Hid ((some w.heap.size:Option Nat)≠some g):=hI (by intro hh;injection hh with hh;have:=HG.o;omega)
 have DC:=hI (fun (w:World) (h:SlP w p n cap b)=>wdecode_any h hn)
 obtain ⟨R,hR⟩:∃ R,R=hearR me bs b:=⟨_,rfl⟩
 rw [← hR]
 have HR:=hI hR
 clear h hb hR
 cases hd:decM b with
 | none=>
  obtain rfl:R=.inr 1:=by rw [HR.o];unfold hearR;rw [hd]
  rw [hd] at DC
  clear hd HR
  go_enter Tryz.func113,Tryz.ntmps113
  go_wp2_with fail
  change Calls _ _ _ (w.alloc (.cells (msA zeroM none 0 0) 76)) _
  rw [← hw0]
  clear hw0
  refine (DC.o _ S.o).mono ?_
  rintro e w2 ⟨rfl,x2⟩
  have A2:=hI (x2.tr (Ext.alloc w2 (.cells (msA zeroM none 0 0) 76)))
  clear x2
  simp only [zeroM]
  go_wp2_with fail
  change Code.wp _ _ _ _ (w2.alloc (.cells (msA zeroM none 0 0) 76))
  generalize w2.alloc (.cells (msA zeroM none 0 0) 76)=w3 at *
  refine gtt [0,1,2,3,4,5,6,7,8,9,10,11] (Ext w3.drew) (Ext.rfl' _) (fun _=>?_)
  repeat ((first|refine gqq fun K hK=>?_|refine gkk fun K hK=>?_);go_big_quiet_op;refine hK _ ?_;clear hK K)
  refine rg_nil ?_
  replace D:=hI (D.o.ext (A2.o.tr (Ext.drew w3)))
  replace T:=hI (T.o.ext (A2.o.tr (Ext.drew w3)))
  replace X:=hI (X.o.tr (A2.o.tr (Ext.drew w3)))
  clear A2
  generalize w3.drew=w4 at *
  have b0:=T.o.c 0 _ rfl
  have b1:=T.o.c 1 _ rfl
  have b2:=T.o.c 2 _ rfl
  have b3:=T.o.c 3 _ rfl
  have b4:=T.o.c 4 _ rfl
  have b5:=T.o.c 5 _ rfl
  have b6:=T.o.c 6 _ rfl
  have b7:=T.o.c 7 _ rfl
  have b8:=T.o.c 8 _ rfl
  have b9:=T.o.c 9 _ rfl
  have b10:=T.o.c 10 _ rfl
  have b11:=T.o.c 11 _ rfl
  have b12:=T.o.c 12 _ rfl
  try simp only at b0 b1 b2 b3 b4 b5 b6 b7 b8 b9 b10 b11 b12
  have bf:=T.o.f
  go_wp2
  change bodyPost _ _ _ Exit.ret _ (fillV w4 w.heap.size 0 (msL zeroM none 0 0))
  have FB:=hI (T.o.fill (vs:=msL zeroM none 0 0) (Nat.le_refl _))
  have FG:=hI (grown_fill (grown_ext X.o (some g)) (Nat.le_refl _) (msL zeroM none 0 0) 0)
  have FD:=hI (D.o.other (fillV_grown w.heap.size (msL zeroM none 0 0) 0 w4 w4 (grown_refl _ _)) HNE.o)
  generalize fillV w4 w.heap.size 0 (msL zeroM none 0 0)=w9 at *
  have f0:=FB.o.c 0 _ rfl
  have f1:=FB.o.c 1 _ rfl
  have f2:=FB.o.c 2 _ rfl
  have f3:=FB.o.c 3 _ rfl
  have f4:=FB.o.c 4 _ rfl
  have f5:=FB.o.c 5 _ rfl
  have f6:=FB.o.c 6 _ rfl
  have f7:=FB.o.c 7 _ rfl
  have f8:=FB.o.c 8 _ rfl
  have f9:=FB.o.c 9 _ rfl
  have f10:=FB.o.c 10 _ rfl
  have f11:=FB.o.c 11 _ rfl
  have f12:=FB.o.c 12 _ rfl
  try simp only at f0 f1 f2 f3 f4 f5 f6 f7 f8 f9 f10 f11 f12
  simp only [zeroM] at f0 f1 f2 f3 f4 f5 f6 f7 f8 f9 f10 f11 f12
  exact bodyPost_ret (v:=.tuple #[msV zeroM none 0 0,.int .i64 1]) (by simp [results,Tryz.results113,go_sem,f0,f1,f2,f3,f4,f5,f6,f7,f8,f9,f10,f11,f12,zeroM]) rfl ⟨rfl,FD.o,FG.o⟩
 | some Q=>
  obtain ⟨m,L⟩:=Q
  have HF:=hI (may_from (decM_some hd).2.1)
  rw [hd] at DC
  have HR2:Hid (R=if m.to=me then (if m.bt<bs m.fr.toNat then .inr 7 else .inl (m,L)) else .inr 1):=hI (by rw [HR.o];unfold hearR;rw [hd])
  clear hd HR
  obtain ⟨kd,fr,tt,bt,vw,ls,mb,po,cm,nm,ck,ye⟩:=m
  simp only at HR2 HF
  obtain ⟨F,rfl⟩:∃ F:Nat,fr=(F:Int):=⟨fr.toNat,by have:=HF.o;omega⟩
  have hF:F<8:=by have:=HF.o;omega
  have FT:Hid ((F:Int).toNat=F):=hI (by omega)
  rw [FT.o] at HR2
  go_enter Tryz.func113,Tryz.ntmps113
  go_wp2_with fail
  change Calls _ _ _ (w.alloc (.cells (msA zeroM none 0 0) 76)) _
  rw [← hw0]
  clear hw0
  refine (DC.o _ S.o).mono ?_
  rintro e w2 ⟨p2,k2,rfl,o2,lok,mok,x2⟩
  have A2:=hI (x2.tr (Ext.alloc w2 (.cells (msA ⟨kd,F,tt,bt,vw,ls,mb,po,cm,nm,ck,ye⟩ p2 L.length k2) 76)))
  have O:=hI ((o2.ext (Ext.alloc w2 (.cells (msA ⟨kd,F,tt,bt,vw,ls,mb,po,cm,nm,ck,ye⟩ p2 L.length k2) 76))).mono X.o.size)
  have Y:=hI (BoxV.new w2 w.heap.size (msA ⟨kd,F,tt,bt,vw,ls,mb,po,cm,nm,ck,ye⟩ p2 L.length k2) (msL ⟨kd,F,tt,bt,vw,ls,mb,po,cm,nm,ck,ye⟩ p2 L.length k2) 76 w2.heap.size rfl (Nat.le_trans X.o.size x2.size) rfl)
  have HOT:Hid (p2.map (·.block)≠some w.heap.size):=hI (by
   intro hc
   have h1:=o2.lt _ hc
   have h2:=T.o.hi
   omega)
  have HY:Hid (g<w2.heap.size∧w.heap.size<w2.heap.size):=hI ⟨Nat.lt_of_lt_of_le D.o.hi x2.size,Nat.lt_of_lt_of_le T.o.hi x2.size⟩
  have LOK:=hI lok
  have MOK:=hI mok
  clear x2 o2 lok mok
  go_wp2_with fail
  change Code.wp _ _ _ _ (w2.alloc (.cells (msA ⟨kd,F,tt,bt,vw,ls,mb,po,cm,nm,ck,ye⟩ p2 L.length k2) 76))
  generalize hy:w2.heap.size=y at *
  generalize w2.alloc (.cells (msA ⟨kd,F,tt,bt,vw,ls,mb,po,cm,nm,ck,ye⟩ p2 L.length k2) 76)=w3 at *
  clear hy
  replace D:=hI (D.o.ext (A2.o.tr (Ext.drew w3)))
  replace T:=hI (T.o.ext (A2.o.tr (Ext.drew w3)))
  replace Y:=hI (Y.o.ext (Ext.drew w3))
  replace O:=hI (O.o.ext (Ext.drew w3))
  replace X:=hI (X.o.tr (A2.o.tr (Ext.drew w3)))
  clear A2
  have s2:=fun (q:Wrap (Ext w3.drew))=>Ext.cell q.h (Y.o.c 2 _ rfl)
  have r0:=fun (q:Wrap (Ext w3.drew))=>Ext.cell q.h (D.o.c 0 _ rfl)
  try simp only at s2 r0
  by_cases ht:tt=me
  ·subst ht
   refine gtt [0,1,2,3,4,5,6,7,8,9,10,11] (Ext w3.drew) (Ext.rfl' _) (fun _=>?_)
   repeat ((first|refine gqq fun K hK=>?_|refine gkk fun K hK=>?_);go_big_quiet_op;refine hK _ ?_;clear hK K)
   refine rg_nil ?_
   clear s2 r0
   generalize w3.drew=w4 at *
   go_wp2_with fail
   replace D:=hI (D.o.ext (Ext.drew w4))
   replace T:=hI (T.o.ext (Ext.drew w4))
   replace Y:=hI (Y.o.ext (Ext.drew w4))
   replace O:=hI (O.o.ext (Ext.drew w4))
   replace X:=hI (X.o.tr (Ext.drew w4))
   have s1:=fun (q:Wrap (Ext w4.drew))=>Ext.cell q.h (Y.o.c 1 _ rfl)
   have s3:=fun (q:Wrap (Ext w4.drew))=>Ext.cell q.h (Y.o.c 3 _ rfl)
   have r1:=fun (q:Wrap (Ext w4.drew))=>Ext.cell q.h (D.o.c _ _ (grL_boot (me:=tt) (bs:=bs) (ps:=ps) hF))
   try simp only at s1 s3
   by_cases hlt:bt<bs F
   ·obtain rfl:R=.inr 7:=by rw [HR2.o,if_pos trivial,if_pos hlt]
    refine gtt [0,1,2,3,4,5,6,7,8,9,10] (Ext w4.drew) (Ext.rfl' _) (fun _=>?_)
    repeat ((first|refine gqq fun K hK=>?_|refine gkk fun K hK=>?_);go_big_quiet_op;refine hK _ ?_;clear hK K)
    refine rg_nil ?_
    clear s1 s3 r1
    generalize w4.drew=w5 at *
    have b0:=T.o.c 0 _ rfl
    have b1:=T.o.c 1 _ rfl
    have b2:=T.o.c 2 _ rfl
    have b3:=T.o.c 3 _ rfl
    have b4:=T.o.c 4 _ rfl
    have b5:=T.o.c 5 _ rfl
    have b6:=T.o.c 6 _ rfl
    have b7:=T.o.c 7 _ rfl
    have b8:=T.o.c 8 _ rfl
    have b9:=T.o.c 9 _ rfl
    have b10:=T.o.c 10 _ rfl
    have b11:=T.o.c 11 _ rfl
    have b12:=T.o.c 12 _ rfl
    try simp only at b0 b1 b2 b3 b4 b5 b6 b7 b8 b9 b10 b11 b12
    have bf:=T.o.f
    go_wp2
    change bodyPost _ _ _ Exit.ret _ (fillV w5 w.heap.size 0 (msL zeroM none 0 0))
    have FB:=hI (T.o.fill (vs:=msL zeroM none 0 0) (Nat.le_refl _))
    have FG:=hI (grown_fill (grown_ext X.o (some g)) (Nat.le_refl _) (msL zeroM none 0 0) 0)
    have FD:=hI (D.o.other (fillV_grown w.heap.size (msL zeroM none 0 0) 0 w5 w5 (grown_refl _ _)) HNE.o)
    generalize fillV w5 w.heap.size 0 (msL zeroM none 0 0)=w9 at *
    have f0:=FB.o.c 0 _ rfl
    have f1:=FB.o.c 1 _ rfl
    have f2:=FB.o.c 2 _ rfl
    have f3:=FB.o.c 3 _ rfl
    have f4:=FB.o.c 4 _ rfl
    have f5:=FB.o.c 5 _ rfl
    have f6:=FB.o.c 6 _ rfl
    have f7:=FB.o.c 7 _ rfl
    have f8:=FB.o.c 8 _ rfl
    have f9:=FB.o.c 9 _ rfl
    have f10:=FB.o.c 10 _ rfl
    have f11:=FB.o.c 11 _ rfl
    have f12:=FB.o.c 12 _ rfl
    try simp only at f0 f1 f2 f3 f4 f5 f6 f7 f8 f9 f10 f11 f12
    simp only [zeroM] at f0 f1 f2 f3 f4 f5 f6 f7 f8 f9 f10 f11 f12
    exact bodyPost_ret (v:=.tuple #[msV zeroM none 0 0,.int .i64 7]) (by simp [results,Tryz.results113,go_sem,f0,f1,f2,f3,f4,f5,f6,f7,f8,f9,f10,f11,f12,zeroM]) rfl ⟨rfl,FD.o,FG.o⟩
   ·obtain rfl:R=.inl (⟨kd,F,tt,bt,vw,ls,mb,po,cm,nm,ck,ye⟩,L):=by rw [HR2.o,if_pos trivial,if_neg hlt]
    refine gtt [0,1,2,3,4,5,6,7,8,9,10] (Ext w4.drew) (Ext.rfl' _) (fun _=>?_)
    repeat ((first|refine gqq fun K hK=>?_|refine gkk fun K hK=>?_);go_big_quiet_op;refine hK _ ?_;clear hK K)
    refine rg_nil ?_
    clear s1 s3 r1
    generalize w4.drew=w5 at *
    go_wp2_with fail
    replace D:=hI (D.o.ext (Ext.drew w5))
    replace T:=hI (T.o.ext (Ext.drew w5))
    replace Y:=hI (Y.o.ext (Ext.drew w5))
    replace O:=hI (O.o.ext (Ext.drew w5))
    replace X:=hI (X.o.tr (Ext.drew w5))
    have HYN:Hid ((some g:Option Nat)≠some y):=hI (by intro hh;injection hh with hh;have:=HY.o;omega)
    have HTN:Hid ((some g:Option Nat)≠some w.heap.size):=hI (Ne.symm HNE.o)
    have s1:=fun (q:Wrap (fun x=>w5.drew.grownBy x (some g)))=>(Y.o.other q.h HYN.o).c 1 _ rfl
    have s3:=fun (q:Wrap (fun x=>w5.drew.grownBy x (some g)))=>(Y.o.other q.h HYN.o).c 3 _ rfl
    try simp only at s1 s3
    refine gtt [0,1,2,3,4,5,6,7,8] (fun x=>w5.drew.grownBy x (some g)) (grown_refl _ _) (fun _=>?_)
    generalize w5.drew=wd at *
    repeat ((first|refine gqq fun K hK=>?_|refine gkk fun K hK=>?_);go_big_quiet_op;refine hK _ ?_;clear hK K)
    clear s1 s3
    have cb:=D.o.c _ _ (grL_boot (me:=tt) (bs:=bs) (ps:=ps) hF)
    have cf:=D.o.f
    refine gcc fun K hK=>?_
    go_simp
    have G:=hI (grown_put (grown_refl wd (some g)) (1+F) (.int .i64 bt))
    have D2:Hid (BoxV (wd.setCell ⟨g,1+F,none⟩ (.int .i64 bt)) base g (grL tt (updF bs F bt) ps)):=hI (by rw [← grL_setb hF];exact D.o.put _ _)
    refine hK _ _ _ (fun _ h=>h) G.o (fun _=>?_)
    clear hK K cb cf
    refine rg_nil ?_
    replace T:=hI (T.o.other G.o HTN.o)
    replace Y:=hI (Y.o.other G.o HYN.o)
    replace O:=hI (O.o.kept G.o (fun k hk=>by
     cases hk
     intro hc
     have h1:=O.o.lt _ hc
     have h2:=HG.o
     omega))
    have XG:=hI (grown_tr (grown_ext X.o (some g)) G.o)
    clear D X G
    generalize wd.setCell ⟨g,1+F,none⟩ (.int .i64 bt)=w6 at *
    have b0:=T.o.c 0 _ rfl
    have b1:=T.o.c 1 _ rfl
    have b2:=T.o.c 2 _ rfl
    have b3:=T.o.c 3 _ rfl
    have b4:=T.o.c 4 _ rfl
    have b5:=T.o.c 5 _ rfl
    have b6:=T.o.c 6 _ rfl
    have b7:=T.o.c 7 _ rfl
    have b8:=T.o.c 8 _ rfl
    have b9:=T.o.c 9 _ rfl
    have b10:=T.o.c 10 _ rfl
    have b11:=T.o.c 11 _ rfl
    have b12:=T.o.c 12 _ rfl
    try simp only at b0 b1 b2 b3 b4 b5 b6 b7 b8 b9 b10 b11 b12
    have bf:=T.o.f
    have c0:=Y.o.c 0 _ rfl
    have c1:=Y.o.c 1 _ rfl
    have c2:=Y.o.c 2 _ rfl
    have c3:=Y.o.c 3 _ rfl
    have c4:=Y.o.c 4 _ rfl
    have c5:=Y.o.c 5 _ rfl
    have c6:=Y.o.c 6 _ rfl
    have c7:=Y.o.c 7 _ rfl
    have c8:=Y.o.c 8 _ rfl
    have c9:=Y.o.c 9 _ rfl
    have c10:=Y.o.c 10 _ rfl
    have c11:=Y.o.c 11 _ rfl
    have c12:=Y.o.c 12 _ rfl
    try simp only at c0 c1 c2 c3 c4 c5 c6 c7 c8 c9 c10 c11 c12
    go_wp2
    change bodyPost _ _ _ Exit.ret _ (fillV w6 w.heap.size 0 (msL ⟨kd,F,tt,bt,vw,ls,mb,po,cm,nm,ck,ye⟩ p2 L.length k2))
    have FB:=hI (T.o.fill (vs:=msL ⟨kd,F,tt,bt,vw,ls,mb,po,cm,nm,ck,ye⟩ p2 L.length k2) (Nat.le_refl _))
    have FG:=hI (grown_fill XG.o (Nat.le_refl _) (msL ⟨kd,F,tt,bt,vw,ls,mb,po,cm,nm,ck,ye⟩ p2 L.length k2) 0)
    have FW:=hI (fillV_grown w.heap.size (msL ⟨kd,F,tt,bt,vw,ls,mb,po,cm,nm,ck,ye⟩ p2 L.length k2) 0 w6 w6 (grown_refl _ _))
    have FD:=hI (D2.o.other FW.o HNE.o)
    have FO:=hI (O.o.kept FW.o (fun k hk=>by
     cases hk
     intro hc
     exact absurd hc HOT.o))
    generalize fillV w6 w.heap.size 0 (msL ⟨kd,F,tt,bt,vw,ls,mb,po,cm,nm,ck,ye⟩ p2 L.length k2)=w9 at *
    have f0:=FB.o.c 0 _ rfl
    have f1:=FB.o.c 1 _ rfl
    have f2:=FB.o.c 2 _ rfl
    have f3:=FB.o.c 3 _ rfl
    have f4:=FB.o.c 4 _ rfl
    have f5:=FB.o.c 5 _ rfl
    have f6:=FB.o.c 6 _ rfl
    have f7:=FB.o.c 7 _ rfl
    have f8:=FB.o.c 8 _ rfl
    have f9:=FB.o.c 9 _ rfl
    have f10:=FB.o.c 10 _ rfl
    have f11:=FB.o.c 11 _ rfl
    have f12:=FB.o.c 12 _ rfl
    try simp only at f0 f1 f2 f3 f4 f5 f6 f7 f8 f9 f10 f11 f12
    exact bodyPost_ret (v:=.tuple #[msV ⟨kd,F,tt,bt,vw,ls,mb,po,cm,nm,ck,ye⟩ p2 L.length k2,.int .i64 0]) (by simp [results,Tryz.results113,go_sem,f0,f1,f2,f3,f4,f5,f6,f7,f8,f9,f10,f11,f12]) rfl ⟨p2,k2,rfl,FO.o,LOK.o,MOK.o,by simp only [FT.o];exact FD.o,FG.o⟩
  ·obtain rfl:R=.inr 1:=by rw [HR2.o,if_neg ht]
   have f1:(tt==me)=false:=beq_eq_false_iff_ne.2 ht
   have f2:(tt != me)=true:=bne_iff_ne.2 ht
   refine gtt [0,1,2,3,4,5,6,7,8,9,10,11] (Ext w3.drew) (Ext.rfl' _) (fun _=>?_)
   repeat ((first|refine gqq fun K hK=>?_|refine gkk fun K hK=>?_);go_big_quiet_op;refine hK _ ?_;clear hK K)
   refine rg_nil ?_
   clear s2 r0
   generalize w3.drew=w4 at *
   have b0:=T.o.c 0 _ rfl
   have b1:=T.o.c 1 _ rfl
   have b2:=T.o.c 2 _ rfl
   have b3:=T.o.c 3 _ rfl
   have b4:=T.o.c 4 _ rfl
   have b5:=T.o.c 5 _ rfl
   have b6:=T.o.c 6 _ rfl
   have b7:=T.o.c 7 _ rfl
   have b8:=T.o.c 8 _ rfl
   have b9:=T.o.c 9 _ rfl
   have b10:=T.o.c 10 _ rfl
   have b11:=T.o.c 11 _ rfl
   have b12:=T.o.c 12 _ rfl
   try simp only at b0 b1 b2 b3 b4 b5 b6 b7 b8 b9 b10 b11 b12
   have bf:=T.o.f
   go_wp2
   change bodyPost _ _ _ Exit.ret _ (fillV w4 w.heap.size 0 (msL zeroM none 0 0))
   have FB:=hI (T.o.fill (vs:=msL zeroM none 0 0) (Nat.le_refl _))
   have FG:=hI (grown_fill (grown_ext X.o (some g)) (Nat.le_refl _) (msL zeroM none 0 0) 0)
   have FD:=hI (D.o.other (fillV_grown w.heap.size (msL zeroM none 0 0) 0 w4 w4 (grown_refl _ _)) HNE.o)
   generalize fillV w4 w.heap.size 0 (msL zeroM none 0 0)=w9 at *
   have f0:=FB.o.c 0 _ rfl
   have f1:=FB.o.c 1 _ rfl
   have f2:=FB.o.c 2 _ rfl
   have f3:=FB.o.c 3 _ rfl
   have f4:=FB.o.c 4 _ rfl
   have f5:=FB.o.c 5 _ rfl
   have f6:=FB.o.c 6 _ rfl
   have f7:=FB.o.c 7 _ rfl
   have f8:=FB.o.c 8 _ rfl
   have f9:=FB.o.c 9 _ rfl
   have f10:=FB.o.c 10 _ rfl
   have f11:=FB.o.c 11 _ rfl
   have f12:=FB.o.c 12 _ rfl
   try simp only at f0 f1 f2 f3 f4 f5 f6 f7 f8 f9 f10 f11 f12
   simp only [zeroM] at f0 f1 f2 f3 f4 f5 f6 f7 f8 f9 f10 f11 f12
   exact bodyPost_ret (v:=.tuple #[msV zeroM none 0 0,.int .i64 1]) (by simp [results,Tryz.results113,go_sem,f0,f1,f2,f3,f4,f5,f6,f7,f8,f9,f10,f11,f12,zeroM]) rfl ⟨rfl,FD.o,FG.o⟩
end
section
open Go Go.RowKit
theorem nan_any (x:Int) (w:World):Calls Tryz.prog 237 #[.int .i64 x] w fun e w'=>e=.returned (.bool false)∧w=w':=by
 go_enter Tryz.func237,Tryz.ntmps237
 go_wp2
 go_ret
 simp
theorem less_any (x y:Int) (w:World):Calls Tryz.prog 225 #[.int .i64 x,.int .i64 y] w fun e w'=>e=.returned (.bool (decide (x<y)))∧w=w':=by
 go_enter Tryz.func225,Tryz.ntmps225
 go_wp2_with fail
 refine (nan_any x w).mono ?_
 rintro e w' ⟨rfl,rfl⟩
 go_wp2
 go_ret
 exact ⟨rfl,rfl⟩
def swapI (l:List Int) (m:Nat):List Int:=(l.set (m+1) (l.getD m 0)).set m (l.getD (m+1) 0)
def sinkI:List Int→Nat→List Int
 | l,0=>l
 | l,m+1=>if l.getD (m+1) 0<l.getD m 0 then sinkI (swapI l m) m else l
def sortI (l:List Int):List Int:=(List.range' 1 (l.length-1)).foldl sinkI l
theorem swapI_len (l:List Int) (m:Nat):(swapI l m).length=l.length:=by simp [swapI]
theorem sinkI_len:∀ (m:Nat) (l:List Int),(sinkI l m).length=l.length
 | 0,l=>rfl
 | m+1,l=>by
  unfold sinkI
  split
  ·rw [sinkI_len m,swapI_len]
  ·rfl
theorem box_swap {w:World} {b m:Nat} {l:List Int} {x y:Int} (h:BoxV w 0 b (i64L l)) (hy:l[m]?=some y) (hx:l[m+1]?=some x):BoxV ((w.setCell ⟨b,m+1,none⟩ (.int .i64 y)).setCell ⟨b,m,none⟩ (.int .i64 x)) 0 b (i64L (swapI l m)):=by
 have:=(h.put (m+1) (.int .i64 y)).put m (.int .i64 x)
 rw [← i64L_set,← i64L_set] at this
 unfold swapI
 rw [List.getD_eq_getElem?_getD,List.getD_eq_getElem?_getD,hy,hx]
 exact this
theorem insert_any {w:World} {b n cap:Nat} {l:List Int} (h:BoxV w 0 b (i64L l)) (hl:l.length=n) (hn:n≤12) (hnc:n≤cap) :
  Calls Tryz.prog 219 #[.slice (some ⟨b,0,none⟩) n cap,.int .i64 0,.int .i64 (n:Int)] w fun e w'=>e=.returned (.tuple #[])∧BoxV w' 0 b (i64L (sortI l))∧w.grownBy w' (some b):=by
 have H:=hI h
 have HLN:=hI hl
 clear h hl
 go_enter Tryz.func219,Tryz.ntmps219
 go_wp2_with fail
 go_loopw [6] (fun i wr=>∃ (k:Nat) (cur:List Int),1≤k∧i=.int .i64 (k:Int)∧k≤13∧Hid (BoxV wr 0 b (i64L cur))∧Hid (cur.length=n)∧Hid ((List.range' k (n-k)).foldl sinkI cur=sortI l)∧Hid (w.grownBy wr (some b))) (fun i _=>13-(intOf i).toNat)
 case atStart=>exact ⟨1,l,by omega,rfl,by omega,H,HLN,hI (by unfold sortI;rw [HLN.o]),hI (grown_refl _ _)⟩
 clear H HLN
 case round=>
  obtain ⟨k,cur,hk1,rfl,hk13,B,CL,SO,G⟩:=hrel
  by_cases hlt:k<n
  ·have b1:(k:Int)<(n:Int):=by omega
   have HK:=hI (show k<n from hlt)
   go_wp2_with fail
   go_loopw [7] (fun j wr2=>∃ (m:Nat) (c2:List Int),m≤k∧j=.int .i64 (m:Int)∧Hid (BoxV wr2 0 b (i64L c2))∧Hid (c2.length=n)∧Hid (sinkI c2 m=sinkI cur k)∧Hid (w.grownBy wr2 (some b))) (fun j _=>(intOf j).toNat)
   case atStart=>exact ⟨k,cur,by omega,rfl,B,CL,hI rfl,G⟩
   clear B CL G
   case round=>
    obtain ⟨m,c2,hm,rfl,B,CL,SK,G⟩:=hrel
    cases m with
    | zero=>
     have HE:Hid (c2=sinkI cur k):=hI (by have:=SK.o;rw [← this];rfl)
     obtain ⟨w9,hw9⟩:∃ w9,w9=wr.drew:=⟨_,rfl⟩
     replace B:Hid (BoxV w9 0 b (i64L c2)):=hI (by rw [hw9];exact B.o.ext (Ext.drew wr))
     replace G:Hid (w.grownBy w9 (some b)):=hI (by rw [hw9];exact grown_tr G.o (grown_ext (Ext.drew wr) _))
     go_upto_region 4 with fail
     refine att [0,1,2,3,4,5,6,7,8,9,10,11,12,13,14] [] ?_
     rw [← hw9]
     clear hw9 SK
     repeat ((first|refine aqq fun K hK=>?_|refine akk fun K hK=>?_);go_big_quiet_op;refine hK _ ?_;clear hK K)
     refine ra_nil ?_
     refine rt_nil ?_
     go_wp2
     go_roundw
     case rel=>exact ⟨k+1,c2,by omega,by go_num,by omega,B,CL,hI (by
      have h1:=SO.o
      rw [show n-k=(n-(k+1))+1 by have:=HK.o;omega,List.range'_succ,List.foldl_cons,← HE.o] at h1
      exact h1),G⟩
     case measure=>simp [intOf];omega
    | succ m=>
     obtain ⟨x,hx⟩:∃ x,c2[m+1]?=some x:=⟨c2[m+1]'(by have:=CL.o;omega),List.getElem?_eq_getElem _⟩
     obtain ⟨y,hy⟩:∃ y,c2[m]?=some y:=⟨c2[m]'(by have:=CL.o;omega),List.getElem?_eq_getElem _⟩
     have HX:=hI hx
     have HY:=hI hy
     have SU:Hid (sinkI c2 (m+1)=if x<y then sinkI (swapI c2 m) m else c2):=hI (by
      rw [sinkI,List.getD_eq_getElem?_getD,List.getD_eq_getElem?_getD,hx,hy]
      rfl)
     clear hx hy
     obtain ⟨w9,hw9⟩:∃ w9,w9=wr.drew:=⟨_,rfl⟩
     replace B:Hid (BoxV w9 0 b (i64L c2)):=hI (by rw [hw9];exact B.o.ext (Ext.drew wr))
     replace G:Hid (w.grownBy w9 (some b)):=hI (by rw [hw9];exact grown_tr G.o (grown_ext (Ext.drew wr) _))
     have r1:=fun d os=>Ext.cell (Ext.reg w9 d os) (B.o.c (m+1) _ (i64L_at HX.o))
     have r0:=fun d os=>Ext.cell (Ext.reg w9 d os) (B.o.c m _ (i64L_at HY.o))
     have e1:IntKind.i64.wrap (((m+1:Nat):Int)-1)=(m:Int):=by rw [IntWalk.i64_in _ (by omega)];omega
     have e1':IntKind.i64.wrap ((m:Int)+1-1)=(m:Int):=by rw [IntWalk.i64_in _ (by omega)];omega
     have l1:((m:Int)+1)<(n:Int):=by omega
     have l2:m+1<n:=by omega
     have l3:(m:Int)<(n:Int):=by omega
     have l4:m<n:=by omega
     go_upto_region 4 with fail
     refine att [0,1,2,3,4,5,6,7,8,9,10,11,12,13,14] [] ?_
     rw [← hw9]
     clear hw9
     repeat ((first|refine aqq fun K hK=>?_|refine akk fun K hK=>?_);go_big_quiet_op;refine hK _ ?_;clear hK K)
     refine acc fun K hK=>?_
     go_simp
     refine (less_any x y _).mono ?_
     rintro e w5 ⟨rfl,rfl⟩
     refine hK _ _ (Ext.rfl' _) ?_
     clear hK K r0 r1
     by_cases hlt2:x<y
     ·have dl:decide (x<y)=true:=decide_eq_true hlt2
      repeat ((first|refine aqq fun K hK=>?_|refine akk fun K hK=>?_);go_big_quiet_op;refine hK _ ?_;clear hK K)
      refine ra_nil ?_
      refine rt_nil ?_
      have SW:Hid (sinkI (swapI c2 m) m=sinkI cur k):=hI (by rw [← SK.o,SU.o,if_pos hlt2])
      have c1:=B.o.c (m+1) _ (i64L_at HX.o)
      have c0:=B.o.c m _ (i64L_at HY.o)
      have c1d:=(B.o.ext (Ext.drew w9)).c (m+1) _ (i64L_at HX.o)
      have c0d:=(B.o.ext (Ext.drew w9)).c m _ (i64L_at HY.o)
      have f:=B.o.f
      have W2:Hid (BoxV ((w9.setCell ⟨b,m+1,none⟩ (.int .i64 y)).setCell ⟨b,m,none⟩ (.int .i64 x)) 0 b (i64L (swapI c2 m))∧w.grownBy ((w9.setCell ⟨b,m+1,none⟩ (.int .i64 y)).setCell ⟨b,m,none⟩ (.int .i64 x)) (some b)):=hI ⟨box_swap B.o HY.o HX.o,grown_put (grown_put G.o _ _) _ _⟩
      clear hlt2 SU SK
      go_wp2_with fail
      go_region
      clear c1 c0 c1d c0d f
      generalize (w9.setCell ⟨b,m+1,none⟩ (.int .i64 y)).setCell ⟨b,m,none⟩ (.int .i64 x)=w6 at *
      have B6:=hI (W2.o.1.ext (Ext.drew w6))
      have G6:=hI (grown_tr W2.o.2 (grown_ext (Ext.drew w6) (some b)))
      have CL6:Hid ((swapI c2 m).length=n):=hI (by rw [swapI_len];exact CL.o)
      clear W2 B G e1 e1' l1 l2 l3 l4 dl
      go_wp2
      go_roundw
      case rel=>exact ⟨m,swapI c2 m,by omega,by go_num,B6,CL6,SW,G6⟩
      case measure=>simp [intOf]
     ·have dl:decide (x<y)=false:=decide_eq_false hlt2
      repeat ((first|refine aqq fun K hK=>?_|refine akk fun K hK=>?_);go_big_quiet_op;refine hK _ ?_;clear hK K)
      refine ra_nil ?_
      refine rt_nil ?_
      have HE:Hid (c2=sinkI cur k):=hI (by rw [← SK.o,SU.o,if_neg hlt2])
      clear hlt2 SU SK e1 e1' l1 l2 l3 l4 dl HX HY
      go_wp2
      go_roundw
      case rel=>exact ⟨k+1,c2,by omega,by go_num,by omega,B,CL,hI (by
       have h1:=SO.o
       rw [show n-k=(n-(k+1))+1 by have:=HK.o;omega,List.range'_succ,List.foldl_cons,← HE.o] at h1
       exact h1),G⟩
      case measure=>simp [intOf];omega
  ·have HE:Hid (cur=sortI l):=hI (by
    have h1:=SO.o
    rw [show n-k=0 by omega] at h1
    exact h1)
   go_wp2
   refine bodyPost_end (v:=.tuple #[]) (by simp [results,Tryz.results219,go_sem]) rfl ?_
   exact ⟨rfl,by rw [← HE.o];exact B.o,G.o⟩
def SomeI (w:World) (e:Ending) (w':World):Prop:=(∃ z:Int,e=.returned (.int .i64 z))∧w=w'
theorem len64_any (x:Int) (h:1≤x∧x≤7) (w:World):Calls Tryz.prog 229 #[.int .u64 x] w (SomeI w):=by
 have hx:x=1∨x=2∨x=3∨x=4∨x=5∨x=6∨x=7:=by omega
 clear h
 rcases hx with rfl | rfl | rfl | rfl | rfl | rfl | rfl
 all_goals
  go_enter Tryz.func229,Tryz.ntmps229
  go_wp2
  go_ret
  exact ⟨⟨_,rfl⟩,rfl⟩
theorem len_any (x:Int) (h:1≤x∧x≤7) (w:World):Calls Tryz.prog 214 #[.int .u64 x] w (SomeI w):=by
 have A:=len64_any x h w
 go_enter Tryz.func214,Tryz.ntmps214
 go_wp2_with fail
 refine A.mono ?_
 rintro e w' ⟨⟨z,rfl⟩,rfl⟩
 go_wp2
 go_ret
 exact ⟨⟨_,rfl⟩,rfl⟩
theorem pdq_any {w:World} {b n cap:Nat} {l:List Int} {z:Int} (h:BoxV w 0 b (i64L l)) (hl:l.length=n) (hn:n≤12) (hnc:n≤cap) :
  Calls Tryz.prog 213 #[.slice (some ⟨b,0,none⟩) n cap,.int .i64 0,.int .i64 (n:Int),.int .i64 z] w fun e w'=>e=.returned (.tuple #[])∧BoxV w' 0 b (i64L (sortI l))∧w.grownBy w' (some b):=by
 have A:=insert_any h hl hn hnc
 have n12:(n:Int)≤12:=by omega
 clear h hl
 go_enter Tryz.func213,Tryz.ntmps213
 go_wp2_with fail
 go_loopw [1,2,3] (fun a bb ll wr=>a=.int .i64 0∧bb=.int .i64 (n:Int)∧wr=w) (fun _ _ _ _=>0)
 case atStart=>exact ⟨rfl,rfl,rfl⟩
 case round=>
 obtain ⟨rfl,rfl,rfl⟩:=hrel
 go_wp2_with fail
 refine A.mono ?_
 rintro e w' ⟨rfl,b1,g1⟩
 have B1:=hI b1
 have G1:=hI g1
 clear b1 g1 A
 go_wp2
 refine bodyPost_ret (v:=.tuple #[]) (by simp [results,Tryz.results213,go_sem]) rfl ?_
 exact ⟨rfl,B1.o,G1.o⟩
theorem sort_any {w:World} {b n cap:Nat} {l:List Int} (h:BoxV w 0 b (i64L l)) (hl:l.length=n) (hn:1≤n∧n≤7) (hnc:n≤cap) :
  Calls Tryz.prog 211 #[.slice (some ⟨b,0,none⟩) n cap] w fun e w'=>e=.returned (.tuple #[])∧BoxV w' 0 b (i64L (sortI l))∧w.grownBy w' (some b):=by
 have A:=len_any (n:Int) (by omega) w
 have B:=fun z=>pdq_any (z:=z) h hl (by omega) hnc
 clear h hl
 go_enter Tryz.func211,Tryz.ntmps211
 go_wp2_with fail
 refine A.mono ?_
 rintro e w' ⟨⟨z,rfl⟩,rfl⟩
 go_wp2_with fail
 refine (B z).mono ?_
 rintro e w' ⟨rfl,b1,g1⟩
 have B1:=hI b1
 have G1:=hI g1
 clear b1 g1 A B
 go_wp2
 refine bodyPost_end (v:=.tuple #[]) (by simp [results,Tryz.results211,go_sem]) rfl ?_
 exact ⟨rfl,B1.o,G1.o⟩
end
section
open Go Go.RowKit
theorem info_i64:(Tryz.prog.info? 2).map (fun i=>(i.zero,i.size,i.bytes))=some (some (.int .i64 0),1,8):=by kernel_rfl
theorem int_one (L:List Int):∀ r ∈ L.map intL,∀ u ∈ r,u.oneCell'=true:=by
 intro r hr u hu
 obtain ⟨e,-,rfl⟩:=List.mem_map.1 hr
 simp [intL] at hu
 rw [hu]
 rfl
theorem q_iclone:∀ (w:World) (a:Option Addr) (n c n' c':Nat),(binOp .eql 215 (.slice a n c) (.slice none n' c')).run Tryz.prog w=.ok (.bool a.isNone) w:=fun w a n c n' c'=>Lib.run_eql_slice_nil w _ _ a n c n' c' Tryz.underlying215
theorem iclone_any {w:World} {p:Option Addr} {n cap:Nat} {L:List (List Value)} (h:SlS 1 w p n cap L) (hone:∀ r ∈ L,∀ u ∈ r,u.oneCell'=true) (hn:n≤1000000) :
  Calls Tryz.prog 210 #[.slice p n cap] w fun e w'=>∃ p' cap',e=.returned (.slice p' n cap')∧OwS 2 1 w' w.heap.size p' n cap' L∧Ext w w':=by
 have q22:=q_iclone
 obtain ⟨i0,hi0,hz0,hz1,hz2⟩:=info_parts' info_i64
 have HI0:=hI hi0
 clear hi0
 cases p with
 | none=>
  have hc0:=h.nil rfl
  have hle:=h.le
  have hl:=h.len
  obtain rfl:cap=0:=hc0
  obtain rfl:n=0:=by omega
  obtain rfl:L=[]:=List.eq_nil_of_length_eq_zero hl
  clear h hl hle hone
  go_enter Tryz.func210,Tryz.ntmps210
  go_wp2
  go_ret
  exact ⟨_,_,rfl,OwS.nil _ _ _ _,Ext.rfl' _⟩
 | some a=>
  have H:=hI h
  have HO:=hI hone
  clear h hone
  have A1:=hI (Ext.alloc w (.cells #[] 2))
  have OM:Hid (OwS 2 1 (w.alloc (.cells #[] 2)) w.heap.size (some ⟨w.heap.size,0,none⟩) 0 0 []):=hI (OwS.made w w.heap.size 0 #[] [] (Nat.le_refl _) rfl (fun x hx=>by cases hx) rfl (by omega))
  have hb:w.heap.size≤(w.alloc (.cells #[] 2)).heap.size:=A1.o.size
  have hby:(0+n) * 8≤140737488355328:=by omega
  have hmx:0+n≤140737488355328:=by omega
  go_enter Tryz.func210,Tryz.ntmps210
  go_wp2_with (at_builtin;refine wpList_appS rfl _ _ 215 rfl w.heap.size Tryz.underlying215 i0 _ 8 HI0.o hz0 hz1 hz2 rfl (by decide) (some ⟨w.heap.size,0,none⟩) 0 0 [] rfl OM.o (some a) n cap L rfl (H.o.ext A1.o) HO.o hby hmx hb ?_)
  intro p' cap' w1 hown hg
  have O1:Hid (OwS 2 1 w1 w.heap.size p' n cap' L):=hI (by simpa using hown)
  have G1:=hI hg
  clear hown hg
  try simp only [Nat.zero_add]
  go_wp2
  go_ret
  exact ⟨_,_,rfl,O1.o,Below.grown A1.o G1.o hb (fun k hk=>by simp at hk;omega)⟩
theorem intL_flat (L:List Int):(L.map intL).flatten=i64L L:=by
 induction L with
 | nil=>rfl
 | cons a L ih=>
  rw [List.map_cons,List.flatten_cons,ih]
  rfl
theorem ow_box {w:World} {base n cap:Nat} {p:Option Addr} {L:List Int} (h:OwS 2 1 w base p n cap (L.map intL)) (hn:0<n):∃ b,p=some ⟨b,0,none⟩∧base≤b∧BoxV w 0 b (i64L L)∧n≤cap:=by
 have hl:=h.1
 rcases h.2.2.2 with ⟨hv,h0⟩ | ⟨g,c,cur,hv,hg,hh,hnc,hm,hs,ht⟩
 ·omega
 ·cases hv
  have hlt:g<w.heap.size:=(h.lt g rfl).2
  refine ⟨g,rfl,hg,⟨Nat.zero_le _,hlt,fun j v hj=>?_,fun j=>?_⟩,hnc⟩
  ·rw [intL_flat] at ht
   have:cur.toList[j]?=some v:=by
    rw [← ht,List.getElem?_take] at hj
    split at hj
    ·exact hj
    ·cases hj
   simp [World.cell?,hh]
   rw [← Array.getElem?_toList]
   exact this
  ·simp [World.frozen?,hh]
theorem arr_cut (bx n:Nat) (hn:n≤7) (w:World):(Instr.sliceAt 44 (.pointer (some ⟨bx,0,none⟩)) (some (.int .i64 1)) (some (.int .i64 ((n:Int)+1))) none).run Tryz.prog w=.ok (.slice (some ⟨bx,1,none⟩) n 7) w:=by
 have hlen:Tryz.prog.arrayLen 44=8:=by kernel_rfl
 have hel:Tryz.prog.elem 44=2:=by kernel_rfl
 have hu:Tryz.prog.underlying 44=some (.array (Tryz.prog.arrayLen 44) (Tryz.prog.elem 44)):=by rw [hlen,hel];exact Tryz.underlying44
 have h:=run_sliceAt_array_lh (P:=Tryz.prog) w 44 ⟨bx,0,none⟩ hu .i64 .i64 1 ((n:Int)+1) (by omega) (by omega) (by rw [hlen];omega)
 have hsz:(sizeOf 2).run Tryz.prog w=.ok 1 w:=by kernel_rfl
 rw [h,hel,hsz,hlen]
 simp only [Result.andThen_ok,slicedAt]
 rw [show ((n:Int)+1).toNat=n+1 by omega,show ((1:Int)).toNat=1 by rfl]
 simp [Addr.add_lit]
theorem arr_sl {w:World} {bx n:Nat} {l:List Int} (h:BoxV w 0 bx (i64L l)) (hl:n+1≤l.length) (hn:n≤7):SlS 1 w (some ⟨bx,1,none⟩) n 7 (((l.drop 1).take n).map intL):=by
 refine ⟨by simp;omega,hn,by decide,(fun e=>by cases e),fun r hr=>?_,fun _=>⟨bx,1,rfl,fun i r hr j v hv=>?_⟩⟩
 ·obtain ⟨e,-,rfl⟩:=List.mem_map.1 hr
  rfl
 ·rw [List.getElem?_map] at hr
  obtain ⟨e,he,rfl⟩:=Option.map_eq_some_iff.1 hr
  rw [List.getElem?_take] at he
  split at he
  ·rw [List.getElem?_drop] at he
   match j,hv with
   | 0,hv=>
    simp [intL] at hv
    rw [← hv]
    have:=h.c (1+i) _ (i64L_at he)
    simpa using this
   | j+1,hv=>simp [intL] at hv
  ·cases he
def mostQ (l:List Int) (n:Int):Int:=(sortI ((l.drop 1).take n.toNat)).getD ((n.toNat-1) / 2) 0
theorem sortI_len (l:List Int):(sortI l).length=l.length:=by
 unfold sortI
 generalize List.range' 1 (l.length-1)=r
 induction r generalizing l with
 | nil=>rfl
 | cons a r ih=>rw [List.foldl_cons,ih,sinkI_len]
theorem qmost_any {w:World} {o:Ow} {c g:Nat} {x:QuD} {l:List Int} (h:QuV w o c g x) (hl:l.length=8) :
  Calls Tryz.prog 207 #[.pointer (some ⟨g,0,none⟩),.agg (i64L l).toArray] w fun e w'=>e=.returned (.int .i64 (mostQ l x.n))∧Ext w w':=by
 obtain ⟨R,hR⟩:∃ R,R=mostQ l x.n:=⟨_,rfl⟩
 rw [← hR]
 obtain ⟨n1,n2⟩:=h.ok.n
 obtain ⟨n,hn⟩:∃ n:Nat,x.n=(n:Int):=⟨x.n.toNat,by omega⟩
 rw [hn] at hR n1 n2
 have H:=hI h
 have c0:w.cell? ⟨g,0,none⟩=some (.int .i64 (n:Int)):=by rw [← hn];exact h.box.box.c 0 _ rfl
 have A0:=hI (Ext.alloc w (.cells (i64L l).toArray 44))
 have BX:Hid (BoxV (w.alloc (.cells (i64L l).toArray 44)) 0 w.heap.size (i64L l)):=hI (BoxV.new w 0 _ _ _ _ rfl (Nat.zero_le _) rfl)
 have HR:=hI hR
 have HL:=hI hl
 have e1:wrap64 ((n:Int)+1)=(n:Int)+1:=by unfold wrap64;omega
 have C0:Hid (w.cell? ⟨g,0,none⟩=some (.int .i64 (n:Int))):=hI c0
 clear h hn hR hl c0
 go_enter Tryz.func207,Tryz.ntmps207
 go_upto_region 1 with fail
 change Code.wp _ _ _ _ (w.alloc (.cells (i64L l).toArray 44))
 have c0:(w.alloc (.cells (i64L l).toArray 44)).cell? ⟨g,0,none⟩=some (.int .i64 (n:Int)):=Ext.cell A0.o C0.o
 generalize w.alloc (.cells (i64L l).toArray 44)=w0 at *
 generalize w.heap.size=bx at *
 have cut:=arr_cut bx n (by omega) w0
 have S1:Hid (SlS 1 w0 (some ⟨bx,1,none⟩) n 7 (((l.drop 1).take n).map intL)):=hI (arr_sl BX.o (by have:=HL.o;omega) (by omega))
 have hn6:n≤1000000:=by omega
 go_wp2_with fail
 refine (iclone_any S1.o (int_one _) hn6).mono ?_
 rintro e w2 ⟨p2,c2,rfl,o2,x2⟩
 obtain ⟨b,rfl,hb,b2,hnc⟩:=ow_box o2 (by omega)
 have B2:=hI b2
 have X2:=hI (A0.o.tr x2)
 have HB:Hid (w.heap.size≤b):=hI (Nat.le_trans A0.o.size hb)
 have HD:Hid (w.heap.size≤w2.heap.size):=hI X2.o.size
 have c0':=Ext.cell x2 c0
 have L2:Hid (((l.drop 1).take n).length=n):=hI (by rw [List.length_take,List.length_drop,HL.o];omega)
 have R2:Hid (R=(sortI ((l.drop 1).take n)).getD ((n-1) / 2) 0):=hI (by rw [HR.o];unfold mostQ;rw [Int.toNat_natCast])
 clear o2 x2 b2 cut S1 c0 BX A0 HR hb
 rename Hid (BoxV w2 0 b _)=>B2
 have c0:=c0'
 clear c0'
 have GX:Hid (w0.heap.size≤w0.heap.size):=hI (Nat.le_refl _)
 generalize (l.drop 1).take n=L at *
 go_wp2_with fail
 refine (sort_any B2.o L2.o (by omega) hnc).mono ?_
 rintro e w3 ⟨rfl,b3,g3⟩
 have B3:=hI b3
 have X3:Hid (Ext w w3):=hI (Below.grown X2.o g3 HD.o (fun k hk=>by cases hk;exact HB.o))
 have gc:w3.cell? ⟨g,0,none⟩=some (.int .i64 (n:Int)):=Ext.cell X3.o C0.o
 have hlen:(sortI L).length=n:=by rw [sortI_len];exact L2.o
 have hm1:(n-1) / 2<n:=by omega
 obtain ⟨v,hv⟩:∃ v,(sortI L)[(n-1) / 2]?=some v:=⟨(sortI L)[(n-1) / 2]'(by omega),List.getElem?_eq_getElem _⟩
 have cv:=B3.o.c _ _ (i64L_at hv)
 have RV:Hid (R=v):=hI (by rw [R2.o,List.getD_eq_getElem?_getD,hv];rfl)
 have e3:wrap64 ((n:Int)-1)=(n:Int)-1:=by unfold wrap64;omega
 have HV:=hI hv
 clear b3 g3 B2 X2 hlen hv c0 R2
 have hn5:n=3∨n=4∨n=5∨n=6∨n=7:=by omega
 rcases hn5 with rfl | rfl | rfl | rfl | rfl
 all_goals
  go_wp2
  go_ret
  exact ⟨by rw [RV.o];rfl,X3.o⟩
theorem list8 {l:List Int} (h:l.length=8):∃ a b c d e f g i,l=[a,b,c,d,e,f,g,i]:=by
 match l,h with
 | [a,b,c,d,e,f,g,i],_=>exact ⟨a,b,c,d,e,f,g,i,rfl⟩
theorem qcommit_any {w:World} {o:Ow} {c g:Nat} {x:QuD} (h:QuV w o c g x) :
  Calls Tryz.prog 200 #[.pointer (some ⟨g,0,none⟩)] w fun e w'=>e=.returned (.int .i64 (mostQ x.hv x.n))∧Ext w w':=by
 have T:=qmost_any h h.ok.hl
 obtain ⟨R,hR⟩:∃ R,R=mostQ x.hv x.n:=⟨_,rfl⟩
 rw [← hR] at T ⊢
 obtain ⟨a0,a1,a2,a3,a4,a5,a6,a7,hv⟩:=list8 h.ok.hl
 have c0:w.cell? ⟨g,3,none⟩=some (.int .i64 a0):=h.box.box.c 3 _ (quL_hv (i:=0) (by rw [hv];rfl))
 have c1:w.cell? ⟨g,4,none⟩=some (.int .i64 a1):=h.box.box.c 4 _ (quL_hv (i:=1) (by rw [hv];rfl))
 have c2:w.cell? ⟨g,5,none⟩=some (.int .i64 a2):=h.box.box.c 5 _ (quL_hv (i:=2) (by rw [hv];rfl))
 have c3:w.cell? ⟨g,6,none⟩=some (.int .i64 a3):=h.box.box.c 6 _ (quL_hv (i:=3) (by rw [hv];rfl))
 have c4:w.cell? ⟨g,7,none⟩=some (.int .i64 a4):=h.box.box.c 7 _ (quL_hv (i:=4) (by rw [hv];rfl))
 have c5:w.cell? ⟨g,8,none⟩=some (.int .i64 a5):=h.box.box.c 8 _ (quL_hv (i:=5) (by rw [hv];rfl))
 have c6:w.cell? ⟨g,9,none⟩=some (.int .i64 a6):=h.box.box.c 9 _ (quL_hv (i:=6) (by rw [hv];rfl))
 have c7:w.cell? ⟨g,10,none⟩=some (.int .i64 a7):=h.box.box.c 10 _ (quL_hv (i:=7) (by rw [hv];rfl))
 rw [hv] at T
 clear h hv hR
 go_enter Tryz.func200,Tryz.ntmps200
 go_wp2_with fail
 refine T.mono ?_
 rintro e w2 ⟨rfl,x2⟩
 have X2:=hI x2
 clear x2 T c0 c1 c2 c3 c4 c5 c6 c7
 go_wp2
 go_ret
 exact ⟨rfl,X2.o⟩
theorem qprobe_any {w:World} {o:Ow} {c g:Nat} {x:QuD} (h:QuV w o c g x) :
  Calls Tryz.prog 201 #[.pointer (some ⟨g,0,none⟩)] w fun e w'=>e=.returned (.int .i64 (mostQ x.pr x.n))∧Ext w w':=by
 have T:=qmost_any h h.ok.pl
 obtain ⟨R,hR⟩:∃ R,R=mostQ x.pr x.n:=⟨_,rfl⟩
 rw [← hR] at T ⊢
 obtain ⟨a0,a1,a2,a3,a4,a5,a6,a7,hv⟩:=list8 h.ok.pl
 have c0:w.cell? ⟨g,11,none⟩=some (.int .i64 a0):=h.box.box.c 11 _ (quL_pr (i:=0) h.ok (by rw [hv];rfl))
 have c1:w.cell? ⟨g,12,none⟩=some (.int .i64 a1):=h.box.box.c 12 _ (quL_pr (i:=1) h.ok (by rw [hv];rfl))
 have c2:w.cell? ⟨g,13,none⟩=some (.int .i64 a2):=h.box.box.c 13 _ (quL_pr (i:=2) h.ok (by rw [hv];rfl))
 have c3:w.cell? ⟨g,14,none⟩=some (.int .i64 a3):=h.box.box.c 14 _ (quL_pr (i:=3) h.ok (by rw [hv];rfl))
 have c4:w.cell? ⟨g,15,none⟩=some (.int .i64 a4):=h.box.box.c 15 _ (quL_pr (i:=4) h.ok (by rw [hv];rfl))
 have c5:w.cell? ⟨g,16,none⟩=some (.int .i64 a5):=h.box.box.c 16 _ (quL_pr (i:=5) h.ok (by rw [hv];rfl))
 have c6:w.cell? ⟨g,17,none⟩=some (.int .i64 a6):=h.box.box.c 17 _ (quL_pr (i:=6) h.ok (by rw [hv];rfl))
 have c7:w.cell? ⟨g,18,none⟩=some (.int .i64 a7):=h.box.box.c 18 _ (quL_pr (i:=7) h.ok (by rw [hv];rfl))
 rw [hv] at T
 clear h hv hR
 go_enter Tryz.func201,Tryz.ntmps201
 go_wp2_with fail
 refine T.mono ?_
 rintro e w2 ⟨rfl,x2⟩
 have X2:=hI x2
 clear x2 T c0 c1 c2 c3 c4 c5 c6 c7
 go_wp2
 go_ret
 exact ⟨rfl,X2.o⟩
end
section
open Go Go.RowKit
structure VoD where
 fr:Int
 ls:Int
 q:Option Addr
 cap:Nat
 L:List EnD
 cm:Int
structure VoK where
 fr:Int
 ls:Int
 L:List EnD
 cm:Int
def keyV (v:VoD):VoK:=⟨v.fr,v.ls,v.L,v.cm⟩
abbrev voL (v:VoD):List Value:=[.int .i64 v.fr,.int .i64 v.ls,.slice v.q v.L.length v.cap,.int .i64 v.cm]
structure VoOk (w:World) (o:Ow) (v:VoD):Prop where
 fr:isId v.fr
 sl:SlC 7 w o v.q v.L.length v.cap (v.L.map enL)
 en:∀ e ∈ v.L,EnOk e
 le:v.L.length≤60
 cm:0≤v.cm∧v.cm≤60
theorem VoOk.fr' {C:Nat→Prop} {w w':World} {o o':Ow} {v:VoD} (h:VoOk w o v) (k:Fm C o o' w w') (h0:¬ C 0):VoOk w' o' v:=⟨h.fr,h.sl.fr k h0,h.en,h.le,h.cm⟩
theorem VoOk.ext {w w':World} {o:Ow} {v:VoD} (h:VoOk w o v) (k:Ext w w'):VoOk w' o v:=⟨h.fr,h.sl.ext k,h.en,h.le,h.cm⟩
structure VsP (w:World) (o:Ow) (c g:Nat) (p:Option Addr) (cap:Nat) (vw n:Int) (ds:List VoD):Prop where
 box:BoxC w o c g [.int .i64 vw,.int .i64 n,.slice p ds.length cap]
 row:RowC 205 4 w o (c+1) p ds.length cap (ds.map voL)
 ok:∀ d ∈ ds,VoOk w o d
 n:3≤n∧n≤7
 vw:1≤vw∧vw≤1099511627776
 le:ds.length≤100
def VsV (w:World) (o:Ow) (c g:Nat) (vw n:Int) (vs:List VoK):Prop:=∃ p cap ds,VsP w o c g p cap vw n ds∧ds.map keyV=vs
theorem VsP.fr {C:Nat→Prop} {w w':World} {o o':Ow} {c g cap:Nat} {p:Option Addr} {vw n:Int} {ds:List VoD} (h:VsP w o c g p cap vw n ds) (k:Fm C o o' w w') (h0:¬ C 0) (h1:1<c) (hc:¬ C c) (hc':¬ C (c+1)):VsP w' o' c g p cap vw n ds:=
 ⟨h.box.fr k (by omega) hc,h.row.fr k (by omega) hc',fun d hd=>(h.ok d hd).fr' k h0,h.n,h.vw,h.le⟩
theorem VsV.fr {C:Nat→Prop} {w w':World} {o o':Ow} {c g:Nat} {vw n:Int} {vs:List VoK} (h:VsV w o c g vw n vs) (k:Fm C o o' w w') (h0:¬ C 0) (h1:1<c) (hc:¬ C c) (hc':¬ C (c+1)):VsV w' o' c g vw n vs:=by
 obtain ⟨p,cap,ds,h,e⟩:=h
 exact ⟨p,cap,ds,h.fr k h0 h1 hc hc',e⟩
theorem VsP.ext {w w':World} {o:Ow} {c g cap:Nat} {p:Option Addr} {vw n:Int} {ds:List VoD} (h:VsP w o c g p cap vw n ds) (k:Ext w w'):VsP w' o c g p cap vw n ds:=
 ⟨h.box.ext k,h.row.ext k,fun d hd=>(h.ok d hd).ext k,h.n,h.vw,h.le⟩
theorem VsV.ext {w w':World} {o:Ow} {c g:Nat} {vw n:Int} {vs:List VoK} (h:VsV w o c g vw n vs) (k:Ext w w'):VsV w' o c g vw n vs:=by
 obtain ⟨p,cap,ds,h,e⟩:=h
 exact ⟨p,cap,ds,h.ext k,e⟩
theorem vnew_any {w:World} {o:Ow} (h:Cl w o) (c:Nat) (C:Nat→Prop) {vw n:Int} (hv:1≤vw∧vw≤1099511627776) (hn:3≤n∧n≤7) :
  Calls Tryz.prog 148 #[.int .i64 vw,.int .i64 n] w fun e w'=>∃ o',e=.returned (.pointer (some ⟨w.heap.size,0,none⟩))∧VsV w' o' c w.heap.size vw n []∧Fm C o o' w w':=by
 have A:=tdec_any vw n hv hn w
 have hd:1≤decT vw n:=by
  have:=Int.tmod_nonneg n (show 0≤vw-1 by omega)
  unfold decT
  omega
 have hd0:¬ decT vw n=0:=by omega
 have H:=hI h
 have HV:=hI hv
 have HN:=hI hn
 generalize decT vw n=dd at *
 clear h hv hn hd
 go_enter Tryz.func148,Tryz.ntmps148
 go_wp2_with fail
 refine A.mono ?_
 rintro e w' ⟨rfl,rfl⟩
 clear A
 go_wp2
 go_ret
 exact ⟨_,rfl,⟨none,0,[],⟨BoxC.made w o c _ _ _ rfl,RowC.nil _ _ _ _ _,(fun d hd=>by cases hd),HN.o,HV.o,by decide⟩,rfl⟩,Fm.made H.o _ c⟩
theorem vview_any {w:World} {o:Ow} {c g:Nat} {vw n:Int} {vs:List VoK} (h:VsV w o c g vw n vs) :
  Calls Tryz.prog 104 #[.pointer (some ⟨g,0,none⟩)] w fun e w'=>e=.returned (.int .i64 vw)∧w=w':=by
 obtain ⟨p,cap,ds,h,-⟩:=h
 have c0:=h.box.box.c 0 _ rfl
 clear h
 go_enter Tryz.func104,Tryz.ntmps104
 go_wp2
 go_ret
 exact ⟨rfl,rfl⟩
def teamV (vs:List VoK):Int:=vs.foldl (fun t v=>withT t v.fr) 0
theorem teamV_snoc (vs:List VoK) (v:VoK):teamV (vs++[v])=withT (teamV vs) v.fr:=by simp [teamV]
theorem vo_at {w:World} {p:Option Addr} {n cap:Nat} {ds:List VoD} (h:SlS 4 w p n cap (ds.map voL)) (k:Nat) (hk:k<n) :
  ∃ b oo d,p=some ⟨b,oo,none⟩∧ds[k]?=some d∧w.cell? ⟨b,oo+k * 4,none⟩=some (.int .i64 d.fr)∧w.cell? ⟨b,oo+k * 4+1,none⟩=some (.int .i64 d.ls)∧w.cell? ⟨b,oo+k * 4+2,none⟩=some (.slice d.q d.L.length d.cap)∧w.cell? ⟨b,oo+k * 4+3,none⟩=some (.int .i64 d.cm):=by
 obtain ⟨b,oo,x,hp,hx,-,hc⟩:=h.at k hk
 rw [List.getElem?_map] at hx
 obtain ⟨d,hd,rfl⟩:=Option.map_eq_some_iff.1 hx
 exact ⟨b,oo,d,hp,hd,hc 0 _ rfl,hc 1 _ rfl,hc 2 _ rfl,hc 3 _ rfl⟩
theorem teamV_go:∀ (ds:List VoD) (t:Int),isT t→(∀ d ∈ ds,isId d.fr)→isT ((ds.map keyV).foldl (fun t v=>withT t v.fr) t)
 | [],t,h,_=>h
 | d::ds,t,h,hd=>teamV_go ds _ (withT_is h (hd d (by simp))) (fun x hx=>hd x (by simp [hx]))
theorem teamV_is (ds:List VoD) (h:∀ d ∈ ds,isId d.fr):isT (teamV (ds.map keyV)):=teamV_go ds 0 ⟨by decide,by decide⟩ h
theorem vteam_any {w:World} {o:Ow} {c g:Nat} {vw n:Int} {vs:List VoK} (h:VsV w o c g vw n vs) :
  Calls Tryz.prog 138 #[.pointer (some ⟨g,0,none⟩)] w fun e w'=>e=.returned (.int .i64 (teamV vs))∧Ext w w':=by
 obtain ⟨p,cap,ds,h,rfl⟩:=h
 have c2:=h.box.box.c 2 _ rfl
 have hle:=h.le
 have H:=hI h
 clear h
 go_enter Tryz.func138,Tryz.ntmps138
 go_wp2_with fail
 clear c2
 go_loopw [3,13] (fun t i wr=>∃ (k:Nat),k≤ds.length∧i=.int .i64 (k:Int)∧t=.int .i64 (teamV ((ds.take k).map keyV))∧Hid (Ext w wr)) (fun _ i _=>ds.length-(intOf i).toNat)
 case atStart=>exact ⟨0,by omega,rfl,rfl,hI (Ext.rfl' _)⟩
 case round=>
  obtain ⟨k,hk,rfl,rfl,X⟩:=hrel
  by_cases hlt:k<ds.length
  ·obtain ⟨b,oo,d,hp,hd,c0,c1,c2,c3⟩:=vo_at (H.o.row.row.sl.ext X.o) k hlt
   have OKD:=hI (H.o.ok d (List.mem_of_getElem? hd))
   have TT:Hid (isT (teamV ((ds.take k).map keyV))):=hI (teamV_is _ (fun x hx=>(H.o.ok x (List.mem_of_mem_take hx)).fr))
   have SN:Hid (teamV ((ds.take (k+1)).map keyV)=withT (teamV ((ds.take k).map keyV)) d.fr):=hI (by
    rw [List.take_add_one,hd,List.map_append]
    exact teamV_snoc _ _)
   clear hd
   subst hp
   obtain ⟨dfr,dls,dq,dc,dL,dcm⟩:=d
   simp only at c0 c1 c2 c3
   have TW:=fun w=>twith_any _ dfr TT.o OKD.o.fr w
   have SN2:=hI SN.o
   simp only at SN2
   generalize teamV ((ds.take k).map keyV)=T at *
   go_upto_region 6 with fail
   change Code.wp _ _ _ _ (wr.alloc (.cells #[.int .i64 dfr,.int .i64 dls,.slice dq dL.length dc,.int .i64 dcm] 205))
   have A1:=hI (X.o.tr (Ext.alloc wr (.cells #[.int .i64 dfr,.int .i64 dls,.slice dq dL.length dc,.int .i64 dcm] 205)))
   have d0:=(BoxV.new wr 0 #[.int .i64 dfr,.int .i64 dls,.slice dq dL.length dc,.int .i64 dcm] _ 205 _ rfl (Nat.zero_le _) rfl).c 0 _ rfl
   clear c0 c1 c2 c3
   generalize wr.alloc (.cells #[.int .i64 dfr,.int .i64 dls,.slice dq dL.length dc,.int .i64 dcm] 205)=w2 at *
   go_wp2_with fail
   refine (TW _).mono ?_
   rintro e w' ⟨rfl,rfl⟩
   clear TW
   go_wp2
   go_roundw
   case rel=>exact ⟨k+1,by omega,by go_num,by rw [SN2.o],A1⟩
   case measure=>simp [intOf];omega
  ·have e:ds.take k=ds:=List.take_of_length_le (by omega)
   rw [e]
   clear e
   go_wp2
   go_ret
   exact ⟨rfl,X.o⟩
end
section
open Go Go.Sort Go.RowKit
theorem venough_any {w:World} {o:Ow} {c g:Nat} {vw n:Int} {vs:List VoK} (h:VsV w o c g vw n vs) :
  Calls Tryz.prog 134 #[.pointer (some ⟨g,0,none⟩)] w fun e w'=>e=.returned (.bool (mostT (teamV vs) n))∧Ext w w':=by
 have TT:Hid (isT (teamV vs)∧3≤n∧n≤7):=hI (by
  obtain ⟨p,cap,ds,h,rfl⟩:=h
  exact ⟨teamV_is ds (fun d hd=>(h.ok d hd).fr),h.n⟩)
 obtain ⟨w9,hw9⟩:∃ w9,w9=w.drew:=⟨_,rfl⟩
 have H:Hid (VsV w9 o c g vw n vs):=hI (by rw [hw9];exact h.ext (Ext.drew w))
 have X:Hid (Ext w w9):=hI (by rw [hw9];exact Ext.drew w)
 have r1:∀ d os,(grow (redrawn w9 d) os).cell? ⟨g,1,none⟩=some (.int .i64 n):=fun d os=>by
  obtain ⟨p,cap,ds,h,-⟩:=H.o
  exact Ext.cell (Ext.reg w9 d os) (h.box.box.c 1 _ rfl)
 clear h
 go_enter Tryz.func134,Tryz.ntmps134
 go_upto_region 1 with fail
 refine att [0,1,2,3,5,6,7,8,4,9,10,11] [] ?_
 rw [← hw9]
 clear hw9
 repeat ((first|refine aqq fun K hK=>?_|refine akk fun K hK=>?_);go_big_quiet_op;refine hK _ ?_;clear hK K)
 clear r1
 refine acc fun K hK=>?_
 go_simp
 refine (vteam_any H.o).mono ?_
 rintro e w2 ⟨rfl,x2⟩
 refine hK _ _ x2 ?_
 clear hK K
 have X2:=hI (X.o.tr x2)
 clear x2 H X
 repeat ((first|refine aqq fun K hK=>?_|refine akk fun K hK=>?_);go_big_quiet_op;refine hK _ ?_;clear hK K)
 refine acc fun K hK=>?_
 go_simp
 refine (tmost_any _ n TT.o.1 TT.o.2 _).mono ?_
 rintro e w3 ⟨rfl,rfl⟩
 refine hK _ _ (Ext.rfl' _) ?_
 clear hK K
 repeat ((first|refine aqq fun K hK=>?_|refine akk fun K hK=>?_);go_big_quiet_op;refine hK _ ?_;clear hK K)
 refine ra_nil ?_
 refine rt_nil ?_
 go_wp2
 go_ret
 exact ⟨rfl,X2.o⟩
theorem lnew_ext {w:World} {p:Option Addr} {n cap:Nat} {M L:List EnD} (hs:SlS 7 w p n cap (M.map enL)) (hb:∀ k,p.map (·.block)=some k→k<w.heap.size) (hM:∀ e ∈ M,EnOk e) (ha:addsL [] M=some L) :
  Calls Tryz.prog 128 #[.slice p n cap] w fun r w'=>∃ o' g,r=.returned (.pointer (some ⟨g,0,none⟩))∧LogV w' o' 2 g L∧Ext w w':=
 (lnew_any (o:=fun _=>0) (fun _ _=>rfl) 2 (by decide) ⟨hs,fun k hk=>⟨hb k hk,rfl⟩⟩ hM ha).mono fun r w' h=>by
  obtain ⟨o',g,h1,h2,-,h3⟩:=h
  exact ⟨o',g,h1,h2,h3.all (by unfold two;decide)⟩
theorem info_vote:(Tryz.prog.info? 205).map (fun i=>(i.zero,i.size,i.bytes))=some (some (.agg #[.int .i64 0,.int .i64 0,.slice none 0 0,.int .i64 0]),4,48):=by kernel_rfl
theorem vadd_any {w:World} {o:Ow} {c g:Nat} {vw n:Int} {vs:List VoK} {fr ls cm:Int} {q:Option Addr} {cap:Nat} {L:List EnD} (hcl:Cl w o) (h:VsV w o c g vw n vs) (h1:1<c) (hf:isId fr∧fr≤n) (hno:hasT (teamV vs) fr=false) (hls:0≤ls∧ls<vw) (hs:SlC 7 w o q L.length cap (L.map enL)) (hL:∀ e ∈ L,EnOk e) (ha:addsL [] L=some L) (hcm:0≤cm∧cm≤(L.length:Int)) (hlen:L.length≤60) (hvl:vs.length≤90) :
  Calls Tryz.prog 149 #[.pointer (some ⟨g,0,none⟩),.agg #[.int .i64 fr,.int .i64 ls,.slice q L.length cap,.int .i64 cm]] w fun e w'=>∃ o',e=.returned (.bool true)∧VsV w' o' c g vw n (vs++[⟨fr,ls,L,cm⟩])∧Fm (two c) o o' w w':=by
 have TT:Hid (isT (teamV vs)∧3≤n∧n≤7):=hI (by
  obtain ⟨p,cap,ds,h,rfl⟩:=h
  exact ⟨teamV_is ds (fun d hd=>(h.ok d hd).fr),h.n⟩)
 obtain ⟨⟨f1,f2⟩,f3⟩:=hf
 obtain ⟨l1,l2⟩:=hls
 obtain ⟨m1,m2⟩:=hcm
 have d1:decide (fr<1)=false:=decide_eq_false (by omega)
 have d2:decide (n<fr)=false:=decide_eq_false (by omega)
 have d3:decide (ls<0)=false:=decide_eq_false (by omega)
 have d4:decide (vw≤ls)=false:=decide_eq_false (by omega)
 have d5:decide (cm<0)=false:=decide_eq_false (by omega)
 have d6:decide ((L.length:Int)<cm)=false:=decide_eq_false (by omega)
 have H0:=hI h
 have S0:=hI hs
 have HC:=hI hcl
 have H1:=hI h1
 have HNO:=hI hno
 have HA:=hI ha
 have HL:=hI hL
 have X0:=hI (Ext.alloc w (.cells #[.int .i64 fr,.int .i64 ls,.slice q L.length cap,.int .i64 cm] 205))
 have BB:=hI (BoxV.new w w.heap.size #[.int .i64 fr,.int .i64 ls,.slice q L.length cap,.int .i64 cm] [.int .i64 fr,.int .i64 ls,.slice q L.length cap,.int .i64 cm] 205 _ rfl (Nat.le_refl _) rfl)
 have HW:Hid (w.heap.size≤w.heap.size):=hI (Nat.le_refl _)
 clear h hs hcl h1 hno ha hL
 go_enter Tryz.func149,Tryz.ntmps149
 go_upto_region 1 with fail
 change Code.wp _ _ _ _ (w.alloc (.cells #[.int .i64 fr,.int .i64 ls,.slice q L.length cap,.int .i64 cm] 205))
 obtain ⟨w9,hw9⟩:∃ w9,w9=(w.alloc (.cells #[.int .i64 fr,.int .i64 ls,.slice q L.length cap,.int .i64 cm] 205)).drew:=⟨_,rfl⟩
 have X:Hid (Ext w w9):=hI (by rw [hw9];exact X0.o.tr (Ext.drew _))
 have B:Hid (BoxV w9 w.heap.size w.heap.size [.int .i64 fr,.int .i64 ls,.slice q L.length cap,.int .i64 cm]):=hI (by rw [hw9];exact BB.o.ext (Ext.drew _))
 have b0:=fun d os=>Ext.cell (Ext.reg w9 d os) (B.o.c 0 _ rfl)
 have b1:=fun d os=>Ext.cell (Ext.reg w9 d os) (B.o.c 1 _ rfl)
 have g1:∀ d os,(grow (redrawn w9 d) os).cell? ⟨g,1,none⟩=some (.int .i64 n):=fun d os=>by
  obtain ⟨p,cap,ds,h,-⟩:=H0.o
  exact Ext.cell (Ext.reg w9 d os) (Ext.cell X.o (h.box.box.c 1 _ rfl))
 have g0:∀ d os,(grow (redrawn w9 d) os).cell? ⟨g,0,none⟩=some (.int .i64 vw):=fun d os=>by
  obtain ⟨p,cap,ds,h,-⟩:=H0.o
  exact Ext.cell (Ext.reg w9 d os) (Ext.cell X.o (h.box.box.c 0 _ rfl))
 clear X0 BB
 refine att [0,1,2,3,4,5,6,7,8,9,10,11,12,13,14,15,16,17,19,20,18,21,22,23,24,25,26,27,28,29,30,31,32,33,34,35,36] [] ?_
 rw [← hw9]
 clear hw9
 repeat ((first|refine aqq fun K hK=>?_|refine akk fun K hK=>?_);go_big_quiet_op;refine hK _ ?_;clear hK K)
 clear b0 b1 g1 g0
 refine acc fun K hK=>?_
 go_simp
 refine (vteam_any (H0.o.ext X.o)).mono ?_
 rintro e w2 ⟨rfl,x2⟩
 refine hK _ _ x2 ?_
 clear hK K
 replace X:=hI (X.o.tr x2)
 replace B:=hI (B.o.ext x2)
 clear x2
 have b0:=fun d os=>Ext.cell (Ext.reg w2 d os) (B.o.c 0 _ rfl)
 have b1:=fun d os=>Ext.cell (Ext.reg w2 d os) (B.o.c 1 _ rfl)
 have g0:∀ d os,(grow (redrawn w2 d) os).cell? ⟨g,0,none⟩=some (.int .i64 vw):=fun d os=>by
  obtain ⟨p,cap,ds,h,-⟩:=H0.o
  exact Ext.cell (Ext.reg w2 d os) (Ext.cell X.o (h.box.box.c 0 _ rfl))
 repeat ((first|refine aqq fun K hK=>?_|refine akk fun K hK=>?_);go_big_quiet_op;refine hK _ ?_;clear hK K)
 refine acc fun K hK=>?_
 go_simp
 refine (thas_any _ fr TT.o.1 ⟨f1,f2⟩ _).mono ?_
 rw [HNO.o]
 rintro e w3 ⟨rfl,rfl⟩
 refine hK _ _ (Ext.rfl' _) ?_
 clear hK K
 repeat ((first|refine aqq fun K hK=>?_|refine akk fun K hK=>?_);go_big_quiet_op;refine hK _ ?_;clear hK K)
 refine ra_nil ?_
 refine rt_nil ?_
 clear b0 b1 g0
 go_upto_region 3 with fail
 obtain ⟨w9,hw9⟩:∃ w9,w9=w2.drew:=⟨_,rfl⟩
 replace X:Hid (Ext w w9):=hI (by rw [hw9];exact X.o.tr (Ext.drew _))
 replace B:Hid (BoxV w9 w.heap.size w.heap.size [.int .i64 fr,.int .i64 ls,.slice q L.length cap,.int .i64 cm]):=hI (by rw [hw9];exact B.o.ext (Ext.drew _))
 have b2:=fun d os=>Ext.cell (Ext.reg w9 d os) (B.o.c 2 _ rfl)
 have b3:=fun d os=>Ext.cell (Ext.reg w9 d os) (B.o.c 3 _ rfl)
 refine att [0,1,4,5,6,2,3,7,8,9,10,11,12,13,14,15,16,17,18,19,20] [] ?_
 rw [← hw9]
 clear hw9
 repeat ((first|refine aqq fun K hK=>?_|refine akk fun K hK=>?_);go_big_quiet_op;refine hK _ ?_;clear hK K)
 clear b2 b3
 refine acc fun K hK=>?_
 go_simp
 refine (lnew_ext (S0.o.ext X.o).sl (fun k hk=>((S0.o.ext X.o).lt k hk).1) HL.o HA.o).mono ?_
 rintro e w4 ⟨o4,gl,rfl,lv,x4⟩
 refine hK _ _ x4 ?_
 clear hK K
 have LV:=hI lv
 replace X:=hI (X.o.tr x4)
 replace B:=hI (B.o.ext x4)
 clear x4 lv
 repeat ((first|refine aqq fun K hK=>?_|refine akk fun K hK=>?_);go_big_quiet_op;refine hK _ ?_;clear hK K)
 refine acc fun K hK=>?_
 go_simp
 refine (llen_any LV.o).mono ?_
 rintro e w5 ⟨rfl,rfl⟩
 refine hK _ _ (Ext.rfl' _) ?_
 clear hK K
 have b2:=fun d os=>Ext.cell (Ext.reg w4 d os) (B.o.c 2 _ rfl)
 have b3:=fun d os=>Ext.cell (Ext.reg w4 d os) (B.o.c 3 _ rfl)
 repeat ((first|refine aqq fun K hK=>?_|refine akk fun K hK=>?_);go_big_quiet_op;refine hK _ ?_;clear hK K)
 refine ra_nil ?_
 refine rt_nil ?_
 clear b2 b3 LV
 have b2:=B.o.c 2 _ rfl
 have hl6:L.length≤1000000:=by omega
 go_wp2_with fail
 refine (eclone_any (S0.o.ext X.o).sl (en_one _) hl6).mono ?_
 rintro e w6 ⟨q2,c2,rfl,o6,x6⟩
 have O6:=hI o6
 have X4:=hI X.o.size
 have X0s:Hid (w.heap.size<w4.heap.size):=hI B.o.hi
 replace X:=hI (X.o.tr x6)
 replace B:=hI (B.o.ext x6)
 have W64:=hI x6.size
 have bf:=B.o.f
 have b2':=B.o.c 2 _ rfl
 have b2:=b2'
 clear o6 x6
 have HNE:Hid (∀ k,q2.map (·.block)=some k→w.heap.size≠k):=hI (fun k hk e=>by
  have h1:=(O6.o.lt k hk).1
  have h2:=X0s.o
  omega)
 go_upto_region 6 with fail
 have X7:Hid (Ext w (w6.setCell ⟨w.heap.size,2,none⟩ (.slice q2 L.length c2))):=hI (X.o.setCell (Nat.le_refl _) _)
 have B7:Hid (BoxV (w6.setCell ⟨w.heap.size,2,none⟩ (.slice q2 L.length c2)) w.heap.size w.heap.size [.int .i64 fr,.int .i64 ls,.slice q2 L.length c2,.int .i64 cm]):=hI (B.o.put 2 (.slice q2 L.length c2))
 have S7:Hid (SlC 7 (w6.setCell ⟨w.heap.size,2,none⟩ (.slice q2 L.length c2)) o q2 L.length c2 (L.map enL)):=hI (SlC.fresh (O6.o.kept (grown_put (grown_refl w6 (some w.heap.size)) 2 (.slice q2 L.length c2)) (fun k hk e=>by cases hk;exact HNE.o _ e rfl)) HC.o X4.o)
 clear b2 b2' bf B X O6 HNE W64
 generalize w6.setCell ⟨w.heap.size,2,none⟩ (.slice q2 L.length c2)=w7 at *
 obtain ⟨p,cap',ds,hp,hk⟩:=H0.o
 have HP:=hI (hp.ext X7.o)
 have HKV:=hI hk
 have hds:ds.length≤90:=by have:=congrArg List.length hk;simp at this;omega
 have hl7:ds.length≤1000000:=by omega
 have hcm60:cm≤60:=by omega
 clear hp hk
 have A1:=hI (Ext.alloc w7 (.cells #[.int .i64 fr,.int .i64 ls,.slice q2 L.length c2,.int .i64 cm] 205))
 have A2:=hI (A1.o.tr (Ext.drew (w7.alloc (.cells #[.int .i64 fr,.int .i64 ls,.slice q2 L.length c2,.int .i64 cm] 205))))
 have MX:Hid (Fm (two c) o o w7 (w7.alloc (.cells #[.int .i64 fr,.int .i64 ls,.slice q2 L.length c2,.int .i64 cm] 205)).drew):=hI (Fm.ext (HC.o.ext X7.o) A2.o)
 have MW:Hid (Fm (two c) o o w (w7.alloc (.cells #[.int .i64 fr,.int .i64 ls,.slice q2 L.length c2,.int .i64 cm] 205)).drew):=hI (Fm.ext HC.o (X7.o.tr A2.o))
 have g2:=HP.o.box.box.c 2 _ rfl
 have g2a:=(HP.o.box.ext A1.o).box.c 2 _ rfl
 have b0:=B7.o.c 0 _ rfl
 have b1:=B7.o.c 1 _ rfl
 have b2:=B7.o.c 2 _ rfl
 have b3:=B7.o.c 3 _ rfl
 have a0:=(B7.o.ext A1.o).c 0 _ rfl
 have a1:=(B7.o.ext A1.o).c 1 _ rfl
 have a2:=(B7.o.ext A1.o).c 2 _ rfl
 have a3:=(B7.o.ext A1.o).c 3 _ rfl
 go_region_law (refine step_appC (by rfl) _ _ _ (by rfl) 205 4 48 _ Tryz.underlying192 info_vote (by rfl) (by omega) ((HC.o.ext X7.o).ext A2.o) (HP.o.row.ext A2.o) (by rfl) w7.heap.size 1 (voL ⟨fr,ls,q2,c2,L,cm⟩) (by rfl) (by rfl) (fun j u hu=>news_at (w:=w7) rfl j u hu) (by simp [Value.oneCell']) hl7 (by omega) (by have:=H1.o;omega) (fun d=>d=c+1) rfl ?_;intro p4 c4 o4 w4 r4 f4;have D4:=hI ((HP.o.box.ext A2.o).fr f4 (by have:=H1.o;omega) (by omega));have b4:=D4.o.box.c 2 _ rfl;have f40:=D4.o.box.f 2)
 all_goals
  obtain ⟨B5,R5,M5⟩:=app_done (C:=two c) (j:=2) (by unfold two;have:=H1.o;omega) MW.o D4.o f4 r4 (by have:=H1.o;omega) (by have:=H1.o;omega) (.inl rfl) (.inr rfl) (by omega) (.slice p4 (ds.length+1) c4)
  have B6:=hI B5
  have R6:=hI R5
  have M6:=hI M5
  have MN:Hid (Fm (two c) o o4 w7 (w4.setCell ⟨g,2,none⟩ (.slice p4 (ds.length+1) c4))):=hI (app_done (C:=two c) (j:=2) (by unfold two;have:=H1.o;omega) MX.o D4.o f4 r4 (by have:=H1.o;omega) (by have:=H1.o;omega) (.inl rfl) (.inr rfl) (by omega) (.slice p4 (ds.length+1) c4)).2.2
  clear r4 f4 D4 b4 f40 B5 R5 M5 A1 A2 b0 b1 b2 b3 a0 a1 a2 a3 g2 g2a MX MW
  generalize w4.setCell ⟨g,2,none⟩ (.slice p4 (ds.length+1) c4)=w5 at *
  go_wp2
  go_ret
  refine ⟨o4,rfl,⟨p4,c4,ds++[⟨fr,ls,q2,c2,L,cm⟩],⟨?_,?_,?_,HP.o.n,HP.o.vw,by simp;omega⟩,?_⟩,M6.o⟩
  ·have:=B6.o
   simpa using this
  ·have:=R6.o
   simpa using this
  ·intro d hd
   rcases List.mem_append.1 hd with hd | hd
   ·exact (HP.o.ok d hd).fr' MN.o (by unfold two;have:=H1.o;omega)
   ·simp at hd
    subst hd
    exact ⟨⟨f1,f2⟩,S7.o.fr MN.o (by unfold two;have:=H1.o;omega),HL.o,hlen,m1,hcm60⟩
  ·rw [List.map_append,HKV.o]
   rfl
end
section
open Go Go.Sort Go.RowKit
def betterB (al:Int) (an:Nat) (af bl:Int) (bn:Nat) (bf:Int):Bool:=if al=bl then (if an=bn then decide (af<bf) else decide (bn<an)) else decide (bl<al)
theorem better_any {w:World} {af al am bf bl bm:Int} {aq bq:Option Addr} {an ac bn bc:Nat} :
  Calls Tryz.prog 189 #[.agg #[.int .i64 af,.int .i64 al,.slice aq an ac,.int .i64 am],.agg #[.int .i64 bf,.int .i64 bl,.slice bq bn bc,.int .i64 bm]] w fun e w'=>e=.returned (.bool (betterB al an af bl bn bf))∧Ext w w':=by
 have A1:=Ext.alloc w (.cells #[.int .i64 af,.int .i64 al,.slice aq an ac,.int .i64 am] 205)
 have B1:=(BoxV.new w 0 #[.int .i64 af,.int .i64 al,.slice aq an ac,.int .i64 am] _ 205 _ rfl (Nat.zero_le _) rfl)
 have A2:=Ext.alloc (w.alloc (.cells #[.int .i64 af,.int .i64 al,.slice aq an ac,.int .i64 am] 205)) (.cells #[.int .i64 bf,.int .i64 bl,.slice bq bn bc,.int .i64 bm] 205)
 have B2:=(BoxV.new (w.alloc (.cells #[.int .i64 af,.int .i64 al,.slice aq an ac,.int .i64 am] 205)) 0 #[.int .i64 bf,.int .i64 bl,.slice bq bn bc,.int .i64 bm] _ 205 (w.heap.size+1) (by simp) (Nat.zero_le _) rfl)
 have X:=hI (A1.tr A2)
 have B1':=hI (B1.ext A2)
 have B2':=hI B2
 clear A1 B1 A2 B2
 obtain ⟨R,hR⟩:∃ R,R=betterB al an af bl bn bf:=⟨_,rfl⟩
 rw [← hR]
 unfold betterB at hR
 go_enter Tryz.func189,Tryz.ntmps189
 go_upto_region 1 with fail
 change Code.wp _ _ _ _ ((w.alloc (.cells #[.int .i64 af,.int .i64 al,.slice aq an ac,.int .i64 am] 205)).alloc (.cells #[.int .i64 bf,.int .i64 bl,.slice bq bn bc,.int .i64 bm] 205))
 generalize (w.alloc (.cells #[.int .i64 af,.int .i64 al,.slice aq an ac,.int .i64 am] 205)).alloc (.cells #[.int .i64 bf,.int .i64 bl,.slice bq bn bc,.int .i64 bm] 205)=w2 at *
 have a0:=B1'.o.c 0 _ rfl
 have a1:=B1'.o.c 1 _ rfl
 have a2:=B1'.o.c 2 _ rfl
 have b0:=B2'.o.c 0 _ rfl
 have b1:=B2'.o.c 1 _ rfl
 have b2:=B2'.o.c 2 _ rfl
 by_cases h1:al=bl
 ·subst h1
  rw [if_pos rfl] at hR
  by_cases h2:an=bn
  ·subst h2
   rw [if_pos rfl] at hR
   subst hR
   go_wp2
   go_ret
   exact ⟨rfl,X.o⟩
  ·rw [if_neg h2] at hR
   have h3:¬ (an:Int)=(bn:Int):=by omega
   have HR:Hid (R=decide ((bn:Int)<(an:Int))):=hI (by rw [hR];simp)
   clear hR
   go_wp2
   go_ret
   exact ⟨by rw [HR.o];simp,X.o⟩
 ·rw [if_neg h1] at hR
  subst hR
  go_wp2
  go_ret
  exact ⟨rfl,X.o⟩
end
section
open Go Go.Sort Go.RowKit
def betterV (a b:VoK):Bool:=betterB a.ls a.L.length a.fr b.ls b.L.length b.fr
def bestGo (b:VoK × Int) (v:VoK):VoK × Int:=(if betterV v b.1 then v else b.1,mxI b.2 v.cm)
def mnI (a b:Int):Int:=if a<b then a else b
def bestV (vs:List VoK):VoK:=
 let r:=vs.foldl bestGo (vs.headD ⟨0,0,[],0⟩,0)
 { r.1 with cm:=mnI r.2 (r.1.L.length:Int) }
theorem vbest_any {w:World} {o:Ow} {c g:Nat} {vw n:Int} {vs:List VoK} (h:VsV w o c g vw n vs) (hm:mostT (teamV vs) n=true) (hne:vs≠[]) :
  Calls Tryz.prog 169 #[.pointer (some ⟨g,0,none⟩)] w fun e w'=>∃ q cap,e=.returned (.tuple #[.agg #[.int .i64 (bestV vs).fr,.int .i64 (bestV vs).ls,.slice q (bestV vs).L.length cap,.int .i64 (bestV vs).cm],.bool true])∧OwS 71 7 w' w.heap.size q (bestV vs).L.length cap ((bestV vs).L.map enL)∧(∀ e ∈ (bestV vs).L,EnOk e)∧Ext w w':=by
 have X0:=hI (Ext.alloc w (.cells #[.int .i64 0,.int .i64 0,.slice none 0 0,.int .i64 0] 205))
 have B0:=hI (BoxV.new w w.heap.size #[.int .i64 0,.int .i64 0,.slice none 0 0,.int .i64 0] _ 205 _ rfl (Nat.le_refl _) rfl)
 have T:=venough_any (h.ext X0.o)
 rw [hm] at T
 obtain ⟨p,cap,ds,h,rfl⟩:=h
 obtain ⟨BV,hBV⟩:∃ BV,BV=bestV (ds.map keyV):=⟨_,rfl⟩
 rw [← hBV]
 have HBV:=hI hBV
 clear hBV
 have H:=hI h
 have hle:=h.le
 have hpos:0<ds.length:=by
  cases ds with
  | nil=>exact absurd rfl hne
  | cons a l=>simp
 obtain ⟨d0,hd0⟩:∃ d,ds[0]?=some d:=⟨ds[0],List.getElem?_eq_getElem hpos⟩
 have HD0:Hid ((ds.map keyV).headD ⟨0,0,[],0⟩=keyV d0∧d0 ∈ ds):=hI ⟨by
  cases ds with
  | nil=>cases hd0
  | cons a l=>simp at hd0;subst hd0;rfl,List.mem_of_getElem? hd0⟩
 clear h hm hne
 obtain ⟨b,oo,d,hp,hd,c0,c1,c2,c3⟩:=vo_at H.o.row.row.sl 0 hpos
 rw [hd0] at hd
 cases hd
 have CC:Hid (w.cell? ⟨b,oo+0 * 4,none⟩=some (.int .i64 d0.fr)∧w.cell? ⟨b,oo+0 * 4+1,none⟩=some (.int .i64 d0.ls)∧w.cell? ⟨b,oo+0 * 4+2,none⟩=some (.slice d0.q d0.L.length d0.cap)∧w.cell? ⟨b,oo+0 * 4+3,none⟩=some (.int .i64 d0.cm)):=hI ⟨c0,c1,c2,c3⟩
 clear hd0 c0 c1 c2 c3
 go_enter Tryz.func169,Tryz.ntmps169
 go_upto_region 1 with fail
 change Code.wp _ _ _ _ (w.alloc (.cells #[.int .i64 0,.int .i64 0,.slice none 0 0,.int .i64 0] 205))
 generalize w.alloc (.cells #[.int .i64 0,.int .i64 0,.slice none 0 0,.int .i64 0] 205)=w0 at *
 go_wp2_with fail
 refine T.mono ?_
 rintro e w1 ⟨rfl,x1⟩
 have X:=hI (X0.o.tr x1)
 have B:=hI (B0.o.ext x1)
 clear T x1 X0 B0
 have g2:w1.cell? ⟨g,2,none⟩=some (.slice p ds.length cap):=Ext.cell X.o (H.o.box.box.c 2 _ rfl)
 subst hp
 obtain ⟨af,al,aq,ac,aL,am⟩:=d0
 have c0:=Ext.cell X.o CC.o.1
 have c1:=Ext.cell X.o CC.o.2.1
 have c2:=Ext.cell X.o CC.o.2.2.1
 have c3:=Ext.cell X.o CC.o.2.2.2
 simp only [Nat.zero_mul,Nat.add_zero] at c0 c1 c2 c3
 clear CC
 have hposI:(0:Int)<(ds.length:Int):=by omega
 go_upto_region 4 with fail
 change Code.wp _ _ _ _ (w1.alloc (.cells #[.int .i64 af,.int .i64 al,.slice aq aL.length ac,.int .i64 am] 205))
 have X2:=hI (Ext.alloc w1 (.cells #[.int .i64 af,.int .i64 al,.slice aq aL.length ac,.int .i64 am] 205))
 have B4:=hI (BoxV.new w1 w1.heap.size #[.int .i64 af,.int .i64 al,.slice aq aL.length ac,.int .i64 am] _ 205 _ rfl (Nat.le_refl _) rfl)
 have HB4:Hid (w.heap.size<w1.heap.size):=hI B.o.hi
 clear g2 c0 c1 c2 c3
 generalize w1.alloc (.cells #[.int .i64 af,.int .i64 al,.slice aq aL.length ac,.int .i64 am] 205)=w2 at *
 replace X:=hI (X.o.tr X2.o)
 replace B:=hI (B.o.ext X2.o)
 clear X2
 have B4':Hid (BoxV w2 w.heap.size w1.heap.size [.int .i64 af,.int .i64 al,.slice aq aL.length ac,.int .i64 am]):=hI (B4.o.base (by have:=HB4.o;omega))
 clear B4
 generalize w1.heap.size=b4 at *
 have g2:w2.cell? ⟨g,2,none⟩=some (.slice (some ⟨b,oo,none⟩) ds.length cap):=Ext.cell X.o (H.o.box.box.c 2 _ rfl)
 go_wp2_with fail
 clear g2
 go_loopw [5,23] (fun cc i wr=>∃ (k:Nat) (z:VoD),k≤ds.length∧i=.int .i64 (k:Int)∧Hid (z ∈ ds)∧Hid (((ds.take k).map keyV).foldl bestGo ((ds.map keyV).headD ⟨0,0,[],0⟩,0)=(keyV z,(((ds.take k).map keyV).foldl bestGo ((ds.map keyV).headD ⟨0,0,[],0⟩,0)).2))∧cc=.int .i64 (((ds.take k).map keyV).foldl bestGo ((ds.map keyV).headD ⟨0,0,[],0⟩,0)).2∧Hid (BoxV wr w.heap.size b4 (voL z))∧Hid (BoxV wr w.heap.size w.heap.size [.int .i64 0,.int .i64 0,.slice none 0 0,.int .i64 0])∧Hid (Ext w wr)) (fun _ i _=>ds.length-(intOf i).toNat)
 case atStart=>exact ⟨0,⟨af,al,aq,ac,aL,am⟩,by omega,rfl,hI HD0.o.2,hI (by rw [HD0.o.1];rfl),rfl,B4',B,X⟩
 clear B4' B X
 case round=>
  obtain ⟨k,z,hk,rfl,ZM,FO,rfl,BZ,B,X⟩:=hrel
  generalize hF:((ds.take k).map keyV).foldl bestGo ((ds.map keyV).headD ⟨0,0,[],0⟩,0)=F at *
  obtain ⟨F1,F2⟩:=F
  have HF:=hI hF
  have FO1:Hid (F1=keyV z):=hI (by have:=FO.o;simp at this;exact this)
  clear hF FO
  simp only
  obtain ⟨zf,zl,zq,zc,zL,zm⟩:=z
  by_cases hlt:k<ds.length
  ·obtain ⟨b',oo',d,hp,hd,c0,c1,c2,c3⟩:=vo_at (H.o.row.row.sl.ext X.o) k hlt
   cases hp
   have SN:Hid (((ds.take (k+1)).map keyV).foldl bestGo ((ds.map keyV).headD ⟨0,0,[],0⟩,0)=bestGo (keyV ⟨zf,zl,zq,zc,zL,zm⟩,F2) (keyV d)):=hI (by
    rw [List.take_add_one,hd,List.map_append,List.foldl_append,HF.o,FO1.o]
    rfl)
   have DM:=hI (List.mem_of_getElem? hd)
   clear hd
   obtain ⟨df,dl,dq,dc,dL,dm⟩:=d
   simp only at c0 c1 c2 c3
   obtain ⟨z0,z1,z2,z3⟩:wr.cell? ⟨b4,0,none⟩=some (.int .i64 zf)∧wr.cell? ⟨b4,1,none⟩=some (.int .i64 zl)∧wr.cell? ⟨b4,2,none⟩=some (.slice zq zL.length zc)∧wr.cell? ⟨b4,3,none⟩=some (.int .i64 zm):=⟨BZ.o.c 0 _ rfl,BZ.o.c 1 _ rfl,BZ.o.c 2 _ rfl,BZ.o.c 3 _ rfl⟩
   clear z0 z1 z2 z3
   go_upto_region 7 with fail
   change Code.wp _ _ _ _ (wr.alloc (.cells #[.int .i64 df,.int .i64 dl,.slice dq dL.length dc,.int .i64 dm] 205))
   have X3:=hI (Ext.alloc wr (.cells #[.int .i64 df,.int .i64 dl,.slice dq dL.length dc,.int .i64 dm] 205))
   have BD:=hI (BoxV.new wr 0 #[.int .i64 df,.int .i64 dl,.slice dq dL.length dc,.int .i64 dm] _ 205 _ rfl (Nat.zero_le _) rfl)
   have HBD:Hid (b4≠wr.heap.size):=hI (by have:=BZ.o.hi;omega)
   clear c0 c1 c2 c3
   generalize wr.alloc (.cells #[.int .i64 df,.int .i64 dl,.slice dq dL.length dc,.int .i64 dm] 205)=w3 at *
   replace X:=hI (X.o.tr X3.o)
   replace B:=hI (B.o.ext X3.o)
   replace BZ:=hI (BZ.o.ext X3.o)
   clear X3
   generalize wr.heap.size=b7 at *
   obtain ⟨z0,z1,z2,z3⟩:w3.cell? ⟨b4,0,none⟩=some (.int .i64 zf)∧w3.cell? ⟨b4,1,none⟩=some (.int .i64 zl)∧w3.cell? ⟨b4,2,none⟩=some (.slice zq zL.length zc)∧w3.cell? ⟨b4,3,none⟩=some (.int .i64 zm):=⟨BZ.o.c 0 _ rfl,BZ.o.c 1 _ rfl,BZ.o.c 2 _ rfl,BZ.o.c 3 _ rfl⟩
   obtain ⟨y0,y1,y2,y3⟩:w3.cell? ⟨b7,0,none⟩=some (.int .i64 df)∧w3.cell? ⟨b7,1,none⟩=some (.int .i64 dl)∧w3.cell? ⟨b7,2,none⟩=some (.slice dq dL.length dc)∧w3.cell? ⟨b7,3,none⟩=some (.int .i64 dm):=⟨BD.o.c 0 _ rfl,BD.o.c 1 _ rfl,BD.o.c 2 _ rfl,BD.o.c 3 _ rfl⟩
   go_wp2_with fail
   refine better_any.mono ?_
   rintro e w5 ⟨rfl,x5⟩
   replace X:=hI (X.o.tr x5)
   replace B:=hI (B.o.ext x5)
   replace BZ:=hI (BZ.o.ext x5)
   replace BD:=hI (BD.o.ext x5)
   clear x5 z0 z1 z2 z3 y0 y1 y2 y3
   have y3:=BD.o.c 3 _ rfl
   obtain ⟨BT,hBT⟩:∃ BT,BT=betterB dl dL.length df zl zL.length zf:=⟨_,rfl⟩
   rw [← hBT]
   have HB0:Hid (betterV (keyV ⟨df,dl,dq,dc,dL,dm⟩) (keyV ⟨zf,zl,zq,zc,zL,zm⟩)=BT):=hI hBT.symm
   clear hBT
   cases BT
   ·have BG2:Hid (bestGo (keyV ⟨zf,zl,zq,zc,zL,zm⟩,F2) (keyV ⟨df,dl,dq,dc,dL,dm⟩)=(keyV ⟨zf,zl,zq,zc,zL,zm⟩,mxI F2 dm)):=hI (by unfold bestGo;simp only;rw [HB0.o];rfl)
    clear HB0
    by_cases hmx:F2<dm
    ·have EC:Hid (mxI F2 dm=dm):=hI (by unfold mxI;rw [if_pos hmx])
     go_wp2
     go_roundw
     case rel=>exact ⟨k+1,⟨zf,zl,zq,zc,zL,zm⟩,by omega,by go_num,ZM,hI (by rw [SN.o,BG2.o]),by rw [SN.o,BG2.o];exact congrArg (Value.int .i64) EC.o.symm,BZ,B,X⟩
     case measure=>simp [intOf];omega
    ·have EC:Hid (mxI F2 dm=F2):=hI (by unfold mxI;rw [if_neg hmx])
     go_wp2
     go_roundw
     case rel=>exact ⟨k+1,⟨zf,zl,zq,zc,zL,zm⟩,by omega,by go_num,ZM,hI (by rw [SN.o,BG2.o]),by rw [SN.o,BG2.o];exact congrArg (Value.int .i64) EC.o.symm,BZ,B,X⟩
     case measure=>simp [intOf];omega
   ·have BG2:Hid (bestGo (keyV ⟨zf,zl,zq,zc,zL,zm⟩,F2) (keyV ⟨df,dl,dq,dc,dL,dm⟩)=(keyV ⟨df,dl,dq,dc,dL,dm⟩,mxI F2 dm)):=hI (by unfold bestGo;simp only;rw [HB0.o];rfl)
    clear HB0
    obtain ⟨y0,y1,y2⟩:w5.cell? ⟨b7,0,none⟩=some (.int .i64 df)∧w5.cell? ⟨b7,1,none⟩=some (.int .i64 dl)∧w5.cell? ⟨b7,2,none⟩=some (.slice dq dL.length dc):=⟨BD.o.c 0 _ rfl,BD.o.c 1 _ rfl,BD.o.c 2 _ rfl⟩
    obtain ⟨z0,z1,z2,z3⟩:w5.cell? ⟨b4,0,none⟩=some (.int .i64 zf)∧w5.cell? ⟨b4,1,none⟩=some (.int .i64 zl)∧w5.cell? ⟨b4,2,none⟩=some (.slice zq zL.length zc)∧w5.cell? ⟨b4,3,none⟩=some (.int .i64 zm):=⟨BZ.o.c 0 _ rfl,BZ.o.c 1 _ rfl,BZ.o.c 2 _ rfl,BZ.o.c 3 _ rfl⟩
    have zf':=BZ.o.f
    have FG:=hI (fillV_grown b4 [.int .i64 df,.int .i64 dl,.slice dq dL.length dc,.int .i64 dm] 0 w5 w5 (grown_refl _ _))
    have FZ:Hid (BoxV (fillV w5 b4 0 [.int .i64 df,.int .i64 dl,.slice dq dL.length dc,.int .i64 dm]) w.heap.size b4 [.int .i64 df,.int .i64 dl,.slice dq dL.length dc,.int .i64 dm]):=hI (BZ.o.fill (Nat.le_refl _))
    have FB:Hid (BoxV (fillV w5 b4 0 [.int .i64 df,.int .i64 dl,.slice dq dL.length dc,.int .i64 dm]) w.heap.size w.heap.size [.int .i64 0,.int .i64 0,.slice none 0 0,.int .i64 0]):=hI (B.o.other FG.o (by intro e;cases e;have:=HB4.o;omega))
    have FD:=hI (BD.o.other FG.o (by intro e;cases e;exact HBD.o rfl))
    have FX:=hI (fillV_below X.o (show w.heap.size≤b4 by have:=HB4.o;omega) [.int .i64 df,.int .i64 dl,.slice dq dL.length dc,.int .i64 dm] 0)
    go_upto_region 9 with fail
    change Code.wp _ _ _ _ (fillV w5 b4 0 [.int .i64 df,.int .i64 dl,.slice dq dL.length dc,.int .i64 dm])
    clear y0 y1 y2 y3 z0 z1 z2 z3 zf' B BZ X BD FG
    generalize fillV w5 b4 0 [.int .i64 df,.int .i64 dl,.slice dq dL.length dc,.int .i64 dm]=w6 at *
    have y3:=FD.o.c 3 _ rfl
    have BZ:=FZ
    have B:=FB
    have X:=FX
    clear FZ FB FX
    by_cases hmx:F2<dm
    ·have EC:Hid (mxI F2 dm=dm):=hI (by unfold mxI;rw [if_pos hmx])
     go_wp2
     go_roundw
     case rel=>exact ⟨k+1,⟨df,dl,dq,dc,dL,dm⟩,by omega,by go_num,DM,hI (by rw [SN.o,BG2.o]),by rw [SN.o,BG2.o];exact congrArg (Value.int .i64) EC.o.symm,BZ,B,X⟩
     case measure=>simp [intOf];omega
    ·have EC:Hid (mxI F2 dm=F2):=hI (by unfold mxI;rw [if_neg hmx])
     go_wp2
     go_roundw
     case rel=>exact ⟨k+1,⟨df,dl,dq,dc,dL,dm⟩,by omega,by go_num,DM,hI (by rw [SN.o,BG2.o]),by rw [SN.o,BG2.o];exact congrArg (Value.int .i64) EC.o.symm,BZ,B,X⟩
     case measure=>simp [intOf];omega
  ·have hkk:k=ds.length:=by omega
   have FV:Hid (BV=⟨zf,zl,zL,mnI F2 (zL.length:Int)⟩):=hI (by
    rw [HBV.o]
    have h1:=HF.o
    rw [hkk,List.take_length] at h1
    unfold bestV
    rw [h1,FO1.o]
    rfl)
   have SZ:=hI ((H.o.ok _ ZM.o).sl.ext X.o)
   have EZ:=hI (H.o.ok _ ZM.o).en
   have hzl:zL.length≤1000000:=by
    have h1:zL.length≤60:=(H.o.ok _ ZM.o).le
    omega
   have zf':=BZ.o.f
   have z2:wr.cell? ⟨b4,2,none⟩=some (.slice zq zL.length zc):=BZ.o.c 2 _ rfl
   obtain ⟨MM,hMM⟩:∃ M,M=mnI F2 (zL.length:Int):=⟨_,rfl⟩
   rw [← hMM] at FV
   have HMM:=hI hMM
   clear hMM hkk
   go_wp2_with fail
   refine (eclone_any SZ.o.sl (en_one _) hzl).mono ?_
   rintro e w6 ⟨p2,c2,rfl,o6,x6⟩
   have O6:=hI o6
   replace B:=hI (B.o.ext x6)
   have BZ6:=hI (BZ.o.ext x6)
   have HP2:Hid (∀ i,p2.map (·.block)=some i→b4≠i∧w.heap.size≠i):=hI (fun i hi=>by
    have h1:=(O6.o.lt i hi).1
    have h2:=BZ.o.hi
    have h3:=HB4.o
    omega)
   have OB:Hid (w.heap.size≤wr.heap.size):=hI X.o.size
   replace X:=hI (X.o.tr x6)
   clear o6 x6 z2 zf' BZ
   have zf':=BZ6.o.f
   obtain ⟨z2,z3⟩:w6.cell? ⟨b4,2,none⟩=some (.slice zq zL.length zc)∧w6.cell? ⟨b4,3,none⟩=some (.int .i64 zm):=⟨BZ6.o.c 2 _ rfl,BZ6.o.c 3 _ rfl⟩
   go_upto_region 12 with fail
   have B7:Hid (BoxV (w6.setCell ⟨b4,2,none⟩ (.slice p2 zL.length c2)) w.heap.size b4 [.int .i64 zf,.int .i64 zl,.slice p2 zL.length c2,.int .i64 zm]):=hI (BZ6.o.put 2 _)
   have B70:Hid (BoxV (w6.setCell ⟨b4,2,none⟩ (.slice p2 zL.length c2)) w.heap.size w.heap.size [.int .i64 0,.int .i64 0,.slice none 0 0,.int .i64 0]):=hI (B.o.other (grown_put (grown_refl w6 (some b4)) 2 _) (by intro e;cases e;have:=HB4.o;omega))
   have O7:=hI (O6.o.kept (grown_put (grown_refl w6 (some b4)) 2 (.slice p2 zL.length c2)) (fun k hk e=>by cases hk;exact (HP2.o _ e).1 rfl))
   have X7:Hid (Ext w (w6.setCell ⟨b4,2,none⟩ (.slice p2 zL.length c2))):=hI (X.o.setCell (by have:=HB4.o;simp only;omega) _)
   clear z2 z3 zf' B BZ6 O6 X
   generalize w6.setCell ⟨b4,2,none⟩ (.slice p2 zL.length c2)=w7 at *
   have zf':=B7.o.f
   obtain ⟨z2,z3⟩:w7.cell? ⟨b4,2,none⟩=some (.slice p2 zL.length c2)∧w7.cell? ⟨b4,3,none⟩=some (.int .i64 zm):=⟨B7.o.c 2 _ rfl,B7.o.c 3 _ rfl⟩
   go_cut [] (fun wx=>wx=w7.setCell ⟨b4,3,none⟩ (.int .i64 MM))
   case first=>
    by_cases hmn:F2<(zL.length:Int)
    ·have e:MM=F2:=by rw [HMM.o];unfold mnI;rw [if_pos hmn]
     subst e
     go_wp2
     go_meet
     rfl
    ·have e:MM=(zL.length:Int):=by rw [HMM.o];unfold mnI;rw [if_neg hmn]
     by_cases heq:F2=(zL.length:Int)
     ·subst e
      subst heq
      go_wp2
      go_meet
      rfl
     ·have h3:(zL.length:Int)<F2:=by omega
      have HEE:=hI e
      clear e
      go_wp2
      go_meet
      rw [HEE.o]
   case rest=>
   subst hcut
   have B8:Hid (BoxV (w7.setCell ⟨b4,3,none⟩ (.int .i64 MM)) w.heap.size b4 [.int .i64 zf,.int .i64 zl,.slice p2 zL.length c2,.int .i64 MM]):=hI (B7.o.put 3 _)
   have B80:Hid (BoxV (w7.setCell ⟨b4,3,none⟩ (.int .i64 MM)) w.heap.size w.heap.size [.int .i64 0,.int .i64 0,.slice none 0 0,.int .i64 0]):=hI (B70.o.other (grown_put (grown_refl w7 (some b4)) 3 _) (by intro e;cases e;have:=HB4.o;omega))
   have O8:=hI (O7.o.kept (grown_put (grown_refl w7 (some b4)) 3 (.int .i64 MM)) (fun k hk e=>by cases hk;exact (HP2.o _ e).1 rfl))
   have X8:Hid (Ext w (w7.setCell ⟨b4,3,none⟩ (.int .i64 MM))):=hI (X7.o.setCell (by have:=HB4.o;simp only;omega) _)
   clear z2 z3 zf' B7 B70 O7 X7
   generalize w7.setCell ⟨b4,3,none⟩ (.int .i64 MM)=w8 at *
   obtain ⟨z0,z1,z2,z3⟩:w8.cell? ⟨b4,0,none⟩=some (.int .i64 zf)∧w8.cell? ⟨b4,1,none⟩=some (.int .i64 zl)∧w8.cell? ⟨b4,2,none⟩=some (.slice p2 zL.length c2)∧w8.cell? ⟨b4,3,none⟩=some (.int .i64 MM):=⟨B8.o.c 0 _ rfl,B8.o.c 1 _ rfl,B8.o.c 2 _ rfl,B8.o.c 3 _ rfl⟩
   obtain ⟨t0,t1,t2,t3⟩:w8.cell? ⟨w.heap.size,0,none⟩=some (.int .i64 0)∧w8.cell? ⟨w.heap.size,1,none⟩=some (.int .i64 0)∧w8.cell? ⟨w.heap.size,2,none⟩=some (.slice none 0 0)∧w8.cell? ⟨w.heap.size,3,none⟩=some (.int .i64 0):=⟨B80.o.c 0 _ rfl,B80.o.c 1 _ rfl,B80.o.c 2 _ rfl,B80.o.c 3 _ rfl⟩
   have tf:=B80.o.f
   go_wp2
   change bodyPost _ _ _ Exit.ret _ (fillV w8 w.heap.size 0 [.int .i64 zf,.int .i64 zl,.slice p2 zL.length c2,.int .i64 MM])
   have FB:Hid (BoxV (fillV w8 w.heap.size 0 [.int .i64 zf,.int .i64 zl,.slice p2 zL.length c2,.int .i64 MM]) w.heap.size w.heap.size [.int .i64 zf,.int .i64 zl,.slice p2 zL.length c2,.int .i64 MM]):=hI (B80.o.fill (Nat.le_refl _))
   have O9:=hI (O8.o.kept (fillV_grown w.heap.size [.int .i64 zf,.int .i64 zl,.slice p2 zL.length c2,.int .i64 MM] 0 w8 w8 (grown_refl _ _)) (fun k hk e=>by cases hk;exact (HP2.o _ e).2 rfl))
   have X9:=hI (fillV_below X8.o (Nat.le_refl _) [.int .i64 zf,.int .i64 zl,.slice p2 zL.length c2,.int .i64 MM] 0)
   generalize fillV w8 w.heap.size 0 [.int .i64 zf,.int .i64 zl,.slice p2 zL.length c2,.int .i64 MM]=w9 at *
   obtain ⟨f0,f1,f2,f3⟩:w9.cell? ⟨w.heap.size,0,none⟩=some (.int .i64 zf)∧w9.cell? ⟨w.heap.size,1,none⟩=some (.int .i64 zl)∧w9.cell? ⟨w.heap.size,2,none⟩=some (.slice p2 zL.length c2)∧w9.cell? ⟨w.heap.size,3,none⟩=some (.int .i64 MM):=⟨FB.o.c 0 _ rfl,FB.o.c 1 _ rfl,FB.o.c 2 _ rfl,FB.o.c 3 _ rfl⟩
   exact bodyPost_ret (v:=.tuple #[.agg #[.int .i64 zf,.int .i64 zl,.slice p2 zL.length c2,.int .i64 MM],.bool true]) (by simp [results,Tryz.results169,go_sem,f0,f1,f2,f3]) rfl ⟨p2,c2,by rw [FV.o],by rw [FV.o];exact O9.o.mono OB.o,by rw [FV.o];exact EZ.o,X9.o⟩
end
section
open Go Go.Sort Go.RowKit
theorem PnP.paint {w:World} {o:Ow} {c g cap:Nat} {p:Option Addr} {fr bt sq:Int} {L:List EnD} (h:PnP w o c g p cap fr bt sq L) {b d:Nat} (hb:o b=0) (h1:1<c):PnP w (dye o b d) c g p cap fr bt sq L:=
 ⟨h.box.paint (fun e=>by have:=h.box.col;rw [e,hb] at this;omega),h.row.paint (fun e=>by have:=h.row.col b e;rw [hb] at this;omega),h.ok,h.le⟩
theorem BoxC.loose {w:World} {o:Ow} (hcl:Cl w o) (cur:Array Value) (vs:List Value) (t:TypeId) (hc:cur.toList=vs):BoxC (w.alloc (.cells cur t)) o 0 w.heap.size vs:=
 ⟨hcl _ (Nat.le_refl _),BoxV.new w 0 cur vs t _ rfl (Nat.zero_le _) hc⟩
theorem paddp_any {w:World} {o:Ow} {c g:Nat} {fr bt sq:Int} {L:List EnD} {od lv:Int} {da:ByteArray} (hcl:Cl w o) (h:PnV w o c g fr bt sq L) (h1:1<c) (hs:0≤sq∧sq<1099511627776) (he:EnOk ⟨fr,bt,sq+1,od,lv,0,da⟩) (hm:mayB ⟨fr,bt,sq+1,od,lv,0,da⟩=true) (hl:L.length<4) :
  Calls Tryz.prog 161 #[.pointer (some ⟨g,0,none⟩),.int .i64 od,.int .i64 lv,.string da] w fun e w'=>∃ o',e=.returned (.tuple #[enV ⟨fr,bt,sq+1,od,lv,0,da⟩,.int .i64 0])∧PnV w' o' c g fr bt (sq+1) (L++[⟨fr,bt,sq+1,od,lv,0,da⟩])∧Fm (two c) o o' w w':=by
 obtain ⟨p,cap,h⟩:=h
 obtain ⟨s1,s2⟩:=hs
 have HE:=hI he
 have HM:=hI hm
 have H1:=hI h1
 have sw:wrap64 (sq+1)=sq+1:=by unfold wrap64;omega
 have A0:=hI (Ext.alloc w (.cells (enA zeroE) 71))
 have RB:=hI (BoxC.loose hcl (enA zeroE) (enL zeroE) 71 rfl)
 have HC:=hI (hcl.ext A0.o)
 have M0:Hid (Fm (two c) o o w (w.alloc (.cells (enA zeroE) 71))):=hI (Fm.ext hcl A0.o)
 have H:=hI (h.ext A0.o)
 have RN:Hid (w.heap.size≤w.heap.size∧o w.heap.size=0):=hI ⟨Nat.le_refl _,hcl _ (Nat.le_refl _)⟩
 clear h hcl h1 he hm
 go_enter Tryz.func161,Tryz.ntmps161
 go_upto_region 1 with fail
 change Code.wp _ _ _ _ (w.alloc (.cells (enA zeroE) 71))
 clear A0
 generalize w.alloc (.cells (enA zeroE) 71)=w0 at *
 obtain ⟨rb,hrb⟩:∃ rb,rb=w.heap.size:=⟨_,rfl⟩
 rw [← hrb] at RB RN ⊢
 have HRB:=hI hrb
 clear hrb
 have d0:=H.o.box.box.c 0 _ rfl
 have d1:=H.o.box.box.c 1 _ rfl
 have d2:=H.o.box.box.c 2 _ rfl
 have d3:=H.o.box.box.c 3 _ rfl
 have A3:=hI (Ext.alloc w0 (.cells #[.int .i64 0,.int .i64 0,.int .i64 0,.int .i64 0,.int .i64 0,.int .i64 0,.string ⟨#[]⟩] 71))
 have e0:=(H.o.box.ext A3.o).box.c 0 _ rfl
 have e1:=(H.o.box.ext A3.o).box.c 1 _ rfl
 have e2:=(H.o.box.ext A3.o).box.c 2 _ rfl
 go_wp2_with fail
 go_region
 change Exit.then _ _ _ _ ((w0.alloc (.cells (enA ⟨fr,bt,sq+1,od,lv,0,da⟩) 71)).drew)
 have X1:Hid (Ext w0 ((w0.alloc (.cells (enA ⟨fr,bt,sq+1,od,lv,0,da⟩) 71)).drew)):=hI ((Ext.alloc w0 _).tr (Ext.drew _))
 have EB:Hid (BoxC ((w0.alloc (.cells (enA ⟨fr,bt,sq+1,od,lv,0,da⟩) 71)).drew) o 0 w0.heap.size (enL ⟨fr,bt,sq+1,od,lv,0,da⟩)):=hI ((BoxC.loose HC.o (enA ⟨fr,bt,sq+1,od,lv,0,da⟩) (enL ⟨fr,bt,sq+1,od,lv,0,da⟩) 71 rfl).ext (Ext.drew _))
 generalize (w0.alloc (.cells (enA ⟨fr,bt,sq+1,od,lv,0,da⟩) 71)).drew=w1 at *
 clear d0 d1 d2 d3 e0 e1 e2 A3
 generalize w0.heap.size=eb at *
 replace H:=hI (H.o.ext X1.o)
 replace RB:=hI (RB.o.ext X1.o)
 replace M0:=hI (M0.o.tr (Fm.ext HC.o X1.o) (by unfold two;have:=H1.o;omega))
 replace HC:=hI (HC.o.ext X1.o)
 clear X1
 have d0:=EB.o.box.c 0 _ rfl
 have d1:=EB.o.box.c 1 _ rfl
 have d2:=EB.o.box.c 2 _ rfl
 have d3:=EB.o.box.c 3 _ rfl
 have d4:=EB.o.box.c 4 _ rfl
 have d5:=EB.o.box.c 5 _ rfl
 have d6:=EB.o.box.c 6 _ rfl
 go_wp2_with fail
 refine (may_any (e:=⟨fr,bt,sq+1,od,lv,0,da⟩) HE.o).mono ?_
 rw [HM.o]
 rintro x w2 ⟨rfl,x2⟩
 replace H:=hI (H.o.ext x2)
 replace EB:=hI (EB.o.ext x2)
 replace RB:=hI (RB.o.ext x2)
 replace M0:=hI (M0.o.tr (Fm.ext HC.o x2) (by unfold two;have:=H1.o;omega))
 replace HC:=hI (HC.o.ext x2)
 clear x2 d0 d1 d2 d3 d4 d5 d6
 have c2:=H.o.box.box.c 2 _ rfl
 have f2:=H.o.box.box.f 2
 have c3:=H.o.box.box.c 3 _ rfl
 have hl':¬ (4:Int)≤(L.length:Int):=by omega
 go_upto_region 9 with fail
 clear c2 f2 c3 hl'
 have MM:Hid (Fm (fun d=>d=c) o o w2 (w2.setCell ⟨g,2,none⟩ (.int .i64 (sq+1)))):=hI (Fm.put (C:=fun d=>d=c) HC.o H.o.box (by have:=H1.o;omega) rfl 2 _)
 have BX:Hid (BoxC (w2.setCell ⟨g,2,none⟩ (.int .i64 (sq+1))) o c g [.int .i64 fr,.int .i64 bt,.int .i64 (sq+1),.slice p L.length cap]):=hI (H.o.box.put 2 (.int .i64 (sq+1)))
 have RW:=hI (H.o.row.fr MM.o (by have:=H1.o;omega) (by omega))
 have OKS:=hI (And.intro H.o.ok H.o.le)
 replace EB:=hI (EB.o.fr MM.o (by omega) (by have:=H1.o;omega))
 replace RB:=hI (RB.o.fr MM.o (by omega) (by have:=H1.o;omega))
 replace M0:=hI (M0.o.tr (MM.o.mono (fun d hd=>Or.inl hd)) (by unfold two;have:=H1.o;omega))
 replace HC:=hI MM.o.cl
 clear MM H
 generalize w2.setCell ⟨g,2,none⟩ (.int .i64 (sq+1))=w5 at *
 have d0:=EB.o.box.c 0 _ rfl
 have d1:=EB.o.box.c 1 _ rfl
 have d2:=EB.o.box.c 2 _ rfl
 have d3:=EB.o.box.c 3 _ rfl
 have d4:=EB.o.box.c 4 _ rfl
 have d5:=EB.o.box.c 5 _ rfl
 have d6:=EB.o.box.c 6 _ rfl
 have A1:=hI (Ext.alloc w5 (.cells (enA ⟨fr,bt,sq+1,od,lv,0,da⟩) 71))
 have A2:=hI (A1.o.tr (Ext.drew (w5.alloc (.cells (enA ⟨fr,bt,sq+1,od,lv,0,da⟩) 71))))
 have a0:=(EB.o.ext A1.o).box.c 0 _ rfl
 have a1:=(EB.o.ext A1.o).box.c 1 _ rfl
 have a2:=(EB.o.ext A1.o).box.c 2 _ rfl
 have a3:=(EB.o.ext A1.o).box.c 3 _ rfl
 have a4:=(EB.o.ext A1.o).box.c 4 _ rfl
 have a5:=(EB.o.ext A1.o).box.c 5 _ rfl
 have a6:=(EB.o.ext A1.o).box.c 6 _ rfl
 have c0:=BX.o.box.c 3 _ rfl
 have b0:=(BX.o.ext A1.o).box.c 3 _ rfl
 have hl6:L.length≤1000000:=by omega
 go_region_law (refine step_appC (by rfl) _ _ _ (by rfl) 71 7 64 _ Tryz.underlying43 info_en (by rfl) (by omega) (HC.o.ext A2.o) (RW.o.ext A2.o) (by rfl) w5.heap.size 1 (enL ⟨fr,bt,sq+1,od,lv,0,da⟩) (by rfl) (by rfl) (fun j u hu=>news_at (w:=w5) rfl j u hu) (en_one [⟨fr,bt,sq+1,od,lv,0,da⟩] (enL ⟨fr,bt,sq+1,od,lv,0,da⟩) (by simp)) (by simpa using hl6) (by omega) (by have:=H1.o;omega) (fun d=>d=c+1) rfl ?_;intro p4 c4 o4 w4 r4 f4;have D4:=hI ((BX.o.ext A2.o).fr f4 (by have:=H1.o;omega) (by omega));have b4:=D4.o.box.c 3 _ rfl;have f40:=D4.o.box.f 3)
 all_goals
  obtain ⟨B5,R5,M5⟩:=app_done (C:=two c) (j:=3) (by unfold two;have:=H1.o;omega) (M0.o.tr (Fm.ext HC.o A2.o) (by unfold two;have:=H1.o;omega)) D4.o f4 r4 (by have:=H1.o;omega) (by have:=H1.o;omega) (.inl rfl) (.inr rfl) (by omega) (.slice p4 (L.length+1) c4)
  have EB6:=hI (((EB.o.ext A2.o).fr f4 (by omega) (by omega)).fr (Fm.put (C:=fun d=>d=c) f4.cl D4.o (by have:=H1.o;omega) rfl 3 (.slice p4 (L.length+1) c4)) (by omega) (by have:=H1.o;omega))
  have RB6:=hI (((RB.o.ext A2.o).fr f4 (by omega) (by omega)).fr (Fm.put (C:=fun d=>d=c) f4.cl D4.o (by have:=H1.o;omega) rfl 3 (.slice p4 (L.length+1) c4)) (by omega) (by have:=H1.o;omega))
  have B6:=hI B5
  have R6:=hI R5
  have M6:=hI M5
  clear r4 f4 D4 b4 f40 B5 R5 M5 A1 A2 d0 d1 d2 d3 d4 d5 d6 a0 a1 a2 a3 a4 a5 a6 c0 b0
  generalize w4.setCell ⟨g,3,none⟩ (.slice p4 (L.length+1) c4)=w7 at *
  have NC:Hid (o4 rb=0):=hI RB6.o.col
  have MP:Hid (Fm (two c) o (dye o4 rb c) w w7):=hI (M6.o.paint c (Nat.le_of_eq HRB.o.symm) RB6.o.box.hi)
  have RP:Hid (BoxC w7 (dye o4 rb c) c rb (enL zeroE)):=hI ⟨dye_same _ _ _,RB6.o.box⟩
  have PQ:Hid (PnP w7 (dye o4 rb c) c g p4 c4 fr bt (sq+1) (L++[⟨fr,bt,sq+1,od,lv,0,da⟩])):=hI (PnP.paint ⟨by have:=B6.o;simpa using this,by have:=R6.o;simpa using this,fun x hx=>by
    rcases List.mem_append.1 hx with hx | hx
    ·exact OKS.o.1 x hx
    ·simp at hx
     subst hx
     exact HE.o,by simp;omega⟩ NC.o H1.o)
  have NE:Hid (g≠rb):=hI (fun e=>by
   have h1:=B6.o.col
   have h2:=NC.o
   have h3:=H1.o
   rw [e] at h1
   omega)
  have d0:=EB6.o.box.c 0 _ rfl
  have d1:=EB6.o.box.c 1 _ rfl
  have d2:=EB6.o.box.c 2 _ rfl
  have d3:=EB6.o.box.c 3 _ rfl
  have d4:=EB6.o.box.c 4 _ rfl
  have d5:=EB6.o.box.c 5 _ rfl
  have d6:=EB6.o.box.c 6 _ rfl
  have r0:=RP.o.box.c 0 _ rfl
  have r1:=RP.o.box.c 1 _ rfl
  have r2:=RP.o.box.c 2 _ rfl
  have r3:=RP.o.box.c 3 _ rfl
  have r4:=RP.o.box.c 4 _ rfl
  have r5:=RP.o.box.c 5 _ rfl
  have r6:=RP.o.box.c 6 _ rfl
  have rf:=RP.o.box.f
  clear EB6 RB6 B6 R6 M6 EB RB BX RW M0 HC
  go_wp2
  obtain ⟨w9,hw9⟩:∃ w9,w9=fillV w7 rb 0 (enL ⟨fr,bt,sq+1,od,lv,0,da⟩):=⟨_,rfl⟩
  change bodyPost _ _ _ Exit.ret _ (fillV w7 rb 0 (enL ⟨fr,bt,sq+1,od,lv,0,da⟩))
  have FB:=RP.o.box.fill (vs:=enL ⟨fr,bt,sq+1,od,lv,0,da⟩) (by simp [enL])
  have FX:Hid (Fm (two c) o (dye o4 rb c) w (fillV w7 rb 0 (enL ⟨fr,bt,sq+1,od,lv,0,da⟩))):=hI (MP.o.tr (Fm.fill MP.o.cl RP.o (by have:=H1.o;omega) (.inl rfl)) (by unfold two;have:=H1.o;omega))
  have GR:=hI (fillV_grown rb (enL ⟨fr,bt,sq+1,od,lv,0,da⟩) 0 w7 w7 (grown_refl w7 (some rb)))
  rw [← hw9] at FB FX GR ⊢
  have f0:=FB.c 0 _ rfl
  have f1:=FB.c 1 _ rfl
  have f2:=FB.c 2 _ rfl
  have f3:=FB.c 3 _ rfl
  have f4:=FB.c 4 _ rfl
  have f5:=FB.c 5 _ rfl
  have f6:=FB.c 6 _ rfl
  exact bodyPost_ret (v:=.tuple #[enV ⟨fr,bt,sq+1,od,lv,0,da⟩,.int .i64 0]) (by simp [results,Tryz.results161,go_sem,f0,f1,f2,f3,f4,f5,f6]) rfl ⟨rfl,dye o4 rb c,⟨p4,c4,⟨⟨PQ.o.box.col,PQ.o.box.box.other GR.o (fun e=>NE.o (by cases e;rfl))⟩,⟨PQ.o.row.row.kept GR.o (fun k hk e=>by
    have h1:=PQ.o.row.col k e
    cases hk
    rw [dye_same] at h1
    omega),PQ.o.row.col⟩,PQ.o.ok,PQ.o.le⟩⟩,FX.o⟩
end
end Go.Proofs.YtjhbmbbmjaabcaaGreat
