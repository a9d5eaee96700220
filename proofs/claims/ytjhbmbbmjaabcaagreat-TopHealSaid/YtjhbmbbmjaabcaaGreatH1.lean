/-
  Contracts of the program's functions, in order. Conditions stand at each.
-/
import Derived.WalkKit
import Derived.ProofKit
import Derived.WalkLawsBesides
import Derived.WalkSpells
import Derived.Lib.Hide
import Derived.Laws.AppendOwnNone
import Derived.BigQuiet
import Derived.OpenShut
import Derived.Test.YtjhbmbbmjaabcaaGreatRows
import Derived.OrdersHeld
import Derived.Lib.QuietBelow
import Derived.Deep.RegionHeld3
import Derived.Lib.Zigzag
import Derived.Lib.VarintBits
import Derived.Lib.AppendStr
import Derived.Deep.Slices
import Derived.Deep.Fields
import Derived.ChangeSame
import Derived.Tactics
import Derived.Tactics2
import Derived.StillTactics
import Derived.OwnWalk
import Derived.Laws.Pointers
import Derived.Deep.AppendLies
import Derived.Deep.RegionLaw
import Derived.Outline
set_option linter.unusedVariables false
set_option maxRecDepth 8000
set_option maxHeartbeats 8000000
namespace Go.Proofs.YtjhbmbbmjaabcaaGreat
section
open Go Go.RowKit
theorem hI {p:Prop} (h:p):RowKit.Hid p:=Lib.hid h
theorem _root_.Go.RowKit.Hid.o {p:Prop} (h:RowKit.Hid p):p:=h.out
end
section
open Go.RowKit
def bv (x:UInt8):Value:=.int .u8 (x.toNat:Int)
structure SlP (w:World) (p:Option Addr) (n cap:Nat) (l:List UInt8):Prop where
 len:l.length=n
 le:n≤cap
 max:cap≤9223372036854775807
 nil:p=none→cap=0
 cells:0<n→∃ b o,p=some ⟨b,o,none⟩∧∀ i x,l[i]?=some x→w.cell? ⟨b,o+i,none⟩=some (bv x)
def OwP (w:World) (base:Nat) (p:Option Addr) (n cap:Nat) (l:List UInt8):Prop:=
 l.length=n∧w.ownsRow base 5 1 (.slice p n cap) n (l.map bv)
abbrev Ext (w w':World):Prop:=Below w.heap.size w w'
theorem Ext.rfl' (w:World):Ext w w:=Below.refl _ _
theorem Ext.tr {a b c:World} (h:Ext a b) (k:Ext b c):Ext a c:=Below.trans h (k.mono h.size)
theorem Ext.cell {w w':World} (h:Ext w w') {a:Addr} {v:Value} (hc:w.cell? a=some v):w'.cell? a=some v:=by
 rw [Below.cell h (World.block_lt_of_cell? w a hc)];exact hc
theorem Ext.alloc (w:World) (o:Obj):Ext w (w.alloc o):=(Below.refl _ _).alloc (Nat.le_refl _) o
theorem Ext.drew (w:World):Ext w w.drew:=(Below.refl _ _).drew
theorem Ext.drewN (w:World) (n:Nat):Ext w (w.drewN n):=⟨rfl,rfl,rfl,Nat.le_refl _,fun _ _=>rfl⟩
theorem Ext.grown {w w':World} {row:Option Nat} (hg:w.grownBy w' row) (hr:∀ k,row=some k→w.heap.size≤k):Ext w w':=
 (Below.refl _ _).grown hg (Nat.le_refl _) hr
theorem SlP.of_cells {w w':World} {p:Option Addr} {n cap:Nat} {l:List UInt8} (h:SlP w p n cap l) (hc:∀ a v,p.map (·.block)=some a.block→w.cell? a=some v→w'.cell? a=some v):SlP w' p n cap l:=
 ⟨h.len,h.le,h.max,h.nil,fun hl=>by
  obtain ⟨b,o,hp,hh⟩:=h.cells hl
  exact ⟨b,o,hp,fun i x hx=>hc _ _ (by rw [hp];simp) (hh i x hx)⟩⟩
theorem SlP.ext {w w':World} {p:Option Addr} {n cap:Nat} {l:List UInt8} (h:SlP w p n cap l) (he:Ext w w'):SlP w' p n cap l:=
 h.of_cells fun _ _ _ hv=>Ext.cell he hv
theorem SlP.drew {w:World} {p:Option Addr} {n cap:Nat} {l:List UInt8} (h:SlP w p n cap l):SlP w.drew p n cap l:=h.ext (Ext.drew w)
theorem SlP.alloc {w:World} {p:Option Addr} {n cap:Nat} {l:List UInt8} (h:SlP w p n cap l) (o:Obj):SlP (w.alloc o) p n cap l:=h.ext (Ext.alloc w o)
theorem SlP.grown {w w':World} {p:Option Addr} {n cap:Nat} {l:List UInt8} {row:Option Nat} (h:SlP w p n cap l) (hg:w.grownBy w' row) (hne:∀ k,row=some k→p.map (·.block)≠some k):SlP w' p n cap l:=
 h.of_cells fun a v ha hv=>hg.cell hv (fun e=>hne a.block e.symm ha)
theorem SlP.empty (w:World):SlP w none 0 0 []:=⟨rfl,Nat.le_refl _,by decide,fun _=>rfl,fun h=>absurd h (Nat.lt_irrefl _)⟩
theorem SlP.take {w:World} {p:Option Addr} {n cap:Nat} {l:List UInt8} (h:SlP w p n cap l) (k:Nat) (hk:k≤n):SlP w p k cap (l.take k):=
 ⟨by rw [List.length_take,h.len];omega,by have:=h.le;omega,h.max,h.nil,fun hl=>by
  obtain ⟨b,o,hp,hh⟩:=h.cells (by omega)
  refine ⟨b,o,hp,fun i x hx=>hh i x ?_⟩
  rw [List.getElem?_take] at hx
  split at hx
  ·exact hx
  ·cases hx⟩
def tailP (p:Option Addr) (cap k:Nat):Option Addr:=if cap=k then p else p.map (·.add k)
theorem SlP.drop {w:World} {p:Option Addr} {n cap:Nat} {l:List UInt8} (h:SlP w p n cap l) (k:Nat) (hk:k≤n):SlP w (tailP p cap k) (n-k) (cap-k) (l.drop k):=
 ⟨by rw [List.length_drop,h.len],by have:=h.le;omega,by have:=h.max;omega,fun hp=>by
  unfold tailP at hp
  split at hp
  ·omega
  ·cases p with
   | none=>have:=h.nil rfl;omega
   | some a=>simp at hp,fun hl=>by
  obtain ⟨b,o,hp,hh⟩:=h.cells (by omega)
  refine ⟨b,o+k,?_,fun i x hx=>?_⟩
  ·have:=h.le
   unfold tailP
   rw [if_neg (by omega),hp]
   simp [Addr.add]
  ·rw [List.getElem?_drop] at hx
   rw [Nat.add_assoc]
   exact hh (k+i) x hx⟩
theorem SlP.at {w:World} {p:Option Addr} {n cap:Nat} {l:List UInt8} (h:SlP w p n cap l) (k:Nat) (hk:k<n):∃ b o x,p=some ⟨b,o,none⟩∧l[k]?=some x∧w.cell? ⟨b,o+k,none⟩=some (.int .u8 (x.toNat:Int)):=by
 obtain ⟨b,o,hp,hh⟩:=h.cells (by omega)
 have hkl:k<l.length:=by rw [h.len];exact hk
 exact ⟨b,o,l[k],hp,by simp,hh k _ (by simp)⟩
theorem OwP.len {w:World} {base:Nat} {p:Option Addr} {n cap:Nat} {l:List UInt8} (h:OwP w base p n cap l):l.length=n:=h.1
theorem OwP.sl {w:World} {base:Nat} {p:Option Addr} {n cap:Nat} {l:List UInt8} (h:OwP w base p n cap l):SlP w p n cap l:=by
 obtain ⟨hl,h1,h2⟩:=h
 rcases h2 with ⟨hv,hn⟩ | ⟨g,c,cur,hv,hg,hh,hn,hm,hs,ht⟩
 ·cases hv
  exact ⟨hl,Nat.le_refl _,by decide,fun _=>rfl,fun h=>absurd h (by omega)⟩
 ·cases hv
  refine ⟨hl,hn,by unfold maxLen at hm;omega,(fun h=>by cases h),fun _=>⟨g,0,rfl,fun i x hx=>?_⟩⟩
  have:=World.ownsRow.cells (w:=w) (base:=base) (e:=5) (size:=1) (v:=.slice (some ⟨g,0,none⟩) n cap) (n:=n) (xs:=l.map bv) ⟨h1,Or.inr ⟨g,cap,cur,rfl,hg,hh,hn,hm,hs,ht⟩⟩ (g:=g) rfl i (bv x) (by rw [List.getElem?_map,hx];rfl)
  rw [Addr.add_lit] at this
  simpa using this
theorem OwP.lt {w:World} {base:Nat} {p:Option Addr} {n cap:Nat} {l:List UInt8} (h:OwP w base p n cap l):∀ k,p.map (·.block)=some k→base≤k∧k<w.heap.size:=by
 intro k hk
 cases p with
 | none=>simp at hk
 | some a=>exact World.ownsRow.lt h.2 k (by simpa [Value.ownBlock] using hk)
theorem ownBlock_slice (p:Option Addr) (n cap:Nat):(Value.slice p n cap).ownBlock=p.map (·.block):=by cases p <;> rfl
theorem OwP.nil (w:World) (base:Nat):OwP w base none 0 0 []:=⟨rfl,World.ownsRow_nil _ _ _ _⟩
theorem OwP.kept {w w':World} {base:Nat} {p:Option Addr} {n cap:Nat} {l:List UInt8} {row:Option Nat} (h:OwP w base p n cap l) (hg:w.grownBy w' row) (hne:∀ k,row=some k→p.map (·.block)≠some k):OwP w' base p n cap l:=
 ⟨h.1,h.2.kept hg (by
  rw [ownBlock_slice]
  cases row with
  | none=>cases p <;> simp
  | some k=>exact Or.inr (hne k rfl))⟩
theorem OwP.alloc {w:World} {base:Nat} {p:Option Addr} {n cap:Nat} {l:List UInt8} (h:OwP w base p n cap l) (o:Obj):OwP (w.alloc o) base p n cap l:=⟨h.1,h.2.alloc o⟩
theorem OwP.ext {w w':World} {base:Nat} {p:Option Addr} {n cap:Nat} {l:List UInt8} (h:OwP w base p n cap l) (he:Ext w w'):OwP w' base p n cap l:=
 h.kept (row:=none) ⟨he.os,he.tape,he.output,he.size,fun k hk _=>he.block k hk⟩ (fun k hk=>by cases hk)
theorem OwP.mono {w:World} {base base':Nat} {p:Option Addr} {n cap:Nat} {l:List UInt8} (h:OwP w base p n cap l) (hb:base'≤base):OwP w base' p n cap l:=by
 refine ⟨h.1,h.2.1,?_⟩
 rcases h.2.2 with hn | ⟨g,c,cur,hv,hg,r⟩
 ·exact .inl hn
 ·exact .inr ⟨g,c,cur,hv,by omega,r⟩
theorem OwP.made (w:World) (base:Nat) (n:Nat) (cur:Array Value) (l:List UInt8) (hb:base≤w.heap.size) (hl:l.length=n) (hcur:cur.toList=l.map bv) (hn:n≤140737488355328) :
  OwP (w.alloc (.cells cur 5)) base (some ⟨w.heap.size,0,none⟩) n n l:=by
 have hs:cur.size=n:=by rw [← Array.length_toList,hcur];simp [hl]
 refine ⟨hl,by simp [hl],.inr ⟨w.heap.size,n,cur,rfl,hb,heap_alloc_new w _,Nat.le_refl _,by unfold maxLen;omega,by omega,?_⟩⟩
 rw [Nat.mul_one,← hs,← Array.length_toList,List.take_length,hcur]
theorem SlP.lit (w:World) (n:Nat) (cur:Array Value) (mark:Nat × Nat) (l:List UInt8) (hl:l.length=n) (hcur:cur.toList=l.map bv) (hn:n≤140737488355328) :
  SlP (w.alloc (.cells cur 5 mark)) (some ⟨w.heap.size,0,none⟩) n n l:=
 ⟨hl,Nat.le_refl _,by omega,(fun h=>by cases h),fun _=>⟨w.heap.size,0,rfl,fun i x hx=>by
  rw [World.cell?_alloc_mark,Nat.zero_add,← Array.getElem?_toList,hcur,List.getElem?_map,hx]
  rfl⟩⟩
theorem OwP.store {w:World} {base:Nat} {p:Option Addr} {n cap:Nat} {l:List UInt8} (h:OwP w base p n cap l) (j:Nat) (hj:j<n) :
  ∃ g x,p=some ⟨g,0,none⟩∧base≤g∧l[j]?=some x∧w.cell? ⟨g,j,none⟩=some (.int .u8 (x.toNat:Int))∧w.frozen? ⟨g,j,none⟩=false ∧
   ∀ u:UInt8,OwP (w.setCell ⟨g,j,none⟩ (.int .u8 (u.toNat:Int))) base p n cap (l.set j u)∧w.grownBy (w.setCell ⟨g,j,none⟩ (.int .u8 (u.toNat:Int))) (some g):=by
 obtain ⟨b,o,x,hp,hx,hc⟩:=h.sl.at j hj
 obtain ⟨hl,h1,h2⟩:=h
 rcases h2 with ⟨hv,hn⟩ | ⟨g,c,cur,hv,hg,r⟩
 ·omega
 ·cases hv
  cases hp
  have hO:w.ownsRow base 5 1 (.slice (some ⟨b,0,none⟩) n cap) n (l.map bv):=⟨h1,.inr ⟨b,cap,cur,rfl,hg,r⟩⟩
  refine ⟨b,x,rfl,hg,hx,by simpa using hc,hO.frozenAt j,fun u=>?_⟩
  have:=hO.stored j (bv u)
  rw [← List.map_set] at this
  exact ⟨⟨by simpa using hl,this.1⟩,this.2⟩
theorem Ext.own {w0 w w':World} {p:Option Addr} {n cap:Nat} {l:List UInt8} {row:Option Nat} (h:Ext w0 w) (ho:OwP w w0.heap.size p n cap l) (hg:w.grownBy w' row) (hr:row=p.map (·.block)):Ext w0 w':=
 Below.grown h hg h.size (fun k hk=>(ho.lt k (by rw [← hr];exact hk)).1)
section
variable {P:Program}
theorem run_cut_to (t e:TypeId) (ht:P.underlying t=some (.slice e)) (hs:∀ w,(sizeOf e).run P w=.ok 1 w) (p:Option Addr) (n cap:Nat) (k:Nat) (hk:k≤cap) (w:World) :
  (Instr.slice t (.slice p n cap) none (some (.int .i64 (k:Int))) none).run P w=.ok (.slice p k cap) w:=by
 have he:P.elem t=e:=by simp [Program.elem,ht]
 have h:=run_slice_h (P:=P) w t p n cap (by rw [he];exact ht) .i64 (k:Int) (by omega) (by omega)
 rw [h,he,hs]
 simp only [Result.andThen_ok,sliced,Int.toNat_natCast,Nat.sub_zero,Nat.zero_mul]
 congr 2
 split
 ·rfl
 ·cases p <;> simp [Addr.add]
theorem run_cut_from (t e:TypeId) (ht:P.underlying t=some (.slice e)) (hs:∀ w,(sizeOf e).run P w=.ok 1 w) (p:Option Addr) (n cap:Nat) (k:Nat) (hk:k≤n) (w:World) :
  (Instr.slice t (.slice p n cap) (some (.int .i64 (k:Int))) none none).run P w=.ok (.slice (tailP p cap k) (n-k) (cap-k)) w:=by
 have he:P.elem t=e:=by simp [Program.elem,ht]
 have h:=run_slice_l (P:=P) w t p n cap (by rw [he];exact ht) .i64 (k:Int) (by omega) (by omega)
 rw [h,he,hs]
 simp only [Result.andThen_ok,sliced,Int.toNat_natCast,Nat.mul_one,tailP]
theorem run_str (t e d:TypeId) (ht:P.underlying t=some (.slice e)) (he:P.underlying e=some (.int .u8)) (hd:P.underlying d=some .string) {w:World} {p:Option Addr} {n cap:Nat} {l:List UInt8} (h:SlP w p n cap l) :
  (convert t d (.slice p n cap)).run P w=.ok (.string ⟨l.toArray⟩) w:=by
 rcases Nat.eq_zero_or_pos n with hn | hn
 ·subst hn
  have hl:l=[]:=List.eq_nil_of_length_eq_zero h.len
  subst hl
  rw [run_convert_bytes_string w t d e _ 0 cap ht he hd]
  cases p <;> simp [Conv.bytesToString,loadCells] <;> rfl
 ·obtain ⟨b,o,hp,hh⟩:=h.cells hn
  subst hp
  have hlen:=h.len
  have:=run_convert_bytes_arg (P:=P) w t e ht he b o n cap (l.map fun x=>(x.toNat:Int)) (by simpa using hlen) (fun i hi=>by
   have hil:i<l.length:=by omega
   rw [hh i l[i] (by simp)]
   simp [bv,List.getD,hil]) d hd
  rw [this]
  simp [strOfNums,Function.comp_def]
theorem run_min (a b c:Nat) (h:c=min a b) (ts:Array TypeId) (t:TypeId) (w:World):(Builtin.min_ ts t #[.int .i64 (a:Int),.int .i64 (b:Int)]).run P w=.ok (.int .i64 (c:Int)) w:=by
 rw [run_min_int2]
 congr 2
 split <;> omega
theorem wpList_app {w:World} {ops:Array Oper} {rest:List Oper} {o:Oper} {a:Act} {Q:Exit→Act→World→Prop} (hgd:o.guard=none) (s x:Operand) (t:TypeId)
  (ho:o.op=.call { callee:=.builtin .append,args:=#[s,x],argTypes:=#[t,t] })
  (base:Nat) (ht:P.underlying t=some (.slice 5)) (hi:(P.info? 5).map (fun i=>(i.zero,i.size,i.bytes))=some (some (.int .u8 0),1,1))
  (p:Option Addr) (n cap:Nat) (l:List UInt8) (hs:a.eval s=.slice p n cap) (hown:OwP w base p n cap l)
  (q:Option Addr) (m c:Nat) (k:List UInt8) (hx:a.eval x=.slice q m c) (hsl:SlP w q m c k)
  (hbytes:n+m≤140737488355328) (hbase:base≤w.heap.size)
  (h:∀ p' cap' w',OwP w' base p' (n+m) cap' (l++k)→w.grownBy w' (p.map (·.block))→wpList P ops Q rest (a.put o.dst (.slice p' (n+m) cap')) w'):wpList P ops Q (o::rest) a w:=by
 obtain ⟨i0,hi,hz0,hz1,hz2⟩:=info_parts hi
 have shape:∀ (v':Value) (w':World),w'.ownsRow base 5 1 v' (n+m) (l.map bv++k.map bv)→∃ p' cap',v'=.slice p' (n+m) cap'∧OwP w' base p' (n+m) cap' (l++k):=by
  intro v' w' ho'
  have hlen:(l++k).length=n+m:=by rw [List.length_append,hown.1,hsl.len]
  have ho2:=ho'
  rcases ho'.2 with ⟨hv,hn⟩ | ⟨g,c',cur,hv,r⟩
  ·subst hv
   exact ⟨none,0,by rw [hn],hlen,by rw [hn] at *;rw [List.map_append];exact ho2⟩
  ·subst hv
   exact ⟨_,_,rfl,hlen,by rw [List.map_append];exact ho2⟩
 cases q with
 | none=>
  have hc0:=hsl.nil rfl
  have hle:=hsl.le
  have hm:m=0:=by omega
  subst hc0
  subst hm
  have hk:k=[]:=List.eq_nil_of_length_eq_zero hsl.len
  subst hk
  refine wpList_plain hgd fun K hK'=>?_
  have hrun:=run_append_owned_none (P:=P) w base t o.type 5 i0 1 ht hi _ n (l.map bv) hown.2
  unfold Oper.wp
  simp [execOp,ho,resolve,invoke,builtin,hs,hx,hrun,Result.andThen]
  exact hK' _ _ (by simpa using h p cap w (by simpa using hown) (World.grownBy.refl _ _))
 | some ad=>
  refine wpList_append_own w hgd s x t ho base 5 i0 (.int .u8 0) 1 1 ht hi hz0 hz1 hz2 rfl (by decide) _ n (l.map bv) hs hown.2 ad m c (k.map bv) hx (by simp [hsl.len]) ?_ ?_ (by unfold maxLen;omega) (by omega) hbase ?_
  ·intro j u hj
   rw [List.getElem?_map] at hj
   obtain ⟨y,hy,rfl⟩:=Option.map_eq_some_iff.1 hj
   have hjk:j<k.length:=(List.getElem?_eq_some_iff.1 hy).1
   obtain ⟨b,o',hp,hh⟩:=hsl.cells (by have:=hsl.len;omega)
   cases hp
   rw [Addr.add_lit]
   exact hh j y hy
  ·intro u hu
   obtain ⟨y,_,rfl⟩:=List.mem_map.1 hu
   rfl
  ·intro v' w' ho' hg _
   obtain ⟨p',cap',rfl,hO⟩:=shape v' w' ho'
   rw [ownBlock_slice] at hg
   exact h p' cap' w' hO hg
end
end
section
def stp (x:Nat):Nat:=if x % 2=1 then x / 2 ^^^ 3988292384 else x / 2
def stps:Nat→Nat→Nat
 | 0,x=>x
 | n+1,x=>stp (stps n x)
def upd (x:Nat) (c:UInt8):Nat:=stps 8 (x ^^^ c.toNat)
def crcF (x:Nat) (l:List UInt8):Nat:=l.foldl upd x
def crc (l:List UInt8):Nat:=4294967295 ^^^ crcF 4294967295 l
def b4 (x:Nat):List UInt8:=[UInt8.ofNat (x / 16777216),UInt8.ofNat (x / 65536),UInt8.ofNat (x / 256),UInt8.ofNat x]
def sealL (l:List UInt8):List UInt8:=l++b4 (crc l)
def opens (l:List UInt8):Bool:=decide (4≤l.length)&&(b4 (crc (l.take (l.length-4)))==l.drop (l.length-4))
def openL (l:List UInt8):List UInt8:=if opens l then l.take (l.length-4) else []
theorem xor_lt32 {a b:Nat} (h:a<4294967296) (k:b<4294967296):a ^^^ b<4294967296:=Nat.xor_lt_two_pow (n:=32) h k
theorem stp_lt {x:Nat} (h:x<4294967296):stp x<4294967296:=by
 unfold stp
 split
 ·exact xor_lt32 (by omega) (by omega)
 ·omega
theorem stps_lt (n:Nat) {x:Nat} (h:x<4294967296):stps n x<4294967296:=by
 induction n with
 | zero=>exact h
 | succ n ih=>exact stp_lt ih
theorem byte_lt (c:UInt8):c.toNat<4294967296:=by have:=c.toNat_lt;omega
theorem upd_lt {x:Nat} (c:UInt8) (h:x<4294967296):upd x c<4294967296:=stps_lt 8 (xor_lt32 h (byte_lt c))
theorem crcF_lt (l:List UInt8):∀ {x:Nat},x<4294967296→crcF x l<4294967296:=by
 induction l with
 | nil=>intro x h;exact h
 | cons c l ih=>intro x h;exact ih (upd_lt c h)
theorem crc_lt (l:List UInt8):crc l<4294967296:=xor_lt32 (by omega) (crcF_lt l (by omega))
theorem crcF_snoc (x:Nat) (l:List UInt8) (c:UInt8):crcF x (l++[c])=upd (crcF x l) c:=by simp [crcF,List.foldl_append]
theorem crcF_take (l:List UInt8) (x k:Nat) (c:UInt8) (hc:l[k]?=some c):crcF x (l.take (k+1))=upd (crcF x (l.take k)) c:=by
 rw [List.take_add_one,hc]
 exact crcF_snoc _ _ _
def word:List UInt8→Nat
 | []=>0
 | c::r=>c.toNat ^^^ (word r * 256)
theorem b4_length (x:Nat):(b4 x).length=4:=rfl
theorem sealL_length (l:List UInt8):(sealL l).length=l.length+4:=by simp [sealL,b4_length]
theorem opens_seal (l:List UInt8):opens (sealL l)=true:=by
 have e:(sealL l).length-4=l.length:=by rw [sealL_length];omega
 unfold opens
 rw [e,sealL_length]
 simp [sealL]
theorem openL_seal (l:List UInt8):openL (sealL l)=l:=by
 have e:(sealL l).length-4=l.length:=by rw [sealL_length];omega
 unfold openL
 rw [opens_seal,if_pos rfl,e]
 simp [sealL]
end
section
open Go.RowKit
theorem sz5:∀ w,(sizeOf 5).run Tryz.prog w=.ok 1 w:=fun w=>by kernel_rfl
theorem info5:(Tryz.prog.info? 5).map (fun i=>(i.zero,i.size,i.bytes))=some (some (.int .u8 0),1,1):=by kernel_rfl
theorem cut_to (p:Option Addr) (n cap k:Nat) (hk:k≤cap) (w:World):(Instr.slice 72 (.slice p n cap) none (some (.int .i64 (k:Int))) none).run Tryz.prog w=.ok (.slice p k cap) w:=
 run_cut_to 72 5 Tryz.underlying72 sz5 p n cap k hk w
theorem cut_from (p:Option Addr) (n cap k:Nat) (hk:k≤n) (w:World):(Instr.slice 72 (.slice p n cap) (some (.int .i64 (k:Int))) none none).run Tryz.prog w=.ok (.slice (tailP p cap k) (n-k) (cap-k)) w:=
 run_cut_from 72 5 Tryz.underlying72 sz5 p n cap k hk w
theorem str_of {w:World} {p:Option Addr} {n cap:Nat} {l:List UInt8} (h:SlP w p n cap l):(convert 72 9 (.slice p n cap)).run Tryz.prog w=.ok (.string ⟨l.toArray⟩) w:=
 run_str 72 5 9 Tryz.underlying72 Tryz.underlying5 Tryz.underlying9 h
theorem neg_bit (z:Nat):-((z % 2:Nat):Int) % 4294967296=(((if z % 2=1 then 4294967295 else 0:Nat)):Int):=by
 rcases Nat.mod_two_eq_zero_or_one z with h | h <;> rw [h] <;> decide
theorem stp_bits (z:Nat) (hz:z<4294967296):bits .xor .u32 ((z:Int) / 2) (bits .and .u32 3988292384 (-bits .and .u32 (z:Int) 1 % 4294967296))=((stp z:Nat):Int):=by
 have e1:bits .and .u32 (z:Int) 1=((z % 2:Nat):Int):=by
  have:=u32_and_nat z 1 hz (by omega)
  rw [Nat.and_one_is_mod] at this
  simpa using this
 rw [e1,neg_bit]
 have e2:(z:Int) / 2=((z / 2:Nat):Int):=by omega
 rw [e2]
 unfold stp
 rcases Nat.mod_two_eq_zero_or_one z with h | h
 ·rw [if_neg (by omega),if_neg (by omega)]
  have e3:=u32_and_nat 3988292384 0 (by omega) (by omega)
  have e4:=u32_xor_nat (z / 2) 0 (by omega) (by omega)
  simp at e3 e4 ⊢
  rw [e3,e4]
 ·rw [if_pos h,if_pos h]
  have e3:=u32_and_nat 3988292384 4294967295 (by omega) (by omega)
  have e4:=u32_xor_nat (z / 2) 3988292384 (by omega) (by omega)
  have e5:3988292384 &&& 4294967295=3988292384:=by decide
  rw [e5] at e3
  simp at e3 e4 ⊢
  rw [e3,e4]
theorem xor_bits (y:Nat) (c:UInt8) (hy:y<4294967296):bits .xor .u32 (y:Int) (c.toNat:Int)=((y ^^^ c.toNat:Nat):Int):=u32_xor_nat y c.toNat hy (byte_lt c)
theorem not_bits (y:Nat) (hy:y<4294967296):bits .xor .u32 4294967295 (y:Int)=((4294967295 ^^^ y:Nat):Int):=u32_xor_nat 4294967295 y (by omega) hy
theorem int_eq {k:IntKind} {a b:Int} (h:a=b):Value.int k a=Value.int k b:=by rw [h]
theorem ret_int {k:IntKind} {a b:Int} (h:a=b):Ending.returned (.int k a)=.returned (.int k b):=by rw [h]
theorem sum_any {p:Option Addr} {n cap:Nat} {l:List UInt8} {w:World} (h:SlP w p n cap l) (hn:n≤70368744177664) :
  Calls Tryz.prog 90 #[.slice p n cap] w fun e w'=>e=.returned (.int .u32 (crc l:Int))∧w=w':=by
 have hsg:IntKind.u32.signed=false:=rfl
 have hmx:IntKind.u32.max=4294967295:=rfl
 have H:=hI h
 clear h
 go_enter Tryz.func90,Tryz.ntmps90
 go_wp2
 go_loop [3,5,8] (fun x _ i=>∃ k:Nat,∃ y:Nat,y<4294967296∧k≤n∧y=crcF 4294967295 (l.take k)∧i=.int .i64 k∧x=.int .u32 (y:Int)) (fun _ _ i=>n-(intOf i).toNat)
 case atStart=>exact ⟨0,4294967295,by omega,by omega,rfl,rfl,rfl⟩
 case round=>
  obtain ⟨k,y,hy,hk,hyk,rfl,rfl⟩:=hrel
  have HY:=hI hyk
  clear hyk
  by_cases hlt:k<n
  ·obtain ⟨b,off,c,rfl,hc,hcell⟩:=H.o.at k hlt
   have hb2:=c.toNat_lt
   have HC:=hI hc
   have HX:=hI (xor_bits y c hy)
   clear hc
   go_wp2
   go_loop [3,16] (fun x i=>∃ j:Nat,∃ z:Nat,z<4294967296∧j≤8∧z=stps j (y ^^^ c.toNat)∧i=.int .i64 j∧x=.int .u32 (z:Int)) (fun _ i=>8-(intOf i).toNat)
   case atStart=>exact ⟨0,y ^^^ c.toNat,xor_lt32 hy (byte_lt c),by omega,rfl,rfl,int_eq HX.o⟩
   case round=>
    obtain ⟨j,z,hz,hj,hzj,rfl,rfl⟩:=hrel
    have HZ:=hI hzj
    clear hzj
    by_cases hlt:j<8
    ·go_wp2
     go_round
     case rel=>exact ⟨j+1,stp z,stp_lt hz,by omega,by rw [HZ.o];rfl,by go_num,int_eq (stp_bits z hz)⟩
     case measure=>simp [intOf];omega
    ·go_wp2
     go_round
     case rel=>exact ⟨k+1,z,hz,by omega,(by have e:j=8:=(by omega);rw [crcF_take l _ k c HC.o,← HY.o,HZ.o,e];rfl),by go_num,rfl⟩
     case measure=>simp [intOf];omega
  ·go_wp2
   go_ret
   refine ⟨ret_int ?_,rfl⟩
   rw [not_bits y hy]
   unfold crc
   rw [HY.o,List.take_of_length_le (by rw [H.o.len];omega)]
end
section
open Go Go.Sort Go.RowKit
def tame (o:Oper):Bool:=
 match o.op with
 | .move _=>true
 | .assign _=>true
 | .pick _ _ _=>true
 | .load _ _=>true
 | .binOp _ _ _ _ _=>true
 | .unOp _ _ _=>true
 | .convert _ _ _=>true
 | .slice _ _ _ _ _=>true
 | .fieldAddr _ _ _=>true
 | .field _ _ _=>true
 | .indexAddr _ _ _=>true
 | .index _ _ _=>true
 | .extract _ _=>true
 | .call c=>match c.callee with
  | .builtin .len=>true
  | .builtin .min=>true
  | .builtin .max=>true
  | _=>false
 | _=>false
def Cls (w:World):World→Prop:=fun w'=>∃ p:Regrown,w'=grow (redrawn w p.d) p.os
theorem cls_of_ext {w w':World} (h:Ext w w'):Cls w w':=regrown_of_below h
theorem Cls.ext {w w':World} (h:Cls w w'):Ext w w':=by obtain ⟨p,rfl⟩:=h;exact below_regrown w p.d p.os
theorem Ext.reg (w:World) (d:Nat) (os:Array Obj):Ext w (grow (redrawn w d) os):=below_regrown w d os
section
variable {P:Program} {ops:Array Oper} {md:Region.Mode}
theorem run_value (s:Sem Value) (w:World):(∃ v w',(do pure (Next.value (← s)):Sem Next).run P w=.ok (.value v) w')∨∃ h w',(do pure (Next.value (← s)):Sem Next).run P w=.halt h w':=by
 rw [Sem.run_bind]
 cases s.run P w with
 | ok v w'=>exact .inl ⟨v,w',rfl⟩
 | halt h w'=>exact .inr ⟨h,w',rfl⟩
theorem tame_run {o:Oper} (ht:tame o=true) (ρ:Operand→Value) (w:World):(∃ v w',(execOp ρ o).run P w=.ok (.value v) w')∨∃ h w',(execOp ρ o).run P w=.halt h w':=by
 unfold tame at ht
 unfold execOp
 cases hop:o.op <;> rw [hop] at ht <;> simp only [Bool.false_eq_true] at ht <;> simp only []
 all_goals first
  | exact .inl ⟨_,_,rfl⟩
  | exact run_value _ _
  | skip
 case pick c a b=>
  rw [Sem.run_bind]
  cases (asBool (ρ c)).run P w with
  | ok v w'=>exact .inl ⟨_,_,rfl⟩
  | halt h w'=>exact .inr ⟨_,_,rfl⟩
 case call c=>
  rcases c with ⟨callee,args,argTypes⟩
  cases callee with
  | value f=>simp at ht
  | invoke r m=>simp at ht
  | builtin b=>
   cases b <;> simp at ht
   all_goals exact run_value _ _
theorem tame_yields {o:Oper} (ht:tame o=true) {a:Act} {C:World→Prop} {w:World} {v:Value} (h:o.quietAt P a C w v):(execOp a.eval o).run P w=.ok (.value v) w:=by
 unfold Oper.quietAt at h
 rcases tame_run (P:=P) ht a.eval w with ⟨u,w',e⟩ | ⟨x,w',e⟩
 ·rw [e] at h
  obtain ⟨rfl,rfl⟩:=h
  exact e
 ·rw [e] at h
  exact h.elim
def sched (md:Region.Mode) (ops:Array Oper):List Nat→Array Bool→Bool
 | [],listed=>(Region.ready md ops listed).isEmpty
 | i::r,listed=>
  (match ops[i]? with
  | none=>false
  | some o=>if tame o then (Region.ready md ops listed).contains i&&Region.free md ops listed i else Region.ready md ops listed==[i])&&sched md ops r (listed.setIfInBounds i true)
def RW (P:Program) (ol:List Oper) (Q:Exit→Act→World→Prop):List Nat→Act→World→Prop
 | [],a,w=>Q .normal a w
 | i::r,a,w=>∃ o,ol[i]?=some o ∧
  if Region.wanted o (yielded ol.toArray a.tmps) then
   if tame o then o.quiet P a (fun w'=>∃ p:Regrown,w'=grow (redrawn w p.d) p.os) (fun a'=>RW P ol Q r a' w)
   else o.wp P a w (fun a' w'=>Ext w w'∧RW P ol Q r a' w') Q
  else RW P ol Q r (a.put o.dst undef) w
theorem RW.held {ol:List Oper} {Q:Exit→Act→World→Prop} (hs:Region.noSelect ol.toArray=true) (hQ:∀ c (a:Act) d v w,Q (.panic c) (a.put d v) w→Q (.panic c) a w) :
  ∀ (l:List Nat) (listed:Array Bool) (a:Act) (w:World),sched md ol.toArray l listed=true→RW P ol Q l a w→wpAnyH P md ol.toArray Q (fun w'=>Ext w w') l.length listed a w
 | [],listed,a,w,hB,h=>wpAnyH_done (by simpa [sched] using hB) h _
 | i::r,listed,a,w,hB,h=>by
  obtain ⟨o,ho',h⟩:=h
  have ho:ol.toArray[i]?=some o:=by simpa using ho'
  simp only [sched,ho,Bool.and_eq_true] at hB
  obtain ⟨hB1,hB2⟩:=hB
  have stronger:∀ (fuel:Nat) (listed:Array Bool) (a':Act) (w' w'':World),Ext w w'→wpAnyH P md ol.toArray Q (fun x=>Ext w' x) fuel listed a' w''→wpAnyH P md ol.toArray Q (fun x=>Ext w x) fuel listed a' w'':=by
   intro fuel
   induction fuel with
   | zero=>intro listed a' w' w'' _ h;exact h
   | succ fuel ih=>
    intro listed a' w' w'' hx h
    exact ⟨h.1,fun i hi=>wpOp_mono (fun a1 w1 h1=>⟨hx.tr h1.1,ih _ a1 w' w1 hx h1.2⟩) (h.2 i hi)⟩
  by_cases ht:tame o=true
  ·rw [if_pos ht,Bool.and_eq_true] at hB1
   by_cases hw:Region.wanted o (yielded ol.toArray a.tmps)=true
   ·rw [if_pos hw,if_pos ht] at h
    obtain ⟨v,hv,hn⟩:=h
    exact wpAnyH_take ho hs hB1.2 hB1.1 (fun c a w=>hQ c a o.dst v w) (Or.inl ⟨hw,fun w' hx=>tame_yields ht (hv w' (cls_of_ext hx))⟩) (Ext.rfl' w) (RW.held hs hQ r _ _ w hB2 hn)
   ·rw [if_neg hw] at h
    exact wpAnyH_take ho hs hB1.2 hB1.1 (fun c a w=>hQ c a o.dst undef w) (Or.inr ⟨by simpa using hw,rfl⟩) (Ext.rfl' w) (RW.held hs hQ r _ _ w hB2 h)
  ·rw [if_neg ht] at hB1
   have hr:Region.ready md ol.toArray listed=[i]:=by simpa using hB1
   refine wpAnyH_all hr (by simp) (fun j hj=>?_)
   obtain rfl:j=i:=by simpa using hj
   unfold wpOp
   simp only [ho]
   by_cases hw:Region.wanted o (yielded ol.toArray a.tmps)=true
   ·rw [if_pos hw,if_neg ht] at h
    rw [if_pos hw]
    exact .inl (Oper.wp_mono (fun a' w' h1=>⟨h1.1,stronger _ _ _ w' _ h1.1 (RW.held hs hQ r _ _ w' hB2 h1.2)⟩) h)
   ·rw [if_neg hw] at h
    rw [if_neg hw]
    exact ⟨Ext.rfl' w,RW.held hs hQ r _ _ w hB2 h⟩
theorem rw_start {id:Nat} {Q:Exit→Act→World→Prop} {a:Act} {w:World} {l:List Oper} (sch:List Nat) (hm:P.follows .mixedOrders=true)
  (hB:(Region.noSelect l.toArray&&(sch.length==l.length)&&sched .any l.toArray sch (Array.replicate l.toArray.size false))=true) (hQ:∀ c (a:Act) d v w,Q (.panic c) (a.put d v) w→Q (.panic c) a w)
  (h:RW P l Q sch a w.drew):(Code.region id l.toArray true).wp P Q a w:=by
 simp only [Bool.and_eq_true,beq_iff_eq] at hB
 refine wp_region_held (S:=fun w'=>Ext w.drew w') hm ?_
 have:=RW.held (md:=.any) hB.1.1 hQ sch _ a w.drew hB.2 h
 rw [hB.1.2] at this
 simpa using this
theorem rw_nil {ol:List Oper} {Q:Exit→Act→World→Prop} {a:Act} {w:World} (h:Q .normal a w):RW P ol Q [] a w:=h
theorem rw_skip {ol:List Oper} {Q:Exit→Act→World→Prop} {i:Nat} {r:List Nat} {a:Act} {w:World} {dst:Option Tmp} {op:Op} {ty:TypeId} {pos:String} {aft:Array Edge} {gd:Option (Nat × Bool)} (ho:ol[i]?=some ⟨dst,op,ty,pos,aft,gd⟩) (hw:Region.wanted ⟨dst,op,ty,pos,aft,gd⟩ (yielded ol.toArray a.tmps)=false)
  (h:∀ K:Act→Prop,(∀ a',RW P ol Q r a' w→K a')→Oper.quiet P ⟨dst,.move (.const undef),ty,pos,aft,none⟩ a (fun _=>True) K):RW P ol Q (i::r) a w:=by
 refine ⟨_,ho,?_⟩
 rw [if_neg (by rw [hw];exact Bool.false_ne_true)]
 obtain ⟨v,hv,hk⟩:=h _ fun _ h=>h
 have h1:=hv w trivial
 unfold Oper.quietAt at h1
 rw [BigFrame.run_move (.const undef) rfl] at h1
 obtain ⟨h2,h3⟩:=h1
 have h3:v=undef:=by
  first
   | exact h3
   | exact h3.symm
   | exact h2
   | exact h2.symm
 subst h3
 exact hk
theorem rw_quiet {ol:List Oper} {Q:Exit→Act→World→Prop} {i:Nat} {r:List Nat} {a:Act} {w:World} {o:Oper} (ho:ol[i]?=some o) (ht:tame o=true) (hw:Region.wanted o (yielded ol.toArray a.tmps)=true)
  (h:∀ K:Act→Prop,(∀ a',RW P ol Q r a' w→K a')→o.quiet P a (fun w'=>∃ p:Regrown,w'=grow (redrawn w p.d) p.os) K):RW P ol Q (i::r) a w:=
 ⟨o,ho,by rw [if_pos hw,if_pos ht];exact h _ fun _ h=>h⟩
theorem rw_call {ol:List Oper} {Q:Exit→Act→World→Prop} {i:Nat} {r:List Nat} {a:Act} {w:World} {o:Oper} (ho:ol[i]?=some o) (ht:tame o=false) (hw:Region.wanted o (yielded ol.toArray a.tmps)=true)
  (h:∀ K:Act→World→Prop,(∀ a' w',Ext w w'→RW P ol Q r a' w'→K a' w')→o.wp P a w K Q):RW P ol Q (i::r) a w:=
 ⟨o,ho,by rw [if_pos hw,if_neg (by rw [ht];exact Bool.false_ne_true)];exact h _ fun _ _ h k=>⟨h,k⟩⟩
end
end
section
variable {P : Program} {ops : Array Oper} {md : Region.Mode}
open Go Go.Sort Go.RowKit
theorem wqq {ol : List Oper} {Q : Exit → Act → World → Prop} {i : Nat} {r : List Nat} {a : Act} {w : World} {o : Oper} (h : ∀ K : Act → Prop, (∀ a', RW P ol Q r a' w → K a') → o.quiet P a (fun w' => ∃ p : Regrown, w' = grow (redrawn w p.d) p.os) K) (ho : ol[i]? = some o:=by rfl) (ht : tame o = true:=by rfl) (hw : Region.wanted o (yielded ol.toArray a.tmps) = true:=by rfl):RW P ol Q (i :: r) a w:=rw_quiet ho ht hw h
theorem wkk {ol : List Oper} {Q : Exit → Act → World → Prop} {i : Nat} {r : List Nat} {a : Act} {w : World} {dst : Option Tmp} {op : Op} {ty : TypeId} {pos : String} {aft : Array Edge} {gd : Option (Nat × Bool)} (h : ∀ K : Act → Prop, (∀ a', RW P ol Q r a' w → K a') → Oper.quiet P ⟨dst, .move (.const undef), ty, pos, aft, none⟩ a (fun _ => True) K) (ho : ol[i]? = some ⟨dst, op, ty, pos, aft, gd⟩:=by rfl) (hw : Region.wanted ⟨dst, op, ty, pos, aft, gd⟩ (yielded ol.toArray a.tmps) = false:=by rfl):RW P ol Q (i :: r) a w:=rw_skip ho hw h
theorem wcc {ol : List Oper} {Q : Exit → Act → World → Prop} {i : Nat} {r : List Nat} {a : Act} {w : World} {o : Oper} (h : ∀ K : Act → World → Prop, (∀ a' w', Ext w w' → RW P ol Q r a' w' → K a' w') → o.wp P a w K Q) (ho : ol[i]? = some o:=by rfl) (ht : tame o = false:=by rfl) (hw : Region.wanted o (yielded ol.toArray a.tmps) = true:=by rfl):RW P ol Q (i :: r) a w:=rw_call ho ht hw h
theorem wtt {id : Nat} {Q : Exit → Act → World → Prop} {a : Act} {w : World} {l : List Oper} (sch : List Nat) (h : RW P l Q sch a w.drew) (hm : P.follows .mixedOrders = true:=by kernel_rfl) (hB : (Region.noSelect l.toArray && (sch.length == l.length) && sched .any l.toArray sch (Array.replicate l.toArray.size false)) = true:=by kernel_rfl) (hQ : ∀ c (a : Act) d v w, Q (.panic c) (a.put d v) w → Q (.panic c) a w:=by intro _ _ d _ _ h;cases d <;> exact h):(Code.region id l.toArray true).wp P Q a w:=rw_start sch hm hB hQ h
end
section
open Go Go.Sort Go.RowKit
theorem u8_ofNat (x:Nat):((UInt8.ofNat x).toNat:Int)=(x:Int) % 256:=by
 rw [UInt8.toNat_ofNat'];omega
theorem b4_cells (x:Nat) (hx:x<4294967296):[Value.int .u8 ((x:Int) / 16777216),.int .u8 ((x:Int) / 65536 % 256),.int .u8 ((x:Int) / 256 % 256),.int .u8 ((x:Int) % 256)]=(b4 x).map bv:=by
 simp only [b4,List.map_cons,List.map_nil,bv,u8_ofNat]
 simp only [List.cons.injEq,Value.int.injEq,true_and,and_true]
 omega
theorem four_any (x:Nat) (hx:x<4294967296) (w:World) :
  Calls Tryz.prog 89 #[.int .u32 (x:Int)] w fun e w'=>∃ p cap,e=.returned (.slice p 4 cap)∧OwP w' w.heap.size p 4 cap (b4 x)∧Ext w w':=by
 go_enter Tryz.func89,Tryz.ntmps89
 go_wp2
 go_ret
 refine ⟨_,_,rfl,OwP.made w _ 4 _ (b4 x) (Nat.le_refl _) rfl ?_ (by omega),Ext.alloc w _⟩
 exact b4_cells x hx
theorem clone_any {p:Option Addr} {n cap:Nat} {l:List UInt8} {w:World} (h:SlP w p n cap l) (hn:n≤70368744177664) :
  Calls Tryz.prog 69 #[.slice p n cap] w fun e w'=>∃ p' cap',e=.returned (.slice p' n cap')∧OwP w' w.heap.size p' n cap' l∧Ext w w':=by
 have q22:∀ (w:World) (a:Option Addr) (n c n' c':Nat),(binOp .eql 72 (.slice a n c) (.slice none n' c')).run Tryz.prog w=.ok (.bool a.isNone) w:=fun w a n c n' c'=>Lib.run_eql_slice_nil w _ _ a n c n' c' Tryz.underlying72
 cases p with
 | none=>
  have hc0:=h.nil rfl
  have hle:=h.le
  have hl:=h.len
  obtain rfl:cap=0:=hc0
  obtain rfl:n=0:=by omega
  obtain rfl:l=[]:=List.eq_nil_of_length_eq_zero hl
  clear h hl hle
  go_enter Tryz.func69,Tryz.ntmps69
  go_wp2
  go_ret
  exact ⟨_,_,rfl,OwP.nil _ _,Ext.rfl' _⟩
 | some a=>
  have H:=hI h
  clear h
  go_enter Tryz.func69,Tryz.ntmps69
  go_wp2_with (at_builtin;refine wpList_app rfl _ _ 72 rfl w.heap.size Tryz.underlying72 info5 (some ⟨w.heap.size,0,none⟩) 0 0 [] rfl ⟨rfl,World.ownsRow_made w #[] 0 (Nat.le_refl _) (Nat.zero_le _) rfl⟩ (some a) n cap l rfl (H.o.alloc _) (by omega) (by simp) ?_)
  intro p' cap' w1 hown hg
  have HO:=hI hown
  clear hown
  go_wp2
  go_ret
  exact ⟨_,_,rfl,HO.o,Below.grown (Ext.alloc w _) hg (by simp) (fun k hk=>by simp at hk;omega)⟩
theorem equal_any {p q:Option Addr} {n m c d:Nat} {l k:List UInt8} {w:World} (h1:SlP w p n c l) (h2:SlP w q m d k) :
  Calls Tryz.prog 74 #[.slice p n c,.slice q m d] w fun e w'=>e=.returned (.bool (l==k))∧w=w':=by
 have e1:=str_of h1
 have e2:=str_of h2
 clear h1 h2
 go_enter Tryz.func74,Tryz.ntmps74
 go_wp2
 go_ret
 exact ⟨rfl,rfl⟩
theorem seal_any {p:Option Addr} {n cap:Nat} {l:List UInt8} {w:World} (h:SlP w p n cap l) (hn:n≤35184372088832) :
  Calls Tryz.prog 96 #[.slice p n cap] w fun e w'=>∃ p' cap',e=.returned (.slice p' (n+4) cap')∧OwP w' w.heap.size p' (n+4) cap' (sealL l)∧Ext w w':=by
 have H:=hI h
 clear h
 go_enter Tryz.func96,Tryz.ntmps96
 go_wp2_with fail
 refine (clone_any H.o (by omega)).mono ?_
 rintro e w1 ⟨p1,c1,rfl,h1,x1⟩
 have H1:=hI h1
 have X1:=hI x1
 clear h1 x1
 go_wp2_with fail
 refine (sum_any (H.o.ext X1.o) (by omega)).mono ?_
 rintro e w2 ⟨rfl,rfl⟩
 go_wp2_with fail
 refine (four_any (crc l) (crc_lt l) _).mono ?_
 rintro e w2 ⟨p2,c2,rfl,h2,x2⟩
 have H2:=hI h2
 have X2:=hI x2
 clear h2 x2
 go_wp2_with (at_builtin;refine wpList_app rfl _ _ 72 rfl w.heap.size Tryz.underlying72 info5 p1 n c1 l rfl (H1.o.ext X2.o) p2 4 c2 (b4 (crc l)) rfl H2.o.sl (by omega) (by have:=X1.o.size;have:=X2.o.size;omega) ?_)
 intro p3 c3 w3 h3 g3
 have H3:=hI h3
 have G3:=hI g3
 clear h3 g3
 go_wp2
 go_ret
 refine ⟨_,_,rfl,H3.o,?_⟩
 exact Ext.own (X1.o.tr X2.o) (H1.o.ext X2.o) G3.o rfl
theorem open_no {l:List UInt8} {w w':World} (h:opens l=false) (hx:Ext w w'):∃ p' cap',Ending.returned (.tuple #[.slice none 0 0,.bool false])=.returned (.tuple #[.slice p' (openL l).length cap',.bool (opens l)])∧OwP w' w.heap.size p' (openL l).length cap' (openL l)∧Ext w w':=by
 have e:openL l=[]:=by unfold openL;rw [h];rfl
 rw [e,h]
 exact ⟨none,0,rfl,OwP.nil _ _,hx⟩
theorem open_any {p:Option Addr} {n cap:Nat} {l:List UInt8} {w:World} (h:SlP w p n cap l) (hn:n≤35184372088832) :
  Calls Tryz.prog 70 #[.slice p n cap] w fun e w'=>∃ p' cap',e=.returned (.tuple #[.slice p' (openL l).length cap',.bool (opens l)])∧OwP w' w.heap.size p' (openL l).length cap' (openL l)∧Ext w w':=by
 have H:=hI h
 have hle:=h.le
 have hmax:=h.max
 have hlen:=hI h.len
 clear h
 by_cases h4:n<4
 ·have ho:opens l=false:=by
   unfold opens
   rw [hlen.out,decide_eq_false (by omega)]
   rfl
  have hO:=hI ho
  clear ho
  have hlt:decide ((n:Int)-4<0)=true:=by simp;omega
  go_enter Tryz.func70,Tryz.ntmps70
  go_wp2_with fail
  go_quiet (fail)
  go_wp2
  go_ret2
  exact open_no hO.out (Ext.drewN w _)
 ·obtain ⟨m,rfl⟩:∃ m,n=m+4:=⟨n-4,by omega⟩
  have ht:=H.o.take m (by omega)
  have hd:=H.o.drop m (by omega)
  have e4:m+4-m=4:=by omega
  rw [e4] at hd
  clear e4
  have HT:=hI ht
  have HD:=hI hd
  clear ht hd
  have c1:=cut_to p (m+4) cap m (by omega)
  have c2:=cut_from p (m+4) cap m (by omega)
  have hneg:decide ((m:Int)<0)=false:=decide_eq_false (by omega)
  have ho:opens l=(b4 (crc (l.take m))==l.drop m):=by
   have h44:4≤m+4:=Nat.le_add_left _ _
   unfold opens
   rw [hlen.out,decide_eq_true h44,Nat.add_sub_cancel,Bool.true_and]
  have hO:=hI ho
  clear ho
  cases heq:(b4 (crc (l.take m))==l.drop m)
  ·rw [heq] at hO
   go_enter Tryz.func70,Tryz.ntmps70
   go_wp2_with fail
   go_region_held3 (fun w'=>Ext w w') (first | exact Ext.rfl' _ | exact Ext.drew _ | assumption | exact Ext.tr (by assumption) (by assumption))
    (first
     | (go_at_call 90;refine (sum_any (l:=l.take m) (by exact HT.o.ext (by assumption)) (by omega)).mono ?_;rintro e w' ⟨rfl,rfl⟩)
     | (go_at_call 89;refine (four_any (crc (l.take m)) (crc_lt _) _).mono ?_;rintro e w' ⟨p2,k2,rfl,h2,x2⟩;have HS:=hI h2.sl;clear h2)
     | (go_at_call 74;refine (equal_any (l:=b4 (crc (l.take m))) (k:=l.drop m) (by exact HS.o) (by exact HD.o.ext (by assumption))).mono ?_;rintro e w' ⟨rfl,rfl⟩))
   go_wp2
   go_ret2
   exact open_no hO.out (by assumption)
  ·rw [heq] at hO
   go_enter Tryz.func70,Tryz.ntmps70
   go_wp2_with fail
   go_region_held3 (fun w'=>Ext w w') (first | exact Ext.rfl' _ | exact Ext.drew _ | assumption | exact Ext.tr (by assumption) (by assumption))
    (first
     | (go_at_call 90;refine (sum_any (l:=l.take m) (by exact HT.o.ext (by assumption)) (by omega)).mono ?_;rintro e w' ⟨rfl,rfl⟩)
     | (go_at_call 89;refine (four_any (crc (l.take m)) (crc_lt _) _).mono ?_;rintro e w' ⟨p2,k2,rfl,h2,x2⟩;have HS:=hI h2.sl;clear h2)
     | (go_at_call 74;refine (equal_any (l:=b4 (crc (l.take m))) (k:=l.drop m) (by exact HS.o) (by exact HD.o.ext (by assumption))).mono ?_;rintro e w' ⟨rfl,rfl⟩))
   have HK:Hid (openL l=l.take m):=by
    show openL l=l.take m
    unfold openL
    rw [hO.out,if_pos rfl,hlen.out,Nat.add_sub_cancel]
   have hm:m≤l.length:=by have:=hlen.out;omega
   have HM:Hid (m=(openL l).length):=by
    show m=(openL l).length
    rw [HK.o,List.length_take];omega
   clear hm
   go_wp2_with fail
   refine (clone_any (HT.o.ext (by assumption)) (by omega)).mono ?_
   rintro e w3 ⟨p3,c3,rfl,h3,x3⟩
   have H3:=hI h3
   have X3:Hid (Ext w w3):=Ext.tr (by assumption) x3
   clear h3
   go_wp2
   go_ret2
   refine ⟨p3,c3,?_,?_,X3.o⟩
   ·rw [← HM.o,hO.out]
    rfl
   ·rw [← HM.o,HK.o]
    exact H3.o.mono (Below.size (by assumption))
end
section
def zig (x:Int):Nat:=if x<0 then (-(2 * x)-1).toNat else (2 * x).toNat
def unzig (u:Nat):Int:=if u % 2=1 then -((u / 2:Nat):Int)-1 else ((u / 2:Nat):Int)
theorem unzig_zig (x:Int):unzig (zig x)=x:=by
 unfold unzig zig
 split <;> split <;> omega
theorem zig_lt {x:Int} (h:-9223372036854775808≤x) (h2:x≤9223372036854775807):zig x<18446744073709551616:=by
 unfold zig
 split <;> omega
theorem unzig_in {u:Nat} (h:u<18446744073709551616):-9223372036854775808≤unzig u∧unzig u≤9223372036854775807:=by
 unfold unzig
 split <;> omega
def enc (u:Nat):List UInt8:=if h:u<128 then [UInt8.ofNat u] else UInt8.ofNat (u % 128+128)::enc (u / 128)
termination_by u
decreasing_by omega
theorem enc_last {u:Nat} (h:u<128):enc u=[UInt8.ofNat u]:=by rw [enc];simp [h]
theorem enc_more {u:Nat} (h:¬ u<128):enc u=UInt8.ofNat (u % 128+128)::enc (u / 128):=by rw [enc];simp [h]
theorem enc_pos (u:Nat):0<(enc u).length:=by
 by_cases h:u<128
 ·rw [enc_last h];simp
 ·rw [enc_more h];simp
theorem enc_len (k:Nat):∀ u,u<128 ^ (k+1)→(enc u).length≤k+1:=by
 induction k with
 | zero=>intro u h;rw [enc_last (by simpa using h)];simp
 | succ k ih=>
  intro u h
  by_cases h1:u<128
  ·rw [enc_last h1];simp
  ·rw [enc_more h1]
   have:=ih (u / 128) (by rw [Nat.div_lt_iff_lt_mul (by omega)];rw [Nat.pow_succ] at h;exact h)
   simp;omega
theorem enc_ten {u:Nat} (h:u<18446744073709551616):(enc u).length≤10:=enc_len 9 u (by omega)
def getF:Nat→Nat→List UInt8→Int × Nat × Int
 | _,_,[]=>(0,0,2)
 | i,u,c::r=>
  if i=9∧1<c.toNat then (0,0,1)
  else if 127<c.toNat then getF (i+1) (u+c.toNat % 128 * 128 ^ i) r
  else if 0<i∧c.toNat=0 then (0,0,1)
  else (unzig (u+c.toNat % 128 * 128 ^ i),i+1,0)
def getL (l:List UInt8):Int × Nat × Int:=getF 0 0 l
theorem pow_step (v i:Nat):v % 128 * 128 ^ i+v / 128 * 128 ^ (i+1)=v * 128 ^ i:=by
 have h:=Nat.mod_add_div v 128
 rw [Nat.pow_succ,show v / 128 * (128 ^ i * 128)=128 * (v / 128) * 128 ^ i by rw [Nat.mul_comm (128 ^ i) 128,← Nat.mul_assoc,Nat.mul_comm (v / 128) 128],← Nat.add_mul,h]
theorem nine {v i:Nat} (hi:i≤9) (hv:v * 128 ^ i<18446744073709551616) (h:¬ v<128):i<9:=by
 rcases Nat.lt_or_ge i 9 with h1 | h1
 ·exact h1
 ·obtain rfl:i=9:=by omega
  omega
theorem getF_enc (rest:List UInt8):∀ (n v i u:Nat),v≤n→i≤9→v * 128 ^ i<18446744073709551616→(0<i→v≠0)→getF i u (enc v++rest)=(unzig (u+v * 128 ^ i),i+(enc v).length,0):=by
 intro n
 induction n with
 | zero=>
  intro v i u hn hi hv h0
  obtain rfl:v=0:=by omega
  have:i=0:=by omega
  subst this
  rw [enc_last (by omega)]
  simp [getF]
 | succ n ih=>
  intro v i u hn hi hv h0
  by_cases h:v<128
  ·rw [enc_last h]
   have hc:(UInt8.ofNat v).toNat=v:=by rw [UInt8.toNat_ofNat'];omega
   have h9:¬ (i=9∧1<v):=by rintro ⟨rfl,h1⟩;omega
   have hz:¬ (0<i∧v=0):=fun ⟨h1,h2⟩=>h0 h1 h2
   simp only [List.cons_append,List.nil_append,getF,hc,if_neg h9,if_neg (show ¬ 127<v by omega),if_neg hz,List.length_cons,List.length_nil]
   rw [Nat.mod_eq_of_lt h]
  ·have hi9:=nine hi hv h
   rw [enc_more h]
   have hc:(UInt8.ofNat (v % 128+128)).toNat=v % 128+128:=by rw [UInt8.toNat_ofNat'];omega
   simp only [List.cons_append,getF,hc,if_neg (show ¬ (i=9∧1<v % 128+128) by omega),if_pos (show 127<v % 128+128 by omega),List.length_cons]
   have hs:=pow_step v i
   rw [ih (v / 128) (i+1) _ (by omega) (by omega) (by omega) (by omega),show (v % 128+128) % 128=v % 128 by omega,Nat.add_assoc,hs]
   congr 2
   omega
theorem getL_enc {v:Nat} (hv:v<18446744073709551616) (rest:List UInt8):getL (enc v++rest)=(unzig v,(enc v).length,0):=by
 have:=getF_enc rest v v 0 0 (Nat.le_refl _) (by omega) (by simpa using hv) (by omega)
 simpa [getL] using this
theorem getF_in (l:List UInt8):∀ i u,i≤9→u<128 ^ i→((getF i u l).2.2=0∧i<(getF i u l).2.1∧(getF i u l).2.1≤i+l.length∧(getF i u l).2.1≤10∧-9223372036854775808≤(getF i u l).1∧(getF i u l).1≤9223372036854775807)∨((getF i u l).1=0∧(getF i u l).2.1=0∧((getF i u l).2.2=1∨(getF i u l).2.2=2)):=by
 induction l with
 | nil=>intro i u hi hu;right;simp [getF]
 | cons c r ih=>
  intro i u hi hu
  have hc:=c.toNat_lt
  simp only [getF]
  split
  ·right;simp
  next h9=>
   split
   next h127=>
    have h2:u+c.toNat % 128 * 128 ^ i<128 ^ (i+1):=by
     rw [Nat.pow_succ]
     have:c.toNat % 128 * 128 ^ i≤127 * 128 ^ i:=Nat.mul_le_mul_right _ (by omega)
     omega
    rcases ih (i+1) _ (by omega) h2 with ⟨a,b,c1,d,e⟩ | h
    ·exact .inl ⟨a,by omega,by rw [List.length_cons];omega,d,e⟩
    ·exact .inr h
   ·split
    ·right;simp
    ·left
     refine ⟨rfl,Nat.lt_succ_self _,by simp,by simp;omega,?_⟩
     refine unzig_in ?_
     by_cases h8:i=9
     ·subst h8
      omega
     ·have h3:128 ^ (i+1)≤128 ^ 9:=Nat.pow_le_pow_right (by omega) (by omega)
      have h2:u+c.toNat % 128 * 128 ^ i<128 ^ (i+1):=by
       rw [Nat.pow_succ]
       have:c.toNat % 128 * 128 ^ i≤127 * 128 ^ i:=Nat.mul_le_mul_right _ (by omega)
       omega
      omega
theorem getL_in (l:List UInt8):((getL l).2.2=0∧0<(getL l).2.1∧(getL l).2.1≤l.length∧(getL l).2.1≤10∧-9223372036854775808≤(getL l).1∧(getL l).1≤9223372036854775807)∨((getL l).1=0∧(getL l).2.1=0∧((getL l).2.2=1∨(getL l).2.2=2)):=by
 have:=getF_in l 0 0 (by omega) (by omega)
 simpa [getL] using this
def txt (s:List UInt8):List UInt8:=enc (zig s.length)++s
def textL (l:List UInt8):List UInt8 × Nat × Int:=
 if (getL l).2.2≠0 then ([],0,(getL l).2.2)
 else if (getL l).1<0∨65536<(getL l).1 then ([],0,1)
 else if ((l.length-(getL l).2.1:Nat):Int)<(getL l).1 then ([],0,2)
 else ((l.drop (getL l).2.1).take (getL l).1.toNat,(getL l).2.1+(getL l).1.toNat,0)
theorem textL_txt {s:List UInt8} (hs:s.length≤65536) (rest:List UInt8):textL (txt s++rest)=(s,(txt s).length,0):=by
 have hz:zig s.length<18446744073709551616:=zig_lt (by omega) (by omega)
 have h:=getL_enc hz (s++rest)
 rw [unzig_zig,← List.append_assoc] at h
 unfold textL
 rw [show txt s++rest=enc (zig s.length)++s++rest from rfl,h]
 simp only [ne_eq,not_true_eq_false,if_false,List.length_append]
 rw [if_neg (by omega),if_neg (by omega)]
 simp [txt,List.append_assoc]
end
section
open Go Go.Sort Go.RowKit
theorem one_sl (w:World) (z:Int) (mark:Nat × Nat) (c:UInt8) (h:z=(c.toNat:Int)):SlP (w.alloc (.cells #[.int .u8 z] 5 mark)) (some ⟨w.heap.size,0,none⟩) 1 1 [c]:=
 SlP.lit w 1 _ mark [c] rfl (by rw [h];rfl) (by omega)
theorem _root_.Go.RowKit.Below.own1 {base:Nat} {w w1 w2:World} {o:Obj} {p:Option Addr} {n cap:Nat} {l:List UInt8} (h:Below base w w1) (hb:base≤w1.heap.size) (ho:OwP w1 base p n cap l) (g:(w1.alloc o).grownBy w2 (p.map (·.block))):Below base w w2:=
 Below.grown (h.alloc hb o) g (by simp;omega) (fun k hk=>(ho.lt k hk).1)
theorem zig_bits {x:Int} (h:-9223372036854775808≤x) (hx:x<0):bits .xor .u64 18446744073709551615 (IntKind.u64.wrap (IntKind.u64.wrap x * 2))=((zig x:Nat):Int):=by
 have:=Lib.zigzag_neg h hx
 rw [show IntKind.u64.max=18446744073709551615 from rfl] at this
 rw [this]
 unfold Lib.zigzag zig
 rw [if_neg (by omega),if_pos hx]
 congr 2
 omega
theorem zig_pos {x:Int} (hx:¬ x<0):x * 2=((zig x:Nat):Int):=by
 unfold zig
 rw [if_neg hx]
 omega
theorem or_cont (v:Nat):bits .or .u8 ((v:Int) % 256) 128=((UInt8.ofNat (v % 128+128)).toNat:Int):=by
 rw [Lib.u8_or128_any _ (by omega) (by omega),u8_ofNat]
 omega
theorem put_any {base:Nat} {p:Option Addr} {n cap:Nat} {l:List UInt8} {x:Int} {w:World} (h:OwP w base p n cap l) (hb:base≤w.heap.size) (hn:n≤1099511627776) (h1:-9223372036854775808≤x) (h2:x≤9223372036854775807) :
  Calls Tryz.prog 95 #[.slice p n cap,.int .i64 x] w fun e w'=>∃ p' cap',e=.returned (.slice p' (n+(enc (zig x)).length) cap')∧OwP w' base p' (n+(enc (zig x)).length) cap' (l++enc (zig x))∧Below base w w':=by
 have hsg:IntKind.u64.signed=false:=rfl
 have hmx:IntKind.u64.max=18446744073709551615:=rfl
 have H:=hI h
 have hln:=h.1
 clear h
 have hz:=zig_lt h1 h2
 have hzt:=enc_ten hz
 obtain ⟨L,hL⟩:∃ L,L=l++enc (zig x):=⟨_,rfl⟩
 obtain ⟨N,hN⟩:∃ N,N=n+(enc (zig x)).length:=⟨_,rfl⟩
 rw [← hL,← hN]
 have HL:=hI hL
 have hNL:L.length=N:=by rw [hL,hN,List.length_append,hln]
 have HN:=hI hNL
 have hN2:N≤1099511627786:=by omega
 clear hL hNL hzt hN
 by_cases hx:x<0
 all_goals
  have HX:=hI hx
  go_enter Tryz.func95,Tryz.ntmps95
  go_wp2
  go_loopw [0,5] (fun b u wr=>∃ p' n' c' l' v,b=.slice p' n' c'∧u=.int .u64 ((v:Nat):Int)∧v<18446744073709551616∧OwP wr base p' n' c' l'∧l'++enc v=L∧Below base w wr) (fun _ u _=>(intOf u).toNat)
  case atStart=>
   refine ⟨_,_,_,_,zig x,rfl,?_,hz,H.o,HL.o.symm,Below.refl _ _⟩
   first | rw [zig_bits h1 HX.o] | rw [zig_pos (by have:=HX.o;omega)]
  case round=>
   obtain ⟨p1,n1,c1,l1,v,rfl,rfl,hv,ho,hl,hbl⟩:=hrel
   have HO:=hI ho
   have HLL:=hI hl
   have HB:=hI hbl
   have hnn:n1+(enc v).length=N:=by rw [← HN.o,← hl,List.length_append,ho.1]
   have hsz:=hbl.size
   have hp:=enc_pos v
   clear ho hl hbl
   by_cases hlt:v<128
   ·go_wp2_with (at_builtin;refine wpList_app rfl _ _ 72 rfl base Tryz.underlying72 info5 p1 n1 c1 l1 rfl (HO.o.alloc _) (some ⟨_,0,none⟩) 1 1 [UInt8.ofNat v] rfl (one_sl _ _ _ _ ?hone) (by omega) (by simp;omega) ?_)
    case hone=>rw [u8_ofNat];omega
    intro p3 c3 w3 h3 g3
    have H3:=hI h3
    have G3:=hI g3
    clear h3 g3
    go_wp2
    go_ret
    have e1:n1+1=N:=by rw [← hnn,enc_last hlt];rfl
    have e2:l1++[UInt8.ofNat v]=L:=by rw [← HLL.o,enc_last hlt]
    rw [e1,e2] at H3
    refine ⟨_,_,by rw [e1];rfl,H3.o,?_⟩
    exact Below.own1 HB.o (by omega) HO.o G3.o
   ·obtain ⟨c,hc⟩:∃ c,c=UInt8.ofNat (v % 128+128):=⟨_,rfl⟩
    have HC:=hI hc
    clear hc
    go_wp2_with (at_builtin;refine wpList_app rfl _ _ 72 rfl base Tryz.underlying72 info5 p1 n1 c1 l1 rfl (HO.o.alloc _) (some ⟨_,0,none⟩) 1 1 [c] rfl (one_sl _ _ _ _ ?hone) (by omega) (by simp;omega) ?_)
    case hone=>rw [HC.o];exact or_cont v
    intro p3 c3 w3 h3 g3
    have H3:=hI h3
    have G3:=hI g3
    clear h3 g3
    go_wp2
    go_round
    case rel=>
     refine ⟨_,_,_,_,v / 128,rfl,by go_num,by omega,H3.o,?_,?_⟩
     ·rw [← HLL.o,enc_more hlt,List.append_assoc,HC.o];rfl
     ·exact Below.own1 HB.o (by omega) HO.o G3.o
    case measure=>simp [intOf];omega
end
section
open Go Go.Sort Go.RowKit
theorem getF_end {k y:Nat} {l:List UInt8} {n:Nat} (hl:l.length=n) (hk:¬ k<n):getF k y (l.drop k)=(0,0,2):=by
 rw [List.drop_of_length_le (by omega)];rfl
theorem getF_at {k y:Nat} {l:List UInt8} {c:UInt8} (hc:l[k]?=some c):getF k y (l.drop k) =
  if k=9∧1<c.toNat then (0,0,1)
  else if 127<c.toNat then getF (k+1) (y+c.toNat % 128 * 128 ^ k) (l.drop (k+1))
  else if 0<k∧c.toNat=0 then (0,0,1)
  else (unzig (y+c.toNat % 128 * 128 ^ k),k+1,0):=by
 have hk:k<l.length:=(List.getElem?_eq_some_iff.1 hc).1
 have he:l[k]=c:=(List.getElem?_eq_some_iff.1 hc).2
 rw [List.drop_eq_getElem_cons hk,he,getF]
theorem or_step {y z k:Nat} (hz:z<256) (hk:k≤9) (hz9:k=9→z≤1) (hy:y<128 ^ k) :
  bits .or .u64 (y:Int) (IntKind.u64.wrap (IntKind.u64.wrap (bits .and .u8 (z:Int) 127) * 2 ^ (7 * k)))=((y+z % 128 * 128 ^ k:Nat):Int)∧y+z % 128 * 128 ^ k<18446744073709551616∧(k<9→y+z % 128 * 128 ^ k<128 ^ (k+1)):=by
 have e128:(128:Nat) ^ k=2 ^ (7 * k):=by rw [Nat.pow_mul]
 have hlt:y+z % 128 * 128 ^ k<18446744073709551616:=by
  by_cases h9:k=9
  ·subst h9
   have:=hz9 rfl
   omega
  ·have h3:128 ^ k≤128 ^ 8:=Nat.pow_le_pow_right (by omega) (by omega)
   have:z % 128 * 128 ^ k≤127 * 128 ^ k:=Nat.mul_le_mul_right _ (by omega)
   omega
 have hup:k<9→y+z % 128 * 128 ^ k<128 ^ (k+1):=fun _=>by
  rw [Nat.pow_succ]
  have:z % 128 * 128 ^ k≤127 * 128 ^ k:=Nat.mul_le_mul_right _ (by omega)
  omega
 refine ⟨?_,hlt,hup⟩
 have h1:IntKind.u64.wrap (bits .and .u8 (z:Int) 127)=((z % 128:Nat):Int):=by
  rw [u8_and127 _ (by omega) (by omega),IntKind.wrap_u64];omega
 have h2:IntKind.u64.wrap (((z % 128:Nat):Int) * 2 ^ (7 * k))=((z % 128 * 128 ^ k:Nat):Int):=by
  have:((z % 128:Nat):Int) * 2 ^ (7 * k)=((z % 128 * 128 ^ k:Nat):Int):=by rw [e128];push_cast;rfl
  rw [this,IntKind.wrap_u64]
  exact Int.emod_eq_of_lt (by omega) (by omega)
 rw [h1,h2,(bits_nat .u64 64 (by decide) wraps_u64 y (z % 128 * 128 ^ k) (by omega) (by omega)).2]
 have h3:=Nat.two_pow_add_eq_or_of_lt (i:=7 * k) (b:=y) (by rw [← e128];exact hy) (z % 128)
 rw [← e128,Nat.mul_comm] at h3
 rw [Nat.or_comm,← h3,Nat.add_comm]
theorem un_odd {E:Int} {v:Nat} (hE:E=(v:Int)) (hv:v<18446744073709551616) (h:(bits .and .u64 E 1==1)=true):bits .xor .i64 (-1) (wrap64 (E / 2))=unzig v:=by
 subst hE
 rw [Lib.u64_and1 _ (by omega) (by omega)] at h
 have h2:v % 2=1:=by have:=beq_iff_eq.1 h;omega
 have e:wrap64 ((v:Int) / 2)=((v / 2:Nat):Int):=by unfold wrap64;omega
 rw [e,Lib.i64_not _ (by omega)]
 unfold unzig
 rw [if_pos h2]
theorem un_even {E:Int} {v:Nat} (hE:E=(v:Int)) (hv:v<18446744073709551616) (h:(bits .and .u64 E 1==1)=false):wrap64 (E / 2)=unzig v:=by
 subst hE
 rw [Lib.u64_and1 _ (by omega) (by omega)] at h
 have h2:¬ v % 2=1:=by have:=beq_eq_false_iff_ne.1 h;omega
 have e:wrap64 ((v:Int) / 2)=((v / 2:Nat):Int):=by unfold wrap64;omega
 rw [e]
 unfold unzig
 rw [if_neg h2]
theorem get_any {p:Option Addr} {n cap:Nat} {l:List UInt8} {w:World} (h:SlP w p n cap l) (hn:n≤70368744177664) :
  Calls Tryz.prog 71 #[.slice p n cap] w fun e w'=>e=.returned (.tuple #[.int .i64 (getL l).1,.int .i64 ((getL l).2.1:Int),.int .i64 (getL l).2.2])∧w=w':=by
 have hsg:IntKind.u64.signed=false:=rfl
 have hmx:IntKind.u64.max=18446744073709551615:=rfl
 have H:=hI h
 clear h
 obtain ⟨r,hr⟩:∃ r,r=getL l:=⟨_,rfl⟩
 rw [← hr]
 have HR:=hI hr
 clear hr
 go_enter Tryz.func71,Tryz.ntmps71
 go_wp2
 go_loop [5,11] (fun u i=>∃ k y:Nat,i=.int .i64 (k:Int)∧u=.int .u64 (y:Int)∧k≤n∧k≤9∧Hid (y<128 ^ k)∧Hid (getF k y (l.drop k)=r)) (fun _ i=>n-(intOf i).toNat)
 case atStart=>exact ⟨0,0,rfl,rfl,by omega,by omega,hI (by omega),hI HR.o.symm⟩
 case round=>
  obtain ⟨k,y,rfl,rfl,hk,hk9,HY,HG⟩:=hrel
  by_cases hlt:k<n
  ·obtain ⟨b,off,c,rfl,hc,hcell⟩:=H.o.at k hlt
   have hc256:=c.toNat_lt
   have hx:=getF_at (y:=y) hc
   rw [HG.o] at hx
   have HX:=hI hx
   clear hc hx HG
   generalize c.toNat=z at *
   by_cases h9:k=9
   ·subst h9
    by_cases h1:1<z
    ·have hr:=HX.o
     rw [if_pos ⟨rfl,h1⟩] at hr
     subst hr
     go_wp2
     go_ret3
     exact ⟨rfl,rfl⟩
    ·have OS:=hI (or_step (show z<256 by omega) hk9 (fun _=>by omega) HY.o)
     have hr:=HX.o
     rw [if_neg (by omega),if_neg (by omega)] at hr
     by_cases hz0:z=0
     ·rw [if_pos ⟨by omega,hz0⟩] at hr
      subst hr
      go_wp2
      go_ret3
      exact ⟨rfl,rfl⟩
     ·rw [if_neg (by omega)] at hr
      subst hr
      clear HY
      have e9:=OS.o.1
      rw [show (2:Int) ^ (7 * 9)=9223372036854775808 from by decide,show (128:Nat) ^ 9=9223372036854775808 from by decide] at e9
      have E9:=hI e9
      have l9:=OS.o.2.1
      rw [show (128:Nat) ^ 9=9223372036854775808 from by decide] at l9
      clear e9
      go_wp2
      ·go_ret3
       rw [un_odd E9.o l9 (by assumption)]
       exact ⟨rfl,rfl⟩
      ·go_ret3
       rw [un_even E9.o l9 (by assumption)]
       exact ⟨rfl,rfl⟩
   ·have OS:=hI (or_step (show z<256 by omega) hk9 (fun _=>by omega) HY.o)
    have hr:=HX.o
    rw [if_neg (by omega)] at hr
    by_cases hz:127<z
    ·rw [if_pos hz] at hr
     have HR2:=hI hr
     clear hr HX
     go_wp2
     go_round
     case rel=>exact ⟨k+1,_,by go_num,by rw [OS.o.1],by omega,by omega,hI (OS.o.2.2 (by omega)),hI HR2.o.symm⟩
     case measure=>simp [intOf];omega
    ·rw [if_neg hz] at hr
     by_cases h0:k=0
     ·rw [if_neg (by omega)] at hr
      subst hr
      subst h0
      clear HY
      rw [Nat.add_zero] at hcell
      have e0:=OS.o.1
      rw [show (2:Int) ^ (7 * 0)=1 from rfl,Int.mul_one,Nat.pow_zero,Nat.mul_one] at e0
      have E0:=hI e0
      have l0:=OS.o.2.1
      rw [Nat.pow_zero,Nat.mul_one] at l0
      clear e0
      go_wp2
      ·go_ret3
       rw [un_odd E0.o l0 (by assumption)]
       exact ⟨rfl,rfl⟩
      ·go_ret3
       rw [un_even E0.o l0 (by assumption)]
       exact ⟨rfl,rfl⟩
     ·by_cases hz0:z=0
      ·rw [if_pos ⟨by omega,hz0⟩] at hr
       subst hr
       go_wp2
       go_ret3
       exact ⟨rfl,rfl⟩
      ·rw [if_neg (by omega)] at hr
       subst hr
       go_wp2
       ·go_ret3
        rw [un_odd OS.o.1 OS.o.2.1 (by assumption)]
        exact ⟨rfl,rfl⟩
       ·go_ret3
        rw [un_even OS.o.1 OS.o.2.1 (by assumption)]
        exact ⟨rfl,rfl⟩
  ·go_wp2
   go_ret3
   have hx:=HG.o
   rw [getF_end H.o.len hlt] at hx
   subst hx
   exact ⟨rfl,rfl⟩
end
section
open Go Go.Sort Go.RowKit
end
section
open Go Go.Sort Go.RowKit
theorem cut_mid (p:Option Addr) (n cap i j:Nat) (hij:i≤j) (hj:j≤cap) (w:World) :
  (Instr.slice 72 (.slice p n cap) (some (.int .i64 (i:Int))) (some (.int .i64 (j:Int))) none).run Tryz.prog w=.ok (.slice (tailP p cap i) (j-i) (cap-i)) w:=by
 have ht:Tryz.prog.underlying 72=some (.slice 5):=Tryz.underlying72
 have he:Tryz.prog.elem 72=5:=by simp [Program.elem,ht]
 have h:=run_slice_lh (P:=Tryz.prog) w 72 p n cap (by rw [he];exact ht) .i64 .i64 (i:Int) (j:Int) (by omega) (by omega) (by omega)
 rw [h,he,sz5]
 simp only [Result.andThen_ok,sliced,Int.toNat_natCast,Nat.mul_one,tailP]
theorem wpList_apps {w:World} {ops:Array Oper} {rest:List Oper} {o:Oper} {a:Act} {Q:Exit→Act→World→Prop} (hgd:o.guard=none) (s x:Operand)
  (ho:o.op=.call { callee:=.builtin .append,args:=#[s,x],argTypes:=#[72,9] })
  (base:Nat) (p:Option Addr) (n cap:Nat) (l:List UInt8) (hs:a.eval s=.slice p n cap) (hown:OwP w base p n cap l)
  (k:ByteArray) (hx:a.eval x=.string k) (hbytes:n+k.size≤140737488355328) (hbase:base≤w.heap.size)
  (h:∀ p' cap' w',OwP w' base p' (n+k.size) cap' (l++k.data.toList)→w.grownBy w' (p.map (·.block))→wpList Tryz.prog ops Q rest (a.put o.dst (.slice p' (n+k.size) cap')) w'):wpList Tryz.prog ops Q (o::rest) a w:=by
 obtain ⟨i0,hi,hz0,hz1,hz2⟩:=info_parts info5
 refine Lib.wpList_append_own_string w hgd s x 72 9 ho base 5 i0 Tryz.underlying72 Tryz.underlying9 hi hz0 hz1 hz2 _ n (l.map bv) hs hown.2 k hx (by unfold maxLen;omega) hbytes hbase ?_
 intro v' w' ho' hg _
 have hlen:(l++k.data.toList).length=n+k.size:=by rw [List.length_append,hown.1];simp
 have hc:l.map bv++Lib.strCells k=(l++k.data.toList).map bv:=by rw [List.map_append];rfl
 rw [hc] at ho'
 rw [ownBlock_slice] at hg
 have ho2:=ho'
 rcases ho'.2 with ⟨hv,hn⟩ | ⟨g,c',cur,hv,r⟩
 ·subst hv
  have:=h none 0 w' ⟨hlen,by rw [hn] at *;exact ho2⟩ hg
  rw [hn] at this
  exact this
 ·subst hv
  exact h _ _ w' ⟨hlen,ho2⟩ hg
theorem puttext_any {base:Nat} {p:Option Addr} {n cap:Nat} {l:List UInt8} {s:ByteArray} {w:World} (h:OwP w base p n cap l) (hb:base≤w.heap.size) (hn:n≤1099511627776) (hs:s.size≤1099511627776) :
  Calls Tryz.prog 122 #[.slice p n cap,.string s] w fun e w'=>∃ p' cap',e=.returned (.slice p' (n+(txt s.data.toList).length) cap')∧OwP w' base p' (n+(txt s.data.toList).length) cap' (l++txt s.data.toList)∧Below base w w':=by
 have H:=hI h
 clear h
 have hsz:s.data.toList.length=s.size:=by simp
 obtain ⟨L,hL⟩:∃ L,L=l++txt s.data.toList:=⟨_,rfl⟩
 obtain ⟨N,hN⟩:∃ N,N=n+(txt s.data.toList).length:=⟨_,rfl⟩
 rw [← hL,← hN]
 obtain ⟨E,hE⟩:∃ E,E=enc (zig (s.size:Int)):=⟨_,rfl⟩
 have hL2:L=l++E++s.data.toList:=by rw [hL,txt,hsz,hE,List.append_assoc]
 have hN2:N=n+E.length+s.size:=by rw [hN,txt,List.length_append,hsz,hE];omega
 have he:E.length≤10:=by rw [hE];exact enc_ten (zig_lt (by omega) (by omega))
 have HL:=hI hL2
 have HN:=hI hN2
 have HE:=hI hE
 clear hL hN hL2 hN2 hE hsz
 go_enter Tryz.func122,Tryz.ntmps122
 go_wp2_with fail
 refine (put_any H.o hb hn (x:=(s.size:Int)) (by omega) (by omega)).mono ?_
 rw [← HE.o]
 rintro e w1 ⟨p1,c1,rfl,h1,x1⟩
 have H1:=hI h1
 have X1:=hI x1
 have z1:=x1.size
 clear h1 x1
 go_wp2_with (at_builtin;refine wpList_apps rfl _ _ rfl base p1 (n+E.length) c1 (l++E) rfl H1.o s rfl (by omega) (by omega) ?_)
 intro p2 c2 w2 h2 g2
 have H2:=hI h2
 have G2:=hI g2
 clear h2 g2
 go_wp2
 go_ret
 refine ⟨p2,c2,by rw [HN.o];rfl,by rw [HL.o,HN.o,List.append_assoc];exact H2.o,?_⟩
 exact Below.grown X1.o G2.o (by omega) (fun k hk=>(H1.o.lt k hk).1)
theorem text_err {l:List UInt8} (h:(getL l).2.2≠0):textL l=([],0,(getL l).2.2):=by unfold textL;rw [if_pos h]
theorem text_form {l:List UInt8} (h:(getL l).2.2=0) (h2:(getL l).1<0∨65536<(getL l).1):textL l=([],0,1):=by unfold textL;rw [if_neg (by simpa using h),if_pos h2]
theorem text_more {l:List UInt8} (h:(getL l).2.2=0) (h2:¬ ((getL l).1<0∨65536<(getL l).1)) (h3:((l.length-(getL l).2.1:Nat):Int)<(getL l).1):textL l=([],0,2):=by
 unfold textL;rw [if_neg (by simpa using h),if_neg h2,if_pos h3]
theorem text_is {l:List UInt8} (h:(getL l).2.2=0) (h2:¬ ((getL l).1<0∨65536<(getL l).1)) (h3:¬ ((l.length-(getL l).2.1:Nat):Int)<(getL l).1) :
  textL l=((l.drop (getL l).2.1).take (getL l).1.toNat,(getL l).2.1+(getL l).1.toNat,0):=by
 unfold textL;rw [if_neg (by simpa using h),if_neg h2,if_neg h3]
theorem gettext_any {p:Option Addr} {n cap:Nat} {l:List UInt8} {w:World} (h:SlP w p n cap l) (hn:n≤70368744177664) :
  Calls Tryz.prog 120 #[.slice p n cap] w fun e w'=>e=.returned (.tuple #[.string ⟨(textL l).1.toArray⟩,.int .i64 ((textL l).2.1:Int),.int .i64 (textL l).2.2])∧w=w':=by
 have H:=hI h
 have hle:=h.le
 have hlen:=h.len
 clear h
 have hin:=getL_in l
 have e0:=@text_err l
 have e1:=@text_form l
 have e2:=@text_more l
 have e3:=@text_is l
 have C:=hI (get_any H.o hn)
 obtain ⟨t,ht⟩:∃ t,t=textL l:=⟨_,rfl⟩
 rw [← ht] at e0 e1 e2 e3 ⊢
 clear ht
 generalize getL l=g at *
 obtain ⟨gn,gk,ge⟩:=g
 simp only at hin e0 e1 e2 e3 C
 rcases hin with ⟨rfl,k1,k2,k3,k4,k5⟩ | ⟨rfl,rfl,hge⟩
 ·clear e0
  by_cases c0:gn<0
  ·have:=e1 rfl (.inl c0)
   subst this
   clear e1 e2 e3
   go_enter Tryz.func120,Tryz.ntmps120
   go_wp2_with fail
   refine C.o.mono ?_
   rintro e w1 ⟨rfl,rfl⟩
   go_wp2
   go_ret3
   exact ⟨rfl,rfl⟩
  by_cases c1:65536<gn
  ·have:=e1 rfl (.inr c1)
   subst this
   clear e1 e2 e3
   go_enter Tryz.func120,Tryz.ntmps120
   go_wp2_with fail
   refine C.o.mono ?_
   rintro e w1 ⟨rfl,rfl⟩
   go_wp2
   go_ret3
   exact ⟨rfl,rfl⟩
  have c2:¬ (gn<0∨65536<gn):=by omega
  obtain ⟨m,rfl⟩:=Int.eq_ofNat_of_zero_le (show 0≤gn by omega)
  rw [Int.toNat_natCast,hlen] at *
  clear e1
  by_cases c3:n-gk<m
  ·have:=e2 rfl c2 (by omega)
   subst this
   clear e2 e3
   go_enter Tryz.func120,Tryz.ntmps120
   go_wp2_with fail
   refine C.o.mono ?_
   rintro e w1 ⟨rfl,rfl⟩
   go_wp2
   go_ret3
   exact ⟨rfl,rfl⟩
  ·have:=e3 rfl c2 (by omega)
   have hcut:=cut_mid p n cap gk (gk+m) (by omega) (by omega) w
   rw [Nat.add_sub_cancel_left,Int.natCast_add] at hcut
   have hm:=((H.o.drop gk (by omega)).take m (by omega))
   have hstr:=str_of hm
   clear e2 e3 hm
   obtain ⟨bs,hbs⟩:∃ bs,bs=(l.drop gk).take m:=⟨_,rfl⟩
   rw [← hbs] at this hstr
   subst this
   clear hbs
   go_enter Tryz.func120,Tryz.ntmps120
   go_wp2_with fail
   refine C.o.mono ?_
   rintro e w1 ⟨rfl,rfl⟩
   go_wp2
   go_ret3
   exact ⟨rfl,rfl⟩
 ·have:=e0 (by omega)
  subst this
  clear e0 e1 e2 e3
  rcases hge with rfl | rfl
  all_goals
   go_enter Tryz.func120,Tryz.ntmps120
   go_wp2_with fail
   refine C.o.mono ?_
   rintro e w1 ⟨rfl,rfl⟩
   go_wp2
   go_ret3
   exact ⟨rfl,rfl⟩
end
section
open Go.RowKit
structure SlI (kd:IntKind) (w:World) (p:Option Addr) (n cap:Nat) (zs:List Int):Prop where
 len:zs.length=n
 le:n≤cap
 max:cap≤9223372036854775807
 nil:p=none→cap=0
 cells:0<n→∃ b o,p=some ⟨b,o,none⟩∧∀ i x,zs[i]?=some x→w.cell? ⟨b,o+i,none⟩=some (.int kd x)
 wf:∀ x ∈ zs,(Lit.int kd x).wf=true
theorem SlI.ext {kd:IntKind} {w w':World} {p:Option Addr} {n cap:Nat} {zs:List Int} (h:SlI kd w p n cap zs) (he:Ext w w'):SlI kd w' p n cap zs:=
 ⟨h.len,h.le,h.max,h.nil,fun hn=>by
  obtain ⟨b,o,hp,hh⟩:=h.cells hn
  exact ⟨b,o,hp,fun i x hx=>Ext.cell he (hh i x hx)⟩,h.wf⟩
theorem SlI.empty (kd:IntKind) (w:World):SlI kd w none 0 0 []:=⟨rfl,Nat.le_refl _,by decide,fun _=>rfl,fun h=>absurd h (Nat.lt_irrefl _),fun x hx=>by cases hx⟩
theorem SlI.take {kd:IntKind} {w:World} {p:Option Addr} {n cap:Nat} {zs:List Int} (h:SlI kd w p n cap zs) (k:Nat) (hk:k≤n):SlI kd w p k cap (zs.take k):=
 ⟨by rw [List.length_take,h.len];omega,by have:=h.le;omega,h.max,h.nil,(fun hl=>by
  obtain ⟨b,o,hp,hh⟩:=h.cells (by omega)
  refine ⟨b,o,hp,fun i x hx=>hh i x ?_⟩
  rw [List.getElem?_take] at hx
  split at hx
  ·exact hx
  ·cases hx),fun x hx=>h.wf x (List.mem_of_mem_take hx)⟩
theorem SlI.at {kd:IntKind} {w:World} {p:Option Addr} {n cap:Nat} {zs:List Int} (h:SlI kd w p n cap zs) (k:Nat) (hk:k<n):∃ b o x,p=some ⟨b,o,none⟩∧zs[k]?=some x∧w.cell? ⟨b,o+k,none⟩=some (.int kd x)∧(Lit.int kd x).wf=true:=by
 obtain ⟨b,o,hp,hh⟩:=h.cells (by omega)
 have hkl:k<zs.length:=by rw [h.len];exact hk
 exact ⟨b,o,zs[k],hp,by simp,hh k _ (by simp),h.wf _ (by simp)⟩
theorem SlI.lit (kd:IntKind) (e:TypeId) (w:World) (n:Nat) (cur:Array Value) (mark:Nat × Nat) (zs:List Int) (hl:zs.length=n) (hcur:cur.toList=zs.map (Value.int kd)) (hn:n≤140737488355328) (hw:∀ x ∈ zs,(Lit.int kd x).wf=true) :
  SlI kd (w.alloc (.cells cur e mark)) (some ⟨w.heap.size,0,none⟩) n n zs:=
 ⟨hl,Nat.le_refl _,by omega,(fun h=>by cases h),fun _=>⟨w.heap.size,0,rfl,fun i x hx=>by
  rw [World.cell?_alloc_mark,Nat.zero_add,← Array.getElem?_toList,hcur,List.getElem?_map,hx]
  rfl⟩,hw⟩
end
section
open Go Go.RowKit Go.ChangeShapes Go.WideShapes Go.Deep
structure SlS (K:Nat) (w:World) (p:Option Addr) (n cap:Nat) (L:List (List Value)):Prop where
 len:L.length=n
 le:n≤cap
 max:cap≤9223372036854775807
 nil:p=none→cap=0
 wid:∀ x ∈ L,x.length=K
 cells:0<n→∃ b o,p=some ⟨b,o,none⟩∧∀ (i:Nat) (x:List Value),L[i]?=some x→∀ (j:Nat) (v:Value),x[j]?=some v→w.cell? ⟨b,o+(i * K+j),none⟩=some v
theorem SlS.ext {K:Nat} {w w':World} {p:Option Addr} {n cap:Nat} {L:List (List Value)} (h:SlS K w p n cap L) (he:Ext w w'):SlS K w' p n cap L:=
 ⟨h.len,h.le,h.max,h.nil,h.wid,fun hn=>by
  obtain ⟨b,o,hp,hh⟩:=h.cells hn
  exact ⟨b,o,hp,fun i x hx j v hv=>Ext.cell he (hh i x hx j v hv)⟩⟩
theorem SlS.empty (K:Nat) (w:World):SlS K w none 0 0 []:=⟨rfl,Nat.le_refl _,by decide,fun _=>rfl,(fun x hx=>by cases hx),fun h=>absurd h (Nat.lt_irrefl _)⟩
theorem SlS.take {K:Nat} {w:World} {p:Option Addr} {n cap:Nat} {L:List (List Value)} (h:SlS K w p n cap L) (k:Nat) (hk:k≤n):SlS K w p k cap (L.take k):=
 ⟨by rw [List.length_take,h.len];omega,by have:=h.le;omega,h.max,h.nil,(fun x hx=>h.wid x (List.mem_of_mem_take hx)),fun hl=>by
  obtain ⟨b,o,hp,hh⟩:=h.cells (by omega)
  refine ⟨b,o,hp,fun i x hx=>hh i x ?_⟩
  rw [List.getElem?_take] at hx
  split at hx
  ·exact hx
  ·cases hx⟩
def tailS (K:Nat) (p:Option Addr) (cap k:Nat):Option Addr:=if cap=k then p else p.map (·.add (k * K))
theorem SlS.drop {K:Nat} {w:World} {p:Option Addr} {n cap:Nat} {L:List (List Value)} (h:SlS K w p n cap L) (k:Nat) (hk:k≤n):SlS K w (tailS K p cap k) (n-k) (cap-k) (L.drop k):=
 ⟨by rw [List.length_drop,h.len],by have:=h.le;omega,by have:=h.max;omega,(fun hp=>by
  unfold tailS at hp
  split at hp
  ·omega
  ·cases p with
   | none=>have:=h.nil rfl;omega
   | some a=>simp at hp),(fun x hx=>h.wid x (List.mem_of_mem_drop hx)),fun hl=>by
  obtain ⟨b,o,hp,hh⟩:=h.cells (by omega)
  refine ⟨b,o+k * K,?_,fun i x hx j v hv=>?_⟩
  ·have:=h.le
   unfold tailS
   rw [if_neg (by omega),hp]
   simp [Addr.add_lit]
  ·rw [List.getElem?_drop] at hx
   have:=hh (k+i) x hx j v hv
   rw [show o+k * K+(i * K+j)=o+((k+i) * K+j) by rw [Nat.add_mul];omega]
   exact this⟩
theorem SlS.at {K:Nat} {w:World} {p:Option Addr} {n cap:Nat} {L:List (List Value)} (h:SlS K w p n cap L) (k:Nat) (hk:k<n):∃ b o x,p=some ⟨b,o,none⟩∧L[k]?=some x∧x.length=K∧∀ (j:Nat) (v:Value),x[j]?=some v→w.cell? ⟨b,o+k * K+j,none⟩=some v:=by
 obtain ⟨b,o,hp,hh⟩:=h.cells (by omega)
 have hkl:k<L.length:=by rw [h.len];exact hk
 exact ⟨b,o,L[k],hp,by simp,h.wid _ (by simp),fun j v hv=>by rw [Nat.add_assoc];exact hh k _ (by simp) j v hv⟩
section
variable {H:Type} {enc:TypeId × Value→H} {P:Program} {w:World} {base:Nat} {spare:Nat→Bool} {held:Bool}
end
end
section
open Go Go.RowKit Go.Deep
def OwS (E:TypeId) (K:Nat) (w:World) (base:Nat) (p:Option Addr) (n cap:Nat) (L:List (List Value)):Prop:=
 L.length=n∧(∀ x ∈ L,x.length=K)∧w.ownsRow base E K (.slice p n cap) n L.flatten
theorem flatten_len {K:Nat}:∀ (L:List (List Value)),(∀ x ∈ L,x.length=K)→L.flatten.length=L.length * K
 | [],_=>by simp
 | x::L,h=>by
  rw [List.flatten_cons,List.length_append,flatten_len L (fun y hy=>h y (by simp [hy])),h x (by simp),List.length_cons,Nat.add_mul]
  omega
theorem flatten_at {K:Nat}:∀ (L:List (List Value)),(∀ x ∈ L,x.length=K)→∀ (i:Nat) (x:List Value),L[i]?=some x→∀ (j:Nat) (v:Value),x[j]?=some v→L.flatten[i * K+j]?=some v
 | [],_,i,x,hx=>by simp at hx
 | y::L,h,0,x,hx=>by
  intro j v hv
  simp at hx
  subst hx
  have hj:j<y.length:=(List.getElem?_eq_some_iff.1 hv).1
  rw [List.flatten_cons,List.getElem?_append_left (by omega)]
  simpa using hv
 | y::L,h,i+1,x,hx=>by
  intro j v hv
  have hy:=h y (by simp)
  rw [List.flatten_cons,List.getElem?_append_right (by rw [hy,Nat.add_mul];omega),hy]
  have:=flatten_at L (fun z hz=>h z (by simp [hz])) i x (by simpa using hx) j v hv
  rw [show (i+1) * K+j-K=i * K+j by rw [Nat.add_mul];omega]
  exact this
theorem OwS.nil (E:TypeId) (K:Nat) (w:World) (base:Nat):OwS E K w base none 0 0 []:=⟨rfl,(fun x hx=>by cases hx),World.ownsRow_nil _ _ _ _⟩
theorem OwS.sl {E:TypeId} {K:Nat} {w:World} {base:Nat} {p:Option Addr} {n cap:Nat} {L:List (List Value)} (h:OwS E K w base p n cap L):SlS K w p n cap L:=by
 obtain ⟨hl,hw,h1,h2⟩:=h
 rcases h2 with ⟨hv,hn⟩ | ⟨g,c,cur,hv,hg,hh,hn,hm,hs,ht⟩
 ·cases hv
  exact ⟨hl,Nat.le_refl _,by decide,(fun _=>rfl),hw,fun h=>absurd h (by omega)⟩
 ·cases hv
  refine ⟨hl,hn,by unfold maxLen at hm;omega,(fun h=>by cases h),hw,fun _=>⟨g,0,rfl,fun i x hx j v hv=>?_⟩⟩
  have:=World.ownsRow.cells (w:=w) (base:=base) (e:=E) (size:=K) (v:=.slice (some ⟨g,0,none⟩) n cap) (n:=n) (xs:=L.flatten) ⟨h1,Or.inr ⟨g,cap,cur,rfl,hg,hh,hn,hm,hs,ht⟩⟩ (g:=g) rfl (i * K+j) v (flatten_at L hw i x hx j v hv)
  rw [Addr.add_lit] at this
  simpa using this
theorem OwS.lt {E:TypeId} {K:Nat} {w:World} {base:Nat} {p:Option Addr} {n cap:Nat} {L:List (List Value)} (h:OwS E K w base p n cap L):∀ k,p.map (·.block)=some k→base≤k∧k<w.heap.size:=by
 intro k hk
 cases p with
 | none=>simp at hk
 | some a=>exact World.ownsRow.lt h.2.2 k (by simpa [Value.ownBlock] using hk)
theorem OwS.kept {E:TypeId} {K:Nat} {w w':World} {base:Nat} {p:Option Addr} {n cap:Nat} {L:List (List Value)} {row:Option Nat} (h:OwS E K w base p n cap L) (hg:w.grownBy w' row) (hne:∀ k,row=some k→p.map (·.block)≠some k):OwS E K w' base p n cap L:=
 ⟨h.1,h.2.1,h.2.2.kept hg (by
  rw [ownBlock_slice]
  cases row with
  | none=>cases p <;> simp
  | some k=>exact Or.inr (hne k rfl))⟩
theorem OwS.ext {E:TypeId} {K:Nat} {w w':World} {base:Nat} {p:Option Addr} {n cap:Nat} {L:List (List Value)} (h:OwS E K w base p n cap L) (he:Ext w w'):OwS E K w' base p n cap L:=
 h.kept (row:=none) ⟨he.os,he.tape,he.output,he.size,fun k hk _=>he.block k hk⟩ (fun k hk=>by cases hk)
theorem OwS.mono {E:TypeId} {K:Nat} {w:World} {base base':Nat} {p:Option Addr} {n cap:Nat} {L:List (List Value)} (h:OwS E K w base p n cap L) (hb:base'≤base):OwS E K w base' p n cap L:=by
 refine ⟨h.1,h.2.1,h.2.2.1,?_⟩
 rcases h.2.2.2 with hn | ⟨g,c,cur,hv,hg,r⟩
 ·exact .inl hn
 ·exact .inr ⟨g,c,cur,hv,by omega,r⟩
theorem OwS.app {E:TypeId} {K:Nat} {w w':World} {base:Nat} {p p':Option Addr} {n cap cap':Nat} {L:List (List Value)} {r:List Value} (h:OwS E K w base p n cap L) (hr:r.length=K) (ho:w'.ownsRow base E K (.slice p' (n+1) cap') (n+1) (L.flatten++r)):OwS E K w' base p' (n+1) cap' (L++[r]):=
 ⟨by simp [h.1],(fun x hx=>by
  rcases List.mem_append.1 hx with hx | hx
  ·exact h.2.1 x hx
  ·simp at hx;subst hx;exact hr),by simpa using ho⟩
theorem OwS.app_all {E:TypeId} {K:Nat} {w w':World} {base:Nat} {p p':Option Addr} {n m cap cap':Nat} {L M:List (List Value)} (h:OwS E K w base p n cap L) (hm:M.length=m) (hr:∀ x ∈ M,x.length=K) (ho:w'.ownsRow base E K (.slice p' (n+m) cap') (n+m) (L.flatten++M.flatten)):OwS E K w' base p' (n+m) cap' (L++M):=
 ⟨by simp [h.1,hm],(fun x hx=>by
  rcases List.mem_append.1 hx with hx | hx
  ·exact h.2.1 x hx
  ·exact hr x hx),by simpa using ho⟩
theorem OwS.made {E:TypeId} {K:Nat} (w:World) (base n:Nat) (cur:Array Value) (L:List (List Value)) (hb:base≤w.heap.size) (hl:L.length=n) (hw:∀ x ∈ L,x.length=K) (hcur:cur.toList=L.flatten) (hn:n≤140737488355328) :
  OwS E K (w.alloc (.cells cur E)) base (some ⟨w.heap.size,0,none⟩) n n L:=by
 have hs:cur.size=n * K:=by rw [← Array.length_toList,hcur,flatten_len L hw,hl]
 refine ⟨hl,hw,by rw [flatten_len L hw,hl],.inr ⟨w.heap.size,n,cur,rfl,hb,heap_alloc_new w _,Nat.le_refl _,by unfold maxLen;omega,hs,?_⟩⟩
 rw [← hs,← Array.length_toList,List.take_length,hcur]
theorem SlS.lit {E:TypeId} {K:Nat} (w:World) (n:Nat) (cur:Array Value) (mark:Nat × Nat) (L:List (List Value)) (hl:L.length=n) (hw:∀ x ∈ L,x.length=K) (hcur:cur.toList=L.flatten) (hn:n≤140737488355328) :
  SlS K (w.alloc (.cells cur E mark)) (some ⟨w.heap.size,0,none⟩) n n L:=
 ⟨hl,Nat.le_refl _,by omega,(fun h=>by cases h),hw,fun _=>⟨w.heap.size,0,rfl,fun i x hx j v hv=>by
  rw [World.cell?_alloc_mark,Nat.zero_add,← Array.getElem?_toList,hcur]
  exact flatten_at L hw i x hx j v hv⟩⟩
theorem run_cutS_to {P:Program} (K:Nat) (t e:TypeId) (ht:P.underlying t=some (.slice e)) (hs:∀ w,(sizeOf e).run P w=.ok K w) (p:Option Addr) (n cap:Nat) (k:Nat) (hk:k≤cap) (w:World) :
  (Instr.slice t (.slice p n cap) none (some (.int .i64 (k:Int))) none).run P w=.ok (.slice p k cap) w:=by
 have he:P.elem t=e:=by simp [Program.elem,ht]
 have h:=run_slice_h (P:=P) w t p n cap (by rw [he];exact ht) .i64 (k:Int) (by omega) (by omega)
 rw [h,he,hs]
 simp only [Result.andThen_ok,sliced,Int.toNat_natCast,Nat.sub_zero,Nat.zero_mul]
 congr 2
 split
 ·rfl
 ·cases p <;> simp [Addr.add]
theorem run_cutS_from {P:Program} (K:Nat) (t e:TypeId) (ht:P.underlying t=some (.slice e)) (hs:∀ w,(sizeOf e).run P w=.ok K w) (p:Option Addr) (n cap:Nat) (k:Nat) (hk:k≤n) (w:World) :
  (Instr.slice t (.slice p n cap) (some (.int .i64 (k:Int))) none none).run P w=.ok (.slice (tailS K p cap k) (n-k) (cap-k)) w:=by
 have he:P.elem t=e:=by simp [Program.elem,ht]
 have h:=run_slice_l (P:=P) w t p n cap (by rw [he];exact ht) .i64 (k:Int) (by omega) (by omega)
 rw [h,he,hs]
 simp only [Result.andThen_ok,sliced,Int.toNat_natCast,tailS]
theorem Ext.ownS {E:TypeId} {K:Nat} {w0 w w':World} {p:Option Addr} {n cap:Nat} {L:List (List Value)} {row:Option Nat} (h:Ext w0 w) (ho:OwS E K w w0.heap.size p n cap L) (hg:w.grownBy w' row) (hr:row=p.map (·.block)):Ext w0 w':=
 Below.grown h hg h.size (fun k hk=>(ho.lt k (by rw [← hr];exact hk)).1)
theorem wpList_appS {P:Program} {E:TypeId} {K:Nat} {w:World} {ops:Array Oper} {rest:List Oper} {o:Oper} {a:Act} {Q:Exit→Act→World→Prop} (hgd:o.guard=none) (s x:Operand) (t:TypeId)
  (ho:o.op=.call { callee:=.builtin .append,args:=#[s,x],argTypes:=#[t,t] })
  (base:Nat) (ht:P.underlying t=some (.slice E)) (i0:TypeInfo) (z:Value) (bytes:Nat) (hi:P.info? E=some i0) (hz0:i0.zero=some z) (hz1:i0.size=K) (hz2:i0.bytes=bytes) (hzs:z.cells.size=K) (hK:0<K)
  (p:Option Addr) (n cap:Nat) (L:List (List Value)) (hs:a.eval s=.slice p n cap) (hown:OwS E K w base p n cap L)
  (q:Option Addr) (m c:Nat) (M:List (List Value)) (hx:a.eval x=.slice q m c) (hsl:SlS K w q m c M) (hone:∀ r ∈ M,∀ u ∈ r,u.oneCell'=true)
  (hbytes:(n+m) * bytes≤140737488355328) (hmax:n+m≤140737488355328) (hbase:base≤w.heap.size)
  (h:∀ p' cap' w',OwS E K w' base p' (n+m) cap' (L++M)→w.grownBy w' (p.map (·.block))→wpList P ops Q rest (a.put o.dst (.slice p' (n+m) cap')) w'):wpList P ops Q (o::rest) a w:=by
 have shape:∀ (v':Value) (w':World),w'.ownsRow base E K v' (n+m) (L.flatten++M.flatten)→∃ p' cap',v'=.slice p' (n+m) cap'∧OwS E K w' base p' (n+m) cap' (L++M):=by
  intro v' w' ho'
  have ho2:=ho'
  rcases ho'.2 with ⟨hv,hn⟩ | ⟨g,c',cur,hv,r⟩
  ·subst hv
   exact ⟨none,0,by rw [hn],OwS.app_all hown hsl.len hsl.wid (by rw [hn] at *;exact ho2)⟩
  ·subst hv
   exact ⟨_,_,rfl,OwS.app_all hown hsl.len hsl.wid ho2⟩
 cases q with
 | none=>
  have hc0:=hsl.nil rfl
  have hle:=hsl.le
  have hm:m=0:=by omega
  subst hc0
  subst hm
  have hk:M=[]:=List.eq_nil_of_length_eq_zero hsl.len
  subst hk
  refine wpList_plain hgd fun KK hK'=>?_
  have hrun:=run_append_owned_none (P:=P) w base t o.type E i0 K ht hi _ n L.flatten hown.2.2
  unfold Oper.wp
  simp [execOp,ho,resolve,invoke,builtin,hs,hx,hrun,Result.andThen]
  exact hK' _ _ (by simpa using h p cap w (by simpa using hown) (World.grownBy.refl _ _))
 | some ad=>
  refine wpList_append_own w hgd s x t ho base E i0 z K bytes ht hi hz0 hz1 hz2 hzs hK _ n L.flatten hs hown.2.2 ad m c M.flatten hx (by rw [flatten_len M hsl.wid,hsl.len]) ?_ ?_ (by unfold maxLen;omega) hbytes hbase ?_
  ·intro j u hj
   have hjl:j<M.flatten.length:=(List.getElem?_eq_some_iff.1 hj).1
   rw [flatten_len M hsl.wid,hsl.len] at hjl
   have hm0:0<m:=by
    rcases Nat.eq_zero_or_pos m with h0 | h0
    ·rw [h0] at hjl;omega
    ·exact h0
   obtain ⟨b,o',hp,hh⟩:=hsl.cells hm0
   cases hp
   rw [Addr.add_lit]
   have hdiv:j / K<m:=(Nat.div_lt_iff_lt_mul hK).2 hjl
   have hmod:j % K<K:=Nat.mod_lt _ hK
   have hj2:j / K * K+j % K=j:=by rw [Nat.mul_comm];exact Nat.div_add_mod j K
   obtain ⟨r,hr⟩:∃ r,M[j / K]?=some r:=⟨M[j / K]'(by rw [hsl.len];exact hdiv),by simp⟩
   obtain ⟨v,hv⟩:∃ v,r[j % K]?=some v:=⟨r[j % K]'(by rw [hsl.wid r (List.mem_of_getElem? hr)];exact hmod),by simp⟩
   have e:=flatten_at M hsl.wid _ _ hr _ _ hv
   rw [hj2,hj] at e
   cases e
   have:=hh _ _ hr _ _ hv
   rwa [hj2] at this
  ·intro u hu
   obtain ⟨r,hr,hur⟩:=List.mem_flatten.1 hu
   exact hone r hr u hur
  ·intro v' w' ho' hg _
   obtain ⟨p',cap',rfl,hO⟩:=shape v' w' ho'
   rw [ownBlock_slice] at hg
   exact h p' cap' w' hO hg
end
section
open Go Go.Sort Go.RowKit
def I64 (a:Int):Prop:=-9223372036854775808≤a∧a≤9223372036854775807
theorem i64_wf {x:Int} (h:I64 x):(Lit.int .i64 x).wf=true:=WalkArith.wf_i64 h
structure EnD where
 fr:Int
 bt:Int
 sq:Int
 od:Int
 lv:Int
 st:Int
 da:ByteArray
def EnOk (e:EnD):Prop:=I64 e.fr∧I64 e.bt∧I64 e.sq∧I64 e.od∧I64 e.lv∧I64 e.st∧e.da.size≤9223372036854775807
def enL (e:EnD):List Value:=[.int .i64 e.fr,.int .i64 e.bt,.int .i64 e.sq,.int .i64 e.od,.int .i64 e.lv,.int .i64 e.st,.string e.da]
abbrev enA (e:EnD):Array Value:=#[.int .i64 e.fr,.int .i64 e.bt,.int .i64 e.sq,.int .i64 e.od,.int .i64 e.lv,.int .i64 e.st,.string e.da]
abbrev enV (e:EnD):Value:=.agg (enA e)
def inB (a b x:Int):Bool:=decide (a≤x)&&decide (x≤b)
def mayB (e:EnD):Bool:=inB 1 7 e.fr&&(inB 1 1099511627776 e.bt&&(inB 1 1099511627776 e.sq&&(inB 0 2 e.od&&(inB 0 2 e.lv&&(inB 0 1099511627776 e.st&&decide (e.da.size≤16))))))
def sameB (a b:EnD):Bool:=decide (a.fr=b.fr)&&(decide (a.bt=b.bt)&&decide (a.sq=b.sq))
def eqB (a b:EnD):Bool:=sameB a b&&(decide (a.od=b.od)&&(decide (a.lv=b.lv)&&(decide (a.st=b.st)&&decide (a.da=b.da))))
theorem in_any {p:Option Addr} {n cap:Nat} {zs:List Int} {w:World} (a b:Int) (h:SlI .i64 w p n cap zs) :
  Calls Tryz.prog 164 #[.int .i64 a,.int .i64 b,.slice p n cap] w fun e w'=>e=.returned (.bool (zs.all (inB a b)))∧w=w':=by
 have hn:n≤9223372036854775807:=Nat.le_trans h.le h.max
 have H:=hI h
 clear h
 go_enter Tryz.func164,Tryz.ntmps164
 go_wp2
 go_loop [11] (fun i=>∃ k:Nat,k≤n∧(zs.take k).all (inB a b)=true∧i=.int .i64 k) (fun i=>n-(intOf i).toNat)
 case atStart=>exact ⟨0,by omega,rfl,rfl⟩
 case round=>
  obtain ⟨k,hk,ha,rfl⟩:=hrel
  have HA:=hI ha
  clear ha
  by_cases hlt:k<n
  ·obtain ⟨bb,o,x,rfl,hx,hcell,hwf⟩:=H.o.at k hlt
   have HX:=hI hx
   clear hx hwf
   cases ht:inB a b x
   ·have hall:zs.all (inB a b)=false:=by
     rw [List.all_eq_false]
     exact ⟨x,List.mem_of_getElem? HX.o,by rw [ht];decide⟩
    have HB:=hI hall
    have hT:x<a∨b<x:=by
     have:¬ (inB a b x=true):=by rw [ht];decide
     simp only [inB,Bool.and_eq_true,decide_eq_true_eq] at this
     omega
    clear hall ht
    by_cases hT2:x<a
    ·go_wp2
     go_ret
     exact ⟨by rw [HB.o];rfl,rfl⟩
    ·have hT3:b<x:=by omega
     go_wp2
     go_ret
     exact ⟨by rw [HB.o];rfl,rfl⟩
   ·have hall:(zs.take (k+1)).all (inB a b)=true:=by
     rw [List.take_add_one,HX.o,List.all_append,HA.o]
     simp [ht]
    have HL:=hI hall
    have hT:a≤x∧x≤b:=by simpa [inB] using ht
    obtain ⟨t1,t2⟩:=hT
    have t3:¬ x<a:=by omega
    have t4:¬ b<x:=by omega
    clear hall ht
    go_wp2
    go_round
    case rel=>exact ⟨k+1,by omega,HL.o,by go_num⟩
    case measure=>simp [intOf];omega
  ·have e:zs.take k=zs:=List.take_of_length_le (by rw [H.o.len];omega)
   rw [e] at HA
   clear e
   go_wp2
   go_ret
   exact ⟨by rw [HA.o];rfl,rfl⟩
theorem in_ext {p:Option Addr} {n cap:Nat} {zs:List Int} {w:World} (a b:Int) (h:SlI .i64 w p n cap zs) :
  Calls Tryz.prog 164 #[.int .i64 a,.int .i64 b,.slice p n cap] w fun e w'=>e=.returned (.bool (zs.all (inB a b)))∧Ext w w':=
 (in_any a b h).mono fun e w' ⟨h1,h2⟩=>⟨h1,by rw [h2];exact Ext.rfl' _⟩
structure EnBox (w:World) (g:Nat) (e:EnD):Prop where
 c0:w.cell? ⟨g,0,none⟩=some (.int .i64 e.fr)
 c1:w.cell? ⟨g,1,none⟩=some (.int .i64 e.bt)
 c2:w.cell? ⟨g,2,none⟩=some (.int .i64 e.sq)
 c3:w.cell? ⟨g,3,none⟩=some (.int .i64 e.od)
 c4:w.cell? ⟨g,4,none⟩=some (.int .i64 e.lv)
 c5:w.cell? ⟨g,5,none⟩=some (.int .i64 e.st)
 c6:w.cell? ⟨g,6,none⟩=some (.string e.da)
theorem EnBox.ext {w w':World} {g:Nat} {e:EnD} (h:EnBox w g e) (k:Ext w w'):EnBox w' g e:=
 ⟨Ext.cell k h.c0,Ext.cell k h.c1,Ext.cell k h.c2,Ext.cell k h.c3,Ext.cell k h.c4,Ext.cell k h.c5,Ext.cell k h.c6⟩
theorem EnBox.new (w:World) (e:EnD) (t:TypeId):EnBox (w.alloc (.cells (enA e) t)) w.heap.size e:=
 ⟨World.cell?_alloc_mark ..,World.cell?_alloc_mark ..,World.cell?_alloc_mark ..,World.cell?_alloc_mark ..,World.cell?_alloc_mark ..,World.cell?_alloc_mark ..,World.cell?_alloc_mark ..⟩
theorem SlI.lit' (e:TypeId) (w:World) (g n:Nat) (cur:Array Value) (zs:List Int) (hg:g=w.heap.size) (hl:zs.length=n) (hcur:cur.toList=zs.map (Value.int .i64)) (hn:n≤1000) (hw:∀ x ∈ zs,I64 x) :
  SlI .i64 (w.alloc (.cells cur e)) (some ⟨g,0,none⟩) n n zs:=by
 subst hg
 exact SlI.lit .i64 e w n cur (0,0) zs hl hcur (by omega) (fun x hx=>i64_wf (hw x hx))
theorem may_any {e:EnD} {w:World} (he:EnOk e):Calls Tryz.prog 121 #[enV e] w fun x w'=>x=.returned (.bool (mayB e))∧Ext w w':=by
 obtain ⟨f1,f2,f3,f4,f5,f6,dat⟩:=e
 obtain ⟨i1,i2,i3,i4,i5,i6,i7⟩:=he
 simp only at i1 i2 i3 i4 i5 i6 i7
 obtain ⟨B,hB⟩:∃ B,B=mayB ⟨f1,f2,f3,f4,f5,f6,dat⟩:=⟨_,rfl⟩
 rw [← hB]
 have W1:Hid (∀ x ∈ [f1],I64 x):=hI (by simpa using i1)
 have W2:Hid (∀ x ∈ [f2,f3],I64 x):=hI (by simp;exact ⟨i2,i3⟩)
 have W3:Hid (∀ x ∈ [f4,f5],I64 x):=hI (by simp;exact ⟨i4,i5⟩)
 have W4:Hid (∀ x ∈ [f6],I64 x):=hI (by simpa using i6)
 have hB2:B=([f1].all (inB 1 7)&&([f2,f3].all (inB 1 1099511627776)&&([f4,f5].all (inB 0 2)&&([f6].all (inB 0 1099511627776)&&decide (dat.size≤16))))):=by
  rw [hB]
  simp [mayB,Bool.and_assoc]
 clear hB i1 i2 i3 i4 i5 i6
 have X1:=hI (Ext.alloc w (.cells (enA ⟨f1,f2,f3,f4,f5,f6,dat⟩) 71))
 have D1:=hI (EnBox.new w ⟨f1,f2,f3,f4,f5,f6,dat⟩ 71)
 cases g1:[f1].all (inB 1 7)
 ·rw [g1] at hB2
  simp only [Bool.false_and] at hB2
  subst hB2
  have G1:=hI g1
  clear g1
  go_enter Tryz.func121,Tryz.ntmps121
  go_wp2_with fail
  refine (in_ext 1 7 (SlI.lit' 2 _ _ 1 #[.int .i64 f1] [f1] (by simp) rfl rfl (by omega) W1.o)).mono ?_
  rw [G1.o]
  rintro x w2 ⟨rfl,x2⟩
  have X2:=hI (X1.o.tr ((Ext.alloc _ (.cells #[.int .i64 f1] 2)).tr x2))
  have D2:=hI (D1.o.ext ((Ext.alloc _ (.cells #[.int .i64 f1] 2)).tr x2))
  clear x2
  obtain ⟨c0,c1,c2,c3,c4,c5,c6⟩:=D2.o
  simp only at c0 c1 c2 c3 c4 c5 c6
  go_wp2
  go_ret
  exact ⟨rfl,X2.o⟩
 rw [g1] at hB2
 have G1:=hI g1
 clear g1
 cases g2:[f2,f3].all (inB 1 1099511627776)
 ·rw [g2] at hB2
  simp only [Bool.true_and,Bool.false_and] at hB2
  subst hB2
  have G2:=hI g2
  clear g2
  go_enter Tryz.func121,Tryz.ntmps121
  go_wp2_with fail
  refine (in_ext 1 7 (SlI.lit' 2 _ _ 1 #[.int .i64 f1] [f1] (by simp) rfl rfl (by omega) W1.o)).mono ?_
  rw [G1.o]
  rintro x w2 ⟨rfl,x2⟩
  have X2:=hI (X1.o.tr ((Ext.alloc _ (.cells #[.int .i64 f1] 2)).tr x2))
  have D2:=hI (D1.o.ext ((Ext.alloc _ (.cells #[.int .i64 f1] 2)).tr x2))
  clear x2
  obtain ⟨c0,c1,c2,c3,c4,c5,c6⟩:=D2.o
  simp only at c0 c1 c2 c3 c4 c5 c6
  go_wp2_with fail
  clear c0 c1 c2 c3 c4 c5 c6
  refine (in_ext 1 1099511627776 (SlI.lit' 2 _ _ 2 #[.int .i64 f2,.int .i64 f3] [f2,f3] (by simp) rfl rfl (by omega) W2.o)).mono ?_
  rw [G2.o]
  rintro x w3 ⟨rfl,x2⟩
  have X3:=hI (X2.o.tr ((Ext.alloc _ (.cells #[.int .i64 f2,.int .i64 f3] 2)).tr x2))
  have D3:=hI (D2.o.ext ((Ext.alloc _ (.cells #[.int .i64 f2,.int .i64 f3] 2)).tr x2))
  clear x2
  obtain ⟨c0,c1,c2,c3,c4,c5,c6⟩:=D3.o
  simp only at c0 c1 c2 c3 c4 c5 c6
  go_wp2
  go_ret
  exact ⟨rfl,X3.o⟩
 rw [g2] at hB2
 have G2:=hI g2
 clear g2
 cases g3:[f4,f5].all (inB 0 2)
 ·rw [g3] at hB2
  simp only [Bool.true_and,Bool.false_and] at hB2
  subst hB2
  have G3:=hI g3
  clear g3
  go_enter Tryz.func121,Tryz.ntmps121
  go_wp2_with fail
  refine (in_ext 1 7 (SlI.lit' 2 _ _ 1 #[.int .i64 f1] [f1] (by simp) rfl rfl (by omega) W1.o)).mono ?_
  rw [G1.o]
  rintro x w2 ⟨rfl,x2⟩
  have X2:=hI (X1.o.tr ((Ext.alloc _ (.cells #[.int .i64 f1] 2)).tr x2))
  have D2:=hI (D1.o.ext ((Ext.alloc _ (.cells #[.int .i64 f1] 2)).tr x2))
  clear x2
  obtain ⟨c0,c1,c2,c3,c4,c5,c6⟩:=D2.o
  simp only at c0 c1 c2 c3 c4 c5 c6
  go_wp2_with fail
  clear c0 c1 c2 c3 c4 c5 c6
  refine (in_ext 1 1099511627776 (SlI.lit' 2 _ _ 2 #[.int .i64 f2,.int .i64 f3] [f2,f3] (by simp) rfl rfl (by omega) W2.o)).mono ?_
  rw [G2.o]
  rintro x w3 ⟨rfl,x2⟩
  have X3:=hI (X2.o.tr ((Ext.alloc _ (.cells #[.int .i64 f2,.int .i64 f3] 2)).tr x2))
  have D3:=hI (D2.o.ext ((Ext.alloc _ (.cells #[.int .i64 f2,.int .i64 f3] 2)).tr x2))
  clear x2
  obtain ⟨c0,c1,c2,c3,c4,c5,c6⟩:=D3.o
  simp only at c0 c1 c2 c3 c4 c5 c6
  go_wp2_with fail
  clear c0 c1 c2 c3 c4 c5 c6
  refine (in_ext 0 2 (SlI.lit' 2 _ _ 2 #[.int .i64 f4,.int .i64 f5] [f4,f5] (by simp) rfl rfl (by omega) W3.o)).mono ?_
  rw [G3.o]
  rintro x w4 ⟨rfl,x2⟩
  have X4:=hI (X3.o.tr ((Ext.alloc _ (.cells #[.int .i64 f4,.int .i64 f5] 2)).tr x2))
  have D4:=hI (D3.o.ext ((Ext.alloc _ (.cells #[.int .i64 f4,.int .i64 f5] 2)).tr x2))
  clear x2
  obtain ⟨c0,c1,c2,c3,c4,c5,c6⟩:=D4.o
  simp only at c0 c1 c2 c3 c4 c5 c6
  go_wp2
  go_ret
  exact ⟨rfl,X4.o⟩
 rw [g3] at hB2
 have G3:=hI g3
 clear g3
 cases g4:[f6].all (inB 0 1099511627776)
 ·rw [g4] at hB2
  simp only [Bool.true_and,Bool.false_and] at hB2
  subst hB2
  have G4:=hI g4
  clear g4
  go_enter Tryz.func121,Tryz.ntmps121
  go_wp2_with fail
  refine (in_ext 1 7 (SlI.lit' 2 _ _ 1 #[.int .i64 f1] [f1] (by simp) rfl rfl (by omega) W1.o)).mono ?_
  rw [G1.o]
  rintro x w2 ⟨rfl,x2⟩
  have X2:=hI (X1.o.tr ((Ext.alloc _ (.cells #[.int .i64 f1] 2)).tr x2))
  have D2:=hI (D1.o.ext ((Ext.alloc _ (.cells #[.int .i64 f1] 2)).tr x2))
  clear x2
  obtain ⟨c0,c1,c2,c3,c4,c5,c6⟩:=D2.o
  simp only at c0 c1 c2 c3 c4 c5 c6
  go_wp2_with fail
  clear c0 c1 c2 c3 c4 c5 c6
  refine (in_ext 1 1099511627776 (SlI.lit' 2 _ _ 2 #[.int .i64 f2,.int .i64 f3] [f2,f3] (by simp) rfl rfl (by omega) W2.o)).mono ?_
  rw [G2.o]
  rintro x w3 ⟨rfl,x2⟩
  have X3:=hI (X2.o.tr ((Ext.alloc _ (.cells #[.int .i64 f2,.int .i64 f3] 2)).tr x2))
  have D3:=hI (D2.o.ext ((Ext.alloc _ (.cells #[.int .i64 f2,.int .i64 f3] 2)).tr x2))
  clear x2
  obtain ⟨c0,c1,c2,c3,c4,c5,c6⟩:=D3.o
  simp only at c0 c1 c2 c3 c4 c5 c6
  go_wp2_with fail
  clear c0 c1 c2 c3 c4 c5 c6
  refine (in_ext 0 2 (SlI.lit' 2 _ _ 2 #[.int .i64 f4,.int .i64 f5] [f4,f5] (by simp) rfl rfl (by omega) W3.o)).mono ?_
  rw [G3.o]
  rintro x w4 ⟨rfl,x2⟩
  have X4:=hI (X3.o.tr ((Ext.alloc _ (.cells #[.int .i64 f4,.int .i64 f5] 2)).tr x2))
  have D4:=hI (D3.o.ext ((Ext.alloc _ (.cells #[.int .i64 f4,.int .i64 f5] 2)).tr x2))
  clear x2
  obtain ⟨c0,c1,c2,c3,c4,c5,c6⟩:=D4.o
  simp only at c0 c1 c2 c3 c4 c5 c6
  go_wp2_with fail
  clear c0 c1 c2 c3 c4 c5 c6
  refine (in_ext 0 1099511627776 (SlI.lit' 2 _ _ 1 #[.int .i64 f6] [f6] (by simp) rfl rfl (by omega) W4.o)).mono ?_
  rw [G4.o]
  rintro x w5 ⟨rfl,x2⟩
  have X5:=hI (X4.o.tr ((Ext.alloc _ (.cells #[.int .i64 f6] 2)).tr x2))
  have D5:=hI (D4.o.ext ((Ext.alloc _ (.cells #[.int .i64 f6] 2)).tr x2))
  clear x2
  obtain ⟨c0,c1,c2,c3,c4,c5,c6⟩:=D5.o
  simp only at c0 c1 c2 c3 c4 c5 c6
  go_wp2
  go_ret
  exact ⟨rfl,X5.o⟩
 rw [g4] at hB2
 have G4:=hI g4
 clear g4
 rw [Bool.true_and,Bool.true_and,Bool.true_and,Bool.true_and] at hB2
 by_cases hd:(dat.size:Int)≤16
 ·rw [decide_eq_true (by omega)] at hB2
  subst hB2
  go_enter Tryz.func121,Tryz.ntmps121
  go_wp2_with fail
  refine (in_ext 1 7 (SlI.lit' 2 _ _ 1 #[.int .i64 f1] [f1] (by simp) rfl rfl (by omega) W1.o)).mono ?_
  rw [G1.o]
  rintro x w2 ⟨rfl,x2⟩
  have X2:=hI (X1.o.tr ((Ext.alloc _ (.cells #[.int .i64 f1] 2)).tr x2))
  have D2:=hI (D1.o.ext ((Ext.alloc _ (.cells #[.int .i64 f1] 2)).tr x2))
  clear x2
  obtain ⟨c0,c1,c2,c3,c4,c5,c6⟩:=D2.o
  simp only at c0 c1 c2 c3 c4 c5 c6
  go_wp2_with fail
  clear c0 c1 c2 c3 c4 c5 c6
  refine (in_ext 1 1099511627776 (SlI.lit' 2 _ _ 2 #[.int .i64 f2,.int .i64 f3] [f2,f3] (by simp) rfl rfl (by omega) W2.o)).mono ?_
  rw [G2.o]
  rintro x w3 ⟨rfl,x2⟩
  have X3:=hI (X2.o.tr ((Ext.alloc _ (.cells #[.int .i64 f2,.int .i64 f3] 2)).tr x2))
  have D3:=hI (D2.o.ext ((Ext.alloc _ (.cells #[.int .i64 f2,.int .i64 f3] 2)).tr x2))
  clear x2
  obtain ⟨c0,c1,c2,c3,c4,c5,c6⟩:=D3.o
  simp only at c0 c1 c2 c3 c4 c5 c6
  go_wp2_with fail
  clear c0 c1 c2 c3 c4 c5 c6
  refine (in_ext 0 2 (SlI.lit' 2 _ _ 2 #[.int .i64 f4,.int .i64 f5] [f4,f5] (by simp) rfl rfl (by omega) W3.o)).mono ?_
  rw [G3.o]
  rintro x w4 ⟨rfl,x2⟩
  have X4:=hI (X3.o.tr ((Ext.alloc _ (.cells #[.int .i64 f4,.int .i64 f5] 2)).tr x2))
  have D4:=hI (D3.o.ext ((Ext.alloc _ (.cells #[.int .i64 f4,.int .i64 f5] 2)).tr x2))
  clear x2
  obtain ⟨c0,c1,c2,c3,c4,c5,c6⟩:=D4.o
  simp only at c0 c1 c2 c3 c4 c5 c6
  go_wp2_with fail
  clear c0 c1 c2 c3 c4 c5 c6
  refine (in_ext 0 1099511627776 (SlI.lit' 2 _ _ 1 #[.int .i64 f6] [f6] (by simp) rfl rfl (by omega) W4.o)).mono ?_
  rw [G4.o]
  rintro x w5 ⟨rfl,x2⟩
  have X5:=hI (X4.o.tr ((Ext.alloc _ (.cells #[.int .i64 f6] 2)).tr x2))
  have D5:=hI (D4.o.ext ((Ext.alloc _ (.cells #[.int .i64 f6] 2)).tr x2))
  clear x2
  obtain ⟨c0,c1,c2,c3,c4,c5,c6⟩:=D5.o
  simp only at c0 c1 c2 c3 c4 c5 c6
  go_wp2
  go_ret
  exact ⟨rfl,X5.o⟩
 ·rw [decide_eq_false (by omega)] at hB2
  subst hB2
  have hd2:decide ((dat.size:Int)≤16)=false:=decide_eq_false hd
  go_enter Tryz.func121,Tryz.ntmps121
  go_wp2_with fail
  refine (in_ext 1 7 (SlI.lit' 2 _ _ 1 #[.int .i64 f1] [f1] (by simp) rfl rfl (by omega) W1.o)).mono ?_
  rw [G1.o]
  rintro x w2 ⟨rfl,x2⟩
  have X2:=hI (X1.o.tr ((Ext.alloc _ (.cells #[.int .i64 f1] 2)).tr x2))
  have D2:=hI (D1.o.ext ((Ext.alloc _ (.cells #[.int .i64 f1] 2)).tr x2))
  clear x2
  obtain ⟨c0,c1,c2,c3,c4,c5,c6⟩:=D2.o
  simp only at c0 c1 c2 c3 c4 c5 c6
  go_wp2_with fail
  clear c0 c1 c2 c3 c4 c5 c6
  refine (in_ext 1 1099511627776 (SlI.lit' 2 _ _ 2 #[.int .i64 f2,.int .i64 f3] [f2,f3] (by simp) rfl rfl (by omega) W2.o)).mono ?_
  rw [G2.o]
  rintro x w3 ⟨rfl,x2⟩
  have X3:=hI (X2.o.tr ((Ext.alloc _ (.cells #[.int .i64 f2,.int .i64 f3] 2)).tr x2))
  have D3:=hI (D2.o.ext ((Ext.alloc _ (.cells #[.int .i64 f2,.int .i64 f3] 2)).tr x2))
  clear x2
  obtain ⟨c0,c1,c2,c3,c4,c5,c6⟩:=D3.o
  simp only at c0 c1 c2 c3 c4 c5 c6
  go_wp2_with fail
  clear c0 c1 c2 c3 c4 c5 c6
  refine (in_ext 0 2 (SlI.lit' 2 _ _ 2 #[.int .i64 f4,.int .i64 f5] [f4,f5] (by simp) rfl rfl (by omega) W3.o)).mono ?_
  rw [G3.o]
  rintro x w4 ⟨rfl,x2⟩
  have X4:=hI (X3.o.tr ((Ext.alloc _ (.cells #[.int .i64 f4,.int .i64 f5] 2)).tr x2))
  have D4:=hI (D3.o.ext ((Ext.alloc _ (.cells #[.int .i64 f4,.int .i64 f5] 2)).tr x2))
  clear x2
  obtain ⟨c0,c1,c2,c3,c4,c5,c6⟩:=D4.o
  simp only at c0 c1 c2 c3 c4 c5 c6
  go_wp2_with fail
  clear c0 c1 c2 c3 c4 c5 c6
  refine (in_ext 0 1099511627776 (SlI.lit' 2 _ _ 1 #[.int .i64 f6] [f6] (by simp) rfl rfl (by omega) W4.o)).mono ?_
  rw [G4.o]
  rintro x w5 ⟨rfl,x2⟩
  have X5:=hI (X4.o.tr ((Ext.alloc _ (.cells #[.int .i64 f6] 2)).tr x2))
  have D5:=hI (D4.o.ext ((Ext.alloc _ (.cells #[.int .i64 f6] 2)).tr x2))
  clear x2
  obtain ⟨c0,c1,c2,c3,c4,c5,c6⟩:=D5.o
  simp only at c0 c1 c2 c3 c4 c5 c6
  go_wp2
  go_ret
  exact ⟨rfl,X5.o⟩
end
section
open Go Go.Sort Go.RowKit
theorem str_ne {a b:ByteArray} (h:¬ a=b):(a.toList==b.toList)=false:=by
 refine beq_eq_false_iff_ne.2 fun e=>h ?_
 rw [ByteArray.toList_eq,ByteArray.toList_eq] at e
 exact Go.WideShapes.bytes_inj e
theorem EnBox.new' (w:World) (e:EnD) (t:TypeId) (g:Nat) (hg:g=w.heap.size):EnBox (w.alloc (.cells (enA e) t)) g e:=by subst hg;exact EnBox.new w e t
theorem same_any {a b:EnD} {w:World}:Calls Tryz.prog 194 #[enV a,enV b] w fun x w'=>x=.returned (.bool (sameB a b))∧Ext w w':=by
 obtain ⟨f1,f2,f3,f4,f5,f6,dat⟩:=a
 obtain ⟨g1,g2,g3,g4,g5,g6,gat⟩:=b
 obtain ⟨B,hB⟩:∃ B,B=sameB ⟨f1,f2,f3,f4,f5,f6,dat⟩ ⟨g1,g2,g3,g4,g5,g6,gat⟩:=⟨_,rfl⟩
 rw [← hB]
 have X1:=hI ((Ext.alloc w (.cells (enA ⟨f1,f2,f3,f4,f5,f6,dat⟩) 71)).tr (Ext.alloc _ (.cells (enA ⟨g1,g2,g3,g4,g5,g6,gat⟩) 71)))
 unfold sameB at hB
 simp only at hB
 by_cases d0:f1=g1
 ·subst d0
  rw [decide_eq_true rfl] at hB
  by_cases d1:f2=g2
  ·subst d1
   rw [decide_eq_true rfl] at hB
   by_cases d2:f3=g3
   ·subst d2
    rw [decide_eq_true rfl] at hB
    simp only [Bool.true_and] at hB
    subst hB
    go_enter Tryz.func194,Tryz.ntmps194
    go_wp2
    go_ret
    exact ⟨rfl,X1.o⟩
   ·rw [decide_eq_false d2] at hB
    simp only [Bool.true_and] at hB
    subst hB
    have n2:(f3==g3)=false:=beq_eq_false_iff_ne.2 d2
    clear d2
    go_enter Tryz.func194,Tryz.ntmps194
    go_wp2
    go_ret
    exact ⟨rfl,X1.o⟩
  ·rw [decide_eq_false d1] at hB
   simp only [Bool.true_and,Bool.false_and] at hB
   subst hB
   have n1:(f2==g2)=false:=beq_eq_false_iff_ne.2 d1
   clear d1
   go_enter Tryz.func194,Tryz.ntmps194
   go_wp2
   go_ret
   exact ⟨rfl,X1.o⟩
 ·rw [decide_eq_false d0] at hB
  simp only [Bool.false_and] at hB
  subst hB
  have n0:(f1==g1)=false:=beq_eq_false_iff_ne.2 d0
  clear d0
  go_enter Tryz.func194,Tryz.ntmps194
  go_wp2
  go_ret
  exact ⟨rfl,X1.o⟩
theorem same_ref {a b:EnD} {w:World}:Calls Tryz.prog 60 #[enV a,enV b] w fun x w'=>x=.returned (.bool (sameB a b))∧Ext w w':=by
 obtain ⟨f1,f2,f3,f4,f5,f6,dat⟩:=a
 obtain ⟨g1,g2,g3,g4,g5,g6,gat⟩:=b
 obtain ⟨B,hB⟩:∃ B,B=sameB ⟨f1,f2,f3,f4,f5,f6,dat⟩ ⟨g1,g2,g3,g4,g5,g6,gat⟩:=⟨_,rfl⟩
 rw [← hB]
 have X1:=hI ((Ext.alloc w (.cells (enA ⟨f1,f2,f3,f4,f5,f6,dat⟩) 71)).tr (Ext.alloc _ (.cells (enA ⟨g1,g2,g3,g4,g5,g6,gat⟩) 71)))
 unfold sameB at hB
 simp only at hB
 by_cases d0:f1=g1
 ·subst d0
  rw [decide_eq_true rfl] at hB
  by_cases d1:f2=g2
  ·subst d1
   rw [decide_eq_true rfl] at hB
   by_cases d2:f3=g3
   ·subst d2
    rw [decide_eq_true rfl] at hB
    simp only [Bool.true_and] at hB
    subst hB
    go_enter Tryz.func60,Tryz.ntmps60
    go_wp2
    go_ret
    exact ⟨rfl,X1.o⟩
   ·rw [decide_eq_false d2] at hB
    simp only [Bool.true_and] at hB
    subst hB
    have n2:(f3==g3)=false:=beq_eq_false_iff_ne.2 d2
    clear d2
    go_enter Tryz.func60,Tryz.ntmps60
    go_wp2
    go_ret
    exact ⟨rfl,X1.o⟩
  ·rw [decide_eq_false d1] at hB
   simp only [Bool.true_and,Bool.false_and] at hB
   subst hB
   have n1:(f2==g2)=false:=beq_eq_false_iff_ne.2 d1
   clear d1
   go_enter Tryz.func60,Tryz.ntmps60
   go_wp2
   go_ret
   exact ⟨rfl,X1.o⟩
 ·rw [decide_eq_false d0] at hB
  simp only [Bool.false_and] at hB
  subst hB
  have n0:(f1==g1)=false:=beq_eq_false_iff_ne.2 d0
  clear d0
  go_enter Tryz.func60,Tryz.ntmps60
  go_wp2
  go_ret
  exact ⟨rfl,X1.o⟩
theorem eq_any {a b:EnD} {w:World}:Calls Tryz.prog 199 #[enV a,enV b] w fun x w'=>x=.returned (.bool (eqB a b))∧Ext w w':=by
 obtain ⟨f1,f2,f3,f4,f5,f6,dat⟩:=a
 obtain ⟨g1,g2,g3,g4,g5,g6,gat⟩:=b
 obtain ⟨B,hB⟩:∃ B,B=eqB ⟨f1,f2,f3,f4,f5,f6,dat⟩ ⟨g1,g2,g3,g4,g5,g6,gat⟩:=⟨_,rfl⟩
 rw [← hB]
 have X1:=hI ((Ext.alloc w (.cells (enA ⟨f1,f2,f3,f4,f5,f6,dat⟩) 71)).tr (Ext.alloc _ (.cells (enA ⟨g1,g2,g3,g4,g5,g6,gat⟩) 71)))
 have SH:=hI (fun w=>same_any (a:=⟨f1,f2,f3,f4,f5,f6,dat⟩) (b:=⟨g1,g2,g3,g4,g5,g6,gat⟩) (w:=w))
 unfold eqB at hB
 simp only at hB
 generalize sameB ⟨f1,f2,f3,f4,f5,f6,dat⟩ ⟨g1,g2,g3,g4,g5,g6,gat⟩=S at *
 cases S
 ·simp only [Bool.false_and] at hB
  subst hB
  go_enter Tryz.func199,Tryz.ntmps199
  go_wp2_with fail
  refine (SH.o _).mono ?_
  rintro x w2 ⟨rfl,x2⟩
  have X2:=hI (X1.o.tr x2)
  have D1:=(((EnBox.new w ⟨f1,f2,f3,f4,f5,f6,dat⟩ 71).ext (Ext.alloc _ (.cells (enA ⟨g1,g2,g3,g4,g5,g6,gat⟩) 71))).ext x2)
  have D2:=(EnBox.new' (w.alloc (.cells (enA ⟨f1,f2,f3,f4,f5,f6,dat⟩) 71)) ⟨g1,g2,g3,g4,g5,g6,gat⟩ 71 (w.heap.size+1) (by simp)).ext x2
  obtain ⟨p0,p1,p2,p3,p4,p5,p6⟩:=D1
  obtain ⟨q0,q1,q2,q3,q4,q5,q6⟩:=D2
  simp only at p0 p1 p2 p3 p4 p5 p6 q0 q1 q2 q3 q4 q5 q6
  clear x2
  go_wp2
  go_ret
  exact ⟨rfl,X2.o⟩
 by_cases d0:f4=g4
 ·subst d0
  rw [decide_eq_true rfl] at hB
  by_cases d1:f5=g5
  ·subst d1
   rw [decide_eq_true rfl] at hB
   by_cases d2:f6=g6
   ·subst d2
    rw [decide_eq_true rfl] at hB
    by_cases d3:dat=gat
    ·subst d3
     rw [decide_eq_true rfl] at hB
     simp only [Bool.true_and] at hB
     subst hB
     go_enter Tryz.func199,Tryz.ntmps199
     go_wp2_with fail
     refine (SH.o _).mono ?_
     rintro x w2 ⟨rfl,x2⟩
     have X2:=hI (X1.o.tr x2)
     have D1:=(((EnBox.new w ⟨f1,f2,f3,f4,f5,f6,dat⟩ 71).ext (Ext.alloc _ (.cells (enA ⟨g1,g2,g3,f4,f5,f6,dat⟩) 71))).ext x2)
     have D2:=(EnBox.new' (w.alloc (.cells (enA ⟨f1,f2,f3,f4,f5,f6,dat⟩) 71)) ⟨g1,g2,g3,f4,f5,f6,dat⟩ 71 (w.heap.size+1) (by simp)).ext x2
     obtain ⟨p0,p1,p2,p3,p4,p5,p6⟩:=D1
     obtain ⟨q0,q1,q2,q3,q4,q5,q6⟩:=D2
     simp only at p0 p1 p2 p3 p4 p5 p6 q0 q1 q2 q3 q4 q5 q6
     clear x2
     go_wp2
     go_ret
     exact ⟨rfl,X2.o⟩
    ·rw [decide_eq_false d3] at hB
     simp only [Bool.true_and] at hB
     subst hB
     have nd:(dat.toList==gat.toList)=false:=str_ne d3
     go_enter Tryz.func199,Tryz.ntmps199
     go_wp2_with fail
     refine (SH.o _).mono ?_
     rintro x w2 ⟨rfl,x2⟩
     have X2:=hI (X1.o.tr x2)
     have D1:=(((EnBox.new w ⟨f1,f2,f3,f4,f5,f6,dat⟩ 71).ext (Ext.alloc _ (.cells (enA ⟨g1,g2,g3,f4,f5,f6,gat⟩) 71))).ext x2)
     have D2:=(EnBox.new' (w.alloc (.cells (enA ⟨f1,f2,f3,f4,f5,f6,dat⟩) 71)) ⟨g1,g2,g3,f4,f5,f6,gat⟩ 71 (w.heap.size+1) (by simp)).ext x2
     obtain ⟨p0,p1,p2,p3,p4,p5,p6⟩:=D1
     obtain ⟨q0,q1,q2,q3,q4,q5,q6⟩:=D2
     simp only at p0 p1 p2 p3 p4 p5 p6 q0 q1 q2 q3 q4 q5 q6
     clear x2
     go_wp2
     go_ret
     exact ⟨rfl,X2.o⟩
   ·rw [decide_eq_false d2] at hB
    simp only [Bool.true_and,Bool.false_and] at hB
    subst hB
    have n2:(f6==g6)=false:=beq_eq_false_iff_ne.2 d2
    clear d2
    go_enter Tryz.func199,Tryz.ntmps199
    go_wp2_with fail
    refine (SH.o _).mono ?_
    rintro x w2 ⟨rfl,x2⟩
    have X2:=hI (X1.o.tr x2)
    have D1:=(((EnBox.new w ⟨f1,f2,f3,f4,f5,f6,dat⟩ 71).ext (Ext.alloc _ (.cells (enA ⟨g1,g2,g3,f4,f5,g6,gat⟩) 71))).ext x2)
    have D2:=(EnBox.new' (w.alloc (.cells (enA ⟨f1,f2,f3,f4,f5,f6,dat⟩) 71)) ⟨g1,g2,g3,f4,f5,g6,gat⟩ 71 (w.heap.size+1) (by simp)).ext x2
    obtain ⟨p0,p1,p2,p3,p4,p5,p6⟩:=D1
    obtain ⟨q0,q1,q2,q3,q4,q5,q6⟩:=D2
    simp only at p0 p1 p2 p3 p4 p5 p6 q0 q1 q2 q3 q4 q5 q6
    clear x2
    go_wp2
    go_ret
    exact ⟨rfl,X2.o⟩
  ·rw [decide_eq_false d1] at hB
   simp only [Bool.true_and,Bool.false_and] at hB
   subst hB
   have n1:(f5==g5)=false:=beq_eq_false_iff_ne.2 d1
   clear d1
   go_enter Tryz.func199,Tryz.ntmps199
   go_wp2_with fail
   refine (SH.o _).mono ?_
   rintro x w2 ⟨rfl,x2⟩
   have X2:=hI (X1.o.tr x2)
   have D1:=(((EnBox.new w ⟨f1,f2,f3,f4,f5,f6,dat⟩ 71).ext (Ext.alloc _ (.cells (enA ⟨g1,g2,g3,f4,g5,g6,gat⟩) 71))).ext x2)
   have D2:=(EnBox.new' (w.alloc (.cells (enA ⟨f1,f2,f3,f4,f5,f6,dat⟩) 71)) ⟨g1,g2,g3,f4,g5,g6,gat⟩ 71 (w.heap.size+1) (by simp)).ext x2
   obtain ⟨p0,p1,p2,p3,p4,p5,p6⟩:=D1
   obtain ⟨q0,q1,q2,q3,q4,q5,q6⟩:=D2
   simp only at p0 p1 p2 p3 p4 p5 p6 q0 q1 q2 q3 q4 q5 q6
   clear x2
   go_wp2
   go_ret
   exact ⟨rfl,X2.o⟩
 ·rw [decide_eq_false d0] at hB
  simp only [Bool.true_and,Bool.false_and] at hB
  subst hB
  have n0:(f4==g4)=false:=beq_eq_false_iff_ne.2 d0
  clear d0
  go_enter Tryz.func199,Tryz.ntmps199
  go_wp2_with fail
  refine (SH.o _).mono ?_
  rintro x w2 ⟨rfl,x2⟩
  have X2:=hI (X1.o.tr x2)
  have D1:=(((EnBox.new w ⟨f1,f2,f3,f4,f5,f6,dat⟩ 71).ext (Ext.alloc _ (.cells (enA ⟨g1,g2,g3,g4,g5,g6,gat⟩) 71))).ext x2)
  have D2:=(EnBox.new' (w.alloc (.cells (enA ⟨f1,f2,f3,f4,f5,f6,dat⟩) 71)) ⟨g1,g2,g3,g4,g5,g6,gat⟩ 71 (w.heap.size+1) (by simp)).ext x2
  obtain ⟨p0,p1,p2,p3,p4,p5,p6⟩:=D1
  obtain ⟨q0,q1,q2,q3,q4,q5,q6⟩:=D2
  simp only at p0 p1 p2 p3 p4 p5 p6 q0 q1 q2 q3 q4 q5 q6
  clear x2
  go_wp2
  go_ret
  exact ⟨rfl,X2.o⟩
theorem eq_ref {a b:EnD} {w:World}:Calls Tryz.prog 61 #[enV a,enV b] w fun x w'=>x=.returned (.bool (eqB a b))∧Ext w w':=by
 obtain ⟨f1,f2,f3,f4,f5,f6,dat⟩:=a
 obtain ⟨g1,g2,g3,g4,g5,g6,gat⟩:=b
 obtain ⟨B,hB⟩:∃ B,B=eqB ⟨f1,f2,f3,f4,f5,f6,dat⟩ ⟨g1,g2,g3,g4,g5,g6,gat⟩:=⟨_,rfl⟩
 rw [← hB]
 have X1:=hI ((Ext.alloc w (.cells (enA ⟨f1,f2,f3,f4,f5,f6,dat⟩) 71)).tr (Ext.alloc _ (.cells (enA ⟨g1,g2,g3,g4,g5,g6,gat⟩) 71)))
 have SH:=hI (fun w=>same_ref (a:=⟨f1,f2,f3,f4,f5,f6,dat⟩) (b:=⟨g1,g2,g3,g4,g5,g6,gat⟩) (w:=w))
 unfold eqB at hB
 simp only at hB
 generalize sameB ⟨f1,f2,f3,f4,f5,f6,dat⟩ ⟨g1,g2,g3,g4,g5,g6,gat⟩=S at *
 cases S
 ·simp only [Bool.false_and] at hB
  subst hB
  go_enter Tryz.func61,Tryz.ntmps61
  go_wp2_with fail
  refine (SH.o _).mono ?_
  rintro x w2 ⟨rfl,x2⟩
  have X2:=hI (X1.o.tr x2)
  have D1:=(((EnBox.new w ⟨f1,f2,f3,f4,f5,f6,dat⟩ 71).ext (Ext.alloc _ (.cells (enA ⟨g1,g2,g3,g4,g5,g6,gat⟩) 71))).ext x2)
  have D2:=(EnBox.new' (w.alloc (.cells (enA ⟨f1,f2,f3,f4,f5,f6,dat⟩) 71)) ⟨g1,g2,g3,g4,g5,g6,gat⟩ 71 (w.heap.size+1) (by simp)).ext x2
  obtain ⟨p0,p1,p2,p3,p4,p5,p6⟩:=D1
  obtain ⟨q0,q1,q2,q3,q4,q5,q6⟩:=D2
  simp only at p0 p1 p2 p3 p4 p5 p6 q0 q1 q2 q3 q4 q5 q6
  clear x2
  go_wp2
  go_ret
  exact ⟨rfl,X2.o⟩
 by_cases d0:f4=g4
 ·subst d0
  rw [decide_eq_true rfl] at hB
  by_cases d1:f5=g5
  ·subst d1
   rw [decide_eq_true rfl] at hB
   by_cases d2:f6=g6
   ·subst d2
    rw [decide_eq_true rfl] at hB
    by_cases d3:dat=gat
    ·subst d3
     rw [decide_eq_true rfl] at hB
     simp only [Bool.true_and] at hB
     subst hB
     go_enter Tryz.func61,Tryz.ntmps61
     go_wp2_with fail
     refine (SH.o _).mono ?_
     rintro x w2 ⟨rfl,x2⟩
     have X2:=hI (X1.o.tr x2)
     have D1:=(((EnBox.new w ⟨f1,f2,f3,f4,f5,f6,dat⟩ 71).ext (Ext.alloc _ (.cells (enA ⟨g1,g2,g3,f4,f5,f6,dat⟩) 71))).ext x2)
     have D2:=(EnBox.new' (w.alloc (.cells (enA ⟨f1,f2,f3,f4,f5,f6,dat⟩) 71)) ⟨g1,g2,g3,f4,f5,f6,dat⟩ 71 (w.heap.size+1) (by simp)).ext x2
     obtain ⟨p0,p1,p2,p3,p4,p5,p6⟩:=D1
     obtain ⟨q0,q1,q2,q3,q4,q5,q6⟩:=D2
     simp only at p0 p1 p2 p3 p4 p5 p6 q0 q1 q2 q3 q4 q5 q6
     clear x2
     go_wp2
     go_ret
     exact ⟨rfl,X2.o⟩
    ·rw [decide_eq_false d3] at hB
     simp only [Bool.true_and] at hB
     subst hB
     have nd:(dat.toList==gat.toList)=false:=str_ne d3
     go_enter Tryz.func61,Tryz.ntmps61
     go_wp2_with fail
     refine (SH.o _).mono ?_
     rintro x w2 ⟨rfl,x2⟩
     have X2:=hI (X1.o.tr x2)
     have D1:=(((EnBox.new w ⟨f1,f2,f3,f4,f5,f6,dat⟩ 71).ext (Ext.alloc _ (.cells (enA ⟨g1,g2,g3,f4,f5,f6,gat⟩) 71))).ext x2)
     have D2:=(EnBox.new' (w.alloc (.cells (enA ⟨f1,f2,f3,f4,f5,f6,dat⟩) 71)) ⟨g1,g2,g3,f4,f5,f6,gat⟩ 71 (w.heap.size+1) (by simp)).ext x2
     obtain ⟨p0,p1,p2,p3,p4,p5,p6⟩:=D1
     obtain ⟨q0,q1,q2,q3,q4,q5,q6⟩:=D2
     simp only at p0 p1 p2 p3 p4 p5 p6 q0 q1 q2 q3 q4 q5 q6
     clear x2
     go_wp2
     go_ret
     exact ⟨rfl,X2.o⟩
   ·rw [decide_eq_false d2] at hB
    simp only [Bool.true_and,Bool.false_and] at hB
    subst hB
    have n2:(f6==g6)=false:=beq_eq_false_iff_ne.2 d2
    clear d2
    go_enter Tryz.func61,Tryz.ntmps61
    go_wp2_with fail
    refine (SH.o _).mono ?_
    rintro x w2 ⟨rfl,x2⟩
    have X2:=hI (X1.o.tr x2)
    have D1:=(((EnBox.new w ⟨f1,f2,f3,f4,f5,f6,dat⟩ 71).ext (Ext.alloc _ (.cells (enA ⟨g1,g2,g3,f4,f5,g6,gat⟩) 71))).ext x2)
    have D2:=(EnBox.new' (w.alloc (.cells (enA ⟨f1,f2,f3,f4,f5,f6,dat⟩) 71)) ⟨g1,g2,g3,f4,f5,g6,gat⟩ 71 (w.heap.size+1) (by simp)).ext x2
    obtain ⟨p0,p1,p2,p3,p4,p5,p6⟩:=D1
    obtain ⟨q0,q1,q2,q3,q4,q5,q6⟩:=D2
    simp only at p0 p1 p2 p3 p4 p5 p6 q0 q1 q2 q3 q4 q5 q6
    clear x2
    go_wp2
    go_ret
    exact ⟨rfl,X2.o⟩
  ·rw [decide_eq_false d1] at hB
   simp only [Bool.true_and,Bool.false_and] at hB
   subst hB
   have n1:(f5==g5)=false:=beq_eq_false_iff_ne.2 d1
   clear d1
   go_enter Tryz.func61,Tryz.ntmps61
   go_wp2_with fail
   refine (SH.o _).mono ?_
   rintro x w2 ⟨rfl,x2⟩
   have X2:=hI (X1.o.tr x2)
   have D1:=(((EnBox.new w ⟨f1,f2,f3,f4,f5,f6,dat⟩ 71).ext (Ext.alloc _ (.cells (enA ⟨g1,g2,g3,f4,g5,g6,gat⟩) 71))).ext x2)
   have D2:=(EnBox.new' (w.alloc (.cells (enA ⟨f1,f2,f3,f4,f5,f6,dat⟩) 71)) ⟨g1,g2,g3,f4,g5,g6,gat⟩ 71 (w.heap.size+1) (by simp)).ext x2
   obtain ⟨p0,p1,p2,p3,p4,p5,p6⟩:=D1
   obtain ⟨q0,q1,q2,q3,q4,q5,q6⟩:=D2
   simp only at p0 p1 p2 p3 p4 p5 p6 q0 q1 q2 q3 q4 q5 q6
   clear x2
   go_wp2
   go_ret
   exact ⟨rfl,X2.o⟩
 ·rw [decide_eq_false d0] at hB
  simp only [Bool.true_and,Bool.false_and] at hB
  subst hB
  have n0:(f4==g4)=false:=beq_eq_false_iff_ne.2 d0
  clear d0
  go_enter Tryz.func61,Tryz.ntmps61
  go_wp2_with fail
  refine (SH.o _).mono ?_
  rintro x w2 ⟨rfl,x2⟩
  have X2:=hI (X1.o.tr x2)
  have D1:=(((EnBox.new w ⟨f1,f2,f3,f4,f5,f6,dat⟩ 71).ext (Ext.alloc _ (.cells (enA ⟨g1,g2,g3,g4,g5,g6,gat⟩) 71))).ext x2)
  have D2:=(EnBox.new' (w.alloc (.cells (enA ⟨f1,f2,f3,f4,f5,f6,dat⟩) 71)) ⟨g1,g2,g3,g4,g5,g6,gat⟩ 71 (w.heap.size+1) (by simp)).ext x2
  obtain ⟨p0,p1,p2,p3,p4,p5,p6⟩:=D1
  obtain ⟨q0,q1,q2,q3,q4,q5,q6⟩:=D2
  simp only at p0 p1 p2 p3 p4 p5 p6 q0 q1 q2 q3 q4 q5 q6
  clear x2
  go_wp2
  go_ret
  exact ⟨rfl,X2.o⟩
end
section
def encs:List Int→List UInt8
 | []=>[]
 | x::l=>enc (zig x)++encs l
theorem encs_append (a b:List Int):encs (a++b)=encs a++encs b:=by
 induction a with
 | nil=>rfl
 | cons x a ih=>simp [encs,ih,List.append_assoc]
theorem encs_take {zs:List Int} {k:Nat} {x:Int} (hx:zs[k]?=some x):encs (zs.take (k+1))=encs (zs.take k)++enc (zig x):=by
 rw [List.take_add_one,hx,encs_append]
 simp [encs]
def nums (e:EnD):List Int:=[e.fr,e.bt,e.sq,e.od,e.lv,e.st]
def enB (e:EnD):List UInt8:=encs (nums e)++txt e.da.data.toList
def encAll (l:List EnD):List UInt8:=if l.all mayB then (l.map enB).flatten else []
theorem size_list (s:ByteArray):s.data.toList.length=s.size:=by cases s;rfl
theorem enc_len10 {x:Int} (h:I64 x):(enc (zig x)).length≤10:=enc_ten (zig_lt h.1 h.2)
theorem enB_len {e:EnD} (h:EnOk e) (hm:e.da.size≤16):(enB e).length≤100:=by
 obtain ⟨h1,h2,h3,h4,h5,h6,h7⟩:=h
 have a1:=enc_len10 h1
 have a2:=enc_len10 h2
 have a3:=enc_len10 h3
 have a4:=enc_len10 h4
 have a5:=enc_len10 h5
 have a6:=enc_len10 h6
 have hs:=size_list e.da
 have a7:(enc (zig (e.da.data.toList.length:Int))).length≤10:=enc_len10 ⟨by omega,by omega⟩
 simp only [enB,nums,encs,txt,List.length_append,List.length_nil]
 omega
theorem may_size {e:EnD} (h:mayB e=true):e.da.size≤16:=by
 simp only [mayB,Bool.and_eq_true,decide_eq_true_eq] at h
 exact h.2.2.2.2.2.2
theorem enB_pos (e:EnD):0<(enB e).length:=by
 have:=enc_pos (zig e.fr)
 simp only [enB,nums,encs,List.length_append]
 omega
def parseN (b:List UInt8):Nat→Option (List Int × Nat)
 | 0=>some ([],0)
 | k+1=>match parseN b k with
  | none=>none
  | some (l,i)=>if (getL (b.drop i)).2.2=0 then some (l++[(getL (b.drop i)).1],i+(getL (b.drop i)).2.1) else none
def oneL (b:List UInt8):Option (EnD × Nat):=
 match parseN b 6 with
 | some ([f1,f2,f3,f4,f5,f6],i)=>if (textL (b.drop i)).2.2=0 then some (⟨f1,f2,f3,f4,f5,f6,⟨(textL (b.drop i)).1.toArray⟩⟩,i+(textL (b.drop i)).2.1) else none
 | _=>none
theorem oneL_parse {b s:List UInt8} {f1 f2 f3 f4 f5 f6:Int} {i k:Nat} (h:parseN b 6=some ([f1,f2,f3,f4,f5,f6],i)) (ht:textL (b.drop i)=(s,k,0)):oneL b=some (⟨f1,f2,f3,f4,f5,f6,⟨s.toArray⟩⟩,i+k):=by
 unfold oneL
 rw [h]
 simp only
 rw [if_pos (by rw [ht]),ht]
theorem oneL_not {b:List UInt8} {f1 f2 f3 f4 f5 f6:Int} {i:Nat} (h:parseN b 6=some ([f1,f2,f3,f4,f5,f6],i)) (ht:(textL (b.drop i)).2.2≠0):oneL b=none:=by
 unfold oneL
 rw [h]
 simp only
 rw [if_neg ht]
theorem parseN_none {b:List UInt8} {k:Nat}:∀ m,k≤m→parseN b k=none→parseN b m=none
 | 0,hk,h=>by
  obtain rfl:k=0:=by omega
  exact h
 | m+1,hk,h=>by
  rcases Nat.lt_or_ge k (m+1) with h1 | h1
  ·rw [parseN,parseN_none m (by omega) h]
  ·obtain rfl:k=m+1:=by omega
   exact h
theorem oneL_no {b:List UInt8} {k:Nat} (hk:k≤6) (h:parseN b k=none):oneL b=none:=by
 unfold oneL
 rw [parseN_none 6 hk h]
theorem parseN_in {b:List UInt8}:∀ {k:Nat} {l:List Int} {i:Nat},parseN b k=some (l,i)→l.length=k∧(∀ x ∈ l,I64 x)∧k≤i∧i≤b.length
 | 0,l,i,h=>by
  simp [parseN] at h
  obtain ⟨rfl,rfl⟩:=h
  exact ⟨rfl,(fun x hx=>by cases hx),Nat.le_refl _,Nat.zero_le _⟩
 | k+1,l,i,h=>by
  rw [parseN] at h
  cases hp:parseN b k with
  | none=>rw [hp] at h;cases h
  | some q=>
   obtain ⟨l',i'⟩:=q
   rw [hp] at h
   simp only at h
   obtain ⟨h1,h2,h3,h4⟩:=parseN_in hp
   split at h
   ·rename_i he
    simp at h
    obtain ⟨rfl,rfl⟩:=h
    rcases getL_in (b.drop i') with ⟨g1,g2,g3,g4,g5,g6⟩ | ⟨g1,g2,g3⟩
    ·rw [List.length_drop] at g3
     refine ⟨by simp [h1],fun x hx=>?_,by omega,by omega⟩
     rcases List.mem_append.1 hx with hx | hx
     ·exact h2 x hx
     ·simp at hx;subst hx;exact ⟨g5,g6⟩
    ·omega
   ·cases h
theorem parseN_encs {zs:List Int} (hz:∀ x ∈ zs,I64 x) (rest:List UInt8):∀ k,k≤zs.length→parseN (encs zs++rest) k=some (zs.take k,(encs (zs.take k)).length)
 | 0,_=>by simp [parseN,encs]
 | k+1,hk=>by
  have hx:zs[k]?=some zs[k]:=List.getElem?_eq_getElem (by omega)
  have hdrop:(encs zs++rest).drop (encs (zs.take k)).length=enc (zig zs[k])++(encs (zs.drop (k+1))++rest):=by
   have e:encs zs=encs (zs.take k)++(enc (zig zs[k])++encs (zs.drop (k+1))):=by
    have h1:zs=zs.take k++(zs[k]::zs.drop (k+1)):=by rw [← List.drop_eq_getElem_cons (by omega),List.take_append_drop]
    have h2:=congrArg encs h1
    rw [encs_append] at h2
    exact h2
   rw [e,List.append_assoc,List.drop_left,List.append_assoc]
  have hi:=hz zs[k] (List.getElem_mem _)
  rw [parseN,parseN_encs hz rest k (by omega)]
  simp only
  rw [hdrop,getL_enc (zig_lt hi.1 hi.2)]
  simp only [if_true,unzig_zig]
  rw [encs_take hx,List.length_append,List.take_add_one,hx]
  rfl
theorem text_in (b:List UInt8):((textL b).2.2=0→(textL b).2.1≤b.length∧(textL b).1.length≤65536):=by
 intro h
 unfold textL at h ⊢
 split at h
 ·rename_i h1;exact absurd h h1
 ·split at h
  ·cases h
  ·split at h
   ·cases h
   ·rename_i h1 h2 h3
    rw [if_neg h1,if_neg h2,if_neg h3]
    rcases getL_in b with ⟨g1,g2,g3,g4,g5,g6⟩ | ⟨g1,g2,g3⟩
    ·simp only [List.length_take,List.length_drop]
     omega
    ·omega
theorem oneL_in {b:List UInt8} {e:EnD} {k:Nat} (h:oneL b=some (e,k)):EnOk e∧6≤k∧k≤b.length:=by
 unfold oneL at h
 split at h
 ·rename_i f1 f2 f3 f4 f5 f6 i hp
  obtain ⟨h1,h2,h3,h4⟩:=parseN_in hp
  split at h
  ·rename_i ht
   simp at h
   obtain ⟨rfl,rfl⟩:=h
   obtain ⟨t1,t2⟩:=text_in _ ht
   rw [List.length_drop] at t1
   refine ⟨⟨h2 _ (by simp),h2 _ (by simp),h2 _ (by simp),h2 _ (by simp),h2 _ (by simp),h2 _ (by simp),?_⟩,by omega,by omega⟩
   show (textL (b.drop i)).1.toArray.size≤_
   simp
   omega
  ·cases h
 ·cases h
theorem oneL_enB {e:EnD} (he:EnOk e) (hm:e.da.size≤16) (rest:List UInt8):oneL (enB e++rest)=some (e,(enB e).length):=by
 have hn:∀ x ∈ nums e,I64 x:=by
  obtain ⟨h1,h2,h3,h4,h5,h6,h7⟩:=he
  intro x hx
  simp [nums] at hx
  rcases hx with rfl | rfl | rfl | rfl | rfl | rfl <;> assumption
 have h6:=parseN_encs hn (txt e.da.data.toList++rest) 6 (by simp [nums])
 have e1:(nums e).take 6=nums e:=List.take_of_length_le (by simp [nums])
 rw [e1] at h6
 have hl:=size_list e.da
 have h7:parseN (enB e++rest) 6=some ([e.fr,e.bt,e.sq,e.od,e.lv,e.st],(encs (nums e)).length):=by
  rw [enB,List.append_assoc]
  exact h6
 have h8:textL ((enB e++rest).drop (encs (nums e)).length)=(e.da.data.toList,(txt e.da.data.toList).length,0):=by
  rw [enB,List.append_assoc,List.drop_left,textL_txt (by omega)]
 rw [oneL_parse h7 h8,enB,List.length_append]
def decF (b:List UInt8):Nat→Nat→List EnD→Option (List EnD)
 | 0,_,_=>none
 | f+1,i,L=>if i<b.length then match oneL (b.drop i) with
   | none=>none
   | some (e,k)=>decF b f (i+k) (L++[e])
  else some L
def decL (b:List UInt8):Option (List EnD):=
 match decF b (b.length+1) 0 [] with
 | none=>none
 | some L=>if encAll L=b then some L else none
theorem decF_of (l:List EnD) (h:∀ e ∈ l,EnOk e∧e.da.size≤16):∀ (m f:Nat),m≤l.length→((l.map enB).flatten).length-(((l.take (l.length-m)).map enB).flatten).length<f →
  decF (l.map enB).flatten f (((l.take (l.length-m)).map enB).flatten).length (l.take (l.length-m))=some l
 | 0,f,hm,hf=>by
  obtain ⟨f',rfl⟩:∃ f',f=f'+1:=⟨f-1,by omega⟩
  rw [Nat.sub_zero,List.take_length,decF,if_neg (Nat.lt_irrefl _)]
 | m+1,f,hm,hf=>by
  obtain ⟨f',rfl⟩:∃ f',f=f'+1:=⟨f-1,by omega⟩
  obtain ⟨j,hj⟩:∃ j,j=l.length-(m+1):=⟨_,rfl⟩
  have hj2:l.length-m=j+1:=by omega
  have hjl:j<l.length:=by omega
  rw [← hj] at hf ⊢
  have split1:(l.map enB).flatten=((l.take j).map enB).flatten++(enB l[j]++((l.drop (j+1)).map enB).flatten):=by
   have h1:l=l.take j++(l[j]::l.drop (j+1)):=by rw [← List.drop_eq_getElem_cons hjl,List.take_append_drop]
   conv=>lhs;rw [h1]
   rw [List.map_append,List.flatten_append,List.map_cons,List.flatten_cons]
  have step:((l.take (j+1)).map enB).flatten=((l.take j).map enB).flatten++enB l[j]:=by
   rw [List.take_succ_eq_append_getElem hjl,List.map_append,List.flatten_append,List.map_cons,List.map_nil,List.flatten_cons,List.flatten_nil,List.append_nil]
  have hp:=enB_pos l[j]
  obtain ⟨o1,o2⟩:=h l[j] (List.getElem_mem _)
  have ih:=decF_of l h m f' (by omega) (by
   rw [hj2,step,List.length_append]
   have:=congrArg List.length split1
   simp only [List.length_append] at this hf
   omega)
  rw [hj2] at ih
  rw [decF,if_pos (by have:=congrArg List.length split1;simp only [List.length_append] at this;omega)]
  have hd:((l.map enB).flatten).drop (((l.take j).map enB).flatten).length=enB l[j]++((l.drop (j+1)).map enB).flatten:=by
   rw [split1,List.drop_left]
  rw [hd,oneL_enB o1 o2]
  simp only
  rw [step,List.length_append,List.take_succ_eq_append_getElem hjl] at ih
  exact ih
theorem decL_enc {l:List EnD} (h:∀ e ∈ l,EnOk e) (hm:l.all mayB=true):decL (encAll l)=some l:=by
 have hb:encAll l=(l.map enB).flatten:=by unfold encAll;rw [if_pos hm]
 have h2:∀ e ∈ l,EnOk e∧e.da.size≤16:=fun e he=>⟨h e he,may_size (List.all_eq_true.1 hm e he)⟩
 have:=decF_of l h2 l.length ((encAll l).length+1) (Nat.le_refl _) (by rw [hb];omega)
 rw [Nat.sub_self,List.take_zero,← hb] at this
 unfold decL
 rw [show decF (encAll l) ((encAll l).length+1) 0 []=some l from this]
 simp
end
section
open Go Go.Sort Go.RowKit
end
section
open Go Go.Sort Go.RowKit
def Loc (H:Nat) (row:Option Nat) (p':Option Addr):Prop:=p'.map (·.block)=row∨∀ k,p'.map (·.block)=some k→H≤k
def Gr (w w':World) (row:Option Nat) (p':Option Addr):Prop:=w.grownBy w' row∧(p'.map (·.block)=row∨∀ k,p'.map (·.block)=some k→w.heap.size≤k)
theorem Gr.refl (w:World) (p:Option Addr):Gr w w (p.map (·.block)) p:=⟨World.grownBy.refl _ _,.inl rfl⟩
theorem Gr.step {w wr wm w3:World} {row:Option Nat} {p1 p3:Option Addr} (h:Gr w wr row p1) (he:Ext wr wm) (g:wm.grownBy w3 (p1.map (·.block))) (l:Loc wm.heap.size (p1.map (·.block)) p3):Gr w w3 row p3:=by
 obtain ⟨h1,h2⟩:=h
 refine ⟨⟨g.os.trans (he.os.trans h1.os),g.tape.trans (he.tape.trans h1.tape),g.output.trans (he.output.trans h1.output),Nat.le_trans h1.size (Nat.le_trans he.size g.size),fun i hi hne=>?_⟩,?_⟩
 ·have hi1:=Nat.lt_of_lt_of_le hi h1.size
  refine (g.block i (Nat.lt_of_lt_of_le hi1 he.size) ?_).trans ((he.block i hi1).trans (h1.block i hi hne))
  intro e
  rcases h2 with h2 | h2
  ·exact hne (e.trans h2)
  ·have:=h2 i e.symm
   omega
 ·rcases l with l | l
  ·rcases h2 with h2 | h2
   ·exact .inl (l.trans h2)
   ·exact .inr fun k hk=>h2 k (l ▸ hk)
  ·exact .inr fun k hk=>Nat.le_trans h1.size (Nat.le_trans he.size (l k hk))
theorem Gr.step' {w wr wm w3:World} {row:Option Nat} {p1 p3:Option Addr} {H:Nat} (h:Gr w wr row p1) (he:Ext wr wm) (g:wm.grownBy w3 (p1.map (·.block))) (hH:wm.heap.size=H) (l:Loc H (p1.map (·.block)) p3):Gr w w3 row p3:=
 h.step he g (by rw [hH];exact l)
theorem Gr.tr {a b c:World} {row:Option Nat} {p q:Option Addr} (h:Gr a b row p) (k:Gr b c (p.map (·.block)) q):Gr a c row q:=h.step (Ext.rfl' _) k.1 (by
 rcases k.2 with k | k
 ·exact .inl k
 ·exact .inr k)
theorem Gr.cell {w w':World} {row:Option Nat} {p:Option Addr} (h:Gr w w' row p) {a:Addr} {v:Value} (hc:w.cell? a=some v) (hne:some a.block≠row):w'.cell? a=some v:=h.1.cell hc hne
theorem wpList_appL {P:Program} {w:World} {ops:Array Oper} {rest:List Oper} {o:Oper} {a:Act} {Q:Exit→Act→World→Prop} (hgd:o.guard=none) (s x:Operand) (t:TypeId)
  (ho:o.op=.call { callee:=.builtin .append,args:=#[s,x],argTypes:=#[t,t] })
  (base:Nat) (ht:P.underlying t=some (.slice 5)) (hi:(P.info? 5).map (fun i=>(i.zero,i.size,i.bytes))=some (some (.int .u8 0),1,1))
  (p:Option Addr) (n cap:Nat) (l:List UInt8) (hs:a.eval s=.slice p n cap) (hown:OwP w base p n cap l)
  (ad:Addr) (m c:Nat) (k:List UInt8) (hx:a.eval x=.slice (some ad) m c) (hsl:SlP w (some ad) m c k) (hm:0<m)
  (hbytes:n+m≤140737488355328) (hbase:base≤w.heap.size)
  (h:∀ p' cap' w',OwP w' base p' (n+m) cap' (l++k)→w.grownBy w' (p.map (·.block))→Loc w.heap.size (p.map (·.block)) p'→wpList P ops Q rest (a.put o.dst (.slice p' (n+m) cap')) w'):wpList P ops Q (o::rest) a w:=by
 obtain ⟨i0,hi,hz0,hz1,hz2⟩:=info_parts hi
 refine wpList_append_lies w hgd s x t ho base 5 i0 (.int .u8 0) 1 1 ht hi hz0 hz1 hz2 rfl (by decide) _ n (l.map bv) hs hown.2 ad m c (k.map bv) hx (by simp [hsl.len]) ?_ ?_ hm (by unfold maxLen;omega) (by omega) hbase w.heap.size rfl ?_
 ·intro j u hj
  rw [List.getElem?_map] at hj
  obtain ⟨y,hy,rfl⟩:=Option.map_eq_some_iff.1 hj
  have hjk:j<k.length:=(List.getElem?_eq_some_iff.1 hy).1
  obtain ⟨b,o',hp,hh⟩:=hsl.cells (by have:=hsl.len;omega)
  cases hp
  rw [Addr.add_lit]
  exact hh j y hy
 ·intro u hu
  obtain ⟨y,_,rfl⟩:=List.mem_map.1 hu
  rfl
 ·intro g cap' w' ho' hg hl hlt
  rw [ownBlock_slice] at hg hl
  refine h (some ⟨g,0,none⟩) cap' w' ⟨by rw [List.length_append,hown.1,hsl.len],by rw [List.map_append];exact ho'⟩ hg ?_
  rcases hl with hl | hl
  ·exact .inl (by simpa using hl.symm)
  ·exact .inr fun k hk=>by simp at hk;omega
theorem put_gr {base:Nat} {p:Option Addr} {n cap:Nat} {l:List UInt8} {x:Int} {w:World} (h:OwP w base p n cap l) (hb:base≤w.heap.size) (hn:n≤1099511627776) (h1:-9223372036854775808≤x) (h2:x≤9223372036854775807) :
  Calls Tryz.prog 95 #[.slice p n cap,.int .i64 x] w fun e w'=>∃ p' cap',e=.returned (.slice p' (n+(enc (zig x)).length) cap')∧OwP w' base p' (n+(enc (zig x)).length) cap' (l++enc (zig x))∧Gr w w' (p.map (·.block)) p':=by
 have hsg:IntKind.u64.signed=false:=rfl
 have hmx:IntKind.u64.max=18446744073709551615:=rfl
 have H:=hI h
 have hln:=h.1
 clear h
 have hz:=zig_lt h1 h2
 have hzt:=enc_ten hz
 obtain ⟨L,hL⟩:∃ L,L=l++enc (zig x):=⟨_,rfl⟩
 obtain ⟨N,hN⟩:∃ N,N=n+(enc (zig x)).length:=⟨_,rfl⟩
 rw [← hL,← hN]
 have HL:=hI hL
 have hNL:L.length=N:=by rw [hL,hN,List.length_append,hln]
 have HN:=hI hNL
 have hN2:N≤1099511627786:=by omega
 clear hL hNL hzt hN
 by_cases hx:x<0
 all_goals
  have HX:=hI hx
  go_enter Tryz.func95,Tryz.ntmps95
  go_wp2
  go_loopw [0,5] (fun b u wr=>∃ p' n' c' l' v,b=.slice p' n' c'∧u=.int .u64 ((v:Nat):Int)∧v<18446744073709551616∧OwP wr base p' n' c' l'∧l'++enc v=L∧Gr w wr (p.map (·.block)) p') (fun _ u _=>(intOf u).toNat)
  case atStart=>
   refine ⟨_,_,_,_,zig x,rfl,?_,hz,H.o,HL.o.symm,Gr.refl _ _⟩
   first | rw [zig_bits h1 HX.o] | rw [zig_pos (by have:=HX.o;omega)]
  case round=>
   obtain ⟨p1,n1,c1,l1,v,rfl,rfl,hv,ho,hl,hbl⟩:=hrel
   have HO:=hI ho
   have HLL:=hI hl
   have HB:=hI hbl
   have hnn:n1+(enc v).length=N:=by rw [← HN.o,← hl,List.length_append,ho.1]
   have hsz:=hbl.1.size
   have hp:=enc_pos v
   clear ho hl hbl
   by_cases hlt:v<128
   ·go_wp2_with (at_builtin;refine wpList_appL rfl _ _ 72 rfl base Tryz.underlying72 info5 p1 n1 c1 l1 rfl (HO.o.alloc _) ⟨_,0,none⟩ 1 1 [UInt8.ofNat v] rfl (one_sl _ _ _ _ ?hone) (by omega) (by omega) (by simp;omega) ?_)
    case hone=>rw [u8_ofNat];omega
    intro p3 c3 w3 h3 g3 l3
    have H3:=hI h3
    have G3:=hI g3
    have L3:=hI l3
    clear h3 g3 l3
    go_wp2
    go_ret
    have e1:n1+1=N:=by rw [← hnn,enc_last hlt];rfl
    have e2:l1++[UInt8.ofNat v]=L:=by rw [← HLL.o,enc_last hlt]
    rw [e1,e2] at H3
    refine ⟨_,_,by rw [e1];rfl,H3.o,?_⟩
    exact HB.o.step' (Ext.alloc _ _) G3.o (by simp) L3.o
   ·obtain ⟨c,hc⟩:∃ c,c=UInt8.ofNat (v % 128+128):=⟨_,rfl⟩
    have HC:=hI hc
    clear hc
    go_wp2_with (at_builtin;refine wpList_appL rfl _ _ 72 rfl base Tryz.underlying72 info5 p1 n1 c1 l1 rfl (HO.o.alloc _) ⟨_,0,none⟩ 1 1 [c] rfl (one_sl _ _ _ _ ?hone) (by omega) (by omega) (by simp;omega) ?_)
    case hone=>rw [HC.o];exact or_cont v
    intro p3 c3 w3 h3 g3 l3
    have H3:=hI h3
    have G3:=hI g3
    have L3:=hI l3
    clear h3 g3 l3
    go_wp2
    go_round
    case rel=>
     refine ⟨_,_,_,_,v / 128,rfl,by go_num,by omega,H3.o,?_,?_⟩
     ·rw [← HLL.o,enc_more hlt,List.append_assoc,HC.o];rfl
     ·exact HB.o.step' (Ext.alloc _ _) G3.o (by simp) L3.o
    case measure=>simp [intOf];omega
end
section
open Go Go.Sort Go.RowKit
theorem en_at {w:World} {p:Option Addr} {n cap:Nat} {L:List EnD} (h:SlS 7 w p n cap (L.map enL)) (k:Nat) (hk:k<n) :
  ∃ b o e,p=some ⟨b,o,none⟩∧L[k]?=some e∧w.cell? ⟨b,o+k * 7,none⟩=some (.int .i64 e.fr)∧w.cell? ⟨b,o+k * 7+1,none⟩=some (.int .i64 e.bt)∧w.cell? ⟨b,o+k * 7+2,none⟩=some (.int .i64 e.sq) ∧
   w.cell? ⟨b,o+k * 7+3,none⟩=some (.int .i64 e.od)∧w.cell? ⟨b,o+k * 7+4,none⟩=some (.int .i64 e.lv)∧w.cell? ⟨b,o+k * 7+5,none⟩=some (.int .i64 e.st)∧w.cell? ⟨b,o+k * 7+6,none⟩=some (.string e.da):=by
 obtain ⟨b,o,x,hp,hx,-,hc⟩:=h.at k hk
 rw [List.getElem?_map] at hx
 obtain ⟨e,he,rfl⟩:=Option.map_eq_some_iff.1 hx
 exact ⟨b,o,e,hp,he,hc 0 _ rfl,hc 1 _ rfl,hc 2 _ rfl,hc 3 _ rfl,hc 4 _ rfl,hc 5 _ rfl,hc 6 _ rfl⟩
theorem en_len {w:World} {p:Option Addr} {n cap:Nat} {L:List EnD} (h:SlS 7 w p n cap (L.map enL)):L.length=n:=by have:=h.len;simpa using this
theorem idx6 (f1 f2 f3 f4 f5 f6:Int) (k:Nat) (hk:k<6):∃ x,[f1,f2,f3,f4,f5,f6][k]?=some x∧∀ w,(Instr.index 176 (.agg #[.int .i64 f1,.int .i64 f2,.int .i64 f3,.int .i64 f4,.int .i64 f5,.int .i64 f6]) (.int .i64 (k:Int))).run Tryz.prog w=.ok (.int .i64 x) w:=by
 match k,hk with
 | 0,_=>exact ⟨f1,rfl,fun _=>by kernel_rfl⟩
 | 1,_=>exact ⟨f2,rfl,fun _=>by kernel_rfl⟩
 | 2,_=>exact ⟨f3,rfl,fun _=>by kernel_rfl⟩
 | 3,_=>exact ⟨f4,rfl,fun _=>by kernel_rfl⟩
 | 4,_=>exact ⟨f5,rfl,fun _=>by kernel_rfl⟩
 | 5,_=>exact ⟨f6,rfl,fun _=>by kernel_rfl⟩
theorem enAll_take {L:List EnD} {k:Nat} {e:EnD} (h:L[k]?=some e):((L.take (k+1)).map enB).flatten=((L.take k).map enB).flatten++enB e:=by
 rw [List.take_add_one,h,List.map_append,List.flatten_append]
 simp
theorem may_take {L:List EnD} {k:Nat} {e:EnD} (h:L[k]?=some e) (hm:(L.take k).all mayB=true) (he:mayB e=true):(L.take (k+1)).all mayB=true:=by
 rw [List.take_add_one,h,List.all_append,hm]
 simp [he]
theorem enc_bad {L:List EnD} {k:Nat} {e:EnD} (h:L[k]?=some e) (he:mayB e=false):encAll L=[]:=by
 unfold encAll
 rw [if_neg]
 intro hh
 have:=List.all_eq_true.1 hh e (List.mem_of_getElem? h)
 rw [he] at this
 cases this
theorem zsI {e:EnD} (he:EnOk e) {k:Nat} {x:Int} (h:[e.fr,e.bt,e.sq,e.od,e.lv,e.st][k]?=some x):I64 x:=by
 obtain ⟨h1,h2,h3,h4,h5,h6,h7⟩:=he
 have hx:=List.mem_of_getElem? h
 simp at hx
 rcases hx with rfl | rfl | rfl | rfl | rfl | rfl <;> assumption
theorem encs_len {zs:List Int} (h:∀ x ∈ zs,I64 x):(encs zs).length≤10 * zs.length:=by
 induction zs with
 | nil=>simp [encs]
 | cons x r ih=>
  have h1:=enc_len10 (h x (by simp))
  have h2:=ih (fun y hy=>h y (by simp [hy]))
  simp only [encs,List.length_append,List.length_cons]
  omega
theorem Ext.gr {w0 w w':World} {p p':Option Addr} {n cap:Nat} {l:List UInt8} (h:Ext w0 w) (ho:OwP w w0.heap.size p n cap l) (g:Gr w w' (p.map (·.block)) p'):Ext w0 w':=Ext.own h ho g.1 rfl
theorem encode_any {w:World} {p:Option Addr} {n cap:Nat} {L:List EnD} (h:SlS 7 w p n cap (L.map enL)) (hL:∀ e ∈ L,EnOk e) (hn:n≤1000) :
  Calls Tryz.prog 92 #[.slice p n cap] w fun e w'=>∃ p' cap',e=.returned (.slice p' (encAll L).length cap')∧OwP w' w.heap.size p' (encAll L).length cap' (encAll L)∧Ext w w':=by
 have hcap:=h.le
 have S:=hI h
 have HL:=hI hL
 have N:=hI (en_len h)
 clear h hL
 obtain ⟨R,hR⟩:∃ R,R=encAll L:=⟨_,rfl⟩
 rw [← hR]
 have HR:=hI hR
 clear hR
 go_enter Tryz.func92,Tryz.ntmps92
 go_wp2
 go_loopw [3,10] (fun v i wr=>∃ (k nn:Nat) (p':Option Addr) (cap':Nat),k≤n∧i=.int .i64 (k:Int)∧v=.slice p' nn cap'∧nn≤100 * k∧OwP wr w.heap.size p' nn cap' ((L.take k).map enB).flatten∧(L.take k).all mayB=true∧Ext w wr) (fun _ i _=>n-(intOf i).toNat)
 case atStart=>exact ⟨0,0,none,0,by omega,rfl,rfl,by omega,OwP.nil _ _,rfl,Ext.rfl' _⟩
 case round=>
  obtain ⟨k,nn,p',cap',hk,rfl,rfl,hnn,ho,hm,x1⟩:=hrel
  obtain ⟨wo,rfl⟩:∃ wo:World,wo=wr:=⟨_,rfl⟩
  have O:=hI ho
  have M:=hI hm
  have X:=hI x1
  clear ho hm x1
  by_cases hlt:k<n
  ·obtain ⟨b,o,e,hp,hx,c0,c1,c2,c3,c4,c5,c6⟩:=en_at (S.o.ext X.o) k hlt
   have OK:=hI (HL.o e (List.mem_of_getElem? hx))
   have HX:=hI hx
   clear hx
   subst hp
   obtain ⟨f1,f2,f3,f4,f5,f6,dat⟩:=e
   simp only at c0 c1 c2 c3 c4 c5 c6
   have MY:=hI (fun w=>may_any (w:=w) OK.o)
   have D1:=hI (EnBox.new wo ⟨f1,f2,f3,f4,f5,f6,dat⟩ 71)
   have A1:=hI (Ext.alloc wo (.cells (enA ⟨f1,f2,f3,f4,f5,f6,dat⟩) 71))
   cases hmy:mayB ⟨f1,f2,f3,f4,f5,f6,dat⟩
   ·have hRn:R=[]:=by rw [HR.o];exact enc_bad HX.o hmy
    subst hRn
    rw [hmy] at MY
    clear hmy
    go_wp2_with fail
    refine (MY.o _).mono ?_
    rintro x w4 ⟨rfl,x4⟩
    have X4:=hI (X.o.tr (A1.o.tr x4))
    clear x4
    go_wp2
    go_ret
    exact ⟨none,0,rfl,OwP.nil _ _,X4.o⟩
   ·have HMY:=hI hmy
    have hds:=may_size hmy
    simp only at hds
    rw [hmy] at MY
    clear hmy
    go_wp2_with fail
    refine (MY.o _).mono ?_
    rintro x w4 ⟨rfl,x4⟩
    have X4:=hI (X.o.tr (A1.o.tr x4))
    have O4:=hI (O.o.ext (A1.o.tr x4))
    have D4:=hI (D1.o.ext x4)
    have NE:Hid (∀ q,p'.map (·.block)=some q→q<wo.heap.size):=hI (fun q hq=>(O.o.lt q hq).2)
    have W4:Hid (wo.heap.size<w4.heap.size):=hI (World.block_lt_of_cell? w4 _ D4.o.c0)
    clear x4 D1 c0 c1 c2 c3 c4 c5 c6
    obtain ⟨c0,c1,c2,c3,c4,c5,c6⟩:=D4.o
    simp only at c0 c1 c2 c3 c4 c5 c6
    go_wp2
    clear c0 c1 c2 c3 c4 c5 c6
    go_loopw [3,30] (fun v i wr=>∃ (m n2:Nat) (p2:Option Addr) (c2:Nat),m≤6∧i=.int .i64 (m:Int)∧v=.slice p2 n2 c2∧OwP wr w.heap.size p2 n2 c2 (((L.take k).map enB).flatten++encs ([f1,f2,f3,f4,f5,f6].take m))∧Gr w4 wr (p'.map (·.block)) p2) (fun _ i _=>6-(intOf i).toNat)
    case atStart=>exact ⟨0,nn,p',cap',by omega,rfl,rfl,by simpa [encs] using O4.o,Gr.refl _ _⟩
    case round=>
     obtain ⟨wi,rfl⟩:∃ wi:World,wi=wr:=⟨_,rfl⟩
     obtain ⟨m,n2,p2,c2,hm6,rfl,rfl,ho2,g2⟩:=hrel
     have O2:=hI ho2
     have G2:=hI g2
     have hn2:n2≤100 * k+60:=by
      have h1:=ho2.len
      have h2:=O4.o.len
      have h3:=encs_len (zs:=[f1,f2,f3,f4,f5,f6].take m) (fun x hx=>by
       obtain ⟨j,hj⟩:=List.getElem?_of_mem (List.mem_of_mem_take hx)
       exact zsI OK.o hj)
      have h4:([f1,f2,f3,f4,f5,f6].take m).length≤6:=by simp;omega
      rw [List.length_append] at h1
      omega
     have hwi:Hid (w.heap.size≤wi.heap.size):=hI (Nat.le_trans X4.o.size g2.1.size)
     clear ho2 g2
     by_cases hm:m<6
     ·obtain ⟨x,hx,hidx⟩:=idx6 f1 f2 f3 f4 f5 f6 m hm
      have IX:=hI (zsI OK.o hx)
      have HX2:=hI hx
      clear hx
      go_wp2_with fail
      refine (put_gr O2.o hwi.out (by omega) IX.o.1 IX.o.2).mono ?_
      rintro e w5 ⟨p3,c3,rfl,o3,g3⟩
      have O3:=hI o3
      have G3:=hI (G2.o.tr g3)
      clear o3 g3 hidx
      go_wp2
      go_roundw
      case rel=>exact ⟨m+1,_,p3,c3,by omega,by go_num,rfl,by rw [encs_take HX2.o,← List.append_assoc];exact O3.o,G3.o⟩
      case measure=>simp [intOf];omega
     ·have hme:[f1,f2,f3,f4,f5,f6].take m=[f1,f2,f3,f4,f5,f6]:=List.take_of_length_le (by simp;omega)
      rw [hme] at O2
      clear hme
      have c6:wi.cell? ⟨wo.heap.size,6,none⟩=some (.string dat):=G2.o.cell D4.o.c6 (fun e=>by have:=NE.o _ e.symm;simp at this)
      go_wp2_with fail
      refine (puttext_any O2.o hwi.out (by omega) (by omega)).mono ?_
      rintro e w5 ⟨p3,c3,rfl,o3,b3⟩
      have X5:=hI (Below.trans (Ext.gr X4.o O4.o G2.o) b3)
      have O5:Hid (OwP w5 w.heap.size p3 (n2+(txt dat.data.toList).length) c3 (((L.take (k+1)).map enB).flatten)):=hI (by
       rw [enAll_take HX.o,enB,← List.append_assoc]
       exact o3)
      have hb:n2+(txt dat.data.toList).length≤100 * (k+1):=by
       have h1:=O5.o.len
       rw [enAll_take HX.o,List.length_append] at h1
       have h2:=O4.o.len
       have h3:=enB_len OK.o hds
       omega
      clear o3 b3 c6
      go_wp2
      go_roundw
      case rel=>exact ⟨k+1,_,p3,c3,by omega,by go_num,rfl,hb,O5.o,may_take HX.o M.o HMY.o,X5.o⟩
      case measure=>simp [intOf];omega
  ·have hkn:L.take k=L:=List.take_of_length_le (by rw [N.o];omega)
   rw [hkn] at O M
   have hRn:R=(L.map enB).flatten:=by rw [HR.o];unfold encAll;rw [if_pos M.o]
   rw [← hRn] at O
   have hlen:nn=R.length:=O.o.len.symm
   subst hlen
   clear hkn hRn
   go_wp2
   go_ret
   exact ⟨p',cap',rfl,O.o,X.o⟩
end
section
open Go Go.Sort Go.RowKit
def Six (w:World) (g:Nat) (f:Nat→Int):Prop:=∀ j,j<6→w.cell? ⟨g,j,none⟩=some (.int .i64 (f j))∧w.frozen? ⟨g,j,none⟩=false
theorem Six.ext {w w':World} {g:Nat} {f:Nat→Int} (h:Six w g f) (k:Ext w w'):Six w' g f:=fun j hj=>by
 obtain ⟨h1,h2⟩:=h j hj
 exact ⟨Ext.cell k h1,by rw [Below.frozen k (World.block_lt_of_cell? w _ h1)];exact h2⟩
theorem Six.put {w:World} {g:Nat} {f:Nat→Int} (h:Six w g f) (k:Nat) (hk:k<6) (v:Int):Six (w.setCell ⟨g,k,none⟩ (.int .i64 v)) g (fun j=>if j=k then v else f j):=fun j hj=>by
 obtain ⟨h1,h2⟩:=h j hj
 refine ⟨?_,by simp [h2]⟩
 by_cases e:j=k
 ·subst e
  simp only [if_true]
  exact World.cell?_setCell_same (h:=h1) ..
 ·simp only [if_neg e]
  rw [World.cell?_setCell_other (h:=by simp [*])]
  exact h1
theorem Six.new (w:World) (g:Nat) (t:TypeId) (hg:g=w.heap.size):Six (w.alloc (.cells #[.int .i64 0,.int .i64 0,.int .i64 0,.int .i64 0,.int .i64 0,.int .i64 0] t)) g (fun j=>([]:List Int).getD j 0):=by
 subst hg
 intro j hj
 refine ⟨?_,World.frozen?_alloc_at _ _ _ _ rfl⟩
 rw [World.cell?_alloc_mark]
 match j,hj with
 | 0,_=>rfl
 | 1,_=>rfl
 | 2,_=>rfl
 | 3,_=>rfl
 | 4,_=>rfl
 | 5,_=>rfl
structure EnOwn (w:World) (g:Nat) (e:EnD):Prop where
 box:EnBox w g e
 f:∀ j,w.frozen? ⟨g,j,none⟩=false
theorem EnOwn.ext {w w':World} {g:Nat} {e:EnD} (h:EnOwn w g e) (k:Ext w w'):EnOwn w' g e:=⟨h.box.ext k,fun j=>by rw [Below.frozen k (p:=⟨g,j,none⟩) (World.block_lt_of_cell? w ⟨g,0,none⟩ h.box.c0)];exact h.f j⟩
theorem EnOwn.new (w:World) (e:EnD) (t:TypeId) (g:Nat) (hg:g=w.heap.size):EnOwn (w.alloc (.cells (enA e) t)) g e:=by
 subst hg
 exact ⟨EnBox.new w e t,fun j=>World.frozen?_alloc_at _ _ _ _ rfl⟩
theorem EnOwn.other {w:World} {g g' k:Nat} {e:EnD} {v:Value} (h:EnOwn w g e) (hne:g≠g'):EnOwn (w.setCell ⟨g',k,none⟩ v) g e:=by
 have hc:∀ j,(w.setCell ⟨g',k,none⟩ v).cell? ⟨g,j,none⟩=w.cell? ⟨g,j,none⟩:=fun j=>World.cell?_setCell_other (h:=by simp [*]) ..
 refine ⟨⟨(hc 0).trans h.box.c0,(hc 1).trans h.box.c1,(hc 2).trans h.box.c2,(hc 3).trans h.box.c3,(hc 4).trans h.box.c4,(hc 5).trans h.box.c5,(hc 6).trans h.box.c6⟩,fun j=>by simp [h.f j]⟩
def fillE (w:World) (g:Nat) (e:EnD):World:=((((((w.setCell ⟨g,0,none⟩ (.int .i64 e.fr)).setCell ⟨g,1,none⟩ (.int .i64 e.bt)).setCell ⟨g,2,none⟩ (.int .i64 e.sq)).setCell ⟨g,3,none⟩ (.int .i64 e.od)).setCell ⟨g,4,none⟩ (.int .i64 e.lv)).setCell ⟨g,5,none⟩ (.int .i64 e.st)).setCell ⟨g,6,none⟩ (.string e.da)
theorem cell_same {w:World} {g j:Nat} {u v:Value} (h:w.cell? ⟨g,j,none⟩=some u):(w.setCell ⟨g,j,none⟩ v).cell? ⟨g,j,none⟩=some v:=World.cell?_setCell_same (h:=h) ..
theorem cell_diff {w:World} {g j k:Nat} {v:Value} (h:j≠k):(w.setCell ⟨g,k,none⟩ v).cell? ⟨g,j,none⟩=w.cell? ⟨g,j,none⟩:=World.cell?_setCell_other (h:=by simp [*]) ..
theorem EnOwn.fill {w:World} {g:Nat} {e0:EnD} (h:EnOwn w g e0) (e:EnD):EnBox (fillE w g e) g e:=by
 obtain ⟨⟨b0,b1,b2,b3,b4,b5,b6⟩,-⟩:=h
 unfold fillE
 constructor
 ·rw [cell_diff (by omega),cell_diff (by omega),cell_diff (by omega),cell_diff (by omega),cell_diff (by omega),cell_diff (by omega)]
  exact cell_same b0
 ·rw [cell_diff (by omega),cell_diff (by omega),cell_diff (by omega),cell_diff (by omega),cell_diff (by omega)]
  exact cell_same (by rw [cell_diff (by omega)];exact b1)
 ·rw [cell_diff (by omega),cell_diff (by omega),cell_diff (by omega),cell_diff (by omega)]
  exact cell_same (by rw [cell_diff (by omega),cell_diff (by omega)];exact b2)
 ·rw [cell_diff (by omega),cell_diff (by omega),cell_diff (by omega)]
  exact cell_same (by rw [cell_diff (by omega),cell_diff (by omega),cell_diff (by omega)];exact b3)
 ·rw [cell_diff (by omega),cell_diff (by omega)]
  exact cell_same (by rw [cell_diff (by omega),cell_diff (by omega),cell_diff (by omega),cell_diff (by omega)];exact b4)
 ·rw [cell_diff (by omega)]
  exact cell_same (by rw [cell_diff (by omega),cell_diff (by omega),cell_diff (by omega),cell_diff (by omega),cell_diff (by omega)];exact b5)
 ·exact cell_same (by rw [cell_diff (by omega),cell_diff (by omega),cell_diff (by omega),cell_diff (by omega),cell_diff (by omega),cell_diff (by omega)];exact b6)
theorem fill_below {base:Nat} {w0 w:World} {g:Nat} (h:Below base w0 w) (hg:base≤g) (e:EnD):Below base w0 (fillE w g e):=
 ((((((h.setCell hg _).setCell hg _).setCell hg _).setCell hg _).setCell hg _).setCell hg _).setCell hg _
def zeroE:EnD:=⟨0,0,0,0,0,0,ByteArray.empty⟩
def oneE (b:List UInt8):EnD:=match oneL b with
 | some (e,_)=>e
 | none=>zeroE
def oneN (b:List UInt8):Nat:=match oneL b with
 | some (_,k)=>k
 | none=>0
theorem one_any {w:World} {p:Option Addr} {n cap:Nat} {l:List UInt8} (h:SlP w p n cap l) (hn:n≤70368744177664) :
  Calls Tryz.prog 91 #[.slice p n cap] w fun e w'=>e=.returned (.tuple #[enV (oneE l),.int .i64 (oneN l:Int)])∧Ext w w':=by
 have hcap:=h.le
 have hmax:=h.max
 have H:=hI h
 have HL:=hI h.len
 clear h
 obtain ⟨E,hE⟩:∃ E,E=oneE l:=⟨_,rfl⟩
 obtain ⟨K,hK⟩:∃ K,K=oneN l:=⟨_,rfl⟩
 rw [← hE,← hK]
 have HE:=hI hE
 have HK:=hI hK
 clear hE hK
 go_enter Tryz.func91,Tryz.ntmps91
 go_wp2
 have X0:Hid (Ext w ((w.alloc (.cells (enA zeroE) 71)).alloc (.cells #[.int .i64 0,.int .i64 0,.int .i64 0,.int .i64 0,.int .i64 0,.int .i64 0] 176))):=hI ((Ext.alloc w _).tr (Ext.alloc _ _))
 have T0:Hid (EnOwn ((w.alloc (.cells (enA zeroE) 71)).alloc (.cells #[.int .i64 0,.int .i64 0,.int .i64 0,.int .i64 0,.int .i64 0,.int .i64 0] 176)) w.heap.size zeroE):=hI ((EnOwn.new w zeroE 71 _ rfl).ext (Ext.alloc _ _))
 have S0:Hid (Six ((w.alloc (.cells (enA zeroE) 71)).alloc (.cells #[.int .i64 0,.int .i64 0,.int .i64 0,.int .i64 0,.int .i64 0,.int .i64 0] 176)) (w.heap.size+1) (fun j=>([]:List Int).getD j 0)):=hI (Six.new (w.alloc (.cells (enA zeroE) 71)) (w.heap.size+1) _ (by simp))
 go_loopw [5,13] (fun ati i wr=>∃ (k x:Nat) (zs:List Int),k≤6∧i=.int .i64 (k:Int)∧ati=.int .i64 (x:Int)∧parseN l k=some (zs,x)∧Six wr (w.heap.size+1) (fun j=>zs.getD j 0)∧EnOwn wr w.heap.size zeroE∧Below w.heap.size w wr) (fun _ i _=>6-(intOf i).toNat)
 case atStart=>exact ⟨0,0,[],by omega,rfl,rfl,rfl,S0.o,T0.o,X0.o⟩
 case round=>
  clear X0 T0 S0
  obtain ⟨k,x,zs,hk,rfl,rfl,hp,s1,t1,x1⟩:=hrel
  obtain ⟨hzl,hzi,-,hxl⟩:=parseN_in hp
  rw [HL.o] at hxl
  have P:=hI hp
  have S:=hI s1
  have T:=hI t1
  have X:=hI x1
  have ZI:=hI hzi
  have ZL:=hI hzl
  clear hp s1 t1 x1 hzi hzl
  have D:=hI ((H.o.ext X.o).drop x hxl)
  have cf:=fun w=>run_cut_from (P:=Tryz.prog) 72 5 Tryz.underlying72 sz5 p n cap x hxl w
  by_cases hlt:k<6
  ·obtain ⟨v,hv⟩:∃ v,v=(getL (l.drop x)).1:=⟨_,rfl⟩
   obtain ⟨c,hc⟩:∃ c,c=(getL (l.drop x)).2.1:=⟨_,rfl⟩
   obtain ⟨r,hr⟩:∃ r,r=(getL (l.drop x)).2.2:=⟨_,rfl⟩
   have GI:=getL_in (l.drop x)
   rw [← hv,← hc,← hr,List.length_drop,HL.o] at GI
   have HV:=hI hv
   have HC:=hI hc
   have HR:=hI hr
   clear hv hc hr
   by_cases hr0:r=0
   ·subst hr0
    have hcx:c≤n-x:=by omega
    have hc10:c≤10:=by omega
    clear GI
    have P2:Hid (parseN l (k+1)=some (zs++[v],x+c)):=hI (by
     rw [parseN,P.o]
     simp only
     rw [if_pos HR.o.symm,← HV.o,← HC.o])
    obtain ⟨q1,q2⟩:=S.o k hlt
    go_wp2_with fail
    refine (get_any D.o (by omega)).mono ?_
    rw [← HV.o,← HC.o,← HR.o]
    rintro e w2 ⟨rfl,rfl⟩
    go_wp2
    go_roundw
    case rel=>
     refine ⟨k+1,x+c,zs++[v],by omega,by go_num,by go_num,P2.o,?_,T.o.other (by omega),X.o.setCell (by simp) _⟩
     have e:(fun j=>(zs++[v]).getD j 0)=(fun j=>if j=k then v else zs.getD j 0):=by
      funext j
      have hl:=ZL.o
      rcases Nat.lt_or_ge j k with h1 | h1
      ·rw [if_neg (by omega),List.getD_eq_getElem?_getD,List.getD_eq_getElem?_getD,List.getElem?_append_left (by omega)]
      ·by_cases h2:j=k
       ·subst h2
        rw [if_pos rfl,List.getD_eq_getElem?_getD,List.getElem?_append_right (by omega),hl,Nat.sub_self]
        rfl
       ·rw [if_neg h2,List.getD_eq_getElem?_getD,List.getD_eq_getElem?_getD,List.getElem?_eq_none (by simp;omega),List.getElem?_eq_none (by omega)]
     rw [e]
     exact S.o.put k hlt v
    case measure=>simp [intOf];omega
   ·have h1:(r != 0)=true:=bne_iff_ne.2 hr0
    have h2:(r==0)=false:=beq_eq_false_iff_ne.2 hr0
    have hno:oneL l=none:=oneL_no (k:=k+1) (by omega) (by
     rw [parseN,P.o]
     simp only
     rw [if_neg (by rw [← HR.o];exact hr0)])
    have hE2:E=zeroE:=by rw [HE.o];unfold oneE;rw [hno]
    have hK2:K=0:=by rw [HK.o];unfold oneN;rw [hno]
    subst hE2 hK2
    clear hr0 hno GI
    obtain ⟨⟨b0,b1,b2,b3,b4,b5,b6⟩,bf⟩:=T.o
    go_wp2_with fail
    refine (get_any D.o (by omega)).mono ?_
    rw [← HV.o,← HC.o,← HR.o]
    rintro e w2 ⟨rfl,rfl⟩
    go_wp2
    obtain ⟨w9,hw9⟩:∃ w9,w9=fillE wr w.heap.size zeroE:=⟨_,rfl⟩
    change bodyPost _ _ _ Exit.ret _ (fillE wr w.heap.size zeroE)
    have FB:=T.o.fill zeroE
    have FX:=hI (fill_below X.o (Nat.le_refl _) zeroE)
    rw [← hw9] at FB FX ⊢
    obtain ⟨f0,f1,f2,f3,f4,f5,f6⟩:=FB
    simp only [zeroE] at f0 f1 f2 f3 f4 f5 f6
    exact bodyPost_ret (v:=.tuple #[enV zeroE,.int .i64 0]) (by simp [results,Tryz.results91,go_sem,f0,f1,f2,f3,f4,f5,f6,zeroE]) rfl ⟨rfl,FX.o⟩
  ·have hk6:k=6:=by omega
   subst hk6
   obtain ⟨z1,z2,z3,z4,z5,z6,rfl⟩:∃ z1 z2 z3 z4 z5 z6,zs=[z1,z2,z3,z4,z5,z6]:=by
    have hl:=ZL.o
    match zs,hl with
    | [a,b,c,d,e,f],_=>exact ⟨a,b,c,d,e,f,rfl⟩
   obtain ⟨c0,-⟩:=S.o 0 (by omega)
   obtain ⟨c1,-⟩:=S.o 1 (by omega)
   obtain ⟨c2,-⟩:=S.o 2 (by omega)
   obtain ⟨c3,-⟩:=S.o 3 (by omega)
   obtain ⟨c4,-⟩:=S.o 4 (by omega)
   obtain ⟨c5,-⟩:=S.o 5 (by omega)
   change wr.cell? _=some (.int .i64 z1) at c0
   change wr.cell? _=some (.int .i64 z2) at c1
   change wr.cell? _=some (.int .i64 z3) at c2
   change wr.cell? _=some (.int .i64 z4) at c3
   change wr.cell? _=some (.int .i64 z5) at c4
   change wr.cell? _=some (.int .i64 z6) at c5
   obtain ⟨⟨b0,b1,b2,b3,b4,b5,b6⟩,bf⟩:=T.o
   obtain ⟨s,hs⟩:∃ s,s=(textL (l.drop x)).1:=⟨_,rfl⟩
   obtain ⟨c,hc⟩:∃ c,c=(textL (l.drop x)).2.1:=⟨_,rfl⟩
   obtain ⟨r,hr⟩:∃ r,r=(textL (l.drop x)).2.2:=⟨_,rfl⟩
   have HS:=hI hs
   have HC:=hI hc
   have HR:=hI hr
   by_cases hr0:r=0
   ·have TI:=(text_in (l.drop x) (hr.symm.trans hr0)).1
    rw [← hc,List.length_drop,HL.o] at TI
    subst hr0
    clear hs hc hr
    have hyes:oneL l=some (⟨z1,z2,z3,z4,z5,z6,⟨s.toArray⟩⟩,x+c):=oneL_parse P.o (by rw [HS.o,HC.o];exact Prod.ext rfl (Prod.ext rfl HR.o.symm))
    have hE2:E=⟨z1,z2,z3,z4,z5,z6,⟨s.toArray⟩⟩:=by rw [HE.o];unfold oneE;rw [hyes]
    have hK2:K=x+c:=by rw [HK.o];unfold oneN;rw [hyes]
    subst hE2 hK2
    clear hyes
    go_wp2_with fail
    refine (gettext_any D.o (by omega)).mono ?_
    rw [← HS.o,← HC.o,← HR.o]
    rintro e w2 ⟨rfl,rfl⟩
    go_wp2
    obtain ⟨w9,hw9⟩:∃ w9,w9=fillE wr w.heap.size (⟨z1,z2,z3,z4,z5,z6,⟨s.toArray⟩⟩:EnD):=⟨_,rfl⟩
    change bodyPost _ _ _ Exit.ret _ (fillE wr w.heap.size (⟨z1,z2,z3,z4,z5,z6,⟨s.toArray⟩⟩:EnD))
    have FB:=T.o.fill (⟨z1,z2,z3,z4,z5,z6,⟨s.toArray⟩⟩:EnD)
    have FX:=hI (fill_below X.o (Nat.le_refl _) (⟨z1,z2,z3,z4,z5,z6,⟨s.toArray⟩⟩:EnD))
    rw [← hw9] at FB FX ⊢
    obtain ⟨f0,f1,f2,f3,f4,f5,f6⟩:=FB
    simp only at f0 f1 f2 f3 f4 f5 f6
    exact bodyPost_ret (v:=.tuple #[enV (⟨z1,z2,z3,z4,z5,z6,⟨s.toArray⟩⟩:EnD),.int .i64 ((x+c:Nat):Int)]) (by simp [results,Tryz.results91,go_sem,f0,f1,f2,f3,f4,f5,f6]) rfl ⟨rfl,FX.o⟩
   ·have h1:(r != 0)=true:=bne_iff_ne.2 hr0
    have h2:(r==0)=false:=beq_eq_false_iff_ne.2 hr0
    clear hs hc hr
    have hno:oneL l=none:=oneL_not P.o (by rw [← HR.o];exact hr0)
    have hE2:E=zeroE:=by rw [HE.o];unfold oneE;rw [hno]
    have hK2:K=0:=by rw [HK.o];unfold oneN;rw [hno]
    subst hE2 hK2
    clear hr0 hno
    go_wp2_with fail
    refine (gettext_any D.o (by omega)).mono ?_
    rw [← HS.o,← HC.o,← HR.o]
    rintro e w2 ⟨rfl,rfl⟩
    go_wp2
    obtain ⟨w9,hw9⟩:∃ w9,w9=fillE wr w.heap.size zeroE:=⟨_,rfl⟩
    change bodyPost _ _ _ Exit.ret _ (fillE wr w.heap.size zeroE)
    have FB:=T.o.fill zeroE
    have FX:=hI (fill_below X.o (Nat.le_refl _) zeroE)
    rw [← hw9] at FB FX ⊢
    obtain ⟨f0,f1,f2,f3,f4,f5,f6⟩:=FB
    simp only [zeroE] at f0 f1 f2 f3 f4 f5 f6
    exact bodyPost_ret (v:=.tuple #[enV zeroE,.int .i64 0]) (by simp [results,Tryz.results91,go_sem,f0,f1,f2,f3,f4,f5,f6,zeroE]) rfl ⟨rfl,FX.o⟩
end
section
open Go Go.Sort Go.RowKit
theorem infoE:(Tryz.prog.info? 71).map (fun i=>(i.zero,i.size,i.bytes))=some (some (.agg (enA ⟨0,0,0,0,0,0,⟨#[]⟩⟩)),7,64):=by kernel_rfl
theorem one7 {M:List EnD}:∀ r ∈ M.map enL,∀ u ∈ r,u.oneCell'=true:=by
 intro r hr u hu
 obtain ⟨d,-,rfl⟩:=List.mem_map.1 hr
 simp [enL] at hu
 rcases hu with rfl | rfl | rfl | rfl | rfl | rfl | rfl <;> rfl
theorem wid7 {M:List EnD}:∀ r ∈ M.map enL,r.length=7:=by
 intro r hr
 obtain ⟨d,-,rfl⟩:=List.mem_map.1 hr
 rfl
def DecPost (w:World) (R:Option (List EnD)) (e:Ending) (w':World):Prop:=
 match R with
 | none=>e=.returned (.tuple #[.slice none 0 0,.int .i64 1])∧Ext w w'
 | some L=>∃ p cap,e=.returned (.tuple #[.slice p L.length cap,.int .i64 0])∧OwS 71 7 w' w.heap.size p L.length cap (L.map enL)∧Ext w w'∧∀ x ∈ L,EnOk x
theorem decode_any {w:World} {p:Option Addr} {n cap:Nat} {b:List UInt8} (h:SlP w p n cap b) (hn:n≤6000) :
  Calls Tryz.prog 72 #[.slice p n cap] w fun e w'=>DecPost w (decL b) e w':=by
 obtain ⟨i0,hi0,hz0,hz1,hz2⟩:=info_parts infoE
 have hcap:=h.le
 have H:=hI h
 have HL:=hI h.len
 clear h
 obtain ⟨R,hR⟩:∃ R,R=decL b:=⟨_,rfl⟩
 rw [← hR]
 have HR:=hI hR
 clear hR
 go_enter Tryz.func72,Tryz.ntmps72
 go_wp2
 go_loopw [4,5] (fun v ati wr=>∃ (f x:Nat) (L:List EnD) (p':Option Addr) (cap':Nat),ati=.int .i64 (x:Int)∧v=.slice p' L.length cap'∧decF b f x L=decF b (n+1) 0 []∧n-x<f∧x≤n∧6 * L.length≤x∧OwS 71 7 wr w.heap.size p' L.length cap' (L.map enL)∧(∀ e ∈ L,EnOk e)∧Ext w wr) (fun _ ati _=>n-(intOf ati).toNat)
 case atStart=>exact ⟨n+1,0,[],none,0,rfl,rfl,rfl,by omega,by omega,by simp,OwS.nil _ _ _ _,(fun e he=>by cases he),Ext.rfl' _⟩
 case round=>
  obtain ⟨f,x,L,p',cap',rfl,rfl,hd,hf,hx,hL6,ho,hok,x1⟩:=hrel
  obtain ⟨wo,rfl⟩:∃ wo:World,wo=wr:=⟨_,rfl⟩
  obtain ⟨f',rfl⟩:∃ f',f=f'+1:=⟨f-1,by omega⟩
  have D:=hI hd
  have O:=hI ho
  have OK:=hI hok
  have X:=hI x1
  clear hd ho hok x1
  by_cases hlt:x<n
  ·have DR:=hI ((H.o.ext X.o).drop x hx)
   have cf:=fun w=>run_cut_from (P:=Tryz.prog) 72 5 Tryz.underlying72 sz5 p n cap x hx w
   cases ho1:oneL (b.drop x) with
   | none=>
    have hRn:R=none:=by
     rw [HR.o]
     unfold decL
     rw [HL.o,← D.o,decF,if_pos (by rw [HL.o];exact hlt),ho1]
    subst hRn
    have e1:oneE (b.drop x)=zeroE:=by unfold oneE;rw [ho1]
    have e2:oneN (b.drop x)=0:=by unfold oneN;rw [ho1]
    have E1:=hI e1
    have E2:=hI e2
    clear e1 e2 ho1
    go_wp2_with fail
    refine (one_any DR.o (by omega)).mono ?_
    rw [E1.o,E2.o]
    rintro e w2 ⟨rfl,x2⟩
    have X2:=hI (X.o.tr x2)
    clear x2
    go_wp2
    go_ret2
    exact ⟨rfl,X2.o.tr (Ext.alloc _ _)⟩
   | some q=>
    obtain ⟨e,k⟩:=q
    have hin:=oneL_in ho1
    rw [List.length_drop,HL.o] at hin
    obtain ⟨hek,hk6,hkn⟩:=hin
    have e1:oneE (b.drop x)=e:=by unfold oneE;rw [ho1]
    have e2:oneN (b.drop x)=k:=by unfold oneN;rw [ho1]
    have D2:Hid (decF b f' (x+k) (L++[e])=decF b (n+1) 0 []):=hI (by
     rw [← D.o,decF,if_pos (by rw [HL.o];exact hlt),ho1])
    have E1:=hI e1
    have E2:=hI e2
    have EK:=hI hek
    clear e1 e2 ho1 hek
    have hk0:((k:Int)==0)=false:=beq_eq_false_iff_ne.2 (by omega)
    obtain ⟨f1,f2,f3,f4,f5,f6,dat⟩:=e
    go_wp2_with fail
    refine (one_any DR.o (by omega)).mono ?_
    rw [E1.o,E2.o]
    rintro e w2 ⟨rfl,x2⟩
    have X2:=hI x2
    clear x2
    have A2:=hI ((Ext.alloc w2 (.cells (enA ⟨f1,f2,f3,f4,f5,f6,dat⟩) 71)).tr (Ext.alloc _ (.cells (enA ⟨f1,f2,f3,f4,f5,f6,dat⟩) 71)))
    have SR:Hid (SlS 7 ((w2.alloc (.cells (enA ⟨f1,f2,f3,f4,f5,f6,dat⟩) 71)).alloc (.cells (enA ⟨f1,f2,f3,f4,f5,f6,dat⟩) 71)) (some ⟨w2.heap.size+1,0,none⟩) 1 1 (([⟨f1,f2,f3,f4,f5,f6,dat⟩]:List EnD).map enL)):=hI (by
     have h:=SlS.lit (K:=7) (E:=71) (w2.alloc (.cells (enA ⟨f1,f2,f3,f4,f5,f6,dat⟩) 71)) 1 (enA ⟨f1,f2,f3,f4,f5,f6,dat⟩) (0,0) (([⟨f1,f2,f3,f4,f5,f6,dat⟩]:List EnD).map enL) rfl wid7 rfl (by omega)
     rw [show (w2.alloc (.cells (enA ⟨f1,f2,f3,f4,f5,f6,dat⟩) 71)).heap.size=w2.heap.size+1 by simp] at h
     exact h)
    go_wp2_with (at_builtin;refine wpList_appS rfl _ _ 43 rfl w.heap.size Tryz.underlying43 i0 _ 64 hi0 hz0 hz1 hz2 rfl (by decide) p' L.length cap' _ rfl (O.o.ext (X2.o.tr A2.o)) (some ⟨w2.heap.size+1,0,none⟩) 1 1 _ rfl SR.o one7 (by omega) (by omega) (by have:=X.o.size;have:=X2.o.size;simp;omega) ?_)
    intro p3 c3 w3 o3 g3
    have O3:=hI o3
    have X3:=hI (Ext.ownS (X.o.tr (X2.o.tr A2.o)) (O.o.ext (X2.o.tr A2.o)) g3 rfl)
    clear o3 g3
    go_wp2
    go_roundw
    case rel=>exact ⟨f',x+k,L++[⟨f1,f2,f3,f4,f5,f6,dat⟩],p3,c3,by go_num,by rw [List.length_append];rfl,D2.o,by omega,by omega,by rw [List.length_append];simp;omega,by rw [List.length_append,List.map_append];simpa using O3.o,(fun y hy=>by
     rcases List.mem_append.1 hy with hy | hy
     ·exact OK.o y hy
     ·simp at hy;subst hy;exact EK.o),X3.o⟩
    case measure=>simp [intOf];omega
  ·have hRs:R=if encAll L=b then some L else none:=by
    rw [HR.o]
    unfold decL
    rw [HL.o,← D.o,decF,if_neg (by rw [HL.o];exact hlt)]
   by_cases heq:encAll L=b
   ·rw [if_pos heq] at hRs
    subst hRs
    have hbq:(encAll L==b)=true:=by rw [heq];exact beq_self_eq_true _
    have HBQ:=hI hbq
    clear hbq heq
    go_wp2_with fail
    refine (encode_any O.o.sl OK.o (by omega)).mono ?_
    rintro e w2 ⟨p2,c2,rfl,o2,x2⟩
    have O2:=hI o2
    have X2:=hI x2
    clear o2 x2
    go_wp2_with fail
    refine (equal_any O2.o.sl (H.o.ext (X.o.tr X2.o))).mono ?_
    rw [HBQ.o]
    rintro e w3 ⟨rfl,rfl⟩
    go_wp2
    go_ret2
    exact ⟨p',cap',rfl,O.o.ext X2.o,X.o.tr X2.o,OK.o⟩
   ·rw [if_neg heq] at hRs
    subst hRs
    have hbq:(encAll L==b)=false:=beq_eq_false_iff_ne.2 heq
    have HBQ:=hI hbq
    clear hbq heq
    go_wp2_with fail
    refine (encode_any O.o.sl OK.o (by omega)).mono ?_
    rintro e w2 ⟨p2,c2,rfl,o2,x2⟩
    have O2:=hI o2
    have X2:=hI x2
    clear o2 x2
    go_wp2_with fail
    refine (equal_any O2.o.sl (H.o.ext (X.o.tr X2.o))).mono ?_
    rw [HBQ.o]
    rintro e w3 ⟨rfl,rfl⟩
    go_wp2
    go_ret2
    exact ⟨rfl,X.o.tr X2.o⟩
end
section
open Go Go.Sort Go.RowKit
theorem eqB_iff (a b:EnD):eqB a b=true↔a=b:=by
 obtain ⟨a1,a2,a3,a4,a5,a6,a7⟩:=a
 obtain ⟨b1,b2,b3,b4,b5,b6,b7⟩:=b
 simp [eqB,sameB,and_assoc]
theorem eqB_self (a:EnD):eqB a a=true:=(eqB_iff a a).2 rfl
theorem eqB_ne {a b:EnD} (h:eqB a b=false):a≠b:=fun e=>by rw [e,eqB_self] at h;cases h
def eqL:List EnD→List EnD→Bool
 | [],[]=>true
 | a::l,b::m=>eqB a b&&eqL l m
 | _,_=>false
theorem eqL_iff:∀ (l m:List EnD),eqL l m=true↔l=m
 | [],[]=>by simp [eqL]
 | a::l,b::m=>by simp [eqL,eqB_iff,eqL_iff l m]
 | [],b::m=>by simp [eqL]
 | a::l,[]=>by simp [eqL]
theorem eqL_no {l m:List EnD} (h:l≠m):eqL l m=false:=by
 cases hh:eqL l m
 ·rfl
 ·exact absurd ((eqL_iff l m).1 hh) h
theorem decF_len {b:List UInt8}:∀ (f i:Nat) (L M:List EnD),decF b f i L=some M→6 * L.length≤i→i≤b.length→6 * M.length≤b.length
 | 0,i,L,M,h,_,_=>by simp [decF] at h
 | f+1,i,L,M,h,hl,hi=>by
  rw [decF] at h
  split at h
  ·cases ho:oneL (b.drop i) with
   | none=>rw [ho] at h;cases h
   | some q=>
    obtain ⟨e,k⟩:=q
    rw [ho] at h
    obtain ⟨-,h6,hk⟩:=oneL_in ho
    rw [List.length_drop] at hk
    exact decF_len f (i+k) (L++[e]) M h (by simp;omega) (by omega)
  ·cases h
   omega
theorem decL_len {b:List UInt8} {L:List EnD} (h:decL b=some L):6 * L.length≤b.length:=by
 unfold decL at h
 split at h
 ·cases h
 ·rename_i M hM
  split at h
  ·cases h
   exact decF_len _ _ _ _ hM (by simp) (by omega)
  ·cases h
theorem eqall_any {w:World} {p q:Option Addr} {n m cap c2:Nat} {L M:List EnD} (h:SlS 7 w p n cap (L.map enL)) (h2:SlS 7 w q m c2 (M.map enL)) :
  Calls Tryz.prog 54 #[.slice p n cap,.slice q m c2] w fun e w'=>e=.returned (.bool (eqL L M))∧Ext w w':=by
 have hn:n≤9223372036854775807:=Nat.le_trans h.le h.max
 have N:=hI (en_len h)
 have N2:=hI (en_len h2)
 have S:=hI h
 have S2:=hI h2
 clear h h2
 obtain ⟨B,hB⟩:∃ B,B=eqL L M:=⟨_,rfl⟩
 rw [← hB]
 have HB:=hI hB
 clear hB
 by_cases hnm:n=m
 ·subst hnm
  go_enter Tryz.func54,Tryz.ntmps54
  go_wp2
  go_loopw [5] (fun i wr=>∃ k:Nat,k≤n∧i=.int .i64 (k:Int)∧L.take k=M.take k∧Ext w wr) (fun i _=>n-(intOf i).toNat)
  case atStart=>exact ⟨0,by omega,rfl,rfl,Ext.rfl' _⟩
  case round=>
   obtain ⟨k,hk,rfl,ht,x1⟩:=hrel
   have T:=hI ht
   have X:=hI x1
   clear ht x1
   by_cases hlt:k<n
   ·obtain ⟨b,o,e,hp,hx,c0,c1,c2,c3,c4,c5,c6⟩:=en_at (S.o.ext (X.o.tr (Ext.drew wr))) k hlt
    obtain ⟨b',o',e',hp',hx',d0,d1,d2,d3,d4,d5,d6⟩:=en_at (S2.o.ext (X.o.tr (Ext.drew wr))) k hlt
    have HX:=hI hx
    have HX':=hI hx'
    clear hx hx'
    subst hp hp'
    obtain ⟨f1,f2,f3,f4,f5,f6,dat⟩:=e
    obtain ⟨g1,g2,g3,g4,g5,g6,gat⟩:=e'
    simp only at c0 c1 c2 c3 c4 c5 c6 d0 d1 d2 d3 d4 d5 d6
    have EQ:=hI (fun w=>eq_ref (a:=⟨f1,f2,f3,f4,f5,f6,dat⟩) (b:=⟨g1,g2,g3,g4,g5,g6,gat⟩) (w:=w))
    have r0:=fun d os=>Ext.cell (Ext.reg wr.drew d os) c0
    have r1:=fun d os=>Ext.cell (Ext.reg wr.drew d os) c1
    have r2:=fun d os=>Ext.cell (Ext.reg wr.drew d os) c2
    have r3:=fun d os=>Ext.cell (Ext.reg wr.drew d os) c3
    have r4:=fun d os=>Ext.cell (Ext.reg wr.drew d os) c4
    have r5:=fun d os=>Ext.cell (Ext.reg wr.drew d os) c5
    have r6:=fun d os=>Ext.cell (Ext.reg wr.drew d os) c6
    have s0:=fun d os=>Ext.cell (Ext.reg wr.drew d os) d0
    have s1:=fun d os=>Ext.cell (Ext.reg wr.drew d os) d1
    have s2:=fun d os=>Ext.cell (Ext.reg wr.drew d os) d2
    have s3:=fun d os=>Ext.cell (Ext.reg wr.drew d os) d3
    have s4:=fun d os=>Ext.cell (Ext.reg wr.drew d os) d4
    have s5:=fun d os=>Ext.cell (Ext.reg wr.drew d os) d5
    have s6:=fun d os=>Ext.cell (Ext.reg wr.drew d os) d6
    clear c0 c1 c2 c3 c4 c5 c6 d0 d1 d2 d3 d4 d5 d6
    cases he:eqB ⟨f1,f2,f3,f4,f5,f6,dat⟩ ⟨g1,g2,g3,g4,g5,g6,gat⟩
    ·have hBf:B=false:=by
      rw [HB.o]
      refine eqL_no fun hh=>?_
      have h1:=HX.o
      rw [hh,HX'.o] at h1
      injection h1 with h1
      exact eqB_ne he h1.symm
     subst hBf
     rw [he] at EQ
     clear he
     go_wp2_with fail
     refine wtt [0,1,2,3,4,5,6,7,8,9] ?_
     repeat ((first|refine wqq fun K hK=>?_|refine wkk fun K hK=>?_);go_big_quiet_op;refine hK _ ?_;clear hK K)
     refine wcc fun K hK=>?_
     go_simp
     refine (EQ.o _).mono ?_
     rintro e w4 ⟨rfl,x4⟩
     refine hK _ _ x4 ?_
     clear hK K r0 r1 r2 r3 r4 r5 r6 s0 s1 s2 s3 s4 s5 s6
     have X4:=hI (X.o.tr ((Ext.drew wr).tr x4))
     clear x4
     repeat ((first|refine wqq fun K hK=>?_|refine wkk fun K hK=>?_);go_big_quiet_op;refine hK _ ?_;clear hK K)
     refine rw_nil ?_
     go_wp2
     go_ret
     exact ⟨rfl,X4.o⟩
    ·have T2:Hid (L.take (k+1)=M.take (k+1)):=hI (by
      rw [List.take_add_one,List.take_add_one,HX.o,HX'.o,T.o,(eqB_iff _ _).1 he])
     rw [he] at EQ
     clear he
     go_wp2_with fail
     refine wtt [0,1,2,3,4,5,6,7,8,9] ?_
     repeat ((first|refine wqq fun K hK=>?_|refine wkk fun K hK=>?_);go_big_quiet_op;refine hK _ ?_;clear hK K)
     refine wcc fun K hK=>?_
     go_simp
     refine (EQ.o _).mono ?_
     rintro e w4 ⟨rfl,x4⟩
     refine hK _ _ x4 ?_
     clear hK K r0 r1 r2 r3 r4 r5 r6 s0 s1 s2 s3 s4 s5 s6
     have X4:=hI (X.o.tr ((Ext.drew wr).tr x4))
     clear x4
     repeat ((first|refine wqq fun K hK=>?_|refine wkk fun K hK=>?_);go_big_quiet_op;refine hK _ ?_;clear hK K)
     refine rw_nil ?_
     go_wp2
     go_roundw
     case rel=>exact ⟨k+1,by omega,by go_num,T2.o,X4.o⟩
     case measure=>simp [intOf];omega
   ·have hBt:B=true:=by
     rw [HB.o]
     refine (eqL_iff L M).2 ?_
     have h1:=T.o
     rwa [List.take_of_length_le (by rw [N.o];omega),List.take_of_length_le (by rw [N2.o];omega)] at h1
    subst hBt
    go_wp2
    go_ret
    exact ⟨rfl,X.o⟩
 ·have hBf:B=false:=by
   rw [HB.o]
   refine eqL_no fun hh=>hnm ?_
   rw [← N.o,hh,N2.o]
  subst hBf
  have h1:((n:Int) != (m:Int))=true:=bne_iff_ne.2 (by omega)
  have h2:((n:Int)==(m:Int))=false:=beq_eq_false_iff_ne.2 (by omega)
  clear hnm
  go_enter Tryz.func54,Tryz.ntmps54
  go_wp2
  go_ret
  exact ⟨rfl,Ext.rfl' _⟩
end
section
structure MsD where
 kd:Int
 fr:Int
 to:Int
 bt:Int
 vw:Int
 ls:Int
 mb:Int
 po:Int
 cm:Int
 nm:Int
 ck:Int
 ye:Bool
def MsOk (m:MsD):Prop:=I64 m.kd∧I64 m.fr∧I64 m.to∧I64 m.bt∧I64 m.vw∧I64 m.ls∧I64 m.mb∧I64 m.po∧I64 m.cm∧I64 m.nm∧I64 m.ck
def zeroM:MsD:=⟨0,0,0,0,0,0,0,0,0,0,0,false⟩
abbrev msL (m:MsD) (p:Option Addr) (n cap:Nat):List Value:=[.int .i64 m.kd,.int .i64 m.fr,.int .i64 m.to,.int .i64 m.bt,.int .i64 m.vw,.int .i64 m.ls,.int .i64 m.mb,.int .i64 m.po,.slice p n cap,.int .i64 m.cm,.int .i64 m.nm,.int .i64 m.ck,.bool m.ye]
abbrev msA (m:MsD) (p:Option Addr) (n cap:Nat):Array Value:=#[.int .i64 m.kd,.int .i64 m.fr,.int .i64 m.to,.int .i64 m.bt,.int .i64 m.vw,.int .i64 m.ls,.int .i64 m.mb,.int .i64 m.po,.slice p n cap,.int .i64 m.cm,.int .i64 m.nm,.int .i64 m.ck,.bool m.ye]
abbrev msV (m:MsD) (p:Option Addr) (n cap:Nat):Value:=.agg (msA m p n cap)
def whoB (m:MsD):Bool:=[m.kd].all (inB 1 13)&&([m.fr,m.to].all (inB 1 7)&&((m.fr != m.to)&&[m.bt].all (inB 1 1099511627776)))
def whatB (m:MsD):Bool:=[m.vw,m.ls,m.nm,m.ck].all (inB 0 1099511627776)&&([m.mb].all (inB 0 127)&&[m.po,m.cm].all (inB 0 60))
def mayM (m:MsD) (L:List EnD):Bool:=whoB m&&(whatB m&&(decide (L.length≤60)&&L.all mayB))
theorem who_iff (m:MsD):whoB m=true↔1≤m.kd∧m.kd≤13∧1≤m.fr∧m.fr≤7∧1≤m.to∧m.to≤7∧m.fr≠m.to∧1≤m.bt∧m.bt≤1099511627776:=by
 simp [whoB,inB,and_assoc]
theorem what_iff (m:MsD):whatB m=true↔0≤m.vw∧m.vw≤1099511627776∧0≤m.ls∧m.ls≤1099511627776∧0≤m.nm∧m.nm≤1099511627776∧0≤m.ck∧m.ck≤1099511627776∧0≤m.mb∧m.mb≤127∧0≤m.po∧m.po≤60∧0≤m.cm∧m.cm≤60:=by
 simp [whatB,inB,and_assoc]
theorem mayM_iff {m:MsD} {L:List EnD}:mayM m L=true↔whoB m=true∧whatB m=true∧L.length≤60∧L.all mayB=true:=by
 simp [mayM]
def yeI (m:MsD):Int:=if m.ye then 1 else 0
def numsM (m:MsD) (n:Nat):List Int:=[m.kd,m.fr,m.to,m.bt,m.vw,m.ls,m.mb,m.po,m.cm,m.nm,m.ck,yeI m,(n:Int)]
def bodyM (m:MsD) (L:List EnD):List UInt8:=encs (numsM m L.length)++encAll L
def encM (m:MsD) (L:List EnD):List UInt8:=if mayM m L then sealL (bodyM m L) else []
theorem yeI_ok (m:MsD):I64 (yeI m):=by unfold yeI I64;split <;> omega
theorem yeI_one (m:MsD):decide (yeI m=1)=m.ye:=by unfold yeI;cases m.ye <;> rfl
theorem numsM_ok {m:MsD} {n:Nat} (h:MsOk m) (hn:n≤1000000):∀ x ∈ numsM m n,I64 x:=by
 obtain ⟨h1,h2,h3,h4,h5,h6,h7,h8,h9,h10,h11⟩:=h
 have h12:=yeI_ok m
 have h13:I64 (n:Int):=by unfold I64;omega
 intro x hx
 simp [numsM] at hx
 rcases hx with rfl | rfl | rfl | rfl | rfl | rfl | rfl | rfl | rfl | rfl | rfl | rfl | rfl <;> assumption
theorem encs_lenM:∀ (zs:List Int),(∀ x ∈ zs,I64 x)→(encs zs).length≤10 * zs.length
 | [],_=>by simp [encs]
 | x::zs,h=>by
  have h1:=enc_len10 (h x (by simp))
  have h2:=encs_lenM zs (fun y hy=>h y (by simp [hy]))
  simp only [encs,List.length_append,List.length_cons]
  omega
theorem enB_len86 {e:EnD} (h:EnOk e) (hm:e.da.size≤16):(enB e).length≤86:=by
 obtain ⟨h1,h2,h3,h4,h5,h6,h7⟩:=h
 have a1:=enc_len10 h1
 have a2:=enc_len10 h2
 have a3:=enc_len10 h3
 have a4:=enc_len10 h4
 have a5:=enc_len10 h5
 have a6:=enc_len10 h6
 have hs:=size_list e.da
 have a7:(enc (zig (e.da.data.toList.length:Int))).length≤10:=enc_len10 ⟨by omega,by omega⟩
 simp only [enB,nums,encs,txt,List.length_append,List.length_nil]
 omega
theorem encAll_len86:∀ {L:List EnD},(∀ e ∈ L,EnOk e)→L.all mayB=true→(encAll L).length≤86 * L.length:=by
 intro L h hm
 unfold encAll
 rw [if_pos hm]
 induction L with
 | nil=>simp
 | cons e L ih=>
  have hm2:mayB e=true∧L.all mayB=true:=by simpa using hm
  have h1:=enB_len86 (h e (by simp)) (may_size hm2.1)
  have h2:=ih (fun x hx=>h x (by simp [hx])) hm2.2
  simp only [List.map_cons,List.flatten_cons,List.length_append,List.length_cons]
  omega
theorem bodyM_len {m:MsD} {L:List EnD} (h:MsOk m) (hL:∀ e ∈ L,EnOk e) (hm:mayM m L=true):(bodyM m L).length≤5290:=by
 obtain ⟨-,-,h1,h2⟩:=mayM_iff.1 hm
 have a:=encs_lenM _ (numsM_ok h (show L.length≤1000000 by omega))
 have b:=encAll_len86 hL h2
 have c:(numsM m L.length).length=13:=rfl
 unfold bodyM
 rw [List.length_append]
 omega
theorem encM_len {m:MsD} {L:List EnD} (h:MsOk m) (hL:∀ e ∈ L,EnOk e):(encM m L).length≤5294:=by
 unfold encM
 split
 ·rename_i hm
  rw [sealL_length]
  have:=bodyM_len h hL hm
  omega
 ·simp
theorem encM_no {m:MsD} {L:List EnD} (hm:mayM m L=false):encM m L=[]:=by
 unfold encM
 rw [hm]
 rfl
def ofNums:List Int→Option MsD
 | [k,f,t,b,v,l,mb,po,cm,nm,ck,y,_]=>some ⟨k,f,t,b,v,l,mb,po,cm,nm,ck,decide (y=1)⟩
 | _=>none
theorem ofNums_nums (m:MsD) (n:Nat):ofNums (numsM m n)=some m:=by
 show some (⟨m.kd,m.fr,m.to,m.bt,m.vw,m.ls,m.mb,m.po,m.cm,m.nm,m.ck,decide (yeI m=1)⟩:MsD)=some m
 rw [yeI_one]
theorem ofNums_ok {l:List Int} {m:MsD} (h:ofNums l=some m) (hl:∀ x ∈ l,I64 x):MsOk m:=by
 unfold ofNums at h
 split at h
 ·cases h
  exact ⟨hl _ (by simp),hl _ (by simp),hl _ (by simp),hl _ (by simp),hl _ (by simp),hl _ (by simp),hl _ (by simp),hl _ (by simp),hl _ (by simp),hl _ (by simp),hl _ (by simp)⟩
 ·cases h
def decM (b:List UInt8):Option (MsD × List EnD):=
 if opens b=true then
  match parseN (openL b) 13 with
  | none=>none
  | some (l,i)=>match ofNums l with
   | none=>none
   | some m=>match decL ((openL b).drop i) with
    | none=>none
    | some L=>if encM m L=b∧mayM m L=true then some (m,L) else none
 else none
theorem decM_enc {m:MsD} {L:List EnD} (h:MsOk m) (hL:∀ e ∈ L,EnOk e) (hm:mayM m L=true):decM (encM m L)=some (m,L):=by
 obtain ⟨-,-,h1,h2⟩:=mayM_iff.1 hm
 have e:encM m L=sealL (bodyM m L):=by unfold encM;rw [if_pos hm]
 have p:=parseN_encs (numsM_ok h (show L.length≤1000000 by omega)) (encAll L) 13 (by simp [numsM])
 have t:(numsM m L.length).take 13=numsM m L.length:=List.take_of_length_le (by simp [numsM])
 rw [t] at p
 unfold decM
 rw [e,if_pos (opens_seal _),openL_seal]
 unfold bodyM
 rw [p]
 simp only [ofNums_nums,List.drop_left,decL_enc hL h2]
 rw [if_pos ⟨by rw [e];rfl,hm⟩]
theorem decM_some {b:List UInt8} {m:MsD} {L:List EnD} (h:decM b=some (m,L)):encM m L=b∧mayM m L=true∧MsOk m:=by
 unfold decM at h
 split at h
 ·split at h
  ·cases h
  ·rename_i l i hp
   split at h
   ·cases h
   ·rename_i m' ho
    split at h
    ·cases h
    ·rename_i L' hd
     split at h
     ·rename_i hh
      cases h
      exact ⟨hh.1,hh.2,ofNums_ok ho (parseN_in hp).2.1⟩
     ·cases h
 ·cases h
end
section
open Go Go.RowKit
structure BoxV (w:World) (base g:Nat) (vs:List Value):Prop where
 lo:base≤g
 hi:g<w.heap.size
 c:∀ (j:Nat) (v:Value),vs[j]?=some v→w.cell? ⟨g,j,none⟩=some v
 f:∀ j,w.frozen? ⟨g,j,none⟩=false
theorem BoxV.ext {w w':World} {base g:Nat} {vs:List Value} (h:BoxV w base g vs) (k:Ext w w'):BoxV w' base g vs:=
 ⟨h.lo,Nat.lt_of_lt_of_le h.hi k.size,fun j v hv=>Ext.cell k (h.c j v hv),fun j=>by rw [Below.frozen k (p:=⟨g,j,none⟩) h.hi];exact h.f j⟩
theorem BoxV.base {w:World} {base base' g:Nat} {vs:List Value} (h:BoxV w base g vs) (hb:base'≤base):BoxV w base' g vs:=⟨Nat.le_trans hb h.lo,h.hi,h.c,h.f⟩
theorem BoxV.new (w:World) (base:Nat) (cur:Array Value) (vs:List Value) (t:TypeId) (g:Nat) (hg:g=w.heap.size) (hb:base≤g) (hc:cur.toList=vs):BoxV (w.alloc (.cells cur t)) base g vs:=by
 subst hg
 refine ⟨hb,by simp,fun j v hv=>?_,fun j=>World.frozen?_alloc_at _ _ _ _ rfl⟩
 rw [World.cell?_alloc_mark,← Array.getElem?_toList,hc,hv]
theorem BoxV.other {w w':World} {base g:Nat} {row:Option Nat} {vs:List Value} (h:BoxV w base g vs) (k:w.grownBy w' row) (hne:row≠some g):BoxV w' base g vs:=by
 have hb:=k.block g h.hi (fun e=>hne e.symm)
 refine ⟨h.lo,Nat.lt_of_lt_of_le h.hi k.size,fun j v hv=>(World.cell?_of_block hb).trans (h.c j v hv),fun j=>?_⟩
 have:=h.f j
 simp only [World.frozen?,hb] at this ⊢
 exact this
def fillV (w:World) (g:Nat):Nat→List Value→World
 | _,[]=>w
 | j,v::vs=>fillV (w.setCell ⟨g,j,none⟩ v) g (j+1) vs
theorem fillV_grown (g:Nat):∀ (vs:List Value) (j:Nat) (w0 w:World),w0.grownBy w (some g)→w0.grownBy (fillV w g j vs) (some g)
 | [],_,_,_,h=>h
 | v::vs,j,w0,w,h=>fillV_grown g vs (j+1) w0 _ ⟨h.os,h.tape,h.output,by simpa [World.setCell] using h.size,fun i hi hne=>(Below.heap_setCell w ⟨g,j,none⟩ v i (by rintro rfl;exact hne rfl)).trans (h.block i hi hne)⟩
theorem fillV_size (g:Nat):∀ (vs:List Value) (j:Nat) (w:World),(fillV w g j vs).heap.size=w.heap.size
 | [],_,_=>rfl
 | v::vs,j,w=>by rw [fillV,fillV_size g vs];simp [World.setCell]
theorem fillV_frozen (g:Nat) (a:Addr):∀ (vs:List Value) (j:Nat) (w:World),(fillV w g j vs).frozen? a=w.frozen? a
 | [],_,_=>rfl
 | v::vs,j,w=>by rw [fillV,fillV_frozen g a vs];simp
theorem fillV_low (g:Nat) (k:Nat):∀ (vs:List Value) (j:Nat) (w:World),k<j→(fillV w g j vs).cell? ⟨g,k,none⟩=w.cell? ⟨g,k,none⟩
 | [],_,_,_=>rfl
 | v::vs,j,w,h=>by
  rw [fillV,fillV_low g k vs (j+1) _ (by omega)]
  exact World.cell?_setCell_other (h:=by simp <;> omega) ..
theorem fillV_cell (g:Nat) (k:Nat):∀ (vs:List Value) (j:Nat) (w:World) (v:Value),(∀ i,i<vs.length→∃ u,w.cell? ⟨g,j+i,none⟩=some u)→vs[k]?=some v→(fillV w g j vs).cell? ⟨g,j+k,none⟩=some v
 | [],_,_,_,_,h=>by simp at h
 | u::vs,j,w,v,hw,h=>by
  rw [fillV]
  cases k with
  | zero=>
   simp at h
   subst h
   show (fillV (w.setCell ⟨g,j,none⟩ u) g (j+1) vs).cell? ⟨g,j,none⟩=some u
   rw [fillV_low g j vs (j+1) _ (by omega)]
   obtain ⟨x,hx⟩:=hw 0 (by simp)
   exact World.cell?_setCell_same (h:=hx) ..
  | succ k=>
   have:=fillV_cell g k vs (j+1) (w.setCell ⟨g,j,none⟩ u) v (fun i hi=>by
    obtain ⟨x,hx⟩:=hw (i+1) (by simp;omega)
    refine ⟨x,?_⟩
    rw [World.cell?_setCell_other (h:=by simp <;> omega)]
    rwa [show j+1+i=j+(i+1) by omega]) (by simpa using h)
   rwa [show j+1+k=j+(k+1) by omega] at this
theorem BoxV.fill {w:World} {base g:Nat} {us vs:List Value} (h:BoxV w base g us) (hl:vs.length≤us.length):BoxV (fillV w g 0 vs) base g vs:=
 ⟨h.lo,by rw [fillV_size];exact h.hi,fun j v hv=>by
  have:=fillV_cell g j vs 0 w v (fun i hi=>by
   have:i<us.length:=by omega
   exact ⟨us[i],by rw [Nat.zero_add];exact h.c i _ (by simp)⟩) hv
  rwa [Nat.zero_add] at this,fun j=>by rw [fillV_frozen];exact h.f j⟩
theorem BoxV.put {w:World} {base g:Nat} {vs:List Value} (h:BoxV w base g vs) (j:Nat) (v:Value):BoxV (w.setCell ⟨g,j,none⟩ v) base g (vs.set j v):=
 ⟨h.lo,by simpa [World.setCell] using h.hi,fun i u hu=>by
  rw [List.getElem?_set] at hu
  by_cases hij:j=i
  ·subst hij
   rw [if_pos rfl] at hu
   split at hu
   ·rename_i hlt
    cases hu
    exact World.cell?_setCell_same (h:=h.c j _ (List.getElem?_eq_getElem hlt)) ..
   ·cases hu
  ·rw [if_neg hij] at hu
   rw [World.cell?_setCell_other (h:=by simp <;> omega)]
   exact h.c i u hu,fun i=>by simp [h.f i]⟩
theorem grown_put {a w:World} {g:Nat} (h:a.grownBy w (some g)) (o:Nat) (u:Value):a.grownBy (w.setCell ⟨g,o,none⟩ u) (some g):=
 ⟨h.os,h.tape,h.output,by simpa [World.setCell] using h.size,fun i hi hne=>(Below.heap_setCell w ⟨g,o,none⟩ u i (by rintro rfl;exact hne rfl)).trans (h.block i hi hne)⟩
theorem grown_refl (w:World) (row:Option Nat):w.grownBy w row:=World.grownBy.refl _ _
theorem grown_ext {a w:World} (h:Ext a w) (row:Option Nat):a.grownBy w row:=⟨h.os,h.tape,h.output,h.size,fun i hi _=>h.block i hi⟩
theorem grown_tr {a b c:World} {row:Option Nat} (h:a.grownBy b row) (k:b.grownBy c row):a.grownBy c row:=
 ⟨k.os.trans h.os,k.tape.trans h.tape,k.output.trans h.output,Nat.le_trans h.size k.size,fun i hi hne=>(k.block i (Nat.lt_of_lt_of_le hi h.size) hne).trans (h.block i hi hne)⟩
theorem fillV_below {base:Nat} {w0 w:World} {g:Nat} (h:Below base w0 w) (hg:base≤g):∀ (vs:List Value) (j:Nat),Below base w0 (fillV w g j vs)
 | vs,j=>by
  induction vs generalizing w j with
  | nil=>exact h
  | cons v vs ih=>exact ih (h.setCell hg _) (j+1)
theorem BoxV.kept {w w':World} {base b0 g:Nat} {vs:List Value} (h:BoxV w base g vs) (k:Below b0 w w') (hb:g<b0):BoxV w' base g vs:=
 ⟨h.lo,Nat.lt_of_lt_of_le h.hi k.size,fun j v hv=>by rw [Below.cell k hb];exact h.c j v hv,fun j=>by rw [Below.frozen k (p:=⟨g,j,none⟩) hb];exact h.f j⟩
end
section
open Go Go.Sort Go.RowKit
def tame2 (o:Oper):Bool:=tame o || match o.op with
 | .nilCheck _=>true
 | _=>false
theorem bind_value {P:Program} {β:Type} (s:Sem β) (f:β→Sem Next) (h:∀ b w,(∃ v w',(f b).run P w=.ok (.value v) w')∨∃ x w',(f b).run P w=.halt x w') (w:World):(∃ v w',(s >>= f).run P w=.ok (.value v) w')∨∃ x w',(s >>= f).run P w=.halt x w':=by
 rw [Sem.run_bind]
 cases s.run P w with
 | ok v w'=>exact h v w'
 | halt x w'=>exact .inr ⟨x,w',rfl⟩
theorem nil_run {P:Program} {o:Oper} {x:Operand} (ho:o.op=.nilCheck x) (ρ:Operand→Value) (w:World):(∃ v w',(execOp ρ o).run P w=.ok (.value v) w')∨∃ h w',(execOp ρ o).run P w=.halt h w':=by
 unfold execOp
 rw [ho]
 simp only []
 split
 ·exact .inr ⟨_,_,rfl⟩
 ·exact .inr ⟨_,_,rfl⟩
 ·exact .inr ⟨_,_,rfl⟩
 ·split
  ·exact .inr ⟨_,_,rfl⟩
  ·refine bind_value _ _ (fun b w=>?_) w
   refine bind_value _ _ (fun b w=>?_) w
   split
   ·refine bind_value _ _ (fun b w=>?_) w
    exact .inl ⟨_,_,rfl⟩
   ·exact .inl ⟨_,_,rfl⟩
  ·exact .inl ⟨_,_,rfl⟩
 ·exact .inl ⟨_,_,rfl⟩
theorem tame2_yields {P:Program} {o:Oper} (ht:tame2 o=true) {a:Act} {C:World→Prop} {w:World} {v:Value} (h:o.quietAt P a C w v):(execOp a.eval o).run P w=.ok (.value v) w:=by
 unfold tame2 at ht
 rw [Bool.or_eq_true] at ht
 rcases ht with ht | ht
 ·exact tame_yields ht h
 ·cases ho:o.op <;> rw [ho] at ht <;> simp at ht
  rename_i x
  unfold Oper.quietAt at h
  rcases nil_run (P:=P) ho a.eval w with ⟨u,w',e⟩ | ⟨y,w',e⟩
  ·rw [e] at h
   obtain ⟨rfl,rfl⟩:=h
   exact e
  ·rw [e] at h
   exact h.elim
section
variable {P:Program} {ops:Array Oper} {md:Region.Mode} {Q:Exit→Act→World→Prop} {S:World→Prop} {tl:Nat→Bool}
def ClosedL (md:Region.Mode) (ops:Array Oper) (listed:Array Bool):Prop:=∀ (j:Nat) (oj:Oper),ops[j]?=some oj→listed.getD j false=true→∀ e ∈ oj.after,Region.binds md e=true→listed.getD e.on false=true
def reach (md:Region.Mode) (ops:Array Oper):Nat→Nat→Nat→Bool
 | 0,_,_=>false
 | n+1,j,i=>match ops[j]? with
  | none=>false
  | some o=>o.after.any fun e=>Region.binds md e&&(e.on==i || reach md ops n e.on i)
theorem reach_listed {listed:Array Bool} (hc:ClosedL md ops listed) {i:Nat}:∀ (n j:Nat),listed.getD j false=true→reach md ops n j i=true→listed.getD i false=true
 | 0,j,_,h=>by simp [reach] at h
 | n+1,j,hj,h=>by
  rw [reach] at h
  cases ho:ops[j]? with
  | none=>rw [ho] at h;cases h
  | some o=>
   rw [ho] at h
   simp only [Array.any_eq_true'] at h
   obtain ⟨e,he,h⟩:=h
   rw [Bool.and_eq_true,Bool.or_eq_true] at h
   have h1:=hc j o ho hj e he h.1
   rcases h.2 with h2 | h2
   ·rw [← eq_of_beq h2];exact h1
   ·exact reach_listed hc n e.on h1 h2
theorem getD_true_of {listed:Array Bool} {i:Nat} (h:listed.getD i true=false):listed.getD i false=false:=by
 rcases Nat.lt_or_ge i listed.size with h' | h'
 ·simp [h'] at h ⊢;exact h
 ·simp [Array.getElem?_eq_none h'] at h
def wpAnyT (P:Program) (md:Region.Mode) (ops:Array Oper) (Q:Exit→Act→World→Prop) (S:World→Prop) (tl:Nat→Bool):Nat→Array Bool→Act→World→Prop
 | 0,listed,a,w=>Region.ready md ops listed=[]∧Q .normal a w
 | fuel+1,listed,a,w=>
  (Region.ready md ops listed=[]→Q .normal a w) ∧
  ∀ i ∈ Region.ready md ops listed,wpOp P ops Q i (fun a' w'=>(tl i=false→S w')∧wpAnyT P md ops Q S tl fuel (listed.setIfInBounds i true) a' w') a w
theorem wpAny_of_T:∀ (fuel:Nat) (listed:Array Bool) (a:Act) (w:World),wpAnyT P md ops Q S tl fuel listed a w→wpAny P md ops Q fuel listed a w
 | 0,_,_,_,h=>h
 | fuel+1,_,_,_,h=>⟨h.1,fun i hi=>wpOp_mono (fun a' w' h'=>wpAny_of_T fuel _ a' w' h'.2) (h.2 i hi)⟩
theorem closed_set {listed:Array Bool} (hc:ClosedL md ops listed) {j:Nat} (hj:j ∈ Region.ready md ops listed):ClosedL md ops (listed.setIfInBounds j true):=by
 intro k ok hk hl e he hb
 obtain ⟨hjun,oj,hoj,hall⟩:=mem_ready.1 hj
 have up:∀ m,listed.getD m false=true→(listed.setIfInBounds j true).getD m false=true:=by
  intro m hm
  by_cases hmj:m=j
  ·subst hmj
   rw [getD_true_of hjun] at hm
   cases hm
  ·simp only [Array.getD_eq_getD_getElem?] at hm ⊢
   rw [Array.getElem?_setIfInBounds_ne (Ne.symm hmj)]
   exact hm
 by_cases hkj:k=j
 ·subst hkj
  rw [hk] at hoj
  cases hoj
  exact up _ (hall e he hb)
 ·refine up _ (hc k ok hk ?_ e he hb)
  simp only [Array.getD_eq_getD_getElem?] at hl ⊢
  rw [Array.getElem?_setIfInBounds_ne (Ne.symm hkj)] at hl
  exact hl
theorem wpAnyT_first {i:Nat} {oi:Oper} {v:Value} {n:Nat} (hi:ops[i]?=some oi) (hsel:∀ (j:Nat) (o:Oper) cs b,ops[j]?=some o→o.op≠.select cs b)
  (hQ:∀ c a w,Q (.panic c) (a.put oi.dst v) w→Q (.panic c) a w) (hti:tl i=false) (htl:∀ j,tl j=true→j<ops.size→reach md ops n j i=true) :
  ∀ (fuel:Nat) (listed:Array Bool) (a:Act) (w:World),ClosedL md ops listed →
   (∀ j oj,ops[j]?=some oj→j≠i→listed.getD j true=false→(∀ e ∈ oj.after,Region.binds md e=true→e.on≠i)→oi.apart ops oj=true) →
   i ∈ Region.ready md ops listed→YieldsIf P ops S oi v a→S w →
   wpAnyT P md ops Q S tl fuel (listed.setIfInBounds i true) (a.put oi.dst v) w→wpAnyT P md ops Q S tl (fuel+1) listed a w:=by
 intro fuel
 induction fuel with
 | zero=>
  intro listed a w _ _ hr hy hS H
  refine ⟨fun h=>(by rw [h] at hr;cases hr),fun j hj=>?_⟩
  by_cases hji:j=i
  ·subst hji;exact hy.wpOp hi hS ⟨fun _=>hS,H⟩
  ·have:=ready_mono hj hji
   rw [H.1] at this
   cases this
 | succ fuel ih=>
  intro listed a w hcl hfree hr hy hS H
  refine ⟨fun h=>(by rw [h] at hr;cases hr),fun j hj=>?_⟩
  by_cases hji:j=i
  ·subst hji;exact hy.wpOp hi hS ⟨fun _=>hS,H⟩
  ·have h1:=H.2 j (ready_mono hj hji)
   obtain ⟨hjun,oj,hoj,hall⟩:=mem_ready.1 hj
   have hiun:=getD_true_of (mem_ready.1 hr).1
   have hnot:∀ e ∈ oj.after,Region.binds md e=true→e.on≠i:=fun e he hb heq=>by
    have h1:=hall e he hb
    rw [heq,hiun] at h1
    cases h1
   have htj:tl j=false:=by
    cases ht:tl j
    ·rfl
    ·exfalso
     have hr2:=htl j ht (Array.getElem?_eq_some_iff.1 hoj).1
     cases n with
     | zero=>simp [reach] at hr2
     | succ n=>
      rw [reach,hoj] at hr2
      simp only [Array.any_eq_true'] at hr2
      obtain ⟨e,he,h⟩:=hr2
      rw [Bool.and_eq_true,Bool.or_eq_true] at h
      have h3:=hall e he h.1
      rcases h.2 with h4 | h4
      ·exact hnot e he h.1 (eq_of_beq h4)
      ·have:=reach_listed hcl n e.on h3 h4
       rw [hiun] at this
       cases this
   have h2:=wpOp_putIf hoj (hfree j oj hoj hji hjun hnot) (fun cs b=>hsel i oi cs b hi) (fun cs b=>hsel j oj cs b hoj) hQ hy h1
   have hfree':∀ k ok,ops[k]?=some ok→k≠i→(listed.setIfInBounds j true).getD k true=false →
     (∀ e ∈ ok.after,Region.binds md e=true→e.on≠i)→oi.apart ops ok=true:=fun k ok hk hki hun hno=>by
    refine hfree k ok hk hki ?_ hno
    by_cases hjk:j=k
    ·subst hjk;exact hjun
    ·rw [getD_set_ne true hjk] at hun;exact hun
   refine wpOp_mono (fun a' w' h3=>⟨h3.2.1,ih (listed.setIfInBounds j true) a' w' (closed_set hcl hj) hfree' (ready_mono hr (Ne.symm hji)) h3.1 (h3.2.1 htj) ?_⟩) h2
   rw [Array.setIfInBounds_comm _ _ hji]
   exact h3.2.2
theorem wpAnyT_take {i:Nat} {oi:Oper} {v:Value} {n fuel:Nat} {listed:Array Bool} {a:Act} {w:World} (hi:ops[i]?=some oi)
  (hs:Region.noSelect ops=true) (hf:Region.free md ops listed i=true) (hr:(Region.ready md ops listed).contains i=true)
  (hQ:∀ c a w,Q (.panic c) (a.put oi.dst v) w→Q (.panic c) a w) (hti:tl i=false) (htl:∀ j,tl j=true→j<ops.size→reach md ops n j i=true) (hcl:ClosedL md ops listed) (hy:YieldsIf P ops S oi v a) (hS:S w)
  (h:wpAnyT P md ops Q S tl fuel (listed.setIfInBounds i true) (a.put oi.dst v) w):wpAnyT P md ops Q S tl (fuel+1) listed a w:=
 wpAnyT_first hi (Region.noSelect_spec hs) hQ hti htl fuel listed a w hcl (Region.free_spec hi hf) (by simpa using hr) hy hS h
theorem wpAnyT_all {rs:List Nat} {fuel:Nat} {listed:Array Bool} {a:Act} {w:World} (hr:Region.ready md ops listed=rs) (hne:rs≠[])
  (h:∀ i ∈ rs,wpOp P ops Q i (fun a' w'=>(tl i=false→S w')∧wpAnyT P md ops Q S tl fuel (listed.setIfInBounds i true) a' w') a w):wpAnyT P md ops Q S tl (fuel+1) listed a w:=
 ⟨fun h0=>absurd (hr ▸ h0) hne,hr ▸ h⟩
theorem wpAnyT_done {listed:Array Bool} {a:Act} {w:World} (hr:Region.ready md ops listed=[]) (h:Q .normal a w):∀ fuel,wpAnyT P md ops Q S tl fuel listed a w
 | 0=>⟨hr,h⟩
 | _+1=>⟨fun _=>h,by rw [hr];simp⟩
def schedT (md:Region.Mode) (ops:Array Oper):List Nat→Array Bool→Bool
 | [],listed=>(Region.ready md ops listed).isEmpty
 | i::r,listed=>Region.ready md ops listed==[i]&&schedT md ops r (listed.setIfInBounds i true)
def schedA (md:Region.Mode) (ops:Array Oper) (n:Nat) (tail:List Nat):List Nat→Array Bool→Bool
 | [],listed=>schedT md ops tail listed
 | i::r,listed=>
  (match ops[i]? with
  | none=>false
  | some o=>if tame2 o then (Region.ready md ops listed).contains i&&Region.free md ops listed i&&tail.all (fun j=>reach md ops n j i) else Region.ready md ops listed==[i])&&!tail.contains i&&schedA md ops n tail r (listed.setIfInBounds i true)
def RT (P:Program) (ol:List Oper) (Q:Exit→Act→World→Prop):List Nat→Act→World→Prop
 | [],a,w=>Q .normal a w
 | i::r,a,w=>∃ o,ol[i]?=some o∧if Region.wanted o (yielded ol.toArray a.tmps) then o.wp P a w (fun a' w'=>RT P ol Q r a' w') Q else RT P ol Q r (a.put o.dst undef) w
def RA (P:Program) (ol:List Oper) (Q:Exit→Act→World→Prop) (tail:List Nat):List Nat→Act→World→Prop
 | [],a,w=>RT P ol Q tail a w
 | i::r,a,w=>∃ o,ol[i]?=some o ∧
  if Region.wanted o (yielded ol.toArray a.tmps) then
   if tame2 o then o.quiet P a (fun w'=>∃ p:Regrown,w'=grow (redrawn w p.d) p.os) (fun a'=>RA P ol Q tail r a' w)
   else o.wp P a w (fun a' w'=>Ext w w'∧RA P ol Q tail r a' w') Q
  else RA P ol Q tail r (a.put o.dst undef) w
theorem RT.any {ol:List Oper} {tail:List Nat}:∀ (l:List Nat) (listed:Array Bool) (a:Act) (w:World),(∀ i ∈ l,i ∈ tail)→schedT md ol.toArray l listed=true→RT P ol Q l a w→wpAnyT P md ol.toArray Q S (fun i=>tail.contains i) l.length listed a w
 | [],listed,a,w,_,hB,h=>wpAnyT_done (by simpa [schedT] using hB) h _
 | i::r,listed,a,w,hm,hB,h=>by
  obtain ⟨o,ho',h⟩:=h
  have ho:ol.toArray[i]?=some o:=by simpa using ho'
  simp only [schedT,Bool.and_eq_true] at hB
  have hr:Region.ready md ol.toArray listed=[i]:=by simpa using hB.1
  refine wpAnyT_all hr (by simp) (fun j hj=>?_)
  obtain rfl:j=i:=by simpa using hj
  have hti:tail.contains j=true:=by simpa using hm j (by simp)
  unfold wpOp
  simp only [ho]
  by_cases hw:Region.wanted o (yielded ol.toArray a.tmps)=true
  ·rw [if_pos hw] at h
   rw [if_pos hw]
   exact .inl (Oper.wp_mono (fun a' w' h1=>⟨(fun h2=>absurd (hti.symm.trans h2) (by decide)),RT.any r _ _ w' (fun k hk=>hm k (by simp [hk])) hB.2 h1⟩) h)
  ·rw [if_neg hw] at h
   rw [if_neg hw]
   exact ⟨(fun h2=>absurd (hti.symm.trans h2) (by decide)),RT.any r _ _ w (fun k hk=>hm k (by simp [hk])) hB.2 h⟩
theorem wpAnyT_stronger {S':World→Prop} (hS:∀ w,S' w→S w):∀ (fuel:Nat) (listed:Array Bool) (a:Act) (w:World),wpAnyT P md ops Q S' tl fuel listed a w→wpAnyT P md ops Q S tl fuel listed a w
 | 0,_,_,_,h=>h
 | fuel+1,_,_,_,h=>⟨h.1,fun i hi=>wpOp_mono (fun a1 w1 h1=>⟨fun ht=>hS _ (h1.1 ht),wpAnyT_stronger hS fuel _ a1 w1 h1.2⟩) (h.2 i hi)⟩
theorem RA.any {ol:List Oper} {n:Nat} {tail:List Nat} (hs:Region.noSelect ol.toArray=true) (hQ:∀ c (a:Act) d v w,Q (.panic c) (a.put d v) w→Q (.panic c) a w) :
  ∀ (l:List Nat) (listed:Array Bool) (a:Act) (w:World),ClosedL md ol.toArray listed→schedA md ol.toArray n tail l listed=true→RA P ol Q tail l a w→wpAnyT P md ol.toArray Q (fun w'=>Ext w w') (fun i=>tail.contains i) (l.length+tail.length) listed a w
 | [],listed,a,w,_,hB,h=>by
  rw [List.length_nil,Nat.zero_add]
  exact RT.any tail listed a w (fun _ h=>h) hB h
 | i::r,listed,a,w,hcl,hB,h=>by
  obtain ⟨o,ho',h⟩:=h
  have ho:ol.toArray[i]?=some o:=by simpa using ho'
  simp only [schedA,ho,Bool.and_eq_true] at hB
  obtain ⟨⟨hB1,hBt⟩,hB2⟩:=hB
  have hti:tail.contains i=false:=by simpa using hBt
  rw [show (i::r).length+tail.length=(r.length+tail.length)+1 by simp;omega]
  by_cases ht:tame2 o=true
  ·rw [if_pos ht,Bool.and_eq_true,Bool.and_eq_true] at hB1
   obtain ⟨⟨hr,hf⟩,hall⟩:=hB1
   have htl:∀ j,tail.contains j=true→j<ol.toArray.size→reach md ol.toArray n j i=true:=fun j hj _=>List.all_eq_true.1 hall j (by simpa using hj)
   have hri:i ∈ Region.ready md ol.toArray listed:=by simpa using hr
   have hc2:=closed_set hcl hri
   by_cases hw:Region.wanted o (yielded ol.toArray a.tmps)=true
   ·rw [if_pos hw,if_pos ht] at h
    obtain ⟨v,hv,hn⟩:=h
    exact wpAnyT_take ho hs hf hr (fun c a w=>hQ c a o.dst v w) hti htl hcl (Or.inl ⟨hw,fun w' hx=>tame2_yields ht (hv w' (cls_of_ext hx))⟩) (Ext.rfl' w) (RA.any hs hQ r _ _ w hc2 hB2 hn)
   ·rw [if_neg hw] at h
    exact wpAnyT_take ho hs hf hr (fun c a w=>hQ c a o.dst undef w) hti htl hcl (Or.inr ⟨by simpa using hw,rfl⟩) (Ext.rfl' w) (RA.any hs hQ r _ _ w hc2 hB2 h)
  ·rw [if_neg ht] at hB1
   have hr:Region.ready md ol.toArray listed=[i]:=by simpa using hB1
   have hc2:=closed_set hcl (show i ∈ Region.ready md ol.toArray listed by rw [hr];simp)
   refine wpAnyT_all hr (by simp) (fun j hj=>?_)
   obtain rfl:j=i:=by simpa using hj
   unfold wpOp
   simp only [ho]
   by_cases hw:Region.wanted o (yielded ol.toArray a.tmps)=true
   ·rw [if_pos hw,if_neg ht] at h
    rw [if_pos hw]
    exact .inl (Oper.wp_mono (fun a' w' h1=>⟨fun _=>h1.1,wpAnyT_stronger (fun x hx=>h1.1.tr hx) _ _ _ _ (RA.any hs hQ r _ _ w' hc2 hB2 h1.2)⟩) h)
   ·rw [if_neg hw] at h
    rw [if_neg hw]
    exact ⟨fun _=>Ext.rfl' w,RA.any hs hQ r _ _ w hc2 hB2 h⟩
theorem closed_none (n:Nat):ClosedL md ops (Array.replicate n false):=by
 intro j oj _ h
 exfalso
 simp only [Array.getD_eq_getD_getElem?,Array.getElem?_replicate] at h
 split at h <;> simp at h
theorem ra_start {id:Nat} {a:Act} {w:World} {l:List Oper} (sch tail:List Nat) (hm:P.follows .mixedOrders=true)
  (hB:(Region.noSelect l.toArray&&(sch.length+tail.length==l.length)&&schedA .any l.toArray l.length tail sch (Array.replicate l.toArray.size false))=true) (hQ:∀ c (a:Act) d v w,Q (.panic c) (a.put d v) w→Q (.panic c) a w)
  (h:RA P l Q tail sch a w.drew):(Code.region id l.toArray true).wp P Q a w:=by
 simp only [Bool.and_eq_true,beq_iff_eq] at hB
 have:=RA.any (P:=P) (md:=.any) (Q:=Q) hB.1.1 hQ sch _ a w.drew (closed_none _) hB.2 h
 rw [hB.1.2] at this
 exact wp_region_any hm (wpAny_of_T _ _ _ _ (by simpa using this))
theorem ra_nil {ol:List Oper} {tail:List Nat} {a:Act} {w:World} (h:RT P ol Q tail a w):RA P ol Q tail [] a w:=h
theorem rt_nil {ol:List Oper} {a:Act} {w:World} (h:Q .normal a w):RT P ol Q [] a w:=h
theorem rt_op {ol:List Oper} {i:Nat} {r:List Nat} {a:Act} {w:World} {o:Oper} (ho:ol[i]?=some o) (hw:Region.wanted o (yielded ol.toArray a.tmps)=true)
  (h:∀ K:Act→World→Prop,(∀ a' w',RT P ol Q r a' w'→K a' w')→o.wp P a w K Q):RT P ol Q (i::r) a w:=
 ⟨o,ho,by rw [if_pos hw];exact h _ fun _ _ h=>h⟩
theorem ra_skip {ol:List Oper} {tail:List Nat} {i:Nat} {r:List Nat} {a:Act} {w:World} {dst:Option Tmp} {op:Op} {ty:TypeId} {pos:String} {aft:Array Edge} {gd:Option (Nat × Bool)} (ho:ol[i]?=some ⟨dst,op,ty,pos,aft,gd⟩) (hw:Region.wanted ⟨dst,op,ty,pos,aft,gd⟩ (yielded ol.toArray a.tmps)=false)
  (h:∀ K:Act→Prop,(∀ a',RA P ol Q tail r a' w→K a')→Oper.quiet P ⟨dst,.move (.const undef),ty,pos,aft,none⟩ a (fun _=>True) K):RA P ol Q tail (i::r) a w:=by
 refine ⟨_,ho,?_⟩
 rw [if_neg (by rw [hw];exact Bool.false_ne_true)]
 obtain ⟨v,hv,hk⟩:=h _ fun _ h=>h
 have h1:=hv w trivial
 unfold Oper.quietAt at h1
 rw [BigFrame.run_move (.const undef) rfl] at h1
 obtain ⟨h2,h3⟩:=h1
 have h3:v=undef:=by
  first
   | exact h3
   | exact h3.symm
 subst h3
 exact hk
theorem ra_quiet {ol:List Oper} {tail:List Nat} {i:Nat} {r:List Nat} {a:Act} {w:World} {o:Oper} (ho:ol[i]?=some o) (ht:tame2 o=true) (hw:Region.wanted o (yielded ol.toArray a.tmps)=true)
  (h:∀ K:Act→Prop,(∀ a',RA P ol Q tail r a' w→K a')→o.quiet P a (fun w'=>∃ p:Regrown,w'=grow (redrawn w p.d) p.os) K):RA P ol Q tail (i::r) a w:=
 ⟨o,ho,by rw [if_pos hw,if_pos ht];exact h _ fun _ h=>h⟩
theorem ra_call {ol:List Oper} {tail:List Nat} {i:Nat} {r:List Nat} {a:Act} {w:World} {o:Oper} (ho:ol[i]?=some o) (ht:tame2 o=false) (hw:Region.wanted o (yielded ol.toArray a.tmps)=true)
  (h:∀ K:Act→World→Prop,(∀ a' w',Ext w w'→RA P ol Q tail r a' w'→K a' w')→o.wp P a w K Q):RA P ol Q tail (i::r) a w:=
 ⟨o,ho,by rw [if_pos hw,if_neg (by rw [ht];exact Bool.false_ne_true)];exact h _ fun _ _ h k=>⟨h,k⟩⟩
end
end
section
variable {P : Program} {ops : Array Oper} {md : Region.Mode} {Q : Exit → Act → World → Prop} {S : World → Prop} {tl : Nat → Bool}
open Go Go.Sort Go.RowKit
theorem aqq {ol : List Oper} {tail : List Nat} {i : Nat} {r : List Nat} {a : Act} {w : World} {o : Oper} (h : ∀ K : Act → Prop, (∀ a', RA P ol Q tail r a' w → K a') → o.quiet P a (fun w' => ∃ p : Regrown, w' = grow (redrawn w p.d) p.os) K) (ho : ol[i]? = some o:=by rfl) (ht : tame2 o = true:=by rfl) (hw : Region.wanted o (yielded ol.toArray a.tmps) = true:=by rfl):RA P ol Q tail (i :: r) a w:=ra_quiet ho ht hw h
theorem akk {ol : List Oper} {tail : List Nat} {i : Nat} {r : List Nat} {a : Act} {w : World} {dst : Option Tmp} {op : Op} {ty : TypeId} {pos : String} {aft : Array Edge} {gd : Option (Nat × Bool)} (h : ∀ K : Act → Prop, (∀ a', RA P ol Q tail r a' w → K a') → Oper.quiet P ⟨dst, .move (.const undef), ty, pos, aft, none⟩ a (fun _ => True) K) (ho : ol[i]? = some ⟨dst, op, ty, pos, aft, gd⟩:=by rfl) (hw : Region.wanted ⟨dst, op, ty, pos, aft, gd⟩ (yielded ol.toArray a.tmps) = false:=by rfl):RA P ol Q tail (i :: r) a w:=ra_skip ho hw h
theorem acc {ol : List Oper} {tail : List Nat} {i : Nat} {r : List Nat} {a : Act} {w : World} {o : Oper} (h : ∀ K : Act → World → Prop, (∀ a' w', Ext w w' → RA P ol Q tail r a' w' → K a' w') → o.wp P a w K Q) (ho : ol[i]? = some o:=by rfl) (ht : tame2 o = false:=by rfl) (hw : Region.wanted o (yielded ol.toArray a.tmps) = true:=by rfl):RA P ol Q tail (i :: r) a w:=ra_call ho ht hw h
theorem att {id : Nat} {a : Act} {w : World} {l : List Oper} (sch tail : List Nat) (h : RA P l Q tail sch a w.drew) (hm : P.follows .mixedOrders = true:=by kernel_rfl) (hB : (Region.noSelect l.toArray && (sch.length + tail.length == l.length) && schedA .any l.toArray l.length tail sch (Array.replicate l.toArray.size false)) = true:=by kernel_rfl) (hQ : ∀ c (a : Act) d v w, Q (.panic c) (a.put d v) w → Q (.panic c) a w:=by intro _ _ d _ _ h;cases d <;> exact h):(Code.region id l.toArray true).wp P Q a w:=ra_start sch tail hm hB hQ h
theorem too {ol : List Oper} {i : Nat} {r : List Nat} {a : Act} {w : World} {o : Oper} (h : ∀ K : Act → World → Prop, (∀ a' w', RT P ol Q r a' w' → K a' w') → o.wp P a w K Q) (ho : ol[i]? = some o:=by rfl) (hw : Region.wanted o (yielded ol.toArray a.tmps) = true:=by rfl):RT P ol Q (i :: r) a w:=rt_op ho hw h
end
section
open Go Go.Sort Go.RowKit
structure Wrap (S:World→Prop) where
 w:World
 h:S w
def sched2 (md:Region.Mode) (ops:Array Oper):List Nat→Array Bool→Bool
 | [],listed=>(Region.ready md ops listed).isEmpty
 | i::r,listed=>
  (match ops[i]? with
  | none=>false
  | some o=>if tame2 o then (Region.ready md ops listed).contains i&&Region.free md ops listed i else Region.ready md ops listed==[i])&&sched2 md ops r (listed.setIfInBounds i true)
section
variable {P:Program} {ops:Array Oper} {md:Region.Mode}
def RG (P:Program) (ol:List Oper) (Q:Exit→Act→World→Prop):List Nat→(World→Prop)→Act→World→Prop
 | [],_,a,w=>Q .normal a w
 | i::r,S,a,w=>∃ o,ol[i]?=some o ∧
  if Region.wanted o (yielded ol.toArray a.tmps) then
   if tame2 o then o.quiet P a (fun w'=>∃ p:Wrap S,w'=p.w) (fun a'=>RG P ol Q r S a' w)
   else o.wp P a w (fun a' w'=>∃ S':World→Prop,(∀ x,S' x→S x)∧S' w'∧RG P ol Q r S' a' w') Q
  else RG P ol Q r S (a.put o.dst undef) w
theorem wpAnyH_stronger {Q:Exit→Act→World→Prop} {S S':World→Prop} (hs:∀ x,S' x→S x):∀ (fuel:Nat) (listed:Array Bool) (a:Act) (w:World),wpAnyH P md ops Q S' fuel listed a w→wpAnyH P md ops Q S fuel listed a w
 | 0,_,_,_,h=>h
 | fuel+1,_,_,_,h=>⟨h.1,fun i hi=>wpOp_mono (fun a1 w1 h1=>⟨hs _ h1.1,wpAnyH_stronger hs fuel _ a1 w1 h1.2⟩) (h.2 i hi)⟩
theorem RG.held {ol:List Oper} {Q:Exit→Act→World→Prop} (hs:Region.noSelect ol.toArray=true) (hQ:∀ c (a:Act) d v w,Q (.panic c) (a.put d v) w→Q (.panic c) a w) :
  ∀ (l:List Nat) (S:World→Prop) (listed:Array Bool) (a:Act) (w:World),S w→sched2 md ol.toArray l listed=true→RG P ol Q l S a w→wpAnyH P md ol.toArray Q S l.length listed a w
 | [],S,listed,a,w,_,hB,h=>wpAnyH_done (by simpa [sched2] using hB) h _
 | i::r,S,listed,a,w,hS,hB,h=>by
  obtain ⟨o,ho',h⟩:=h
  have ho:ol.toArray[i]?=some o:=by simpa using ho'
  simp only [sched2,ho,Bool.and_eq_true] at hB
  obtain ⟨hB1,hB2⟩:=hB
  by_cases ht:tame2 o=true
  ·rw [if_pos ht,Bool.and_eq_true] at hB1
   by_cases hw:Region.wanted o (yielded ol.toArray a.tmps)=true
   ·rw [if_pos hw,if_pos ht] at h
    obtain ⟨v,hv,hn⟩:=h
    exact wpAnyH_take ho hs hB1.2 hB1.1 (fun c a w=>hQ c a o.dst v w) (Or.inl ⟨hw,fun w' hx=>tame2_yields ht (hv w' ⟨⟨w',hx⟩,rfl⟩)⟩) hS (RG.held hs hQ r S _ _ w hS hB2 hn)
   ·rw [if_neg hw] at h
    exact wpAnyH_take ho hs hB1.2 hB1.1 (fun c a w=>hQ c a o.dst undef w) (Or.inr ⟨by simpa using hw,rfl⟩) hS (RG.held hs hQ r S _ _ w hS hB2 h)
  ·rw [if_neg ht] at hB1
   have hr:Region.ready md ol.toArray listed=[i]:=by simpa using hB1
   refine wpAnyH_all hr (by simp) (fun j hj=>?_)
   obtain rfl:j=i:=by simpa using hj
   unfold wpOp
   simp only [ho]
   by_cases hw:Region.wanted o (yielded ol.toArray a.tmps)=true
   ·rw [if_pos hw,if_neg ht] at h
    rw [if_pos hw]
    refine .inl (Oper.wp_mono (fun a' w' h1=>?_) h)
    obtain ⟨S',hsub,hS',h2⟩:=h1
    exact ⟨hsub _ hS',wpAnyH_stronger hsub _ _ _ _ (RG.held hs hQ r S' _ _ w' hS' hB2 h2)⟩
   ·rw [if_neg hw] at h
    rw [if_neg hw]
    exact ⟨hS,RG.held hs hQ r S _ _ w hS hB2 h⟩
theorem rg_start {id:Nat} {Q:Exit→Act→World→Prop} {a:Act} {w:World} {l:List Oper} (sch:List Nat) (S:World→Prop) (hm:P.follows .mixedOrders=true)
  (hB:(Region.noSelect l.toArray&&(sch.length==l.length)&&sched2 .any l.toArray sch (Array.replicate l.toArray.size false))=true) (hQ:∀ c (a:Act) d v w,Q (.panic c) (a.put d v) w→Q (.panic c) a w)
  (hS:S w.drew) (h:Nonempty (Wrap S)→RG P l Q sch S a w.drew):(Code.region id l.toArray true).wp P Q a w:=by
 simp only [Bool.and_eq_true,beq_iff_eq] at hB
 refine wp_region_held (S:=S) hm ?_
 have:=RG.held (md:=.any) hB.1.1 hQ sch S _ a w.drew hS hB.2 (h ⟨⟨_,hS⟩⟩)
 rw [hB.1.2] at this
 simpa using this
theorem rg_nil {ol:List Oper} {Q:Exit→Act→World→Prop} {S:World→Prop} {a:Act} {w:World} (h:Q .normal a w):RG P ol Q [] S a w:=h
theorem rg_skip {ol:List Oper} {Q:Exit→Act→World→Prop} {S:World→Prop} {i:Nat} {r:List Nat} {a:Act} {w:World} {dst:Option Tmp} {op:Op} {ty:TypeId} {pos:String} {aft:Array Edge} {gd:Option (Nat × Bool)} (ho:ol[i]?=some ⟨dst,op,ty,pos,aft,gd⟩) (hw:Region.wanted ⟨dst,op,ty,pos,aft,gd⟩ (yielded ol.toArray a.tmps)=false)
  (h:∀ K:Act→Prop,(∀ a',RG P ol Q r S a' w→K a')→Oper.quiet P ⟨dst,.move (.const undef),ty,pos,aft,none⟩ a (fun _=>True) K):RG P ol Q (i::r) S a w:=by
 refine ⟨_,ho,?_⟩
 rw [if_neg (by rw [hw];exact Bool.false_ne_true)]
 obtain ⟨v,hv,hk⟩:=h _ fun _ h=>h
 have h1:=hv w trivial
 unfold Oper.quietAt at h1
 rw [BigFrame.run_move (.const undef) rfl] at h1
 obtain ⟨h2,h3⟩:=h1
 have h3:v=undef:=by
  first
   | exact h3
   | exact h3.symm
 subst h3
 exact hk
theorem rg_quiet {ol:List Oper} {Q:Exit→Act→World→Prop} {S:World→Prop} {i:Nat} {r:List Nat} {a:Act} {w:World} {o:Oper} (ho:ol[i]?=some o) (ht:tame2 o=true) (hw:Region.wanted o (yielded ol.toArray a.tmps)=true)
  (h:∀ K:Act→Prop,(∀ a',RG P ol Q r S a' w→K a')→o.quiet P a (fun w'=>∃ p:Wrap S,w'=p.w) K):RG P ol Q (i::r) S a w:=
 ⟨o,ho,by rw [if_pos hw,if_pos ht];exact h _ fun _ h=>h⟩
theorem rg_call {ol:List Oper} {Q:Exit→Act→World→Prop} {S:World→Prop} {i:Nat} {r:List Nat} {a:Act} {w:World} {o:Oper} (ho:ol[i]?=some o) (ht:tame2 o=false) (hw:Region.wanted o (yielded ol.toArray a.tmps)=true)
  (h:∀ K:Act→World→Prop,(∀ (S':World→Prop) a' w',(∀ x,S' x→S x)→S' w'→(Nonempty (Wrap S')→RG P ol Q r S' a' w')→K a' w')→o.wp P a w K Q):RG P ol Q (i::r) S a w:=
 ⟨o,ho,by rw [if_pos hw,if_neg (by rw [ht];exact Bool.false_ne_true)];exact h _ fun S' _ _ h1 h2 h3=>⟨S',h1,h2,h3 ⟨⟨_,h2⟩⟩⟩⟩
end
end
section
variable {P : Program} {ops : Array Oper} {md : Region.Mode}
open Go Go.Sort Go.RowKit
theorem gqq {ol : List Oper} {Q : Exit → Act → World → Prop} {S : World → Prop} {i : Nat} {r : List Nat} {a : Act} {w : World} {o : Oper} (h : ∀ K : Act → Prop, (∀ a', RG P ol Q r S a' w → K a') → o.quiet P a (fun w' => ∃ p : Wrap S, w' = p.w) K) (ho : ol[i]? = some o:=by rfl) (ht : tame2 o = true:=by rfl) (hw : Region.wanted o (yielded ol.toArray a.tmps) = true:=by rfl):RG P ol Q (i :: r) S a w:=rg_quiet ho ht hw h
theorem gkk {ol : List Oper} {Q : Exit → Act → World → Prop} {S : World → Prop} {i : Nat} {r : List Nat} {a : Act} {w : World} {dst : Option Tmp} {op : Op} {ty : TypeId} {pos : String} {aft : Array Edge} {gd : Option (Nat × Bool)} (h : ∀ K : Act → Prop, (∀ a', RG P ol Q r S a' w → K a') → Oper.quiet P ⟨dst, .move (.const undef), ty, pos, aft, none⟩ a (fun _ => True) K) (ho : ol[i]? = some ⟨dst, op, ty, pos, aft, gd⟩:=by rfl) (hw : Region.wanted ⟨dst, op, ty, pos, aft, gd⟩ (yielded ol.toArray a.tmps) = false:=by rfl):RG P ol Q (i :: r) S a w:=rg_skip ho hw h
theorem gcc {ol : List Oper} {Q : Exit → Act → World → Prop} {S : World → Prop} {i : Nat} {r : List Nat} {a : Act} {w : World} {o : Oper} (h : ∀ K : Act → World → Prop, (∀ (S' : World → Prop) a' w', (∀ x, S' x → S x) → S' w' → (Nonempty (Wrap S') → RG P ol Q r S' a' w') → K a' w') → o.wp P a w K Q) (ho : ol[i]? = some o:=by rfl) (ht : tame2 o = false:=by rfl) (hw : Region.wanted o (yielded ol.toArray a.tmps) = true:=by rfl):RG P ol Q (i :: r) S a w:=rg_call ho ht hw h
theorem gtt {id : Nat} {Q : Exit → Act → World → Prop} {a : Act} {w : World} {l : List Oper} (sch : List Nat) (S : World → Prop) (hS : S w.drew) (h : Nonempty (Wrap S) → RG P l Q sch S a w.drew) (hm : P.follows .mixedOrders = true:=by kernel_rfl) (hB : (Region.noSelect l.toArray && (sch.length == l.length) && sched2 .any l.toArray sch (Array.replicate l.toArray.size false)) = true:=by kernel_rfl) (hQ : ∀ c (a : Act) d v w, Q (.panic c) (a.put d v) w → Q (.panic c) a w:=by intro _ _ d _ _ h;cases d <;> exact h):(Code.region id l.toArray true).wp P Q a w:=rg_start sch S hm hB hQ hS h
end
section
open Go Go.Sort Go.RowKit
theorem win_any {p:Option Addr} {n cap:Nat} {zs:List Int} {w:World} (a b:Int) (h:SlI .i64 w p n cap zs) :
  Calls Tryz.prog 123 #[.int .i64 a,.int .i64 b,.slice p n cap] w fun e w'=>e=.returned (.bool (zs.all (inB a b)))∧w=w':=by
 have hn:n≤9223372036854775807:=Nat.le_trans h.le h.max
 have H:=hI h
 clear h
 go_enter Tryz.func123,Tryz.ntmps123
 go_wp2
 go_loop [11] (fun i=>∃ k:Nat,k≤n∧(zs.take k).all (inB a b)=true∧i=.int .i64 k) (fun i=>n-(intOf i).toNat)
 case atStart=>exact ⟨0,by omega,rfl,rfl⟩
 case round=>
  obtain ⟨k,hk,ha,rfl⟩:=hrel
  have HA:=hI ha
  clear ha
  by_cases hlt:k<n
  ·obtain ⟨bb,o,x,rfl,hx,hcell,hwf⟩:=H.o.at k hlt
   have HX:=hI hx
   clear hx hwf
   cases ht:inB a b x
   ·have hall:zs.all (inB a b)=false:=by
     rw [List.all_eq_false]
     exact ⟨x,List.mem_of_getElem? HX.o,by rw [ht];decide⟩
    have HB:=hI hall
    have hT:x<a∨b<x:=by
     have:¬ (inB a b x=true):=by rw [ht];decide
     simp only [inB,Bool.and_eq_true,decide_eq_true_eq] at this
     omega
    clear hall ht
    by_cases hT2:x<a
    ·go_wp2
     go_ret
     exact ⟨by rw [HB.o];rfl,rfl⟩
    ·have hT3:b<x:=by omega
     go_wp2
     go_ret
     exact ⟨by rw [HB.o];rfl,rfl⟩
   ·have hall:(zs.take (k+1)).all (inB a b)=true:=by
     rw [List.take_add_one,HX.o,List.all_append,HA.o]
     simp [ht]
    have HL:=hI hall
    have hT:a≤x∧x≤b:=by simpa [inB] using ht
    obtain ⟨t1,t2⟩:=hT
    have t3:¬ x<a:=by omega
    have t4:¬ b<x:=by omega
    clear hall ht
    go_wp2
    go_round
    case rel=>exact ⟨k+1,by omega,HL.o,by go_num⟩
    case measure=>simp [intOf];omega
  ·have e:zs.take k=zs:=List.take_of_length_le (by rw [H.o.len];omega)
   rw [e] at HA
   clear e
   go_wp2
   go_ret
   exact ⟨by rw [HA.o];rfl,rfl⟩
theorem win_ext {p:Option Addr} {n cap:Nat} {zs:List Int} {w:World} (a b:Int) (h:SlI .i64 w p n cap zs) :
  Calls Tryz.prog 123 #[.int .i64 a,.int .i64 b,.slice p n cap] w fun e w'=>e=.returned (.bool (zs.all (inB a b)))∧Ext w w':=
 (win_any a b h).mono fun e w' ⟨h1,h2⟩=>⟨h1,by rw [h2];exact Ext.rfl' _⟩
theorem mayf_any {e:EnD} {w:World} (he:EnOk e):Calls Tryz.prog 125 #[enV e] w fun x w'=>x=.returned (.bool (!mayB e))∧Ext w w':=by
 obtain ⟨f1,f2,f3,f4,f5,f6,dat⟩:=e
 have D1:=EnBox.new w ⟨f1,f2,f3,f4,f5,f6,dat⟩ 71
 have HE:=hI he
 clear he
 obtain ⟨c0,c1,c2,c3,c4,c5,c6⟩:=D1
 simp only at c0 c1 c2 c3 c4 c5 c6
 go_enter Tryz.func125,Tryz.ntmps125
 go_wp2_with fail
 refine (may_any (e:=⟨f1,f2,f3,f4,f5,f6,dat⟩) HE.o).mono ?_
 rintro x w2 ⟨rfl,x2⟩
 have X2:=hI ((Ext.alloc w (.cells (enA ⟨f1,f2,f3,f4,f5,f6,dat⟩) 71)).tr x2)
 clear x2
 go_wp2
 go_ret
 exact ⟨rfl,X2.o⟩
theorem index_any {w:World} {p:Option Addr} {n cap:Nat} {L:List EnD} (h:SlS 7 w p n cap (L.map enL)) (hL:∀ e ∈ L,EnOk e) :
  Calls Tryz.prog 165 #[.slice p n cap,.func (.func 125) #[] #[]] w fun e w'=>(∃ z:Int,e=.returned (.int .i64 z)∧(decide (0≤z))=!(L.all mayB))∧Ext w w':=by
 have hn:n≤9223372036854775807:=Nat.le_trans h.le h.max
 have N:=hI (en_len h)
 have S:=hI h
 have HL:=hI hL
 clear h hL
 go_enter Tryz.func165,Tryz.ntmps165
 go_wp2
 go_loopw [8] (fun i wr=>∃ k:Nat,k≤n∧i=.int .i64 (k:Int)∧(L.take k).all mayB=true∧Ext w wr) (fun i _=>n-(intOf i).toNat)
 case atStart=>exact ⟨0,by omega,rfl,rfl,Ext.rfl' _⟩
 case round=>
  obtain ⟨k,hk,rfl,ht,x1⟩:=hrel
  have T:=hI ht
  have X:=hI x1
  clear ht x1
  by_cases hlt:k<n
  ·obtain ⟨b,o,e,hp,hx,c0,c1,c2,c3,c4,c5,c6⟩:=en_at (S.o.ext X.o) k hlt
   have HX:=hI hx
   clear hx
   subst hp
   obtain ⟨f1,f2,f3,f4,f5,f6,dat⟩:=e
   simp only at c0 c1 c2 c3 c4 c5 c6
   have ME:=hI (fun w=>mayf_any (w:=w) (HL.o _ (List.mem_of_getElem? HX.o)))
   cases he:mayB ⟨f1,f2,f3,f4,f5,f6,dat⟩
   ·have hB:Hid (L.all mayB=false):=hI (by
     rw [List.all_eq_false]
     exact ⟨_,List.mem_of_getElem? HX.o,by rw [he];decide⟩)
    rw [he] at ME
    clear he
    go_wp2_with fail
    refine (ME.o _).mono ?_
    rintro e w4 ⟨rfl,x4⟩
    have X4:=hI (X.o.tr x4)
    clear x4
    go_wp2
    go_ret
    exact ⟨⟨_,rfl,by rw [hB.out,decide_eq_true (by omega)];rfl⟩,X4.o⟩
   ·have T2:Hid ((L.take (k+1)).all mayB=true):=hI (by
     rw [List.take_add_one,HX.o,List.all_append,T.o]
     simp [he])
    rw [he] at ME
    clear he
    go_wp2_with fail
    refine (ME.o _).mono ?_
    rintro e w4 ⟨rfl,x4⟩
    have X4:=hI (X.o.tr x4)
    clear x4
    go_wp2
    go_roundw
    case rel=>exact ⟨k+1,by omega,by go_num,T2.o,X4.o⟩
    case measure=>simp [intOf];omega
  ·have hB:Hid (L.all mayB=true):=hI (by
    have h1:=T.o
    rwa [List.take_of_length_le (by rw [N.o];omega)] at h1)
   go_wp2
   go_ret
   exact ⟨⟨_,rfl,by rw [hB.out];rfl⟩,X.o⟩
theorem contains_any {w:World} {p:Option Addr} {n cap:Nat} {L:List EnD} (h:SlS 7 w p n cap (L.map enL)) (hL:∀ e ∈ L,EnOk e) :
  Calls Tryz.prog 124 #[.slice p n cap,.func (.func 125) #[] #[]] w fun e w'=>e=.returned (.bool (!(L.all mayB)))∧Ext w w':=by
 have S:=hI h
 have HL:=hI hL
 clear h hL
 go_enter Tryz.func124,Tryz.ntmps124
 go_wp2_with fail
 refine (index_any S.o HL.o).mono ?_
 rintro e w2 ⟨⟨z,rfl,hz⟩,x2⟩
 have X2:=hI x2
 have HZ:=hI hz
 clear x2 hz
 go_wp2
 go_ret
 exact ⟨by rw [← HZ.o];rfl,X2.o⟩
theorem wmay_any {w:World} {m:MsD} {p:Option Addr} {n cap:Nat} {L:List EnD} (hm:MsOk m) (h:SlS 7 w p n cap (L.map enL)) (hL:∀ e ∈ L,EnOk e) :
  Calls Tryz.prog 93 #[msV m p n cap] w fun e w'=>e=.returned (.bool (mayM m L))∧Ext w w':=by
 have hn:n≤9223372036854775807:=Nat.le_trans h.le h.max
 have N:=hI (en_len h)
 have HL:=hI hL
 have D:=hI (BoxV.new w w.heap.size (msA m p n cap) (msL m p n cap) 76 _ rfl (Nat.le_refl _) rfl)
 have X:=hI (Ext.alloc w (.cells (msA m p n cap) 76))
 have S:=hI (h.ext (Ext.alloc w (.cells (msA m p n cap) 76)))
 obtain ⟨kd,fr,to,bt,vw,ls,mb,po,cm,nm,ck,ye⟩:=m
 obtain ⟨B,hB⟩:∃ B,B=mayM ⟨kd,fr,to,bt,vw,ls,mb,po,cm,nm,ck,ye⟩ L:=⟨_,rfl⟩
 rw [← hB]
 have HB:=hI hB
 have OKS:Hid (∀ x,(x=kd∨x=fr∨x=to∨x=bt∨x=vw∨x=ls∨x=mb∨x=po∨x=cm∨x=nm∨x=ck)→I64 x):=hI (by
  obtain ⟨h1,h2,h3,h4,h5,h6,h7,h8,h9,h10,h11⟩:=hm
  rintro x (rfl | rfl | rfl | rfl | rfl | rfl | rfl | rfl | rfl | rfl | rfl) <;> assumption)
 clear hm h hL hB
 have c0:=D.o.c 0 _ rfl
 have c1:=D.o.c 1 _ rfl
 have c2:=D.o.c 2 _ rfl
 have c3:=D.o.c 3 _ rfl
 have c4:=D.o.c 4 _ rfl
 have c5:=D.o.c 5 _ rfl
 have c6:=D.o.c 6 _ rfl
 have c7:=D.o.c 7 _ rfl
 have c8:=D.o.c 8 _ rfl
 have c9:=D.o.c 9 _ rfl
 have c10:=D.o.c 10 _ rfl
 have c11:=D.o.c 11 _ rfl
 have c12:=D.o.c 12 _ rfl
 simp only at c0 c1 c2 c3 c4 c5 c6 c7 c8 c9 c10 c11 c12
 go_enter Tryz.func93,Tryz.ntmps93
 go_wp2_with fail
 refine (win_ext 1 13 (SlI.lit' 2 _ _ 1 #[.int .i64 kd] [kd] (by simp) rfl rfl (by omega) (fun x hx=>OKS.o x (by simp at hx ⊢;omega)))).mono ?_
 rintro e w2 ⟨rfl,x2⟩
 replace X:=hI (X.o.tr ((Ext.alloc _ (.cells #[.int .i64 kd] 2)).tr x2))
 replace D:=hI (D.o.ext ((Ext.alloc _ (.cells #[.int .i64 kd] 2)).tr x2))
 replace S:=hI (S.o.ext ((Ext.alloc _ (.cells #[.int .i64 kd] 2)).tr x2))
 clear x2 c0 c1 c2 c3 c4 c5 c6 c7 c8 c9 c10 c11 c12
 have c0:=D.o.c 0 _ rfl
 have c1:=D.o.c 1 _ rfl
 have c2:=D.o.c 2 _ rfl
 have c3:=D.o.c 3 _ rfl
 have c4:=D.o.c 4 _ rfl
 have c5:=D.o.c 5 _ rfl
 have c6:=D.o.c 6 _ rfl
 have c7:=D.o.c 7 _ rfl
 have c8:=D.o.c 8 _ rfl
 have c9:=D.o.c 9 _ rfl
 have c10:=D.o.c 10 _ rfl
 have c11:=D.o.c 11 _ rfl
 have c12:=D.o.c 12 _ rfl
 simp only at c0 c1 c2 c3 c4 c5 c6 c7 c8 c9 c10 c11 c12
 cases g1:[kd].all (inB 1 13)
 ·have Hg1:=hI g1
  clear g1
  go_wp2_with fail
  refine (win_ext 0 1099511627776 (SlI.lit' 2 _ _ 4 #[.int .i64 vw,.int .i64 ls,.int .i64 nm,.int .i64 ck] [vw,ls,nm,ck] (by simp) rfl rfl (by omega) (fun x hx=>OKS.o x (by simp at hx ⊢;omega)))).mono ?_
  rintro e w2 ⟨rfl,x2⟩
  replace X:=hI (X.o.tr ((Ext.alloc _ (.cells #[.int .i64 vw,.int .i64 ls,.int .i64 nm,.int .i64 ck] 2)).tr x2))
  replace D:=hI (D.o.ext ((Ext.alloc _ (.cells #[.int .i64 vw,.int .i64 ls,.int .i64 nm,.int .i64 ck] 2)).tr x2))
  replace S:=hI (S.o.ext ((Ext.alloc _ (.cells #[.int .i64 vw,.int .i64 ls,.int .i64 nm,.int .i64 ck] 2)).tr x2))
  clear x2 c0 c1 c2 c3 c4 c5 c6 c7 c8 c9 c10 c11 c12
  have c0:=D.o.c 0 _ rfl
  have c1:=D.o.c 1 _ rfl
  have c2:=D.o.c 2 _ rfl
  have c3:=D.o.c 3 _ rfl
  have c4:=D.o.c 4 _ rfl
  have c5:=D.o.c 5 _ rfl
  have c6:=D.o.c 6 _ rfl
  have c7:=D.o.c 7 _ rfl
  have c8:=D.o.c 8 _ rfl
  have c9:=D.o.c 9 _ rfl
  have c10:=D.o.c 10 _ rfl
  have c11:=D.o.c 11 _ rfl
  have c12:=D.o.c 12 _ rfl
  simp only at c0 c1 c2 c3 c4 c5 c6 c7 c8 c9 c10 c11 c12
  cases g4:[vw,ls,nm,ck].all (inB 0 1099511627776)
  ·have Hg4:=hI g4
   clear g4
   go_wp2
   go_ret
   exact ⟨by rw [HB.o];simp [mayM,whoB,whatB,Hg1.o,Hg4.o],X.o⟩
  ·have Hg4:=hI g4
   clear g4
   go_wp2_with fail
   refine (win_ext 0 127 (SlI.lit' 2 _ _ 1 #[.int .i64 mb] [mb] (by simp) rfl rfl (by omega) (fun x hx=>OKS.o x (by simp at hx ⊢;omega)))).mono ?_
   rintro e w2 ⟨rfl,x2⟩
   replace X:=hI (X.o.tr ((Ext.alloc _ (.cells #[.int .i64 mb] 2)).tr x2))
   replace D:=hI (D.o.ext ((Ext.alloc _ (.cells #[.int .i64 mb] 2)).tr x2))
   replace S:=hI (S.o.ext ((Ext.alloc _ (.cells #[.int .i64 mb] 2)).tr x2))
   clear x2 c0 c1 c2 c3 c4 c5 c6 c7 c8 c9 c10 c11 c12
   have c0:=D.o.c 0 _ rfl
   have c1:=D.o.c 1 _ rfl
   have c2:=D.o.c 2 _ rfl
   have c3:=D.o.c 3 _ rfl
   have c4:=D.o.c 4 _ rfl
   have c5:=D.o.c 5 _ rfl
   have c6:=D.o.c 6 _ rfl
   have c7:=D.o.c 7 _ rfl
   have c8:=D.o.c 8 _ rfl
   have c9:=D.o.c 9 _ rfl
   have c10:=D.o.c 10 _ rfl
   have c11:=D.o.c 11 _ rfl
   have c12:=D.o.c 12 _ rfl
   simp only at c0 c1 c2 c3 c4 c5 c6 c7 c8 c9 c10 c11 c12
   cases g5:[mb].all (inB 0 127)
   ·have Hg5:=hI g5
    clear g5
    go_wp2
    go_ret
    exact ⟨by rw [HB.o];simp [mayM,whoB,whatB,Hg1.o,Hg4.o,Hg5.o],X.o⟩
   ·have Hg5:=hI g5
    clear g5
    go_wp2_with fail
    refine (win_ext 0 60 (SlI.lit' 2 _ _ 2 #[.int .i64 po,.int .i64 cm] [po,cm] (by simp) rfl rfl (by omega) (fun x hx=>OKS.o x (by simp at hx ⊢;omega)))).mono ?_
    rintro e w2 ⟨rfl,x2⟩
    replace X:=hI (X.o.tr ((Ext.alloc _ (.cells #[.int .i64 po,.int .i64 cm] 2)).tr x2))
    replace D:=hI (D.o.ext ((Ext.alloc _ (.cells #[.int .i64 po,.int .i64 cm] 2)).tr x2))
    replace S:=hI (S.o.ext ((Ext.alloc _ (.cells #[.int .i64 po,.int .i64 cm] 2)).tr x2))
    clear x2 c0 c1 c2 c3 c4 c5 c6 c7 c8 c9 c10 c11 c12
    have c0:=D.o.c 0 _ rfl
    have c1:=D.o.c 1 _ rfl
    have c2:=D.o.c 2 _ rfl
    have c3:=D.o.c 3 _ rfl
    have c4:=D.o.c 4 _ rfl
    have c5:=D.o.c 5 _ rfl
    have c6:=D.o.c 6 _ rfl
    have c7:=D.o.c 7 _ rfl
    have c8:=D.o.c 8 _ rfl
    have c9:=D.o.c 9 _ rfl
    have c10:=D.o.c 10 _ rfl
    have c11:=D.o.c 11 _ rfl
    have c12:=D.o.c 12 _ rfl
    simp only at c0 c1 c2 c3 c4 c5 c6 c7 c8 c9 c10 c11 c12
    cases g6:[po,cm].all (inB 0 60)
    ·have Hg6:=hI g6
     clear g6
     go_wp2
     go_ret
     exact ⟨by rw [HB.o];simp [mayM,whoB,whatB,Hg1.o,Hg4.o,Hg5.o,Hg6.o],X.o⟩
    ·have Hg6:=hI g6
     clear g6
     go_wp2
     go_ret
     exact ⟨by rw [HB.o];simp [mayM,whoB,whatB,Hg1.o,Hg4.o,Hg5.o,Hg6.o],X.o⟩
 ·have Hg1:=hI g1
  clear g1
  go_wp2_with fail
  refine (win_ext 1 7 (SlI.lit' 2 _ _ 2 #[.int .i64 fr,.int .i64 to] [fr,to] (by simp) rfl rfl (by omega) (fun x hx=>OKS.o x (by simp at hx ⊢;omega)))).mono ?_
  rintro e w2 ⟨rfl,x2⟩
  replace X:=hI (X.o.tr ((Ext.alloc _ (.cells #[.int .i64 fr,.int .i64 to] 2)).tr x2))
  replace D:=hI (D.o.ext ((Ext.alloc _ (.cells #[.int .i64 fr,.int .i64 to] 2)).tr x2))
  replace S:=hI (S.o.ext ((Ext.alloc _ (.cells #[.int .i64 fr,.int .i64 to] 2)).tr x2))
  clear x2 c0 c1 c2 c3 c4 c5 c6 c7 c8 c9 c10 c11 c12
  have c0:=D.o.c 0 _ rfl
  have c1:=D.o.c 1 _ rfl
  have c2:=D.o.c 2 _ rfl
  have c3:=D.o.c 3 _ rfl
  have c4:=D.o.c 4 _ rfl
  have c5:=D.o.c 5 _ rfl
  have c6:=D.o.c 6 _ rfl
  have c7:=D.o.c 7 _ rfl
  have c8:=D.o.c 8 _ rfl
  have c9:=D.o.c 9 _ rfl
  have c10:=D.o.c 10 _ rfl
  have c11:=D.o.c 11 _ rfl
  have c12:=D.o.c 12 _ rfl
  simp only at c0 c1 c2 c3 c4 c5 c6 c7 c8 c9 c10 c11 c12
  cases g2:[fr,to].all (inB 1 7)
  ·have Hg2:=hI g2
   clear g2
   go_wp2_with fail
   refine (win_ext 0 1099511627776 (SlI.lit' 2 _ _ 4 #[.int .i64 vw,.int .i64 ls,.int .i64 nm,.int .i64 ck] [vw,ls,nm,ck] (by simp) rfl rfl (by omega) (fun x hx=>OKS.o x (by simp at hx ⊢;omega)))).mono ?_
   rintro e w2 ⟨rfl,x2⟩
   replace X:=hI (X.o.tr ((Ext.alloc _ (.cells #[.int .i64 vw,.int .i64 ls,.int .i64 nm,.int .i64 ck] 2)).tr x2))
   replace D:=hI (D.o.ext ((Ext.alloc _ (.cells #[.int .i64 vw,.int .i64 ls,.int .i64 nm,.int .i64 ck] 2)).tr x2))
   replace S:=hI (S.o.ext ((Ext.alloc _ (.cells #[.int .i64 vw,.int .i64 ls,.int .i64 nm,.int .i64 ck] 2)).tr x2))
   clear x2 c0 c1 c2 c3 c4 c5 c6 c7 c8 c9 c10 c11 c12
   have c0:=D.o.c 0 _ rfl
   have c1:=D.o.c 1 _ rfl
   have c2:=D.o.c 2 _ rfl
   have c3:=D.o.c 3 _ rfl
   have c4:=D.o.c 4 _ rfl
   have c5:=D.o.c 5 _ rfl
   have c6:=D.o.c 6 _ rfl
   have c7:=D.o.c 7 _ rfl
   have c8:=D.o.c 8 _ rfl
   have c9:=D.o.c 9 _ rfl
   have c10:=D.o.c 10 _ rfl
   have c11:=D.o.c 11 _ rfl
   have c12:=D.o.c 12 _ rfl
   simp only at c0 c1 c2 c3 c4 c5 c6 c7 c8 c9 c10 c11 c12
   cases g4:[vw,ls,nm,ck].all (inB 0 1099511627776)
   ·have Hg4:=hI g4
    clear g4
    go_wp2
    go_ret
    exact ⟨by rw [HB.o];simp [mayM,whoB,whatB,Hg1.o,Hg2.o,Hg4.o],X.o⟩
   ·have Hg4:=hI g4
    clear g4
    go_wp2_with fail
    refine (win_ext 0 127 (SlI.lit' 2 _ _ 1 #[.int .i64 mb] [mb] (by simp) rfl rfl (by omega) (fun x hx=>OKS.o x (by simp at hx ⊢;omega)))).mono ?_
    rintro e w2 ⟨rfl,x2⟩
    replace X:=hI (X.o.tr ((Ext.alloc _ (.cells #[.int .i64 mb] 2)).tr x2))
    replace D:=hI (D.o.ext ((Ext.alloc _ (.cells #[.int .i64 mb] 2)).tr x2))
    replace S:=hI (S.o.ext ((Ext.alloc _ (.cells #[.int .i64 mb] 2)).tr x2))
    clear x2 c0 c1 c2 c3 c4 c5 c6 c7 c8 c9 c10 c11 c12
    have c0:=D.o.c 0 _ rfl
    have c1:=D.o.c 1 _ rfl
    have c2:=D.o.c 2 _ rfl
    have c3:=D.o.c 3 _ rfl
    have c4:=D.o.c 4 _ rfl
    have c5:=D.o.c 5 _ rfl
    have c6:=D.o.c 6 _ rfl
    have c7:=D.o.c 7 _ rfl
    have c8:=D.o.c 8 _ rfl
    have c9:=D.o.c 9 _ rfl
    have c10:=D.o.c 10 _ rfl
    have c11:=D.o.c 11 _ rfl
    have c12:=D.o.c 12 _ rfl
    simp only at c0 c1 c2 c3 c4 c5 c6 c7 c8 c9 c10 c11 c12
    cases g5:[mb].all (inB 0 127)
    ·have Hg5:=hI g5
     clear g5
     go_wp2
     go_ret
     exact ⟨by rw [HB.o];simp [mayM,whoB,whatB,Hg1.o,Hg2.o,Hg4.o,Hg5.o],X.o⟩
    ·have Hg5:=hI g5
     clear g5
     go_wp2_with fail
     refine (win_ext 0 60 (SlI.lit' 2 _ _ 2 #[.int .i64 po,.int .i64 cm] [po,cm] (by simp) rfl rfl (by omega) (fun x hx=>OKS.o x (by simp at hx ⊢;omega)))).mono ?_
     rintro e w2 ⟨rfl,x2⟩
     replace X:=hI (X.o.tr ((Ext.alloc _ (.cells #[.int .i64 po,.int .i64 cm] 2)).tr x2))
     replace D:=hI (D.o.ext ((Ext.alloc _ (.cells #[.int .i64 po,.int .i64 cm] 2)).tr x2))
     replace S:=hI (S.o.ext ((Ext.alloc _ (.cells #[.int .i64 po,.int .i64 cm] 2)).tr x2))
     clear x2 c0 c1 c2 c3 c4 c5 c6 c7 c8 c9 c10 c11 c12
     have c0:=D.o.c 0 _ rfl
     have c1:=D.o.c 1 _ rfl
     have c2:=D.o.c 2 _ rfl
     have c3:=D.o.c 3 _ rfl
     have c4:=D.o.c 4 _ rfl
     have c5:=D.o.c 5 _ rfl
     have c6:=D.o.c 6 _ rfl
     have c7:=D.o.c 7 _ rfl
     have c8:=D.o.c 8 _ rfl
     have c9:=D.o.c 9 _ rfl
     have c10:=D.o.c 10 _ rfl
     have c11:=D.o.c 11 _ rfl
     have c12:=D.o.c 12 _ rfl
     simp only at c0 c1 c2 c3 c4 c5 c6 c7 c8 c9 c10 c11 c12
     cases g6:[po,cm].all (inB 0 60)
     ·have Hg6:=hI g6
      clear g6
      go_wp2
      go_ret
      exact ⟨by rw [HB.o];simp [mayM,whoB,whatB,Hg1.o,Hg2.o,Hg4.o,Hg5.o,Hg6.o],X.o⟩
     ·have Hg6:=hI g6
      clear g6
      go_wp2
      go_ret
      exact ⟨by rw [HB.o];simp [mayM,whoB,whatB,Hg1.o,Hg2.o,Hg4.o,Hg5.o,Hg6.o],X.o⟩
  ·have Hg2:=hI g2
   clear g2
   cases gn:(fr != to)
   ·have gm:(fr==to)=true:=by simpa using gn
    go_wp2_with fail
    have Hgn:=hI gn
    have Hgm:=hI gm
    clear gn gm
    refine (win_ext 0 1099511627776 (SlI.lit' 2 _ _ 4 #[.int .i64 vw,.int .i64 ls,.int .i64 nm,.int .i64 ck] [vw,ls,nm,ck] (by simp) rfl rfl (by omega) (fun x hx=>OKS.o x (by simp at hx ⊢;omega)))).mono ?_
    rintro e w2 ⟨rfl,x2⟩
    replace X:=hI (X.o.tr ((Ext.alloc _ (.cells #[.int .i64 vw,.int .i64 ls,.int .i64 nm,.int .i64 ck] 2)).tr x2))
    replace D:=hI (D.o.ext ((Ext.alloc _ (.cells #[.int .i64 vw,.int .i64 ls,.int .i64 nm,.int .i64 ck] 2)).tr x2))
    replace S:=hI (S.o.ext ((Ext.alloc _ (.cells #[.int .i64 vw,.int .i64 ls,.int .i64 nm,.int .i64 ck] 2)).tr x2))
    clear x2 c0 c1 c2 c3 c4 c5 c6 c7 c8 c9 c10 c11 c12
    have c0:=D.o.c 0 _ rfl
    have c1:=D.o.c 1 _ rfl
    have c2:=D.o.c 2 _ rfl
    have c3:=D.o.c 3 _ rfl
    have c4:=D.o.c 4 _ rfl
    have c5:=D.o.c 5 _ rfl
    have c6:=D.o.c 6 _ rfl
    have c7:=D.o.c 7 _ rfl
    have c8:=D.o.c 8 _ rfl
    have c9:=D.o.c 9 _ rfl
    have c10:=D.o.c 10 _ rfl
    have c11:=D.o.c 11 _ rfl
    have c12:=D.o.c 12 _ rfl
    simp only at c0 c1 c2 c3 c4 c5 c6 c7 c8 c9 c10 c11 c12
    cases g4:[vw,ls,nm,ck].all (inB 0 1099511627776)
    ·have Hg4:=hI g4
     clear g4
     go_wp2
     go_ret
     exact ⟨by rw [HB.o];simp [mayM,whoB,whatB,Hg1.o,Hg2.o,Hgn.o,Hg4.o],X.o⟩
    ·have Hg4:=hI g4
     clear g4
     go_wp2_with fail
     refine (win_ext 0 127 (SlI.lit' 2 _ _ 1 #[.int .i64 mb] [mb] (by simp) rfl rfl (by omega) (fun x hx=>OKS.o x (by simp at hx ⊢;omega)))).mono ?_
     rintro e w2 ⟨rfl,x2⟩
     replace X:=hI (X.o.tr ((Ext.alloc _ (.cells #[.int .i64 mb] 2)).tr x2))
     replace D:=hI (D.o.ext ((Ext.alloc _ (.cells #[.int .i64 mb] 2)).tr x2))
     replace S:=hI (S.o.ext ((Ext.alloc _ (.cells #[.int .i64 mb] 2)).tr x2))
     clear x2 c0 c1 c2 c3 c4 c5 c6 c7 c8 c9 c10 c11 c12
     have c0:=D.o.c 0 _ rfl
     have c1:=D.o.c 1 _ rfl
     have c2:=D.o.c 2 _ rfl
     have c3:=D.o.c 3 _ rfl
     have c4:=D.o.c 4 _ rfl
     have c5:=D.o.c 5 _ rfl
     have c6:=D.o.c 6 _ rfl
     have c7:=D.o.c 7 _ rfl
     have c8:=D.o.c 8 _ rfl
     have c9:=D.o.c 9 _ rfl
     have c10:=D.o.c 10 _ rfl
     have c11:=D.o.c 11 _ rfl
     have c12:=D.o.c 12 _ rfl
     simp only at c0 c1 c2 c3 c4 c5 c6 c7 c8 c9 c10 c11 c12
     cases g5:[mb].all (inB 0 127)
     ·have Hg5:=hI g5
      clear g5
      go_wp2
      go_ret
      exact ⟨by rw [HB.o];simp [mayM,whoB,whatB,Hg1.o,Hg2.o,Hgn.o,Hg4.o,Hg5.o],X.o⟩
     ·have Hg5:=hI g5
      clear g5
      go_wp2_with fail
      refine (win_ext 0 60 (SlI.lit' 2 _ _ 2 #[.int .i64 po,.int .i64 cm] [po,cm] (by simp) rfl rfl (by omega) (fun x hx=>OKS.o x (by simp at hx ⊢;omega)))).mono ?_
      rintro e w2 ⟨rfl,x2⟩
      replace X:=hI (X.o.tr ((Ext.alloc _ (.cells #[.int .i64 po,.int .i64 cm] 2)).tr x2))
      replace D:=hI (D.o.ext ((Ext.alloc _ (.cells #[.int .i64 po,.int .i64 cm] 2)).tr x2))
      replace S:=hI (S.o.ext ((Ext.alloc _ (.cells #[.int .i64 po,.int .i64 cm] 2)).tr x2))
      clear x2 c0 c1 c2 c3 c4 c5 c6 c7 c8 c9 c10 c11 c12
      have c0:=D.o.c 0 _ rfl
      have c1:=D.o.c 1 _ rfl
      have c2:=D.o.c 2 _ rfl
      have c3:=D.o.c 3 _ rfl
      have c4:=D.o.c 4 _ rfl
      have c5:=D.o.c 5 _ rfl
      have c6:=D.o.c 6 _ rfl
      have c7:=D.o.c 7 _ rfl
      have c8:=D.o.c 8 _ rfl
      have c9:=D.o.c 9 _ rfl
      have c10:=D.o.c 10 _ rfl
      have c11:=D.o.c 11 _ rfl
      have c12:=D.o.c 12 _ rfl
      simp only at c0 c1 c2 c3 c4 c5 c6 c7 c8 c9 c10 c11 c12
      cases g6:[po,cm].all (inB 0 60)
      ·have Hg6:=hI g6
       clear g6
       go_wp2
       go_ret
       exact ⟨by rw [HB.o];simp [mayM,whoB,whatB,Hg1.o,Hg2.o,Hgn.o,Hg4.o,Hg5.o,Hg6.o],X.o⟩
      ·have Hg6:=hI g6
       clear g6
       go_wp2
       go_ret
       exact ⟨by rw [HB.o];simp [mayM,whoB,whatB,Hg1.o,Hg2.o,Hgn.o,Hg4.o,Hg5.o,Hg6.o],X.o⟩
   ·have gm:(fr==to)=false:=by simpa using gn
    go_wp2_with fail
    have Hgn:=hI gn
    have Hgm:=hI gm
    clear gn gm
    refine (win_ext 1 1099511627776 (SlI.lit' 2 _ _ 1 #[.int .i64 bt] [bt] (by simp) rfl rfl (by omega) (fun x hx=>OKS.o x (by simp at hx ⊢;omega)))).mono ?_
    rintro e w2 ⟨rfl,x2⟩
    replace X:=hI (X.o.tr ((Ext.alloc _ (.cells #[.int .i64 bt] 2)).tr x2))
    replace D:=hI (D.o.ext ((Ext.alloc _ (.cells #[.int .i64 bt] 2)).tr x2))
    replace S:=hI (S.o.ext ((Ext.alloc _ (.cells #[.int .i64 bt] 2)).tr x2))
    clear x2 c0 c1 c2 c3 c4 c5 c6 c7 c8 c9 c10 c11 c12
    have c0:=D.o.c 0 _ rfl
    have c1:=D.o.c 1 _ rfl
    have c2:=D.o.c 2 _ rfl
    have c3:=D.o.c 3 _ rfl
    have c4:=D.o.c 4 _ rfl
    have c5:=D.o.c 5 _ rfl
    have c6:=D.o.c 6 _ rfl
    have c7:=D.o.c 7 _ rfl
    have c8:=D.o.c 8 _ rfl
    have c9:=D.o.c 9 _ rfl
    have c10:=D.o.c 10 _ rfl
    have c11:=D.o.c 11 _ rfl
    have c12:=D.o.c 12 _ rfl
    simp only at c0 c1 c2 c3 c4 c5 c6 c7 c8 c9 c10 c11 c12
    cases g3:[bt].all (inB 1 1099511627776)
    ·have Hg3:=hI g3
     clear g3
     go_wp2_with fail
     refine (win_ext 0 1099511627776 (SlI.lit' 2 _ _ 4 #[.int .i64 vw,.int .i64 ls,.int .i64 nm,.int .i64 ck] [vw,ls,nm,ck] (by simp) rfl rfl (by omega) (fun x hx=>OKS.o x (by simp at hx ⊢;omega)))).mono ?_
     rintro e w2 ⟨rfl,x2⟩
     replace X:=hI (X.o.tr ((Ext.alloc _ (.cells #[.int .i64 vw,.int .i64 ls,.int .i64 nm,.int .i64 ck] 2)).tr x2))
     replace D:=hI (D.o.ext ((Ext.alloc _ (.cells #[.int .i64 vw,.int .i64 ls,.int .i64 nm,.int .i64 ck] 2)).tr x2))
     replace S:=hI (S.o.ext ((Ext.alloc _ (.cells #[.int .i64 vw,.int .i64 ls,.int .i64 nm,.int .i64 ck] 2)).tr x2))
     clear x2 c0 c1 c2 c3 c4 c5 c6 c7 c8 c9 c10 c11 c12
     have c0:=D.o.c 0 _ rfl
     have c1:=D.o.c 1 _ rfl
     have c2:=D.o.c 2 _ rfl
     have c3:=D.o.c 3 _ rfl
     have c4:=D.o.c 4 _ rfl
     have c5:=D.o.c 5 _ rfl
     have c6:=D.o.c 6 _ rfl
     have c7:=D.o.c 7 _ rfl
     have c8:=D.o.c 8 _ rfl
     have c9:=D.o.c 9 _ rfl
     have c10:=D.o.c 10 _ rfl
     have c11:=D.o.c 11 _ rfl
     have c12:=D.o.c 12 _ rfl
     simp only at c0 c1 c2 c3 c4 c5 c6 c7 c8 c9 c10 c11 c12
     cases g4:[vw,ls,nm,ck].all (inB 0 1099511627776)
     ·have Hg4:=hI g4
      clear g4
      go_wp2
      go_ret
      exact ⟨by rw [HB.o];simp [mayM,whoB,whatB,Hg1.o,Hg2.o,Hgn.o,Hg3.o,Hg4.o],X.o⟩
     ·have Hg4:=hI g4
      clear g4
      go_wp2_with fail
      refine (win_ext 0 127 (SlI.lit' 2 _ _ 1 #[.int .i64 mb] [mb] (by simp) rfl rfl (by omega) (fun x hx=>OKS.o x (by simp at hx ⊢;omega)))).mono ?_
      rintro e w2 ⟨rfl,x2⟩
      replace X:=hI (X.o.tr ((Ext.alloc _ (.cells #[.int .i64 mb] 2)).tr x2))
      replace D:=hI (D.o.ext ((Ext.alloc _ (.cells #[.int .i64 mb] 2)).tr x2))
      replace S:=hI (S.o.ext ((Ext.alloc _ (.cells #[.int .i64 mb] 2)).tr x2))
      clear x2 c0 c1 c2 c3 c4 c5 c6 c7 c8 c9 c10 c11 c12
      have c0:=D.o.c 0 _ rfl
      have c1:=D.o.c 1 _ rfl
      have c2:=D.o.c 2 _ rfl
      have c3:=D.o.c 3 _ rfl
      have c4:=D.o.c 4 _ rfl
      have c5:=D.o.c 5 _ rfl
      have c6:=D.o.c 6 _ rfl
      have c7:=D.o.c 7 _ rfl
      have c8:=D.o.c 8 _ rfl
      have c9:=D.o.c 9 _ rfl
      have c10:=D.o.c 10 _ rfl
      have c11:=D.o.c 11 _ rfl
      have c12:=D.o.c 12 _ rfl
      simp only at c0 c1 c2 c3 c4 c5 c6 c7 c8 c9 c10 c11 c12
      cases g5:[mb].all (inB 0 127)
      ·have Hg5:=hI g5
       clear g5
       go_wp2
       go_ret
       exact ⟨by rw [HB.o];simp [mayM,whoB,whatB,Hg1.o,Hg2.o,Hgn.o,Hg3.o,Hg4.o,Hg5.o],X.o⟩
      ·have Hg5:=hI g5
       clear g5
       go_wp2_with fail
       refine (win_ext 0 60 (SlI.lit' 2 _ _ 2 #[.int .i64 po,.int .i64 cm] [po,cm] (by simp) rfl rfl (by omega) (fun x hx=>OKS.o x (by simp at hx ⊢;omega)))).mono ?_
       rintro e w2 ⟨rfl,x2⟩
       replace X:=hI (X.o.tr ((Ext.alloc _ (.cells #[.int .i64 po,.int .i64 cm] 2)).tr x2))
       replace D:=hI (D.o.ext ((Ext.alloc _ (.cells #[.int .i64 po,.int .i64 cm] 2)).tr x2))
       replace S:=hI (S.o.ext ((Ext.alloc _ (.cells #[.int .i64 po,.int .i64 cm] 2)).tr x2))
       clear x2 c0 c1 c2 c3 c4 c5 c6 c7 c8 c9 c10 c11 c12
       have c0:=D.o.c 0 _ rfl
       have c1:=D.o.c 1 _ rfl
       have c2:=D.o.c 2 _ rfl
       have c3:=D.o.c 3 _ rfl
       have c4:=D.o.c 4 _ rfl
       have c5:=D.o.c 5 _ rfl
       have c6:=D.o.c 6 _ rfl
       have c7:=D.o.c 7 _ rfl
       have c8:=D.o.c 8 _ rfl
       have c9:=D.o.c 9 _ rfl
       have c10:=D.o.c 10 _ rfl
       have c11:=D.o.c 11 _ rfl
       have c12:=D.o.c 12 _ rfl
       simp only at c0 c1 c2 c3 c4 c5 c6 c7 c8 c9 c10 c11 c12
       cases g6:[po,cm].all (inB 0 60)
       ·have Hg6:=hI g6
        clear g6
        go_wp2
        go_ret
        exact ⟨by rw [HB.o];simp [mayM,whoB,whatB,Hg1.o,Hg2.o,Hgn.o,Hg3.o,Hg4.o,Hg5.o,Hg6.o],X.o⟩
       ·have Hg6:=hI g6
        clear g6
        go_wp2
        go_ret
        exact ⟨by rw [HB.o];simp [mayM,whoB,whatB,Hg1.o,Hg2.o,Hgn.o,Hg3.o,Hg4.o,Hg5.o,Hg6.o],X.o⟩
    ·have Hg3:=hI g3
     clear g3
     go_wp2_with fail
     refine (win_ext 0 1099511627776 (SlI.lit' 2 _ _ 4 #[.int .i64 vw,.int .i64 ls,.int .i64 nm,.int .i64 ck] [vw,ls,nm,ck] (by simp) rfl rfl (by omega) (fun x hx=>OKS.o x (by simp at hx ⊢;omega)))).mono ?_
     rintro e w2 ⟨rfl,x2⟩
     replace X:=hI (X.o.tr ((Ext.alloc _ (.cells #[.int .i64 vw,.int .i64 ls,.int .i64 nm,.int .i64 ck] 2)).tr x2))
     replace D:=hI (D.o.ext ((Ext.alloc _ (.cells #[.int .i64 vw,.int .i64 ls,.int .i64 nm,.int .i64 ck] 2)).tr x2))
     replace S:=hI (S.o.ext ((Ext.alloc _ (.cells #[.int .i64 vw,.int .i64 ls,.int .i64 nm,.int .i64 ck] 2)).tr x2))
     clear x2 c0 c1 c2 c3 c4 c5 c6 c7 c8 c9 c10 c11 c12
     have c0:=D.o.c 0 _ rfl
     have c1:=D.o.c 1 _ rfl
     have c2:=D.o.c 2 _ rfl
     have c3:=D.o.c 3 _ rfl
     have c4:=D.o.c 4 _ rfl
     have c5:=D.o.c 5 _ rfl
     have c6:=D.o.c 6 _ rfl
     have c7:=D.o.c 7 _ rfl
     have c8:=D.o.c 8 _ rfl
     have c9:=D.o.c 9 _ rfl
     have c10:=D.o.c 10 _ rfl
     have c11:=D.o.c 11 _ rfl
     have c12:=D.o.c 12 _ rfl
     simp only at c0 c1 c2 c3 c4 c5 c6 c7 c8 c9 c10 c11 c12
     cases g4:[vw,ls,nm,ck].all (inB 0 1099511627776)
     ·have Hg4:=hI g4
      clear g4
      go_wp2
      go_ret
      exact ⟨by rw [HB.o];simp [mayM,whoB,whatB,Hg1.o,Hg2.o,Hgn.o,Hg3.o,Hg4.o],X.o⟩
     ·have Hg4:=hI g4
      clear g4
      go_wp2_with fail
      refine (win_ext 0 127 (SlI.lit' 2 _ _ 1 #[.int .i64 mb] [mb] (by simp) rfl rfl (by omega) (fun x hx=>OKS.o x (by simp at hx ⊢;omega)))).mono ?_
      rintro e w2 ⟨rfl,x2⟩
      replace X:=hI (X.o.tr ((Ext.alloc _ (.cells #[.int .i64 mb] 2)).tr x2))
      replace D:=hI (D.o.ext ((Ext.alloc _ (.cells #[.int .i64 mb] 2)).tr x2))
      replace S:=hI (S.o.ext ((Ext.alloc _ (.cells #[.int .i64 mb] 2)).tr x2))
      clear x2 c0 c1 c2 c3 c4 c5 c6 c7 c8 c9 c10 c11 c12
      have c0:=D.o.c 0 _ rfl
      have c1:=D.o.c 1 _ rfl
      have c2:=D.o.c 2 _ rfl
      have c3:=D.o.c 3 _ rfl
      have c4:=D.o.c 4 _ rfl
      have c5:=D.o.c 5 _ rfl
      have c6:=D.o.c 6 _ rfl
      have c7:=D.o.c 7 _ rfl
      have c8:=D.o.c 8 _ rfl
      have c9:=D.o.c 9 _ rfl
      have c10:=D.o.c 10 _ rfl
      have c11:=D.o.c 11 _ rfl
      have c12:=D.o.c 12 _ rfl
      simp only at c0 c1 c2 c3 c4 c5 c6 c7 c8 c9 c10 c11 c12
      cases g5:[mb].all (inB 0 127)
      ·have Hg5:=hI g5
       clear g5
       go_wp2
       go_ret
       exact ⟨by rw [HB.o];simp [mayM,whoB,whatB,Hg1.o,Hg2.o,Hgn.o,Hg3.o,Hg4.o,Hg5.o],X.o⟩
      ·have Hg5:=hI g5
       clear g5
       go_wp2_with fail
       refine (win_ext 0 60 (SlI.lit' 2 _ _ 2 #[.int .i64 po,.int .i64 cm] [po,cm] (by simp) rfl rfl (by omega) (fun x hx=>OKS.o x (by simp at hx ⊢;omega)))).mono ?_
       rintro e w2 ⟨rfl,x2⟩
       replace X:=hI (X.o.tr ((Ext.alloc _ (.cells #[.int .i64 po,.int .i64 cm] 2)).tr x2))
       replace D:=hI (D.o.ext ((Ext.alloc _ (.cells #[.int .i64 po,.int .i64 cm] 2)).tr x2))
       replace S:=hI (S.o.ext ((Ext.alloc _ (.cells #[.int .i64 po,.int .i64 cm] 2)).tr x2))
       clear x2 c0 c1 c2 c3 c4 c5 c6 c7 c8 c9 c10 c11 c12
       have c0:=D.o.c 0 _ rfl
       have c1:=D.o.c 1 _ rfl
       have c2:=D.o.c 2 _ rfl
       have c3:=D.o.c 3 _ rfl
       have c4:=D.o.c 4 _ rfl
       have c5:=D.o.c 5 _ rfl
       have c6:=D.o.c 6 _ rfl
       have c7:=D.o.c 7 _ rfl
       have c8:=D.o.c 8 _ rfl
       have c9:=D.o.c 9 _ rfl
       have c10:=D.o.c 10 _ rfl
       have c11:=D.o.c 11 _ rfl
       have c12:=D.o.c 12 _ rfl
       simp only at c0 c1 c2 c3 c4 c5 c6 c7 c8 c9 c10 c11 c12
       cases g6:[po,cm].all (inB 0 60)
       ·have Hg6:=hI g6
        clear g6
        go_wp2
        go_ret
        exact ⟨by rw [HB.o];simp [mayM,whoB,whatB,Hg1.o,Hg2.o,Hgn.o,Hg3.o,Hg4.o,Hg5.o,Hg6.o],X.o⟩
       ·have Hg6:=hI g6
        clear g6
        by_cases hlen:n≤60
        ·go_wp2_with fail
         refine (contains_any S.o HL.o).mono ?_
         rintro e w3 ⟨rfl,x3⟩
         replace X:=hI (X.o.tr x3)
         clear x3
         go_wp2
         go_ret
         exact ⟨by rw [HB.o];simp [mayM,whoB,whatB,Hg1.o,Hg2.o,Hgn.o,Hg3.o,Hg4.o,Hg5.o,Hg6.o,N.o,hlen],X.o⟩
        ·have hlf:decide ((n:Int)≤60)=false:=decide_eq_false (by omega)
         go_wp2
         go_ret
         exact ⟨by rw [HB.o];simp [mayM,whoB,whatB,Hg1.o,Hg2.o,Hgn.o,Hg3.o,Hg4.o,Hg5.o,Hg6.o,N.o];omega,X.o⟩
end
section
open Go Go.Sort Go.RowKit
def numA (m:MsD) (n:Nat):Array Value:=#[.int .i64 m.kd,.int .i64 m.fr,.int .i64 m.to,.int .i64 m.bt,.int .i64 m.vw,.int .i64 m.ls,.int .i64 m.mb,.int .i64 m.po,.int .i64 m.cm,.int .i64 m.nm,.int .i64 m.ck,.int .i64 (yeI m),.int .i64 (n:Int)]
theorem numbers_any {w:World} {m:MsD} {p:Option Addr} {n cap:Nat} :
  Calls Tryz.prog 94 #[msV m p n cap] w fun e w'=>e=.returned (.agg (numA m n))∧Ext w w':=by
 have D:=hI ((BoxV.new w w.heap.size (msA m p n cap) (msL m p n cap) 76 _ rfl (Nat.le_refl _) rfl).ext (Ext.alloc _ (.cells #[.int .i64 0,.int .i64 0,.int .i64 0,.int .i64 0,.int .i64 0,.int .i64 0,.int .i64 0,.int .i64 0,.int .i64 0,.int .i64 0,.int .i64 0,.int .i64 0,.int .i64 0] 121)))
 obtain ⟨kd,fr,to,bt,vw,ls,mb,po,cm,nm,ck,ye⟩:=m
 have c0:=D.o.c 0 _ rfl
 have c1:=D.o.c 1 _ rfl
 have c2:=D.o.c 2 _ rfl
 have c3:=D.o.c 3 _ rfl
 have c4:=D.o.c 4 _ rfl
 have c5:=D.o.c 5 _ rfl
 have c6:=D.o.c 6 _ rfl
 have c7:=D.o.c 7 _ rfl
 have c8:=D.o.c 8 _ rfl
 have c9:=D.o.c 9 _ rfl
 have c10:=D.o.c 10 _ rfl
 have c11:=D.o.c 11 _ rfl
 have c12:=D.o.c 12 _ rfl
 try simp only at c0 c1 c2 c3 c4 c5 c6 c7 c8 c9 c10 c11 c12
 have E:=hI (BoxV.new (w.alloc (.cells (msA ⟨kd,fr,to,bt,vw,ls,mb,po,cm,nm,ck,ye⟩ p n cap) 76)) w.heap.size #[.int .i64 0,.int .i64 0,.int .i64 0,.int .i64 0,.int .i64 0,.int .i64 0,.int .i64 0,.int .i64 0,.int .i64 0,.int .i64 0,.int .i64 0,.int .i64 0,.int .i64 0] _ 121 (w.heap.size+1) (by simp) (by omega) rfl)
 cases ye
 all_goals
  go_enter Tryz.func94,Tryz.ntmps94
  go_wp2
  exact bodyPost_ret (v:=.agg (numA _ n)) (by simp [results,Tryz.results94,go_sem];rfl) rfl ⟨rfl,(Ext.alloc w _).tr (Ext.alloc _ _)⟩
end
section
open Go Go.Sort Go.RowKit
end
section
open Go Go.Sort Go.RowKit
end
section
open Go Go.RowKit
def layV (xs:List Value):Nat→List Value→List Value
 | _,[]=>xs
 | j,v::vs=>layV (xs.set j v) (j+1) vs
theorem layV_app:∀ (vs a c:List Value),vs.length≤c.length→layV (a++c) a.length vs=a++vs++c.drop vs.length
 | [],a,c,_=>by simp [layV]
 | v::vs,a,c,h=>by
  cases c with
  | nil=>simp at h
  | cons x c=>
   have e:(a++x::c).set a.length v=(a++[v])++c:=by simp
   have l:a.length+1=(a++[v]).length:=by simp
   have:=layV_app vs (a++[v]) c (by simpa using h)
   rw [layV,e,l,this]
   simp
theorem owns_lay {e:TypeId} {K base g n cap:Nat}:∀ (vs:List Value) (j:Nat) (w:World) (xs:List Value),w.ownsRow base e K (.slice (some ⟨g,0,none⟩) n cap) n xs →
  (w.setCells g j vs).ownsRow base e K (.slice (some ⟨g,0,none⟩) n cap) n (layV xs j vs)∧w.grownBy (w.setCells g j vs) (some g)
 | [],_,_,_,h=>⟨h,World.grownBy.refl _ _⟩
 | v::vs,j,w,xs,h=>by
  obtain ⟨h1,g1⟩:=h.stored j v
  obtain ⟨h2,g2⟩:=owns_lay vs (j+1) (w.setCell ⟨g,j,none⟩ v) (xs.set j v) h1
  exact ⟨h2,grown_tr g1 g2⟩
theorem owns_less {e:TypeId} {K base g n cap m:Nat} {w:World} {xs:List Value} (h:w.ownsRow base e K (.slice (some ⟨g,0,none⟩) n cap) n xs) (hm:m≤n) :
  w.ownsRow base e K (.slice (some ⟨g,0,none⟩) m cap) m (xs.take (m * K)):=by
 have hl:m * K≤n * K:=Nat.mul_le_mul_right _ hm
 rcases h.2 with ⟨h',_⟩ | ⟨g',cap',cur,h',hb,hg,hnc,hcm,hcs,htake⟩
 ·cases h'
 ·cases h'
  refine ⟨by rw [List.length_take,h.1];omega,.inr ⟨g,cap,cur,rfl,hb,hg,by omega,hcm,hcs,?_⟩⟩
  rw [← htake,List.take_take,Nat.min_eq_left hl]
theorem flat_split {L:List (List Value)} {i:Nat} (hi:i<L.length):L.flatten=(L.take i).flatten++(L[i]++(L.drop (i+1)).flatten):=by
 conv=>lhs;rw [← List.take_append_drop i L,List.flatten_append,List.drop_eq_getElem_cons hi,List.flatten_cons]
theorem flat_erase {L:List (List Value)} {i:Nat} (hi:i<L.length):(L.eraseIdx i).flatten=(L.take i).flatten++(L.drop (i+1)).flatten:=by
 rw [List.eraseIdx_eq_take_drop_succ,List.flatten_append]
theorem owns_erase {E:TypeId} {K base g n cap i:Nat} {w:World} {L:List (List Value)} {zs:List Value} (h:OwS E K w base (some ⟨g,0,none⟩) n cap L) (hi:i<n) (hz:zs.length=K) :
  OwS E K ((w.setCells g (i * K) (L.drop (i+1)).flatten).setCells g ((n-1) * K) zs) base (some ⟨g,0,none⟩) (n-1) cap (L.eraseIdx i)∧w.grownBy ((w.setCells g (i * K) (L.drop (i+1)).flatten).setCells g ((n-1) * K) zs) (some g):=by
 obtain ⟨hl,hw,ho⟩:=h
 have hiL:i<L.length:=by omega
 have a1:(L.take i).flatten.length=i * K:=by rw [flatten_len _ (fun y hy=>hw y (List.mem_of_mem_take hy)),List.length_take];congr 1;omega
 have a2:(L.drop (i+1)).flatten.length=(n-1-i) * K:=by rw [flatten_len _ (fun y hy=>hw y (List.mem_of_mem_drop hy)),List.length_drop];congr 1;omega
 have a3:L[i].length=K:=hw _ (by simp)
 have a4:i * K+(n-1-i) * K=(n-1) * K:=by rw [← Nat.add_mul];congr 1;omega
 obtain ⟨o1,g1⟩:=owns_lay (L.drop (i+1)).flatten (i * K) w _ ho
 rw [flat_split hiL,← a1,layV_app _ _ _ (by rw [List.length_append];omega),a1] at o1
 obtain ⟨o2,g2⟩:=owns_lay zs ((n-1) * K) _ _ o1
 have e2:(n-1) * K=((L.take i).flatten++(L.drop (i+1)).flatten).length:=by rw [List.length_append,a1,a2,a4]
 have d1:((L[i]++(L.drop (i+1)).flatten).drop (L.drop (i+1)).flatten.length).length=K:=by rw [List.length_drop,List.length_append];omega
 rw [e2,layV_app _ _ _ (by rw [hz,d1];exact Nat.le_refl _),← e2] at o2
 have o3:=owns_less o2 (show n-1≤n by omega)
 refine ⟨⟨by rw [List.length_eraseIdx,if_pos hiL,hl],fun x hx=>hw x (List.mem_of_mem_eraseIdx hx),?_⟩,grown_tr g1 g2⟩
 rw [flat_erase hiL]
 rw [List.append_assoc ((L.take i).flatten++_),e2,List.take_left,← e2] at o3
 exact o3
theorem run_clear_one {P:Program} (w:World) (t e ty:TypeId) (z:Value) (zs:List Value) (ht:P.underlying t=some (.slice e)) (hv:∀ w,(zeroValue e).run P w=.ok z w) (hz:z.cells=zs.toArray) (h1:∀ v ∈ zs,v.oneCell'=true) (b o c:Nat)
  (hc:∀ j,j<zs.length→(w.cell? ⟨b,o+j,none⟩).isSome=true) (hf:∀ j,j<zs.length→w.frozen? ⟨b,o+j,none⟩=false) :
  (Builtin.clear_ #[t] ty #[.slice (some ⟨b,o,none⟩) 1 c]).run P w=.ok (.tuple #[]) (w.setCells b o zs):=by
 have hzc:(Builtin.zeroCells z.cells 1).toList=zs:=by
  rw [hz]
  simp [Builtin.zeroCells]
  apply List.ext_getElem
  ·simp
  ·intro i h1 h2
   simp at h1
   simp [Nat.mod_eq_of_lt h1,List.getElem?_eq_getElem h1]
 have hst:=run_storeCells_cells (P:=P) b o zs 0 w (by simpa using hc) (by simpa using hf) h1
 simp only [Nat.add_zero] at hst
 simp [Builtin.clear_,run_underlying ht,hv,hzc,hst]
end
section
open Go Go.Sort Go.RowKit
theorem info_mail:(Tryz.prog.info? 119).map (fun i=>(i.zero,i.size,i.bytes))=some (some (.agg #[.int .i64 0,.slice none 0 0]),2,32):=by kernel_rfl
theorem zero_mail (w:World):(zeroValue 119).run Tryz.prog w=.ok (.agg #[.int .i64 0,.slice none 0 0]) w:=by kernel_rfl
theorem delete_any {w:World} {base g n cap:Nat} {L:List (List Value)} (i:Nat) (hi:i<n) (h:OwS 119 2 w base (some ⟨g,0,none⟩) n cap L) (h1:∀ r ∈ L,∀ u ∈ r,u.oneCell'=true) :
  Calls Tryz.prog 112 #[.slice (some ⟨g,0,none⟩) n cap,.int .i64 (i:Int),.int .i64 ((i+1:Nat):Int)] w fun e w'=>
   e=.returned (.slice (some ⟨g,0,none⟩) (n-1) cap)∧OwS 119 2 w' base (some ⟨g,0,none⟩) (n-1) cap (L.eraseIdx i)∧w.grownBy w' (some g):=by
 have hsl:=h.sl
 have hcap:=hsl.le
 have hmx:=hsl.max
 obtain ⟨i0,hi0,hz0,hz1,hz2⟩:=info_parts info_mail
 have R:=hI (owns_erase (E:=119) (K:=2) (w:=w.drew) (i:=i) (zs:=[.int .i64 0,.slice none 0 0]) (h.ext (Ext.drew w)) hi rfl)
 have HL:Hid (L.length=n):=hI h.1
 obtain ⟨news,hnews⟩:∃ news,news=(L.drop (i+1)).flatten:=⟨_,rfl⟩
 have hlen:news.length=(n-(i+1)) * 2:=by rw [hnews,flatten_len _ (fun y hy=>h.2.1 y (List.mem_of_mem_drop hy)),List.length_drop,h.1]
 have hcl:∀ j v,L.flatten[j]?=some v→w.cell? ⟨g,j,none⟩=some v:=fun j v hv=>by
  have:=h.2.2.cells (g:=g) rfl j v hv
  rw [Addr.add_lit] at this
  simpa using this
 have hfl:L.flatten.length=n * 2:=by rw [flatten_len _ h.2.1,h.1]
 have hfz:∀ j,w.frozen? ⟨g,j,none⟩=false:=h.2.2.frozenAt
 obtain ⟨A,hA,hsrc⟩:∃ A:Addr,tailS 2 (some ⟨g,0,none⟩) cap (i+1)=some A∧Hid (∀ t u,news[t]?=some u→w.drew.cell? (A.add t)=some u):=by
  unfold tailS
  by_cases hc:cap=i+1
  ·refine ⟨⟨g,0,none⟩,by rw [if_pos hc],hI (fun t u hu=>?_)⟩
   have h0:news.length=0:=by rw [hlen];omega
   rw [List.length_eq_zero_iff.1 h0] at hu
   simp at hu
  ·refine ⟨⟨g,(i+1) * 2,none⟩,by rw [if_neg hc];simp [Addr.add_lit],hI (fun t u hu=>?_)⟩
   rw [Addr.add_lit]
   refine hcl _ _ ?_
   rw [flat_split (show i<L.length by rw [h.1];exact hi),← List.append_assoc]
   have a1:((L.take i).flatten++L[i]'(by rw [h.1];exact hi)).length=(i+1) * 2:=by
    rw [List.length_append,flatten_len _ (fun y hy=>h.2.1 y (List.mem_of_mem_take hy)),List.length_take,h.2.1 _ (by simp),h.1,Nat.min_eq_left (by omega)]
    omega
   rw [List.getElem?_append_right (by rw [a1];omega),a1,show (i+1) * 2+t-(i+1) * 2=t by omega,← hnews]
   exact hu
 have s1:Hid (news.length=(n-(i+1)) * 2):=hI hlen
 have s2:Hid (∀ u ∈ news,u.oneCell'=true):=hI (fun u hu=>by
  rw [hnews] at hu
  obtain ⟨r,hr,hur⟩:=List.mem_flatten.1 hu
  exact h1 r (List.mem_of_mem_drop hr) u hur)
 have s3:Hid (∀ t,t<news.length→(w.drew.cell? ⟨g,0+i * 2+t,none⟩).isSome=true∧w.drew.frozen? ⟨g,0+i * 2+t,none⟩=false):=hI (fun t ht=>by
  refine ⟨?_,hfz _⟩
  have hlt:0+i * 2+t<L.flatten.length:=by omega
  show (w.cell? _).isSome=true
  rw [hcl _ _ (List.getElem?_eq_getElem hlt)]
  rfl)
 obtain ⟨W1,hW1⟩:∃ W1,W1=w.drew.setCells g (0+i * 2) news:=⟨_,rfl⟩
 have hW1f:W1=w.drew.setCells g (i * 2) (L.drop (i+1)).flatten:=by rw [hW1,Nat.zero_add,hnews]
 have HW:=hI hW1
 rw [← hW1f] at R
 have hclr:∀ ty c,(Builtin.clear_ #[110] ty #[.slice (some ⟨g,(n-1) * 2,none⟩) 1 c]).run Tryz.prog W1=.ok (.tuple #[]) (W1.setCells g ((n-1) * 2) [.int .i64 0,.slice none 0 0]):=fun ty c=>
  run_clear_one W1 _ _ ty _ [.int .i64 0,.slice none 0 0] Tryz.underlying110 zero_mail rfl (by simp [Value.oneCell']) g ((n-1) * 2) c (fun j hj=>by
   rw [hW1]
   by_cases hin:0+i * 2≤(n-1) * 2+j∧(n-1) * 2+j<0+i * 2+news.length
   ·obtain ⟨t,ht⟩:∃ t,(n-1) * 2+j=0+i * 2+t:=⟨(n-1) * 2+j-i * 2,by omega⟩
    rw [ht,World.cell?_setCells_in g news _ _ (fun q hq=>(s3.out q hq).1) t (by omega)]
    rfl
   ·rw [World.cell?_setCells_out g news _ _ _ (fun _ _=>by simp only;omega)]
    have hlt:(n-1) * 2+j<L.flatten.length:=by simp at hj;omega
    show (w.cell? _).isSome=true
    rw [hcl _ _ (List.getElem?_eq_getElem hlt)]
    rfl) (fun j hj=>by rw [hW1,World.frozen?_setCells];exact hfz _)
 clear hW1 hW1f hcl hfl hfz hlen hnews h h1
 have hA':(if cap=i+1 then (some ⟨g,0,none⟩:Option Addr) else some ⟨g,(i+1) * 2,none⟩)=some A:=by
  rw [← hA]
  unfold tailS
  split
  ·rfl
  ·simp [Addr.add_lit]
 clear hA
 have b1:(0:Int)≤(i:Int)+1:=by omega
 have b2:(i:Int)+1≤(n:Int):=by omega
 have b3:i≤cap:=by omega
 go_enter Tryz.func112,Tryz.ntmps112
 go_wp2_with fail
 go_region_law (refine step_append_room rfl (.tmp 22) (.tmp 25) 110 rfl 119 i0 2 Tryz.underlying110 hi0 hz1 g 0 i cap (by simp [Act.eval,Act.put]) A (n-(i+1)) (cap-(i+1)) news (by simp [Act.eval,Act.put]) s1.out hsrc.out s2.out (by omega) s3.out ?_;rw [← HW.o])
 rw [show i+(n-(i+1))=n-1 by omega]
 have b4:(0:Int)≤((n-1:Nat):Int):=by omega
 have b5:((n-1:Nat):Int)≤(n:Int):=by omega
 have b6:n-(n-1)=1:=by omega
 have b7:(cap=n-1)=False:=by simp;omega
 have hclr0:=hclr 0 (cap-(n-1))
 go_wp2
 go_ret
 exact ⟨rfl,R.o.1,grown_tr (grown_ext (Ext.drew w) _) R.o.2⟩
end
section
open Go Go.Sort Go.RowKit
structure Mv (w w':World) (g:Nat) (p:Option Addr):Prop where
 os:w'.os=w.os
 tape:w'.tape=w.tape
 output:w'.output=w.output
 size:w.heap.size≤w'.heap.size
 block:∀ k,k<w.heap.size→k≠g→p.map (·.block)≠some k→w'.heap[k]?=w.heap[k]?
theorem Mv.refl (w:World) (g:Nat) (p:Option Addr):Mv w w g p:=⟨rfl,rfl,rfl,Nat.le_refl _,fun _ _ _ _=>rfl⟩
theorem Mv.tr {a b c:World} {g:Nat} {p:Option Addr} (h:Mv a b g p) (k:Mv b c g p):Mv a c g p:=
 ⟨k.os.trans h.os,k.tape.trans h.tape,k.output.trans h.output,Nat.le_trans h.size k.size,fun i hi hg hp=>(k.block i (Nat.lt_of_lt_of_le hi h.size) hg hp).trans (h.block i hi hg hp)⟩
theorem Mv.ext {w w':World} (h:Ext w w') (g:Nat) (p:Option Addr):Mv w w' g p:=⟨h.os,h.tape,h.output,h.size,fun i hi _ _=>h.block i hi⟩
theorem Mv.row {w w':World} {p:Option Addr} (h:w.grownBy w' (p.map (·.block))) (g:Nat):Mv w w' g p:=⟨h.os,h.tape,h.output,h.size,fun i hi _ hp=>h.block i hi (fun e=>hp e.symm)⟩
theorem Mv.self {w w':World} {g:Nat} (h:w.grownBy w' (some g)) (p:Option Addr):Mv w w' g p:=⟨h.os,h.tape,h.output,h.size,fun i hi hg _=>h.block i hi (fun e=>hg (by cases e;rfl))⟩
theorem owns_same {E:TypeId} {K base n:Nat} {v:Value} {xs:List Value} {w w':World} (h:w.ownsRow base E K v n xs) (hk:∀ k,v.ownBlock=some k→w'.heap[k]?=w.heap[k]?):w'.ownsRow base E K v n xs:=by
 refine ⟨h.1,?_⟩
 rcases h.2 with hn | ⟨g,cap,cur,rfl,hb,hg,r⟩
 ·exact .inl hn
 ·exact .inr ⟨g,cap,cur,rfl,hb,by rw [hk g rfl];exact hg,r⟩
theorem OwS.mv {E:TypeId} {K base n cap g:Nat} {p q:Option Addr} {L:List (List Value)} {w w':World} (h:OwS E K w base q n cap L) (k:Mv w w' g p) (hg:q.map (·.block)≠some g) (hp:∀ i,p.map (·.block)=some i→q.map (·.block)≠some i):OwS E K w' base q n cap L:=
 ⟨h.1,h.2.1,owns_same h.2.2 fun i hi=>by
  have hi':q.map (·.block)=some i:=by rwa [ownBlock_slice] at hi
  exact k.block i (h.lt i hi').2 (fun e=>hg (by rw [← e];exact hi')) (fun e=>hp i e hi')⟩
theorem OwP.mv {base n cap g:Nat} {p q:Option Addr} {l:List UInt8} {w w':World} (h:OwP w base q n cap l) (k:Mv w w' g p) (hg:q.map (·.block)≠some g) (hp:∀ i,p.map (·.block)=some i→q.map (·.block)≠some i):OwP w' base q n cap l:=
 ⟨h.1,owns_same h.2 fun i hi=>by
  have hi':q.map (·.block)=some i:=by rwa [ownBlock_slice] at hi
  exact k.block i (h.lt i hi').2 (fun e=>hg (by rw [← e];exact hi')) (fun e=>hp i e hi')⟩
theorem BoxV.mv {base k g:Nat} {p:Option Addr} {vs:List Value} {w w':World} (h:BoxV w base k vs) (m:Mv w w' g p) (hg:k≠g) (hp:p.map (·.block)≠some k):BoxV w' base k vs:=by
 have hb:=m.block k h.hi hg hp
 refine ⟨h.lo,Nat.lt_of_lt_of_le h.hi m.size,fun j v hv=>(World.cell?_of_block hb).trans (h.c j v hv),fun j=>?_⟩
 have:=h.f j
 simp only [World.frozen?,hb] at this ⊢
 exact this
theorem own_ne {E E':TypeId} {K K' base base' n m cap cap':Nat} {p q:Option Addr} {xs ys:List Value} {w:World} (h:w.ownsRow base E K (.slice p n cap) n xs) (h':w.ownsRow base' E' K' (.slice q m cap') m ys) (hE:E≠E'):∀ k,p.map (·.block)=some k→q.map (·.block)≠some k:=by
 intro k hp hq
 rcases h.2 with ⟨hv,-⟩ | ⟨a,_,cur,hv,-,ha,-⟩
 ·cases hv
  simp at hp
 ·cases hv
  rcases h'.2 with ⟨hv,-⟩ | ⟨b,_,cur',hv,-,hb,-⟩
  ·cases hv
   simp at hq
  ·cases hv
   simp at hp hq
   subst hp
   subst hq
   rw [ha] at hb
   simp at hb
   exact hE hb.2
theorem erase_map {α β:Type} (f:α→β):∀ (l:List α) (i:Nat),(l.eraseIdx i).map f=(l.map f).eraseIdx i
 | [],_=>rfl
 | _::_,0=>rfl
 | x::l,i+1=>by simp [erase_map f l i]
structure MailD where
 to:Int
 q:Option Addr
 cap:Nat
 b:List UInt8
abbrev mailL (d:MailD):List Value:=[.int .i64 d.to,.slice d.q d.b.length d.cap]
structure NetV (w:World) (g:Nat) (p:Option Addr) (cap:Nat) (ds:List MailD):Prop where
 box:BoxV w g g [.slice p ds.length cap]
 row:OwS 119 2 w (g+1) p ds.length cap (ds.map mailL)
 own:∀ d ∈ ds,OwP w (g+1) d.q d.b.length d.cap d.b
 max:ds.length≤400
 small:∀ d ∈ ds,d.b.length≤5294
theorem NetV.ext {w w':World} {g cap:Nat} {p:Option Addr} {ds:List MailD} (h:NetV w g p cap ds) (k:Ext w w'):NetV w' g p cap ds:=
 ⟨h.box.ext k,h.row.ext k,fun d hd=>(h.own d hd).ext k,h.max,h.small⟩
theorem NetV.pne {w:World} {g cap:Nat} {p:Option Addr} {ds:List MailD} (h:NetV w g p cap ds):p.map (·.block)≠some g:=fun e=>by
 have:=(h.row.lt g e).1
 omega
theorem NetV.qne {w:World} {g cap:Nat} {p:Option Addr} {ds:List MailD} (h:NetV w g p cap ds) {d:MailD} (hd:d ∈ ds):d.q.map (·.block)≠some g:=fun e=>by
 have:=((h.own d hd).lt g e).1
 omega
theorem NetV.qp {w:World} {g cap:Nat} {p:Option Addr} {ds:List MailD} (h:NetV w g p cap ds) {d:MailD} (hd:d ∈ ds):∀ k,p.map (·.block)=some k→d.q.map (·.block)≠some k:=
 own_ne h.row.2.2 (h.own d hd).2 (by decide)
def inN (z:Int) (n:Nat):Bool:=decide (0≤z)&&decide (z<(n:Int))
theorem inN_nat {z:Int} {n:Nat} (h:inN z n=true):∃ i:Nat,z=(i:Int)∧i<n:=by
 simp [inN] at h
 exact ⟨z.toNat,by omega,by omega⟩
theorem inN_of {i n:Nat} (h:i<n):inN (i:Int) n=true:=by simp [inN,h]
def toN (ds:List MailD) (z:Int):Int:=if inN z ds.length then (ds[z.toNat]?.map (·.to)).getD 0 else 0
def lookN (ds:List MailD) (z:Int):List UInt8:=if inN z ds.length then (ds[z.toNat]?.map (·.b)).getD [] else []
def dropN (ds:List MailD) (z:Int):List MailD:=if inN z ds.length then ds.eraseIdx z.toNat else ds
theorem nlen_any {w:World} {g cap:Nat} {p:Option Addr} {ds:List MailD} (h:NetV w g p cap ds) :
  Calls Tryz.prog 39 #[.pointer (some ⟨g,0,none⟩)] w fun e w'=>e=.returned (.int .i64 (ds.length:Int))∧w=w':=by
 have c0:=h.box.c 0 _ rfl
 clear h
 go_enter Tryz.func39,Tryz.ntmps39
 go_wp2
 go_ret
 simp
theorem nhas_any {w:World} {g cap:Nat} {p:Option Addr} {ds:List MailD} (h:NetV w g p cap ds) (z:Int) :
  Calls Tryz.prog 68 #[.pointer (some ⟨g,0,none⟩),.int .i64 z] w fun e w'=>e=.returned (.bool (inN z ds.length))∧w=w':=by
 have I:=nlen_any h
 clear h
 by_cases hz:0≤z
 ·have d1:decide (0≤z)=true:=by simp [hz]
  go_enter Tryz.func68,Tryz.ntmps68
  go_wp2_with fail
  refine I.mono ?_
  rintro e w1 ⟨rfl,rfl⟩
  clear I
  go_wp2
  go_ret
  simp [inN,hz]
 ·have d1:decide (0≤z)=false:=by simp [hz]
  go_enter Tryz.func68,Tryz.ntmps68
  go_wp2
  go_ret
  simp [inN]
  omega
theorem nto_any {w:World} {g cap:Nat} {p:Option Addr} {ds:List MailD} (h:NetV w g p cap ds) (z:Int) :
  Calls Tryz.prog 85 #[.pointer (some ⟨g,0,none⟩),.int .i64 z] w fun e w'=>e=.returned (.int .i64 (toN ds z))∧w=w':=by
 have I:=nhas_any h z
 cases hz:inN z ds.length
 ·rw [hz] at I
  have R:Hid (toN ds z=0):=hI (by simp [toN,hz])
  clear hz h
  go_enter Tryz.func85,Tryz.ntmps85
  go_wp2_with fail
  refine I.mono ?_
  rintro e w1 ⟨rfl,rfl⟩
  clear I
  go_wp2
  go_ret
  rw [R.o]
  simp
 ·rw [hz] at I
  obtain ⟨i,rfl,hi⟩:=inN_nat hz
  obtain ⟨b,o,hp,hc⟩:=h.row.sl.cells (by omega)
  have c0:=h.box.c 0 _ rfl
  subst hp
  have hd:(ds.map mailL)[i]?=some (mailL ds[i]):=by simp [hi]
  have c1:w.cell? ⟨b,o+i * 2,none⟩=some (.int .i64 ds[i].to):=hc i _ hd 0 _ rfl
  have R:Hid (toN ds i=ds[i].to):=hI (by simp [toN,hz,hi])
  have h1:(i:Int)<(ds.length:Int):=by omega
  clear hz h hc hd
  go_enter Tryz.func85,Tryz.ntmps85
  go_wp2_with fail
  refine I.mono ?_
  rintro e w1 ⟨rfl,rfl⟩
  clear I
  go_wp2
  go_ret
  rw [R.o]
  simp
theorem nlook_any {w:World} {g cap:Nat} {p:Option Addr} {ds:List MailD} (h:NetV w g p cap ds) (z:Int) :
  Calls Tryz.prog 47 #[.pointer (some ⟨g,0,none⟩),.int .i64 z] w fun e w'=>∃ p' cap',e=.returned (.tuple #[.slice p' (lookN ds z).length cap',.bool (inN z ds.length)])∧OwP w' w.heap.size p' (lookN ds z).length cap' (lookN ds z)∧Ext w w':=by
 have I:=nhas_any h z
 cases hz:inN z ds.length
 ·rw [hz] at I
  have R:Hid (lookN ds z=[]):=hI (by simp [lookN,hz])
  clear hz h
  go_enter Tryz.func47,Tryz.ntmps47
  go_wp2_with fail
  refine I.mono ?_
  rintro e w1 ⟨rfl,rfl⟩
  clear I
  go_wp2
  go_ret2
  rw [R.o]
  exact ⟨none,0,rfl,OwP.nil _ _,Ext.rfl' _⟩
 ·rw [hz] at I
  obtain ⟨i,rfl,hi⟩:=inN_nat hz
  obtain ⟨b,o,hp,hc⟩:=h.row.sl.cells (by omega)
  have c0:=h.box.c 0 _ rfl
  subst hp
  have hd:(ds.map mailL)[i]?=some (mailL ds[i]):=by simp [hi]
  have c1:w.cell? ⟨b,o+i * 2+1,none⟩=some (.slice ds[i].q ds[i].b.length ds[i].cap):=hc i _ hd 1 _ rfl
  have R:Hid (lookN ds i=ds[i].b):=hI (by simp [lookN,hz,hi])
  have h1:(i:Int)<(ds.length:Int):=by omega
  have C:=clone_any (h.own ds[i] (by simp)).sl (by have:=h.small ds[i] (by simp);omega)
  clear hz h hc hd
  go_enter Tryz.func47,Tryz.ntmps47
  go_wp2_with fail
  refine I.mono ?_
  rintro e w1 ⟨rfl,rfl⟩
  clear I
  go_wp2_with fail
  refine C.mono ?_
  rintro e w1 ⟨p',cap',rfl,H,X⟩
  clear C
  have H:=hI H
  have X:=hI X
  go_wp2
  go_ret2
  rw [R.o]
  exact ⟨p',cap',rfl,H.o,X.o⟩
theorem ndrop_any {w:World} {g cap:Nat} {p:Option Addr} {ds:List MailD} (h:NetV w g p cap ds) (z:Int) :
  Calls Tryz.prog 86 #[.pointer (some ⟨g,0,none⟩),.int .i64 z] w fun e w'=>e=.returned (.bool (inN z ds.length))∧NetV w' g p cap (dropN ds z)∧Mv w w' g p:=by
 have I:=nhas_any h z
 cases hz:inN z ds.length
 ·rw [hz] at I
  have R:Hid (dropN ds z=ds):=hI (by simp [dropN,hz])
  have D:=hI h
  clear hz h
  go_enter Tryz.func86,Tryz.ntmps86
  go_wp2_with fail
  refine I.mono ?_
  rintro e w1 ⟨rfl,rfl⟩
  clear I
  go_wp2
  go_ret
  rw [R.o]
  exact ⟨rfl,D.o,Mv.refl _ _ _⟩
 ·rw [hz] at I
  obtain ⟨i,rfl,hi⟩:=inN_nat hz
  obtain ⟨gr,hp⟩:∃ gr,p=some ⟨gr,0,none⟩:=by
   rcases h.row.2.2.2 with ⟨hv,hn⟩ | ⟨gr,_,_,hv,-⟩
   ·omega
   ·cases hv
    exact ⟨gr,rfl⟩
  subst hp
  have c0:=h.box.c 0 _ rfl
  have f0:=h.box.f
  have hmx:=h.max
  have ei:wrap64 ((i:Int)+1)=((i+1:Nat):Int):=by unfold wrap64;omega
  have R:Hid (dropN ds i=ds.eraseIdx i):=hI (by simp [dropN,hz])
  have C:=delete_any i hi h.row (by simp [mailL,Value.oneCell'])
  have D:=hI h
  clear hz h hmx
  go_enter Tryz.func86,Tryz.ntmps86
  go_wp2_with fail
  refine I.mono ?_
  rintro e w1 ⟨rfl,rfl⟩
  clear I
  go_wp2_with fail
  refine C.mono ?_
  rintro e w1 ⟨rfl,H,X⟩
  clear C
  have hne:gr≠g:=fun e=>D.o.pne (by rw [e];rfl)
  have B:=(D.o.box.other X (by simpa using hne))
  have b0:=B.c 0 _ rfl
  have bf:=B.f
  have B:=hI B
  have H:=hI H
  have X:=hI X
  clear c0 f0
  go_wp2
  go_ret
  rw [R.o]
  have hl:(ds.eraseIdx i).length=ds.length-1:=by rw [List.length_eraseIdx,if_pos hi]
  have M1:Mv _ _ g (some ⟨gr,0,none⟩):=Mv.row (p:=some ⟨gr,0,none⟩) X.o g
  have P:=B.o.put 0 (.slice (some ⟨gr,0,none⟩) (ds.length-1) cap)
  have M2:=Mv.self (grown_put (grown_refl w1 (some g)) 0 (.slice (some ⟨gr,0,none⟩) (ds.length-1) cap)) (some ⟨gr,0,none⟩)
  have H2:=H.o.kept (grown_put (grown_refl _ (some g)) 0 (.slice (some ⟨gr,0,none⟩) (ds.length-1) cap)) (fun k hk=>by cases hk;simpa using hne)
  refine ⟨rfl,⟨by rw [hl];exact P,by rw [hl];rw [erase_map];exact H2,fun d hd=>?_,by have:=D.o.max;omega,fun d hd=>D.o.small d (List.mem_of_mem_eraseIdx hd)⟩,M1.tr M2⟩
  have hd':=List.mem_of_mem_eraseIdx hd
  exact (D.o.own d hd').mv (M1.tr M2) (D.o.qne hd') (D.o.qp hd')
theorem nnew_any (w:World):Calls Tryz.prog 81 #[] w fun e w'=>e=.returned (.pointer (some ⟨w.heap.size,0,none⟩))∧NetV w' w.heap.size none 0 []∧Ext w w':=by
 go_enter Tryz.func81,Tryz.ntmps81
 go_wp2
 go_ret
 exact ⟨rfl,⟨BoxV.new w w.heap.size #[.slice none 0 0] [.slice none 0 0] 112 _ rfl (Nat.le_refl _) rfl,OwS.nil _ _ _ _,(fun d hd=>by cases hd),by decide,fun d hd=>by cases hd⟩,Ext.alloc w _⟩
end
end Go.Proofs.YtjhbmbbmjaabcaaGreat
