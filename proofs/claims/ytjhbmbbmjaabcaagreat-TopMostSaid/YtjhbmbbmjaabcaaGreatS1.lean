/-
  Contracts. Conditions stand at each.
-/
import Derived.WalkKit
import Derived.ProofKit
import Derived.WalkLawsBesides
import Derived.WalkSpells
import Derived.Lib.Hide
import Derived.Laws.AppendOwnNone
import Derived.BigQuiet
import Derived.OpenShut
import Derived.Test.YtjhbmbbmjaabcaaGreatRows
import Derived.OrdersHeld
import Derived.Lib.QuietBelow
import Derived.Deep.RegionHeld3
import Derived.Lib.Zigzag
import Derived.Lib.VarintBits
import Derived.Deep.Slices
import Derived.Deep.Fields
import Derived.ChangeSame
import Derived.Tactics
import Derived.Tactics2
import Derived.StillTactics
import Derived.OwnWalk
import Derived.Laws.Pointers
import Derived.Deep.AppendLies
namespace Go.Sort
end Go.Sort
namespace Go.RowKit
end Go.RowKit
set_option linter.all false
set_option maxRecDepth 8000
set_option maxHeartbeats 8000000
namespace Go.Proofs.YtjhbmbbmjaabcaaGreat
open Go Go.Sort Go.RowKit
theorem hI {p:Prop}(h:p):RowKit.Hid p:=Lib.hid h
theorem _root_.Go.RowKit.Hid.o {p:Prop}(h:RowKit.Hid p):p:=h.out
section
variable{p:Option Addr} {l:List UInt8} {w D:World} {cap base n:Nat} {row:Option Nat}
def bv(x:UInt8):Value:=.int .u8 (x.toNat:Int)
structure j' (w:World) (p:Option Addr) (n cap:Nat) (l:List UInt8):Prop where
 len:l.length=n
 le:n<=cap
 max:cap<=9223372036854775807
 nil:p=none->cap=0
 cells:0<n->∃b o,p=some ⟨b,o,none⟩/\∀i x,l[i]? =some x->w.cell? ⟨b,o+i,none⟩=some (bv x)
def gK(w:World)(base:Nat)(p:Option Addr)(n cap:Nat)(l:List UInt8):Prop:=
 l.length=n/\w.ownsRow base 5 1 (.slice p n cap) n (l.map bv)
abbrev db(w D:World):Prop:=Below w.heap.size w D
theorem db.rfl'(w:World):db w w:=Below.refl _ _
theorem db.tr{a b c:World}(h:db a b)(k:db b c):db a c:=Below.trans h (k.mono h.size)
theorem db.cell(h:db w D){a:Addr}{v:Value}(b:w.cell? a=some v):D.cell? a=some v:=by rw[Below.cell h (World.block_lt_of_cell? w a b)];exact b
theorem db.alloc(w:World)(o:Obj):db w (w.alloc o):=(Below.refl _ _).alloc (Nat.le_refl _) o
theorem db.drew(w:World):db w w.drew:=(Below.refl _ _).drew
theorem db.drewN(w:World)(n:Nat):db w (w.drewN n):=⟨rfl,rfl,rfl,Nat.le_refl _,fun _ _=>rfl⟩
theorem db.grown(a:w.grownBy D row)(hr:∀k,row=some k->w.heap.size<=k):db w D:=
 (Below.refl _ _).grown a (Nat.le_refl _) hr
theorem j'.of_cells(h:j' w p n cap l)(d:∀a v,p.map (·.block)=some a.block->w.cell? a=some v->D.cell? a=some v):j' D p n cap l:=
 ⟨h.len,h.le,h.max,h.nil,fun f=>by
  obtain⟨b,o,c,e⟩:=h.cells f
  exact⟨b,o,c,fun i x g=>d _ _ (by rw[c];simp) (e i x g)⟩⟩
theorem j'.ext(h:j' w p n cap l)(a:db w D):j' D p n cap l:=
 h.of_cells fun _ _ _ b=>db.cell a b
theorem j'.alloc(h:j' w p n cap l)(o:Obj):j' (w.alloc o) p n cap l:=h.ext (db.alloc w o)
theorem j'.take(h:j' w p n cap l)(k:Nat)(e:k<=n):j' w p k cap (l.take k):=
 ⟨by rw[List.length_take,h.len];omega,by have:=h.le;omega,h.max,h.nil,fun f=>by
  obtain⟨b,o,d,c⟩:=h.cells (by omega);refine⟨b,o,d,fun i x a=>c i x ?_⟩;rw[List.getElem?_take]at a;split at a;·exact a
  .cases a⟩
def mO(p:Option Addr)(cap k:Nat):Option Addr:=if cap=k then p else p.map (·.add k)
theorem j'.drop{w:World}{p:Option Addr}{n cap:Nat}{l:List UInt8}(h:j' w p n cap l)(k:Nat)(f:k<=n):j' w (mO p cap k) (n-k) (cap-k) (l.drop k):=
 ⟨by rw[List.length_drop,h.len],by have:=h.le;omega,by have:=h.max;omega,fun c=>by
  unfold mO at c;split at c;·omega
  .cases p with
   |none=>have:=h.nil rfl;omega
   |some a=>simp at c,fun g=>by
  obtain⟨b,o,c,e⟩:=h.cells (by omega);refine⟨b,o+k,?_,fun i x d=>?_⟩;·have:=h.le;unfold mO;rw[if_neg (by omega),c];simp[Addr.add]
  .rw[List.getElem?_drop]at d;rw[Nat.add_assoc]
   exact e (k+i) x d⟩
theorem j'.at(h:j' w p n cap l)(k:Nat)(c:k<n):∃b o x,p=some ⟨b,o,none⟩/\l[k]? =some x/\w.cell? ⟨b,o+k,none⟩=some (.int .u8 (x.toNat:Int)):=by
 obtain⟨b,o,d,a⟩:=h.cells (by omega);have e:k<l.length:=by rw[h.len];exact c
 exact⟨b,o,l[k],d,by simp,a k _ (by simp)⟩
theorem gK.len(h:gK w base p n cap l):l.length=n:=h.1
theorem gK.sl(h:gK w base p n cap l):j' w p n cap l:=by
 obtain⟨d,h1,h2⟩:=h;rcases h2 with⟨b,a⟩|⟨g,c,j,b,k,m,a,f,o,q⟩;·cases b;exact⟨d,Nat.le_refl _,by decide,fun _=>rfl,fun h=>absurd h (by omega)⟩
 .cases b;refine⟨d,a,by unfold maxLen at f;omega,(fun h=>by cases h),fun _=>⟨g,0,rfl,fun i x r=>?_⟩⟩;have:=World.ownsRow.cells (w:=w) (base:=base) (e:=5) (size:=1) (v:=.slice (some ⟨g,0,none⟩) n cap) (n:=n) (xs:=l.map bv) ⟨h1,Or.inr ⟨g,cap,j,rfl,k,m,a,f,o,q⟩⟩ (g:=g) rfl i (bv x) (by rw[List.getElem?_map,r];rfl);rw[Addr.add_lit]at this;simpa using this
theorem gK.lt{w:World}{base:Nat}{p:Option Addr}{n cap:Nat}{l:List UInt8}(h:gK w base p n cap l):∀k,p.map (·.block)=some k->base<=k/\k<w.heap.size:=by
 intro k b
 cases p with
 |none=>simp at b
 |some a=>exact World.ownsRow.lt h.2 k (by simpa [Value.ownBlock]using b)
theorem ea(p:Option Addr)(n cap:Nat):(Value.slice p n cap).ownBlock=p.map (·.block):=by cases p<;>rfl
theorem gK.nil(w:World)(base:Nat):gK w base none 0 0 []:=⟨rfl,World.ownsRow_nil _ _ _ _⟩
theorem gK.kept{w D:World}{base:Nat}{p:Option Addr}{n cap:Nat}{l:List UInt8}{row:Option Nat}(h:gK w base p n cap l)(a:w.grownBy D row)(b:∀k,row=some k->p.map (·.block)≠some k):gK D base p n cap l:=
 ⟨h.1,h.2.kept a (by
  rw[ea]
  cases row with
  |none=>cases p<;>simp
  |some k=>exact Or.inr (b k rfl))⟩
theorem gK.alloc(h:gK w base p n cap l)(o:Obj):gK (w.alloc o) base p n cap l:=⟨h.1,h.2.alloc o⟩
theorem gK.ext(h:gK w base p n cap l)(a:db w D):gK D base p n cap l:=
 h.kept (row:=none) ⟨a.os,a.tape,a.output,a.size,fun k b _=>a.block k b⟩ (fun k b=>by cases b)
theorem gK.mono{a:Nat}(h:gK w base p n cap l)(f:a<=base):gK w a p n cap l:=by
 refine⟨h.1,h.2.1,?_⟩;rcases h.2.2 with d|⟨g,c,b,e,i,r⟩;·exact .inl d
 .exact .inr ⟨g,c,b,e,by omega,r⟩
theorem gK.made(w:World)(base:Nat)(n:Nat)(a:Array Value)(l:List UInt8)(d:base<=w.heap.size)(b:l.length=n)(c:a.toList=l.map bv)(f:n<=140737488355328):
  gK (w.alloc (.cells a 5)) base (some ⟨w.heap.size,0,none⟩) n n l:=by
 have e:a.size=n:=by rw[<-Array.length_toList,c];simp[b]
 refine⟨b,by simp[b],.inr ⟨w.heap.size,n,a,rfl,d,heap_alloc_new w _,Nat.le_refl _,by unfold maxLen;omega,by omega,?_⟩⟩;rw[Nat.mul_one,<-e,<-Array.length_toList,List.take_length,c]
theorem j'.lit(w:World)(n:Nat)(a:Array Value)(e:Nat×Nat)(l:List UInt8)(c:l.length=n)(b:a.toList=l.map bv)(f:n<=140737488355328):
  j' (w.alloc (.cells a 5 e)) (some ⟨w.heap.size,0,none⟩) n n l:=
 ⟨c,Nat.le_refl _,by omega,(fun h=>by cases h),fun _=>⟨w.heap.size,0,rfl,fun i x d=>by
  rw[World.cell?_alloc_mark,Nat.zero_add,<-Array.getElem?_toList,b,List.getElem?_map,d]
  rfl⟩⟩
theorem db.own{a:World}(h:db a w)(d:gK w a.heap.size p n cap l)(b:w.grownBy D row)(hr:row=p.map (·.block)):db a D:=
 Below.grown h b h.size (fun k c=>(d.lt k (by rw[<-hr];exact c)).1)
section
variable{P:Program}
theorem yt(t e:TypeId)(b:P.underlying t=some (.slice e))(c:∀w,(sizeOf e).run P w=.ok 1 w)(p:Option Addr)(n cap:Nat)(k:Nat)(d:k<=cap)(w:World):
  (Instr.slice t (.slice p n cap) none (some (.int .i64 (k:Int))) none).run P w=.ok (.slice p k cap) w:=by
 have a:P.elem t=e:=by simp[Program.elem,b]
 have h:=run_slice_h (P:=P) w t p n cap (by rw[a];exact b) .i64 (k:Int) (by omega) (by omega);rw[h,a,c];simp only[Result.andThen_ok,sliced,Int.toNat_natCast,Nat.sub_zero,Nat.zero_mul];congr 2;split;·rfl
 .cases p<;>simp[Addr.add]
theorem jm(t e:TypeId)(b:P.underlying t=some (.slice e))(c:∀w,(sizeOf e).run P w=.ok 1 w)(p:Option Addr)(n cap:Nat)(k:Nat)(d:k<=n)(w:World):
  (Instr.slice t (.slice p n cap) (some (.int .i64 (k:Int))) none none).run P w=.ok (.slice (mO p cap k) (n-k) (cap-k)) w:=by
 have a:P.elem t=e:=by simp[Program.elem,b]
 have h:=run_slice_l (P:=P) w t p n cap (by rw[a];exact b) .i64 (k:Int) (by omega) (by omega);rw[h,a,c];simp only[Result.andThen_ok,sliced,Int.toNat_natCast,Nat.mul_one,mO]
theorem IM(t e d:TypeId)(g:P.underlying t=some (.slice e))(f:P.underlying e=some (.int .u8))(c:P.underlying d=some .string){w:World}{p:Option Addr}{n cap:Nat}{l:List UInt8}(h:j' w p n cap l):
  (convert t d (.slice p n cap)).run P w=.ok (.string ⟨l.toArray⟩) w:=by
 rcases Nat.eq_zero_or_pos n with a|a;·subst a;have m:l=[]:=List.eq_nil_of_length_eq_zero h.len;subst m;rw[run_convert_bytes_string w t d e _ 0 cap g f c];cases p<;>simp[Conv.bytesToString,loadCells]<;>rfl
 .obtain⟨b,o,r,j⟩:=h.cells a;subst r;have q:=h.len
  have:=run_convert_bytes_arg (P:=P) w t e g f b o n cap (l.map fun x=>(x.toNat:Int)) (by simpa using q) (fun i s=>by
   have k:i<l.length:=by omega
   rw[j i l[i] (by simp)]
   simp[bv,List.getD,k]) d c
  rw[this];simp[strOfNums,Function.comp_def]
theorem uP(a b c:Nat)(h:c=min a b)(d:Array TypeId)(t:TypeId)(w:World):(Builtin.min_ d t #[.int .i64 (a:Int),.int .i64 (b:Int)]).run P w=.ok (.int .i64 (c:Int)) w:=by rw[run_min_int2];congr 2;split<;>omega
theorem jS{w:World}{ops:Array Oper}{rest:List Oper}{o:Oper}{a:Act}{Q:Exit->Act->World->Prop}(F:o.guard=none)(s x:Operand)(t:TypeId)
  (J:o.op=.call {callee:=.builtin .append,args:=#[s,x],argTypes:=#[t,t]})
  (base:Nat)(N:P.underlying t=some (.slice 5))(z:(P.info? 5).map (fun i=>(i.zero,i.size,i.bytes))=some (some (.int .u8 0),1,1))
  (p:Option Addr)(n cap:Nat)(l:List UInt8)(M:a.eval s=.slice p n cap)(B:gK w base p n cap l)
  (q:Option Addr)(m c:Nat)(k:List UInt8)(O:a.eval x=.slice q m c)(e:j' w q m c k)
  (aj:n+m<=140737488355328)(W:base<=w.heap.size)
  (h:∀f d D,gK D base f (n+m) d (l++k)->w.grownBy D (p.map (·.block))->wpList P ops Q rest (a.put o.dst (.slice f (n+m) d)) D):wpList P ops Q (o::rest) a w:=by
 obtain⟨S,z,ae,af,ag⟩:=info_parts z
 have ah:∀(v:Value) (D:World),D.ownsRow base 5 1 v (n+m) (l.map bv++k.map bv)->∃f d,v=.slice f (n+m) d/\gK D base f (n+m) d (l++k):=by
  intro v D A;have H:(l++k).length=n+m:=by rw[List.length_append,B.1,e.len]
  have L:=A;rcases A.2 with⟨C,I⟩|⟨g,c',ai,C,r⟩;·subst C;exact⟨none,0,by rw[I],H,by rw[I]at*;rw[List.map_append];exact L⟩
  .subst C;exact⟨_,_,rfl,H,by rw[List.map_append];exact L⟩
 cases q with
 |none=>
  have X:=e.nil rfl;have al:=e.le;have hm:m=0:=by omega
  subst X;subst hm;have Z:k=[]:=List.eq_nil_of_length_eq_zero e.len;subst Z;refine wpList_plain F fun K U=>?_;have ac:=run_append_owned_none (P:=P) w base t o.type 5 S 1 N z _ n (l.map bv) B.2;unfold Oper.wp;simp[execOp,J,resolve,invoke,builtin,M,O,ac,Result.andThen];exact U _ _ (by simpa using h p cap w (by simpa using B) (World.grownBy.refl _ _))
 |some T=>
  refine wpList_append_own w F s x t J base 5 S (.int .u8 0) 1 1 N z ae af ag rfl (by decide) _ n (l.map bv) M B.2 T m c (k.map bv) O (by simp[e.len]) ?_ ?_ (by unfold maxLen;omega) (by omega) W ?_;·intro j u G;rw[List.getElem?_map]at G;obtain⟨y,R,rfl⟩:=Option.map_eq_some_iff.1 G;have ak:j<k.length:=(List.getElem?_eq_some_iff.1 R).1;obtain⟨b,o',hp,Y⟩:=e.cells (by have:=e.len;omega);cases hp;rw[Addr.add_lit];exact Y j y R
  .intro u hu;obtain⟨y,_,rfl⟩:=List.mem_map.1 hu;rfl
  .intro v D A E _;obtain⟨f,d,rfl,V⟩:=ah v D A;rw[ea]at E;exact h f d D V E
end
end
section
variable{x:Nat}
def Ky(x:Nat):Nat:=if x%2=1 then x/2^^^3988292384 else x/2
def I1:Nat->Nat->Nat
 |0,x=>x
 |n+1,x=>Ky (I1 n x)
def K3(x:Nat)(c:UInt8):Nat:=I1 8 (x^^^c.toNat)
def vz(x:Nat)(l:List UInt8):Nat:=l.foldl K3 x
def AN(l:List UInt8):Nat:=4294967295^^^vz 4294967295 l
def b4(x:Nat):List UInt8:=[UInt8.ofNat (x/16777216),UInt8.ofNat (x/65536),UInt8.ofNat (x/256),UInt8.ofNat x]
def lk(l:List UInt8):List UInt8:=l++b4 (AN l)
def j7(l:List UInt8):Bool:=decide (4<=l.length)&&(b4 (AN (l.take (l.length-4)))==l.drop (l.length-4))
def gk(l:List UInt8):List UInt8:=if j7 l then l.take (l.length-4)else []
theorem oh{a b:Nat}(h:a<4294967296)(k:b<4294967296):a^^^b<4294967296:=Nat.xor_lt_two_pow (n:=32) h k
theorem FQ(h:x<4294967296):Ky x<4294967296:=by
 unfold Ky;split;·exact oh (by omega) (by omega)
 .omega
theorem I4(n:Nat){x:Nat}(h:x<4294967296):I1 n x<4294967296:=by
 induction n with
 |zero=>exact h
 |succ n a=>exact FQ a
theorem ug(c:UInt8):c.toNat<4294967296:=by have:=c.toNat_lt;omega
theorem Ks(c:UInt8)(h:x<4294967296):K3 x c<4294967296:=I4 8 (oh h (ug c))
theorem Hb(l:List UInt8):∀{x:Nat},x<4294967296->vz x l<4294967296:=by
 induction l with
 |nil=>intro x h;exact h
 |cons c l a=>intro x h;exact a (Ks c h)
theorem xm(l:List UInt8):AN l<4294967296:=oh (by omega) (Hb l (by omega))
theorem AP(x:Nat)(l:List UInt8)(c:UInt8):vz x (l++[c])=K3 (vz x l) c:=by simp[vz,List.foldl_append]
theorem AQ(l:List UInt8)(x k:Nat)(c:UInt8)(a:l[k]? =some c):vz x (l.take (k+1))=K3 (vz x (l.take k)) c:=by rw[List.take_add_one,a];exact AP _ _ _
theorem AG(x:Nat):(b4 x).length=4:=rfl
theorem jo(l:List UInt8):(lk l).length=l.length+4:=by simp[lk,AG]
theorem rK(l:List UInt8):j7 (lk l)=true:=by
 have e:(lk l).length-4=l.length:=by rw[jo];omega
 unfold j7;rw[e,jo];simp[lk]
theorem yl(l:List UInt8):gk (lk l)=l:=by
 have e:(lk l).length-4=l.length:=by rw[jo];omega
 unfold gk;rw[rK,if_pos rfl,e];simp[lk]
end
section
variable{p:Option Addr} {l:List UInt8} {k:IntKind} {w:World}
theorem Kz:∀w,(sizeOf 5).run Tryz.prog w=.ok 1 w:=fun w=>by kernel_rfl
theorem pz:(Tryz.prog.info? 5).map (fun i=>(i.zero,i.size,i.bytes))=some (some (.int .u8 0),1,1):=by kernel_rfl
theorem JQ(p:Option Addr)(n cap k:Nat)(a:k<=cap)(w:World):(Instr.slice 72 (.slice p n cap) none (some (.int .i64 (k:Int))) none).run Tryz.prog w=.ok (.slice p k cap) w:=
 yt 72 5 Tryz.underlying72 Kz p n cap k a w
theorem Do(p:Option Addr)(n cap k:Nat)(a:k<=n)(w:World):(Instr.slice 72 (.slice p n cap) (some (.int .i64 (k:Int))) none none).run Tryz.prog w=.ok (.slice (mO p cap k) (n-k) (cap-k)) w:=
 jm 72 5 Tryz.underlying72 Kz p n cap k a w
theorem yy{n cap:Nat}(h:j' w p n cap l):(convert 72 9 (.slice p n cap)).run Tryz.prog w=.ok (.string ⟨l.toArray⟩) w:=
 IM 72 5 9 Tryz.underlying72 Tryz.underlying5 Tryz.underlying9 h
theorem Im(z:Nat): -((z%2:Nat):Int)%4294967296=(((if z%2=1 then 4294967295 else 0:Nat)):Int):=by rcases Nat.mod_two_eq_zero_or_one z with h|h<;>rw[h]<;>decide
theorem FP(z:Nat)(f:z<4294967296):bits .xor .u32 ((z:Int)/2) (bits .and .u32 3988292384 (-bits .and .u32 (z:Int) 1%4294967296))=((Ky z:Nat):Int):=by
 have c:bits .and .u32 (z:Int) 1=((z%2:Nat):Int):=by have:=u32_and_nat z 1 f (by omega);rw[Nat.and_one_is_mod]at this;simpa using this
 rw[c,Im];have d:(z:Int)/2=((z/2:Nat):Int):=by omega
 rw[d];unfold Ky;rcases Nat.mod_two_eq_zero_or_one z with h|h;·rw[if_neg (by omega),if_neg (by omega)];have a:=u32_and_nat 3988292384 0 (by omega) (by omega);have b:=u32_xor_nat (z/2) 0 (by omega) (by omega);simp at a b⊢;rw[a,b]
 .rw[if_pos h,if_pos h];have a:=u32_and_nat 3988292384 4294967295 (by omega) (by omega);have b:=u32_xor_nat (z/2) 3988292384 (by omega) (by omega);have e:3988292384&&&4294967295=3988292384:=by decide
  rw[e]at a;simp at a b⊢;rw[a,b]
theorem Gw(y:Nat)(c:UInt8)(a:y<4294967296):bits .xor .u32 (y:Int) (c.toNat:Int)=((y^^^c.toNat:Nat):Int):=u32_xor_nat y c.toNat a (ug c)
theorem EM(y:Nat)(a:y<4294967296):bits .xor .u32 4294967295 (y:Int)=((4294967295^^^y:Nat):Int):=u32_xor_nat 4294967295 y (by omega) a
theorem D'{a b:Int}(h:a=b):Value.int k a=Value.int k b:=by rw[h]
theorem Iz{a b:Int}(h:a=b):Ending.returned (.int k a)=.returned (.int k b):=by rw[h]
theorem uU{n cap:Nat}(h:j' w p n cap l)(E:n<=70368744177664):
  Calls Tryz.prog 90 #[.slice p n cap] w fun e u=>e=.returned (.int .u32 (AN l:Int))/\w=u:=by
 have F:IntKind.u32.signed=false:=rfl;have D:IntKind.u32.max=4294967295:=rfl;have H:=hI h;clear h;go_enter Tryz.func90,Tryz.ntmps90;go_wp2;go_loop [3,5,8] (fun x _ i=>∃k:Nat,∃y:Nat,y<4294967296/\k<=n/\y=vz 4294967295 (l.take k)/\i=.int .i64 k/\x=.int .u32 (y:Int)) (fun _ _ i=>n-(intOf i).toNat);case atStart=>exact⟨0,4294967295,by omega,by omega,rfl,rfl,rfl⟩
 case round=>
  obtain⟨k,y,a,C,q,rfl,rfl⟩:=hrel;have f:=hI q;clear q;by_cases o:k<n
  .obtain⟨b,G,c,rfl,m,A⟩:=H.o.at k o;have v:=c.toNat_lt;have s:=hI m;have t:=hI (Gw y c a);clear m;go_wp2;go_loop [3,16] (fun x i=>∃j:Nat,∃z:Nat,z<4294967296/\j<=8/\z=I1 j (y^^^c.toNat)/\i=.int .i64 j/\x=.int .u32 (z:Int)) (fun _ i=>8-(intOf i).toNat);case atStart=>exact⟨0,y^^^c.toNat,oh a (ug c),by omega,rfl,rfl,D' t.o⟩
   case round=>
    obtain⟨j,z,d,B,r,rfl,rfl⟩:=hrel;have g:=hI r;clear r;by_cases o:j<8
    .go_wp2;go_round;case rel=>exact⟨j+1,Ky z,FQ d,by omega,by rw[g.o];rfl,by go_num,D' (FP z d)⟩
     case measure=>simp[intOf];omega
    .go_wp2;go_round;case rel=>exact⟨k+1,z,d,by omega,(by have e:j=8:=(by omega);rw[AQ l _ k c s.o,<-f.o,g.o,e];rfl),by go_num,rfl⟩
     case measure=>simp[intOf];omega
  .go_wp2;go_ret;refine⟨Iz ?_,rfl⟩;rw[EM y a];unfold AN;rw[f.o,List.take_of_length_le (by rw[H.o.len];omega)]
end
section
def rZ(o:Oper):Bool:=
 match o.op with
 | .move _=>true
 | .assign _=>true
 | .pick _ _ _=>true
 | .load _ _=>true
 | .binOp _ _ _ _ _=>true
 | .unOp _ _ _=>true
 | .convert _ _ _=>true
 | .slice _ _ _ _ _=>true
 | .fieldAddr _ _ _=>true
 | .field _ _ _=>true
 | .indexAddr _ _ _=>true
 | .index _ _ _=>true
 | .extract _ _=>true
 | .call c=>match c.callee with
  | .builtin .len=>true
  | .builtin .min=>true
  | .builtin .max=>true
  |_=>false
 |_=>false
def Lz(w:World):World->Prop:=fun a=>∃p:Regrown,a=grow (redrawn w p.d) p.os
theorem qH{w a:World}(h:db w a):Lz w a:=regrown_of_below h
theorem db.reg(w:World)(d:Nat)(a:Array Obj):db w (grow (redrawn w d) a):=below_regrown w d a
section
variable{P:Program} {ops:Array Oper} {md:Region.Mode}
theorem tR(s:Sem Value)(w:World):(∃v a,(do pure (Next.value (<-s)):Sem Next).run P w=.ok (.value v) a)\/∃h a,(do pure (Next.value (<-s)):Sem Next).run P w=.halt h a:=by
 rw[Sem.run_bind]
 cases s.run P w with
 |ok v a=>exact .inl ⟨v,a,rfl⟩
 |halt h a=>exact .inr ⟨h,a,rfl⟩
theorem FY{o:Oper}(d:rZ o=true)(ρ:Operand->Value)(w:World):(∃v e,(execOp ρ o).run P w=.ok (.value v) e)\/∃h e,(execOp ρ o).run P w=.halt h e:=by
 unfold rZ at d;unfold execOp;cases i:o.op<;>rw[i]at d<;>simp only[Bool.false_eq_true]at d<;>simp only[]
 all_goals first
  |exact .inl ⟨_,_,rfl⟩
  |exact tR _ _
  |skip
 case pick c a b=>
  rw[Sem.run_bind]
  cases(asBool (ρ c)).run P w with
  |ok v e=>exact .inl ⟨_,_,rfl⟩
  |halt h e=>exact .inr ⟨_,_,rfl⟩
 case call c=>
  rcases c with⟨g,k,j⟩
  cases g with
  |value f=>simp at d
  |invoke r m=>simp at d
  |builtin b=>
   cases b<;>simp at d;all_goals exact tR _ _
theorem pJ{o:Oper}(b:rZ o=true){a:Act}{C:World->Prop}{w:World}{v:Value}(h:o.quietAt P a C w v):(execOp a.eval o).run P w=.ok (.value v) w:=by
 unfold Oper.quietAt at h;rcases FY (P:=P) b a.eval w with⟨u,c,e⟩|⟨x,c,e⟩;·rw[e]at h;obtain⟨rfl,rfl⟩:=h;exact e
 .rw[e]at h;exact h.elim
def tS(md:Region.Mode)(ops:Array Oper):List Nat->Array Bool->Bool
 |[],a=>(Region.ready md ops a).isEmpty
 |i::r,a=>
  (match ops[i]? with
  |none=>false
  |some o=>if rZ o then(Region.ready md ops a).contains i&&Region.free md ops a i else Region.ready md ops a==[i])&&tS md ops r (a.setIfInBounds i true)
def RW(P:Program)(b:List Oper)(Q:Exit->Act->World->Prop):List Nat->Act->World->Prop
 |[],a,w=>Q .normal a w
 |i::r,a,w=>∃o,b[i]? =some o/\
  if Region.wanted o (yielded b.toArray a.tmps)then
   if rZ o then o.quiet P a (fun c=>∃p:Regrown,c=grow (redrawn w p.d) p.os) (fun d=>RW P b Q r d w)
   else o.wp P a w (fun d c=>db w c/\RW P b Q r d c) Q
  else RW P b Q r (a.put o.dst undef) w
theorem RW.held{f:List Oper}{Q:Exit->Act->World->Prop}(n:Region.noSelect f.toArray=true)(m:∀c (a:Act) d v w,Q (.panic c) (a.put d v) w->Q (.panic c) a w):
  ∀(l:List Nat) (e:Array Bool) (a:Act) (w:World),tS md f.toArray l e=true->RW P f Q l a w->wpAnyH P md f.toArray Q (fun b=>db w b) l.length e a w
 |[],e,a,w,s,h=>wpAnyH_done (by simpa [tS]using s) h _
 |i::r,e,a,w,s,h=>by
  obtain⟨o,D,h⟩:=h;have u:f.toArray[i]? =some o:=by simpa using D
  simp only[tS,u,Bool.and_eq_true]at s;obtain⟨k,t⟩:=s
  have G:∀(fuel:Nat) (e:Array Bool) (p:Act) (b z:World),db w b->wpAnyH P md f.toArray Q (fun x=>db b x) fuel e p z->wpAnyH P md f.toArray Q (fun x=>db w x) fuel e p z:=by
   intro fuel
   induction fuel with
   |zero=>intro e p b z _ h;exact h
   |succ fuel F=>
    intro e p b z y h;exact⟨h.1,fun i A=>wpOp_mono (fun a1 H h1=>⟨y.tr h1.1,F _ a1 b H y h1.2⟩) (h.2 i A)⟩
  by_cases q:rZ o=true
  .rw[if_pos q,Bool.and_eq_true]at k;by_cases g:Region.wanted o (yielded f.toArray a.tmps)=true;·rw[if_pos g,if_pos q]at h;obtain⟨v,E,C⟩:=h;exact wpAnyH_take u n k.2 k.1 (fun c a w=>m c a o.dst v w) (Or.inl ⟨g,fun b y=>pJ q (E b (qH y))⟩) (db.rfl' w) (RW.held n m r _ _ w t C)
   .rw[if_neg g]at h;exact wpAnyH_take u n k.2 k.1 (fun c a w=>m c a o.dst undef w) (Or.inr ⟨by simpa using g,rfl⟩) (db.rfl' w) (RW.held n m r _ _ w t h)
  .rw[if_neg q]at k;have hr:Region.ready md f.toArray e=[i]:=by simpa using k
   refine wpAnyH_all hr (by simp) (fun j B=>?_);obtain rfl:j=i:=by simpa using B
   unfold wpOp;simp only[u];by_cases g:Region.wanted o (yielded f.toArray a.tmps)=true;·rw[if_pos g,if_neg q]at h;rw[if_pos g];exact .inl (Oper.wp_mono (fun p b h1=>⟨h1.1,G _ _ _ b _ h1.1 (RW.held n m r _ _ b t h1.2)⟩) h)
   .rw[if_neg g]at h;rw[if_neg g];exact⟨db.rfl' w,RW.held n m r _ _ w t h⟩
theorem Ft{id:Nat}{Q:Exit->Act->World->Prop}{a:Act}{w:World}{l:List Oper}(e:List Nat)(g:P.follows .mixedOrders=true)
  (b:(Region.noSelect l.toArray&&(e.length==l.length)&&tS .any l.toArray e (Array.replicate l.toArray.size false))=true)(f:∀c (a:Act) d v w,Q (.panic c) (a.put d v) w->Q (.panic c) a w)
  (h:RW P l Q e a w.drew):(Code.region id l.toArray true).wp P Q a w:=by simp only[Bool.and_eq_true,beq_iff_eq]at b;refine wp_region_held (S:=fun i=>db w.drew i) g ?_;have:=RW.held (md:=.any) b.1.1 f e _ a w.drew b.2 h;rw[b.1.2]at this;simpa using this
theorem Fq{b:List Oper}{Q:Exit->Act->World->Prop}{a:Act}{w:World}(h:Q .normal a w):RW P b Q [] a w:=h
theorem IP{b:List Oper}{Q:Exit->Act->World->Prop}{i:Nat}{r:List Nat}{a:Act}{w:World}{d:Option Tmp}{op:Op}{e:TypeId}{pos:String}{c:Array Edge}{g:Option (Nat×Bool)}(k:b[i]? =some ⟨d,op,e,pos,c,g⟩)(m:Region.wanted ⟨d,op,e,pos,c,g⟩ (yielded b.toArray a.tmps)=false)
  (h:∀K:Act->Prop,(∀f,RW P b Q r f w->K f)->Oper.quiet P ⟨d,.move (.const undef),e,pos,c,none⟩ a (fun _=>True) K):RW P b Q (i::r) a w:=by
 refine⟨_,k,?_⟩;rw[if_neg (by rw[m];exact Bool.false_ne_true)];obtain⟨v,l,j⟩:=h _ fun _ h=>h;have h1:=l w trivial;unfold Oper.quietAt at h1;rw[BigFrame.run_move (.const undef) rfl]at h1;obtain⟨h2,h3⟩:=h1
 have h3:v=undef:=by
  first
   |exact h3
   |exact h3.symm
   |exact h2
   |exact h2.symm
 subst h3;exact j
theorem Fs{b:List Oper}{Q:Exit->Act->World->Prop}{i:Nat}{r:List Nat}{a:Act}{w:World}{o:Oper}(d:b[i]? =some o)(e:rZ o=true)(f:Region.wanted o (yielded b.toArray a.tmps)=true)
  (h:∀K:Act->Prop,(∀c,RW P b Q r c w->K c)->o.quiet P a (fun g=>∃p:Regrown,g=grow (redrawn w p.d) p.os) K):RW P b Q (i::r) a w:=
 ⟨o,d,by rw[if_pos f,if_pos e];exact h _ fun _ h=>h⟩
theorem IN{b:List Oper}{Q:Exit->Act->World->Prop}{i:Nat}{r:List Nat}{a:Act}{w:World}{o:Oper}(e:b[i]? =some o)(f:rZ o=false)(g:Region.wanted o (yielded b.toArray a.tmps)=true)
  (h:∀K:Act->World->Prop,(∀d c,db w c->RW P b Q r d c->K d c)->o.wp P a w K Q):RW P b Q (i::r) a w:=
 ⟨o,e,by rw[if_pos g,if_neg (by rw[f];exact Bool.false_ne_true)];exact h _ fun _ _ h k=>⟨h,k⟩⟩
end
section
variable{P:Program} {ops:Array Oper} {md:Region.Mode}
theorem K6{b:List Oper}{Q:Exit->Act->World->Prop}{i:Nat}{r:List Nat}{a:Act}{w:World}{o:Oper}(h:∀K:Act->Prop,(∀c,RW P b Q r c w->K c)->o.quiet P a (fun g=>∃p:Regrown,g=grow (redrawn w p.d) p.os) K)(d:b[i]? =some o:=by rfl)(e:rZ o=true:=by rfl)(f:Region.wanted o (yielded b.toArray a.tmps)=true:=by rfl):RW P b Q (i::r) a w:=Fs d e f h
theorem K5{b:List Oper}{Q:Exit->Act->World->Prop}{i:Nat}{r:List Nat}{a:Act}{w:World}{d:Option Tmp}{op:Op}{e:TypeId}{pos:String}{c:Array Edge}{g:Option (Nat×Bool)}(h:∀K:Act->Prop,(∀f,RW P b Q r f w->K f)->Oper.quiet P ⟨d,.move (.const undef),e,pos,c,none⟩ a (fun _=>True) K)(j:b[i]? =some ⟨d,op,e,pos,c,g⟩:=by rfl)(k:Region.wanted ⟨d,op,e,pos,c,g⟩ (yielded b.toArray a.tmps)=false:=by rfl):RW P b Q (i::r) a w:=IP j k h
theorem Lw{b:List Oper}{Q:Exit->Act->World->Prop}{i:Nat}{r:List Nat}{a:Act}{w:World}{o:Oper}(h:∀K:Act->World->Prop,(∀d c,db w c->RW P b Q r d c->K d c)->o.wp P a w K Q)(e:b[i]? =some o:=by rfl)(f:rZ o=false:=by rfl)(g:Region.wanted o (yielded b.toArray a.tmps)=true:=by rfl):RW P b Q (i::r) a w:=IN e f g h
theorem Lx{id:Nat}{Q:Exit->Act->World->Prop}{a:Act}{w:World}{l:List Oper}(b:List Nat)(h:RW P l Q b a w.drew)(g:P.follows .mixedOrders=true:=by kernel_rfl)(e:(Region.noSelect l.toArray&&(b.length==l.length)&&tS .any l.toArray b (Array.replicate l.toArray.size false))=true:=by kernel_rfl)(f:∀c (a:Act) d v w,Q (.panic c) (a.put d v) w->Q (.panic c) a w:=by intro _ _ d _ _ h;cases d<;>exact h):(Code.region id l.toArray true).wp P Q a w:=Ft b g e f h
end
end
theorem dT(p:Prop)[Decidable p](h:p:=by omega):decide p=true:=decide_eq_true h
theorem dF(p:Prop)[Decidable p](h:¬p:=by omega):decide p=false:=decide_eq_false h
theorem rg(W:World){a:Addr}{v:Value}(h:W.cell? a=some v)(d:Nat)(b:Array Obj):(grow (redrawn W d) b).cell? a=some v:=db.cell (db.reg W d b) h
theorem eS(w:World):∃W,W=w.drew/\db w W:=⟨_,rfl,db.drew w⟩
section
variable{l:List UInt8} {w:World}
theorem n0(x:Nat):((UInt8.ofNat x).toNat:Int)=(x:Int)%256:=by rw[UInt8.toNat_ofNat'];omega
theorem Dc(x:Nat)(a:x<4294967296):[Value.int .u8 ((x:Int)/16777216),.int .u8 ((x:Int)/65536%256),.int .u8 ((x:Int)/256%256),.int .u8 ((x:Int)%256)]=(b4 x).map bv:=by simp only[b4,List.map_cons,List.map_nil,bv,n0];simp only[List.cons.injEq,Value.int.injEq,true_and,and_true];omega
theorem qZ(x:Nat)(c:x<4294967296)(w:World):
  Calls Tryz.prog 89 #[.int .u32 (x:Int)] w fun e b=>∃p a,e=.returned (.slice p 4 a)/\gK b w.heap.size p 4 a (b4 x)/\db w b:=by go_enter Tryz.func89,Tryz.ntmps89;go_wp2;go_ret;refine⟨_,_,rfl,gK.made w _ 4 _ (b4 x) (Nat.le_refl _) rfl ?_ (by omega),db.alloc w _⟩;exact Dc x c
theorem ow{p:Option Addr}{n cap:Nat}{l:List UInt8}{w:World}(H:j' w p n cap l)(s:n<=70368744177664):
  Calls Tryz.prog 69 #[.slice p n cap] w fun e i=>∃g d,e=.returned (.slice g n d)/\gK i w.heap.size g n d l/\db w i:=by
 have t:∀(w:World) (a:Option Addr) (n c f b:Nat),(binOp .eql 72 (.slice a n c) (.slice none f b)).run Tryz.prog w=.ok (.bool a.isNone) w:=fun w a n c f b=>Lib.run_eql_slice_nil w _ _ a n c f b Tryz.underlying72
 cases p with
 |none=>
  have m:=H.nil rfl;have r:=H.le;have h:=H.len;obtain rfl:cap=0:=m;obtain rfl:n=0:=by omega
  obtain rfl:l=[]:=List.eq_nil_of_length_eq_zero h;clear H h r;go_enter Tryz.func69,Tryz.ntmps69;go_wp2;go_ret;exact⟨_,_,rfl,gK.nil _ _,db.rfl' _⟩
 |some a=>
  go_enter Tryz.func69,Tryz.ntmps69;go_wp2_with (at_builtin;refine jS rfl _ _ 72 rfl w.heap.size Tryz.underlying72 pz (some ⟨w.heap.size,0,none⟩) 0 0 [] rfl ⟨rfl,World.ownsRow_made w #[] 0 (Nat.le_refl _) (Nat.zero_le _) rfl⟩ (some a) n cap l rfl (H.alloc _) (by omega) (by simp) ?_);intro g d u j o;go_wp2;go_ret;exact⟨_,_,rfl,j,Below.grown (db.alloc w _) o (by simp) (fun k q=>by simp at q;omega)⟩
theorem kq{p q:Option Addr}{n m c d:Nat}{k:List UInt8}(h1:j' w p n c l)(h2:j' w q m d k):
  Calls Tryz.prog 74 #[.slice p n c,.slice q m d] w fun e a=>e=.returned (.bool (l==k))/\w=a:=by have b:=yy h1;have f:=yy h2;clear h1 h2;go_enter Tryz.func74,Tryz.ntmps74;go_wp2;go_ret;exact⟨rfl,rfl⟩
theorem Fw{p:Option Addr}{n cap:Nat}(H:j' w p n cap l)(t:n<=35184372088832):
  Calls Tryz.prog 96 #[.slice p n cap] w fun e g=>∃f d,e=.returned (.slice f (n+4) d)/\gK g w.heap.size f (n+4) d (lk l)/\db w g:=by go_enter Tryz.func96,Tryz.ntmps96;go_wp2_with fail;refine(ow H (by omega)).mono ?_;rintro e v ⟨o,k,rfl,c,b⟩;go_wp2_with fail;refine(uU (H.ext b) (by omega)).mono ?_;rintro e r ⟨rfl,rfl⟩;go_wp2_with fail;refine(qZ (AN l) (xm l) _).mono ?_;rintro e r ⟨q,m,rfl,i,a⟩;go_wp2_with (at_builtin;refine jS rfl _ _ 72 rfl w.heap.size Tryz.underlying72 pz o n k l rfl (c.ext a) q 4 m (b4 (AN l)) rfl i.sl (by omega) (by have:=b.size;have:=a.size;omega) ?_);intro u s x j h;go_wp2;go_ret;refine⟨_,_,rfl,j,?_⟩;exact db.own (b.tr a) (c.ext a) h rfl
theorem zW{a:World}(h:j7 l=false)(d:db w a):∃c b,Ending.returned (.tuple #[.slice none 0 0,.bool false])=.returned (.tuple #[.slice c (gk l).length b,.bool (j7 l)])/\gK a w.heap.size c (gk l).length b (gk l)/\db w a:=by
 have e:gk l=[]:=by unfold gk;rw[h];rfl
 rw[e,h];exact⟨none,0,rfl,gK.nil _ _,d⟩
theorem EU{p:Option Addr}{n cap:Nat}{l:List UInt8}{w:World}(H:j' w p n cap l)(K:n<=35184372088832):
  Calls Tryz.prog 70 #[.slice p n cap] w fun e a=>∃s o,e=.returned (.tuple #[.slice s (gk l).length o,.bool (j7 l)])/\gK a w.heap.size s (gk l).length o (gk l)/\db w a:=by
 have G:=H.le;have J:=H.max;have d:=hI H.len;by_cases h4:n<4
 .have c:j7 l=false:=by unfold j7;rw[d.out,decide_eq_false (by omega)];rfl
  have b:=hI c;clear c;have I:decide ((n:Int)-4<0)=true:=by simp;omega
  go_enter Tryz.func70,Tryz.ntmps70;go_wp2_with fail;go_quiet (fail);go_wp2;go_ret2;exact zW b.out (db.drewN w _)
 .obtain⟨m,rfl⟩:∃m,n=m+4:=⟨n-4,by omega⟩;have h:=H.take m (by omega);have f:=H.drop m (by omega);have q:m+4-m=4:=by omega
  rw[q]at f;clear q;have E:=JQ p (m+4) cap m (by omega);have F:=Do p (m+4) cap m (by omega);have L:=dF ((m:Int)<0);have c:j7 l=(b4 (AN (l.take m))==l.drop m):=by have x:4<=m+4:=Nat.le_add_left _ _;unfold j7;rw[d.out,decide_eq_true x,Nat.add_sub_cancel,Bool.true_and]
  have b:=hI c;clear c;cases r:(b4 (AN (l.take m))==l.drop m)
  .rw[r]at b;go_enter Tryz.func70,Tryz.ntmps70;go_wp2_with fail
   go_region_held3 (fun a=>db w a) (first|exact db.rfl' _|exact db.drew _|assumption|exact db.tr (by assumption) (by assumption))
    (first
     |(go_at_call 90;refine(uU (l:=l.take m) (by exact h.ext (by assumption)) (by omega)).mono ?_;rintro e a ⟨rfl,rfl⟩)
     |(go_at_call 89;refine(qZ (AN (l.take m)) (xm _) _).mono ?_;rintro e a ⟨z,k2,rfl,h2,C⟩;have g:=h2.sl;clear h2)
     |(go_at_call 74;refine(kq (l:=b4 (AN (l.take m))) (k:=l.drop m) (by exact g) (by exact f.ext (by assumption))).mono ?_;rintro e a ⟨rfl,rfl⟩))
   go_wp2;go_ret2;exact zW b.out (by assumption)
  .rw[r]at b;go_enter Tryz.func70,Tryz.ntmps70;go_wp2_with fail
   go_region_held3 (fun a=>db w a) (first|exact db.rfl' _|exact db.drew _|assumption|exact db.tr (by assumption) (by assumption))
    (first
     |(go_at_call 90;refine(uU (l:=l.take m) (by exact h.ext (by assumption)) (by omega)).mono ?_;rintro e a ⟨rfl,rfl⟩)
     |(go_at_call 89;refine(qZ (AN (l.take m)) (xm _) _).mono ?_;rintro e a ⟨z,k2,rfl,h2,C⟩;have g:=h2.sl;clear h2)
     |(go_at_call 74;refine(kq (l:=b4 (AN (l.take m))) (k:=l.drop m) (by exact g) (by exact f.ext (by assumption))).mono ?_;rintro e a ⟨rfl,rfl⟩))
   have i:Hid (gk l=l.take m):=by show gk l=l.take m;unfold gk;rw[b.out,if_pos rfl,d.out,Nat.add_sub_cancel]
   have y:m<=l.length:=by have:=d.out;omega
   have j:Hid (m=(gk l).length):=by show m=(gk l).length;rw[i.o,List.length_take];omega
   clear y;go_wp2_with fail;refine(ow (h.ext (by assumption)) (by omega)).mono ?_;rintro e B ⟨A,v,rfl,t,D⟩;have u:Hid (db w B):=db.tr (by assumption) D;go_wp2;go_ret2;refine⟨A,v,?_,?_,u.o⟩;·rw[<-j.o,b.out];rfl
   .rw[<-j.o,i.o];exact t.mono (Below.size (by assumption))
end
section
variable{u:Nat}
def mG(x:Int):Nat:=if x<0 then(-(2*x)-1).toNat else(2*x).toNat
def kD(u:Nat):Int:=if u%2=1 then-((u/2:Nat):Int)-1 else((u/2:Nat):Int)
theorem t6(x:Int):kD (mG x)=x:=by unfold kD mG;split<;>split<;>omega
theorem pg{x:Int}(h: -9223372036854775808<=x)(h2:x<=9223372036854775807):mG x<18446744073709551616:=by unfold mG;split<;>omega
theorem Gf(h:u<18446744073709551616): -9223372036854775808<=kD u/\kD u<=9223372036854775807:=by unfold kD;split<;>omega
def kF(u:Nat):List UInt8:=if h:u<128 then [UInt8.ofNat u]else UInt8.ofNat (u%128+128)::kF (u/128)
termination_by u
decreasing_by omega
theorem iu(h:u<128):kF u=[UInt8.ofNat u]:=by rw[kF];simp[h]
theorem lB(h:¬u<128):kF u=UInt8.ofNat (u%128+128)::kF (u/128):=by rw[kF];simp[h]
theorem ur(u:Nat):0<(kF u).length:=by
 by_cases h:u<128;·rw[iu h];simp
 .rw[lB h];simp
theorem Hh(k:Nat):∀u,u<128^(k+1)->(kF u).length<=k+1:=by
 induction k with
 |zero=>intro u h;rw[iu (by simpa using h)];simp
 |succ k a=>
  intro u h;by_cases h1:u<128;·rw[iu h1];simp
  .rw[lB h1];have:=a (u/128) (by rw[Nat.div_lt_iff_lt_mul (by omega)];rw[Nat.pow_succ]at h;exact h)
   simp;omega
theorem qc(h:u<18446744073709551616):(kF u).length<=10:=Hh 9 u (by omega)
def jE:Nat->Nat->List UInt8->Int×Nat×Int
 |_,_,[]=>(0,0,2)
 |i,u,c::r=>
  if i=9/\1<c.toNat then(0,0,1)
  else if 127<c.toNat then jE (i+1) (u+c.toNat%128*128^i) r
  else if 0<i/\c.toNat=0 then(0,0,1)
  else(kD (u+c.toNat%128*128^i),i+1,0)
def eO(l:List UInt8):Int×Nat×Int:=jE 0 0 l
theorem E1(v i:Nat):v%128*128^i+v/128*128^(i+1)=v*128^i:=by have h:=Nat.mod_add_div v 128;rw[Nat.pow_succ,show v/128*(128^i*128)=128*(v/128)*128^i by rw[Nat.mul_comm (128^i) 128,<-Nat.mul_assoc,Nat.mul_comm (v/128) 128],<-Nat.add_mul,h]
theorem Lj{v i:Nat}(a:i<=9)(b:v*128^i<18446744073709551616)(h:¬v<128):i<9:=by
 rcases Nat.lt_or_ge i 9 with h1|h1;·exact h1
 .obtain rfl:i=9:=by omega
  omega
theorem DI(rest:List UInt8):∀(n v i u:Nat),v<=n->i<=9->v*128^i<18446744073709551616->(0<i->v≠0)->jE i u (kF v++rest)=(kD (u+v*128^i),i+(kF v).length,0):=by
 intro n
 induction n with
 |zero=>
  intro v i u f c d b;obtain rfl:v=0:=by omega
  have:i=0:=by omega
  subst this;rw[iu (by omega)];simp[jE]
 |succ n k=>
  intro v i u f c d b;by_cases h:v<128
  .rw[iu h];have a:(UInt8.ofNat v).toNat=v:=by rw[UInt8.toNat_ofNat'];omega
   have e:¬(i=9/\1<v):=by rintro⟨rfl,h1⟩;omega
   have j:¬(0<i/\v=0):=fun⟨h1,h2⟩=>b h1 h2;simp only[List.cons_append,List.nil_append,jE,a,if_neg e,if_neg (show¬127<v by omega),if_neg j,List.length_cons,List.length_nil];rw[Nat.mod_eq_of_lt h]
  .have l:=Lj c d h;rw[lB h];have a:(UInt8.ofNat (v%128+128)).toNat=v%128+128:=by rw[UInt8.toNat_ofNat'];omega
   simp only[List.cons_append,jE,a,if_neg (show¬(i=9/\1<v%128+128) by omega),if_pos (show 127<v%128+128 by omega),List.length_cons];have g:=E1 v i;rw[k (v/128) (i+1) _ (by omega) (by omega) (by omega) (by omega),show(v%128+128)%128=v%128 by omega,Nat.add_assoc,g];congr 2;omega
theorem vH{v:Nat}(a:v<18446744073709551616)(rest:List UInt8):eO (kF v++rest)=(kD v,(kF v).length,0):=by have:=DI rest v v 0 0 (Nat.le_refl _) (by omega) (by simpa using a) (by omega);simpa [eO]using this
theorem Hj(l:List UInt8):∀i u,i<=9->u<128^i->((jE i u l).2.2=0/\i<(jE i u l).2.1/\(jE i u l).2.1<=i+l.length/\(jE i u l).2.1<=10/\-9223372036854775808<=(jE i u l).1/\(jE i u l).1<=9223372036854775807)\/((jE i u l).1=0/\(jE i u l).2.1=0/\((jE i u l).2.2=1\/(jE i u l).2.2=2)):=by
 induction l with
 |nil=>intro i u f g;right;simp[jE]
 |cons c r j=>
  intro i u f g;have m:=c.toNat_lt;simp only[jE];split;·right;simp
  next h9=>
   split
   next h127=>
    have h2:u+c.toNat%128*128^i<128^(i+1):=by rw[Nat.pow_succ];have:c.toNat%128*128^i<=127*128^i:=Nat.mul_le_mul_right _ (by omega);omega
    rcases j (i+1) _ (by omega) h2 with⟨a,b,k,d,e⟩|h;·exact .inl ⟨a,by omega,by rw[List.length_cons];omega,d,e⟩
    .exact .inr h
   .split;·right;simp
    .left;refine⟨rfl,Nat.lt_succ_self _,by simp,by simp;omega,?_⟩;refine Gf ?_;by_cases h8:i=9;·subst h8;omega
     .have h3:128^(i+1)<=128^9:=Nat.pow_le_pow_right (by omega) (by omega);have h2:u+c.toNat%128*128^i<128^(i+1):=by rw[Nat.pow_succ];have:c.toNat%128*128^i<=127*128^i:=Nat.mul_le_mul_right _ (by omega);omega
      omega
theorem nD(l:List UInt8):((eO l).2.2=0/\0<(eO l).2.1/\(eO l).2.1<=l.length/\(eO l).2.1<=10/\-9223372036854775808<=(eO l).1/\(eO l).1<=9223372036854775807)\/((eO l).1=0/\(eO l).2.1=0/\((eO l).2.2=1\/(eO l).2.2=2)):=by have:=Hj l 0 0 (by omega) (by omega);simpa [eO]using this
def u'(s:List UInt8):List UInt8:=kF (mG s.length)++s
def fX(l:List UInt8):List UInt8×Nat×Int:=
 if(eO l).2.2≠0 then([],0,(eO l).2.2)
 else if(eO l).1<0\/65536<(eO l).1 then([],0,1)
 else if((l.length-(eO l).2.1:Nat):Int)<(eO l).1 then([],0,2)
 else((l.drop (eO l).2.1).take (eO l).1.toNat,(eO l).2.1+(eO l).1.toNat,0)
theorem Cn{s:List UInt8}(b:s.length<=65536)(rest:List UInt8):fX (u' s++rest)=(s,(u' s).length,0):=by have a:mG s.length<18446744073709551616:=pg (by omega) (by omega);have h:=vH a (s++rest);rw[t6,<-List.append_assoc]at h;unfold fX;rw[show u' s++rest=kF (mG s.length)++s++rest from rfl,h];simp only[ne_eq,not_true_eq_false,if_false,List.length_append];rw[if_neg (by omega),if_neg (by omega)];simp[u',List.append_assoc]
end
section
variable{p:Option Addr} {l:List UInt8} {x:Int} {base:Nat}
theorem uK(w:World)(z:Int)(a:Nat×Nat)(c:UInt8)(h:z=(c.toNat:Int)):j' (w.alloc (.cells #[.int .u8 z] 5 a)) (some ⟨w.heap.size,0,none⟩) 1 1 [c]:=
 j'.lit w 1 _ a [c] rfl (by rw[h];rfl) (by omega)
theorem _root_.Go.RowKit.Below.own1{w a b:World}{o:Obj}{n cap:Nat}(h:Below base w a)(c:base<=a.heap.size)(e:gK a base p n cap l)(g:(a.alloc o).grownBy b (p.map (·.block))):Below base w b:=
 Below.grown (h.alloc c o) g (by simp;omega) (fun k d=>(e.lt k d).1)
theorem wS(h: -9223372036854775808<=x)(a:x<0):bits .xor .u64 18446744073709551615 (IntKind.u64.wrap (IntKind.u64.wrap x*2))=((mG x:Nat):Int):=by have:=Lib.zigzag_neg h a;rw[show IntKind.u64.max=18446744073709551615 from rfl]at this;rw[this];unfold Lib.zigzag mG;rw[if_neg (by omega),if_pos a];congr 2;omega
theorem Ax(a:¬x<0):x*2=((mG x:Nat):Int):=by unfold mG;rw[if_neg a];omega
theorem zX(v:Nat):bits .or .u8 ((v:Int)%256) 128=((UInt8.ofNat (v%128+128)).toNat:Int):=by rw[Lib.u8_or128_any _ (by omega) (by omega),n0];omega
theorem Ab{n cap:Nat}{w:World}(H:gK w base p n cap l)(X:base<=w.heap.size)(Z:n<=1099511627776)(h1: -9223372036854775808<=x)(h2:x<=9223372036854775807):
  Calls Tryz.prog 95 #[.slice p n cap,.int .i64 x] w fun e J=>∃d A,e=.returned (.slice d (n+(kF (mG x)).length) A)/\gK J base d (n+(kF (mG x)).length) A (l++kF (mG x))/\Below base w J:=by
 have aa:IntKind.u64.signed=false:=rfl;have Y:IntKind.u64.max=18446744073709551615:=rfl;have Q:=H.1;have E:=pg h1 h2;have T:=qc E;obtain⟨L,g⟩:∃L,L=l++kF (mG x):=⟨_,rfl⟩;obtain⟨N,k⟩:∃N,N=n+(kF (mG x)).length:=⟨_,rfl⟩;rw[<-g,<-k];have K:=hI g;have C:L.length=N:=by rw[g,k,List.length_append,Q]
 have M:=hI C;have W:N<=1099511627786:=by omega
 clear g C T k;by_cases S:x<0
 all_goals
  have t:=hI S;go_enter Tryz.func95,Tryz.ntmps95;go_wp2;go_loopw [0,5] (fun b u wr=>∃d G y F v,b=.slice d G y/\u=.int .u64 ((v:Nat):Int)/\v<18446744073709551616/\gK wr base d G y F/\F++kF v=L/\Below base w wr) (fun _ u _=>(intOf u).toNat);case atStart=>refine⟨_,_,_,_,mG x,rfl,?_,E,H,K.o.symm,Below.refl _ _⟩;first|rw[wS h1 t.o]|rw[Ax (by have:=t.o;omega)]
  case round=>
   obtain⟨I,h,z,q,v,rfl,rfl,hv,a,m,j⟩:=hrel;have s:=hI m;have R:h+(kF v).length=N:=by rw[<-M.o,<-m,List.length_append,a.1]
   have ab:=j.size;have hp:=ur v;clear m;by_cases o:v<128
   .go_wp2_with (at_builtin;refine jS rfl _ _ 72 rfl base Tryz.underlying72 pz I h z q rfl (a.alloc _) (some ⟨_,0,none⟩) 1 1 [UInt8.ofNat v] rfl (uK _ _ _ _ ?hone) (by omega) (by simp;omega) ?_);case hone=>rw[n0];omega
    intro U O V f i;go_wp2;go_ret;have B:h+1=N:=by rw[<-R,iu o];rfl
    have P:q++[UInt8.ofNat v]=L:=by rw[<-s.o,iu o]
    rw[B,P]at f;refine⟨_,_,by rw[B];rfl,f,?_⟩;exact Below.own1 j (by omega) a i
   .obtain⟨c,D⟩:∃c,c=UInt8.ofNat (v%128+128):=⟨_,rfl⟩;have r:=hI D;clear D;go_wp2_with (at_builtin;refine jS rfl _ _ 72 rfl base Tryz.underlying72 pz I h z q rfl (a.alloc _) (some ⟨_,0,none⟩) 1 1 [c] rfl (uK _ _ _ _ ?hone) (by omega) (by simp;omega) ?_);case hone=>rw[r.o];exact zX v
    intro U O V f i;go_wp2;go_round
    case rel=>
     refine⟨_,_,_,_,v/128,rfl,by go_num,by omega,f,?_,?_⟩;·rw[<-s.o,lB o,List.append_assoc,r.o];rfl
     .exact Below.own1 j (by omega) a i
    case measure=>simp[intOf];omega
end
section
variable{l:List UInt8} {E:Int} {v:Nat}
theorem DJ{k y:Nat}{n:Nat}(b:l.length=n)(a:¬k<n):jE k y (l.drop k)=(0,0,2):=by rw[List.drop_of_length_le (by omega)];rfl
theorem Hi{k y:Nat}{c:UInt8}(a:l[k]? =some c):jE k y (l.drop k)=
  if k=9/\1<c.toNat then(0,0,1)
  else if 127<c.toNat then jE (k+1) (y+c.toNat%128*128^k) (l.drop (k+1))
  else if 0<k/\c.toNat=0 then(0,0,1)
  else(kD (y+c.toNat%128*128^k),k+1,0):=by have d:k<l.length:=(List.getElem?_eq_some_iff.1 a).1;have b:l[k]=c:=(List.getElem?_eq_some_iff.1 a).2;rw[List.drop_eq_getElem_cons d,b,jE]
theorem zY{y z k:Nat}(j:z<256)(h:k<=9)(g:k=9->z<=1)(f:y<128^k):
  bits .or .u64 (y:Int) (IntKind.u64.wrap (IntKind.u64.wrap (bits .and .u8 (z:Int) 127)*2^(7*k)))=((y+z%128*128^k:Nat):Int)/\y+z%128*128^k<18446744073709551616/\(k<9->y+z%128*128^k<128^(k+1)):=by
 have a:(128:Nat)^k=2^(7*k):=by rw[Nat.pow_mul]
 have d:y+z%128*128^k<18446744073709551616:=by
  by_cases c:k=9;·subst c;have:=g rfl;omega
  .have h3:128^k<=128^8:=Nat.pow_le_pow_right (by omega) (by omega);have:z%128*128^k<=127*128^k:=Nat.mul_le_mul_right _ (by omega);omega
 have e:k<9->y+z%128*128^k<128^(k+1):=fun _=>by rw[Nat.pow_succ];have:z%128*128^k<=127*128^k:=Nat.mul_le_mul_right _ (by omega);omega
 refine⟨?_,d,e⟩;have h1:IntKind.u64.wrap (bits .and .u8 (z:Int) 127)=((z%128:Nat):Int):=by rw[u8_and127 _ (by omega) (by omega),IntKind.wrap_u64];omega
 have h2:IntKind.u64.wrap (((z%128:Nat):Int)*2^(7*k))=((z%128*128^k:Nat):Int):=by
  have:((z%128:Nat):Int)*2^(7*k)=((z%128*128^k:Nat):Int):=by rw[a];push_cast;rfl
  rw[this,IntKind.wrap_u64];exact Int.emod_eq_of_lt (by omega) (by omega)
 rw[h1,h2,(bits_nat .u64 64 (by decide) wraps_u64 y (z%128*128^k) (by omega) (by omega)).2];have h3:=Nat.two_pow_add_eq_or_of_lt (i:=7*k) (b:=y) (by rw[<-a];exact f) (z%128);rw[<-a,Nat.mul_comm]at h3;rw[Nat.or_comm,<-h3,Nat.add_comm]
theorem yH(a:E=(v:Int))(b:v<18446744073709551616)(h:(bits .and .u64 E 1==1)=true):bits .xor .i64 (-1) (wrap64 (E/2))=kD v:=by
 subst a;rw[Lib.u64_and1 _ (by omega) (by omega)]at h;have h2:v%2=1:=by have:=beq_iff_eq.1 h;omega
 have e:wrap64 ((v:Int)/2)=((v/2:Nat):Int):=by unfold wrap64;omega
 rw[e,Lib.i64_not _ (by omega)];unfold kD;rw[if_pos h2]
theorem uX(a:E=(v:Int))(b:v<18446744073709551616)(h:(bits .and .u64 E 1==1)=false):wrap64 (E/2)=kD v:=by
 subst a;rw[Lib.u64_and1 _ (by omega) (by omega)]at h;have h2:¬v%2=1:=by have:=beq_eq_false_iff_ne.1 h;omega
 have e:wrap64 ((v:Int)/2)=((v/2:Nat):Int):=by unfold wrap64;omega
 rw[e];unfold kD;rw[if_neg h2]
theorem nF{p:Option Addr}{n cap:Nat}{w:World}(h:j' w p n cap l)(Q:n<=70368744177664):
  Calls Tryz.prog 71 #[.slice p n cap] w fun e M=>e=.returned (.tuple #[.int .i64 (eO l).1,.int .i64 ((eO l).2.1:Int),.int .i64 (eO l).2.2])/\w=M:=by
 have R:IntKind.u64.signed=false:=rfl;have P:IntKind.u64.max=18446744073709551615:=rfl;have H:=hI h;clear h;obtain⟨r,hr⟩:∃r,r=eO l:=⟨_,rfl⟩;rw[<-hr];have G:=hI hr;clear hr;go_enter Tryz.func71,Tryz.ntmps71;go_wp2;go_loop [5,11] (fun u i=>∃k y:Nat,i=.int .i64 (k:Int)/\u=.int .u64 (y:Int)/\k<=n/\k<=9/\Hid (y<128^k)/\Hid (jE k y (l.drop k)=r)) (fun _ i=>n-(intOf i).toNat);case atStart=>exact⟨0,0,rfl,rfl,by omega,by omega,hI (by omega),hI G.o.symm⟩
 case round=>
  obtain⟨k,y,rfl,rfl,O,C,g,j⟩:=hrel;by_cases D:k<n
  .obtain⟨b,S,c,rfl,B,L⟩:=H.o.at k D;have N:=c.toNat_lt;have d:=Hi (y:=y) B;rw[j.o]at d;have f:=hI d;clear B d j;generalize c.toNat=z at*;by_cases K:k=9
   .subst K;by_cases h1:1<z;·have hr:=f.o;rw[if_pos ⟨rfl,h1⟩]at hr;subst hr;go_wp2;go_ret3;exact⟨rfl,rfl⟩
    .have a:=hI (zY (show z<256 by omega) C (fun _=>by omega) g.o);have hr:=f.o;rw[if_neg (by omega),if_neg (by omega)]at hr;by_cases q:z=0;·rw[if_pos ⟨by omega,q⟩]at hr;subst hr;go_wp2;go_ret3;exact⟨rfl,rfl⟩
     .rw[if_neg (by omega)]at hr;subst hr;clear g;have o:=a.o.1;rw[show(2:Int)^(7*9)=9223372036854775808 from by decide,show(128:Nat)^9=9223372036854775808 from by decide]at o;have A:=hI o;have t:=a.o.2.1;rw[show(128:Nat)^9=9223372036854775808 from by decide]at t;clear o;go_wp2;·go_ret3;rw[yH A.o t (by assumption)];exact⟨rfl,rfl⟩
      .go_ret3;rw[uX A.o t (by assumption)];exact⟨rfl,rfl⟩
   .have a:=hI (zY (show z<256 by omega) C (fun _=>by omega) g.o);have hr:=f.o;rw[if_neg (by omega)]at hr;by_cases F:127<z
    .rw[if_pos F]at hr;have I:=hI hr;clear hr f;go_wp2;go_round;case rel=>exact⟨k+1,_,by go_num,by rw[a.o.1],by omega,by omega,hI (a.o.2.2 (by omega)),hI I.o.symm⟩
     case measure=>simp[intOf];omega
    .rw[if_neg F]at hr;by_cases J:k=0
     .rw[if_neg (by omega)]at hr;subst hr;subst J;clear g;rw[Nat.add_zero]at L;have m:=a.o.1;rw[show(2:Int)^(7*0)=1 from rfl,Int.mul_one,Nat.pow_zero,Nat.mul_one]at m;have x:=hI m;have s:=a.o.2.1;rw[Nat.pow_zero,Nat.mul_one]at s;clear m;go_wp2;·go_ret3;rw[yH x.o s (by assumption)];exact⟨rfl,rfl⟩
      .go_ret3;rw[uX x.o s (by assumption)];exact⟨rfl,rfl⟩
     .by_cases q:z=0;·rw[if_pos ⟨by omega,q⟩]at hr;subst hr;go_wp2;go_ret3;exact⟨rfl,rfl⟩
      .rw[if_neg (by omega)]at hr;subst hr;go_wp2;·go_ret3;rw[yH a.o.1 a.o.2.1 (by assumption)];exact⟨rfl,rfl⟩
       .go_ret3;rw[uX a.o.1 a.o.2.1 (by assumption)];exact⟨rfl,rfl⟩
  .go_wp2;go_ret3;have d:=j.o;rw[DJ H.o.len D]at d;subst d;exact⟨rfl,rfl⟩
end
structure jw (kd:IntKind) (w:World) (p:Option Addr) (n cap:Nat) (zs:List Int):Prop where
 len:zs.length=n
 le:n<=cap
 max:cap<=9223372036854775807
 nil:p=none->cap=0
 cells:0<n->∃b o,p=some ⟨b,o,none⟩/\∀i x,zs[i]? =some x->w.cell? ⟨b,o+i,none⟩=some (.int kd x)
 wf:∀x∈zs,(Lit.int kd x).wf=true
theorem jw.at{a:IntKind}{w:World}{p:Option Addr}{n cap:Nat}{zs:List Int}(h:jw a w p n cap zs)(k:Nat)(d:k<n):∃b o x,p=some ⟨b,o,none⟩/\zs[k]? =some x/\w.cell? ⟨b,o+k,none⟩=some (.int a x)/\(Lit.int a x).wf=true:=by
 obtain⟨b,o,e,c⟩:=h.cells (by omega);have f:k<zs.length:=by rw[h.len];exact d
 exact⟨b,o,zs[k],e,by simp,c k _ (by simp),h.wf _ (by simp)⟩
theorem jw.lit(a:IntKind)(e:TypeId)(w:World)(n:Nat)(b:Array Value)(j:Nat×Nat)(zs:List Int)(d:zs.length=n)(c:b.toList=zs.map (Value.int a))(k:n<=140737488355328)(f:∀x∈zs,(Lit.int a x).wf=true):
  jw a (w.alloc (.cells b e j)) (some ⟨w.heap.size,0,none⟩) n n zs:=
 ⟨d,Nat.le_refl _,by omega,(fun h=>by cases h),fun _=>⟨w.heap.size,0,rfl,fun i x g=>by
  rw[World.cell?_alloc_mark,Nat.zero_add,<-Array.getElem?_toList,c,List.getElem?_map,g]
  rfl⟩,f⟩
section
variable{L:List (List Value)} {p:Option Addr} {K cap:Nat}
open Go Go.RowKit Go.ChangeShapes Go.WideShapes Go.Deep
structure SlS (K:Nat) (w:World) (p:Option Addr) (n cap:Nat) (L:List (List Value)):Prop where
 len:L.length=n
 le:n<=cap
 max:cap<=9223372036854775807
 nil:p=none->cap=0
 wid:∀x∈L,x.length=K
 cells:0<n->∃b o,p=some ⟨b,o,none⟩/\∀(i:Nat) (x:List Value),L[i]? =some x->∀(j:Nat) (v:Value),x[j]? =some v->w.cell? ⟨b,o+(i*K+j),none⟩=some v
theorem SlS.ext{w a:World}{n:Nat}(h:SlS K w p n cap L)(c:db w a):SlS K a p n cap L:=
 ⟨h.len,h.le,h.max,h.nil,h.wid,fun e=>by
  obtain⟨b,o,f,d⟩:=h.cells e
  exact⟨b,o,f,fun i x k j v g=>db.cell c (d i x k j v g)⟩⟩
theorem SlS.empty(K:Nat)(w:World):SlS K w none 0 0 []:=⟨rfl,Nat.le_refl _,by decide,fun _=>rfl,(fun x a=>by cases a),fun h=>absurd h (Nat.lt_irrefl _)⟩
theorem SlS.take{w:World}{n:Nat}(h:SlS K w p n cap L)(k:Nat)(e:k<=n):SlS K w p k cap (L.take k):=
 ⟨by rw[List.length_take,h.len];omega,by have:=h.le;omega,h.max,h.nil,(fun x a=>h.wid x (List.mem_of_mem_take a)),fun f=>by
  obtain⟨b,o,d,c⟩:=h.cells (by omega);refine⟨b,o,d,fun i x a=>c i x ?_⟩;rw[List.getElem?_take]at a;split at a;·exact a
  .cases a⟩
def gI(K:Nat)(p:Option Addr)(cap k:Nat):Option Addr:=if cap=k then p else p.map (·.add (k*K))
theorem SlS.drop{K:Nat}{w:World}{p:Option Addr}{n cap:Nat}{L:List (List Value)}(h:SlS K w p n cap L)(k:Nat)(g:k<=n):SlS K w (gI K p cap k) (n-k) (cap-k) (L.drop k):=
 ⟨by rw[List.length_drop,h.len],by have:=h.le;omega,by have:=h.max;omega,(fun c=>by
  unfold gI at c;split at c;·omega
  .cases p with
   |none=>have:=h.nil rfl;omega
   |some a=>simp at c),(fun x d=>h.wid x (List.mem_of_mem_drop d)),fun l=>by
  obtain⟨b,o,c,e⟩:=h.cells (by omega);refine⟨b,o+k*K,?_,fun i x d j v f=>?_⟩;·have:=h.le;unfold gI;rw[if_neg (by omega),c];simp[Addr.add_lit]
  .rw[List.getElem?_drop]at d;have:=e (k+i) x d j v f;rw[show o+k*K+(i*K+j)=o+((k+i)*K+j) by rw[Nat.add_mul];omega]
   exact this⟩
theorem SlS.at{w:World}{n:Nat}(h:SlS K w p n cap L)(k:Nat)(c:k<n):∃b o x,p=some ⟨b,o,none⟩/\L[k]? =some x/\x.length=K/\∀(j:Nat) (v:Value),x[j]? =some v->w.cell? ⟨b,o+k*K+j,none⟩=some v:=by
 obtain⟨b,o,d,a⟩:=h.cells (by omega);have f:k<L.length:=by rw[h.len];exact c
 exact⟨b,o,L[k],d,by simp,h.wid _ (by simp),fun j v e=>by rw[Nat.add_assoc];exact a k _ (by simp) j v e⟩
section
variable{H:Type} {N:TypeId×Value->H} {P:Program} {w:World} {base:Nat} {u:Nat->Bool} {G:Bool}
theorem yw{t e:TypeId}{c:Array Field}{fuel:Nat}{p:Option Addr}{n cap:Nat}{x:DataW H×List MemPlace}(ht:P.underlying t=some (.slice e))(O:P.underlying e=some (.struct c))
  (Y:oneCellFields P c=true)(I:P.cellsOf e=c.size)(ab:0<c.size)(h:DataW.trod N P w base u G fuel t [.slice p n cap]=some x):
  ∃L,SlS c.size w p n cap L/\∀r∈L,∀(j:Nat) (f:Field),c[j]? =some f->∃(v:Value) (y:DataW H×List MemPlace) (m:Nat),r[j]? =some v/\DataW.trod N P w base u G m f.type [v]=some y:=by
 rcases open_slice ht h with⟨q,-⟩|⟨a,ak,af,m,fl,D,Pl,C,hb,T,U,V,k,Q⟩;·simp at q;obtain⟨rfl,rfl,rfl⟩:=q;exact⟨[],SlS.empty _ _,fun r hr=>by cases hr⟩
 .simp at C;obtain⟨rfl,rfl,rfl⟩:=C;have ah:n<=m:=by rw[V];split<;>omega
  have R:∀i,i<n->∃d:List Value,d.length=c.size/\(∀j,j<c.size->w.cell? (a.add (i*c.size+j))=d[j]?)/\∀(j:Nat) (f:Field),c[j]? =some f->∃(v:Value) (y:DataW H×List MemPlace) (m:Nat),d[j]? =some v/\DataW.trod N P w base u G m f.type [v]=some y:=by
   intro i s;obtain⟨d,B,ad⟩:=Q i (by omega);rw[I]at B;obtain⟨F,n',ai,hy,A,aj,l⟩:=DataW.trod_struct O ad;obtain⟨_,M,J⟩:=World.cells?_some B;refine⟨d,M,fun j g=>by rw[<-Go.Deep.add_add];exact J j g,fun j f g=>?_⟩;obtain⟨X,S⟩:=hone_of Y j f g;have ag:j<c.size:=(Array.getElem?_eq_some_iff.1 g).1;have h1:=l j f g;rw[X,S]at h1;have Z:(d.drop j).take 1=[d[j]'(by omega)]:=by rw[List.drop_eq_getElem_cons (by omega)];rfl
   rw[Z]at h1;have ae:F[j]? =some (F[j]'(by omega)):=List.getElem?_eq_getElem (by omega);exact⟨_,_,_,List.getElem?_eq_getElem (by omega),h1.trans ae⟩
  obtain⟨f,l⟩:=choose_lt R;have A:((List.range n).map f).length=n:=by simp
  refine⟨(List.range n).map f,⟨A,T,by unfold maxLen at U;omega,(fun hp=>by cases hp),?_,fun W=>?_⟩,fun r hr=>?_⟩;·intro x k;obtain⟨i,z,rfl⟩:=List.mem_map.1 k;exact(l i (List.mem_range.1 z)).1
  .obtain⟨b,o,sp⟩:=a;obtain⟨h1,h2,-⟩:=l 0 W;have q:=h2 0 ab;rw[List.getElem?_eq_getElem (by omega)]at q;have ac:sp=none:=by simpa [Addr.add]using World.cell?_spot q
   subst ac;refine⟨b,o,rfl,fun i x k j v E=>?_⟩;have s:i<n:=by have:=(List.getElem?_eq_some_iff.1 k).1;rw[A]at this;exact this
   rw[List.getElem?_map,List.getElem?_range s]at k;simp at k;subst k;obtain⟨k1,k2,-⟩:=l i s;have g:j<c.size:=by rw[<-k1];exact(List.getElem?_eq_some_iff.1 E).1
   have:=k2 j g;rw[Addr.add_lit,E]at this;exact this
  .obtain⟨i,z,rfl⟩:=List.mem_map.1 hr;exact(l i (List.mem_range.1 z)).2.2
end
theorem ro{α:Type}{E:α->List Value}{ok:α->Prop}:∀(L:List (List Value)),(∀r∈L,∃a,r=E a/\ok a)->∃c:List α,L=c.map E/\∀a∈c,ok a
 |[],_=>⟨[],rfl,fun a h=>by cases h⟩
 |r::L,h=>by
  obtain⟨a,rfl,e⟩:=h r (by simp);obtain⟨c,rfl,f⟩:=ro L (fun r hr=>h r (by simp[hr]))
  exact⟨a::c,rfl,fun b d=>by
   rcases List.mem_cons.1 d with rfl|d;·exact e
   .exact f b d⟩
end
section
variable{L:List (List Value)} {E:TypeId} {p:Option Addr} {K base cap n:Nat} {w:World} {P:Program}
open Go Go.RowKit Go.Deep
def fY(E:TypeId)(K:Nat)(w:World)(base:Nat)(p:Option Addr)(n cap:Nat)(L:List (List Value)):Prop:=
 L.length=n/\(∀x∈L,x.length=K)/\w.ownsRow base E K (.slice p n cap) n L.flatten
theorem ee{K:Nat}:∀(L:List (List Value)),(∀x∈L,x.length=K)->L.flatten.length=L.length*K
 |[],_=>by simp
 |x::L,h=>by
  rw[List.flatten_cons,List.length_append,ee L (fun y a=>h y (by simp[a])),h x (by simp),List.length_cons,Nat.add_mul];omega
theorem jD{K:Nat}:∀(L:List (List Value)),(∀x∈L,x.length=K)->∀(i:Nat) (x:List Value),L[i]? =some x->∀(j:Nat) (v:Value),x[j]? =some v->L.flatten[i*K+j]? =some v
 |[],_,i,x,a=>by simp at a
 |y::L,h,0,x,a=>by
  intro j v b;simp at a;subst a;have e:j<y.length:=(List.getElem?_eq_some_iff.1 b).1;rw[List.flatten_cons,List.getElem?_append_left (by omega)];simpa using b
 |y::L,h,i+1,x,a=>by
  intro j v b;have c:=h y (by simp);rw[List.flatten_cons,List.getElem?_append_right (by rw[c,Nat.add_mul];omega),c];have:=jD L (fun z d=>h z (by simp[d])) i x (by simpa using a) j v b;rw[show(i+1)*K+j-K=i*K+j by rw[Nat.add_mul];omega];exact this
theorem fY.nil(E:TypeId)(K:Nat)(w:World)(base:Nat):fY E K w base none 0 0 []:=⟨rfl,(fun x a=>by cases a),World.ownsRow_nil _ _ _ _⟩
theorem fY.sl(h:fY E K w base p n cap L):SlS K w p n cap L:=by
 obtain⟨f,d,h1,h2⟩:=h;rcases h2 with⟨a,b⟩|⟨g,c,l,a,m,o,b,k,q,r⟩;·cases a;exact⟨f,Nat.le_refl _,by decide,(fun _=>rfl),d,fun h=>absurd h (by omega)⟩
 .cases a;refine⟨f,b,by unfold maxLen at k;omega,(fun h=>by cases h),d,fun _=>⟨g,0,rfl,fun i x s j v a=>?_⟩⟩;have:=World.ownsRow.cells (w:=w) (base:=base) (e:=E) (size:=K) (v:=.slice (some ⟨g,0,none⟩) n cap) (n:=n) (xs:=L.flatten) ⟨h1,Or.inr ⟨g,cap,l,rfl,m,o,b,k,q,r⟩⟩ (g:=g) rfl (i*K+j) v (jD L d i x s j v a);rw[Addr.add_lit]at this;simpa using this
theorem fY.lt{E:TypeId}{K:Nat}{w:World}{base:Nat}{p:Option Addr}{n cap:Nat}{L:List (List Value)}(h:fY E K w base p n cap L):∀k,p.map (·.block)=some k->base<=k/\k<w.heap.size:=by
 intro k b
 cases p with
 |none=>simp at b
 |some a=>exact World.ownsRow.lt h.2.2 k (by simpa [Value.ownBlock]using b)
theorem fY.kept{E:TypeId}{K:Nat}{w a:World}{base:Nat}{p:Option Addr}{n cap:Nat}{L:List (List Value)}{row:Option Nat}(h:fY E K w base p n cap L)(b:w.grownBy a row)(c:∀k,row=some k->p.map (·.block)≠some k):fY E K a base p n cap L:=
 ⟨h.1,h.2.1,h.2.2.kept b (by
  rw[ea]
  cases row with
  |none=>cases p<;>simp
  |some k=>exact Or.inr (c k rfl))⟩
theorem fY.ext{c:World}(h:fY E K w base p n cap L)(a:db w c):fY E K c base p n cap L:=
 h.kept (row:=none) ⟨a.os,a.tape,a.output,a.size,fun k b _=>a.block k b⟩ (fun k b=>by cases b)
theorem fY.mono{a:Nat}(h:fY E K w base p n cap L)(f:a<=base):fY E K w a p n cap L:=by
 refine⟨h.1,h.2.1,h.2.2.1,?_⟩;rcases h.2.2.2 with d|⟨g,c,b,e,i,r⟩;·exact .inl d
 .exact .inr ⟨g,c,b,e,by omega,r⟩
theorem fY.app{d:World}{c:Option Addr}{b:Nat}{r:List Value}(h:fY E K w base p n cap L)(hr:r.length=K)(e:d.ownsRow base E K (.slice c (n+1) b) (n+1) (L.flatten++r)):fY E K d base c (n+1) b (L++[r]):=
 ⟨by simp[h.1],(fun x a=>by
  rcases List.mem_append.1 a with a|a;·exact h.2.1 x a
  .simp at a;subst a;exact hr),by simpa using e⟩
theorem fY.app_all{d:World}{c:Option Addr}{m b:Nat}{M:List (List Value)}(h:fY E K w base p n cap L)(e:M.length=m)(hr:∀x∈M,x.length=K)(f:d.ownsRow base E K (.slice c (n+m) b) (n+m) (L.flatten++M.flatten)):fY E K d base c (n+m) b (L++M):=
 ⟨by simp[h.1,e],(fun x a=>by
  rcases List.mem_append.1 a with a|a;·exact h.2.1 x a
  .exact hr x a),by simpa using f⟩
theorem fY.made(w:World)(base n:Nat)(a:Array Value)(L:List (List Value))(f:base<=w.heap.size)(b:L.length=n)(c:∀x∈L,x.length=K)(d:a.toList=L.flatten)(g:n<=140737488355328):
  fY E K (w.alloc (.cells a E)) base (some ⟨w.heap.size,0,none⟩) n n L:=by
 have e:a.size=n*K:=by rw[<-Array.length_toList,d,ee L c,b]
 refine⟨b,c,by rw[ee L c,b],.inr ⟨w.heap.size,n,a,rfl,f,heap_alloc_new w _,Nat.le_refl _,by unfold maxLen;omega,e,?_⟩⟩;rw[<-e,<-Array.length_toList,List.take_length,d]
theorem SlS.lit(w:World)(n:Nat)(a:Array Value)(g:Nat×Nat)(L:List (List Value))(d:L.length=n)(b:∀x∈L,x.length=K)(c:a.toList=L.flatten)(k:n<=140737488355328):
  SlS K (w.alloc (.cells a E g)) (some ⟨w.heap.size,0,none⟩) n n L:=
 ⟨d,Nat.le_refl _,by omega,(fun h=>by cases h),b,fun _=>⟨w.heap.size,0,rfl,fun i x f j v e=>by
  rw[World.cell?_alloc_mark,Nat.zero_add,<-Array.getElem?_toList,c]
  exact jD L b i x f j v e⟩⟩
theorem pH(K:Nat)(t e:TypeId)(b:P.underlying t=some (.slice e))(c:∀w,(sizeOf e).run P w=.ok K w)(p:Option Addr)(n cap:Nat)(k:Nat)(d:k<=cap)(w:World):
  (Instr.slice t (.slice p n cap) none (some (.int .i64 (k:Int))) none).run P w=.ok (.slice p k cap) w:=by
 have a:P.elem t=e:=by simp[Program.elem,b]
 have h:=run_slice_h (P:=P) w t p n cap (by rw[a];exact b) .i64 (k:Int) (by omega) (by omega);rw[h,a,c];simp only[Result.andThen_ok,sliced,Int.toNat_natCast,Nat.sub_zero,Nat.zero_mul];congr 2;split;·rfl
 .cases p<;>simp[Addr.add]
theorem sS(K:Nat)(t e:TypeId)(b:P.underlying t=some (.slice e))(c:∀w,(sizeOf e).run P w=.ok K w)(p:Option Addr)(n cap:Nat)(k:Nat)(d:k<=n)(w:World):
  (Instr.slice t (.slice p n cap) (some (.int .i64 (k:Int))) none none).run P w=.ok (.slice (gI K p cap k) (n-k) (cap-k)) w:=by
 have a:P.elem t=e:=by simp[Program.elem,b]
 have h:=run_slice_l (P:=P) w t p n cap (by rw[a];exact b) .i64 (k:Int) (by omega) (by omega);rw[h,a,c];simp only[Result.andThen_ok,sliced,Int.toNat_natCast,gI]
theorem db.ownS{a b:World}{row:Option Nat}(h:db a w)(e:fY E K w a.heap.size p n cap L)(c:w.grownBy b row)(hr:row=p.map (·.block)):db a b:=
 Below.grown h c h.size (fun k d=>(e.lt k (by rw[<-hr];exact d)).1)
theorem io{P:Program}{E:TypeId}{K:Nat}{w:World}{ops:Array Oper}{rest:List Oper}{o:Oper}{a:Act}{Q:Exit->Act->World->Prop}(J:o.guard=none)(s x:Operand)(t:TypeId)
  (T:o.op=.call {callee:=.builtin .append,args:=#[s,x],argTypes:=#[t,t]})
  (base:Nat)(W:P.underlying t=some (.slice E))(y:TypeInfo)(z:Value)(D:Nat)(N:P.info? E=some y)(ak:y.zero=some z)(al:y.size=K)(am:y.bytes=D)(an:z.cells.size=K)(G:0<K)
  (p:Option Addr)(n cap:Nat)(L:List (List Value))(V:a.eval s=.slice p n cap)(A:fY E K w base p n cap L)
  (q:Option Addr)(m c:Nat)(M:List (List Value))(X:a.eval x=.slice q m c)(d:SlS K w q m c M)(ah:∀r∈M,∀u∈r,u.oneCell'=true)
  (ac:(n+m)*D<=140737488355328)(ar:n+m<=140737488355328)(ab:base<=w.heap.size)
  (h:∀k i f,fY E K f base k (n+m) i (L++M)->w.grownBy f (p.map (·.block))->wpList P ops Q rest (a.put o.dst (.slice k (n+m) i)) f):wpList P ops Q (o::rest) a w:=by
 have ao:∀(B:Value) (f:World),f.ownsRow base E K B (n+m) (L.flatten++M.flatten)->∃k i,B=.slice k (n+m) i/\fY E K f base k (n+m) i (L++M):=by
  intro B f C;have U:=C;rcases C.2 with⟨l,S⟩|⟨g,c',ap,l,r⟩;·subst l;exact⟨none,0,by rw[S],fY.app_all A d.len d.wid (by rw[S]at*;exact U)⟩
  .subst l;exact⟨_,_,rfl,fY.app_all A d.len d.wid U⟩
 cases q with
 |none=>
  have ad:=d.nil rfl;have aq:=d.le;have hm:m=0:=by omega
  subst ad;subst hm;have hk:M=[]:=List.eq_nil_of_length_eq_zero d.len;subst hk;refine wpList_plain J fun KK Z=>?_;have ai:=run_append_owned_none (P:=P) w base t o.type E y K W N _ n L.flatten A.2.2;unfold Oper.wp;simp[execOp,T,resolve,invoke,builtin,V,X,ai,Result.andThen];exact Z _ _ (by simpa using h p cap w (by simpa using A) (World.grownBy.refl _ _))
 |some Y=>
  refine wpList_append_own w J s x t T base E y z K D W N ak al am an G _ n L.flatten V A.2.2 Y m c M.flatten X (by rw[ee M d.wid,d.len]) ?_ ?_ (by unfold maxLen;omega) ac ab ?_
  .intro j u O;have H:j<M.flatten.length:=(List.getElem?_eq_some_iff.1 O).1;rw[ee M d.wid,d.len]at H
   have af:0<m:=by
    rcases Nat.eq_zero_or_pos m with F|F;·rw[F]at H;omega
    .exact F
   obtain⟨b,o',hp,hh⟩:=d.cells af;cases hp;rw[Addr.add_lit];have ae:j/K<m:=(Nat.div_lt_iff_lt_mul G).2 H;have ag:j%K<K:=Nat.mod_lt _ G;have R:j/K*K+j%K=j:=by rw[Nat.mul_comm];exact Nat.div_add_mod j K
   obtain⟨r,hr⟩:∃r,M[j/K]? =some r:=⟨M[j/K]'(by rw[d.len];exact ae),by simp⟩;obtain⟨v,l⟩:∃v,r[j%K]? =some v:=⟨r[j%K]'(by rw[d.wid r (List.mem_of_getElem? hr)];exact ag),by simp⟩;have e:=jD M d.wid _ _ hr _ _ l;rw[R,O]at e;cases e;have:=hh _ _ hr _ _ l;rwa[R]at this
  .intro u hu;obtain⟨r,hr,aj⟩:=List.mem_flatten.1 hu;exact ah r hr u aj
  .intro B f C I _;obtain⟨k,i,rfl,hO⟩:=ao B f C;rw[ea]at I;exact h k i f hO I
end
section
variable{o:Oper}
def ff(o:Oper):Bool:=rZ o||match o.op with
 | .nilCheck _=>true
 |_=>false
theorem mT{P:Program}{β:Type}(s:Sem β)(f:β->Sem Next)(h:∀b w,(∃v a,(f b).run P w=.ok (.value v) a)\/∃x a,(f b).run P w=.halt x a)(w:World):(∃v a,(s>>=f).run P w=.ok (.value v) a)\/∃x a,(s>>=f).run P w=.halt x a:=by
 rw[Sem.run_bind]
 cases s.run P w with
 |ok v a=>exact h v a
 |halt x a=>exact .inr ⟨x,a,rfl⟩
theorem Io{P:Program}{x:Operand}(c:o.op=.nilCheck x)(ρ:Operand->Value)(w:World):(∃v a,(execOp ρ o).run P w=.ok (.value v) a)\/∃h a,(execOp ρ o).run P w=.halt h a:=by
 unfold execOp;rw[c];simp only[];split;·exact .inr ⟨_,_,rfl⟩
 .exact .inr ⟨_,_,rfl⟩
 .exact .inr ⟨_,_,rfl⟩
 .split;·exact .inr ⟨_,_,rfl⟩
  .refine mT _ _ (fun b w=>?_) w;refine mT _ _ (fun b w=>?_) w;split;·refine mT _ _ (fun b w=>?_) w;exact .inl ⟨_,_,rfl⟩
   .exact .inl ⟨_,_,rfl⟩
  .exact .inl ⟨_,_,rfl⟩
 .exact .inl ⟨_,_,rfl⟩
theorem iA{P:Program}(b:ff o=true){a:Act}{C:World->Prop}{w:World}{v:Value}(h:o.quietAt P a C w v):(execOp a.eval o).run P w=.ok (.value v) w:=by
 unfold ff at b;rw[Bool.or_eq_true]at b;rcases b with b|b;·exact pJ b h
 .cases c:o.op<;>rw[c]at b<;>simp at b;rename_i x;unfold Oper.quietAt at h;rcases Io (P:=P) c a.eval w with⟨u,d,e⟩|⟨y,d,e⟩;·rw[e]at h;obtain⟨rfl,rfl⟩:=h;exact e
  .rw[e]at h;exact h.elim
section
variable{P:Program} {ops:Array Oper} {md:Region.Mode} {Q:Exit->Act->World->Prop} {S:World->Prop} {D:Nat->Bool}
def kG(md:Region.Mode)(ops:Array Oper)(a:Array Bool):Prop:=∀(j:Nat) (b:Oper),ops[j]? =some b->a.getD j false=true->∀e∈b.after,Region.binds md e=true->a.getD e.on false=true
def mM(md:Region.Mode)(ops:Array Oper):Nat->Nat->Nat->Bool
 |0,_,_=>false
 |n+1,j,i=>match ops[j]? with
  |none=>false
  |some o=>o.after.any fun e=>Region.binds md e&&(e.on==i||mM md ops n e.on i)
theorem nS{b:Array Bool}(c:kG md ops b){i:Nat}:∀(n j:Nat),b.getD j false=true->mM md ops n j i=true->b.getD i false=true
 |0,j,_,h=>by simp[mM]at h
 |n+1,j,f,h=>by
  rw[mM]at h
  cases a:ops[j]? with
  |none=>rw[a]at h;cases h
  |some o=>
   rw[a]at h;simp only[Array.any_eq_true']at h;obtain⟨e,d,h⟩:=h;rw[Bool.and_eq_true,Bool.or_eq_true]at h;have h1:=c j o a f e d h.1;rcases h.2 with h2|h2;·rw[<-eq_of_beq h2];exact h1
   .exact nS c n e.on h1 h2
theorem nC{b:Array Bool}{i:Nat}(h:b.getD i true=false):b.getD i false=false:=by
 rcases Nat.lt_or_ge i b.size with a|a;·simp[a]at h⊢;exact h
 .simp[Array.getElem?_eq_none a]at h
def iP(P:Program)(md:Region.Mode)(ops:Array Oper)(Q:Exit->Act->World->Prop)(S:World->Prop)(D:Nat->Bool):Nat->Array Bool->Act->World->Prop
 |0,b,a,w=>Region.ready md ops b=[]/\Q .normal a w
 |fuel+1,b,a,w=>
  (Region.ready md ops b=[]->Q .normal a w)/\
  ∀i∈Region.ready md ops b,wpOp P ops Q i (fun d c=>(D i=false->S c)/\iP P md ops Q S D fuel (b.setIfInBounds i true) d c) a w
theorem sA:∀(fuel:Nat) (b:Array Bool) (a:Act) (w:World),iP P md ops Q S D fuel b a w->wpAny P md ops Q fuel b a w
 |0,_,_,_,h=>h
 |fuel+1,_,_,_,h=>⟨h.1,fun i e=>wpOp_mono (fun c f d=>sA fuel _ c f d.2) (h.2 i e)⟩
theorem mU{a:Array Bool}(p:kG md ops a){j:Nat}(q:j∈Region.ready md ops a):kG md ops (a.setIfInBounds j true):=by
 intro k ok g c e f d;obtain⟨r,s,l,n⟩:=mem_ready.1 q
 have up:∀m,a.getD m false=true->(a.setIfInBounds j true).getD m false=true:=by
  intro m b;by_cases i:m=j;·subst i;rw[nC r]at b;cases b
  .simp only[Array.getD_eq_getD_getElem?]at b⊢;rw[Array.getElem?_setIfInBounds_ne (Ne.symm i)];exact b
 by_cases h:k=j;·subst h;rw[g]at l;cases l;exact up _ (n e f d)
 .refine up _ (p k ok g ?_ e f d);simp only[Array.getD_eq_getD_getElem?]at c⊢;rw[Array.getElem?_setIfInBounds_ne (Ne.symm h)]at c;exact c
theorem u5{i:Nat}{g:Oper}{v:Value}{n:Nat}(x:ops[i]? =some g)(G:∀(j:Nat) (o:Oper) m b,ops[j]? =some o->o.op≠.select m b)
  (K:∀c a w,Q (.panic c) (a.put g.dst v) w->Q (.panic c) a w)(Z:D i=false)(W:∀j,D j=true->j<ops.size->mM md ops n j i=true):
  ∀(fuel:Nat) (d:Array Bool) (a:Act) (w:World),kG md ops d->
   (∀j l,ops[j]? =some l->j≠i->d.getD j true=false->(∀e∈l.after,Region.binds md e=true->e.on≠i)->g.apart ops l=true)->
   i∈Region.ready md ops d->YieldsIf P ops S g v a->S w->
   iP P md ops Q S D fuel (d.setIfInBounds i true) (a.put g.dst v) w->iP P md ops Q S D (fuel+1) d a w:=by
 intro fuel
 induction fuel with
 |zero=>
  intro d a w _ _ hr u p H;refine⟨fun h=>(by rw[h]at hr;cases hr),fun j q=>?_⟩;by_cases f:j=i;·subst f;exact u.wpOp x p ⟨fun _=>p,H⟩
  .have:=ready_mono q f;rw[H.1]at this;cases this
 |succ fuel X=>
  intro d a w z A hr u p H;refine⟨fun h=>(by rw[h]at hr;cases hr),fun j q=>?_⟩;by_cases f:j=i;·subst f;exact u.wpOp x p ⟨fun _=>p,H⟩
  .have h1:=H.2 j (ready_mono q f);obtain⟨E,l,r,y⟩:=mem_ready.1 q;have B:=nC (mem_ready.1 hr).1;have F:∀e∈l.after,Region.binds md e=true->e.on≠i:=fun e s L M=>by have h1:=y e s L;rw[M,B]at h1;cases h1
   have V:D j=false:=by
    cases U:D j;·rfl
    .exfalso;have t:=W j U (Array.getElem?_eq_some_iff.1 r).1;cases n with
     |zero=>simp[mM]at t
     |succ n=>
      rw[mM,r]at t;simp only[Array.any_eq_true']at t;obtain⟨e,s,h⟩:=t;rw[Bool.and_eq_true,Bool.or_eq_true]at h;have h3:=y e s h.1;rcases h.2 with h4|h4;·exact F e s h.1 (eq_of_beq h4)
      .have:=nS z n e.on h3 h4;rw[B]at this;cases this
   have h2:=wpOp_putIf r (A j l r f E F) (fun m b=>G i g m b x) (fun m b=>G j l m b r) K u h1
   have N:∀k ok,ops[k]? =some ok->k≠i->(d.setIfInBounds j true).getD k true=false->
     (∀e∈ok.after,Region.binds md e=true->e.on≠i)->g.apart ops ok=true:=fun k ok O R I T=>by
    refine A k ok O R ?_ T
    by_cases C:j=k
    .subst C;exact E
    .rw[getD_set_ne true C]at I;exact I
   refine wpOp_mono (fun J Y h3=>⟨h3.2.1,X (d.setIfInBounds j true) J Y (mU z q) N (ready_mono hr (Ne.symm f)) h3.1 (h3.2.1 V) ?_⟩) h2;rw[Array.setIfInBounds_comm _ _ f];exact h3.2.2
theorem pN{i:Nat}{d:Oper}{v:Value}{n fuel:Nat}{b:Array Bool}{a:Act}{w:World}(e:ops[i]? =some d)
  (m:Region.noSelect ops=true)(l:Region.free md ops b i=true)(hr:(Region.ready md ops b).contains i=true)
  (f:∀c a w,Q (.panic c) (a.put d.dst v) w->Q (.panic c) a w)(p:D i=false)(q:∀j,D j=true->j<ops.size->mM md ops n j i=true)(k:kG md ops b)(r:YieldsIf P ops S d v a)(g:S w)
  (h:iP P md ops Q S D fuel (b.setIfInBounds i true) (a.put d.dst v) w):iP P md ops Q S D (fuel+1) b a w:=
 u5 e (Region.noSelect_spec m) f p q fuel b a w k (Region.free_spec e l) (by simpa using hr) r g h
theorem sz{c:List Nat}{fuel:Nat}{b:Array Bool}{a:Act}{w:World}(hr:Region.ready md ops b=c)(g:c≠[])
  (h:∀i∈c,wpOp P ops Q i (fun e d=>(D i=false->S d)/\iP P md ops Q S D fuel (b.setIfInBounds i true) e d) a w):iP P md ops Q S D (fuel+1) b a w:=
 ⟨fun f=>absurd (hr ▸ f) g,hr ▸ h⟩
theorem wP{b:Array Bool}{a:Act}{w:World}(hr:Region.ready md ops b=[])(h:Q .normal a w):∀fuel,iP P md ops Q S D fuel b a w
 |0=>⟨hr,h⟩
 |_+1=>⟨fun _=>h,by rw[hr];simp⟩
def rU(md:Region.Mode)(ops:Array Oper):List Nat->Array Bool->Bool
 |[],a=>(Region.ready md ops a).isEmpty
 |i::r,a=>Region.ready md ops a==[i]&&rU md ops r (a.setIfInBounds i true)
def rT(md:Region.Mode)(ops:Array Oper)(n:Nat)(b:List Nat):List Nat->Array Bool->Bool
 |[],a=>rU md ops b a
 |i::r,a=>
  (match ops[i]? with
  |none=>false
  |some o=>if ff o then(Region.ready md ops a).contains i&&Region.free md ops a i&&b.all (fun j=>mM md ops n j i)else Region.ready md ops a==[i])&& !b.contains i&&rT md ops n b r (a.setIfInBounds i true)
def RT(P:Program)(b:List Oper)(Q:Exit->Act->World->Prop):List Nat->Act->World->Prop
 |[],a,w=>Q .normal a w
 |i::r,a,w=>∃o,b[i]? =some o/\if Region.wanted o (yielded b.toArray a.tmps)then o.wp P a w (fun c d=>RT P b Q r c d) Q else RT P b Q r (a.put o.dst undef) w
def RA(P:Program)(b:List Oper)(Q:Exit->Act->World->Prop)(c:List Nat):List Nat->Act->World->Prop
 |[],a,w=>RT P b Q c a w
 |i::r,a,w=>∃o,b[i]? =some o/\
  if Region.wanted o (yielded b.toArray a.tmps)then
   if ff o then o.quiet P a (fun d=>∃p:Regrown,d=grow (redrawn w p.d) p.os) (fun e=>RA P b Q c r e w)
   else o.wp P a w (fun e d=>db w d/\RA P b Q c r e d) Q
  else RA P b Q c r (a.put o.dst undef) w
theorem RT.any{c:List Oper}{m:List Nat}:∀(l:List Nat) (d:Array Bool) (a:Act) (w:World),(∀i∈l,i∈m)->rU md c.toArray l d=true->RT P c Q l a w->iP P md c.toArray Q S (fun i=>m.contains i) l.length d a w
 |[],d,a,w,_,b,h=>wP (by simpa [rU]using b) h _
 |i::r,d,a,w,g,b,h=>by
  obtain⟨o,s,h⟩:=h;have q:c.toArray[i]? =some o:=by simpa using s
  simp only[rU,Bool.and_eq_true]at b;have hr:Region.ready md c.toArray d=[i]:=by simpa using b.1
  refine sz hr (by simp) (fun j p=>?_);obtain rfl:j=i:=by simpa using p
  have n:m.contains j=true:=by simpa using g j (by simp)
  unfold wpOp;simp only[q];by_cases e:Region.wanted o (yielded c.toArray a.tmps)=true;·rw[if_pos e]at h;rw[if_pos e];exact .inl (Oper.wp_mono (fun u t h1=>⟨(fun h2=>absurd (n.symm.trans h2) (by decide)),RT.any r _ _ t (fun k f=>g k (by simp[f])) b.2 h1⟩) h)
  .rw[if_neg e]at h;rw[if_neg e];exact⟨(fun h2=>absurd (n.symm.trans h2) (by decide)),RT.any r _ _ w (fun k f=>g k (by simp[f])) b.2 h⟩
theorem lq{b:World->Prop}(c:∀w,b w->S w):∀(fuel:Nat) (d:Array Bool) (a:Act) (w:World),iP P md ops Q b D fuel d a w->iP P md ops Q S D fuel d a w
 |0,_,_,_,h=>h
 |fuel+1,_,_,_,h=>⟨h.1,fun i e=>wpOp_mono (fun a1 g h1=>⟨fun f=>c _ (h1.1 f),lq c fuel _ a1 g h1.2⟩) (h.2 i e)⟩
theorem RA.any{b:List Oper}{n:Nat}{g:List Nat}(m:Region.noSelect b.toArray=true)(k:∀c (a:Act) d v w,Q (.panic c) (a.put d v) w->Q (.panic c) a w):
  ∀(l:List Nat) (f:Array Bool) (a:Act) (w:World),kG md b.toArray f->rT md b.toArray n g l f=true->RA P b Q g l a w->iP P md b.toArray Q (fun s=>db w s) (fun i=>g.contains i) (l.length+g.length) f a w
 |[],f,a,w,_,t,h=>by
  rw[List.length_nil,Nat.zero_add];exact RT.any g f a w (fun _ h=>h) t h
 |i::r,f,a,w,z,t,h=>by
  obtain⟨o,K,h⟩:=h;have A:b.toArray[i]? =some o:=by simpa using K
  simp only[rT,A,Bool.and_eq_true]at t;obtain⟨⟨u,H⟩,y⟩:=t;have F:g.contains i=false:=by simpa using H
  rw[show(i::r).length+g.length=(r.length+g.length)+1 by simp;omega];by_cases q:ff o=true
  .rw[if_pos q,Bool.and_eq_true,Bool.and_eq_true]at u;obtain⟨⟨hr,E⟩,I⟩:=u;have G:∀j,g.contains j=true->j<b.toArray.size->mM md b.toArray n j i=true:=fun j B _=>List.all_eq_true.1 I j (by simpa using B);have L:i∈Region.ready md b.toArray f:=by simpa using hr
   have p:=mU z L;by_cases e:Region.wanted o (yielded b.toArray a.tmps)=true;·rw[if_pos e,if_pos q]at h;obtain⟨v,M,J⟩:=h;exact pN A m E hr (fun c a w=>k c a o.dst v w) F G z (Or.inl ⟨e,fun s C=>iA q (M s (qH C))⟩) (db.rfl' w) (RA.any m k r _ _ w p y J)
   .rw[if_neg e]at h;exact pN A m E hr (fun c a w=>k c a o.dst undef w) F G z (Or.inr ⟨by simpa using e,rfl⟩) (db.rfl' w) (RA.any m k r _ _ w p y h)
  .rw[if_neg q]at u;have hr:Region.ready md b.toArray f=[i]:=by simpa using u
   have p:=mU z (show i∈Region.ready md b.toArray f by rw[hr];simp);refine sz hr (by simp) (fun j B=>?_);obtain rfl:j=i:=by simpa using B
   unfold wpOp;simp only[A];by_cases e:Region.wanted o (yielded b.toArray a.tmps)=true;·rw[if_pos e,if_neg q]at h;rw[if_pos e];exact .inl (Oper.wp_mono (fun N s h1=>⟨fun _=>h1.1,lq (fun x C=>h1.1.tr C) _ _ _ _ (RA.any m k r _ _ s p y h1.2)⟩) h)
   .rw[if_neg e]at h;rw[if_neg e];exact⟨fun _=>db.rfl' w,RA.any m k r _ _ w p y h⟩
theorem vu(n:Nat):kG md ops (Array.replicate n false):=by intro j a _ h;exfalso;simp only[Array.getD_eq_getD_getElem?,Array.getElem?_replicate]at h;split at h<;>simp at h
theorem gV{id:Nat}{a:Act}{w:World}{l:List Oper}(e f:List Nat)(i:P.follows .mixedOrders=true)
  (b:(Region.noSelect l.toArray&&(e.length+f.length==l.length)&&rT .any l.toArray l.length f e (Array.replicate l.toArray.size false))=true)(g:∀c (a:Act) d v w,Q (.panic c) (a.put d v) w->Q (.panic c) a w)
  (h:RA P l Q f e a w.drew):(Code.region id l.toArray true).wp P Q a w:=by simp only[Bool.and_eq_true,beq_iff_eq]at b;have:=RA.any (P:=P) (md:=.any) (Q:=Q) b.1.1 g e _ a w.drew (vu _) b.2 h;rw[b.1.2]at this;exact wp_region_any i (sA _ _ _ _ (by simpa using this))
theorem dh{b:List Oper}{c:List Nat}{a:Act}{w:World}(h:RT P b Q c a w):RA P b Q c [] a w:=h
theorem df{b:List Oper}{a:Act}{w:World}(h:Q .normal a w):RT P b Q [] a w:=h
theorem KU{b:List Oper}{i:Nat}{r:List Nat}{a:Act}{w:World}{o:Oper}(e:b[i]? =some o)(f:Region.wanted o (yielded b.toArray a.tmps)=true)
  (h:∀K:Act->World->Prop,(∀c d,RT P b Q r c d->K c d)->o.wp P a w K Q):RT P b Q (i::r) a w:=
 ⟨o,e,by rw[if_pos f];exact h _ fun _ _ h=>h⟩
theorem Iy{b:List Oper}{j:List Nat}{i:Nat}{r:List Nat}{a:Act}{w:World}{d:Option Tmp}{op:Op}{e:TypeId}{pos:String}{c:Array Edge}{g:Option (Nat×Bool)}(l:b[i]? =some ⟨d,op,e,pos,c,g⟩)(n:Region.wanted ⟨d,op,e,pos,c,g⟩ (yielded b.toArray a.tmps)=false)
  (h:∀K:Act->Prop,(∀f,RA P b Q j r f w->K f)->Oper.quiet P ⟨d,.move (.const undef),e,pos,c,none⟩ a (fun _=>True) K):RA P b Q j (i::r) a w:=by
 refine⟨_,l,?_⟩;rw[if_neg (by rw[n];exact Bool.false_ne_true)];obtain⟨v,m,k⟩:=h _ fun _ h=>h;have h1:=m w trivial;unfold Oper.quietAt at h1;rw[BigFrame.run_move (.const undef) rfl]at h1;obtain⟨h2,h3⟩:=h1
 have h3:v=undef:=by
  first
   |exact h3
   |exact h3.symm
 subst h3;exact k
theorem Ff{b:List Oper}{d:List Nat}{i:Nat}{r:List Nat}{a:Act}{w:World}{o:Oper}(e:b[i]? =some o)(f:ff o=true)(g:Region.wanted o (yielded b.toArray a.tmps)=true)
  (h:∀K:Act->Prop,(∀c,RA P b Q d r c w->K c)->o.quiet P a (fun j=>∃p:Regrown,j=grow (redrawn w p.d) p.os) K):RA P b Q d (i::r) a w:=
 ⟨o,e,by rw[if_pos g,if_pos f];exact h _ fun _ h=>h⟩
theorem Ix{b:List Oper}{e:List Nat}{i:Nat}{r:List Nat}{a:Act}{w:World}{o:Oper}(f:b[i]? =some o)(g:ff o=false)(j:Region.wanted o (yielded b.toArray a.tmps)=true)
  (h:∀K:Act->World->Prop,(∀d c,db w c->RA P b Q e r d c->K d c)->o.wp P a w K Q):RA P b Q e (i::r) a w:=
 ⟨o,f,by rw[if_pos j,if_neg (by rw[g];exact Bool.false_ne_true)];exact h _ fun _ _ h k=>⟨h,k⟩⟩
end
section
variable{P:Program} {ops:Array Oper} {md:Region.Mode} {Q:Exit->Act->World->Prop} {S:World->Prop} {D:Nat->Bool}
theorem dC{b:List Oper}{d:List Nat}{i:Nat}{r:List Nat}{a:Act}{w:World}{o:Oper}(h:∀K:Act->Prop,(∀c,RA P b Q d r c w->K c)->o.quiet P a (fun j=>∃p:Regrown,j=grow (redrawn w p.d) p.os) K)(e:b[i]? =some o:=by rfl)(f:ff o=true:=by rfl)(g:Region.wanted o (yielded b.toArray a.tmps)=true:=by rfl):RA P b Q d (i::r) a w:=Ff e f g h
theorem dB{b:List Oper}{j:List Nat}{i:Nat}{r:List Nat}{a:Act}{w:World}{d:Option Tmp}{op:Op}{e:TypeId}{pos:String}{c:Array Edge}{g:Option (Nat×Bool)}(h:∀K:Act->Prop,(∀f,RA P b Q j r f w->K f)->Oper.quiet P ⟨d,.move (.const undef),e,pos,c,none⟩ a (fun _=>True) K)(k:b[i]? =some ⟨d,op,e,pos,c,g⟩:=by rfl)(l:Region.wanted ⟨d,op,e,pos,c,g⟩ (yielded b.toArray a.tmps)=false:=by rfl):RA P b Q j (i::r) a w:=Iy k l h
theorem eF{b:List Oper}{e:List Nat}{i:Nat}{r:List Nat}{a:Act}{w:World}{o:Oper}(h:∀K:Act->World->Prop,(∀d c,db w c->RA P b Q e r d c->K d c)->o.wp P a w K Q)(f:b[i]? =some o:=by rfl)(g:ff o=false:=by rfl)(j:Region.wanted o (yielded b.toArray a.tmps)=true:=by rfl):RA P b Q e (i::r) a w:=Ix f g j h
theorem eA{id:Nat}{a:Act}{w:World}{l:List Oper}(b e:List Nat)(h:RA P l Q e b a w.drew)(i:P.follows .mixedOrders=true:=by kernel_rfl)(f:(Region.noSelect l.toArray&&(b.length+e.length==l.length)&&rT .any l.toArray l.length e b (Array.replicate l.toArray.size false))=true:=by kernel_rfl)(g:∀c (a:Act) d v w,Q (.panic c) (a.put d v) w->Q (.panic c) a w:=by intro _ _ d _ _ h;cases d<;>exact h):(Code.region id l.toArray true).wp P Q a w:=gV b e i f g h
theorem iD{b:List Oper}{i:Nat}{r:List Nat}{a:Act}{w:World}{o:Oper}(h:∀K:Act->World->Prop,(∀c d,RT P b Q r c d->K c d)->o.wp P a w K Q)(e:b[i]? =some o:=by rfl)(f:Region.wanted o (yielded b.toArray a.tmps)=true:=by rfl):RT P b Q (i::r) a w:=KU e f h
end
end
section
structure dN (S:World->Prop) where
 w:World
 h:S w
def oQ(md:Region.Mode)(ops:Array Oper):List Nat->Array Bool->Bool
 |[],a=>(Region.ready md ops a).isEmpty
 |i::r,a=>
  (match ops[i]? with
  |none=>false
  |some o=>if ff o then(Region.ready md ops a).contains i&&Region.free md ops a i else Region.ready md ops a==[i])&&oQ md ops r (a.setIfInBounds i true)
section
variable{P:Program} {ops:Array Oper} {md:Region.Mode}
def RG(P:Program)(b:List Oper)(Q:Exit->Act->World->Prop):List Nat->(World->Prop)->Act->World->Prop
 |[],_,a,w=>Q .normal a w
 |i::r,S,a,w=>∃o,b[i]? =some o/\
  if Region.wanted o (yielded b.toArray a.tmps)then
   if ff o then o.quiet P a (fun c=>∃p:dN S,c=p.w) (fun e=>RG P b Q r S e w)
   else o.wp P a w (fun e c=>∃d:World->Prop,(∀x,d x->S x)/\d c/\RG P b Q r d e c) Q
  else RG P b Q r S (a.put o.dst undef) w
theorem gC{Q:Exit->Act->World->Prop}{S b:World->Prop}(c:∀x,b x->S x):∀(fuel:Nat) (d:Array Bool) (a:Act) (w:World),wpAnyH P md ops Q b fuel d a w->wpAnyH P md ops Q S fuel d a w
 |0,_,_,_,h=>h
 |fuel+1,_,_,_,h=>⟨h.1,fun i e=>wpOp_mono (fun a1 f h1=>⟨c _ h1.1,gC c fuel _ a1 f h1.2⟩) (h.2 i e)⟩
theorem RG.held{e:List Oper}{Q:Exit->Act->World->Prop}(m:Region.noSelect e.toArray=true)(g:∀c (a:Act) d v w,Q (.panic c) (a.put d v) w->Q (.panic c) a w):
  ∀(l:List Nat) (S:World->Prop) (p:Array Bool) (a:Act) (w:World),S w->oQ md e.toArray l p=true->RG P e Q l S a w->wpAnyH P md e.toArray Q S l.length p a w
 |[],S,p,a,w,_,q,h=>wpAnyH_done (by simpa [oQ]using q) h _
 |i::r,S,p,a,w,k,q,h=>by
  obtain⟨o,C,h⟩:=h;have t:e.toArray[i]? =some o:=by simpa using C
  simp only[oQ,t,Bool.and_eq_true]at q;obtain⟨f,s⟩:=q;by_cases n:ff o=true
  .rw[if_pos n,Bool.and_eq_true]at f;by_cases b:Region.wanted o (yielded e.toArray a.tmps)=true;·rw[if_pos b,if_pos n]at h;obtain⟨v,D,B⟩:=h;exact wpAnyH_take t m f.2 f.1 (fun c a w=>g c a o.dst v w) (Or.inl ⟨b,fun u E=>iA n (D u ⟨⟨u,E⟩,rfl⟩)⟩) k (RG.held m g r S _ _ w k s B)
   .rw[if_neg b]at h;exact wpAnyH_take t m f.2 f.1 (fun c a w=>g c a o.dst undef w) (Or.inr ⟨by simpa using b,rfl⟩) k (RG.held m g r S _ _ w k s h)
  .rw[if_neg n]at f;have hr:Region.ready md e.toArray p=[i]:=by simpa using f
   refine wpAnyH_all hr (by simp) (fun j A=>?_);obtain rfl:j=i:=by simpa using A
   unfold wpOp;simp only[t];by_cases b:Region.wanted o (yielded e.toArray a.tmps)=true;·rw[if_pos b,if_neg n]at h;rw[if_pos b];refine .inl (Oper.wp_mono (fun F u h1=>?_) h);obtain⟨z,y,x,h2⟩:=h1;exact⟨y _ x,gC y _ _ _ _ (RG.held m g r z _ _ u x s h2)⟩
   .rw[if_neg b]at h;rw[if_neg b];exact⟨k,RG.held m g r S _ _ w k s h⟩
theorem lP{id:Nat}{Q:Exit->Act->World->Prop}{a:Act}{w:World}{l:List Oper}(e:List Nat)(S:World->Prop)(i:P.follows .mixedOrders=true)
  (b:(Region.noSelect l.toArray&&(e.length==l.length)&&oQ .any l.toArray e (Array.replicate l.toArray.size false))=true)(g:∀c (a:Act) d v w,Q (.panic c) (a.put d v) w->Q (.panic c) a w)
  (f:S w.drew)(h:Nonempty (dN S)->RG P l Q e S a w.drew):(Code.region id l.toArray true).wp P Q a w:=by simp only[Bool.and_eq_true,beq_iff_eq]at b;refine wp_region_held (S:=S) i ?_;have:=RG.held (md:=.any) b.1.1 g e S _ a w.drew f b.2 (h ⟨⟨_,f⟩⟩);rw[b.1.2]at this;simpa using this
theorem gG{b:List Oper}{Q:Exit->Act->World->Prop}{S:World->Prop}{a:Act}{w:World}(h:Q .normal a w):RG P b Q [] S a w:=h
theorem ID{b:List Oper}{Q:Exit->Act->World->Prop}{S:World->Prop}{i:Nat}{r:List Nat}{a:Act}{w:World}{d:Option Tmp}{op:Op}{e:TypeId}{pos:String}{c:Array Edge}{g:Option (Nat×Bool)}(k:b[i]? =some ⟨d,op,e,pos,c,g⟩)(m:Region.wanted ⟨d,op,e,pos,c,g⟩ (yielded b.toArray a.tmps)=false)
  (h:∀K:Act->Prop,(∀f,RG P b Q r S f w->K f)->Oper.quiet P ⟨d,.move (.const undef),e,pos,c,none⟩ a (fun _=>True) K):RG P b Q (i::r) S a w:=by
 refine⟨_,k,?_⟩;rw[if_neg (by rw[m];exact Bool.false_ne_true)];obtain⟨v,l,j⟩:=h _ fun _ h=>h;have h1:=l w trivial;unfold Oper.quietAt at h1;rw[BigFrame.run_move (.const undef) rfl]at h1;obtain⟨h2,h3⟩:=h1
 have h3:v=undef:=by
  first
   |exact h3
   |exact h3.symm
 subst h3;exact j
theorem Fi{b:List Oper}{Q:Exit->Act->World->Prop}{S:World->Prop}{i:Nat}{r:List Nat}{a:Act}{w:World}{o:Oper}(d:b[i]? =some o)(e:ff o=true)(f:Region.wanted o (yielded b.toArray a.tmps)=true)
  (h:∀K:Act->Prop,(∀c,RG P b Q r S c w->K c)->o.quiet P a (fun g=>∃p:dN S,g=p.w) K):RG P b Q (i::r) S a w:=
 ⟨o,d,by rw[if_pos f,if_pos e];exact h _ fun _ h=>h⟩
theorem IC{c:List Oper}{Q:Exit->Act->World->Prop}{S:World->Prop}{i:Nat}{r:List Nat}{a:Act}{w:World}{o:Oper}(f:c[i]? =some o)(g:ff o=false)(j:Region.wanted o (yielded c.toArray a.tmps)=true)
  (h:∀K:Act->World->Prop,(∀(b:World->Prop) e d,(∀x,b x->S x)->b d->(Nonempty (dN b)->RG P c Q r b e d)->K e d)->o.wp P a w K Q):RG P c Q (i::r) S a w:=
 ⟨o,f,by rw[if_pos j,if_neg (by rw[g];exact Bool.false_ne_true)];exact h _ fun b _ _ h1 h2 h3=>⟨b,h1,h2,h3 ⟨⟨_,h2⟩⟩⟩⟩
end
section
variable{P:Program} {ops:Array Oper} {md:Region.Mode}
theorem kv{b:List Oper}{Q:Exit->Act->World->Prop}{S:World->Prop}{i:Nat}{r:List Nat}{a:Act}{w:World}{o:Oper}(h:∀K:Act->Prop,(∀c,RG P b Q r S c w->K c)->o.quiet P a (fun g=>∃p:dN S,g=p.w) K)(d:b[i]? =some o:=by rfl)(e:ff o=true:=by rfl)(f:Region.wanted o (yielded b.toArray a.tmps)=true:=by rfl):RG P b Q (i::r) S a w:=Fi d e f h
theorem kt{b:List Oper}{Q:Exit->Act->World->Prop}{S:World->Prop}{i:Nat}{r:List Nat}{a:Act}{w:World}{d:Option Tmp}{op:Op}{e:TypeId}{pos:String}{c:Array Edge}{g:Option (Nat×Bool)}(h:∀K:Act->Prop,(∀f,RG P b Q r S f w->K f)->Oper.quiet P ⟨d,.move (.const undef),e,pos,c,none⟩ a (fun _=>True) K)(j:b[i]? =some ⟨d,op,e,pos,c,g⟩:=by rfl)(k:Region.wanted ⟨d,op,e,pos,c,g⟩ (yielded b.toArray a.tmps)=false:=by rfl):RG P b Q (i::r) S a w:=ID j k h
theorem l7{c:List Oper}{Q:Exit->Act->World->Prop}{S:World->Prop}{i:Nat}{r:List Nat}{a:Act}{w:World}{o:Oper}(h:∀K:Act->World->Prop,(∀(b:World->Prop) e d,(∀x,b x->S x)->b d->(Nonempty (dN b)->RG P c Q r b e d)->K e d)->o.wp P a w K Q)(f:c[i]? =some o:=by rfl)(g:ff o=false:=by rfl)(j:Region.wanted o (yielded c.toArray a.tmps)=true:=by rfl):RG P c Q (i::r) S a w:=IC f g j h
theorem zx{id:Nat}{Q:Exit->Act->World->Prop}{a:Act}{w:World}{l:List Oper}(b:List Nat)(S:World->Prop)(g:S w.drew)(h:Nonempty (dN S)->RG P l Q b S a w.drew)(i:P.follows .mixedOrders=true:=by kernel_rfl)(e:(Region.noSelect l.toArray&&(b.length==l.length)&&oQ .any l.toArray b (Array.replicate l.toArray.size false))=true:=by kernel_rfl)(f:∀c (a:Act) d v w,Q (.panic c) (a.put d v) w->Q (.panic c) a w:=by intro _ _ d _ _ h;cases d<;>exact h):(Code.region id l.toArray true).wp P Q a w:=lP b S i e f g h
end
end
section
inductive u6 where
 |fin:u6
 |one:Nat->u6->u6
 |two:Nat->u6->Nat->u6->u6
def ja(md:Region.Mode)(ops:Array Oper):Nat->u6->Array Bool->Bool
 |0,.fin,a=>(Region.ready md ops a).isEmpty
 |n+1,.one i r,a=>
  (match ops[i]? with
  |none=>false
  |some o=>if ff o then(Region.ready md ops a).contains i&&Region.free md ops a i else Region.ready md ops a==[i])&&ja md ops n r (a.setIfInBounds i true)
 |n+1,.two i r j s,a=>
  (match ops[i]? with|none=>false|some o=> !ff o)&&(match ops[j]? with|none=>false|some o=> !ff o)&&(Region.ready md ops a==[i,j])
   &&ja md ops n r (a.setIfInBounds i true)&&ja md ops n s (a.setIfInBounds j true)
 |_,_,_=>false
section
variable{P:Program} {ops:Array Oper} {md:Region.Mode}
def RF(P:Program)(c:List Oper)(Q:Exit->Act->World->Prop):u6->(World->Prop)->Act->World->Prop
 | .fin,_,a,w=>Q .normal a w
 | .one i r,S,a,w=>∃o,c[i]? =some o/\
  if Region.wanted o (yielded c.toArray a.tmps)then
   if ff o then o.quiet P a (fun d=>∃p:dN S,d=p.w) (fun e=>RF P c Q r S e w)
   else o.wp P a w (fun e d=>∃b:World->Prop,(∀x,b x->S x)/\b d/\RF P c Q r b e d) Q
  else RF P c Q r S (a.put o.dst undef) w
 | .two i r j s,S,a,w=>
  (∃o,c[i]? =some o/\Region.wanted o (yielded c.toArray a.tmps)=true/\o.wp P a w (fun e d=>∃b:World->Prop,(∀x,b x->S x)/\b d/\RF P c Q r b e d) Q)/\
  (∃o,c[j]? =some o/\Region.wanted o (yielded c.toArray a.tmps)=true/\o.wp P a w (fun e d=>∃b:World->Prop,(∀x,b x->S x)/\b d/\RF P c Q s b e d) Q)
theorem RF.held{f:List Oper}{Q:Exit->Act->World->Prop}(u:Region.noSelect f.toArray=true)(p:∀c (a:Act) d v w,Q (.panic c) (a.put d v) w->Q (.panic c) a w):
  ∀(n:Nat) (l:u6) (S:World->Prop) (g:Array Bool) (a:Act) (w:World),S w->ja md f.toArray n l g=true->RF P f Q l S a w->wpAnyH P md f.toArray Q S n g a w
 |0,.fin,S,g,a,w,_,b,h=>wpAnyH_done (by simpa [ja]using b) h _
 |0,.one _ _,S,g,a,w,_,b,h=>by simp[ja]at b
 |0,.two _ _ _ _,S,g,a,w,_,b,h=>by simp[ja]at b
 |n+1,.fin,S,g,a,w,_,b,h=>by simp[ja]at b
 |n+1,.one i r,S,g,a,w,z,b,h=>by
  obtain⟨o,E,h⟩:=h;have A:f.toArray[i]? =some o:=by simpa using E
  simp only[ja,A,Bool.and_eq_true]at b;obtain⟨m,B⟩:=b;by_cases D:ff o=true
  .rw[if_pos D,Bool.and_eq_true]at m;by_cases e:Region.wanted o (yielded f.toArray a.tmps)=true;·rw[if_pos e,if_pos D]at h;obtain⟨v,L,J⟩:=h;exact wpAnyH_take A u m.2 m.1 (fun c a w=>p c a o.dst v w) (Or.inl ⟨e,fun y N=>iA D (L y ⟨⟨y,N⟩,rfl⟩)⟩) z (RF.held u p n r S _ _ w z B J)
   .rw[if_neg e]at h;exact wpAnyH_take A u m.2 m.1 (fun c a w=>p c a o.dst undef w) (Or.inr ⟨by simpa using e,rfl⟩) z (RF.held u p n r S _ _ w z B h)
  .rw[if_neg D]at m;have hr:Region.ready md f.toArray g=[i]:=by simpa using m
   refine wpAnyH_all hr (by simp) (fun j H=>?_);obtain rfl:j=i:=by simpa using H
   unfold wpOp;simp only[A];by_cases e:Region.wanted o (yielded f.toArray a.tmps)=true;·rw[if_pos e,if_neg D]at h;rw[if_pos e];refine .inl (Oper.wp_mono (fun F y h1=>?_) h);obtain⟨C,x,t,h2⟩:=h1;exact⟨x _ t,gC x _ _ _ _ (RF.held u p n r C _ _ y t B h2)⟩
   .rw[if_neg e]at h;rw[if_neg e];exact⟨z,RF.held u p n r S _ _ w z B h⟩
 |n+1,.two i r j s,S,g,a,w,z,b,h=>by
  obtain⟨⟨o,E,e,h1⟩,⟨q,K,M,h2⟩⟩:=h;have A:f.toArray[i]? =some o:=by simpa using E
  have G:f.toArray[j]? =some q:=by simpa using K
  simp only[ja,A,G,Bool.and_eq_true]at b;obtain⟨⟨⟨⟨-,-⟩,hr⟩,m⟩,B⟩:=b;have hr:Region.ready md f.toArray g=[i,j]:=by simpa using hr
  refine wpAnyH_all hr (by simp) (fun k I=>?_);rcases(by simpa using I:k=i\/k=j)with rfl|rfl;·unfold wpOp;simp only[A];rw[if_pos e];refine .inl (Oper.wp_mono (fun F y h1=>?_) h1);obtain⟨C,x,t,h2⟩:=h1;exact⟨x _ t,gC x _ _ _ _ (RF.held u p n r C _ _ y t m h2)⟩
  .unfold wpOp;simp only[G];rw[if_pos M];refine .inl (Oper.wp_mono (fun F y h1=>?_) h2);obtain⟨C,x,t,h2⟩:=h1;exact⟨x _ t,gC x _ _ _ _ (RF.held u p n s C _ _ y t B h2)⟩
theorem Fh{id:Nat}{Q:Exit->Act->World->Prop}{a:Act}{w:World}{l:List Oper}(e:u6)(S:World->Prop)(i:P.follows .mixedOrders=true)
  (b:(Region.noSelect l.toArray&&ja .any l.toArray l.length e (Array.replicate l.toArray.size false))=true)(g:∀c (a:Act) d v w,Q (.panic c) (a.put d v) w->Q (.panic c) a w)
  (f:S w.drew)(h:Nonempty (dN S)->RF P l Q e S a w.drew):(Code.region id l.toArray true).wp P Q a w:=by simp only[Bool.and_eq_true]at b;refine wp_region_held (S:=S) i ?_;have:=RF.held (md:=.any) b.1 g _ e S _ a w.drew f b.2 (h ⟨⟨_,f⟩⟩);simpa using this
theorem rO{b:List Oper}{Q:Exit->Act->World->Prop}{S:World->Prop}{a:Act}{w:World}(h:Q .normal a w):RF P b Q .fin S a w:=h
theorem IB{b:List Oper}{Q:Exit->Act->World->Prop}{S:World->Prop}{i:Nat}{r:u6}{a:Act}{w:World}{d:Option Tmp}{op:Op}{e:TypeId}{pos:String}{c:Array Edge}{g:Option (Nat×Bool)}(k:b[i]? =some ⟨d,op,e,pos,c,g⟩)(m:Region.wanted ⟨d,op,e,pos,c,g⟩ (yielded b.toArray a.tmps)=false)
  (h:∀K:Act->Prop,(∀f,RF P b Q r S f w->K f)->Oper.quiet P ⟨d,.move (.const undef),e,pos,c,none⟩ a (fun _=>True) K):RF P b Q (.one i r) S a w:=by
 refine⟨_,k,?_⟩;rw[if_neg (by rw[m];exact Bool.false_ne_true)];obtain⟨v,l,j⟩:=h _ fun _ h=>h;have h1:=l w trivial;unfold Oper.quietAt at h1;rw[BigFrame.run_move (.const undef) rfl]at h1;obtain⟨h2,h3⟩:=h1
 have h3:v=undef:=by
  first
   |exact h3
   |exact h3.symm
 subst h3;exact j
theorem Fg{b:List Oper}{Q:Exit->Act->World->Prop}{S:World->Prop}{i:Nat}{r:u6}{a:Act}{w:World}{o:Oper}(d:b[i]? =some o)(e:ff o=true)(f:Region.wanted o (yielded b.toArray a.tmps)=true)
  (h:∀K:Act->Prop,(∀c,RF P b Q r S c w->K c)->o.quiet P a (fun g=>∃p:dN S,g=p.w) K):RF P b Q (.one i r) S a w:=
 ⟨o,d,by rw[if_pos f,if_pos e];exact h _ fun _ h=>h⟩
theorem IA{c:List Oper}{Q:Exit->Act->World->Prop}{S:World->Prop}{i:Nat}{r:u6}{a:Act}{w:World}{o:Oper}(f:c[i]? =some o)(g:ff o=false)(j:Region.wanted o (yielded c.toArray a.tmps)=true)
  (h:∀K:Act->World->Prop,(∀(b:World->Prop) e d,(∀x,b x->S x)->b d->(Nonempty (dN b)->RF P c Q r b e d)->K e d)->o.wp P a w K Q):RF P c Q (.one i r) S a w:=
 ⟨o,f,by rw[if_pos j,if_neg (by rw[g];exact Bool.false_ne_true)];exact h _ fun b _ _ h1 h2 h3=>⟨b,h1,h2,h3 ⟨⟨_,h2⟩⟩⟩⟩
theorem yq{c:List Oper}{Q:Exit->Act->World->Prop}{S:World->Prop}{i j:Nat}{r s:u6}{a:Act}{w:World}{o q:Oper}(f:c[i]? =some o)(g:c[j]? =some q)(k:Region.wanted o (yielded c.toArray a.tmps)=true)(l:Region.wanted q (yielded c.toArray a.tmps)=true)
  (h:∀K:Act->World->Prop,(∀(b:World->Prop) e d,(∀x,b x->S x)->b d->(Nonempty (dN b)->RF P c Q r b e d)->K e d)->o.wp P a w K Q)
  (h2:∀K:Act->World->Prop,(∀(b:World->Prop) e d,(∀x,b x->S x)->b d->(Nonempty (dN b)->RF P c Q s b e d)->K e d)->q.wp P a w K Q):RF P c Q (.two i r j s) S a w:=
 ⟨⟨o,f,k,h _ fun b _ _ h1 h2 h3=>⟨b,h1,h2,h3 ⟨⟨_,h2⟩⟩⟩⟩,⟨q,g,l,h2 _ fun b _ _ h1 h2 h3=>⟨b,h1,h2,h3 ⟨⟨_,h2⟩⟩⟩⟩⟩
end
section
variable{P:Program} {ops:Array Oper} {md:Region.Mode}
theorem DG{b:List Oper}{Q:Exit->Act->World->Prop}{S:World->Prop}{i:Nat}{r:u6}{a:Act}{w:World}{o:Oper}(h:∀K:Act->Prop,(∀c,RF P b Q r S c w->K c)->o.quiet P a (fun g=>∃p:dN S,g=p.w) K)(d:b[i]? =some o:=by rfl)(e:ff o=true:=by rfl)(f:Region.wanted o (yielded b.toArray a.tmps)=true:=by rfl):RF P b Q (.one i r) S a w:=Fg d e f h
theorem DF{b:List Oper}{Q:Exit->Act->World->Prop}{S:World->Prop}{i:Nat}{r:u6}{a:Act}{w:World}{d:Option Tmp}{op:Op}{e:TypeId}{pos:String}{c:Array Edge}{g:Option (Nat×Bool)}(h:∀K:Act->Prop,(∀f,RF P b Q r S f w->K f)->Oper.quiet P ⟨d,.move (.const undef),e,pos,c,none⟩ a (fun _=>True) K)(j:b[i]? =some ⟨d,op,e,pos,c,g⟩:=by rfl)(k:Region.wanted ⟨d,op,e,pos,c,g⟩ (yielded b.toArray a.tmps)=false:=by rfl):RF P b Q (.one i r) S a w:=IB j k h
theorem DE{c:List Oper}{Q:Exit->Act->World->Prop}{S:World->Prop}{i:Nat}{r:u6}{a:Act}{w:World}{o:Oper}(h:∀K:Act->World->Prop,(∀(b:World->Prop) e d,(∀x,b x->S x)->b d->(Nonempty (dN b)->RF P c Q r b e d)->K e d)->o.wp P a w K Q)(f:c[i]? =some o:=by rfl)(g:ff o=false:=by rfl)(j:Region.wanted o (yielded c.toArray a.tmps)=true:=by rfl):RF P c Q (.one i r) S a w:=IA f g j h
theorem Lv{id:Nat}{Q:Exit->Act->World->Prop}{a:Act}{w:World}{l:List Oper}(b:u6)(S:World->Prop)(g:S w.drew)(h:Nonempty (dN S)->RF P l Q b S a w.drew)(i:P.follows .mixedOrders=true:=by kernel_rfl)(e:(Region.noSelect l.toArray&&ja .any l.toArray l.length b (Array.replicate l.toArray.size false))=true:=by kernel_rfl)(f:∀c (a:Act) d v w,Q (.panic c) (a.put d v) w->Q (.panic c) a w:=by intro _ _ d _ _ h;cases d<;>exact h):(Code.region id l.toArray true).wp P Q a w:=Fh b S i e f g h
end
end
section
def iY(o:Oper):Bool:=
 match o.op with
 | .nilCheck _=>true
 | .fieldAddr _ _ _=>true
 | .move _=>true
 |_=>false
def qr(md:Region.Mode)(ops:Array Oper)(f i:Nat):Bool:=
 match ops[f]? with
 |none=>false
 |some o=>o.after.toList.any fun e=>Region.binds md e&&e.on==i
section
variable{P:Program} {ops:Array Oper} {md:Region.Mode} {Q:Exit->Act->World->Prop}
def xg(P:Program)(md:Region.Mode)(ops:Array Oper)(Q:Exit->Act->World->Prop)(f:Nat)(S:World->Prop):Nat->Array Bool->Act->World->Prop
 |0,l,a,w=>Region.ready md ops l=[]/\Q .normal a w
 |n+1,l,a,w=>(Region.ready md ops l=[]->Q .normal a w)/\∀i∈Region.ready md ops l,wpOp P ops Q i (fun c b=>((l.setIfInBounds i true).getD f true=false->S b)/\xg P md ops Q f S n (l.setIfInBounds i true) c b) a w
theorem vf{f:Nat}{S:World->Prop}:∀(n:Nat) (l:Array Bool) (a:Act) (w:World),xg P md ops Q f S n l a w->wpAny P md ops Q n l a w
 |0,_,_,_,h=>h
 |n+1,_,_,_,h=>⟨h.1,fun i d=>wpOp_mono (fun b e c=>vf n _ b e c.2) (h.2 i d)⟩
theorem sW{f:Nat}{S b:World->Prop}(d:∀x,b x->S x):∀(n:Nat) (l:Array Bool) (a:Act) (w:World),xg P md ops Q f b n l a w->xg P md ops Q f S n l a w
 |0,_,_,_,h=>h
 |n+1,_,_,_,h=>⟨h.1,fun i j=>wpOp_mono (fun e k c=>⟨fun g=>d _ (c.1 g),sW d n _ e k c.2⟩) (h.2 i j)⟩
theorem sm{l:Array Bool}{i j:Nat}{d:Oper}(m:i∈Region.ready md ops l)(n:j∈Region.ready md ops l)(p:ops[j]? =some d):∀e∈d.after,Region.binds md e=true->e.on≠i:=by
 intro e h g k;obtain⟨b,-⟩:=mem_ready.1 m;obtain⟨-,o,c,f⟩:=mem_ready.1 n;rw[p]at c;cases c;have h1:=f e h g;rw[k]at h1;rcases Nat.lt_or_ge i l.size with a|a;·simp[a]at b h1;rw[b]at h1;cases h1
 .simp[Array.getElem?_eq_none a]at h1
theorem oq{f i:Nat}{S T:World->Prop}{d:Oper}{v:Value}(u:ops[i]? =some d)(D:∀(j:Nat) (o:Oper) m b,ops[j]? =some o->o.op≠.select m b)
  (I:∀c a w,Q (.panic c) (a.put d.dst v) w->Q (.panic c) a w)(M:i≠f)(y:∀w,S w->T w)(W:qr md ops f i=true\/∀w,T w):
  ∀(n:Nat) (l:Array Bool) (a:Act) (w:World),
   (∀j g,ops[j]? =some g->j≠i->l.getD j true=false->(∀e∈g.after,Region.binds md e=true->e.on≠i)->d.apart ops g=true)->
   i∈Region.ready md ops l->YieldsIf P ops T d v a->(l.getD f true=false\/∀w,T w)->(l.getD f true=false->S w)->xg P md ops Q f S n (l.setIfInBounds i true) (a.put d.dst v) w->xg P md ops Q f S (n+1) l a w:=by
 have x:∀(l:Array Bool),(l.setIfInBounds i true).getD f true=l.getD f true:=fun l=>getD_set_ne true M
 intro n
 induction n with
 |zero=>
  intro l a w _ hr t s p H;refine⟨fun h=>absurd hr (by rw[h];simp),fun j q=>?_⟩;by_cases e:j=i;·subst e;exact t.wpOp u (s.elim (fun h=>y _ (p h)) (fun h=>h w)) ⟨fun h=>p (by rwa[x]at h),H⟩
  .have h1:=ready_mono q e;rw[H.1]at h1;cases h1
 |succ n X=>
  intro l a w z hr t s p H;refine⟨fun h=>absurd hr (by rw[h];simp),fun j q=>?_⟩;by_cases e:j=i;·subst e;exact t.wpOp u (s.elim (fun h=>y _ (p h)) (fun h=>h w)) ⟨fun h=>p (by rwa[x]at h),H⟩
  .obtain⟨E,g,r,-⟩:=mem_ready.1 q;have C:=sm hr q r
   have K:(l.setIfInBounds j true).getD f true=false\/∀w,T w:=by
    by_cases A:j=f
    .right;rcases W with h|h;·exfalso;unfold qr at h;rw[<-A,r]at h;simp only[List.any_eq_true,Bool.and_eq_true,beq_iff_eq]at h;obtain⟨G,L,J,U⟩:=h;exact C G (by simpa using L) J U
     .exact h
    .rw[getD_set_ne true A];exact s
   have h2:=wpOp_putIf r (z j g r e E C) (fun m b=>D i d m b u) (fun m b=>D j g m b r) I t (H.2 j (ready_mono q e));refine wpOp_mono (fun F Y h3=>?_) h2;obtain⟨h4,h5,h6⟩:=h3;rw[Array.setIfInBounds_comm _ _ (Ne.symm e)]at h5 h6;rw[x]at h5
   exact⟨h5,X _ F Y (fun k ok N O V R=>z k ok N O (by
    by_cases B:j=k;·subst B;exact E
    .rwa[getD_set_ne true B]at V) R) (ready_mono hr (Ne.symm e)) h4 K h5 h6⟩
def oR(md:Region.Mode)(ops:Array Oper)(f:Nat):List Nat->Array Bool->Bool
 |[],l=>Region.ready md ops l==[f]&&(Region.ready md ops (l.setIfInBounds f true)).isEmpty&&(l.getD f true==false)
 |i::r,l=>
  (match ops[i]? with
  |none=>false
  |some o=>(i !=f)&&(l.getD f true==false)&&(if ff o then(Region.ready md ops l).contains i&&Region.free md ops l i&&(iY o||qr md ops f i)else Region.ready md ops l==[i]))&&oR md ops f r (l.setIfInBounds i true)
def RH(P:Program)(b:List Oper)(Q:Exit->Act->World->Prop)(f:Nat):List Nat->(World->Prop)->Act->World->Prop
 |[],S,a,w=>∃o,b[f]? =some o/\Region.wanted o (yielded b.toArray a.tmps)=true/\o.wp P a w (fun c d=>Q .normal c d) Q
 |i::r,S,a,w=>∃o,b[i]? =some o/\
  if Region.wanted o (yielded b.toArray a.tmps)then
   if ff o then(if iY o then o.quiet P a (fun _=>True) (fun c=>RH P b Q f r S c w)else o.quiet P a (fun d=>∃p:dN S,d=p.w) (fun c=>RH P b Q f r S c w))
   else o.wp P a w (fun c d=>∃e:World->Prop,(∀x,e x->S x)/\e d/\RH P b Q f r e c d) Q
  else RH P b Q f r S (a.put o.dst undef) w
theorem RH.held{e:List Oper}{f:Nat}(p:Region.noSelect e.toArray=true)(n:∀c (a:Act) d v w,Q (.panic c) (a.put d v) w->Q (.panic c) a w):
  ∀(r:List Nat) (S:World->Prop) (l:Array Bool) (a:Act) (w:World),S w->oR md e.toArray f r l=true->RH P e Q f r S a w->xg P md e.toArray Q f S (r.length+1) l a w
 |[],S,l,a,w,k,x,h=>by
  obtain⟨o,D,b,h⟩:=h;have g:e.toArray[f]? =some o:=by simpa using D
  simp only[oR,Bool.and_eq_true,beq_iff_eq]at x;obtain⟨⟨m,q⟩,O⟩:=x;have R:Region.ready md e.toArray (l.setIfInBounds f true)=[]:=by simpa using q
  have U:(l.setIfInBounds f true).getD f true=true:=by
   rcases Nat.lt_or_ge f l.size with y|y;·simp[y]
   .simp[Array.getElem?_eq_none y]at O
  refine⟨fun t=>absurd t (by rw[m];simp),fun i I=>?_⟩;rw[m]at I;obtain rfl:i=f:=by simpa using I
  unfold wpOp;simp only[g];rw[if_pos b];refine .inl (Oper.wp_mono (fun N s h1=>?_) h);refine⟨fun t=>?_,R,h1⟩;rw[U]at t;cases t
 |i::r,S,l,a,w,k,x,h=>by
  obtain⟨o,D,h⟩:=h;have g:e.toArray[i]? =some o:=by simpa using D
  simp only[oR,g,Bool.and_eq_true,bne_iff_ne,beq_iff_eq]at x;obtain⟨⟨⟨A,B⟩,m⟩,q⟩:=x;by_cases u:ff o=true
  .rw[if_pos u]at m;simp only[Bool.and_eq_true]at m;obtain⟨⟨hr,z⟩,K⟩:=m;have E:i∈Region.ready md e.toArray l:=by simpa using hr
   by_cases b:Region.wanted o (yielded e.toArray a.tmps)=true
   .rw[if_pos b,if_pos u]at h;by_cases F:iY o=true;·rw[if_pos F]at h;obtain⟨v,G,C⟩:=h;exact oq (T:=fun _=>True) g (Region.noSelect_spec p) (fun c a w=>n c a o.dst v w) A (fun _ _=>trivial) (.inr fun _=>trivial) _ _ _ _ (Region.free_spec g z) E (Or.inl ⟨b,fun s _=>iA u (G s trivial)⟩) (.inl B) (fun _=>k) (RH.held p n r S _ _ w k q C)
    .rw[if_neg F]at h;obtain⟨v,G,C⟩:=h;have V:qr md e.toArray f i=true:=by rw[Bool.or_eq_true]at K;exact K.resolve_left F
     exact oq (T:=S) g (Region.noSelect_spec p) (fun c a w=>n c a o.dst v w) A (fun _ h=>h) (.inl V) _ _ _ _ (Region.free_spec g z) E (Or.inl ⟨b,fun s W=>iA u (G s ⟨⟨s,W⟩,rfl⟩)⟩) (.inl B) (fun _=>k) (RH.held p n r S _ _ w k q C)
   .rw[if_neg b]at h;exact oq (T:=fun _=>True) g (Region.noSelect_spec p) (fun c a w=>n c a o.dst undef w) A (fun _ _=>trivial) (.inr fun _=>trivial) _ _ _ _ (Region.free_spec g z) E (Or.inr ⟨by simpa using b,rfl⟩) (.inl B) (fun _=>k) (RH.held p n r S _ _ w k q h)
  .rw[if_neg u]at m;have hr:Region.ready md e.toArray l=[i]:=by simpa using m
   refine⟨fun t=>absurd t (by rw[hr];simp),fun j J=>?_⟩;rw[hr]at J;obtain rfl:j=i:=by simpa using J
   unfold wpOp;simp only[g];by_cases b:Region.wanted o (yielded e.toArray a.tmps)=true;·rw[if_pos b,if_neg u]at h;rw[if_pos b];refine .inl (Oper.wp_mono (fun N s h1=>?_) h);obtain⟨M,L,H,h2⟩:=h1;exact⟨fun _=>L _ H,sW L _ _ _ _ (RH.held p n r M _ _ s H q h2)⟩
   .rw[if_neg b]at h;rw[if_neg b];exact⟨fun _=>k,RH.held p n r S _ _ w k q h⟩
theorem Fk{id:Nat}{a:Act}{w:World}{l:List Oper}(e:List Nat)(f:Nat)(S:World->Prop)(j:P.follows .mixedOrders=true)
  (b:(Region.noSelect l.toArray&&(e.length+1==l.length)&&oR .any l.toArray f e (Array.replicate l.toArray.size false))=true)(i:∀c (a:Act) d v w,Q (.panic c) (a.put d v) w->Q (.panic c) a w)
  (g:S w.drew)(h:Nonempty (dN S)->RH P l Q f e S a w.drew):(Code.region id l.toArray true).wp P Q a w:=by simp only[Bool.and_eq_true,beq_iff_eq]at b;refine wp_region_any j (vf (f:=f) (S:=S) _ _ _ _ ?_);have:=RH.held (md:=.any) b.1.1 i e S _ a w.drew g b.2 (h ⟨⟨_,g⟩⟩);rw[b.1.2]at this;simpa using this
theorem IJ{b:List Oper}{f:Nat}{S:World->Prop}{a:Act}{w:World}{o:Oper}(e:b[f]? =some o)(g:Region.wanted o (yielded b.toArray a.tmps)=true)
 (h:∀K:Act->World->Prop,(∀c d,Q .normal c d->K c d)->o.wp P a w K Q):RH P b Q f [] S a w:=⟨o,e,g,h _ fun _ _ h=>h⟩
theorem IK{b:List Oper}{f:Nat}{S:World->Prop}{i:Nat}{r:List Nat}{a:Act}{w:World}{d:Option Tmp}{op:Op}{e:TypeId}{pos:String}{c:Array Edge}{j:Option (Nat×Bool)}(l:b[i]? =some ⟨d,op,e,pos,c,j⟩)(n:Region.wanted ⟨d,op,e,pos,c,j⟩ (yielded b.toArray a.tmps)=false)
  (h:∀K:Act->Prop,(∀g,RH P b Q f r S g w->K g)->Oper.quiet P ⟨d,.move (.const undef),e,pos,c,none⟩ a (fun _=>True) K):RH P b Q f (i::r) S a w:=by
 refine⟨_,l,?_⟩;rw[if_neg (by rw[n];exact Bool.false_ne_true)];obtain⟨v,m,k⟩:=h _ fun _ h=>h;have h1:=m w trivial;unfold Oper.quietAt at h1;rw[BigFrame.run_move (.const undef) rfl]at h1;obtain⟨h2,h3⟩:=h1
 have h3:v=undef:=by
  first
   |exact h3
   |exact h3.symm
 subst h3;exact k
theorem Fj{b:List Oper}{f:Nat}{S:World->Prop}{i:Nat}{r:List Nat}{a:Act}{w:World}{o:Oper}(d:b[i]? =some o)(g:ff o=true)(e:iY o=false)(j:Region.wanted o (yielded b.toArray a.tmps)=true)
  (h:∀K:Act->Prop,(∀c,RH P b Q f r S c w->K c)->o.quiet P a (fun k=>∃p:dN S,k=p.w) K):RH P b Q f (i::r) S a w:=
 ⟨o,d,by rw[if_pos j,if_pos g,if_neg (by rw[e];exact Bool.false_ne_true)];exact h _ fun _ h=>h⟩
theorem Fl{b:List Oper}{f:Nat}{S:World->Prop}{i:Nat}{r:List Nat}{a:Act}{w:World}{o:Oper}(d:b[i]? =some o)(g:ff o=true)(e:iY o=true)(j:Region.wanted o (yielded b.toArray a.tmps)=true)
  (h:∀K:Act->Prop,(∀c,RH P b Q f r S c w->K c)->o.quiet P a (fun _=>True) K):RH P b Q f (i::r) S a w:=
 ⟨o,d,by rw[if_pos j,if_pos g,if_pos e];exact h _ fun _ h=>h⟩
theorem II{c:List Oper}{f:Nat}{S:World->Prop}{i:Nat}{r:List Nat}{a:Act}{w:World}{o:Oper}(g:c[i]? =some o)(j:ff o=false)(k:Region.wanted o (yielded c.toArray a.tmps)=true)
  (h:∀K:Act->World->Prop,(∀(b:World->Prop) e d,(∀x,b x->S x)->b d->(Nonempty (dN b)->RH P c Q f r b e d)->K e d)->o.wp P a w K Q):RH P c Q f (i::r) S a w:=
 ⟨o,g,by rw[if_pos k,if_neg (by rw[j];exact Bool.false_ne_true)];exact h _ fun b _ _ h1 h2 h3=>⟨b,h1,h2,h3 ⟨⟨_,h2⟩⟩⟩⟩
end
section
variable{P:Program} {ops:Array Oper} {md:Region.Mode} {Q:Exit->Act->World->Prop}
theorem lj{b:List Oper}{f:Nat}{S:World->Prop}{i:Nat}{r:List Nat}{a:Act}{w:World}{o:Oper}(h:∀K:Act->Prop,(∀c,RH P b Q f r S c w->K c)->o.quiet P a (fun k=>∃p:dN S,k=p.w) K)(d:b[i]? =some o:=by rfl)(g:ff o=true:=by rfl)(e:iY o=false:=by rfl)(j:Region.wanted o (yielded b.toArray a.tmps)=true:=by rfl):RH P b Q f (i::r) S a w:=Fj d g e j h
theorem lC{b:List Oper}{f:Nat}{S:World->Prop}{i:Nat}{r:List Nat}{a:Act}{w:World}{d:Option Tmp}{op:Op}{e:TypeId}{pos:String}{c:Array Edge}{j:Option (Nat×Bool)}(h:∀K:Act->Prop,(∀g,RH P b Q f r S g w->K g)->Oper.quiet P ⟨d,.move (.const undef),e,pos,c,none⟩ a (fun _=>True) K)(k:b[i]? =some ⟨d,op,e,pos,c,j⟩:=by rfl)(l:Region.wanted ⟨d,op,e,pos,c,j⟩ (yielded b.toArray a.tmps)=false:=by rfl):RH P b Q f (i::r) S a w:=IK k l h
theorem ki{c:List Oper}{f:Nat}{S:World->Prop}{i:Nat}{r:List Nat}{a:Act}{w:World}{o:Oper}(h:∀K:Act->World->Prop,(∀(b:World->Prop) e d,(∀x,b x->S x)->b d->(Nonempty (dN b)->RH P c Q f r b e d)->K e d)->o.wp P a w K Q)(g:c[i]? =some o:=by rfl)(j:ff o=false:=by rfl)(k:Region.wanted o (yielded c.toArray a.tmps)=true:=by rfl):RH P c Q f (i::r) S a w:=II g j k h
theorem iK{b:List Oper}{f:Nat}{S:World->Prop}{i:Nat}{r:List Nat}{a:Act}{w:World}{o:Oper}(h:∀K:Act->Prop,(∀c,RH P b Q f r S c w->K c)->o.quiet P a (fun _=>True) K)(d:b[i]? =some o:=by rfl)(g:ff o=true:=by rfl)(e:iY o=true:=by rfl)(j:Region.wanted o (yielded b.toArray a.tmps)=true:=by rfl):RH P b Q f (i::r) S a w:=Fl d g e j h
theorem sJ{b:List Oper}{f:Nat}{S:World->Prop}{a:Act}{w:World}{o:Oper}(h:∀K:Act->World->Prop,(∀c d,Q .normal c d->K c d)->o.wp P a w K Q)(e:b[f]? =some o:=by rfl)(g:Region.wanted o (yielded b.toArray a.tmps)=true:=by rfl):RH P b Q f [] S a w:=IJ e g h
theorem Hn{id:Nat}{a:Act}{w:World}{l:List Oper}(b:List Nat)(f:Nat)(S:World->Prop)(i:S w.drew)(h:Nonempty (dN S)->RH P l Q f b S a w.drew)(j:P.follows .mixedOrders=true:=by kernel_rfl)(e:(Region.noSelect l.toArray&&(b.length+1==l.length)&&oR .any l.toArray f b (Array.replicate l.toArray.size false))=true:=by kernel_rfl)(g:∀c (a:Act) d v w,Q (.panic c) (a.put d v) w->Q (.panic c) a w:=by intro _ _ d _ _ h;cases d<;>exact h):(Code.region id l.toArray true).wp P Q a w:=Fk b f S j e g i h
end
end
end Go.Proofs.YtjhbmbbmjaabcaaGreat
