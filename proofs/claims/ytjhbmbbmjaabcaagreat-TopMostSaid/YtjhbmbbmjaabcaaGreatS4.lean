/-
  Contracts. Conditions stand at each.
-/
import Derived.Deep.RegionLaw
import Derived.Outline
import Derived.Deep.AppendLies
import Derived.Test.YtjhbmbbmjaabcaaGreatRows
import Derived.Deep.AppendSrc
import Derived.Test.YtjhbmbbmjaabcaaGreatS2
set_option linter.all false
set_option maxRecDepth 8000
set_option maxHeartbeats 8000000
namespace Go.Proofs.YtjhbmbbmjaabcaaGreat
open Go Go.Sort Go.RowKit
section
variable{vs:List Value} {w:World} {row:Option Nat} {g:Nat}
structure dK (w:World) (base g:Nat) (vs:List Value):Prop where
 lo:base<=g
 hi:g<w.heap.size
 c:∀(j:Nat) (v:Value),vs[j]? =some v->w.cell? ⟨g,j,none⟩=some v
 f:∀j,w.frozen? ⟨g,j,none⟩=false
theorem dK.ext{a:World}{base:Nat}(h:dK w base g vs)(k:db w a):dK a base g vs:=
 ⟨h.lo,Nat.lt_of_lt_of_le h.hi k.size,fun j v b=>db.cell k (h.c j v b),fun j=>by rw[Below.frozen k (p:=⟨g,j,none⟩) h.hi];exact h.f j⟩
theorem dK.base{base a:Nat}(h:dK w base g vs)(b:a<=base):dK w a g vs:=⟨Nat.le_trans b h.lo,h.hi,h.c,h.f⟩
theorem dK.new(w:World)(base:Nat)(a:Array Value)(vs:List Value)(t:TypeId)(g:Nat)(d:g=w.heap.size)(b:base<=g)(c:a.toList=vs):dK (w.alloc (.cells a t)) base g vs:=by subst d;refine⟨b,by simp,fun j v e=>?_,fun j=>World.frozen?_alloc_at _ _ _ _ rfl⟩;rw[World.cell?_alloc_mark,<-Array.getElem?_toList,c,e]
theorem dK.other{b:World}{base:Nat}(h:dK w base g vs)(k:w.grownBy b row)(c:row≠some g):dK b base g vs:=by have a:=k.block g h.hi (fun e=>c e.symm);refine⟨h.lo,Nat.lt_of_lt_of_le h.hi k.size,fun j v d=>(World.cell?_of_block a).trans (h.c j v d),fun j=>?_⟩;have:=h.f j;simp only[World.frozen?,a]at this⊢;exact this
def dL(w:World)(g:Nat):Nat->List Value->World
 |_,[]=>w
 |j,v::vs=>dL (w.setCell ⟨g,j,none⟩ v) g (j+1) vs
theorem eU(g:Nat):∀(vs:List Value) (j:Nat) (a w:World),a.grownBy w (some g)->a.grownBy (dL w g j vs) (some g)
 |[],_,_,_,h=>h
 |v::vs,j,a,w,h=>eU g vs (j+1) a _ ⟨h.os,h.tape,h.output,by simpa [World.setCell]using h.size,fun i c b=>(Below.heap_setCell w ⟨g,j,none⟩ v i (by rintro rfl;exact b rfl)).trans (h.block i c b)⟩
theorem qV(g:Nat):∀(vs:List Value) (j:Nat) (w:World),(dL w g j vs).heap.size=w.heap.size
 |[],_,_=>rfl
 |v::vs,j,w=>by rw[dL,qV g vs];simp[World.setCell]
theorem nA(g:Nat)(a:Addr):∀(vs:List Value) (j:Nat) (w:World),(dL w g j vs).frozen? a=w.frozen? a
 |[],_,_=>rfl
 |v::vs,j,w=>by rw[dL,nA g a vs];simp
theorem th(g:Nat)(k:Nat):∀(vs:List Value) (j:Nat) (w:World),k<j->(dL w g j vs).cell? ⟨g,k,none⟩=w.cell? ⟨g,k,none⟩
 |[],_,_,_=>rfl
 |v::vs,j,w,h=>by
  rw[dL,th g k vs (j+1) _ (by omega)];exact World.cell?_setCell_other (h:=by simp<;>omega) ..
theorem qU(g:Nat)(k:Nat):∀(vs:List Value) (j:Nat) (w:World) (v:Value),(∀i,i<vs.length->∃u,w.cell? ⟨g,j+i,none⟩=some u)->vs[k]? =some v->(dL w g j vs).cell? ⟨g,j+k,none⟩=some v
 |[],_,_,_,_,h=>by simp at h
 |u::vs,j,w,v,a,h=>by
  rw[dL]
  cases k with
  |zero=>
   simp at h;subst h;show(dL (w.setCell ⟨g,j,none⟩ u) g (j+1) vs).cell? ⟨g,j,none⟩=some u;rw[th g j vs (j+1) _ (by omega)];obtain⟨x,b⟩:=a 0 (by simp);exact World.cell?_setCell_same (h:=b) ..
  |succ k=>
   have:=qU g k vs (j+1) (w.setCell ⟨g,j,none⟩ u) v (fun i c=>by
    obtain⟨x,b⟩:=a (i+1) (by simp;omega);refine⟨x,?_⟩;rw[World.cell?_setCell_other (h:=by simp<;>omega)]
    rwa[show j+1+i=j+(i+1) by omega]) (by simpa using h)
   rwa[show j+1+k=j+(k+1) by omega]at this
theorem dK.fill{base:Nat}{us:List Value}(h:dK w base g us)(c:vs.length<=us.length):dK (dL w g 0 vs) base g vs:=
 ⟨h.lo,by rw[qV];exact h.hi,fun j v a=>by
  have:=qU g j vs 0 w v (fun i b=>by
   have:i<us.length:=by omega
   exact⟨us[i],by rw[Nat.zero_add];exact h.c i _ (by simp)⟩) a
  rwa[Nat.zero_add]at this,fun j=>by rw[nA];exact h.f j⟩
theorem dK.put{base:Nat}(h:dK w base g vs)(j:Nat)(v:Value):dK (w.setCell ⟨g,j,none⟩ v) base g (vs.set j v):=
 ⟨h.lo,by simpa [World.setCell]using h.hi,fun i u a=>by
  rw[List.getElem?_set]at a;by_cases b:j=i
  .subst b;rw[if_pos rfl]at a;split at a;·rename_i c;cases a;exact World.cell?_setCell_same (h:=h.c j _ (List.getElem?_eq_getElem c)) ..
   .cases a
  .rw[if_neg b]at a;rw[World.cell?_setCell_other (h:=by simp<;>omega)]
   exact h.c i u a,fun i=>by simp[h.f i]⟩
theorem dP{a:World}(h:a.grownBy w (some g))(o:Nat)(u:Value):a.grownBy (w.setCell ⟨g,o,none⟩ u) (some g):=
 ⟨h.os,h.tape,h.output,by simpa [World.setCell]using h.size,fun i c b=>(Below.heap_setCell w ⟨g,o,none⟩ u i (by rintro rfl;exact b rfl)).trans (h.block i c b)⟩
theorem dD(w:World)(row:Option Nat):w.grownBy w row:=World.grownBy.refl _ _
theorem gY{a:World}(h:db a w)(row:Option Nat):a.grownBy w row:=⟨h.os,h.tape,h.output,h.size,fun i b _=>h.block i b⟩
theorem jI{a b c:World}(h:a.grownBy b row)(k:b.grownBy c row):a.grownBy c row:=
 ⟨k.os.trans h.os,k.tape.trans h.tape,k.output.trans h.output,Nat.le_trans h.size k.size,fun i d e=>(k.block i (Nat.lt_of_lt_of_le d h.size) e).trans (h.block i d e)⟩
theorem eL{base:Nat}{a w:World}{g:Nat}(h:Below base a w)(b:base<=g):∀(vs:List Value) (j:Nat),Below base a (dL w g j vs)
 |vs,j=>by
  induction vs generalizing w j with
  |nil=>exact h
  |cons v vs c=>exact c (h.setCell b _) (j+1)
end
section
variable{L:List (List Value)} {w:World} {i:Nat}
def xQ(xs:List Value):Nat->List Value->List Value
 |_,[]=>xs
 |j,v::vs=>xQ (xs.set j v) (j+1) vs
theorem lE:∀(vs a c:List Value),vs.length<=c.length->xQ (a++c) a.length vs=a++vs++c.drop vs.length
 |[],a,c,_=>by simp[xQ]
 |v::vs,a,c,h=>by
  cases c with
  |nil=>simp at h
  |cons x c=>
   have e:(a++x::c).set a.length v=(a++[v])++c:=by simp
   have l:a.length+1=(a++[v]).length:=by simp
   have:=lE vs (a++[v]) c (by simpa using h);rw[xQ,e,l,this];simp
theorem lL{e:TypeId}{K base g n cap:Nat}:∀(vs:List Value) (j:Nat) (w:World) (xs:List Value),w.ownsRow base e K (.slice (some ⟨g,0,none⟩) n cap) n xs->
  (w.setCells g j vs).ownsRow base e K (.slice (some ⟨g,0,none⟩) n cap) n (xQ xs j vs)/\w.grownBy (w.setCells g j vs) (some g)
 |[],_,_,_,h=>⟨h,World.grownBy.refl _ _⟩
 |v::vs,j,w,xs,h=>by
  obtain⟨h1,a⟩:=h.stored j v;obtain⟨h2,b⟩:=lL vs (j+1) (w.setCell ⟨g,j,none⟩ v) (xs.set j v) h1;exact⟨h2,jI a b⟩
theorem tN{e:TypeId}{K base g n cap m:Nat}{xs:List Value}(h:w.ownsRow base e K (.slice (some ⟨g,0,none⟩) n cap) n xs)(l:m<=n):
  w.ownsRow base e K (.slice (some ⟨g,0,none⟩) m cap) m (xs.take (m*K)):=by
 have k:m*K<=n*K:=Nat.mul_le_mul_right _ l;rcases h.2 with⟨a,_⟩|⟨q,p,b,a,c,j,r,d,f,o⟩;·cases a
 .cases a;refine⟨by rw[List.length_take,h.1];omega,.inr ⟨g,cap,b,rfl,c,j,by omega,d,f,?_⟩⟩;rw[<-o,List.take_take,Nat.min_eq_left k]
theorem mY(a:i<L.length):L.flatten=(L.take i).flatten++(L[i]++(L.drop (i+1)).flatten):=by
 conv=>lhs;rw[<-List.take_append_drop i L,List.flatten_append,List.drop_eq_getElem_cons a,List.flatten_cons]
theorem xE(a:i<L.length):(L.eraseIdx i).flatten=(L.take i).flatten++(L.drop (i+1)).flatten:=by rw[List.eraseIdx_eq_take_drop_succ,List.flatten_append]
theorem yn{E:TypeId}{K base g n cap:Nat}{zs:List Value}(h:fY E K w base (some ⟨g,0,none⟩) n cap L)(s:i<n)(r:zs.length=K):
  fY E K ((w.setCells g (i*K) (L.drop (i+1)).flatten).setCells g ((n-1)*K) zs) base (some ⟨g,0,none⟩) (n-1) cap (L.eraseIdx i)/\w.grownBy ((w.setCells g (i*K) (L.drop (i+1)).flatten).setCells g ((n-1)*K) zs) (some g):=by
 obtain⟨o,b,p⟩:=h;have c:i<L.length:=by omega
 have a1:(L.take i).flatten.length=i*K:=by rw[ee _ (fun y d=>b y (List.mem_of_mem_take d)),List.length_take];congr 1;omega
 have a2:(L.drop (i+1)).flatten.length=(n-1-i)*K:=by rw[ee _ (fun y d=>b y (List.mem_of_mem_drop d)),List.length_drop];congr 1;omega
 have a3:L[i].length=K:=b _ (by simp);have a4:i*K+(n-1-i)*K=(n-1)*K:=by rw[<-Nat.add_mul];congr 1;omega
 obtain⟨e,l⟩:=lL (L.drop (i+1)).flatten (i*K) w _ p;rw[mY c,<-a1,lE _ _ _ (by rw[List.length_append];omega),a1]at e;obtain⟨f,m⟩:=lL zs ((n-1)*K) _ _ e;have a:(n-1)*K=((L.take i).flatten++(L.drop (i+1)).flatten).length:=by rw[List.length_append,a1,a2,a4]
 have k:((L[i]++(L.drop (i+1)).flatten).drop (L.drop (i+1)).flatten.length).length=K:=by rw[List.length_drop,List.length_append];omega
 rw[a,lE _ _ _ (by rw[r,k];exact Nat.le_refl _),<-a]at f;have j:=tN f (show n-1<=n by omega);refine⟨⟨by rw[List.length_eraseIdx,if_pos c,o],fun x q=>b x (List.mem_of_mem_eraseIdx q),?_⟩,jI l m⟩;rw[xE c];rw[List.append_assoc ((L.take i).flatten++_),a,List.take_left,<-a]at j;exact j
theorem sR{P:Program}(w:World)(t e m:TypeId)(z:Value)(zs:List Value)(g:P.underlying t=some (.slice e))(h:∀w,(zeroValue e).run P w=.ok z w)(k:z.cells=zs.toArray)(h1:∀v∈zs,v.oneCell'=true)(b o c:Nat)
  (d:∀j,j<zs.length->(w.cell? ⟨b,o+j,none⟩).isSome=true)(f:∀j,j<zs.length->w.frozen? ⟨b,o+j,none⟩=false):
  (Builtin.clear_ #[t] m #[.slice (some ⟨b,o,none⟩) 1 c]).run P w=.ok (.tuple #[]) (w.setCells b o zs):=by
 have l:(Builtin.zeroCells z.cells 1).toList=zs:=by
  rw[k];simp[Builtin.zeroCells];apply List.ext_getElem;·simp
  .intro i h1 h2;simp at h1;simp[Nat.mod_eq_of_lt h1,List.getElem?_eq_getElem h1]
 have a:=run_storeCells_cells (P:=P) b o zs 0 w (by simpa using d) (by simpa using f) h1;simp only[Nat.add_zero]at a;simp[Builtin.clear_,run_underlying g,h,l,a]
end
theorem tw:(Tryz.prog.info? 119).map (fun i=>(i.zero,i.size,i.bytes))=some (some (.agg #[.int .i64 0,.slice none 0 0]),2,32):=by kernel_rfl
theorem CH(w:World):(zeroValue 119).run Tryz.prog w=.ok (.agg #[.int .i64 0,.slice none 0 0]) w:=by kernel_rfl
theorem xr{w:World}{base g n cap:Nat}{L:List (List Value)}(i:Nat)(o:i<n)(h:fY 119 2 w base (some ⟨g,0,none⟩) n cap L)(h1:∀r∈L,∀u∈r,u.oneCell'=true):
  Calls Tryz.prog 112 #[.slice (some ⟨g,0,none⟩) n cap,.int .i64 (i:Int),.int .i64 ((i+1:Nat):Int)] w fun e J=>
   e=.returned (.slice (some ⟨g,0,none⟩) (n-1) cap)/\fY 119 2 J base (some ⟨g,0,none⟩) (n-1) cap (L.eraseIdx i)/\w.grownBy J (some g):=by
 have G:=h.sl
 have ab:=G.le
 have ae:=G.max
 obtain⟨X,Q,af,W,ag⟩:=info_parts tw
 have R:=hI (yn (E:=119) (K:=2) (w:=w.drew) (i:=i) (zs:=[.int .i64 0,.slice none 0 0]) (h.ext (db.drew w)) o rfl)
 have Z:Hid (L.length=n):=hI h.1
 obtain⟨a,k⟩:∃a,a=(L.drop (i+1)).flatten:=⟨_,rfl⟩
 have p:a.length=(n-(i+1))*2:=by rw[k,ee _ (fun y x=>h.2.1 y (List.mem_of_mem_drop x)),List.length_drop,h.1]
 have l:∀j v,L.flatten[j]? =some v->w.cell? ⟨g,j,none⟩=some v:=fun j v V=>by
  have:=h.2.2.cells (g:=g) rfl j v V;rw[Addr.add_lit]at this;simpa using this
 have P:L.flatten.length=n*2:=by rw[ee _ h.2.1,h.1]
 have m:∀j,w.frozen? ⟨g,j,none⟩=false:=h.2.2.frozenAt
 obtain⟨A,B,T⟩:∃A:Addr,gI 2 (some ⟨g,0,none⟩) cap (i+1)=some A/\Hid (∀t u,a[t]? =some u->w.drew.cell? (A.add t)=some u):=by
  unfold gI;by_cases D:cap=i+1
  .refine⟨⟨g,0,none⟩,by rw[if_pos D],hI (fun t u b=>?_)⟩;have N:a.length=0:=by rw[p];omega
   rw[List.length_eq_zero_iff.1 N]at b;simp at b
  .refine⟨⟨g,(i+1)*2,none⟩,by rw[if_neg D];simp[Addr.add_lit],hI (fun t u b=>?_)⟩;rw[Addr.add_lit];refine l _ _ ?_;rw[mY (show i<L.length by rw[h.1];exact o),<-List.append_assoc];have a1:((L.take i).flatten++L[i]'(by rw[h.1];exact o)).length=(i+1)*2:=by rw[List.length_append,ee _ (fun y x=>h.2.1 y (List.mem_of_mem_take x)),List.length_take,h.2.1 _ (by simp),h.1,Nat.min_eq_left (by omega)];omega
   rw[List.getElem?_append_right (by rw[a1];omega),a1,show(i+1)*2+t-(i+1)*2=t by omega,<-k];exact b
 have s1:Hid (a.length=(n-(i+1))*2):=hI p
 have Y:Hid (∀u∈a,u.oneCell'=true):=hI (fun u b=>by
  rw[k]at b;obtain⟨r,hr,U⟩:=List.mem_flatten.1 b
  exact h1 r (List.mem_of_mem_drop hr) u U)
 have I:Hid (∀t,t<a.length->(w.drew.cell? ⟨g,0+i*2+t,none⟩).isSome=true/\w.drew.frozen? ⟨g,0+i*2+t,none⟩=false):=hI (fun t H=>by
  refine⟨?_,m _⟩
  have s:0+i*2+t<L.flatten.length:=by omega
  show(w.cell? _).isSome=true
  rw[l _ _ (List.getElem?_eq_getElem s)]
  rfl)
 obtain⟨d,f⟩:∃d,d=w.drew.setCells g (0+i*2) a:=⟨_,rfl⟩
 have C:d=w.drew.setCells g (i*2) (L.drop (i+1)).flatten:=by rw[f,Nat.zero_add,k]
 have M:=hI f
 rw[<-C]at R
 have O:∀z c,(Builtin.clear_ #[110] z #[.slice (some ⟨g,(n-1)*2,none⟩) 1 c]).run Tryz.prog d=.ok (.tuple #[]) (d.setCells g ((n-1)*2) [.int .i64 0,.slice none 0 0]):=fun z c=>
  sR d _ _ z _ [.int .i64 0,.slice none 0 0] Tryz.underlying110 CH rfl (by simp[Value.oneCell']) g ((n-1)*2) c (fun j F=>by
   rw[f];by_cases ad:0+i*2<=(n-1)*2+j/\(n-1)*2+j<0+i*2+a.length;·obtain⟨t,H⟩:∃t,(n-1)*2+j=0+i*2+t:=⟨(n-1)*2+j-i*2,by omega⟩;rw[H,World.cell?_setCells_in g a _ _ (fun q S=>(I.out q S).1) t (by omega)];rfl
   .rw[World.cell?_setCells_out g a _ _ _ (fun _ _=>by simp only;omega)];have s:(n-1)*2+j<L.flatten.length:=by simp at F;omega
    show(w.cell? _).isSome=true;rw[l _ _ (List.getElem?_eq_getElem s)]
    rfl) (fun j F=>by rw[f,World.frozen?_setCells];exact m _)
 clear f C l P m p k h h1
 have aa:(if cap=i+1 then(some ⟨g,0,none⟩:Option Addr)else some ⟨g,(i+1)*2,none⟩)=some A:=by
  rw[<-B];unfold gI;split;·rfl
  .simp[Addr.add_lit]
 clear B
 have b1:(0:Int)<=(i:Int)+1:=by omega
 have b2:(i:Int)+1<=(n:Int):=by omega
 have b3:i<=cap:=by omega
 go_enter Tryz.func112,Tryz.ntmps112
 go_wp2_with fail
 go_region_law (refine step_append_room rfl (.tmp 22) (.tmp 25) 110 rfl 119 X 2 Tryz.underlying110 Q W g 0 i cap (by simp[Act.eval,Act.put]) A (n-(i+1)) (cap-(i+1)) a (by simp[Act.eval,Act.put]) s1.out T.out Y.out (by omega) I.out ?_;rw[<-M.o])
 rw[show i+(n-(i+1))=n-1 by omega]
 have b4:(0:Int)<=((n-1:Nat):Int):=by omega
 have b5:((n-1:Nat):Int)<=(n:Int):=by omega
 have b6:n-(n-1)=1:=by omega
 have b7:(cap=n-1)=False:=by simp;omega
 have ac:=O 0 (cap-(n-1))
 go_wp2
 go_ret
 exact⟨rfl,R.o.1,jI (gY (db.drew w) _) R.o.2⟩
section
variable{p:Option Addr} {w u:World} {cap g base n:Nat}
structure Mv (w u:World) (g:Nat) (p:Option Addr):Prop where
 os:u.os=w.os
 tape:u.tape=w.tape
 output:u.output=w.output
 size:w.heap.size<=u.heap.size
 block:∀k,k<w.heap.size->k≠g->p.map (·.block)≠some k->u.heap[k]? =w.heap[k]?
theorem Mv.refl(w:World)(g:Nat)(p:Option Addr):Mv w w g p:=⟨rfl,rfl,rfl,Nat.le_refl _,fun _ _ _ _=>rfl⟩
theorem Mv.tr{a b c:World}(h:Mv a b g p)(k:Mv b c g p):Mv a c g p:=
 ⟨k.os.trans h.os,k.tape.trans h.tape,k.output.trans h.output,Nat.le_trans h.size k.size,fun i e d f=>(k.block i (Nat.lt_of_lt_of_le e h.size) d f).trans (h.block i e d f)⟩
theorem Mv.ext(h:db w u)(g:Nat)(p:Option Addr):Mv w u g p:=⟨h.os,h.tape,h.output,h.size,fun i a _ _=>h.block i a⟩
theorem Mv.row(h:w.grownBy u (p.map (·.block)))(g:Nat):Mv w u g p:=⟨h.os,h.tape,h.output,h.size,fun i a _ b=>h.block i a (fun e=>b e.symm)⟩
theorem Mv.self(h:w.grownBy u (some g))(p:Option Addr):Mv w u g p:=⟨h.os,h.tape,h.output,h.size,fun i b a _=>h.block i b (fun e=>a (by cases e;rfl))⟩
theorem tO{E:TypeId}{K:Nat}{v:Value}{xs:List Value}(h:w.ownsRow base E K v n xs)(d:∀k,v.ownBlock=some k->u.heap[k]? =w.heap[k]?):u.ownsRow base E K v n xs:=by
 refine⟨h.1,?_⟩;rcases h.2 with e|⟨g,cap,a,rfl,b,c,r⟩;·exact .inl e
 .exact .inr ⟨g,cap,a,rfl,b,by rw[d g rfl];exact c,r⟩
theorem gK.mv{q:Option Addr}{l:List UInt8}(h:gK w base q n cap l)(k:Mv w u g p)(b:q.map (·.block)≠some g)(d:∀i,p.map (·.block)=some i->q.map (·.block)≠some i):gK u base q n cap l:=
 ⟨h.1,tO h.2 fun i c=>by
  have a:q.map (·.block)=some i:=by rwa[ea]at c
  exact k.block i (h.lt i a).2 (fun e=>b (by rw[<-e];exact a)) (fun e=>d i e a)⟩
theorem Kj{E i:TypeId}{K K' j m l:Nat}{q:Option Addr}{xs t:List Value}(h:w.ownsRow base E K (.slice p n cap) n xs)(o:w.ownsRow j i K' (.slice q m l) m t)(r:E≠i):∀k,p.map (·.block)=some k->q.map (·.block)≠some k:=by
 intro k e f;rcases h.2 with⟨c,-⟩|⟨a,_,v,c,-,s,-⟩;·cases c;simp at e
 .cases c;rcases o.2 with⟨c,-⟩|⟨b,_,x,c,-,d,-⟩;·cases c;simp at f
  .cases c;simp at e f;subst e;subst f;rw[s]at d;simp at d;exact r d.2
theorem l0{α β:Type}(f:α->β):∀(l:List α) (i:Nat),(l.eraseIdx i).map f=(l.map f).eraseIdx i
 |[],_=>rfl
 |_::_,0=>rfl
 |x::l,i+1=>by simp[l0 f l i]
structure gg where
 to:Int
 q:Option Addr
 cap:Nat
 b:List UInt8
abbrev pC(d:gg):List Value:=[.int .i64 d.to,.slice d.q d.b.length d.cap]
structure jh (w:World) (g:Nat) (p:Option Addr) (cap:Nat) (ds:List gg):Prop where
 box:dK w g g [.slice p ds.length cap]
 row:fY 119 2 w (g+1) p ds.length cap (ds.map pC)
 own:∀d∈ds,gK w (g+1) d.q d.b.length d.cap d.b
 max:ds.length<=400
 small:∀d∈ds,d.b.length<=5294
theorem jh.ext{a:List gg}(h:jh w g p cap a)(k:db w u):jh u g p cap a:=
 ⟨h.box.ext k,h.row.ext k,fun d b=>(h.own d b).ext k,h.max,h.small⟩
theorem jh.pne{a:List gg}(h:jh w g p cap a):p.map (·.block)≠some g:=fun e=>by have:=(h.row.lt g e).1;omega
theorem jh.qne{a:List gg}(h:jh w g p cap a){d:gg}(b:d∈a):d.q.map (·.block)≠some g:=fun e=>by have:=((h.own d b).lt g e).1;omega
theorem jh.qp{a:List gg}(h:jh w g p cap a){d:gg}(b:d∈a):∀k,p.map (·.block)=some k->d.q.map (·.block)≠some k:=
 Kj h.row.2.2 (h.own d b).2 (by decide)
def qk(z:Int)(n:Nat):Bool:=decide (0<=z)&&decide (z<(n:Int))
theorem uz{z:Int}(h:qk z n=true):∃i:Nat,z=(i:Int)/\i<n:=by simp[qk]at h;exact⟨z.toNat,by omega,by omega⟩
theorem xJ{i:Nat}(h:i<n):qk (i:Int) n=true:=by simp[qk,h]
def Kq(a:List gg)(z:Int):Int:=if qk z a.length then(a[z.toNat]?.map (·.to)).getD 0 else 0
def lG(a:List gg)(z:Int):List UInt8:=if qk z a.length then(a[z.toNat]?.map (·.b)).getD []else []
def qK(a:List gg)(z:Int):List gg:=if qk z a.length then a.eraseIdx z.toNat else a
theorem vV{a:List gg}(h:jh w g p cap a):
  Calls Tryz.prog 39 #[.pointer (some ⟨g,0,none⟩)] w fun e u=>e=.returned (.int .i64 (a.length:Int))/\w=u:=by have b:=h.box.c 0 _ rfl;clear h;go_enter Tryz.func39,Tryz.ntmps39;go_wp2;go_ret;simp
theorem rE{b:List gg}(h:jh w g p cap b)(z:Int):
  Calls Tryz.prog 68 #[.pointer (some ⟨g,0,none⟩),.int .i64 z] w fun e u=>e=.returned (.bool (qk z b.length))/\w=u:=by
 have I:=vV h;clear h;by_cases a:0<=z
 .have c:decide (0<=z)=true:=by simp[a]
  go_enter Tryz.func68,Tryz.ntmps68;go_wp2_with fail;refine I.mono ?_;rintro e d ⟨rfl,rfl⟩;clear I;go_wp2;go_ret;simp[qk,a]
 .have c:decide (0<=z)=false:=by simp[a]
  go_enter Tryz.func68,Tryz.ntmps68;go_wp2;go_ret;simp[qk];omega
theorem Ip{a:List gg}(h:jh w g p cap a)(z:Int):
  Calls Tryz.prog 85 #[.pointer (some ⟨g,0,none⟩),.int .i64 z] w fun e u=>e=.returned (.int .i64 (Kq a z))/\w=u:=by
 have I:=rE h z;cases c:qk z a.length;·rw[c]at I;have R:Hid (Kq a z=0):=hI (by simp[Kq,c]);clear c h;go_enter Tryz.func85,Tryz.ntmps85;go_wp2_with fail;refine I.mono ?_;rintro e l ⟨rfl,rfl⟩;clear I;go_wp2;go_ret;rw[R.o];simp
 .rw[c]at I;obtain⟨i,rfl,j⟩:=uz c;obtain⟨b,o,k,d⟩:=h.row.sl.cells (by omega);have m:=h.box.c 0 _ rfl;subst k;have f:(a.map pC)[i]? =some (pC a[i]):=by simp[j]
  have q:w.cell? ⟨b,o+i*2,none⟩=some (.int .i64 a[i].to):=d i _ f 0 _ rfl;have R:Hid (Kq a i=a[i].to):=hI (by simp[Kq,c,j]);have h1:(i:Int)<(a.length:Int):=by omega
  clear c h d f;go_enter Tryz.func85,Tryz.ntmps85;go_wp2_with fail;refine I.mono ?_;rintro e l ⟨rfl,rfl⟩;clear I;go_wp2;go_ret;rw[R.o];simp
theorem oM{a:List gg}(h:jh w g p cap a)(z:Int):
  Calls Tryz.prog 47 #[.pointer (some ⟨g,0,none⟩),.int .i64 z] w fun e u=>∃f d,e=.returned (.tuple #[.slice f (lG a z).length d,.bool (qk z a.length)])/\gK u w.heap.size f (lG a z).length d (lG a z)/\db w u:=by
 have I:=rE h z;cases c:qk z a.length;·rw[c]at I;have R:Hid (lG a z=[]):=hI (by simp[lG,c]);clear c h;go_enter Tryz.func47,Tryz.ntmps47;go_wp2_with fail;refine I.mono ?_;rintro e m ⟨rfl,rfl⟩;clear I;go_wp2;go_ret2;rw[R.o];exact⟨none,0,rfl,gK.nil _ _,db.rfl' _⟩
 .rw[c]at I;obtain⟨i,rfl,l⟩:=uz c;obtain⟨b,o,r,j⟩:=h.row.sl.cells (by omega);have s:=h.box.c 0 _ rfl;subst r;have k:(a.map pC)[i]? =some (pC a[i]):=by simp[l]
  have t:w.cell? ⟨b,o+i*2+1,none⟩=some (.slice a[i].q a[i].b.length a[i].cap):=j i _ k 1 _ rfl;have R:Hid (lG a i=a[i].b):=hI (by simp[lG,c,l]);have h1:(i:Int)<(a.length:Int):=by omega
  have C:=ow (h.own a[i] (by simp)).sl (by have:=h.small a[i] (by simp);omega);clear c h j k;go_enter Tryz.func47,Tryz.ntmps47;go_wp2_with fail;refine I.mono ?_;rintro e m ⟨rfl,rfl⟩;clear I;go_wp2_with fail;refine C.mono ?_;rintro e m ⟨f,d,rfl,H,X⟩;clear C;have H:=hI H;have X:=hI X;go_wp2;go_ret2;rw[R.o];exact⟨f,d,rfl,H.o,X.o⟩
theorem By{a:List gg}(h:jh w g p cap a)(z:Int):
  Calls Tryz.prog 86 #[.pointer (some ⟨g,0,none⟩),.int .i64 z] w fun e u=>e=.returned (.bool (qk z a.length))/\jh u g p cap (qK a z)/\Mv w u g p:=by
 have I:=rE h z;cases c:qk z a.length;·rw[c]at I;have R:Hid (qK a z=a):=hI (by simp[qK,c]);have D:=hI h;clear c h;go_enter Tryz.func86,Tryz.ntmps86;go_wp2_with fail;refine I.mono ?_;rintro e l ⟨rfl,rfl⟩;clear I;go_wp2;go_ret;rw[R.o];exact⟨rfl,D.o,Mv.refl _ _ _⟩
 .rw[c]at I;obtain⟨i,rfl,q⟩:=uz c
  obtain⟨b,F⟩:∃b,p=some ⟨b,0,none⟩:=by
   rcases h.row.2.2.2 with⟨t,L⟩|⟨b,_,_,t,-⟩;·omega
   .cases t;exact⟨b,rfl⟩
  subst F;have x:=h.box.c 0 _ rfl;have y:=h.box.f;have E:=h.max;have K:wrap64 ((i:Int)+1)=((i+1:Nat):Int):=by unfold wrap64;omega
  have R:Hid (qK a i=a.eraseIdx i):=hI (by simp[qK,c]);have C:=xr i q h.row (by simp[pC,Value.oneCell']);have D:=hI h;clear c h E;go_enter Tryz.func86,Tryz.ntmps86;go_wp2_with fail;refine I.mono ?_;rintro e l ⟨rfl,rfl⟩;clear I;go_wp2_with fail;refine C.mono ?_;rintro e l ⟨rfl,H,X⟩;clear C;have s:b≠g:=fun e=>D.o.pne (by rw[e];rfl);have B:=(D.o.box.other X (by simpa using s));have G:=B.c 0 _ rfl;have J:=B.f;have B:=hI B;have H:=hI H;have X:=hI X;clear x y;go_wp2;go_ret;rw[R.o];have r:(a.eraseIdx i).length=a.length-1:=by rw[List.length_eraseIdx,if_pos q]
  have m:Mv _ _ g (some ⟨b,0,none⟩):=Mv.row (p:=some ⟨b,0,none⟩) X.o g;have P:=B.o.put 0 (.slice (some ⟨b,0,none⟩) (a.length-1) cap);have o:=Mv.self (dP (dD l (some g)) 0 (.slice (some ⟨b,0,none⟩) (a.length-1) cap)) (some ⟨b,0,none⟩);have v:=H.o.kept (dP (dD _ (some g)) 0 (.slice (some ⟨b,0,none⟩) (a.length-1) cap)) (fun k A=>by cases A;simpa using s);refine⟨rfl,⟨by rw[r];exact P,by rw[r];rw[l0];exact v,fun d f=>?_,by have:=D.o.max;omega,fun d f=>D.o.small d (List.mem_of_mem_eraseIdx f)⟩,m.tr o⟩;have j:=List.mem_of_mem_eraseIdx f;exact(D.o.own d j).mv (m.tr o) (D.o.qne j) (D.o.qp j)
theorem EJ(w:World):Calls Tryz.prog 81 #[] w fun e u=>e=.returned (.pointer (some ⟨w.heap.size,0,none⟩))/\jh u w.heap.size none 0 []/\db w u:=by go_enter Tryz.func81,Tryz.ntmps81;go_wp2;go_ret;exact⟨rfl,⟨dK.new w w.heap.size #[.slice none 0 0] [.slice none 0 0] 112 _ rfl (Nat.le_refl _) rfl,fY.nil _ _ _ _,(fun d a=>by cases a),by decide,fun d a=>by cases a⟩,db.alloc w _⟩
end
section
abbrev Ow:=Nat->Nat
variable{C:Nat->Prop} {L:List (List Value)} {p:Option Addr} {o D:Ow} {w u:World} {vs:List Value} {K cap c b n g:Nat} {E:TypeId}
def ox(j:Nat):Nat:=if 1<=j/\j<=32/\2<=(j-1)%4 then 32*((j-1)/4)+13 else 1
def Cl(w:World)(o:Ow):Prop:=∀i,w.heap.size<=i->o i=0
structure Fm (C:Nat->Prop) (o D:Ow) (w u:World):Prop where
 os:u.os=w.os
 tape:u.tape=w.tape
 output:u.output=w.output
 size:w.heap.size<=u.heap.size
 col:∀i,i<w.heap.size->D i=o i\/(o i≠1/\C (o i)/\D i=0)
 blk:∀i,i<w.heap.size->o i≠1->¬C (o i)->u.heap[i]? =w.heap[i]?
 cel:∀i j,i<w.heap.size->o i=1->¬C (ox j)->u.cell? ⟨i,j,none⟩=w.cell? ⟨i,j,none⟩
 frz:∀i j,i<w.heap.size->o i=1->u.frozen? ⟨i,j,none⟩=w.frozen? ⟨i,j,none⟩
 cl:Cl u D
theorem Fm.refl(h:Cl w o):Fm C o o w w:=
 ⟨rfl,rfl,rfl,Nat.le_refl _,fun _ _=> .inl rfl,fun _ _ _ _=>rfl,fun _ _ _ _ _=>rfl,fun _ _ _ _=>rfl,h⟩
theorem Fm.ext(h:Cl w o)(k:db w u):Fm C o o w u:=
 ⟨k.os,k.tape,k.output,k.size,fun _ _=> .inl rfl,fun i a _ _=>k.block i a,fun i j a _ _=>World.cell?_of_block (k.block i a),fun i j a _=>World.frozen?_of_block (k.block i a),fun i a=>h i (Nat.le_trans k.size a)⟩
theorem Fm.tr{q v:Ow}{a b c:World}(h:Fm C o q a b)(k:Fm C q v b c)(x:¬C 0):Fm C o v a c:=by
 have A:=h.size;refine⟨k.os.trans h.os,k.tape.trans h.tape,k.output.trans h.output,Nat.le_trans h.size k.size,fun i d=>?_,fun i d h1 l=>?_,fun i j d h1 l=>?_,fun i j d h1=>?_,k.cl⟩
 .rcases h.col i d with e|⟨m,r,s⟩
  .rcases k.col i (by omega)with f|f;·exact .inl (f.trans e)
   .rw[e]at f;exact .inr f
  .rcases k.col i (by omega)with f|⟨y,t,z⟩;·exact .inr ⟨m,r,f.trans s⟩
   .rw[s]at t;exact absurd t x
 .have e:q i=o i:=by
   rcases h.col i d with e|⟨-,r,-⟩;·exact e
   .exact absurd r l
  exact(k.blk i (by omega) (by rw[e];exact h1) (by rw[e];exact l)).trans (h.blk i d h1 l)
 .have e:q i=1:=by
   rcases h.col i d with e|⟨m,-,-⟩;·exact e.trans h1
   .exact absurd h1 m
  exact(k.cel i j (by omega) e l).trans (h.cel i j d h1 l)
 .have e:q i=1:=by
   rcases h.col i d with e|⟨m,-,-⟩;·exact e.trans h1
   .exact absurd h1 m
  exact(k.frz i j (by omega) e).trans (h.frz i j d h1)
theorem Fm.mono{C':Nat->Prop}(h:Fm C o D w u)(f:∀c,C c->C' c):Fm C' o D w u:=
 ⟨h.os,h.tape,h.output,h.size,fun i d=>(h.col i d).imp id (fun⟨a,b,c⟩=>⟨a,f _ b,c⟩),fun i d h1 h2=>h.blk i d h1 (fun e=>h2 (f _ e)),fun i j d h1 h2=>h.cel i j d h1 (fun e=>h2 (f _ e)),h.frz,h.cl⟩
def gH(o:Ow)(b c:Nat):Ow:=fun i=>if i=b then c else o i
theorem et(o:Ow)(b c:Nat):gH o b c b=c:=by simp[gH]
theorem dS{i:Nat}(h:i≠b):gH o b c i=o i:=by simp[gH,h]
theorem Fm.paint(h:Fm C o D w u)(c:Nat)(d:w.heap.size<=b)(e:b<u.heap.size):Fm C o (gH D b c) w u:=
 ⟨h.os,h.tape,h.output,h.size,fun i a=>by rw[dS (by omega)];exact h.col i a,h.blk,h.cel,h.frz,fun i a=>by rw[dS (by omega)];exact h.cl i a⟩
theorem Fm.free(h:Fm C o D w u)(h1:D b≠1)(d:C (D b)):Fm C o (gH D b 0) w u:=
 ⟨h.os,h.tape,h.output,h.size,fun i a=>by
  by_cases e:i=b
  .subst e;rcases h.col i a with f|⟨j,k,l⟩;·rw[f]at h1 d;exact .inr ⟨h1,d,et _ _ _⟩
   .exact .inr ⟨j,k,et _ _ _⟩
  .rw[dS e];exact h.col i a,h.blk,h.cel,h.frz,fun i a=>by
  by_cases e:i=b;·subst e;exact et _ _ _
  .rw[dS e]
   exact h.cl i a⟩
theorem Fm.grown{row:Option Nat}(h:Cl w o)(k:w.grownBy u row)(hr:∀g,row=some g->o g≠1/\C (o g)):Fm C o o w u:=
 ⟨k.os,k.tape,k.output,k.size,fun _ _=> .inl rfl,fun i a _ d=>k.block i a (fun e=>d (hr i e.symm).2),fun i j a h1 _=>World.cell?_of_block (k.block i a (fun e=>(hr i e.symm).1 h1)),fun i j a h1=>World.frozen?_of_block (k.block i a (fun e=>(hr i e.symm).1 h1)),fun i a=>h i (Nat.le_trans k.size a)⟩
theorem Fm.cell1(h:Cl w o){j:Nat}(v:Value)(h1:o g=1)(d:C (ox j)):Fm C o o w (w.setCell ⟨g,j,none⟩ v):=by
 have G:=dP (dD w (some g)) j v;refine⟨G.os,G.tape,G.output,G.size,fun _ _=> .inl rfl,fun i a h2 _=>G.block i a (fun e=>by cases e;exact h2 h1),fun i k a h2 f=>?_,fun i k a h2=>by simp,fun i a=>h i (Nat.le_trans G.size a)⟩;by_cases e:i=g/\k=j;·obtain⟨rfl,rfl⟩:=e;exact absurd d f
 .exact World.cell?_setCell_other (h:=by simp<;>omega) ..
theorem Fm.all(h:Fm C (fun _=>0) D w u)(a:¬C 0):Below w.heap.size w u:=
 ⟨h.os,h.tape,h.output,h.size,fun i d=>h.blk i d (by decide) a⟩
theorem Fm.drew(h:Cl w o):Fm C o o w w.drew:=Fm.ext h (db.drew w)
theorem Cl.ext(h:Cl w o)(k:db w u):Cl u o:=fun i a=>h i (Nat.le_trans k.size a)
theorem Fm.at(h:Fm C o D w u){i:Nat}(f:i<w.heap.size)(d:¬C (o i)):D i=o i:=by
 rcases h.col i f with e|⟨-,a,-⟩;·exact e
 .exact absurd a d
structure dq (w:World) (o:Ow) (c g:Nat) (vs:List Value):Prop where
 col:o g=c
 box:dK w 0 g vs
theorem dq.fr(h:dq w o c g vs)(k:Fm C o D w u)(h1:c≠1)(d:¬C c):dq u D c g vs:=by have a:=k.blk g h.box.hi (by rw[h.col];exact h1) (by rw[h.col];exact d);refine⟨(k.at h.box.hi (by rw[h.col];exact d)).trans h.col,h.box.lo,Nat.lt_of_lt_of_le h.box.hi k.size,fun j v e=>(World.cell?_of_block a).trans (h.box.c j v e),fun j=>?_⟩;have:=h.box.f j;simp only[World.frozen?,a]at this⊢;exact this
theorem dq.ext(h:dq w o c g vs)(k:db w u):dq u o c g vs:=⟨h.col,h.box.ext k⟩
theorem dq.put(h:dq w o c g vs)(j:Nat)(v:Value):dq (w.setCell ⟨g,j,none⟩ v) o c g (vs.set j v):=⟨h.col,h.box.put j v⟩
theorem dq.paint{d:Nat}(h:dq w o c g vs)(a:g≠b):dq w (gH o b d) c g vs:=⟨(dS a).trans h.col,h.box⟩
structure dQ (E:TypeId) (K:Nat) (w:World) (o:Ow) (c:Nat) (p:Option Addr) (n cap:Nat) (L:List (List Value)):Prop where
 row:fY E K w 0 p n cap L
 col:∀k,p.map (·.block)=some k->o k=c
theorem fY.fr{base:Nat}(h:fY E K w base p n cap L)(k:Fm C o D w u)(j:∀i,p.map (·.block)=some i->o i≠1/\¬C (o i)):fY E K u base p n cap L:=by
 refine⟨h.1,h.2.1,h.2.2.1,?_⟩;rcases h.2.2.2 with q|⟨g,c,e,d,f,l,r⟩;·exact .inl q
 .have a:p.map (·.block)=some g:=by cases d;rfl
  have m:g<w.heap.size:=(h.lt g a).2;obtain⟨h1,h2⟩:=j g a;exact .inr ⟨g,c,e,d,f,by rw[k.blk g m h1 h2];exact l,r⟩
theorem dQ.fr(h:dQ E K w o c p n cap L)(k:Fm C o D w u)(h1:c≠1)(d:¬C c):dQ E K u D c p n cap L:=
 ⟨h.row.fr k (fun i a=>by rw[h.col i a];exact⟨h1,d⟩),fun i a=>(k.at (h.row.lt i a).2 (by rw[h.col i a];exact d)).trans (h.col i a)⟩
theorem dQ.ext(h:dQ E K w o c p n cap L)(k:db w u):dQ E K u o c p n cap L:=⟨h.row.ext k,h.col⟩
theorem dQ.nil(E:TypeId)(K:Nat)(w:World)(o:Ow)(c:Nat):dQ E K w o c none 0 0 []:=⟨fY.nil _ _ _ _,fun k a=>by cases a⟩
theorem dQ.paint{d:Nat}(h:dQ E K w o c p n cap L)(f:p.map (·.block)≠some b):dQ E K w (gH o b d) c p n cap L:=
 ⟨h.row,fun k a=>(dS (fun e=>f (by rw[<-e];exact a))).trans (h.col k a)⟩
structure fJ (K:Nat) (w:World) (o:Ow) (p:Option Addr) (n cap:Nat) (L:List (List Value)):Prop where
 sl:SlS K w p n cap L
 lt:∀k,p.map (·.block)=some k->k<w.heap.size/\o k=0
theorem SlS.fr(h:SlS K w p n cap L)(k:Fm C o D w u)(d:∀i,p.map (·.block)=some i->i<w.heap.size/\o i≠1/\¬C (o i)):SlS K u p n cap L:=
 ⟨h.len,h.le,h.max,h.nil,h.wid,fun l=>by
  obtain⟨b,f,rfl,e⟩:=h.cells l;obtain⟨a,h1,h2⟩:=d b rfl
  exact⟨b,f,rfl,fun i x q j v m=>by
   have:=e i x q j v m
   rwa[World.cell?_of_block (k.blk b a h1 h2)]⟩⟩
theorem fJ.fr(h:fJ K w o p n cap L)(k:Fm C o D w u)(e:¬C 0):fJ K u D p n cap L:=
 ⟨h.sl.fr k (fun i d=>by obtain⟨a,b⟩:=h.lt i d;rw[b];exact⟨a,by decide,e⟩),fun i d=>by
  obtain⟨a,b⟩:=h.lt i d
  exact⟨Nat.lt_of_lt_of_le a k.size,(k.at a (by rw[b];exact e)).trans b⟩⟩
theorem fJ.ext(h:fJ K w o p n cap L)(k:db w u):fJ K u o p n cap L:=⟨h.sl.ext k,fun i a=>⟨Nat.lt_of_lt_of_le (h.lt i a).1 k.size,(h.lt i a).2⟩⟩
theorem fJ.empty(K:Nat)(w:World)(o:Ow):fJ K w o none 0 0 []:=⟨SlS.empty K w,fun k a=>by cases a⟩
theorem fJ.fresh{base:Nat}(h:fY E K u base p n cap L)(e:Cl w o)(d:w.heap.size<=base):fJ K u o p n cap L:=
 ⟨h.sl,fun k a=>⟨(h.lt k a).2,e k (Nat.le_trans d (h.lt k a).1)⟩⟩
end
section
variable{r:List Value} {w:World} {o:Ow} {u D G:Value} {c g:Nat}
theorem Dn(b:dq w o c g (u::D::G::r)):w.cell? ⟨g,0,none⟩=some u/\w.cell? ⟨g,1,none⟩=some D/\w.cell? ⟨g,2,none⟩=some G:=⟨b.box.c 0 _ rfl,b.box.c 1 _ rfl,b.box.c 2 _ rfl⟩
theorem Jl{a:Value}(b:dq w o c g (u::D::G::a::r)):w.cell? ⟨g,0,none⟩=some u/\w.cell? ⟨g,1,none⟩=some D/\w.cell? ⟨g,2,none⟩=some G/\w.cell? ⟨g,3,none⟩=some a:=⟨b.box.c 0 _ rfl,b.box.c 1 _ rfl,b.box.c 2 _ rfl,b.box.c 3 _ rfl⟩
theorem nx{a d e:Value}(b:dq w o c g (u::D::G::a::d::e::r)):w.cell? ⟨g,0,none⟩=some u/\w.cell? ⟨g,1,none⟩=some D/\w.cell? ⟨g,2,none⟩=some G/\w.cell? ⟨g,3,none⟩=some a/\w.cell? ⟨g,4,none⟩=some d/\w.cell? ⟨g,5,none⟩=some e:=⟨b.box.c 0 _ rfl,b.box.c 1 _ rfl,b.box.c 2 _ rfl,b.box.c 3 _ rfl,b.box.c 4 _ rfl,b.box.c 5 _ rfl⟩
theorem pm{a d e f:Value}(b:dq w o c g (u::D::G::a::d::e::f::r)):w.cell? ⟨g,0,none⟩=some u/\w.cell? ⟨g,1,none⟩=some D/\w.cell? ⟨g,2,none⟩=some G/\w.cell? ⟨g,3,none⟩=some a/\w.cell? ⟨g,4,none⟩=some d/\w.cell? ⟨g,5,none⟩=some e/\w.cell? ⟨g,6,none⟩=some f:=⟨b.box.c 0 _ rfl,b.box.c 1 _ rfl,b.box.c 2 _ rfl,b.box.c 3 _ rfl,b.box.c 4 _ rfl,b.box.c 5 _ rfl,b.box.c 6 _ rfl⟩
theorem i9{f h i j k l m a d e:Value}(b:dq w o c g (u::D::G::f::h::i::j::k::l::m::a::d::e::r)):w.cell? ⟨g,0,none⟩=some u/\w.cell? ⟨g,1,none⟩=some D/\w.cell? ⟨g,2,none⟩=some G/\w.cell? ⟨g,3,none⟩=some f/\w.cell? ⟨g,4,none⟩=some h/\w.cell? ⟨g,5,none⟩=some i/\w.cell? ⟨g,6,none⟩=some j/\w.cell? ⟨g,7,none⟩=some k/\w.cell? ⟨g,8,none⟩=some l/\w.cell? ⟨g,9,none⟩=some m/\w.cell? ⟨g,10,none⟩=some a/\w.cell? ⟨g,11,none⟩=some d/\w.cell? ⟨g,12,none⟩=some e:=⟨b.box.c 0 _ rfl,b.box.c 1 _ rfl,b.box.c 2 _ rfl,b.box.c 3 _ rfl,b.box.c 4 _ rfl,b.box.c 5 _ rfl,b.box.c 6 _ rfl,b.box.c 7 _ rfl,b.box.c 8 _ rfl,b.box.c 9 _ rfl,b.box.c 10 _ rfl,b.box.c 11 _ rfl,b.box.c 12 _ rfl⟩
end
section
variable{C:Nat->Prop} {vs:List Value} {o:Ow} {c g:Nat}
theorem Fm.put{w:World}(h:Cl w o)(b:dq w o c g vs)(h1:c≠1)(a:C c)(j:Nat)(v:Value):Fm C o o w (w.setCell ⟨g,j,none⟩ v):=
 Fm.grown h (dP (dD w (some g)) j v) (fun k d=>by cases d;rw[b.col];exact⟨h1,a⟩)
theorem Fm.fill{w:World}{us:List Value}(h:Cl w o)(b:dq w o c g vs)(h1:c≠1)(a:C c):Fm C o o w (dL w g 0 us):=
 Fm.grown h (eU g us 0 w w (dD w (some g))) (fun k d=>by cases d;rw[b.col];exact⟨h1,a⟩)
theorem dq.fill{w:World}{us:List Value}(h:dq w o c g us)(a:vs.length<=us.length):dq (dL w g 0 vs) o c g vs:=⟨h.col,h.box.fill a⟩
theorem dq.made(w:World)(o:Ow)(c:Nat)(a:Array Value)(vs:List Value)(t:TypeId)(b:a.toList=vs):dq (w.alloc (.cells a t)) (gH o w.heap.size c) c w.heap.size vs:=
 ⟨et _ _ _,dK.new w 0 a vs t _ rfl (Nat.zero_le _) b⟩
theorem Fm.made{w:World}(h:Cl w o)(b:Obj)(c:Nat):Fm C o (gH o w.heap.size c) w (w.alloc b):=
 (Fm.ext h (db.alloc w b)).paint c (Nat.le_refl _) (by simp)
theorem gd{w:World}{a:Array Value}{t:TypeId}(b:a.toList=vs):∀(j:Nat) (u:Value),vs[j]? =some u->(w.alloc (.cells a t)).cell? ⟨w.heap.size,j,none⟩=some u:=fun j u d=>by rw[World.cell?_alloc_mark,<-Array.getElem?_toList,b,d]
section
variable{P:Program} {w:World}
theorem rQ{E:TypeId}{K:Nat}{o:Ow}{c n cap:Nat}{p:Option Addr}{L:List (List Value)}{r:List Value}{C:Nat->Prop}{g f:Nat}{b:World}(m:Cl w o)(row:dQ E K w o c p n cap L)(hr:r.length=K)(h1:c≠1)(l:C c)
  (h2:b.ownsRow 0 E K (.slice (some ⟨g,0,none⟩) (n+1) f) (n+1) (L.flatten++r))(h3:w.grownBy b (Value.slice p n cap).ownBlock)(h4:(Value.slice p n cap).ownBlock=some g\/g=w.heap.size)(h5:g<b.heap.size):
  ∃j,dQ E K b j c (some ⟨g,0,none⟩) (n+1) f (L++[r])/\Fm C o j w b:=by
 rw[ea]at h3 h4;have h:Fm C o o w b:=Fm.grown m h3 (fun k d=>by rw[row.col k d];exact⟨h1,l⟩);refine⟨gH o g c,⟨⟨by simp[row.row.1],fun x a=>?_,?_⟩,fun k d=>?_⟩,?_⟩
 .rcases List.mem_append.1 a with a|a;·exact row.row.2.1 x a
  .simp at a;subst a;exact hr
 .have e:(L++[r]).flatten=L.flatten++r:=by simp
  rw[e];exact h2
 .simp at d;subst d;exact et _ _ _
 .rcases h4 with h4|h4
  .have q:=row.col g h4
   have:gH o g c=o:=by
    funext i;unfold gH;split;·rename_i e;subst e;exact q.symm
    .rfl
   rw[this];exact h
  .exact h.paint c (by omega) h5
theorem iN{ops:Array Oper}{op:Oper}{a:Act}{K':Act->World->Prop}{Q:Exit->Act->World->Prop}{F:Prop}(H:op.guard=none)(s x:Operand)(t:TypeId)
  (N:op.op=.call {callee:=.builtin .append,args:=#[s,x],argTypes:=#[t,t]})
  (E:TypeId)(K e:Nat)(z:Value)(U:P.underlying t=some (.slice E))(b:(P.info? E).map (fun i=>(i.zero,i.size,i.bytes))=some (some z,K,e))(X:z.cells.size=K)(y:0<K)
  {o:Ow}{c n cap:Nat}{p:Option Addr}{L:List (List Value)}(G:Cl w o)(row:dQ E K w o c p n cap L)(S:a.eval s=.slice p n cap)
  (B m:Nat)(r:List Value)(V:a.eval x=.slice (some ⟨B,0,none⟩) 1 m)(hr:r.length=K)(J:∀j u,r[j]? =some u->w.cell? ⟨B,j,none⟩=some u)(O:∀u∈r,u.oneCell'=true)
  (Y:n<=1000000)(A:e<=100000)(h1:c≠1)(C:Nat->Prop)(v:C c)
  (h:∀q f k d,dQ E K d k c q (n+1) f (L++[r])->Fm C o k w d->K' (a.put op.dst (.slice q (n+1) f)) d):
  if Region.wanted op (yielded ops a.tmps)=true then Oper.wp P op a w K' Q else F:=by
 cases l:P.info? E with
 |none=>rw[l]at b;cases b
 |some i=>
  rw[l]at b;simp at b;obtain⟨W,T,D⟩:=b;refine step_append_lies w H s x t N 0 E i z K e U l W T D X y (.slice p n cap) n L.flatten S row.row.2.2 ⟨B,0,none⟩ 1 m r V (by omega) (fun j u I=>?_) O (by omega) (by unfold maxLen;omega) ?_ (Nat.zero_le _) w.heap.size rfl (fun g f d h2 h3 h4 h5=>?_)
  .have:(⟨B,0,none⟩:Addr).add j=⟨B,j,none⟩:=by unfold Addr.add;split<;>simp_all
   rw[this];exact J j u I
  .calc (n+1)*e<=1000001*100000:=Nat.mul_le_mul (by omega) A
    _<=140737488355328:=by decide
  .obtain⟨k,R,M⟩:=rQ G row hr h1 v h2 h3 h4 h5;exact h _ f k d R M
theorem lW{ops:Array Oper}{rest:List Oper}{op:Oper}{a:Act}{Q:Exit->Act->World->Prop}(G:op.guard=none)(s x:Operand)(t:TypeId)
  (J:op.op=.call {callee:=.builtin .append,args:=#[s,x],argTypes:=#[t,t]})
  (E:TypeId)(K e:Nat)(z:Value)(T:P.underlying t=some (.slice E))(b:(P.info? E).map (fun i=>(i.zero,i.size,i.bytes))=some (some z,K,e))(W:z.cells.size=K)(y:0<K)
  {o:Ow}{c n cap:Nat}{p:Option Addr}{L:List (List Value)}(F:Cl w o)(row:dQ E K w o c p n cap L)(O:a.eval s=.slice p n cap)
  (B m:Nat)(r:List Value)(U:a.eval x=.slice (some ⟨B,0,none⟩) 1 m)(hr:r.length=K)(I:∀j u,r[j]? =some u->w.cell? ⟨B,j,none⟩=some u)(N:∀u∈r,u.oneCell'=true)
  (X:n<=1000000)(A:e<=100000)(h1:c≠1)(C:Nat->Prop)(v:C c)
  (h:∀q f k d,dQ E K d k c q (n+1) f (L++[r])->Fm C o k w d->wpList P ops Q rest (a.put op.dst (.slice q (n+1) f)) d):
  wpList P ops Q (op::rest) a w:=by
 cases l:P.info? E with
 |none=>rw[l]at b;cases b
 |some i=>
  rw[l]at b;simp at b;obtain⟨V,S,D⟩:=b;refine wpList_append_lies w G s x t J 0 E i z K e T l V S D W y (.slice p n cap) n L.flatten O row.row.2.2 ⟨B,0,none⟩ 1 m r U (by omega) (fun j u H=>?_) N (by omega) (by unfold maxLen;omega) ?_ (Nat.zero_le _) w.heap.size rfl (fun g f d h2 h3 h4 h5=>?_)
  .have:(⟨B,0,none⟩:Addr).add j=⟨B,j,none⟩:=by unfold Addr.add;split<;>simp_all
   rw[this];exact I j u H
  .calc (n+1)*e<=1000001*100000:=Nat.mul_le_mul (by omega) A
    _<=140737488355328:=by decide
  .obtain⟨k,R,M⟩:=rQ F row hr h1 v h2 h3 h4 h5;exact h _ f k d R M
end
theorem Fm.back{l:Ow}{w f:World}(h:Fm C o l w f)(n:g<w.heap.size)(d:o g=c)(h1:c≠1)(m:C c)(j:Nat)(v:Value):Fm C o (gH l g c) w (f.setCell ⟨g,j,none⟩ v):=by
 have G:=dP (dD f (some g)) j v;refine⟨G.os.trans h.os,G.tape.trans h.tape,G.output.trans h.output,Nat.le_trans h.size G.size,fun i a=>?_,fun i a h2 h3=>?_,fun i k a h2 h3=>?_,fun i k a h2=>?_,fun i a=>?_⟩
 .by_cases e:i=g;·subst e;rw[et];exact .inl d.symm
  .rw[dS e];exact h.col i a
 .have b:i≠g:=fun e=>by subst e;rw[d]at h3;exact h3 m
  exact(G.block i (Nat.lt_of_lt_of_le a h.size) (fun e=>b (by cases e;rfl))).trans (h.blk i a h2 h3)
 .have b:i≠g:=fun e=>by subst e;rw[d]at h2;exact h1 h2
  exact(World.cell?_of_block (G.block i (Nat.lt_of_lt_of_le a h.size) (fun e=>b (by cases e;rfl)))).trans (h.cel i k a h2 h3)
 .have b:i≠g:=fun e=>by subst e;rw[d]at h2;exact h1 h2
  exact(World.frozen?_of_block (G.block i (Nat.lt_of_lt_of_le a h.size) (fun e=>b (by cases e;rfl)))).trans (h.frz i k a h2)
 .have:i≠g:=fun e=>by have:=h.size;have:=G.size;omega
  rw[dS this];exact h.cl i (Nat.le_trans G.size a)
theorem fJ.drop{K:Nat}{w:World}{o:Ow}{p:Option Addr}{n cap:Nat}{L:List (List Value)}(h:fJ K w o p n cap L)(k:Nat)(d:k<=n):fJ K w o (gI K p cap k) (n-k) (cap-k) (L.drop k):=
 ⟨h.sl.drop k d,fun i b=>h.lt i (by
  unfold gI at b;split at b;·exact b
  .cases p with
   |none=>simp at b
   |some a=>simp[Addr.add]at b⊢;split at b<;>exact b)⟩
theorem ly{E:TypeId}{K:Nat}{i w b:World}{h a:Ow}{d j n cap:Nat}{p:Option Addr}{L:List (List Value)}(f:¬C 0)(k:Fm C h o i w)(B:dq b a c g vs)(e:Fm (fun x=>x=d) o a w b)(s:dQ E K b a d p n cap L)(h1:c≠1)(h2:d≠1)(l:C c)(m:C d)(q:d≠c)(v:Value):
  dq (b.setCell ⟨g,j,none⟩ v) a c g (vs.set j v)/\dQ E K (b.setCell ⟨g,j,none⟩ v) a d p n cap L/\Fm C h a i (b.setCell ⟨g,j,none⟩ v):=
 ⟨B.put j v,s.fr (Fm.put (C:=fun x=>x=c) e.cl B h1 rfl j v) h2 q,(k.tr (e.mono (fun x r=>by rw[r];exact m)) f).tr (Fm.put e.cl B h1 l j v) f⟩
end
section
variable{P:Int->Int->Bool}
def gS(t:Int):Prop:=0<=t/\t<128
def dE(i:Int):Prop:=1<=i/\i<=7
def dg(t i:Int):Bool:=(t.toNat>>>(i.toNat-1))%2==1
def fC(t i:Int):Int:=((t.toNat|||(1<<<(i.toNat-1)):Nat):Int)
theorem Aq(i:Int)(h:dE i)(w:World):Calls Tryz.prog 97 #[.int .i64 i] w fun e a=>e=.returned (.bool true)/\w=a:=by obtain⟨h1,h2⟩:=h;go_enter Tryz.func97,Tryz.ntmps97;go_wp2;go_ret;exact⟨rfl,rfl⟩
def AH(i:Int):Int:=((1<<<(i.toNat-1):Nat):Int)
theorem wC(i:Int)(h:dE i)(w:World):Calls Tryz.prog 98 #[.int .i64 i] w fun e b=>e=.returned (.int .i64 (AH i))/\w=b:=by
 obtain⟨h1,h2⟩:=h;have a:i=1\/i=2\/i=3\/i=4\/i=5\/i=6\/i=7:=by omega
 clear h1 h2;go_enter Tryz.func98,Tryz.ntmps98;rcases a with rfl|rfl|rfl|rfl|rfl|rfl|rfl;all_goals go_wp2;go_ret;exact⟨rfl,rfl⟩
theorem lS(h:∀(t:Fin 128) (i:Fin 7),P (t.1:Int) ((i.1+1:Nat):Int)=true){t i:Int}(b:gS t)(a:dE i):P t i=true:=by obtain⟨e,f⟩:=b;obtain⟨c,d⟩:=a;have:=h ⟨t.toNat,by omega⟩ ⟨i.toNat-1,by omega⟩;simpa [show((t.toNat:Nat):Int)=t by omega,show((i.toNat-1+1:Nat):Int)=i by omega]using this
theorem Di{t i:Int}(b:gS t)(a:dE i):(bits BinOp.and IntKind.i64 t (AH i) !=0)=dg t i:=by have:=lS (P:=fun t i=>(bits BinOp.and IntKind.i64 t (AH i) !=0)==dg t i) (by decide+kernel) b a;simpa using this
theorem sX{t i:Int}(b:gS t)(a:dE i):bits BinOp.or IntKind.i64 t (AH i)=fC t i:=by have:=lS (P:=fun t i=>decide (bits BinOp.or IntKind.i64 t (AH i)=fC t i)) (by decide+kernel) b a;simpa using this
theorem oe{t i:Int}(b:gS t)(a:dE i):gS (fC t i):=by have:=lS (P:=fun t i=>decide (0<=fC t i/\fC t i<128)) (by decide+kernel) b a;unfold gS;simpa using this
theorem fT(t i:Int)(b:gS t)(h:dE i)(w:World):Calls Tryz.prog 75 #[.int .i64 t,.int .i64 i] w fun e a=>e=.returned (.bool (dg t i))/\w=a:=by have A:=Aq i h w;have B:=wC i h w;have E:=hI (Di b h);go_enter Tryz.func75,Tryz.ntmps75;go_wp2_with fail;refine A.mono ?_;rintro e a ⟨rfl,rfl⟩;go_wp2_with fail;refine B.mono ?_;rintro e a ⟨rfl,rfl⟩;go_wp2;go_ret;exact⟨by rw[<-E.o];rfl,rfl⟩
theorem tZ(t i:Int)(b:gS t)(h:dE i)(w:World):Calls Tryz.prog 173 #[.int .i64 t,.int .i64 i] w fun e a=>e=.returned (.int .i64 (fC t i))/\w=a:=by have A:=Aq i h w;have B:=wC i h w;have E:=hI (sX b h);go_enter Tryz.func173,Tryz.ntmps173;go_wp2_with fail;refine A.mono ?_;rintro e a ⟨rfl,rfl⟩;go_wp2_with fail;refine B.mono ?_;rintro e a ⟨rfl,rfl⟩;go_wp2;go_ret;exact⟨by rw[<-E.o];rfl,rfl⟩
def dJ(v n:Int):Int:=1+Int.tmod (v-1) n
theorem gn(v n:Int)(d:1<=v/\v<=1099511627776)(c:3<=n/\n<=7)(w:World):Calls Tryz.prog 80 #[.int .i64 v,.int .i64 n] w fun e g=>e=.returned (.int .i64 (dJ v n))/\w=g:=by
 obtain⟨m,o⟩:=d;obtain⟨i,j⟩:=c;have h:¬n=0:=by omega
 have b:=hI (Int.tmod_lt_of_pos (v-1) (show 0<n by omega));have f:=hI (Int.tmod_nonneg n (show 0<=v-1 by omega));obtain⟨R,a⟩:∃R,R=Int.tmod (v-1) n:=⟨_,rfl⟩;have l:R<n:=by have:=b.out;omega
 have k:0<=R:=by have:=f.out;omega
 unfold dJ;rw[<-a];replace a:=a.symm;go_enter Tryz.func80,Tryz.ntmps80;go_wp2;go_ret;exact⟨rfl,rfl⟩
end
section
variable{t:Int}
theorem Hr{k:IntKind}{a b:Int}(h:a=b):Ending.returned (.int k a)=.returned (.int k b):=by rw[h]
def ek:List Int:=[1,2,3,4,5,6,7]
def vN(t:Int):Int:=((ek.filter (dg t)).length:Int)
theorem ET(t:Int)(a:gS t)(w:World):Calls Tryz.prog 203 #[.int .u64 t] w fun e d=>e=.returned (.int .i64 (vN t))/\w=d:=by
 obtain⟨b,c⟩:=a
 obtain⟨k,rfl⟩:∃k:Fin 128,t=(k.1:Int):=⟨⟨t.toNat,by omega⟩,by simp;omega⟩
 go_enter Tryz.func203,Tryz.ntmps203
 go_wp2
 go_ret
 refine⟨Hr ?_,rfl⟩
 clear b c w
 revert k
 decide+kernel
theorem Ee(a:gS t):bits BinOp.and IntKind.i64 t 127=t:=by have:=lS (P:=fun t i=>decide (bits BinOp.and IntKind.i64 t 127=t)) (by decide+kernel) a (i:=1) (by unfold dE;decide);simpa using this
theorem Hy(a:gS t):0<=vN t/\vN t<=7:=by have:=lS (P:=fun t i=>decide (0<=vN t/\vN t<=7)) (by decide+kernel) a (i:=1) (by unfold dE;decide);simpa using this
theorem Gb(t:Int)(a:gS t)(w:World):Calls Tryz.prog 188 #[.int .i64 t] w fun e b=>e=.returned (.int .i64 (vN t))/\w=b:=by have A:=ET t a w;have E:=Ee a;have⟨t1,t2⟩:=a;go_enter Tryz.func188,Tryz.ntmps188;go_wp2_with fail;refine A.mono ?_;rintro e b ⟨rfl,rfl⟩;go_wp2;go_ret;exact⟨rfl,rfl⟩
def sQ(t n:Int):Bool:=decide (t<((1<<<n.toNat:Nat):Int))
theorem Lh(h:t<128):sQ t 7=true:=by
 unfold sQ;have e:((1<<<(7:Int).toNat:Nat):Int)=128:=by decide
 rw[e];exact decide_eq_true h
def dX(t n:Int):Bool:=sQ t n&&decide (n<2*vN t)
theorem Gc(t n:Int)(c:gS t)(b:3<=n/\n<=7)(w:World):Calls Tryz.prog 187 #[.int .i64 t,.int .i64 n] w fun e f=>e=.returned (.bool (sQ t n))/\w=f:=by
 obtain⟨g,d⟩:=c;have a:n=3\/n=4\/n=5\/n=6\/n=7:=by omega
 clear b;rcases a with rfl|rfl|rfl|rfl|rfl
 all_goals
  go_enter Tryz.func187,Tryz.ntmps187;go_wp2;go_ret
  first
   |exact⟨rfl,rfl⟩
   |exact⟨by rw[Lh d];rfl,rfl⟩
theorem pa(t n:Int)(a:gS t)(c:3<=n/\n<=7)(w:World):Calls Tryz.prog 168 #[.int .i64 t,.int .i64 n] w fun e b=>e=.returned (.bool (dX t n))/\w=b:=by
 have A:=Gc t n a c w;have B:=Gb t a w;obtain⟨d,f⟩:=Hy a;unfold dX;generalize vN t=l at*;generalize sQ t n=m at*;clear a c;cases m;·go_enter Tryz.func168,Tryz.ntmps168;go_wp2_with fail;refine A.mono ?_;rintro e b ⟨rfl,rfl⟩;go_wp2;go_ret;exact⟨rfl,rfl⟩
 .go_enter Tryz.func168,Tryz.ntmps168;go_wp2_with fail;refine A.mono ?_;rintro e b ⟨rfl,rfl⟩;go_wp2_with fail;refine B.mono ?_;rintro e b ⟨rfl,rfl⟩;go_wp2;go_ret;exact⟨rfl,rfl⟩
def jl(x:Int):List Value:=[.int .i64 x]
def p0(t:Int)(k:Nat):List Int:=(ek.take k).filter (dg t)
theorem wI(t:Int)(k:Nat)(b:k<7):p0 t (k+1)=p0 t k++(if dg t ((k:Int)+1)then [(k:Int)+1]else []):=by
 have a:ek[k]? =some ((k:Int)+1):=by
  have:k=0\/k=1\/k=2\/k=3\/k=4\/k=5\/k=6:=by omega
  rcases this with rfl|rfl|rfl|rfl|rfl|rfl|rfl<;>rfl
 unfold p0;rw[List.take_add_one,a,List.filter_append];congr 1;show List.filter (dg t) [(k:Int)+1]=_;rw[List.filter_cons];rfl
theorem uY(t:Int)(k:Nat):(p0 t k).length<=7:=by
 have h1:=List.length_filter_le (dg t) (ek.take k);have h2:(ek.take k).length<=7:=by rw[List.length_take];exact Nat.min_le_right _ _
 unfold p0;omega
theorem vJ:(Tryz.prog.info? 3).map (fun i=>(i.zero,i.size,i.bytes))=some (some (.int .i64 0),1,8):=by kernel_rfl
theorem iX{P:Program}{E:TypeId}{z:Option Value}{K b:Nat}(h:(P.info? E).map (fun i=>(i.zero,i.size,i.bytes))=some (z,K,b)):∃i,P.info? E=some i/\i.zero=z/\i.size=K/\i.bytes=b:=by
 cases a:P.info? E with
 |none=>rw[a]at h;cases h
 |some i=>
  rw[a]at h;simp at h;exact⟨i,rfl,h.1,h.2.1,h.2.2⟩
theorem oZ(t:Int)(s:gS t)(w:World):Calls Tryz.prog 172 #[.int .i64 t] w fun e j=>∃p a,e=.returned (.slice p (ek.filter (dg t)).length a)/\fY 3 1 j w.heap.size p (ek.filter (dg t)).length a ((ek.filter (dg t)).map jl)/\db w j:=by
 obtain⟨E,q,B,C,D⟩:=iX vJ;have r:=hI q;clear q;go_enter Tryz.func172,Tryz.ntmps172;go_wp2_with fail;go_loopw [3,4] (fun l i wr=>∃(k:Nat) (p:Option Addr) (a:Nat),k<=7/\i=.int .i64 ((k:Int)+1)/\l=.slice p (p0 t k).length a/\Hid (fY 3 1 wr w.heap.size p (p0 t k).length a ((p0 t k).map jl))/\Hid (db w wr)) (fun _ i _=>8-(intOf i).toNat);case atStart=>exact⟨0,none,0,by omega,rfl,rfl,hI (fY.nil _ _ _ _),hI (db.rfl' _)⟩
 case round=>
  obtain⟨k,p,a,G,rfl,rfl,O,X⟩:=hrel;by_cases z:k<7
  .have h1:(k:Int)+1<=7:=by omega
   have H:=uY t k;have g:=hI (wI t k z);have A:=fun w=>fT t ((k:Int)+1) s ⟨by omega,by omega⟩ w;cases c:dg t ((k:Int)+1)
   .rw[c]at A;have f:Hid (p0 t (k+1)=p0 t k):=hI (by rw[g.o,c];simp);clear g c;go_wp2_with fail;refine(A _).mono ?_;rintro e j ⟨rfl,rfl⟩;go_wp2;go_roundw;case rel=>exact⟨k+1,p,a,by omega,by go_num,by rw[f.o],by rw[f.o];exact O,X⟩
    case measure=>simp[intOf];omega
   .rw[c]at A;have f:Hid (p0 t (k+1)=p0 t k++[(k:Int)+1]):=hI (by rw[g.o,c];simp);have m:Hid ((p0 t (k+1)).length=(p0 t k).length+1):=hI (by rw[f.o];simp);clear g c;have d:=db.alloc wr (.cells #[.int .i64 ((k:Int)+1)] 3);have n:SlS 1 (wr.alloc (.cells #[.int .i64 ((k:Int)+1)] 3)) (some ⟨wr.heap.size,0,none⟩) 1 1 [jl ((k:Int)+1)]:=SlS.lit wr 1 _ _ _ rfl (by simp[jl]) rfl (by decide);have h:w.heap.size<=(wr.alloc (.cells #[.int .i64 ((k:Int)+1)] 3)).heap.size:=(X.o.tr d).size;go_wp2_with (first|(at_builtin;refine io rfl _ _ 49 rfl w.heap.size Tryz.underlying49 E _ 8 r.o B C D rfl (by decide) p (p0 t k).length a _ rfl (O.o.ext d) (some ⟨wr.heap.size,0,none⟩) 1 1 _ rfl n (by simp[jl,Value.oneCell']) (by omega) (by omega) h ?_)|(refine(A _).mono ?_;rintro e j ⟨rfl,rfl⟩));intro F x I u o;have v:=Below.grown (X.o.tr d) o (X.o.tr d).size (fun b h=>O.o.lt _ h|>.1);clear o d n h;go_wp2;go_roundw;case rel=>exact⟨k+1,F,x,by omega,by go_num,by rw[m.o],hI (by rw[m.o,f.o,List.map_append];exact u),v⟩
    case measure=>simp[intOf];omega
  .have y:k=7:=by omega
   subst y;go_wp2;go_ret;exact⟨p,a,rfl,O.o,X.o⟩
end
section
variable{L:List (List Value)} {p:Option Addr} {K cap c n:Nat} {o:Ow}
structure iC (K:Nat) (w:World) (o:Ow) (c:Nat) (p:Option Addr) (n cap:Nat) (L:List (List Value)):Prop where
 len:L.length=n
 wid:∀x∈L,x.length=K
 le:n<=cap
 max:cap<=maxLen
 lies:(p=none/\cap=0)\/∃b off,p=some ⟨b,off,none⟩/\o b=c/\b<w.heap.size/\(∀j u,L.flatten[j]? =some u->w.cell? ⟨b,off+j,none⟩=some u)/\∀j,n*K<=j->j<cap*K->(w.cell? ⟨b,off+j,none⟩).isSome=true/\w.frozen? ⟨b,off+j,none⟩=false
theorem iC.nil(K:Nat)(w:World)(o:Ow)(c:Nat):iC K w o c none 0 0 []:=
 ⟨rfl,(fun x a=>by cases a),Nat.le_refl _,Nat.zero_le _,.inl ⟨rfl,rfl⟩⟩
theorem iC.blk{w f:World}{i:Ow}(h:iC K w o c p n cap L)(k:∀b,b<w.heap.size->o b=c->f.heap[b]? =w.heap[b]? /\i b=c)(r:w.heap.size<=f.heap.size):iC K f i c p n cap L:=by
 refine⟨h.len,h.wid,h.le,h.max,?_⟩;rcases h.lies with h1|⟨b,d,q,m,g,h2,h3⟩;·exact .inl h1
 .obtain⟨e,l⟩:=k b g m;refine .inr ⟨b,d,q,l,Nat.lt_of_lt_of_le g r,fun j u s=>?_,fun j h4 h5=>?_⟩;·rw[World.cell?_of_block (a:=⟨b,d+j,none⟩) e];exact h2 j u s
  .rw[World.cell?_of_block (a:=⟨b,d+j,none⟩) e,World.frozen?_of_block (a:=⟨b,d+j,none⟩) e];exact h3 j h4 h5
theorem iC.ext{w a:World}(h:iC K w o c p n cap L)(k:db w a):iC K a o c p n cap L:=
 h.blk (fun b d e=>⟨k.block b d,e⟩) k.size
theorem iC.fr{C:Nat->Prop}{w g:World}{f:Ow}(h:iC K w o c p n cap L)(k:Fm C o f w g)(h1:c≠1)(d:¬C c):iC K g f c p n cap L:=
 h.blk (fun b a e=>⟨k.blk b a (by rw[e];exact h1) (by rw[e];exact d),(k.at a (by rw[e];exact d)).trans e⟩) k.size
theorem iC.sl{w:World}(h:iC K w o c p n cap L):SlS K w p n cap L:=by
 refine⟨h.len,h.le,Nat.le_trans h.max (by decide),fun a=>?_,h.wid,fun k=>?_⟩
 .rcases h.lies with h1|⟨b,e,d,-⟩;·exact h1.2
  .rw[a]at d;cases d
 .rcases h.lies with⟨-,h1⟩|⟨b,e,a,-,-,h2,-⟩;·have:=h.le;omega
  .exact⟨b,e,a,fun i x g j v f=>h2 _ _ (jD L h.wid i x g j v f)⟩
theorem iC.drop{w:World}(h:iC K w o c p n cap L)(k:Nat)(q:k<=n):iC K w o c (gI K p cap k) (n-k) (cap-k) (L.drop k):=by
 have z:=h.le;refine⟨by rw[List.length_drop,h.len],fun x r=>h.wid x (List.mem_of_mem_drop r),by omega,Nat.le_trans (Nat.sub_le _ _) h.max,?_⟩
 have m:(L.drop k).flatten=L.flatten.drop (k*K):=by
  have i:L.flatten=(L.take k).flatten++(L.drop k).flatten:=by rw[<-List.flatten_append,List.take_append_drop]
  have l:(L.take k).flatten.length=k*K:=by rw[ee _ (fun y s=>h.wid y (List.mem_of_mem_take s)),List.length_take,h.len,Nat.min_eq_left q]
  rw[i,<-l,List.drop_left]
 rcases h.lies with⟨rfl,h1⟩|⟨b,g,rfl,e,d,h2,h3⟩;·refine .inl ⟨?_,by omega⟩;unfold gI;split<;>rfl
 .by_cases f:cap=k
  .refine .inr ⟨b,g,by unfold gI;rw[if_pos f],e,d,fun j u a=>?_,fun j h4 h5=>?_⟩;·have:L.drop k=[]:=List.drop_eq_nil_of_le (by rw[h.len];omega);rw[this]at a;simp at a
   .rw[show cap-k=0 by omega]at h5;omega
  .refine .inr ⟨b,g+k*K,by unfold gI;rw[if_neg f];simp[Addr.add],e,d,fun j u a=>?_,fun j h4 h5=>?_⟩;·rw[m,List.getElem?_drop]at a;have:=h2 _ _ a;rwa[<-Nat.add_assoc]at this
   .have t:(n-k)*K+k*K=n*K:=by rw[<-Nat.add_mul];congr 1;omega
    have v:(cap-k)*K+k*K=cap*K:=by rw[<-Nat.add_mul];congr 1;omega
    have:=h3 (k*K+j) (by omega) (by omega);rwa[<-Nat.add_assoc]at this
theorem rh(b:Nat):∀(vs:List Value) (j:Nat) (a w:World),a.grownBy w (some b)->a.grownBy (w.setCells b j vs) (some b)
 |[],j,a,w,h=>h
 |v::vs,j,a,w,h=>rh b vs (j+1) a _ (dP h j v)
section
variable{P:Program} {w:World}
theorem Fp{E:TypeId}{K J:Nat}{z:Value}{i:TypeInfo}{o:Ow}{c n cap:Nat}{p:Option Addr}{L:List (List Value)}(O:Cl w o)(h:iC K w o c p n cap L)(t H:TypeId)(V:P.underlying t=some (.slice E))(R:P.info? E=some i)(hz:i.zero=some z)(D:i.size=K)(ab:i.bytes=J)(ah:z.cells.size=K)(hK:0<K)
  {x:Value}{r:List Value}(C:Src P K t x 1 r w)(hn:n<=1000000)(Z:J<=100000)(h1:c≠1):
  ∃Y M I X,(Builtin.append_ #[t,t] H #[.slice p n cap,x]).run P w=.ok (.slice Y (n+1) M) I/\iC K I X c Y (n+1) M (L++[r])/\Fm (fun d=>d=c) o X w I:=by
 subst D;subst ab;have U:r.length=i.size:=by rw[C.newsLen,Nat.one_mul]
 have A:L.flatten.length=n*i.size:=by rw[ee L h.wid,h.len]
 have W:∀y∈L++[r],y.length=i.size:=fun y l=>by
  rcases List.mem_append.1 l with l|l;·exact h.wid y l
  .rw[List.mem_singleton]at l;rw[l];exact U
 have Q:(L++[r]).flatten=L.flatten++r:=by simp
 have ac:(n+1)*i.bytes<=140737488355328:=by
  calc (n+1)*i.bytes<=1000001*100000:=Nat.mul_le_mul (by omega) Z
   _<=140737488355328:=by decide
 by_cases B:n+1<=cap
 .rcases h.lies with⟨-,h2⟩|⟨b,f,rfl,N,aa,h2,h3⟩;·omega
  .have ai:(n+1)*i.size<=cap*i.size:=Nat.mul_le_mul_right _ B;have aj:(n+1)*i.size=n*i.size+i.size:=by rw[Nat.add_mul,Nat.one_mul]
   have hr:=run_append_room_src (P:=P) w t t H E i V R b f n cap x 1 r C B (fun j q=>by
    have:=(h3 (n*i.size+j) (by omega) (by omega)).1
    rwa[<-Nat.add_assoc]at this) (fun j q=>by
    have:=(h3 (n*i.size+j) (by omega) (by omega)).2
    rwa[<-Nat.add_assoc]at this)
   have G:=rh b r (f+n*i.size) w w (dD w (some b));refine⟨_,cap,_,o,hr,⟨by simp[h.len],W,B,h.max,.inr ⟨b,f,rfl,N,Nat.lt_of_lt_of_le aa G.size,fun j u a=>?_,fun j h4 h5=>?_⟩⟩,Fm.grown O G (fun g m=>by cases m;rw[N];exact⟨h1,rfl⟩)⟩
   .rw[Q]at a;by_cases q:j<n*i.size;·rw[List.getElem?_append_left (by omega)]at a;rw[World.cell?_setCells_out b r (f+n*i.size) w ⟨b,f+j,none⟩ (fun _ _=> .inl (by simp only;omega))];exact h2 j u a
    .rw[List.getElem?_append_right (by omega),A]at a;have S:j-n*i.size<r.length:=(List.getElem?_eq_some_iff.1 a).1
     have e:=World.cell?_setCells_in b r (f+n*i.size) w (fun k hk=>by
      have:=(h3 (n*i.size+k) (by omega) (by omega)).1
      rwa[<-Nat.add_assoc]at this) (j-n*i.size) S
     rw[show f+n*i.size+(j-n*i.size)=f+j by omega]at e;rw[e,<-a,List.getElem?_eq_getElem S]
   .have:=h3 j (by omega) h5;rw[World.frozen?_setCells];exact⟨World.isSome_setCells b r _ w _ this.1,this.2⟩
 .have m:cap<n+1:=by omega
  have T:n+1<=maxLen:=by unfold maxLen;omega
  have ag:(Builtin.firstCells i.size n (.slice p n cap)).run P w.drew=.ok L.flatten.toArray w.drew:=by
   rcases h.lies with⟨rfl,h2⟩|⟨b,f,rfl,-,-,h2,-⟩
   .have af:n=0:=by have:=h.le;omega
    subst af;have v:L=[]:=List.eq_nil_of_length_eq_zero h.len;subst v;subst h2;exact run_firstCells_none w.drew i.size 0 0 0
   .exact run_firstCells_some w.drew i.size n ⟨b,f,none⟩ n cap L.flatten A (fun j u a=>by
     rw[Addr.add_lit]
     exact h2 j u a)
  have hr:=run_append_grow_src (P:=P) w t t H E i z V R hz p n cap L.flatten ag x 1 r C m (by unfold maxLen at T;omega) (growslice_fits m ac);have ae:=grownCap_ge w (n+1) cap E;have ad:=grownCap_le_maxLen w (n+1) cap E T;have v:(L.flatten++r).length=(n+1)*i.size:=by rw[List.length_append,A,U,Nat.add_mul,Nat.one_mul]
  have F:Fm (fun d=>d=c) o (gH o w.heap.size c) w (w.drew.alloc (.cells ((L.flatten++r).toArray++Builtin.zeroCells z.cells (grownCap w (n+1) cap E-(n+1))) E)):=
   (Fm.ext O ((db.drew w).tr (db.alloc w.drew _))).paint c (Nat.le_refl _) (by simp)
  refine⟨_,_,_,_,hr,⟨by simp[h.len],W,ae,ad,.inr ⟨w.heap.size,0,rfl,et _ _ _,by simp,fun j u a=>?_,fun j h4 h5=>?_⟩⟩,F⟩;·rw[Q]at a;have q:j<(L.flatten++r).length:=(List.getElem?_eq_some_iff.1 a).1;have s:(w.drew.alloc (.cells ((L.flatten++r).toArray++Builtin.zeroCells z.cells (grownCap w (n+1) cap E-(n+1))) E)).cell? ⟨w.heap.size,j,none⟩=_:=World.cell?_alloc_new w.drew _ _ j;rw[Nat.zero_add,s,Array.getElem?_append_left (by simpa using q),List.getElem?_toArray];exact a
  .have s:(w.drew.alloc (.cells ((L.flatten++r).toArray++Builtin.zeroCells z.cells (grownCap w (n+1) cap E-(n+1))) E)).cell? ⟨w.heap.size,j,none⟩=_:=World.cell?_alloc_new w.drew _ _ j;have D:((L.flatten++r).toArray++Builtin.zeroCells z.cells (grownCap w (n+1) cap E-(n+1))).size=grownCap w (n+1) cap E*i.size:=by rw[Array.size_append,List.size_toArray,v,size_zeroCells,ah,<-Nat.add_mul];congr 1;omega
   rw[Nat.zero_add];refine⟨?_,World.frozen?_alloc_new w.drew _ _ j⟩;rw[s,Array.getElem?_eq_getElem (by rw[D];exact h5)];rfl
theorem Ck{ops:Array Oper}{op:Oper}{a:Act}{K':Act->World->Prop}{Q:Exit->Act->World->Prop}{F:Prop}(N:op.guard=none)(s x:Operand)(t:TypeId)
  (V:op.op=.call {callee:=.builtin .append,args:=#[s,x],argTypes:=#[t,t]})
  (E:TypeId)(K v:Nat)(z:Value)(y:P.underlying t=some (.slice E))(b:(P.info? E).map (fun i=>(i.zero,i.size,i.bytes))=some (some z,K,v))(ab:z.cells.size=K)(D:0<K)
  {o:Ow}{c n cap:Nat}{p:Option Addr}{L:List (List Value)}(I:Cl w o)(row:iC K w o c p n cap L)(X:a.eval s=.slice p n cap)
  (B m:Nat)(r:List Value)(hx:a.eval x=.slice (some ⟨B,0,none⟩) 1 m)(hr:r.length=K)(U:∀j u,r[j]? =some u->w.cell? ⟨B,j,none⟩=some u)(W:∀u∈r,u.oneCell'=true)
  (T:n<=1000000)(G:v<=100000)(h1:c≠1)(C:Nat->Prop)(A:C c)
  (h:∀l g k f,iC K f k c l (n+1) g (L++[r])->Fm C o k w f->K' (a.put op.dst (.slice l (n+1) g)) f):
  if Region.wanted op (yielded ops a.tmps)=true then Oper.wp P op a w K' Q else F:=by
 have Z:Region.wanted op (yielded ops a.tmps)=true:=by simp[Region.wanted,N]
 rw[if_pos Z]
 cases q:P.info? E with
 |none=>rw[q]at b;cases b
 |some i=>
  rw[q]at b;simp at b;obtain⟨hz,Y,H⟩:=b
  have S:Src P K t (.slice (some ⟨B,0,none⟩) 1 m) 1 r w:=Src.ofSlice w y ⟨B,0,none⟩ 1 m r (by rw[hr,Nat.one_mul]) (fun j u O=>by
   rw[Addr.add_lit,Nat.zero_add]
   exact U j u O) W
  obtain⟨l,g,f,k,e,R,M⟩:=Fp (P:=P) I row t op.type y q hz Y H ab D S T G h1;unfold Oper.wp execOp;simp only[V,resolve,invoke,builtin,Sem.run_bind,Sem.run_pure,Result.andThen_ok,List.map_toArray,List.map_cons,List.map_nil,X,hx,e];exact h l g k f R (M.mono (fun d J=>by rw[J];exact A))
end
end
section
abbrev Bh(me:Int)(bs:Nat->Int)(ps:Nat->Int×Int×Bool):List Value:=[.int .i64 me,.int .i64 (bs 0),.int .i64 (bs 1),.int .i64 (bs 2),.int .i64 (bs 3),.int .i64 (bs 4),.int .i64 (bs 5),.int .i64 (bs 6),.int .i64 (bs 7),.int .i64 (ps 0).1,.int .i64 (ps 0).2.1,.bool (ps 0).2.2,.int .i64 (ps 1).1,.int .i64 (ps 1).2.1,.bool (ps 1).2.2,.int .i64 (ps 2).1,.int .i64 (ps 2).2.1,.bool (ps 2).2.2,.int .i64 (ps 3).1,.int .i64 (ps 3).2.1,.bool (ps 3).2.2,.int .i64 (ps 4).1,.int .i64 (ps 4).2.1,.bool (ps 4).2.2,.int .i64 (ps 5).1,.int .i64 (ps 5).2.1,.bool (ps 5).2.2,.int .i64 (ps 6).1,.int .i64 (ps 6).2.1,.bool (ps 6).2.2,.int .i64 (ps 7).1,.int .i64 (ps 7).2.1,.bool (ps 7).2.2]
abbrev LD(me:Int)(bs:Nat->Int)(ps:Nat->Int×Int×Bool):Array Value:=#[.int .i64 me,.int .i64 (bs 0),.int .i64 (bs 1),.int .i64 (bs 2),.int .i64 (bs 3),.int .i64 (bs 4),.int .i64 (bs 5),.int .i64 (bs 6),.int .i64 (bs 7),.int .i64 (ps 0).1,.int .i64 (ps 0).2.1,.bool (ps 0).2.2,.int .i64 (ps 1).1,.int .i64 (ps 1).2.1,.bool (ps 1).2.2,.int .i64 (ps 2).1,.int .i64 (ps 2).2.1,.bool (ps 2).2.2,.int .i64 (ps 3).1,.int .i64 (ps 3).2.1,.bool (ps 3).2.2,.int .i64 (ps 4).1,.int .i64 (ps 4).2.1,.bool (ps 4).2.2,.int .i64 (ps 5).1,.int .i64 (ps 5).2.1,.bool (ps 5).2.2,.int .i64 (ps 6).1,.int .i64 (ps 6).2.1,.bool (ps 6).2.2,.int .i64 (ps 7).1,.int .i64 (ps 7).2.1,.bool (ps 7).2.2]
def Gg{α:Type}(f:Nat->α)(k:Nat)(v:α):Nat->α:=fun i=>if i=k then v else f i
theorem tB{F:Nat}(h:F<8):F=0\/F=1\/F=2\/F=3\/F=4\/F=5\/F=6\/F=7:=by omega
section
variable{me:Int} {bs:Nat->Int} {ps:Nat->Int×Int×Bool}
theorem vI{F:Nat}(h:F<8):(Bh me bs ps)[1+F]? =some (.int .i64 (bs F)):=by rcases tB h with rfl|rfl|rfl|rfl|rfl|rfl|rfl|rfl<;>rfl
theorem DR{F:Nat}{v:Int}(h:F<8):(Bh me bs ps).set (1+F) (.int .i64 v)=Bh me (Gg bs F v) ps:=by rcases tB h with rfl|rfl|rfl|rfl|rfl|rfl|rfl|rfl<;>rfl
end
def zP:Nat->Int×Int×Bool:=fun _=>(0,0,false)
def zB:Nat->Int:=fun _=>0
def Ht(z:Int):Bool:=decide (1<=z)&&decide (z<=7)
theorem J4(z:Int)(w:World):Calls Tryz.prog 166 #[.int .i64 z] w fun e a=>e=.returned (.bool (Ht z))/\w=a:=by
 by_cases h1:1<=z;·by_cases h2:z<=7;all_goals have e:Ht z=(decide (1<=z)&&decide (z<=7)):=rfl;simp only[h1,h2,decide_true,decide_false,Bool.and_true,Bool.and_false]at e;rw[e];clear e;go_enter Tryz.func166,Tryz.ntmps166;go_wp2;go_ret;simp
 .have e:Ht z=false:=by unfold Ht;rw[decide_eq_false h1];rfl
  rw[e];clear e;go_enter Tryz.func166,Tryz.ntmps166;go_wp2;go_ret;simp
theorem DP(z:Int)(w:World):Calls Tryz.prog 127 #[.int .i64 z] w fun e b=>(Ht z=true->e=.returned (.pointer (some ⟨w.heap.size,0,none⟩))/\dK b w.heap.size w.heap.size (Bh z zB zP))/\(Ht z=false->e=.returned (.pointer none))/\db w b:=by
 have I:=fun w=>J4 z w;cases a:Ht z;·rw[a]at I;clear a;go_enter Tryz.func127,Tryz.ntmps127;go_wp2_with fail;refine(I _).mono ?_;rintro e c ⟨rfl,rfl⟩;clear I;go_wp2;go_ret;exact⟨(fun h=>by cases h),fun _=>rfl,db.rfl' _⟩
 .rw[a]at I;clear a;go_enter Tryz.func127,Tryz.ntmps127;go_wp2_with fail;refine(I _).mono ?_;rintro e c ⟨rfl,rfl⟩;clear I;go_wp2;go_ret;exact⟨fun _=>⟨rfl,dK.new w w.heap.size (LD z zB zP) (Bh z zB zP) 210 _ rfl (Nat.le_refl _) rfl⟩,(fun h=>by cases h),db.alloc w _⟩
end
theorem IU{t:Int}(b:gS t){k:Nat}(a:k<7):((((t.toNat>>>k:Nat):Int).tmod 2==1)=dg t ((k:Int)+1))/\((t.toNat>>>k:Nat):Int).tdiv 2=((t.toNat>>>(k+1):Nat):Int):=by
 have h1:((k:Int)+1).toNat-1=k:=by omega
 have h2:t.toNat>>>(k+1)=(t.toNat>>>k)/2:=by rw[Nat.shiftRight_succ]
 unfold dg;rw[h1,h2];generalize t.toNat>>>k=x;rw[Int.tmod_eq_emod_of_nonneg (by omega),Int.tdiv_eq_ediv_of_nonneg (by omega)];constructor;·rw[Bool.eq_iff_iff];simp only[beq_iff_eq];omega
 .omega
theorem sh(t:Int)(g:gS t)(w:World):Calls Tryz.prog 23 #[.int .i64 t] w fun e D=>∃p a,e=.returned (.slice p (ek.filter (dg t)).length a)/\fY 3 1 D w.heap.size p (ek.filter (dg t)).length a ((ek.filter (dg t)).map jl)/\db w D:=by
 obtain⟨N,A,K,L,M⟩:=iX vJ;have E:=hI A;have q:=hI g;have F:Hid (t=((t.toNat>>>0:Nat):Int)):=hI (by have:=g.1;simp;omega);have T:IntKind.u64.wrap t=t:=by have:=g.1;have:=g.2;unfold IntKind.wrap;simp[IntKind.bits,IntKind.signed];omega
 clear A g;go_enter Tryz.func23,Tryz.ntmps23;go_wp2_with fail;go_loopw [3,4,5] (fun l u i wr=>∃(k:Nat) (p:Option Addr) (a:Nat),k<=7/\i=.int .i64 ((k:Int)+1)/\u=.int .u64 ((t.toNat>>>k:Nat):Int)/\l=.slice p (p0 t k).length a/\Hid (fY 3 1 wr w.heap.size p (p0 t k).length a ((p0 t k).map jl))/\Hid (db w wr)) (fun _ _ i _=>8-(intOf i).toNat);case atStart=>exact⟨0,none,0,by omega,rfl,by rw[<-F.o],rfl,hI (fY.nil _ _ _ _),hI (db.rfl' _)⟩
 case round=>
  obtain⟨k,p,a,R,rfl,rfl,rfl,O,X⟩:=hrel;by_cases B:k<7
  .have h1:(k:Int)+1<=7:=by omega
   have S:=uY t k;have h:=hI (wI t k B);have x:=IU q.o B;obtain⟨u,n⟩:∃u,u=((t.toNat>>>k:Nat):Int):=⟨_,rfl⟩;obtain⟨v,o⟩:∃v,v=((t.toNat>>>(k+1):Nat):Int):=⟨_,rfl⟩
   have U:IntKind.u64.wrap v=v:=by
    have h2:t.toNat>>>(k+1)<=t.toNat:=Nat.shiftRight_le _ _;have h3:=q.o.2;have h4:=q.o.1;have h5:0<=v/\v<18446744073709551616:=by rw[o];generalize t.toNat>>>(k+1)=m at h2⊢;omega
    unfold IntKind.wrap;simp[IntKind.bits,IntKind.signed];omega
   rw[<-n,<-o]at x;rw[<-n];have Q:=hI n;have s:=hI o;obtain⟨s1,V⟩:=x;clear n o;cases c:dg t ((k:Int)+1)
   .rw[c]at s1;have f:Hid (p0 t (k+1)=p0 t k):=hI (by rw[h.o,c];simp);clear h c;go_wp2;go_roundw;case rel=>exact⟨k+1,p,a,by omega,by go_num,by rw[<-s.o],by rw[f.o],by rw[f.o];exact O,X⟩
    case measure=>simp[intOf];omega
   .rw[c]at s1;have f:Hid (p0 t (k+1)=p0 t k++[(k:Int)+1]):=hI (by rw[h.o,c];simp);have r:Hid ((p0 t (k+1)).length=(p0 t k).length+1):=hI (by rw[f.o];simp);clear h c;have d:=hI (db.alloc wr (.cells #[.int .i64 ((k:Int)+1)] 3));have y:Hid (SlS 1 (wr.alloc (.cells #[.int .i64 ((k:Int)+1)] 3)) (some ⟨wr.heap.size,0,none⟩) 1 1 [jl ((k:Int)+1)]):=hI (SlS.lit wr 1 _ _ _ rfl (by simp[jl]) rfl (by decide));have j:w.heap.size<=(wr.alloc (.cells #[.int .i64 ((k:Int)+1)] 3)).heap.size:=(X.o.tr d.o).size;go_wp2_with (at_builtin;refine io rfl _ _ 49 rfl w.heap.size Tryz.underlying49 N _ 8 E.o K L M rfl (by decide) p (p0 t k).length a _ rfl (O.o.ext d.o) (some ⟨wr.heap.size,0,none⟩) 1 1 _ rfl y.o (by simp[jl,Value.oneCell']) (by omega) (by omega) j ?_);intro P I W C z;have G:=hI C;have H:=hI (Below.grown (X.o.tr d.o) z (X.o.tr d.o).size (fun b j=>O.o.lt _ j|>.1));clear C z d y j;go_wp2;go_roundw;case rel=>exact⟨k+1,P,I,by omega,by go_num,by rw[<-s.o],by rw[r.o],hI (by rw[r.o,f.o,List.map_append];exact G.o),H⟩
    case measure=>simp[intOf];omega
  .have J:k=7:=by omega
   subst J;go_wp2;go_ret;exact⟨p,a,rfl,O.o,X.o⟩
theorem Ig{t i:Int}(b:dE i):(ek.filter (dg t)).any (fun x=>x==i)=dg t i:=by
 have h:i=1\/i=2\/i=3\/i=4\/i=5\/i=6\/i=7:=by unfold dE at b;omega
 rw[Bool.eq_iff_iff,List.any_eq_true];constructor;·rintro⟨x,c,a⟩;rw[beq_iff_eq]at a;subst a;exact(List.mem_filter.1 c).2
 .intro h1;refine⟨i,List.mem_filter.2 ⟨?_,h1⟩,by simp⟩;unfold ek;rcases h with rfl|rfl|rfl|rfl|rfl|rfl|rfl<;>simp
theorem mr(t i:Int)(c:gS t)(r:dE i)(w:World):Calls Tryz.prog 19 #[.int .i64 t,.int .i64 i] w fun e D=>e=.returned (.bool (dg t i))/\db w D:=by
 have n:=hI (sh t c w);have j:=hI (Ig (t:=t) r);have I:(ek.filter (dg t)).length<=7:=uY t 7;generalize ek.filter (dg t)=L at*;clear c r;go_enter Tryz.func19,Tryz.ntmps19;go_wp2_with fail;refine n.o.mono ?_;rintro e E ⟨p,G,rfl,u,v⟩;have O:=hI u.sl;have o:=hI v;clear u v n;go_wp2_with fail;go_loopw [6] (fun a wr=>wr=E/\∃k:Nat,k<=L.length/\a=.int .i64 (k:Int)/\(L.take k).any (fun x=>x==i)=false) (fun a _=>L.length-(intOf a).toNat);case atStart=>exact⟨rfl,0,by omega,rfl,rfl⟩
 case round=>
  obtain⟨rfl,k,H,rfl,c⟩:=hrel;have l:=hI c;clear c;by_cases g:k<L.length
  .have A:decide ((k:Int)<(L.length:Int))=true:=decide_eq_true (by omega);obtain⟨b,C,x,B,h,-,q⟩:=O.o.at k g;rw[List.getElem?_map]at h;obtain⟨y,d,rfl⟩:=Option.map_eq_some_iff.1 h;have F:wr.cell? ⟨b,C+k,none⟩=some (.int .i64 y):=by have:=q 0 _ rfl;simpa using this
   have m:Hid ((L.take (k+1)).any (fun x=>x==i)=(y==i)):=hI (by
    rw[List.take_succ_eq_append_getElem g,List.any_append,l.o]
    rw[List.getElem?_eq_getElem g]at d
    rw[Option.some.inj d]
    simp)
   have z:=hI d;subst B;clear h d q;cases s:y==i
   .rw[s]at m;go_wp2;go_roundw;case rel=>exact⟨by first|trivial|rfl,k+1,by omega,by go_num,m.o⟩
    case measure=>simp[intOf];omega
   .have f:Hid (dg t i=true):=hI (by
     rw[<-j.o,List.any_eq_true]
     exact⟨y,List.mem_of_getElem? z.o,s⟩)
    go_wp2;go_ret;rw[f.o];exact⟨rfl,o.o⟩
  .have A:decide ((k:Int)<(L.length:Int))=false:=decide_eq_false (by omega);have f:Hid (dg t i=false):=hI (by rw[<-j.o,<-l.o,List.take_of_length_le (by omega)])
   go_wp2;go_ret;rw[f.o];exact⟨rfl,o.o⟩
theorem Ct(k:Nat)(a:k<7):wrap64 (((2^k:Nat):Int)*2)=((2^(k+1):Nat):Int):=by have h:2^k<=2^6:=Nat.pow_le_pow_right (by decide) (by omega);rw[Nat.pow_succ];generalize 2^k=p at*;unfold wrap64;omega
theorem sT(t:Int)(n:Nat)(j:gS t)(i:3<=n/\n<=7)(w:World):Calls Tryz.prog 53 #[.int .i64 t,.int .i64 (n:Int)] w fun e l=>e=.returned (.bool (sQ t (n:Int)))/\w=l:=by
 have f:Hid (decide (t<((2^n:Nat):Int))=sQ t (n:Int)):=hI (by
  unfold sQ
  rw[Int.toNat_natCast,Nat.one_shiftLeft])
 obtain⟨s,u⟩:=j;obtain⟨q,r⟩:=i;go_enter Tryz.func53,Tryz.ntmps53;go_wp2;go_loopw [5,6] (fun a b wr=>wr=w/\∃k:Nat,k<=n/\b=.int .i64 (k:Int)/\a=.int .i64 ((2^k:Nat):Int)) (fun _ b _=>n-(intOf b).toNat);case atStart=>exact⟨rfl,0,by omega,rfl,rfl⟩
 case round=>
  obtain⟨rfl,k,o,rfl,rfl⟩:=hrel;by_cases p:k<n
  .have h:decide ((k:Int)<(n:Int))=true:=decide_eq_true (by omega);have d:=hI (Ct k (by omega));generalize c:((2^k:Nat):Int)=P at d⊢;have m:=d.o;clear c;go_wp2;go_roundw;case rel=>exact⟨by first|trivial|rfl,k+1,by omega,by go_num,by rw[<-d.o]⟩
   case measure=>simp[intOf];omega
  .have h:decide ((k:Int)<(n:Int))=false:=decide_eq_false (by omega);have g:k=n:=by omega
   rw[g];clear g;obtain⟨P,c⟩:∃P,P=((2^n:Nat):Int):=⟨_,rfl⟩;rw[<-c]at f⊢;clear c;go_wp2;go_ret;rw[<-f.o];exact⟨rfl,rfl⟩
theorem si(t:Int)(n:Nat)(a:gS t)(d:3<=n/\n<=7)(w:World):Calls Tryz.prog 29 #[.int .i64 t,.int .i64 (n:Int)] w fun e m=>e=.returned (.bool (dX t (n:Int)))/\db w m:=by
 have i:=hI (sT t n a d w);have c:=hI (sh t a w);have s:(ek.filter (dg t)).length<=7:=uY t 7;have b:Hid (dX t (n:Int)=(sQ t (n:Int)&&decide ((n:Int)<2*((ek.filter (dg t)).length:Int)))):=hI rfl;generalize ek.filter (dg t)=L at*;generalize dX t (n:Int)=R at*;generalize sQ t (n:Int)=B at*;have h:Hid (Int.tdiv (n:Int) 2=((n/2:Nat):Int)):=hI (by rw[Int.tdiv_eq_ediv_of_nonneg (by omega)];omega);have u:=h.o
 have g:Hid (decide (n/2<L.length)=decide ((n:Int)<2*(L.length:Int))):=hI (by
  rw[decide_eq_decide]
  omega)
 generalize k:n/2=N at*;have r:N<=3:=by omega
 clear a d k;go_enter Tryz.func29,Tryz.ntmps29;go_wp2_with fail;refine i.o.mono ?_;rintro e o ⟨rfl,rfl⟩;cases B;·go_wp2;go_ret;rw[b.o];exact⟨rfl,db.rfl' _⟩
 .go_wp2_with fail;refine c.o.mono ?_;rintro e o ⟨p,q,rfl,l,f⟩;have j:=hI f;clear l f c;go_wp2;go_ret;rw[b.o,<-g.o,Bool.true_and];exact⟨rfl,j.o⟩
theorem zN(x:Int){k:Int}(a:0<k): -k<x.tmod k:=by
 by_cases b:0<=x;·have:=Int.tmod_nonneg k b;omega
 .have h1:=Int.tmod_lt_of_pos (-x) a;rw[Int.neg_tmod]at h1;omega
def iL(x k:Int):Int:=if x.tmod k<0 then-(x.tmod k)else x.tmod k
theorem iM{x k:Int}(a:0<k):0<=iL x k/\iL x k<k:=by have h1:=Int.tmod_lt_of_pos x a;have h2: -k<x.tmod k:=zN x a;unfold iL;split<;>omega
theorem tU(x k:Int)(d:0<k/\k<=1000)(w:World):Calls Tryz.prog 13 #[.int .i64 x,.int .i64 k] w fun e h=>e=.returned (.int .i64 (iL x k))/\w=h:=by
 obtain⟨k1,k2⟩:=d;have j:¬k=0:=by omega
 have f:=hI (Int.tmod_lt_of_pos x k1);have g:=hI (zN x k1);obtain⟨R,b⟩:∃R,R=Int.tmod x k:=⟨_,rfl⟩;have m:R<k:=by have:=f.out;omega
 have l: -k<R:=by have:=g.out;omega
 unfold iL;rw[<-b];replace b:=b.symm;go_enter Tryz.func13,Tryz.ntmps13;by_cases a:R<0
 .have c:decide (R<0)=true:=decide_eq_true a;have i:wrap64 (-R)= -R:=by unfold wrap64;omega
  rw[if_pos a];go_wp2;go_ret;exact⟨rfl,rfl⟩
 .have c:decide (R<0)=false:=decide_eq_false a;rw[if_neg a];go_wp2;go_ret;exact⟨rfl,rfl⟩
end Go.Proofs.YtjhbmbbmjaabcaaGreat
