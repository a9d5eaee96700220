/-
  Contracts. Conditions stand at each.
-/
import Derived.Test.YtjhbmbbmjaabcaaGreatS25
set_option linter.all false
set_option maxRecDepth 8000
set_option maxHeartbeats 8000000
namespace Go.Proofs.YtjhbmbbmjaabcaaGreat
open Go Go.Sort Go.RowKit
theorem DT{t i j:Int}(c:gS t)(a:dE i)(b:dE j):dg (fC t j) i=(dg t i||i==j):=by
 obtain⟨k,l⟩:=c;obtain⟨d,e⟩:=a;obtain⟨f,g⟩:=b;have h:∀(t:Fin 128) (i j:Fin 8),1<=i.1->1<=j.1->dg (fC (t.1:Int) (j.1:Int)) (i.1:Int)=(dg (t.1:Int) (i.1:Int)||(i.1:Int)==(j.1:Int)):=by decide+kernel
 have:=h ⟨t.toNat,by omega⟩ ⟨i.toNat,by omega⟩ ⟨j.toNat,by omega⟩ (by simp;omega) (by simp;omega);grind
theorem lH{n:Nat}(c:3<=n/\n<=5){t u:Int}(d:gS t)(e:gS u)(h1:dX t n=true)(h2:dX u n=true):∃i,dE i/\dg t i=true/\dg u i=true:=by
 obtain⟨f,k⟩:=d;obtain⟨g,l⟩:=e;have h:∀(n:Fin 6) (t u:Fin 128),3<=n.1->dX (t.1:Int) (n.1:Int)=true->dX (u.1:Int) (n.1:Int)=true->∃i:Fin 8,1<=i.1/\dg (t.1:Int) (i.1:Int)=true/\dg (u.1:Int) (i.1:Int)=true:=by decide+kernel
 obtain⟨i,j,a,b⟩:=h ⟨n,by omega⟩ ⟨t.toNat,by omega⟩ ⟨u.toNat,by omega⟩ c.1 (by grind) (by grind);simp only[Int.toNat_of_nonneg f,Int.toNat_of_nonneg g]at a b;exact⟨i.1,⟨by omega,by omega⟩,a,b⟩
section
variable{vs:List iq} {n:Nat}
theorem tY:∀(vs:List iq) (t:Int),gS t->(∀x∈vs,dE x.fr)->gS (vs.foldl (fun t v=>fC t v.fr) t)/\∀i,dE i->(dg (vs.foldl (fun t v=>fC t v.fr) t) i=true↔dg t i=true\/∃x∈vs,x.fr=i)
 |[],t,a,_=>⟨a,fun i _=>by simp⟩
 |x::vs,t,a,h=>by
  have c:=h x (List.mem_cons_self ..);obtain⟨h1,h2⟩:=tY vs (fC t x.fr) (oe a c) (fun y d=>h y (List.mem_cons_of_mem _ d));refine⟨h1,fun i b=>?_⟩;rw[List.foldl_cons,h2 i b,DT a b c];simp only[Bool.or_eq_true,beq_iff_eq,List.mem_cons,exists_eq_or_imp];constructor
  .rintro((h|h)|h);·exact .inl h
   .exact .inr (.inl h.symm)
   .exact .inr (.inr h)
  .rintro(h|h|h);·exact .inl (.inl h)
   .exact .inl (.inr h.symm)
   .exact .inr h
theorem DU(i:Int):dg 0 i=false:=by unfold dg;simp
theorem fS(h:∀x∈vs,dE x.fr):gS (dr vs)/\∀i,dE i->(dg (dr vs) i=true↔∃x∈vs,x.fr=i):=by obtain⟨h1,h2⟩:=tY vs 0 ⟨by decide,by decide⟩ h;grind[dr,DU]
def eI(x b:iq):Prop:=x.ls<b.ls\/(x.ls=b.ls/\x.L.length<=b.L.length)
theorem tJ{x y z:iq}(h:eI x y)(k:eI y z):eI x z:=by unfold eI at*;omega
theorem yd{a b:iq}(h:lX a b=false):eI a b:=by grind[lX,kK,eI]
theorem Bp{a b:iq}(h:lX a b=true):eI b a:=by grind[lX,kK,eI]
theorem vj:∀(vs:List iq) (r:iq×Int),(vs.foldl fg r).1=r.1\/(vs.foldl fg r).1∈vs
 |[],r=> .inl rfl
 |x::vs,r=>by
  rw[List.foldl_cons];rcases vj vs (fg r x)with h|h;·rw[h];unfold fg;grind
  grind
theorem vk:∀(vs:List iq) (r:iq×Int),eI r.1 (vs.foldl fg r).1/\∀x∈vs,eI x (vs.foldl fg r).1
 |[],r=>⟨by unfold eI;simp,fun x b=>by cases b⟩
 |x::vs,r=>by
  rw[List.foldl_cons];obtain⟨h1,h2⟩:=vk vs (fg r x)
  have h3:eI r.1 (fg r x).1/\eI x (fg r x).1:=by
   unfold fg;simp only;split;·grind[eI,Bp]
   .rename_i h;exact⟨by unfold eI;simp,yd (Bool.eq_false_iff.2 h)⟩
  refine⟨tJ h3.1 h1,fun y a=>?_⟩;rcases List.mem_cons.1 a with rfl|a;·exact tJ h3.2 h1
  grind
theorem zd(h:vs≠[]):∃x∈vs,(dH vs).L=x.L/\(dH vs).ls=x.ls/\∀y∈vs,eI y x:=by obtain⟨a,l,rfl⟩:=List.exists_cons_of_ne_nil h;have h1:=vj (a::l) (a,0);have h2:=(vk (a::l) (a,0)).2;refine⟨((a::l).foldl fg (a,0)).1,?_,rfl,rfl,h2⟩;grind
structure Gh where
 vt:Int->Option (List iq)
 gl:Int->List dj
 ak:Int->Int->Nat
 cs:List dj
def gZ(g:Gh)(v:Int):List dj:=match g.vt v with
 |some vs=>(dH vs).L
 |none=>[]
structure Gy (g:Gh) (x:iq) (w:Int):Prop where
 id:dE x.fr
 lt:0<=x.ls/\x.ls<w
 zero:x.ls=0->x.L=[]
 pre:x.ls≠0->(g.vt x.ls).isSome=true/\gZ g x.ls<+:x.L/\x.L<+:g.gl x.ls
 ak:∀u,x.ls<u->u<w->g.ak x.fr u=0
 le:x.ls≠0->g.ak x.fr x.ls<=x.L.length
structure Jv (n:Nat) (g:Gh):Prop where
 pos:∀v vs,g.vt v=some vs->1<=v
 maj:∀v vs,g.vt v=some vs->dX (dr vs) n=true
 ok:∀v vs,g.vt v=some vs->∀x∈vs,Gy g x v
 pre:∀v,gZ g v<+:g.gl v
structure pQ (n:Nat) (g:Gh) (v:Int) (P:List dj):Prop where
 some:(g.vt v).isSome=true
 pre:P<+:g.gl v
 maj:∃t,gS t/\dX t n=true/\∀i,dE i->dg t i=true->P.length<=g.ak i v
theorem qn(a:3<=n/\n<=5)(h:dX (dr vs) n=true):vs≠[]:=by
 rintro rfl;have:∀n:Fin 6,3<=n.1->dX (dr []) (n.1:Int)=false:=by decide+kernel
 have:=this ⟨n,by omega⟩ a.1;grind
theorem sZ{n:Nat}(p:3<=n/\n<=5){g:Gh}(G:Jv n g){v:Int}{P:List dj}(C:pQ n g v P)(r:P≠[]):∀(k:Nat) (w:Int),w.toNat=k->v<w->(g.vt w).isSome=true->P<+:gZ g w:=by
 intro k
 induction k using Nat.strongRecOn with
 |ind k Q=>
  intro w V L M;obtain⟨vs,c⟩:=Option.isSome_iff_exists.1 M;have o:=G.maj w vs c;have a:=G.ok w vs c;have Z:=G.pos w vs c;obtain⟨s,E⟩:=fS (fun x N=>(a x N).id);obtain⟨t,F,H,u⟩:=C.maj;obtain⟨i,m,I,J⟩:=lH p F s H o;obtain⟨y,f,rfl⟩:=(E i m).1 J;have S:=u _ m I;have W:0<P.length:=List.length_pos_iff.2 r;obtain⟨b,j,A,U,B⟩:=zd (qn p o);have q:gZ g w=b.L:=by unfold gZ;rw[c];exact A
  have aa:v<=y.ls:=by
   by_cases h:y.ls<v;·have:=(a y f).ak v h L;omega
   .omega
  have d:=B y f;have Y:v<=b.ls:=by unfold eI at d;omega
  obtain⟨R,K⟩:=Option.isSome_iff_exists.1 C.some;have X:=G.pos v R K;have z:b.ls≠0:=by omega
  obtain⟨D,T,l⟩:=(a b j).pre z;rw[q];by_cases e:b.ls=v
  .have O:y.ls=v:=by unfold eI at d;omega
   have h1:=(a y f).le (by omega);rw[O]at h1;have h2:y.L.length<=b.L.length:=by unfold eI at d;omega
   rw[e]at l;exact List.prefix_of_prefix_length_le C.pre l (by omega)
  .have h3:=Q b.ls.toNat (by have:=(a b j).lt;omega) b.ls rfl (by omega) D;grind
theorem vr(b:3<=n/\n<=5){g:Gh}(G:Jv n g){v w:Int}{P Q:List dj}(C:pQ n g v P)(D:pQ n g w Q):P<+:Q\/Q<+:P:=by
 have c:∀{v w:Int} {P Q:List dj},pQ n g v P->pQ n g w Q->v<=w->P<+:Q\/Q<+:P:=by
  intro v w P Q C D h;by_cases a:P=[];·grind
  .by_cases e:v=w;·subst e;exact List.prefix_or_prefix_of_prefix C.pre D.pre
   .have:=sZ b G C a w.toNat w rfl (by omega) D.some;exact List.prefix_or_prefix_of_prefix (this.trans (G.pre w)) D.pre
 grind
end
section
variable{L:List dj} {e:dj}
structure eT (L:List dj):Prop where
 le:L.length<=60
 may:∀e∈L,ec e=true
 pw:L.Pairwise fun a b=>dG a b=false/\a.st<=b.st
theorem eT.nil:eT []:=⟨by decide,(fun e h=>by cases h),List.Pairwise.nil⟩
theorem eT.sub{M:List dj}(h:eT L)(k:M.Sublist L):eT M:=⟨Nat.le_trans k.length_le h.le,fun e a=>h.may e (k.subset a),h.pw.sublist k⟩
theorem eT.pre{M:List dj}(h:eT L)(k:M<+:L):eT M:=h.sub k.sublist
theorem Hx{L:List dj}{e:dj}(h:eT (L++[e])):(ib L).st<=e.st:=by
 unfold ib
 cases a:L.getLast? with
 |none=>
  have:=h.may e (by simp);grind[ec,ig,dx]
 |some x=>
  have b:=List.mem_of_getLast? a;have:=(List.pairwise_append.1 h.pw).2.2 x b e (by simp);exact this.2
theorem GX(h:eT (L++[e])):kI L e=some (L++[e]):=by
 have h1:=h.may e (by simp);have h2:(L.any fun x=>dG x e)=false:=by rw[List.any_eq_false];intro x a;have:=(List.pairwise_append.1 h.pw).2.2 x a e (by simp);rw[this.1];simp
 have h3:L.length<60:=by have:=h.le;simp at this;omega
 grind[kI,Hx,decide_eq_true]
theorem km:∀(M L:List dj),eT (L++M)->fw L M=some (L++M)
 |[],L,h=>by simp[fw]
 |e::M,L,h=>by
  have h1:eT (L++[e]):=h.pre ⟨M,by simp⟩;have h2:=km M (L++[e]) (by simpa using h);grind[fw,kI,GX]
theorem C4{L':List dj}(h:eT L)(k:kI L e=some L'):L'=L++[e]/\eT (L++[e]):=by
 unfold kI at k;split at k
 .rename_i i;simp only[Bool.and_eq_true,Bool.not_eq_true',decide_eq_true_eq]at i;obtain⟨⟨⟨h1,h2⟩,h3⟩,h4⟩:=i;cases k;refine⟨rfl,by simp;omega,fun x f=>?_,?_⟩
  .rcases List.mem_append.1 f with f|f;·exact h.may x f
   grind
  .rw[List.pairwise_append];refine⟨h.pw,List.pairwise_singleton _ _,fun a c b g=>?_⟩;simp at g;subst g;rw[List.any_eq_false]at h2;refine⟨by grind,?_⟩;have d:L≠[]:=List.ne_nil_of_mem c;have n:ib L=L.getLast d:=by unfold ib;rw[List.getLast?_eq_some_getLast d];rfl
   rw[n]at h4;have j:=List.dropLast_concat_getLast d;by_cases e:a=L.getLast d;·grind
   .have m:a∈L.dropLast:=by
     rw[<-j]at c;rcases List.mem_append.1 c with c|c;·exact c
     .simp at c;exact absurd c e
    have l:=h.pw;rw[<-j]at l;have:=(List.pairwise_append.1 l).2.2 a m (L.getLast d) (by simp);omega
 .cases k
theorem AC(h1:ec e=true)(h2:L.length<60)(h3:(ib L).st<=e.st)(k:kI L e=none):(L.any fun x=>dG x e)=true:=by grind[kI,dG]
end
section
variable{L:List dj} {x:dz×List dj} {v u w c:Int} {vs:List iq} {s:dp}
def fh(C:List dj)(e:dj):Prop:=∃c∈C,gN c e=true
theorem fh.mono{C C':List dj}{e:dj}(h:fh C e)(k:C<+:C'):fh C' e:=let⟨c,h1,h2⟩:=h;⟨c,k.subset h1,h2⟩
def el(n:Nat)(g:Gh)(u:Int)(L:List dj)(c:Int):Prop:=0<=c/\c<=(L.length:Int)/\(c=0\/∃v,v<=u/\pQ n g v (L.take c.toNat))
structure ve (n:Nat) (g:Gh) (dv:Int->Int) (w:Int) (vs:List iq):Prop where
 ok:∀x∈vs,x.fr<=n/\Gy g x w/\w<=dv x.fr/\el n g x.ls x.L x.cm/\eT x.L
 pw:vs.Pairwise fun a b=>a.fr≠b.fr
structure fU (n:Nat) (g:Gh) (dv:Int->Int) (s:dp):Prop where
 nn:s.n=n
 id:1<=s.id/\s.id<=n
 kn:s.kn=true
 bt:s.bt=1
 pr:dv s.id=s.dv
 ls:0<=s.ls/\s.ls<=s.dv
 zero:s.ls=0->s.L=[]
 pre:s.ls≠0->gZ g s.ls<+:s.L/\s.L<+:g.gl s.ls
 mb:s.ls≠0->∃vs,g.vt s.ls=some vs/\s.mb=dr vs
 mem:s.ls≠0->dg s.mb s.id=true
 ak:s.ls≠0->g.ak s.id s.ls=s.L.length
 ak0:∀u,s.ls<u->g.ak s.id u=0
 own:∀v,(g.vt v).isSome=true->dJ v n=s.id->v<=s.ls
 lead:s.ls≠0->dJ s.ls n=s.id->s.L=g.gl s.ls/\s.mi=true
 mi:s.mi=true->s.ls≠0/\dJ s.ls n=s.id
 cm:el n g s.ls s.L s.cm
 q:s.mi=true->∃q,s.q=some q/\q.n=n/\q.mb=s.mb/\q.me=s.id/\q.hv.length=8/\q.pr.length=8/\∀j,dE j->0<=q.hv.getD j.toNat 0/\q.hv.getD j.toNat 0<=(g.ak j s.ls:Int)
 v:∀w vs,s.v=some (w,vs)->dJ w n=s.id/\g.vt w=none/\s.ls<w/\w<=s.dv/\ve n g dv w vs/\∃x∈vs,x.fr=s.id
 P:∀e∈s.P,fh g.cs e
structure kh (n:Nat) (g:Gh) (dv:Int->Int) (x:dz×List dj):Prop where
 may:eP x.1 x.2=true
 fr:x.1.fr<=n
 tp:x.1.to<=n
 bt:x.1.bt=1
 kd:x.1.kd<=9
 nm:x.1.nm<=2048576
 log:eT x.2\/x.1.kd=7
 k1:x.1.kd=1->dJ x.1.vw n=x.1.fr/\1<=x.1.vw/\x.1.vw<=dv x.1.fr
 k2:x.1.kd=2->x.1.vw<=dv x.1.fr
 k3:x.1.kd=3->Gy g ⟨x.1.fr,x.1.ls,x.2,x.1.cm⟩ x.1.vw/\x.1.vw<=dv x.1.fr/\el n g x.1.ls x.2 x.1.cm
 k4:x.1.kd=4->dJ x.1.vw n=x.1.fr/\(∃vs,g.vt x.1.vw=some vs/\x.1.mb=dr vs)/\gZ g x.1.vw<+:x.2/\x.2<+:g.gl x.1.vw/\el n g x.1.vw x.2 x.1.cm/\dg x.1.mb x.1.to=true/\dg x.1.mb x.1.fr=true
 k5:x.1.kd=5->dJ x.1.vw n=x.1.fr/\(g.vt x.1.vw).isSome=true/\x.1.po<=(g.ak x.1.to x.1.vw:Int)/\(∃k,x.2=((g.gl x.1.vw).take k).drop x.1.po.toNat)/\el n g x.1.vw (g.gl x.1.vw) x.1.cm
 k6:x.1.kd=6->x.1.vw≠0->x.1.po<=(g.ak x.1.fr x.1.vw:Int)/\∃vs,g.vt x.1.vw=some vs/\dg (dr vs) x.1.fr=true
 k7:x.1.kd=7->∀e∈x.2,fh g.cs e
structure Gsp (n:Nat) (i d:Int) (g D:Gh):Prop where
 vt:∀v vs,g.vt v=some vs->D.vt v=some vs
 vti:∀v,dJ v n≠i->D.vt v=g.vt v
 gl:∀v,g.gl v<+:D.gl v
 gli:∀v,dJ v n≠i->D.gl v=g.gl v
 ak:∀j v,g.ak j v<=D.ak j v
 aki:∀j v,j≠i->D.ak j v=g.ak j v
 akd:∀v,v<d->D.ak i v=g.ak i v
 cs:g.cs<+:D.cs
structure i8 (n:Nat) (i d:Int) (g D:Gh):Prop extends Gsp n i d g D where
 ce:D.cs=g.cs
variable{n:Nat} {i d:Int} {g D:Gh} {dv G:Int->Int}
theorem i8.of(l:∀v vs,g.vt v=some vs->D.vt v=some vs)(m:∀v,dJ v n≠i->D.vt v=g.vt v)(h:∀v,g.gl v<+:D.gl v)(k:∀v,dJ v n≠i->D.gl v=g.gl v)(a:∀j v,g.ak j v<=D.ak j v)(e:∀j v,j≠i->D.ak j v=g.ak j v)(b:∀v,v<d->D.ak i v=g.ak i v)(f:D.cs=g.cs):i8 n i d g D:=⟨⟨l,m,h,k,a,e,b,by grind⟩,f⟩
theorem i8.refl(n:Nat)(i d:Int)(g:Gh):i8 n i d g g:=.of (fun _ _ h=>h) (fun _ _=>rfl) (fun _=>List.prefix_refl _) (fun _ _=>rfl) (fun _ _=>Nat.le_refl _) (fun _ _ _=>rfl) (fun _ _=>rfl) rfl
theorem Gsp.some(k:Gsp n i d g D)(h:(g.vt v).isSome=true):(D.vt v).isSome=true:=by obtain⟨vs,a⟩:=Option.isSome_iff_exists.1 h;rw[k.vt v vs a];rfl
theorem Gsp.base(k:Gsp n i d g D)(h:(g.vt v).isSome=true):gZ D v=gZ g v:=by obtain⟨vs,a⟩:=Option.isSome_iff_exists.1 h;unfold gZ;rw[k.vt v vs a,a]
theorem i8.base(k:i8 n i d g D)(h:(g.vt v).isSome=true):gZ D v=gZ g v:=k.toGsp.base h
theorem pQ.monop(k:Gsp n i d g D){P:List dj}(h:pQ n g v P):pQ n D v P:=by obtain⟨t,h1,h2,h3⟩:=h.maj;exact⟨k.some h.some,h.pre.trans (k.gl v),t,h1,h2,fun j a b=>Nat.le_trans (h3 j a b) (k.ak j v)⟩
theorem pQ.sub{P Q:List dj}(h:pQ n g v P)(a:Q<+:P):pQ n g v Q:=by obtain⟨t,h1,h2,h3⟩:=h.maj;exact⟨h.some,a.trans h.pre,t,h1,h2,fun j b e=>Nat.le_trans a.length_le (h3 j b e)⟩
theorem el.monop(k:Gsp n i d g D)(h:el n g u L c):el n D u L c:=
 ⟨h.1,h.2.1,h.2.2.imp id (fun⟨v,h1,h2⟩=>⟨v,h1,h2.monop k⟩)⟩
theorem el.mono(k:i8 n i d g D)(h:el n g u L c):el n D u L c:=h.monop k.toGsp
theorem el.ext{L':List dj}(h:el n g u L c)(a:L<+:L'):el n g u L' c:=by obtain⟨h1,h2,h3⟩:=h;have:=a.length_le;refine⟨h1,by omega,h3.imp id (fun⟨v,h4,h5⟩=>⟨v,h4,?_⟩)⟩;obtain⟨t,rfl⟩:=a;grind
theorem el.less{a:Int}(h:el n g u L c)(b:0<=a)(e:a<=c):el n g u L a:=by
 obtain⟨h1,h2,h3⟩:=h;refine⟨b,by omega,?_⟩;rcases h3 with h3|⟨v,h4,h5⟩;·omega
 .exact .inr ⟨v,h4,h5.sub (List.take_prefix_take_left (by omega))⟩
theorem Gy.monop(k:Gsp n i d g D){x:iq}(h:Gy g x w)(f:x.fr=i->w<=d):Gy D x w:=by
 have b:∀u,u<w->D.ak x.fr u=g.ak x.fr u:=fun u j=>by
  by_cases e:x.fr=i;·rw[e];exact k.akd u (by omega)
  .exact k.aki _ u e
 refine⟨h.id,h.lt,h.zero,fun a=>?_,fun u h1 h2=>by rw[b u h2];exact h.ak u h1 h2,fun a=>by rw[b _ h.lt.2];exact h.le a⟩;obtain⟨h1,h2,h3⟩:=h.pre a;exact⟨k.some h1,by rw[k.base h1];exact h2,h3.trans (k.gl _)⟩
theorem Gy.mono(k:i8 n i d g D){x:iq}(h:Gy g x w)(a:x.fr=i->w<=d):Gy D x w:=h.monop k.toGsp a
theorem ve.monop(k:Gsp n i (dv i) g D)(b:∀j,dv j<=G j)(h:ve n g dv w vs):ve n D G w vs:=
 ⟨fun x f=>by
  obtain⟨a,h1,h2,h3,h4⟩:=h.ok x f
  exact⟨a,h1.monop k (fun e=>by grind),Int.le_trans h2 (b _),h3.monop k,h4⟩,h.pw⟩
theorem ve.mono(k:i8 n i (dv i) g D)(a:∀j,dv j<=G j)(h:ve n g dv w vs):ve n D G w vs:=h.monop k.toGsp a
theorem fU.monop(k:Gsp n i (dv i) g D)(r:∀j,dv j<=G j)(h:fU n g dv s)(m:s.id≠i)(p:G s.id=dv s.id):fU n D G s:=by
 refine⟨h.nn,h.id,h.kn,h.bt,p.trans h.pr,h.ls,h.zero,fun a=>?_,fun a=>?_,h.mem,fun a=>by rw[k.aki _ _ m];exact h.ak a,fun u z=>by rw[k.aki _ _ m];exact h.ak0 u z,fun v o b=>?_,fun a b=>?_,h.mi,h.cm.monop k,fun y=>?_,fun w vs A=>?_,fun e t=>(h.P e t).mono k.cs⟩;·obtain⟨vs,h1,h2⟩:=h.mb a;obtain⟨h3,h4⟩:=h.pre a;exact⟨by rw[k.base (by rw[h1];rfl)];exact h3,h4.trans (k.gl _)⟩
 .obtain⟨vs,h1,h2⟩:=h.mb a;exact⟨vs,k.vt _ _ h1,h2⟩
 .rw[k.vti v (by omega)]at o;exact h.own v o b
 .rw[k.gli _ (by omega)];exact h.lead a b
 .obtain⟨q,h1,h2,h3,h4,h5,h6,f⟩:=h.q y;exact⟨q,h1,h2,h3,h4,h5,h6,fun j l=>⟨(f j l).1,Int.le_trans (f j l).2 (by have:=k.ak j s.ls;omega)⟩⟩
 .obtain⟨h1,h2,h3,h4,h5,h6⟩:=h.v w vs A;exact⟨h1,by rw[k.vti w (by omega)];exact h2,h3,h4,h5.monop k r,h6⟩
theorem fU.mono(k:i8 n i (dv i) g D)(b:∀j,dv j<=G j)(h:fU n g dv s)(e:s.id≠i)(a:G s.id=dv s.id):fU n D G s:=h.monop k.toGsp b e a
theorem kh.monop(k:Gsp n i (dv i) g D)(b:∀j,dv j<=G j)(h:kh n g dv x):kh n D G x:=by
 refine⟨h.may,h.fr,h.tp,h.bt,h.kd,h.nm,h.log,fun e=>?_,fun e=>Int.le_trans (h.k2 e) (b _),fun e=>?_,fun e=>?_,fun e=>?_,fun e a=>⟨Int.le_trans (h.k6 e a).1 (by have:=k.ak x.1.fr x.1.vw;omega),let⟨vs,h1,h2⟩:=(h.k6 e a).2;⟨vs,k.vt _ _ h1,h2⟩⟩,fun e y l=>(h.k7 e y l).mono k.cs⟩;·obtain⟨h1,h2,h3⟩:=h.k1 e;grind
 .obtain⟨h1,h2,h3⟩:=h.k3 e;exact⟨h1.monop k (fun e=>by grind),Int.le_trans h2 (b _),h3.monop k⟩
 .obtain⟨h1,⟨vs,h2,h3⟩,h4,h5,h6,f⟩:=h.k4 e;exact⟨h1,⟨vs,k.vt _ _ h2,h3⟩,by rw[k.base (by rw[h2];rfl)];exact h4,h5.trans (k.gl _),h6.monop k,f⟩
 .obtain⟨h1,h2,h3,⟨j,h4⟩,h5⟩:=h.k5 e;refine⟨h1,k.some h2,Int.le_trans h3 (by have:=k.ak x.1.to x.1.vw;omega),⟨min j (g.gl x.1.vw).length,?_⟩,(h5.monop k).ext (k.gl _)⟩;obtain⟨t,m⟩:=k.gl x.1.vw;grind
theorem kh.mono(k:i8 n i (dv i) g D)(a:∀j,dv j<=G j)(h:kh n g dv x):kh n D G x:=h.monop k.toGsp a
end
section
variable{w:Int}
structure iH (n:Nat) (g:Gh) (dv:Int->Int):Prop where
 gh:Jv n g
 log:∀v,eT (g.gl v)
 vs:∀w vs,g.vt w=some vs->ve n g dv w vs
 emp:∀v,g.vt v=none->g.gl v=[]/\∀j,g.ak j v=0
 gc:∀v,∀e∈g.gl v,fh g.cs e
 cs:g.cs.length<=60
 al:∀j v,g.ak j v<=(g.gl v).length
def gL(dv:Int->Int)(i v:Int):Int->Int:=fun j=>if j=i then v else dv j
structure jY (B K:Int) (s:dp):Prop where
 dv:s.dv<=B
 dn:0<=s.dn/\s.dn<=B
 ck:0<=s.ck/\s.ck<=K/\K<=300
 hd:0<=s.hd/\s.hd<=s.ck
 nm:1048576<=s.f.nm/\s.f.nm<=1048576+B
 ask:s.f.ask.length<=64
 asc:∀q∈s.f.ask,0<=q.2/\q.2<=s.ck
 bc:0<=s.f.bc/\s.f.bc<=s.ck
 la:∀q,s.q=some q->0<=q.la/\q.la<=B
 er:∀i,s.er.at i<=s.ck
 akl:(s.ak.length:Int)<=64+s.ck
 akw:∀q∈s.ak,dE q.who/\(q.who<=s.n)/\0<=q.num/\q.num<=2048576
 P:s.P.length<=4/\∀e∈s.P,ec e=true/\e.st=0
 bs:∀i,s.bs.at i<=1
structure fG (n:Nat) (g:Gh) (dv:Int->Int) (B K:Int) (s s':dp):Prop where
 seen:∃g',i8 n s.id (dv s.id) g g'/\iH n g' (gL dv s.id s'.dv)/\fU n g' (gL dv s.id s'.dv) s'/\∀x∈s'.out,x∈s.out\/kh n g' (gL dv s.id s'.dv) x
 id:s'.id=s.id
 pr:dv s.id=s.dv
 dv:s.dv<=s'.dv
 nb:jY B K s'
 ck:s'.ck=s.ck
 out:s'.out.length<=500
theorem oP{s:dp}{m:dz}{L:List dj}(a:eP (dm s m) L=true)(b:s.out.length<1000):gu s m L=some (gW s m L):=by grind[gu,kX,decide_eq_true]
theorem kg{m:dz}{L:List dj}(h1:1<=m.kd/\m.kd<=9)(h2:1<=m.fr/\m.fr<=7)(h3:1<=m.to/\m.to<=7)(h4:m.fr≠m.to)(h5:m.bt=1)(h6:0<=m.vw/\m.vw<=10000000)(h:0<=m.ls/\m.ls<=10000000)(h8:0<=m.nm/\m.nm<=10000000)(i:0<=m.ck/\m.ck<=10000000)(a:0<=m.mb/\m.mb<=127)(b:0<=m.po/\m.po<=60)(c:0<=m.cm/\m.cm<=60)(d:L.length<=60)(f:∀e∈L,ec e=true):eP m L=true:=by grind[gT,lb,su,List.all_eq_true]
theorem iO(dv:Int->Int)(i v:Int):gL dv i v i=v:=by simp[gL]
theorem j8{dv:Int->Int}{i v:Int}(h:dv i<=v)(j:Int):dv j<=gL dv i v j:=by grind[gL]
theorem mt{dv:Int->Int}{i:Int}:gL dv i (dv i)=dv:=by grind[gL]
theorem ve.le{n:Nat}{g:Gh}{dv a:Int->Int}(d:∀j,dv j<=a j){vs:List iq}(h:ve n g dv w vs):ve n g a w vs:=
 ⟨fun x b=>by
  obtain⟨c,h1,h2,h3⟩:=h.ok x b
  grind,h.pw⟩
theorem iH.le{n:Nat}{g:Gh}{dv a:Int->Int}(b:∀j,dv j<=a j)(h:iH n g dv):iH n g a:=⟨h.gh,h.log,fun w vs c=>(h.vs w vs c).le b,h.emp,h.gc,h.cs,h.al⟩
theorem Dt{n:Nat}(a:3<=n/\n<=5){v:Int}(b:1<=v):1<=dJ v n/\dJ v n<=n:=by have h1:=Int.tmod_lt_of_pos (v-1) (show 0<(n:Int) by omega);have h2:=Int.tmod_nonneg (n:Int) (show 0<=v-1 by omega);unfold dJ;omega
theorem fU.logOk{n:Nat}{g:Gh}{dv:Int->Int}{s:dp}(G:iH n g dv)(h:fU n g dv s):eT s.L:=by
 by_cases a:s.ls=0;·rw[h.zero a];exact eT.nil
 .exact(G.log _).pre (h.pre a).2
theorem fU.vote{n:Nat}{g:Gh}{dv:Int->Int}{s:dp}(d:3<=n/\n<=5)(G:iH n g dv)(h:fU n g dv s)(c:s.ls<w):Gy g ⟨s.id,s.ls,s.L,s.cm⟩ w:=by have b:=h.id;refine⟨⟨b.1,by grind⟩,⟨h.ls.1,c⟩,h.zero,fun a=>?_,fun u h1 h2=>h.ak0 u h1,fun a=>by rw[h.ak a];grind⟩;obtain⟨vs,h1,h2⟩:=h.mb a;obtain⟨h3,h4⟩:=h.pre a;grind
variable{n:Nat} {g:Gh} {dv:Int->Int} {B K:Int} {s s':dp} {m:dz} {L:List dj}
theorem fU.same(h:fU n g dv s)(a:s'.n=s.n)(f:s'.id=s.id)(i:s'.kn=s.kn)(j:s'.bt=s.bt)(k:s'.dv=s.dv)(l:s'.ls=s.ls)(o:s'.L=s.L)(p:s'.mb=s.mb)(q:s'.mi=s.mi)(b:s'.cm=s.cm)(c:s'.q=s.q)(d:s'.v=s.v)(e:s'.P=s.P:=by rfl):fU n g dv s':=by obtain⟨a1,a2,a3,a4,a5,E,F,G,H,r,t,u,v,x,y,z,A,C,D⟩:=h;constructor<;>simp only[a,f,i,j,k,l,o,p,q,b,c,d,e]<;>assumption
theorem jY.same(h:jY B K s)(a:s'.dv=s.dv)(d:s'.dn=s.dn)(e:s'.ck=s.ck)(f:s'.hd=s.hd)(i:s'.f=s.f)(j:s'.q=s.q)(k:s'.er=s.er)(l:s'.ak=s.ak)(o:s'.P=s.P)(b:s'.bs=s.bs)(c:s'.n=s.n):jY B K s':=by obtain⟨a1,a2,a3,a4,a5,v,x,y,z,p,q,r,t,u⟩:=h;constructor<;>simp only[a,d,e,f,i,j,k,l,o,b,c]<;>assumption
theorem fG.say(D:fG n g dv B K s s')(i:s'.out.length<500)(h:∀a c,i8 n s.id (dv s.id) g a->iH n a c->fU n a c s'->(∀j,dv j<=c j)->kh n a c (dm s' m,L)):∃d,gu s' m L=some d/\d=gW s' m L/\fG n g dv B K s d:=by
 obtain⟨⟨a,k,G,N,M⟩,h1,e,h2,h3,h4,h5⟩:=D;have f:dv s.id<=s'.dv:=by rw[e];exact h2
 have X:=h a _ k G N (j8 f);refine⟨_,oP X.may (by omega),rfl,⟨⟨a,k,G,N.same rfl rfl rfl rfl rfl rfl rfl rfl rfl rfl rfl rfl,fun x b=>?_⟩,h1,e,h2,h3.same rfl rfl rfl rfl rfl rfl rfl rfl rfl rfl rfl,h4,?_⟩⟩
 .rcases List.mem_append.1 b with b|b;·exact M x b
  .simp at b;rw[b];exact .inr X
 .show(s'.out++[(dm s' m,L)]).length<=500;grind
theorem fG.same(G:iH n g dv)(N:fU n g dv s)(b:fU n g dv s')(h1:s'.id=s.id)(h2:s'.dv=s.dv)(a:jY B K s')(h3:s'.ck=s.ck)(h4:s'.out=s.out)(h5:s.out.length<=500):fG n g dv B K s s':=by
 have e:gL dv s.id s'.dv=dv:=by rw[h2,<-N.pr];exact mt
 refine⟨⟨g,i8.refl _ _ _ _,by grind,by grind,fun x c=> .inl (by grind)⟩,h1,N.pr,by omega,a,h3,by grind⟩
theorem fU.join(G:iH n g dv)(N:fU n g dv s)(O:s.dv<w)(b:s'.n=s.n)(i:s'.id=s.id)(k:s'.kn=s.kn)(l:s'.bt=s.bt)(o:s'.dv=w)(p:s'.ls=s.ls)(q:s'.L=s.L)(r:s'.mb=s.mb)(t:s'.mi=s.mi)(c:s'.cm=s.cm)(d:s'.q=s.q)(e:s'.v=none)(f:s'.P=s.P:=by rfl):fU n g (gL dv s.id w) s':=by have M:∀j,dv j<=gL dv s.id w j:=j8 (by have:=N.pr;omega);obtain⟨a1,a2,a3,a4,a5,a,H,I,J,u,v,x,y,z,A,C,D,E,F⟩:=N;constructor<;>simp only[b,i,k,l,o,p,q,r,t,c,d,e,f]<;>first|assumption|(exact iO _ _ _)|(exact⟨a.1,by omega⟩)|(intro _ _ h;cases h)
theorem Dv(y:3<=n/\n<=5)(G:iH n g dv)(N:fU n g dv s)(a:jY B K s)(u:B<=1000000)(z:s.out=[])(X:kh n g dv (m,L))(q:m.kd=2)(t:∀j,dv j<=B):∃c,qJ s m=some c/\fG n g dv B K s c:=by
 have h2:=X.k2 q
 unfold qJ
 cases r:s.v with
 |none=>exact⟨s,rfl,fG.same G N N rfl rfl a rfl rfl (by grind)⟩
 |some v=>
  simp only;split;·rename_i b;have b:=of_decide_eq_true b;have x:=t m.fr;rw[if_pos (decide_eq_true (by grind))];refine⟨_,rfl,fG.same G N (N.same rfl rfl rfl rfl rfl rfl rfl rfl rfl rfl rfl r.symm) rfl rfl ?_ rfl rfl (by grind)⟩;obtain⟨a1,a2,a3,a4,a5,k,l,o,p,d,e,f,h,i⟩:=a;refine⟨a1,?_,a3,a4,a5,k,l,o,p,d,e,f,h,i⟩;grind[ep]
  .exact⟨s,rfl,fG.same G N N rfl rfl a rfl rfl (by grind)⟩
end
section
variable{n:Nat} {g:Gh} {dv:Int->Int} {B K:Int} {s s':dp} {m:dz} {L:List dj}
theorem lZ{α:Type}[DecidableEq α]:∀(l m:List α),l.Pairwise (fun a b=>a≠b)->(∀x∈l,x∈m)->l.length<=m.length
 |[],m,_,_=>Nat.zero_le _
 |x::l,m,h,k=>by
  have d:=k x (List.mem_cons_self ..);obtain⟨h1,h2⟩:=List.pairwise_cons.1 h;have:=lZ l (m.erase x) h2 (fun y c=>(List.mem_erase_of_ne (fun e=>h1 y c e.symm)).2 (k y (List.mem_cons_of_mem _ c)));grind
theorem DX{i:Int}(h:dE i):i∈ek:=by
 obtain⟨h1,h2⟩:=h;have:i=1\/i=2\/i=3\/i=4\/i=5\/i=6\/i=7:=by omega
 rcases this with rfl|rfl|rfl|rfl|rfl|rfl|rfl<;>decide
theorem ve.len{w:Int}{vs:List iq}(h:ve n g dv w vs):vs.length<=7:=by
 have h1:=lZ (vs.map (·.fr)) ek (List.pairwise_map.2 h.pw) (fun i a=>by
  obtain⟨x,b,rfl⟩:=List.mem_map.1 a
  exact DX (h.ok x b).2.1.id)
 rw[List.length_map]at h1;exact h1
theorem kh.ids(X:kh n g dv (m,L)):1<=m.fr/\m.fr<=n/\1<=m.to/\m.to<=n/\m.fr≠m.to/\1<=m.kd:=by have h1:=(gT.1 X.may).1;rw[lb]at h1;have h2:=X.fr;have h3:=X.tp;grind
theorem kh.nums(X:kh n g dv (m,L)):0<=m.vw/\0<=m.ls/\0<=m.nm/\0<=m.ck/\0<=m.mb/\m.mb<=127/\0<=m.po/\m.po<=60/\0<=m.cm/\m.cm<=60/\L.length<=60/\∀e∈L,ec e=true:=by obtain⟨-,h2,h3,h4⟩:=gT.1 X.may;grind[su,List.all_eq_true]
theorem fU.cm60(G:iH n g dv)(N:fU n g dv s):0<=s.cm/\s.cm<=60/\s.L.length<=60:=by have h1:=N.cm;have h2:=(N.logOk G).le;unfold el at h1;omega
theorem As(i:3<=n/\n<=5)(k:B<=1000000){b:Gh}{a:Int->Int}(G:iH n b a)(N:fU n b a s')(j:jY B K s'){fr vw:Int}(f:1<=fr/\fr<=n)(p:fr≠s'.id)(h1:s'.ls<vw)(h2:vw<=s'.dv):kh n b a (dm s' ⟨3,0,fr,0,vw,s'.ls,0,0,s'.cm,0,0,false⟩,s'.L):=by
 have d:=N.cm60 G;have h:=N.id;have l:=j.dv;have o:=N.ls;have c:=N.bt;refine⟨kg (by simp[dm]) (by show 1<=s'.id/\s'.id<=7;omega) (by show 1<=fr/\fr<=7;omega) (by show s'.id≠fr;omega) c (by show 0<=vw/\vw<=10000000;omega) (by show 0<=s'.ls/\s'.ls<=10000000;omega) (by simp[dm]) (by simp[dm]) (by simp[dm]) (by simp[dm]) (by show 0<=s'.cm/\s'.cm<=60;omega) d.2.2 (N.logOk G).may,h.2,f.2,c,by simp[dm],by simp[dm],.inl (N.logOk G),?_,?_,?_,?_,?_,?_,?_⟩;·intro e;simp[dm]at e
 .intro e;simp[dm]at e
 .intro _;exact⟨N.vote i G h1,by show vw<=a s'.id;rw[N.pr];exact h2,N.cm⟩
 .intro e;simp[dm]at e
 .intro e;simp[dm]at e
 .intro e;simp[dm]at e
 .intro e;simp[dm]at e
theorem E6(u:3<=n/\n<=5)(G:iH n g dv)(N:fU n g dv s)(d:jY B K s)(o:B<=1000000)(ho:s.out=[])(X:kh n g dv (m,L))(H:m.kd=1)(aa:m.to=s.id)(M:∀j,dv j<=B):∃b,ng s m=some b/\fG n g dv B K s b:=by
 obtain⟨k1,k2,k3⟩:=X.k1 H;obtain⟨i,h,S,T,U,V⟩:=X.ids;simp only at k1 k2 k3;have W:=M m.fr;have I:=N.nn;have p:=N.bt;have Z:=N.ls;have Y:=d.dv;have F:=N.id;unfold ng;rw[if_pos (decide_eq_true (by omega)),I,k1,if_pos (by simp)];by_cases t:s.dv<m.vw
 .rw[if_pos (decide_eq_true t)];have D:fG n g dv B K s (pA s m):=by refine⟨⟨g,i8.refl _ _ _ _,G.le (j8 (by have:=N.pr;show dv s.id<=m.vw;omega)),N.join G t rfl rfl rfl rfl rfl rfl rfl rfl rfl rfl rfl rfl,fun x O=> .inl O⟩,rfl,N.pr,by show s.dv<=m.vw;omega,?_,rfl,by show s.out.length<=500;grind⟩;obtain⟨a1,a2,a3,a4,a5,P,Q,R,C,v,w,y,z,A⟩:=d;exact⟨by show m.vw<=B;omega,a2,a3,⟨a3.1,Int.le_refl _⟩,a5,by show([]:List (Int×Int)).length<=64;decide,(fun q J=>by cases J),⟨Int.le_refl _,a3.1⟩,C,v,w,y,z,A⟩
  obtain⟨b,h1,-,h2⟩:=D.say (m:=kE s m) (L:=s.L) (by show s.out.length<500;grind) (fun l f k c a r=>by
   have:=As u o c a D.nb (fr:=m.fr) (vw:=m.vw) ⟨i,h⟩ (by show m.fr≠s.id;omega) (by show s.ls<m.vw;omega) (by show m.vw<=m.vw;omega)
   exact this)
  grind
 .rw[if_neg (by simp;omega)];have D:fG n g dv B K s s:=fG.same G N N rfl rfl d rfl rfl (by grind);by_cases h2:m.vw<s.dv\/m.vw<=s.ls
  .rw[if_pos (by grind)]
   obtain⟨b,h1,-,h2⟩:=D.say (m:=gP s m) (L:=[]) (by grind) (fun l f k c a r=>by
    refine⟨kg (by simp[dm,gP]) (by show 1<=s.id/\s.id<=7;omega) (by show 1<=m.fr/\m.fr<=7;omega) (by show s.id≠m.fr;omega) p (by show 0<=s.dv/\s.dv<=10000000;omega) (by simp[dm,gP]) (by simp[dm,gP]) (by simp[dm,gP]) (by simp[dm,gP]) (by simp[dm,gP]) (by simp[dm,gP]) (by grind) (fun e E=>by cases E),F.2,h,p,by simp[dm,gP],by simp[dm,gP],.inl eT.nil,?_,?_,?_,?_,?_,?_,?_⟩
    .intro e;simp[dm,gP]at e
    .intro _;show s.dv<=f s.id;rw[a.pr];omega
    .intro e;simp[dm,gP]at e
    .intro e;simp[dm,gP]at e
    .intro e;simp[dm,gP]at e
    .intro e;simp[dm,gP]at e
    grind)
   grind
  .rw[if_neg (by grind)]
   obtain⟨b,h1,-,h2⟩:=D.say (m:=kE s m) (L:=s.L) (by grind) (fun l f k c a r=>by
    have:=As u o c a d (fr:=m.fr) (vw:=m.vw) ⟨i,h⟩ (by omega) (by omega) (by omega)
    exact this)
   grind
theorem Gk(hn:3<=n/\n<=5)(G:iH n g dv)(N:fU n g dv s)(k:jY B K s)(Y:B<=1000000)(ho:s.out=[])(X:kh n g dv (m,L))(M:m.kd=3):∃l,sr s m L=some l/\fG n g dv B K s l:=by
 obtain⟨k1,k2,k3⟩:=X.k3 M
 obtain⟨J,S,T,U,V,W⟩:=X.ids
 have ad:=X.nums
 have ac:=N.nn
 have D:fG n g dv B K s s:=fG.same G N N rfl rfl k rfl rfl (by grind)
 unfold sr
 cases O:s.v with
 |none=>grind
 |some v=>
  obtain⟨w,vs⟩:=v;obtain⟨a1,a2,a3,a4,a5,Q⟩:=N.v w vs O;simp only;by_cases hc:m.vw=w/\m.vw=s.dv
  .rw[if_pos (by grind)];by_cases d:dg (dr vs) m.fr=true;·grind
   .rw[if_neg (by simp[d])]
    have ab:eT L:=by
     rcases X.log with h|h;·exact h
     .grind
    have aa:vs.length<=90:=by have:=ve.len a5;omega
    have i:=k3;unfold el at i;have P:=k1.lt;simp only at P i
    rw[if_pos (by
     unfold Ar
     rw[Bool.eq_false_iff.2 d,show(fw [] L).isSome=true by grind[km]]
     grind)]
    refine⟨_,rfl,fG.same G N ?_ rfl rfl (k.same rfl rfl rfl rfl rfl rfl rfl rfl rfl rfl rfl) rfl rfl (by grind)⟩;have o:=N;obtain⟨b1,b2,b3,b4,E,F,H,b8,I,p,q,r,t,u,y,z,A,R,C⟩:=o;refine⟨b1,b2,b3,b4,E,F,H,b8,I,p,q,r,t,u,y,z,A,fun w' ae j=>?_,C⟩;simp only[Option.some.injEq,Prod.mk.injEq]at j;obtain⟨rfl,rfl⟩:=j;refine⟨a1,a2,a3,a4,⟨fun x c=>?_,?_⟩,?_⟩
    .rcases List.mem_append.1 c with c|c;·exact a5.ok x c
     grind
    .rw[List.pairwise_append];refine⟨a5.pw,List.pairwise_singleton _ _,fun a Z b f=>?_⟩;simp at f;subst f;intro e;refine d ?_;have:=(fS (vs:=vs) (fun x c=>(a5.ok x c).2.1.id)).2 m.fr ⟨J,by omega⟩;grind
    grind
  grind
end
section
variable{k:Nat}
variable{n:Nat} {g:Gh} {dv:Int->Int} {B K:Int} {s s':dp} {m:dz} {L:List dj}
theorem zu{f:mz}{c num cm:Int}(h1:∀q∈f.ask,0<=q.2/\q.2<=c)(h2:0<=f.bc/\f.bc<=c):0<=(gR f num cm).bc/\(gR f num cm).bc<=c/\(gR f num cm).ask=f.ask/\(gR f num cm).nm=f.nm:=by unfold gR;grind
theorem Hk(G:iH n g dv)(N:fU n g dv s)(a:jY B K s)(t:B<=1000000)(o:s.out.length<=500)(num cm:Int):∃b,nE s num cm=some b/\b={s with f:=gR s.f num cm}/\fG n g dv B K s b:=by have h:=zu (num:=num) (cm:=cm) a.asc a.bc;have u:=a.ck;unfold nE;rw[if_pos (decide_eq_true (by omega))];refine⟨_,rfl,rfl,fG.same G N (N.same rfl rfl rfl rfl rfl rfl rfl rfl rfl rfl rfl rfl) rfl rfl ?_ rfl rfl o⟩;obtain⟨a1,a2,a3,a4,a5,p,q,r,l,c,d,e,i,j⟩:=a;exact⟨a1,a2,a3,a4,by grind,by grind,by grind,⟨h.1,h.2.1⟩,l,c,d,e,i,j⟩
theorem Bd(G:iH n g dv)(N:fU n g dv s)(b:jY B K s)(c:B<=1000000)(d:s.out=[]):∃a,oB s m=some a/\fG n g dv B K s a:=by
 have D:fG n g dv B K s s:=fG.same G N N rfl rfl b rfl rfl (by grind);unfold oB;split
 .split
  .split;·obtain⟨a,h1,-,h2⟩:=Hk G N b c (by grind) m.nm m.cm;grind
   grind
  grind
 grind
theorem JI(r:3<=n/\n<=5)(l:B<=1000000){a:Gh}{b:Int->Int}(G:iH n a b)(N:fU n a b s')(j:jY B K s'){fr nm:Int}(h:1<=fr/\fr<=n)(t:fr≠s'.id)(h1:0<=nm/\nm<=2048576):kh n a b (dm s' (jW s' fr nm),[]):=by
 have o:=N.cm60 G;have i:=N.id;have p:=j.dv;have q:=N.ls;have d:=N.bt;refine⟨kg (by simp[dm,jW]) (by show 1<=s'.id/\s'.id<=7;omega) (by show 1<=fr/\fr<=7;omega) (by show s'.id≠fr;omega) d (by show 0<=s'.ls/\s'.ls<=10000000;omega) (by simp[dm,jW]) (by show 0<=nm/\nm<=10000000;omega) (by simp[dm,jW]) (by simp[dm,jW]) (by show 0<=(s'.L.length:Int)/\(s'.L.length:Int)<=60;omega) (by simp[dm,jW]) (by grind) (fun e f=>by cases f),i.2,h.2,d,by simp[dm,jW],h1.2,.inl eT.nil,?_,?_,?_,?_,?_,?_,fun e=>by grind⟩;·intro e;simp[dm,jW]at e
 .intro e;simp[dm,jW]at e
 .intro e;simp[dm,jW]at e
 .intro e;simp[dm,jW]at e
 .intro e;simp[dm,jW]at e
 .intro _ c;obtain⟨vs,h1,h2⟩:=N.mb c;refine⟨?_,vs,h1,by rw[<-h2];exact N.mem c⟩;show(s'.L.length:Int)<=(a.ak s'.id s'.ls:Int);rw[N.ak c];omega
theorem fG.ack(f:3<=n/\n<=5)(d:B<=1000000)(D:fG n g dv B K s s')(i:s'.out.length<500){fr nm:Int}(e:1<=fr/\fr<=n)(h:fr≠s'.id)(h1:0<=nm/\nm<=2048576):∃a,pT s' fr nm=some a/\a=gW s' (jW s' fr nm) []/\fG n g dv B K s a:=
 D.say i (fun l j k b c o=>JI f d b c D.nb e h h1)
def ud(g:Gh)(i v:Int)(k:Nat):Gh:={g with ak:=fun j u=>if j=i/\u=v then k else g.ak j u}
theorem uc{i d v:Int}(h1:g.ak i v<=k)(h2:d<=v):i8 n i d g (ud g i v k):=by
 refine .of (fun _ _ h=>h) (fun _ _=>rfl) (fun _=>List.prefix_refl _) (fun _ _=>rfl) (fun j u=>?_) (fun j u a=>?_) (fun u b=>?_) (rfl);·show g.ak j u<=if j=i/\u=v then k else g.ak j u;grind
 .show(if j=i/\u=v then k else g.ak j u)=g.ak j u;grind
 .show(if i=i/\u=v then k else g.ak i u)=g.ak i u;grind
theorem iH.akUp(G:iH n g dv){i v:Int}(d:(g.vt v).isSome=true)(h1:g.ak i v<=k)(h2:dv i<=v)(h3:k<=(g.gl v).length):iH n (ud g i v k) dv:=by
 have b:i8 n i (dv i) g (ud g i v k):=uc h1 h2;refine⟨⟨G.gh.pos,G.gh.maj,fun w vs a x c=>?_,G.gh.pre⟩,G.log,fun w vs a=>(G.vs w vs a).mono b (fun _=>Int.le_refl _),fun w a=>⟨(G.emp w a).1,fun j=>?_⟩,G.gc,G.cs,fun j u=>?_⟩;·have h3:=(G.vs w vs a).ok x c;exact(G.gh.ok w vs a x c).mono b (fun e=>by grind)
 .show(if j=i/\w=v then k else g.ak j w)=0;rw[if_neg ?_];·exact(G.emp w a).2 j
  .rintro⟨-,rfl⟩;have f:g.vt w=none:=a;grind
 .show(if j=i/\u=v then k else g.ak j u)<=_;split;·rename_i h;rw[h.2];exact h3
  .exact G.al j u
end
section
variable{u:Int}
variable{n:Nat} {g:Gh} {dv:Int->Int} {B K:Int} {s s':dp} {m:dz} {L:List dj}
theorem el.later(i:3<=n/\n<=5)(G:iH n g dv){w:Int}{K:List dj}{c:Int}(h:el n g u K c)(l:u<w)(j:(g.vt w).isSome=true)(d:gZ g w<+:L):el n g w L c:=by
 obtain⟨h1,h2,h3⟩:=h;rcases h3 with h3|⟨v,h4,h5⟩;·exact⟨h1,by omega,.inl h3⟩
 .by_cases a:K.take c.toNat=[]
  .have:(K.take c.toNat).length=0:=by rw[a];rfl
   rw[List.length_take]at this;exact⟨h1,by omega,.inl (by omega)⟩
  .have b:=(sZ i G.gh h5 a w.toNat w rfl (by omega) j).trans d;have f:(K.take c.toNat).length=c.toNat:=by rw[List.length_take];omega
   have k:=b.length_le;have e:L.take c.toNat=K.take c.toNat:=by obtain⟨t,rfl⟩:=b;have:=List.take_left (l₁:=K.take c.toNat) (l₂:=t);rwa[f]at this
   refine⟨h1,by omega,.inr ⟨v,by omega,?_⟩⟩;grind
theorem el.max{a b:Int}(h:el n g u L a)(k:el n g u L b):el n g u L (ep a b):=by grind[ep]
theorem el.min{a:Int}(h:el n g u L a):el n g u L (iz a (L.length:Int)):=by have:=h.2.1;grind[iz]
theorem Bl(y:3<=n/\n<=5)(G:iH n g dv)(N:fU n g dv s)(d:jY B K s)(J:B<=1000000)(ho:s.out=[])(X:kh n g dv (m,L))(R:m.kd=4)(aj:m.to=s.id)(A:∀v,(g.vt v).isSome=true->v<=B):∃e,mZ s m L=some e/\fG n g dv B K s e:=by
 obtain⟨k1,⟨vs,k2,k3⟩,k4,k5,k6,k7,k8⟩:=X.k4 R;obtain⟨H,I,Y,Z,f5,f6⟩:=X.ids;have ai:=X.nums;have T:=N.nn;have Q:=N.id;have ag:=N.ls;have af:=d.dv;simp only at k1 k2 k3 k4 k5 k6 k7 k8;have S:eT L:=(G.log _).pre k5;have aa:(fw [] L).isSome=true:=by rw[km L [] (by simpa using S)];rfl
 have am:=G.gh.pos _ _ k2;have an:=A m.vw (by rw[k2];rfl);have ah:=G.gh.maj _ _ k2;have ac:=k6.2.1;have hD:fG n g dv B K s s:=fG.same G N N rfl rfl d rfl rfl (by grind);unfold mZ;rw[if_pos (by grind[rP])]
 by_cases a:s.dv<=m.vw/\s.ls<m.vw
 .rw[if_pos (by grind),if_pos (by unfold tW;grind)];have ab:g.ak s.id m.vw=0:=N.ak0 _ a.2;have z:(g.vt m.vw).isSome=true:=by rw[k2];rfl
  have ae:ep s.dv m.vw=m.vw:=by unfold ep;omega
  have b:i8 n s.id (dv s.id) g (ud g s.id m.vw L.length):=uc (by omega) (by rw[N.pr];exact a.1);have P:∀j,dv j<=gL dv s.id m.vw j:=j8 (by rw[N.pr];exact a.1)
  have D:fG n g dv B K s (lF (mP s m L)):=by
   refine⟨⟨ud g s.id m.vw L.length,b,?_,?_,fun x W=> .inl W⟩,rfl,N.pr,by show s.dv<=ep s.dv m.vw;omega,?_,rfl,by show s.out.length<=500;grind⟩;·have:=(G.akUp z (i:=s.id) (v:=m.vw) (k:=L.length) (by omega) (by rw[N.pr];exact a.1) k5.length_le).le P;show iH n _ (gL dv s.id (ep s.dv m.vw));grind
   .have M:(ud g s.id m.vw L.length).ak s.id m.vw=L.length:=by simp[ud]
    have O:el n g m.vw L (ep s.cm m.cm):=(N.cm.later y G a.2 z k4).max k6;refine⟨T,Q,N.kn,N.bt,?_,?_,fun h=>?_,fun h=>?_,fun h=>⟨vs,k2,k3⟩,fun h=>by show dg m.mb s.id=true;grind,fun h=>M,fun u V=>?_,fun v A c=>?_,fun h c=>?_,fun h=>(by cases h),(O.min).mono b,fun h=>(by cases h),fun w vs h=>(by cases h),N.P⟩;·show gL dv s.id (ep s.dv m.vw) s.id=ep s.dv m.vw;exact iO _ _ _
    .show 0<=m.vw/\m.vw<=ep s.dv m.vw;omega
    .have:m.vw=0:=h;omega
    .exact⟨by show gZ _ m.vw<+:L;rw[b.base z];exact k4,k5.trans (b.gl _)⟩
    .have al:m.vw<u:=V;show(if s.id=s.id/\u=m.vw then L.length else g.ak s.id u)=0;rw[if_neg (by omega)];exact N.ak0 u (by omega)
    .have h1:=N.own v A c;show v<=m.vw;omega
    .exfalso;have ad:dJ m.vw n=s.id:=c;omega
   .obtain⟨a1,a2,a3,a4,a5,C,E,F,t,f,l,o,p,r⟩:=d;exact⟨by show ep s.dv m.vw<=B;omega,a2,a3,⟨a3.1,Int.le_refl _⟩,a5,by show([]:List (Int×Int)).length<=64;decide,(fun q U=>by cases U),⟨Int.le_refl _,a3.1⟩,t,f,l,o,p,r⟩
  obtain⟨e,h1,-,h2⟩:=D.ack y J (by show s.out.length<500;grind) (fr:=m.fr) (nm:=0) ⟨H,I⟩ (by show m.fr≠s.id;omega) (by omega);grind
 .rw[if_neg (by grind)];by_cases h2:m.vw=s.ls/\m.vw=s.dv
  .rw[if_pos (by grind)];have D:fG n g dv B K s {s with hd:=s.ck}:=by refine fG.same G N (N.same rfl rfl rfl rfl rfl rfl rfl rfl rfl rfl rfl rfl) rfl rfl ?_ rfl rfl (by grind);obtain⟨a1,a2,a3,a4,a5,C,E,F,t,f,l,o,p,r⟩:=d;exact⟨a1,a2,a3,⟨a3.1,Int.le_refl _⟩,a5,C,E,F,t,f,l,o,p,r⟩
   obtain⟨e,h1,-,h2⟩:=D.ack y J (by grind) (fr:=m.fr) (nm:=0) ⟨H,I⟩ (by grind) (by omega);grind
  grind
end
section
variable{n:Nat} {g:Gh} {dv:Int->Int} {B K:Int} {s s':dp} {m:dz} {L:List dj}
theorem el.pre{u:Int}{K:List dj}{c:Int}(h:el n g u K c)(b:L<+:K)(a:c<=(L.length:Int)):el n g u L c:=by obtain⟨h1,h2,h3⟩:=h;refine⟨h1,a,h3.imp id (fun⟨v,h4,h5⟩=>⟨v,h4,?_⟩)⟩;obtain⟨t,rfl⟩:=b;grind
theorem BQ{K M:List dj}{po k:Nat}(a:L<+:K)(b:M=(K.take k).drop po)(i:po<=L.length):
  (L.drop po).take (wX L.length po M.length)=M.take (wX L.length po M.length)/\L<+:L++M.drop (wX L.length po M.length)/\L++M.drop (wX L.length po M.length)<+:K:=by
 have c:L=K.take L.length:=List.prefix_iff_eq_take.1 a;have sJ:=a.length_le;have d:M.length=min k K.length-po:=by rw[b];simp
 unfold wX;refine⟨?_,List.prefix_append ..,?_⟩;·obtain⟨h,f⟩:∃h,h=min (L.length-po) M.length:=⟨_,rfl⟩;grind[List.drop_take,Nat.min_eq_left]
 .by_cases h:M.length<=L.length-po;·grind
  .rw[Nat.min_eq_left (by omega)]
   have e:L++M.drop (L.length-po)=K.take k:=by
    rw[b,List.drop_drop,show po+(L.length-po)=L.length by omega]
    have:L=(K.take k).take L.length:=by
     rw[List.take_take,Nat.min_eq_left (by omega)];exact c
    calc L++(K.take k).drop L.length=(K.take k).take L.length++(K.take k).drop L.length:=by rw[<-this]
     _=K.take k:=List.take_append_drop ..
   grind
theorem GY(W:3<=n/\n<=5)(G:iH n g dv)(N:fU n g dv s)(v:jY B K s)(P:B<=1000000)(ho:s.out=[])(X:kh n g dv (m,L))(U:m.kd=5)(Y:m.to=s.id):∃j,xh s m L=some j/\fG n g dv B K s j:=by
 obtain⟨k1,k2,k3,⟨k,k4⟩,k5⟩:=X.k5 U;obtain⟨M,O,f3,f4,f5,f6⟩:=X.ids;have ad:=X.nums;have r:=N.nn;have T:=N.id;have V:=N.ls;simp only at k1 k2 k3 k4 k5;have hD:fG n g dv B K s s:=fG.same G N N rfl rfl v rfl rfl (by grind);unfold xh;by_cases o:eC s=true
 .rw[if_pos o];by_cases i:m.vw=s.ls
  .rw[if_pos (by grind)];rw[r,<-i,k1,if_pos (by simp)];have p:=o;unfold eC at p;simp only[Bool.and_eq_true,decide_eq_true_eq]at p;have f:s.ls≠0:=by omega
   obtain⟨p1,p2⟩:=N.pre f;have Q:=N.ak f;rw[i,Y,Q]at k3;rw[i]at k4 k5 k1 k2;obtain⟨q1,d,b⟩:=BQ (po:=m.po.toNat) p2 k4 (by omega);have q:=(G.log s.ls).pre b;have ab:=k5
   rw[if_pos (by
    unfold E7
    rw[q1,(kQ _ _).2 rfl]
    grind),km _ _ q]
   obtain⟨a,l⟩:∃a,a=s.L++L.drop (wX s.L.length m.po.toNat L.length):=⟨_,rfl⟩;rw[<-l]at d b q⊢;clear l;simp only;have ac:=d.length_le;have c:i8 n s.id (dv s.id) g (ud g s.id s.ls a.length):=uc (by omega) (by rw[N.pr];omega)
   have D:fG n g dv B K s (pU s m.cm a):=by
    have e:gL dv s.id s.dv=dv:=by rw[<-N.pr];exact mt
    refine⟨⟨ud g s.id s.ls a.length,c,?_,?_,fun x Z=> .inl Z⟩,rfl,N.pr,Int.le_refl _,?_,rfl,by show s.out.length<=500;grind⟩;·show iH n _ (gL dv s.id s.dv);rw[e];exact G.akUp k2 (by omega) (by rw[N.pr];omega) b.length_le
    .show fU n _ (gL dv s.id s.dv) _;rw[e]
     have R:el n g s.ls a (ep s.cm (iz m.cm (a.length:Int))):=by
      refine(N.cm.ext d).max ((k5.less ?_ ?_).pre b ?_);·unfold iz;omega
      .unfold iz;omega
      .unfold iz;omega
     refine⟨r,T,N.kn,N.bt,N.pr,V,fun h=>absurd h f,fun h=>⟨by show gZ _ s.ls<+:a;rw[c.base k2];exact p1.trans d,b.trans (c.gl _)⟩,N.mb,N.mem,fun h=>by show(if s.id=s.id/\s.ls=s.ls then a.length else g.ak s.id s.ls)=a.length;simp,fun u t=>?_,N.own,fun h S=>?_,N.mi,R.mono c,fun h=>?_,fun w vs h=>?_,N.P⟩;·have ae:s.ls<u:=t;show(if s.id=s.id/\u=s.ls then a.length else g.ak s.id u)=0;rw[if_neg (by omega)];exact N.ak0 u t
     .exfalso;have aa:dJ s.ls n=s.id:=S;omega
     .exfalso;have:=(N.mi h).2;omega
     .exfalso;have:=N.v w vs h;omega
    .obtain⟨a1,a2,a3,a4,a5,F,H,I,J,y,z,A,C,E⟩:=v;exact⟨a1,a2,a3,⟨a3.1,Int.le_refl _⟩,a5,F,H,I,J,y,z,A,C,E⟩
   obtain⟨j,h1,-,h2⟩:=D.ack W P (by show s.out.length<500;grind) (fr:=m.fr) (nm:=m.nm) ⟨M,O⟩ (by show m.fr≠s.id;omega) ⟨by omega,X.nm⟩;grind
  grind
 grind
end
section
variable{l:List Int} {n m k:Nat}
def KH(l:List Int)(m k:Nat):Prop:=(∀i j,i<=j->j<k->i≠m->j≠m->l.getD i 0<=l.getD j 0)/\∀j,m<j->j<k->l.getD m 0<=l.getD j 0
def KY(l:List Int)(k:Nat):Prop:=∀i j,i<=j->j<k->l.getD i 0<=l.getD j 0
theorem I5(h:m+1<l.length)(i:Nat):(je l m).getD i 0=if i=m then l.getD (m+1) 0 else if i=m+1 then l.getD m 0 else l.getD i 0:=by grind[je]
theorem Cm(h:m+1<l.length):(je l m).Perm l:=by grind[je]
theorem Ag:∀(m:Nat) (l:List Int) (k:Nat),m<k->k<=l.length->KH l m k->KY (ie l m) k/\(ie l m).Perm l/\∀j,k<=j->(ie l m).getD j 0=l.getD j 0
 |0,l,k,q,o,h=>by
  refine⟨fun i j d a=>?_,List.Perm.refl _,fun j a=>rfl⟩;show l.getD i 0<=l.getD j 0;by_cases b:i=0
  .subst b;by_cases t:j=0;·grind
   .exact h.2 j (by omega) a
  .exact h.1 i j d a b (by omega)
 |m+1,l,k,q,o,h=>by
  unfold ie;split
  .rename_i p;have e:=I5 (l:=l) (m:=m) (by omega)
   have r:KH (je l m) m k:=by
    refine⟨fun i j d a b g=>?_,fun j u a=>?_⟩
    .rw[e i,e j,if_neg b,if_neg g];by_cases f:i=m+1
     .rw[if_pos f];by_cases c:j=m+1;·omega
      .rw[if_neg c];exact h.1 m j (by omega) a (by omega) c
     .rw[if_neg f];by_cases c:j=m+1;·rw[if_pos c];exact h.1 i m (by omega) (by omega) f (by omega)
      .rw[if_neg c];exact h.1 i j d a f c
    .rw[e m,e j,if_pos rfl,if_neg (by omega)];by_cases c:j=m+1;·omega
     .rw[if_neg c];exact h.2 j (by omega) a
   obtain⟨h1,h2,h3⟩:=Ag m (je l m) k (by omega) (by rw[oX];exact o) r;exact⟨h1,h2.trans (Cm (by omega)),fun j a=>by grind⟩
  .rename_i p;refine⟨fun i j d a=>?_,List.Perm.refl _,fun j a=>rfl⟩;by_cases b:i=m+1
   .by_cases g:j=m+1;·grind
    .rw[b];exact h.2 j (by omega) a
   .by_cases g:j=m+1
    .have:l.getD i 0<=l.getD m 0:=by
      by_cases s:i=m;·grind
      .exact h.1 i m (by omega) (by omega) b (by omega)
     grind
    .exact h.1 i j d a b g
theorem Ah:∀(c a:Nat) (l:List Int),a+c<=l.length->KY l a->KY ((List.range' a c).foldl ie l) (a+c)/\((List.range' a c).foldl ie l).Perm l
 |0,a,l,h,k=>⟨by simpa using k,List.Perm.refl _⟩
 |c+1,a,l,h,k=>by
  rw[List.range'_succ,List.foldl_cons];obtain⟨h1,h2,h3⟩:=Ag a l (a+1) (by omega) (by omega) ⟨fun i j b e d f=>k i j b (by omega),fun j h1 h2=>by omega⟩;obtain⟨h4,h5⟩:=Ah c (a+1) (ie l a) (by rw[oV];omega) h1;grind
theorem Ak(h:l≠[]):KY (eM l) l.length/\(eM l).Perm l:=by have:=List.length_pos_iff.2 h;have:=Ah (l.length-1) 1 l (by omega) (fun i j a b=>by grind);rw[show 1+(l.length-1)=l.length by omega]at this;exact this
theorem IW(d:k<l.length):l.length-k<=l.countP fun x=>decide ((eM l).getD k 0<=x):=by
 obtain⟨h1,h2⟩:=Ak (l:=l) (List.ne_nil_of_length_pos (by omega));rw[<-h2.countP_eq];have f:=h2.length_eq;have e:=List.take_append_drop k (eM l);have:(eM l).countP (fun x=>decide ((eM l).getD k 0<=x))=((eM l).take k).countP (fun x=>decide ((eM l).getD k 0<=x))+((eM l).drop k).countP (fun x=>decide ((eM l).getD k 0<=x)):=by rw[<-List.countP_append,e]
 rw[this]
 have h3:((eM l).drop k).countP (fun x=>decide ((eM l).getD k 0<=x))=((eM l).drop k).length:=by
  rw[List.countP_eq_length];intro x b;obtain⟨i,a,rfl⟩:=List.mem_iff_getElem.1 b;rw[List.length_drop]at a;have:=h1 k (k+i) (by omega) (by omega);rw[decide_eq_true_eq,List.getElem_drop];have c:(eM l).getD (k+i) 0=(eM l)[k+i]:=by simp[List.getD_eq_getElem?_getD,List.getElem?_eq_getElem (show k+i<(eM l).length by omega)]
  omega
 grind
theorem Ci{x:Int}(d:k<l.length)(h:l.length-k<=l.countP fun y=>decide (x<=y)):x<=(eM l).getD k 0:=by
 obtain⟨h1,h2⟩:=Ak (l:=l) (List.ne_nil_of_length_pos (by omega));rw[<-h2.countP_eq]at h;have f:=h2.length_eq;refine Int.not_lt.1 fun g=>?_;have e:=List.take_append_drop (k+1) (eM l);have:(eM l).countP (fun y=>decide (x<=y))=((eM l).take (k+1)).countP (fun y=>decide (x<=y))+((eM l).drop (k+1)).countP (fun y=>decide (x<=y)):=by rw[<-List.countP_append,e]
 rw[this]at h
 have h3:((eM l).take (k+1)).countP (fun y=>decide (x<=y))=0:=by
  rw[List.countP_eq_zero];intro y c;obtain⟨i,b,rfl⟩:=List.mem_iff_getElem.1 c;rw[List.length_take]at b;have:=h1 i k (by omega) (by omega);rw[List.getElem_take];have a:(eM l).getD i 0=(eM l)[i]:=by simp[List.getD_eq_getElem?_getD,List.getElem?_eq_getElem (show i<(eM l).length by omega)]
  rw[a]at this;simp;omega
 grind
theorem Eg(a:3<=n/\n<=5):n-(n-1)/2=n/2+1:=by omega
theorem I8(g:3<=n/\n<=5)(p:Nat->Bool):∃t,gS t/\(∀i,dE i->dg t i=(decide (i<=n)&&p i.toNat))/\dX t n=decide (n/2+1<=(List.range' 1 n).countP p):=by
 have j:∀(n:Fin 6) (a b c d e:Bool),3<=n.1->∃t:Fin 128,(∀i:Fin 8,1<=i.1->dg (t.1:Int) (i.1:Int)=(decide ((i.1:Int)<=n.1)&&[false,a,b,c,d,e].getD i.1 false))/\dX (t.1:Int) (n.1:Int)=decide (n.1/2+1<=(List.range' 1 n.1).countP fun i=>[false,a,b,c,d,e].getD i false):=by decide+kernel
 obtain⟨t,h1,h2⟩:=j ⟨n,by omega⟩ (p 1) (p 2) (p 3) (p 4) (p 5) g.1
 have h:∀i,1<=i->i<=5->[false,p 1,p 2,p 3,p 4,p 5].getD i false=p i:=by
  intro i h1 h2;have:i=1\/i=2\/i=3\/i=4\/i=5:=by omega
  rcases this with rfl|rfl|rfl|rfl|rfl<;>rfl
 refine⟨(t.1:Int),⟨by omega,by omega⟩,fun i f=>?_,?_⟩;·obtain⟨o,q⟩:=f;have:=h1 ⟨i.toNat,by omega⟩ (by simp;omega);grind
 .rw[h2];congr 1;have:(List.range' 1 n).countP (fun i=>[false,p 1,p 2,p 3,p 4,p 5].getD i false)=(List.range' 1 n).countP p:=by apply List.countP_congr;intro i f;rw[List.mem_range'_1]at f;rw[h i (by omega) (by omega)]
  rw[<-this]
theorem qP(j:3<=n/\n<=5)(h:l.length=8)(p:Int->Bool):((l.drop 1).take n).countP p=(List.range' 1 n).countP fun i=>p (l.getD i 0):=by
 obtain⟨a,b,c,d,e,f,g,i,rfl⟩:=Ei h;have:n=3\/n=4\/n=5:=by omega
 rcases this with rfl|rfl|rfl<;>rfl
theorem EA(a:3<=n/\n<=5)(b:l.length=8):∃t,gS t/\dX t n=true/\∀i,dE i->dg t i=true->eZ l n<=l.getD i.toNat 0:=by
 obtain⟨t,h1,h2,h3⟩:=I8 a fun i=>decide (eZ l n<=l.getD i 0);have c:((l.drop 1).take n).length=n:=by simp;omega
 have h4:=IW (l:=(l.drop 1).take n) (k:=(n-1)/2) (by omega);refine⟨t,h1,?_,fun i d e=>?_⟩;·rw[h3,decide_eq_true_eq,<-Eg a,<-qP a b fun x=>decide (eZ l n<=x)];rw[c]at h4;exact h4
 grind
theorem rz(a:3<=n/\n<=5)(e:l.length=8){u x:Int}(b:gS u)(g:dX u n=true)(h:∀i,dE i->dg u i=true->x<=l.getD i.toNat 0):x<=eZ l n:=by
 have f:((l.drop 1).take n).length=n:=by simp;omega
 have j:∀(n:Fin 6) (t:Fin 128),3<=n.1->dX (t.1:Int) (n.1:Int)=true->n.1/2+1<=(List.range' 1 n.1).countP fun i:Nat=>dg (t.1:Int) (i:Int):=by decide+kernel
 have h1:=j ⟨n,by omega⟩ ⟨u.toNat,by have:=b.2;omega⟩ a.1 (by simpa [Int.toNat_of_nonneg b.1]using g);simp only[Int.toNat_of_nonneg b.1]at h1;unfold eZ;rw[Int.toNat_natCast];refine Ci (by omega) ?_;rw[f,Eg a,qP a e fun y=>decide (x<=y)];refine Nat.le_trans h1 (List.countP_mono_left fun i d c=>?_);rw[List.mem_range'_1]at d;have:=h i ⟨by omega,by omega⟩ c;grind
end
section
variable{n:Nat} {g:Gh} {dv:Int->Int} {B K:Int} {s s':dp} {m:dz} {L:List dj}
theorem fG.get(D:fG n g dv B K s s')(num cm:Int):nE s' num cm=some {s' with f:=gR s'.f num cm}/\fG n g dv B K s {s' with f:=gR s'.f num cm}:=by obtain⟨⟨l,k,G,N,M⟩,h1,o,h2,a,h4,h5⟩:=D;have h:=zu (num:=num) (cm:=cm) a.asc a.bc;have t:=a.ck;unfold nE;rw[if_pos (decide_eq_true (by omega))];refine⟨rfl,⟨l,k,G,N.same rfl rfl rfl rfl rfl rfl rfl rfl rfl rfl rfl rfl,M⟩,h1,o,h2,?_,h4,h5⟩;obtain⟨a1,a2,a3,a4,a5,p,q,r,j,b,c,d,e,i⟩:=a;exact⟨a1,a2,a3,a4,by grind,by grind,by grind,⟨h.1,h.2.1⟩,j,b,c,d,e,i⟩
theorem DH(p:3<=n/\n<=5)(j:B<=1000000){b:Gh}{a:Int->Int}(G:iH n b a)(N:fU n b a s')(i:jY B K s'){q:kH}(f:1<=q.who/\q.who<=n)(r:q.who≠s'.id)(h1:0<=q.num/\q.num<=2048576):kh n b a (dm s' (fV s' q),[]):=by have k:=N.cm60 G;have h:=N.id;have l:=i.dv;have o:=N.ls;have c:=N.bt;refine⟨kg (by simp[dm,fV]) (by show 1<=s'.id/\s'.id<=7;omega) (by show 1<=q.who/\q.who<=7;omega) (by show s'.id≠q.who;omega) c (by show 0<=s'.ls/\s'.ls<=10000000;omega) (by simp[dm,fV]) (by show 0<=q.num/\q.num<=10000000;omega) (by simp[dm,fV]) (by simp[dm,fV]) (by simp[dm,fV]) (by show 0<=s'.cm/\s'.cm<=60;omega) (by show([]:List dj).length<=60;decide) (fun e d=>by cases d),h.2,f.2,c,by simp[dm,fV],h1.2,.inl eT.nil,?_,?_,?_,?_,?_,?_,?_⟩<;>intro e<;>simp[dm,fV]at e
theorem qj(p:3<=n/\n<=5)(o:B<=1000000):∀(l:List kH) (a:dp×List kH),fG n g dv B K s a.1->(∃c,a.1.q=some c)->(∀q∈l,dE q.who/\q.who<=n/\0<=q.num/\q.num<=2048576)->a.1.out.length+l.length<=499->a.2.length+l.length<=900->∃r,dt ke l a=some r/\fG n g dv B K s r.1/\r.1.ak=a.1.ak/\∃b,b.Sublist l/\r.2=a.2++b
 |[],a,D,v,t,h1,h2=>⟨a,rfl,D,rfl,[],List.Sublist.refl _,by simp⟩
 |q::l,a,D,v,t,h1,h2=>by
  obtain⟨c,lj⟩:=v;have E:=t q (List.mem_cons_self ..);have u:∀q∈l,dE q.who/\q.who<=n/\0<=q.num/\q.num<=2048576:=fun x G=>t x (List.mem_cons_of_mem _ G);simp only[List.length_cons]at h1 h2;unfold dt ke;rw[lj];simp only;by_cases C:eZ c.pr c.n<q.pr;·rw[if_pos (decide_eq_true C),if_pos (decide_eq_true (by omega))];obtain⟨r,d,e,h,b,i,j⟩:=qj p o l (a.1,a.2++[q]) D ⟨c,lj⟩ u (by grind) (by grind);exact⟨r,d,e,h,q::b,i.cons_cons q,by rw[j];simp⟩
  .rw[if_neg (by grind)];by_cases F:q.who=a.1.id;·rw[if_pos (by grind)];obtain⟨w,y⟩:=D.get q.num a.1.cm;rw[w];obtain⟨r,d,e,h,b,i,j⟩:=qj p o l ({a.1 with f:=gR a.1.f q.num a.1.cm},a.2) y ⟨c,lj⟩ u (by grind) (by grind);exact⟨r,d,e,h,b,i.cons q,j⟩
   .rw[if_neg (by grind)];obtain⟨M,k1,k2,k3⟩:=D.say (m:=fV a.1 q) (L:=[]) (by omega) (fun I H k z A J=>DH p o z A D.nb (by unfold dE at E;omega) F (by omega));rw[k1];subst k2;obtain⟨r,d,e,h,b,i,j⟩:=qj p o l (gW a.1 (fV a.1 q) [],a.2) k3 ⟨c,lj⟩ u (by show(a.1.out++_).length+_<=_;simp;omega) (by grind);exact⟨r,d,e,h,b,i.cons q,j⟩
theorem E8.at_set(x:E8){k:Nat}(v:Int)(i:Nat):(x.set k v).at i=x.at i\/(i=k/\(x.set k v).at i=v):=by
 by_cases a:k<8;·rcases tB a with rfl|rfl|rfl|rfl|rfl|rfl|rfl|rfl<;>(unfold E8.set E8.at;grind)
 .left;unfold E8.set;grind
theorem Hm(E:3<=n/\n<=5)(G:iH n g dv)(N:fU n g dv s)(A:jY B K s)(hB:B<=1000000)(ho:s.out=[])(X:kh n g dv (m,L))(hk:m.kd=6)(M:m.vw=s.ls)(C:eC s=true)(J:s.mi=true):∃S,pW s m=some S/\fG n g dv B K s S:=by
 obtain⟨O,m2⟩:=N.mi J;obtain⟨f1,f2,f3,f4,f5,f6⟩:=X.ids;have aq:=X.nums;obtain⟨k1,vs,k2,k3⟩:=X.k6 hk (by grind);simp only at k1 k2 k3;rw[M]at k1 k2;obtain⟨q,P,q2,Q,q4,q5,q6,R⟩:=N.q J;obtain⟨ai,v1,v2⟩:=N.mb O;have ag:ai=vs:=by rw[v1]at k2;exact Option.some.inj k2
 subst ag;obtain⟨l1,l2⟩:=N.lead O m2;obtain⟨a,d⟩:∃a,a=gM q m.fr m.po m.nm:=⟨_,rfl⟩;have a1:a.n=n:=by rw[d];exact q2
 have a2:a.hv.length=8:=by rw[d];simp[gM,q5]
 have a3:a.pr.length=8:=by rw[d];unfold gM;simp only;split<;>simp[q6]
 have a4:∀j,dE j->0<=a.hv.getD j.toNat 0/\a.hv.getD j.toNat 0<=(g.ak j s.ls:Int):=by
  intro j hj;obtain⟨h1,h2⟩:=R j hj;obtain⟨h3,h4⟩:=R m.fr ⟨f1,by omega⟩;rw[d];show 0<=(q.hv.set m.fr.toNat (ep (q.hv.getD m.fr.toNat 0) m.po)).getD j.toNat 0/\(q.hv.set m.fr.toNat (ep (q.hv.getD m.fr.toNat 0) m.po)).getD j.toNat 0<=_;by_cases e:m.fr=j;·grind[ep]
  .grind
 have an:el n g s.ls s.L (ep s.cm (iz (eZ a.hv a.n) (s.L.length:Int))):=by
  refine N.cm.max ?_;obtain⟨t,T,U,t3⟩:=EA E a2;rw[a1]
  have ao:0<=eZ a.hv n:=by
   have ar:∀(n:Fin 6) (t:Fin 128),3<=n.1->dX (t.1:Int) (n.1:Int)=true->n.1/2+1<=(List.range' 1 n.1).countP fun i:Nat=>dg (t.1:Int) (i:Int):=by decide+kernel
   exact rz E a2 T U fun i C ht=>(a4 i C).1
  have hf:∀c,0<=c->c<=(s.L.length:Int)->c<=eZ a.hv n->el n g s.ls s.L c:=fun c h1 h2 h3=>
   ⟨h1,h2,.inr ⟨s.ls,Int.le_refl _,by rw[k2];rfl,by grind,t,T,U,fun i C ht=>by
    grind⟩⟩
  unfold iz;split;·grind
  .grind
 obtain⟨s1,y⟩:∃s1,s1=ji s m q:=⟨_,rfl⟩
 have D:fG n g dv B K s s1:=by
  subst y;refine fG.same G N ?_ rfl rfl ?_ rfl rfl (by grind);·obtain⟨b1,b2,b3,b4,p,u,v,b8,w,z,f,b,l,o,Z,aj,ak,aa,ab⟩:=N;refine⟨b1,b2,b3,b4,p,u,v,b8,w,z,f,b,l,o,Z,?_,fun _=>⟨a,by rw[d];rfl,a1,by rw[d];exact Q,by rw[d];exact q4,a2,a3,a4⟩,aa,ab⟩;show el n g s.ls s.L (ep s.cm (iz (eZ (gM q m.fr m.po m.nm).hv (gM q m.fr m.po m.nm).n) (s.L.length:Int)));grind
  .obtain⟨b1,b2,b3,b4,p,u,v,b8,w,z,f,b,l,o⟩:=A;refine⟨b1,b2,b3,b4,p,u,v,b8,fun q' af=>?_,fun i=>?_,f,b,l,o⟩;·have:gM q m.fr m.po m.nm=q':=Option.some.inj af;rw[<-this];exact w q P
   .show(s.er.set m.fr.toNat s.ck).at i<=s.ck;rcases E8.at_set s.er (k:=m.fr.toNat) s.ck i with h|⟨-,h⟩;·grind
    omega
 have ae:s1.out=[]:=by rw[y];exact ho
 have ac:s1.ak=s.ak:=by rw[y];rfl
 unfold pW;rw[P];simp only;rw[Q,v2,k3,<-y,if_pos (by simp;omega)];by_cases hc:s1.cm<s1.st;·grind
 .rw[if_neg (by grind)];have am:=A.ck;have al:=A.akl;have ad:=N.nn;obtain⟨r,e1,e2,e3,l',H,I⟩:=qj E hB s.ak (s1,[]) D ⟨_,by rw[y];rfl⟩ (fun x F=>by have:=A.akw x F;rw[ad]at this;exact this) (by show s1.out.length+_<=_;rw[ae];simp;omega) (by simp;omega);rw[e1];simp only[List.nil_append]at I;simp only;have ap:=H.length_le;rw[I,if_pos (decide_eq_true (by omega))];refine⟨_,rfl,?_⟩;obtain⟨⟨g',k,V,Y,W⟩,h1,h0,h2,ah,h4,h5⟩:=e2;refine⟨⟨g',k,V,Y.same rfl rfl rfl rfl rfl rfl rfl rfl rfl rfl rfl rfl,W⟩,h1,h0,h2,?_,h4,h5⟩;obtain⟨b1,b2,b3,b4,p,u,v,b8,w,z,f,b,l,o⟩:=ah;rw[e3]at f b;simp only[ac]at f b;exact⟨b1,b2,b3,b4,p,u,v,b8,w,z,by grind,fun x F=>b x (H.subset F),l,o⟩
end
end Go.Proofs.YtjhbmbbmjaabcaaGreat
