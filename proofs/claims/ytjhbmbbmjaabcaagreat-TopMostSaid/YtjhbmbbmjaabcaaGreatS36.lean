/-
  Contracts. Conditions stand at each.
-/
import Derived.Test.YtjhbmbbmjaabcaaGreatS35
set_option linter.all false
set_option maxRecDepth 8000
set_option maxHeartbeats 8000000
namespace Go.Proofs.YtjhbmbbmjaabcaaGreat
open Go Go.Sort Go.RowKit
section
variable{n:Nat} {g V g1 g2:Gh} {i d Z t M N w i0 j0 p q c T G:Int} {dv:Int->Int} {B B' K K' R X:Int} {s s' u D:dp} {m:dz} {L C:List dj} {e:dj} {W:eW} {A A':dU} {nd:fK} {ns:Ms} {x:dz×List dj} {U:Int->Prop} {Y:Int->Int} {r:Nat}
theorem Hs.dvc(h:Hs s m L s'):s'.dv=s.dv\/(m.kd=1/\s.dv<m.vw/\s'.dv=m.vw)\/(m.kd=4/\s'.dv=ep s.dv m.vw):=by
 cases h with
 |join k h1 h2=>exact .inr (.inl ⟨k,h2,rfl⟩)
 |took k=>exact .inr (.inr ⟨k,rfl⟩)
 |has _ k a1 a2 a3 a4=>
  obtain⟨q,v,h|⟨l,r,hr,rfl⟩⟩:=eY a4;·rw[h.1];exact .inl rfl
  .obtain⟨f,o,y,a,b,-⟩:=eH hr;rw[a,b];exact .inl rfl
 |data _ k a1 a2 a3=>
  obtain⟨j,z,rfl⟩:=fs a3;grind
 |_=>exact .inl rfl
structure Gx (n:Nat) (t:Int) (U:Int->Prop) (M w:Int) (nd:fK) (ns:Ms):Prop where
 hi:∀j,dR n t j->¬U j->(nd j).dv=M
 lo:∀j,U j->(nd j).dv<=w
 pr:∀x∈ns,dW t x=true->x.1.kd=1->U x.1.fr
theorem wH(P:∀j,U j->dR n t j)(hw:w<M)(H:GV n g nd (x::ns))(E:dW t x=true)(a:Gx n t U M w nd (x::ns))(v:Hs (eg (nd x.1.to) x) x.1 x.2 u)(z:Sd u D):Gx n t U M w (dO nd x.1.to D) (ns++u.out):=by
 obtain⟨y1,F,y3⟩:=fZ H E;have o:x∈x::ns:=List.mem_cons_self ..;have I:(eg (nd x.1.to) x).dv=(nd x.1.to).dv:=rfl;have O:=v.dvc;rw[I]at O;have S:x.1.kd=4->ep (nd x.1.to).dv x.1.vw=(nd x.1.to).dv:=fun h=>by have:=(jk H o h).1;unfold ep;omega
 have Q:x.1.kd=1->x.1.vw<=w:=fun h=>by have:=(ij H o h).2;have:=a.lo _ (a.pr x o E h);omega
 refine⟨fun j l b=>?_,fun j b=>?_,fun y k h1 h2=>?_⟩
 .by_cases f:j=x.1.to;·rw[f]at l b⊢;rw[dc,z.dve];have J:=a.hi _ l b;omega
  .rw[dl f];exact a.hi j l b
 .by_cases f:j=x.1.to;·rw[f]at b⊢;rw[dc,z.dve];have J:=a.lo _ b;omega
  .rw[dl f];exact a.lo j b
 .rcases List.mem_append.1 k with k|k;·exact a.pr y (List.mem_cons_of_mem _ k) h1 h2
  .have:=v.kd (H.out _ F.1.1 F.1.2) k;omega
structure IF (n:Nat) (t:Int) (U:Int->Prop) (M N p k:Int) (nd:fK) (ns:Ms):Prop where
 ld:eR (nd p) M
 hi:∀j,dR n t j->¬U j->(nd j).dv=M
 lo:∀j,U j->(nd j).dv<M
 pr:∀x∈ns,dW t x=true->x.1.kd=1->U x.1.fr
 vo:∀x∈ns,x.1.kd≠3
 wt:∀j,U j->k<=j->(nd j).dv<=N
 up:∀j,U j->N<(nd j).dv->(∃y,(nd j).v=some ((nd j).dv,[y])/\y.fr=j)/\∀y,dR n t y->y≠j->∃x∈ns,dW t x=true/\x.1.kd=1/\x.1.vw=(nd j).dv/\x.1.fr=j/\x.1.to=y
theorem GE(hn:3<=n/\n<=5)(hU:∀j,U j->dR n t j)(Q:dR n t p){k:Int}(k1:1<=k)(k2:k<=n)(H:GV n g nd ns)(hI:jL n t M nd\/IF n t U M N p k nd ns)(I:Ts (ei (nd k)) u)(z:Sd u D)(H':GV n V (dO nd k D) (ns++u.out)):jL n t M (dO nd k D)\/IF n t U M N p (k+1) (dO nd k D) (ns++u.out):=by
 rcases hI with h|⟨E,hi,lo,pr,vo,wt,up⟩;·exact .inl (ky h I z)
 have ag:(ei (nd k)).out=[]:=H.out k k1 k2;have J:(ei (nd k)).id=k:=H.id k k1 k2;have af:(ei (nd k)).n=n:=(eK H k1 k2).nn;have ao:=H.id p Q.1.1 Q.1.2;have ai:dJ M n=p:=by have:=((H.nod p Q.1.1 Q.1.2).mi E.1).2;rw[E.2.1]at this;omega
 have an:¬U p:=fun h=>by have:=lo p h;have:=E.2.2;omega
 by_cases al:jL n t M (dO nd k D);·grind
 right
 have aj:∀j,dR n t j->(dO nd k D j).dv<=M:=fun j S=>by
  by_cases e:M<(dO nd k D j).dv;·exact absurd ⟨j,S,e⟩ al
  .omega
 have ap:(nd k).dv<=u.dv:=I.dv_le
 have ah:u.dv=(nd k).dv\/∃o F w,u=jc {ei (nd k)with L:=o,q:=F} w/\ep (nd k).dv (nd k).dn<w/\dJ w n=k:=by
  rcases I.prop with h|⟨o,F,w,h1,h2,h3⟩;·exact .inl h
  .rw[af,J]at h3;exact .inr ⟨o,F,w,h1,h2,h3⟩
 have aa:dR n t k->u.dv<=M:=fun h=>by have:=aj k h;rw[dc,z.dve]at this;exact this
 refine⟨?_,fun j S b=>?_,fun j b=>?_,fun y l h1 h2=>?_,fun y l=>?_,fun j b f=>by grind[dl],fun j b hM=>?_⟩
 .by_cases f:p=k
  .subst f;rcases oG (eK H k1 k2) E I z with h|⟨h,-⟩;·have:=aa Q;rw[z.dve]at h;omega
   .rw[dc];exact h
  .rw[dl f];exact E
 .by_cases f:j=k;·subst f;rw[dc,z.dve];grind
  .rw[dl f];exact hi j S b
 .by_cases f:j=k
  .subst f;rw[dc,z.dve];have h0:=lo j b;have h3:=aa (hU j b);rcases ah with h|⟨o,F,w,h1,h2,h4⟩;·omega
   .have e:u.dv=w:=by rw[h1];rfl
    grind
  .rw[dl f];exact lo j b
 .rcases List.mem_append.1 l with ab|ab;·grind
  .obtain⟨a1,a2⟩:=I.say ag ab;rw[J]at a1;have ae:dR n t k:=⟨⟨k1,k2⟩,by grind[dW]⟩;rw[a1];by_cases b:U k;·exact b
   .exfalso;have h0:=hi k ae b;have hd:u.dv=M:=by have:=aa ae;omega
    have am:y.1.vw=M:=by rcases a2 with h|h|h|h|h<;>omega
    have ad:=(ij H' l h2).1;rw[am,ai,a1]at ad;subst ad;rcases I.lead (eK H k1 k2) E.1 (by show(nd p).ls=(nd p).dv;have:=E.2.1;have:=E.2.2;omega)with⟨a,v,b1,b2,rfl,b4,-⟩|⟨a,q,b1,b2,b3,rfl⟩;·obtain⟨o,F,rfl⟩:=dI b1;have:=gA (ei (nd p)).dv (ei (nd p)).dn;have b4:ep (ei (nd p)).dv (ei (nd p)).dn<v:=b4;have e1:(ei (nd p)).dv=(nd p).dv:=rfl;have hd:v=M:=hd;omega
    .obtain⟨j,-,P⟩:=List.mem_flatMap.1 ab;unfold kN at P;split at P;·rw[List.mem_singleton]at P;rw[P]at h2;cases h2
     .rw[fH,List.mem_singleton]at P;rw[P]at h2;cases h2
 .rcases List.mem_append.1 l with l|l;·exact vo y l
  .have:=(I.say ag l).2;omega
 .by_cases f:j=k
  .subst f;rw[dc]at hM⊢;rw[z.dve]at hM;have h0:=wt j b (Int.le_refl _);rcases ah with h|⟨o,F,w,rfl,h2,h4⟩;·omega
   .obtain⟨TT,tm,O,-,rfl⟩:=z;refine⟨⟨_,rfl,J⟩,fun y l ak=>?_⟩;refine⟨(dm {ei (nd j)with L:=o,q:=F} (gm w y),[]),List.mem_append_right _ ?_,?_,rfl,rfl,J,rfl⟩;·show _∈(ex (ei (nd j)).id (ei (nd j)).n (iI (ei (nd j)).n.toNat)).flatMap (fq {ei (nd j)with L:=o,q:=F} w);rw[List.mem_flatMap];refine⟨y,?_,List.mem_singleton.2 rfl⟩;rw[J,af];have ac:=l.1;exact rk ⟨ac.1,by omega⟩ (za hn ac) ak ac.2
    .unfold dW;show(dg t (ei (nd j)).id&&dg t y)=true;rw[J,(hU j b).2,l.2];rfl
  grind[dl,List.mem_append_left]
structure JF (n:Nat) (t:Int) (U:Int->Prop) (M T w q G:Int) (nd:fK) (ns:Ms):Prop where
 two:Gx n t U M w nd ns
 uq:U q
 qd:(nd q).dv=w
 lt:w<M
 qv:∃vs,(nd q).v=some (w,vs)/\∀y∈vs,dE y.fr/\dg T y.fr=false
 vo:∀x∈ns,dW t x=true->x.1.kd=3->x.1.vw=w->dg T x.1.fr=false
 st:(∃x∈ns,dW t x=true/\x.1.kd=1/\x.1.vw=w/\x.1.fr=q/\x.1.to=G)\/(∃x∈ns,dW t x=true/\x.1.kd=2/\M<=x.1.vw/\x.1.to=q)\/((nd q).ag=true/\M<=(nd q).dn)
theorem GK(hn:3<=n/\n<=5)(hU:∀j,U j->dR n t j)(hT:∀j,dE j->dg T j=true->dR n t j/\¬U j)(ac:dR n t G/\¬U G)(H:GV n g nd (x::ns))(hm:dW t x=true)(hJ:JF n t U M T w q G nd (x::ns))(P:Hs (eg (nd x.1.to) x) x.1 x.2 u)(hS:Sd u D):JF n t U M T w q G (dO nd x.1.to D) (ns++u.out):=by
 obtain⟨two,uq,E,lt,⟨vs,F,qi⟩,vo,st⟩:=hJ;obtain⟨y1,o,y3⟩:=fZ H hm;have hx:x∈x::ns:=List.mem_cons_self ..;have ai:(eg (nd x.1.to) x).out=[]:=H.out _ o.1.1 o.1.2;have ae:(eg (nd x.1.to) x).id=x.1.to:=H.id _ o.1.1 o.1.2;have qS:=hU q uq;have Nq:=H.nod q qS.1.1 qS.1.2;have aj:=Nq.v w vs F;have al:G≠q:=fun h=>ac.2 (by grind);have an:∀{z:dz×List dj},z∈ns->z∈ns++u.out:=fun h=>List.mem_append_left _ h;have af:=wH hU lt H hm two P hS
 have ah:∀z∈ns++u.out,dW t z=true->z.1.kd=3->z.1.vw=w->dg T z.1.fr=false:=fun z Q h1 h2 h3=>by
  rcases List.mem_append.1 Q with Q|Q;·grind
  .obtain⟨c1,c2⟩:=P.say ai Q;rw[ae]at c1;cases ad:dg T z.1.fr with
   |false=>rfl
   |true=>
    rw[c1]at ad;obtain⟨b1,b2⟩:=hT x.1.to (iG hn o) ad;have b3:=two.hi _ b1 b2;have:(eg (nd x.1.to) x).dv=(nd x.1.to).dv:=rfl;omega
 by_cases J:q=x.1.to
 .have hs:nd x.1.to=nd q:=by rw[J]
  have ak:∃I,D.dv=w/\D.v=some (w,I)/\(∀y∈I,dE y.fr/\dg T y.fr=false)/\(((x.1.kd=2/\M<=x.1.vw)\/((nd q).ag=true/\M<=(nd q).dn))->D.ag=true/\M<=D.dn):=by
   rw[hs]at P
   have e0:(eg (nd q) x).dv=w:=E
   have e1:(eg (nd q) x).v=some (w,vs):=F
   have e2:(eg (nd q) x).ls<w:=aj.2.2.1
   have ao:eC (eg (nd q) x)=true->False:=fun h=>by
    grind[eC]
   have same:∀l:dp,l.dv=w->l.v=some (w,vs)->l.ag=(nd q).ag->l.dn=(nd q).dn->¬(x.1.kd=2/\M<=x.1.vw)->∃I,l.dv=w/\l.v=some (w,I)/\(∀y∈I,dE y.fr/\dg T y.fr=false)/\(((x.1.kd=2/\M<=x.1.vw)\/((nd q).ag=true/\M<=(nd q).dn))->l.ag=true/\M<=l.dn):=fun l a b c d f=>⟨vs,a,b,qi,fun h=>by
    grind⟩
   obtain⟨TT,tm,O,-,rfl⟩:=hS
   cases P with
   |join k h1 h2=>
    have h3:=(ij H hx k).2;have h4:=two.lo _ (two.pr x hx hm k);omega
   |deny k=>exact same _ E F rfl rfl (fun h=>by omega)
   |revote k=>exact same _ E F rfl rfl (fun h=>by omega)
   |denied k h1 h2=>
    refine⟨vs,E,F,qi,fun h=>⟨rfl,?_⟩⟩;show M<=ep (nd q).dn x.1.vw;grind[ep]
   |voted vw us k h1 h2 h3 h4=>
    rw[e1]at h1;cases h1;refine⟨vs++[⟨x.1.fr,x.1.ls,x.2,x.1.cm⟩],E,rfl,fun y hy=>?_,fun h=>?_⟩;·grind[List.mem_singleton,iG]
    .rcases h with h|h;·omega
     .exact h
   |took k h1 h2=>
    have h5:=jk H hx k;grind
   |same k h1 h2=>omega
   |app L' k h1=>grind
   |fresh k h1=>grind
   |has _ k h1=>grind
   |data _ k h1=>grind
   |askd q k h1=>grind
   |none k1 k2 k3=>
    refine same _ E F rfl rfl (fun h=>?_);grind
  obtain⟨I,v1,v2,v3,v4⟩:=ak;refine⟨af,uq,by rw[J,dc];exact v1,lt,⟨I,by rw[J,dc];exact v2,v3⟩,ah,?_⟩;grind[b4,absurd,dc]
 .refine⟨af,uq,by rw[dl J];exact E,lt,⟨vs,by rw[dl J];exact F,qi⟩,ah,?_⟩;rw[dl J];rcases st with⟨z,b1,b2,b3,b4,S,b6⟩|⟨z,b1,b2,b3,b4,S⟩|h
  .rcases List.mem_cons.1 b1 with e|h
   .rw[e]at b3 b4 S b6;have e3:(eg (nd x.1.to) x).dv=M:=by show(nd x.1.to).dv=M;rw[b6];exact two.hi _ ac.1 ac.2
    have am:(eg (nd x.1.to) x).n=n:=(iW H o.1.1 o.1.2 x).nn
    right;left
    cases P with
    |join k h1 h2=>omega
    |deny k h1 h2=>
     refine⟨(dm (eg (nd x.1.to) x) (gP (eg (nd x.1.to) x) x.1),[]),List.mem_append_right _ ?_,?_,rfl,by show M<=(eg (nd x.1.to) x).dv;omega,S⟩;·show _∈(eg (nd x.1.to) x).out++[_];grind
     .unfold dW;show(dg t (eg (nd x.1.to) x).id&&dg t x.1.fr)=true;rw[ae,o.2,y1.2];rfl
    |revote k h1 h2=>omega
    |none k1=>grind[absurd,ij]
    |denied k=>omega
    |voted _ _ k=>omega
    |took k=>omega
    |same k=>omega
    |app _ k=>omega
    |fresh k=>omega
    |has _ k=>omega
    |data _ k=>omega
    |askd _ k=>omega
   grind
  .grind
  grind
end
section
variable{n:Nat} {g D X Y:Gh} {i d d' t M u w i0 j0 p q c T N:Int} {dv:Int->Int} {B B' K K' R Z:Int} {s s' O V:dp} {m:dz} {L C:List dj} {e:dj} {W:eW} {A A':dU} {nd:fK} {ns:Ms} {x:dz×List dj} {U:Int->Prop} {G:Int->Int} {r:Nat}
theorem Et(b:∀j,U j->1<=j/\j<=n)(nd:fK){j:Int}(a:U j):∃p,U p/\∀i,U i->(nd i).dv<=(nd p).dv:=by
 have f:∀(k:Nat),(k:Int)<=n->(∃j,U j/\j<=k)->∃p,U p/\p<=k/\∀i,U i->i<=k->(nd i).dv<=(nd p).dv:=by
  intro k
  induction k with
  |zero=>grind
  |succ k o=>
   rintro l ⟨j,h1,h2⟩;by_cases h:∃j,U j/\j<=(k:Int);·grind
   grind
 obtain⟨p,a1,-,a3⟩:=f n (Int.le_refl _) ⟨j,a,(b j a).2⟩;grind
def Lq(n:Nat)(t:Int)(U:Int->Prop)(M u p T N:Int)(nd:fK)(ns:Ms)(_:Gh):Prop:=
 jL n t M nd\/(eR (nd p) M/\Gx n t U M u nd ns)\/∃w q,JF n t U M T w q N nd ns
theorem KD(E:∀j,U j->dR n t j)(hT:∀j,dE j->dg T j=true->dR n t j/\¬U j)(hn:3<=n/\n<=5)(ac:dR n t N/\¬U N){k:Int}(H:GV n g nd ns)(v:jL n t M nd\/IF n t U M u p k nd ns):Lq n t U M u p T N nd ns g:=by
 rcases v with h|⟨P,b,Q,l,S,wt,up⟩;·exact .inl h
 right;by_cases F:∀j,U j->(nd j).dv<=u;·exact .inl ⟨P,b,F,l⟩
 .right;obtain⟨j,f,ab⟩:∃j,U j/\u<(nd j).dv:=by grind
  obtain⟨q,a,o⟩:=Et (fun j h=>(E j h).1) nd f;have I:u<(nd q).dv:=by have:=o j f;omega
  obtain⟨⟨y,y1,y2⟩,a4⟩:=up q a I;refine⟨(nd q).dv,q,⟨b,o,l⟩,a,rfl,Q q a,⟨[y],y1,fun z hz=>?_⟩,fun x J _ h3=>absurd h3 (S x J),.inl ?_⟩;·grind[dg,absurd,List.mem_singleton,iG]
  grind
def XS(n:Nat)(t M:Int)(nd:fK):Prop:=∃q vs,dR n t q/\(nd q).v=some ((nd q).dv,vs)/\dX (dr vs) n=false/\(nd q).ag=true/\M<=(nd q).dn
theorem Ju(y:3<=n/\n<=5)(hr:r<=100)(H:Qr n G r A g)(o:∀j,U j->dR n t j)(hp:dR n t p)(P:gS T/\dX T n=true)(l:∀j,dE j->dg T j=true->dR n t j/\¬U j)(hM:u<M)(h1:eR (ed n A.W p) M)(h2:Gx n t U M u (ed n A.W) []):∃A' D,qD t A=some A'/\Qr n G (r+1) A' D/\(jL n t M (ed n A'.W)\/XS n t M (ed n A'.W)\/(eR (ed n A'.W p) M/\Gx n t U M u (ed n A'.W) [])):=by
 obtain⟨N,ad,ae,-⟩:=lH y P.1 P.1 P.2 P.2;have ab:=l N ad ae
 obtain⟨A',D,k1,k2,k3⟩:=jN y (t:=t) (I:=fun k nd ns _=>jL n t M nd\/IF n t U M u p k nd ns) (J:=Lq n t U M u p T N) (fun k nd ns g D O V k1 k2 H S l f H' _=>GE y o hp k1 k2 H S l f H') (fun nd ns g H S=>KD o l y ab H S) (fun nd x ns g D O V H hm hJ F f _ _=>by
  rcases hJ with h|⟨h3,h4⟩|⟨w,q,h⟩;·exact .inl (kx h F f)
  .have aa:=wH o hM H hm h4 F f;by_cases Q:p=x.1.to
   .have hs:eR (eg (nd x.1.to) x) M:=by rw[Q]at h3;exact h3
    rcases jr hs F f with h|⟨h,-⟩;·exact .inl ⟨p,hp,by rw[Q,dc];exact h⟩
    .exact .inr (.inl ⟨by rw[Q,dc];exact h,aa⟩)
   .exact .inr (.inl ⟨by rw[dl Q];exact h3,aa⟩)
  .exact .inr (.inr ⟨w,q,GK y o l ab H hm h F f⟩)) (fun nd x ns g H hm hJ=>by
  have ac:∀{z:dz×List dj},z∈x::ns->dW t z=true->z∈ns:=fun h1 h2=>by grind
  rcases hJ with h|⟨h3,⟨a,b,c⟩⟩|⟨w,q,⟨⟨a,b,c⟩,uq,qd,lt,qv,vo,st⟩⟩;·exact .inl h
  .exact .inr (.inl ⟨h3,a,b,fun z E=>c z (List.mem_cons_of_mem _ E)⟩)
  .refine .inr (.inr ⟨w,q,⟨a,b,fun z E=>c z (List.mem_cons_of_mem _ E)⟩,uq,qd,lt,qv,fun z E=>vo z (List.mem_cons_of_mem _ E),?_⟩);rcases st with⟨z,b1,b2,b3⟩|⟨z,b1,b2,b3⟩|h;·exact .inl ⟨z,ac b1 b2,b2,b3⟩
   .exact .inr (.inl ⟨z,ac b1 b2,b2,b3⟩)
   .exact .inr (.inr h)) hr H (.inr ⟨h1,h2.hi,fun j v=>by have:=h2.lo j v;omega,fun x hx=>(by cases hx),fun x hx=>(by cases hx),fun j v _=>h2.lo j v,fun j v h=>by have:=h2.lo j v;omega⟩)
 refine⟨A',D,k1,k2,?_⟩;rcases k3 with h|h|⟨w,q,h⟩;·exact .inl h
 .grind
 .refine .inr (.inl ?_);obtain⟨two,uq,qd,lt,⟨vs,qv,qi⟩,vo,st⟩:=h;refine⟨q,vs,o q uq,by rw[qv,qd],?_,?_⟩;·grind[dX,dr,fS,lH]
  grind
theorem JC(Q:3<=n/\n<=5)(hr:r<=100)(H:Qr n G r A g)(E:XS n t M (ed n A.W)):∃A' D,qD t A=some A'/\Qr n G (r+1) A' D/\jL n t M (ed n A'.W):=by
 obtain⟨q,vs,j,S,x3,x4,x5⟩:=E
 obtain⟨A',D,k1,k2,k3⟩:=jN Q (t:=t) (I:=fun k nd ns _=>jL n t M nd\/(k<=q/\(nd q).v=some ((nd q).dv,vs)/\(nd q).ag=true/\M<=(nd q).dn)) (J:=fun nd _ _=>jL n t M nd) (fun k nd ns g D O V k1 k2 H b l a H' _=>by
  rcases b with h|⟨y,h1,h2,h3⟩;·exact .inl (ky h l a)
  .by_cases F:k=q
   .subst F;left;refine⟨k,j,?_⟩;rw[dc,a.dve];have aa:(ei (nd k)).n=n:=(eK H k1 k2).nn;have o:(ei (nd k)).v=some ((nd k).dv,vs):=h1;have hc:jy (ei (nd k))=true:=by unfold jy;rw[o];exact decide_eq_true rfl
    cases l with
    |inst vw us a1 a2 a3=>
     grind
    |again w vw us a1 a2 a3 a4 a5=>
     have a5:ep (nd k).dv (nd k).dn<w:=a5;show M<w;grind[ep]
    |gath vw us a1 a2 a3 a4=>
     have a4:(nd k).ag=false:=a4;grind
    |silent O w a1=>grind
    |dec O q a1=>grind
    |late w a1=>grind
    |ask a1=>grind
    |idle a1=>grind
   grind[dl]) (fun nd ns g H b=>by
  rcases b with h|⟨y,-⟩;·exact h
  .have:=j.1;omega) (fun nd x ns g D O V H P f z a _ _=>kx f z a) (fun nd x ns g H P f=>f) hr H (.inr ⟨j.1.1,S,x4,x5⟩)
 grind
theorem wq(h1:qD t A=some A'){a:dU}(h2:qD t A=some a):a=A':=by grind
theorem EW(f:3<=n/\n<=5)(hr:r<=100)(H:Qr n G r A g)(b:∀j,dR n t j->(ed n A.W j).dv<=M)(h1:qD t A=some A')(h2:jL n t M (ed n A'.W)):LV n t G r 1 A:=by
 obtain⟨a,X,k1,k2,k3⟩:=wZ f hr H b;have e:=wq h1 k1;subst e;rcases k3 with k3|k3;·obtain⟨j,h,k⟩:=h2;grind
 .exact⟨1,a,X,Nat.le_refl _,fL h1,k2,k3⟩
theorem Kr(k:∀j,U j->dR n t j)(f:u<M)(h:Gx n t U M u nd ns):∀j,dR n t j->(nd j).dv<=M:=fun j b=>by
 by_cases a:U j;·have:=h.lo j a;omega
 .have:=h.hi j b a;omega
theorem uo(b:3<=n/\n<=5)(o:∀j,U j->dR n t j)(E:dR n t p)(z:gS T/\dX T n=true)(y:∀j,dE j->dg T j=true->dR n t j/\¬U j)(l:u<M):∀(k:Nat) {r:Nat} {A:dU} {g:Gh},r+k<=100->Qr n G r A g->eR (ed n A.W p) M->Gx n t U M u (ed n A.W) []->LV n t G r (k+1) A\/∃A' D,mS t k A=some A'/\Qr n G (r+k) A' D/\eR (ed n A'.W p) M/\Gx n t U M u (ed n A'.W) []
 |0,r,A,g,hr,H,h1,h2=> .inr ⟨A,g,rfl,H,h1,h2⟩
 |k+1,r,A,g,hr,H,h1,h2=>by
  have ab:=Kr o l h2;obtain⟨A1,X,k1,k2,k3⟩:=Ju b (by omega) H o E z y l h1 h2;obtain⟨F,aa,I,J,a⟩:=wZ b (by omega) H ab;have P:=wq k1 I;subst P;rcases a with a|a
  .rcases k3 with k3|k3|⟨k3,k4⟩;·obtain⟨j,j1,j2⟩:=k3;grind
   .obtain⟨v,Y,f,Q,h⟩:=JC b (by omega) k2 k3;left;have:=LV.after (fL k1) (EW b (by omega) k2 a f h);exact this.le (by omega)
   .rcases uo b o E z y l k (by omega) k2 k3 k4 with h4|⟨v,Y,f,Q,h,S⟩;·left;have:=LV.after (fL k1) h4;grind
    .right;refine⟨v,Y,?_,by grind,h,S⟩;rw[Nat.add_comm,gy 1 k (fL k1)];exact f
  .exact .inl ⟨1,F,aa,by omega,fL k1,J,a⟩
end
section
variable{n:Nat} {g G g1 Y:Gh} {i d d' t M V w Z j0 p q T x0:Int} {dv:Int->Int} {B B' K K' R R':Int} {s s' D u:dp} {m:dz} {L C:List dj} {e:dj} {W:eW} {A A':dU} {nd:fK} {ns:Ms} {x:dz×List dj} {U:Int->Prop} {X c:Int->Int} {r:Nat}
def JD(n:Nat)(t M p T:Int)(c:Int->Int)(nd:fK)(_:Ms)(_:Gh):Prop:=
 jL n t M nd\/((eR (nd p) M/\(nd p).mb=T)/\∀j,dR n t j->(nd j).dv=M/\((nd j).ls=M\/((nd j).ls<M/\(nd j).hd<=c j/\(nd j).ck<=c j+17)))
theorem fO(H:GV n g nd ns)(a:dR n t p)(h:eR (nd p) M):dJ M n=p/\M≠0:=by have:=(H.nod p a.1.1 a.1.2).mi h.1;rw[h.2.1,H.id p a.1.1 a.1.2]at this;omega
theorem CQ(hn:3<=n/\n<=5)(Q:dR n t p):lw n t (JD n t M p T c):=by
 refine⟨fun k nd ns g G D u k1 k2 H I hT z S ad=>?_,fun nd x ns g G D u H hm I hH z S ad=>?_,fun nd x ns g H hm I=>I⟩
 .rcases I with h|⟨h1,h2⟩;·exact .inl (ky h hT z)
  by_cases P:jL n t M (dO nd k u);·exact .inl P
  right;obtain⟨ai,ah⟩:=fO H Q h1.1;have hl:=(qs Q).tick k nd ns g G D u k1 k2 H (.inr h1) hT z S ad;refine⟨?_,fun j J=>?_⟩
  .rcases hl with h|h;·grind
   .exact h
  .by_cases hk:j=k
   .subst hk;obtain⟨a1,a2⟩:=h2 j J
    have E:u.dv<=M:=by
     by_cases e:M<u.dv;·exact absurd ⟨j,J,by rw[dc];exact e⟩ P
     .omega
    rw[z.dve]at E;have N:=eK H k1 k2;have af:(ei (nd j)).id=j:=H.id j k1 k2;have aj:=H.id p Q.1.1 Q.1.2;have l:(ei (nd j)).dv=M:=a1;have hv:∀w vs,(ei (nd j)).v=some (w,vs)->w=M->j=p/\(nd j).ls<M:=fun w vs h1 h2=>by have h3:=N.v w vs h1;grind[ei]
    have ak:=h1.1.2.1
    have fin:D.dv=M->D.ls=(nd j).ls->D.hd=(nd j).hd->D.ck=(nd j).ck+1->ic (ei (nd j))=false\/(nd j).ls=M->u.dv=M/\(u.ls=M\/(u.ls<M/\u.hd<=c j/\u.ck<=c j+17)):=fun b1 b2 b3 b4 b=>by
     obtain⟨TT,tm,O,-,rfl⟩:=z;refine⟨b1,?_⟩;show D.ls=M\/(D.ls<M/\D.hd<=c j/\D.ck<=c j+17);rcases a2 with a2|⟨a2,a3,a4⟩;·omega
     .rcases b with b|b;·have b:=of_decide_eq_false b;rw[af]at b;have b:¬8+2*j<=(nd j).ck+1-(nd j).hd:=b;omega
      .omega
    have ae:∀{w:Int},ep (nd j).dv (nd j).dn<w->w<=M->False:=fun{w} h1 h2=>by have:=gA (nd j).dv (nd j).dn;omega
    rw[dc];cases hT with
    |inst vw vs b1 b2 b3=>
     grind
    |again w vw vs b1 b2 b3 b4 b=>grind
    |gath vw vs b1 b2=>
     grind
    |silent a w b1 b2 b3 b4 b8 b=>
     obtain⟨L',q',rfl⟩:=dI b4;exact(ae b E).elim
    |dec a q b1 b2 b3 b4=>
     obtain⟨L',q',rfl⟩:=dI b4;unfold eC at b2;simp only[Bool.and_eq_true,decide_eq_true_eq]at b2;have F:(ei (nd j)).ls=(nd j).ls:=rfl;exact fin l rfl rfl rfl (.inr (by omega))
    |late w b1 b2 b3 b=>exact(ae b E).elim
    |ask b1 b2 b3 b4=>exact fin l rfl rfl rfl (.inl b4)
    |idle b1 b2 b4=>exact fin l rfl rfl rfl (.inl b4)
   grind[dl]
 .rcases I with h|⟨h1,h2⟩;·exact .inl (kx h hH z)
  by_cases P:jL n t M (dO nd x.1.to u);·exact .inl P
  right;have hl:=(qs Q).hear nd x ns g G D u H hm (.inr h1) hH z S ad;refine⟨?_,fun j J=>?_⟩
  .rcases hl with h|h;·grind
   .exact h
  .obtain⟨y1,y2,y3⟩:=fZ H hm;by_cases hk:j=x.1.to
   .subst hk;obtain⟨a1,a2⟩:=h2 _ J
    have E:u.dv<=M:=by
     by_cases e:M<u.dv;·exact absurd ⟨_,J,by rw[dc];exact e⟩ P
     .omega
    rw[z.dve]at E;have l:(eg (nd x.1.to) x).dv=M:=a1;have fin:∀y:dp,y.dv=M->y.ls=(nd x.1.to).ls->y.ck=(nd x.1.to).ck->(y.hd=(nd x.1.to).hd\/(nd x.1.to).ls=M)->y.dv=M/\(y.ls=M\/(y.ls<M/\y.hd<=c x.1.to/\y.ck<=c x.1.to+17)):=fun y b1 b2 b4 b3=>by omega
    have ag:eC (eg (nd x.1.to) x)=true->(nd x.1.to).ls=M:=fun h=>by unfold eC at h;simp only[Bool.and_eq_true,decide_eq_true_eq]at h;have F:(eg (nd x.1.to) x).ls=(nd x.1.to).ls:=rfl;omega
    rw[dc];obtain⟨TT,tm,O,-,rfl⟩:=z;cases hH with
    |join k b1 b2=>
     have E:x.1.vw<=M:=E;omega
    |took k b1 b2=>
     have h5:=(jk H (List.mem_cons_self ..) k).1;have F:(eg (nd x.1.to) x).dv=(nd x.1.to).dv:=rfl;have h6:x.1.vw=M:=by omega
     refine⟨?_,.inl h6⟩;show ep (eg (nd x.1.to) x).dv x.1.vw=M;unfold ep;omega
    |same k b1 b2=>exact fin _ l rfl rfl (.inr (by have F:(eg (nd x.1.to) x).ls=(nd x.1.to).ls:=rfl;omega))
    |app L' k b1=>exact fin _ l rfl rfl (.inr (ag b1))
    |has _ k b1 b2 b3 b4=>
     obtain⟨q,hq,h|⟨hc,r,hr,rfl⟩⟩:=eY b4;·rw[h.1];exact fin _ l rfl rfl (.inl rfl)
     .obtain⟨f,o,l',F,e2,-⟩:=eH hr;rw[F,e2];exact fin _ l rfl rfl (.inl rfl)
    |data _ k b1 b2 b3=>
     obtain⟨L',q',rfl⟩:=fs b3;exact fin _ l rfl rfl (.inl rfl)
    |_=>exact fin _ l rfl rfl (.inl rfl)
   grind[dl]
theorem Kn(b:3<=n/\n<=5)(f:dR n t p)(hr:r+18<=101)(H:Qr n X r A g)(h1:eR (ed n A.W p) M)(h2:∀j,dR n t j->(ed n A.W j).dv=M):∃A' G,mS t 18 A=some A'/\Qr n X (r+18) A' G/\(jL n t M (ed n A'.W)\/(eR (ed n A'.W p) M/\(ed n A'.W p).mb=(ed n A.W p).mb/\∀j,dR n t j->(ed n A'.W j).dv=M/\(ed n A'.W j).ls=M)):=by
 obtain⟨A',G,k1,k2,k3⟩:=im b (CQ (M:=M) (T:=(ed n A.W p).mb) (c:=fun j=>(ed n A.W j).ck) b f) 18 hr H (.inr ⟨⟨h1,rfl⟩,fun j a=>by
  obtain⟨b1,b2,b3⟩:=H.at a.1.1 a.1.2
  have e:ed n A.W j=dM A.W j:=if_pos a.1
  have k:=(H.1.l.w.nd j a.1.1 a.1.2).ls
  grind⟩)
 refine⟨A',G,k1,k2,?_⟩;rcases k3 with h|⟨h3,h4⟩;·exact .inl h
 .refine .inr ⟨h3.1,h3.2,fun j a=>?_⟩;obtain⟨a1,a2⟩:=h4 j a;refine⟨a1,?_⟩;rcases a2 with a2|⟨-,-,a2⟩;·exact a2
  .exfalso;have h5:=(k2.at a.1.1 a.1.2).1;have h6:=(H.at a.1.1 a.1.2).1;grind
theorem Qr.gv(H:Qr n X r A g)(a:3<=n/\n<=5):GV n g (ed n A.W) []:=by have:=(H.1.md a).gv;rw[H.1.em]at this;exact this
theorem An(O:3<=n/\n<=5)(H:GV n g nd ns)(f:dR n t p)(h:eR (nd p) M):(gS (nd p).mb/\dX (nd p).mb n=true)/\∀j,dE j->dg (nd p).mb j=true->j<=n/\M<=(nd j).dv:=by have N:=H.nod p f.1.1 f.1.2;obtain⟨E,P⟩:=N.mi h.1;obtain⟨vs,k,F⟩:=N.mb E;have a:=H.ok.vs _ vs k;have b:=fS (fun y z=>(a.ok y z).2.1.id);have v:=H.ok.gh.maj _ vs k;rw[h.2.1]at a;rw[F];refine⟨⟨b.1,v⟩,fun j o l=>?_⟩;obtain⟨y,I,J⟩:=(b.2 j o).1 l;have h3:=a.ok y I;rw[<-J];exact⟨h3.1,h3.2.2.1⟩
def LS(n:Nat)(t M p:Int)(nd:fK):Prop:=dR n t p/\eR (nd p) M/\(∀j,dE j->(dg (nd p).mb j=true↔dR n t j))/\∀j,dR n t j->(nd j).dv=M/\(nd j).ls=M
theorem Lo(a:3<=n/\n<=5)(Q:gS t/\dX t n=true/\∀j,dE j->dg t j=true->j<=n)(hr:r+68<=100)(H:Qr n X r A g):LV n t X r 66 A\/∃k A' G M p,k<=50/\mS t k A=some A'/\Qr n X (r+k) A' G/\LS n t M p (ed n A'.W):=by
 have al:∀j,dE j->dg t j=true->dR n t j:=fun j h1 h2=>⟨⟨h1.1,Q.2.2 j h1 h2⟩,h2⟩;obtain⟨j0,j1,j2,-⟩:=lH a Q.1 Q.1 Q.2.1 Q.2.1;obtain⟨Z,i1,i2⟩:=Eu a (ed n A.W) (al j0 j1 j2);obtain⟨M,hM⟩:∃M,(ed n A.W Z).dv=M:=⟨_,rfl⟩;rw[hM]at i2;rcases qR a 18 (by omega) H i2 with h|⟨l,g1,a1,a2,a3⟩;·exact .inl (h.le (by omega))
 obtain⟨am,an,b1,b2,b3⟩:=FI a (U:=dR n t) (M:=M) (fun j h=>h) i1 (by omega) H (fun j h=> .inl h) hM;rw[a1]at b1;cases b1;rcases b3 with⟨j,o,N⟩|⟨p,v,P,-⟩;·grind
 obtain⟨⟨T1,T2⟩,T3⟩:=An a (b2.gv a) v P;obtain⟨T,hT⟩:∃T,(ed n l.W p).mb=T:=⟨_,rfl⟩;rw[hT]at T1 T2 T3;by_cases ap:∀j,dE j->dg T j=true->dg t j=true
 .by_cases ao:∀j,dR n t j->dg T j=true
  .
   have aj:∀j,dR n t j->(ed n l.W j).dv=M:=fun j O=>by
    grind[iG]
   rcases qR a 18 (by omega) a2 a3 with h|⟨S,Y,o,N,c3⟩
   .exact .inl ((LV.after a1 h).le (by omega))
   obtain⟨ab,ac,z,E,I⟩:=Kn a v (by omega) a2 P aj
   rw[o]at z
   cases z
   rcases I with⟨j,f,F⟩|⟨f,F,e3⟩
   .grind
   .refine .inr ⟨36,S,Y,M,p,by omega,?_,by omega,v,f,fun j O=>?_,e3⟩;·rw[show(36:Nat)=18+18 by rfl,gy 18 18 a1];exact o
    grind
  .
   left
   obtain⟨b,k1,k2⟩:∃b,dR n t b/\¬dg T b=true:=by
    grind
   obtain⟨U,ae⟩:∃U:Int->Prop,U=fun j=>dR n t j/\(ed n l.W j).dv<M:=⟨_,rfl⟩
   have J:∀j,U j->dR n t j:=fun j h=>by grind
   have aa:∀j,dE j->dg T j=true->dR n t j/\¬U j:=fun j h1 h2=>by
    grind
   by_cases af:∃j,U j
   .obtain⟨j,O⟩:=af;obtain⟨i3,i4,i5⟩:=Et (fun j h=>(J j h).1) (ed n l.W) O;obtain⟨V,ad⟩:∃V,(ed n l.W i3).dv=V:=⟨_,rfl⟩;rw[ad]at i5;have ag:V<M:=by rw[ae]at i4;omega
    have ak:Gx n t U M V (ed n l.W) []:=⟨fun j O hu=>by
     grind,i5,fun x hx=>by cases hx⟩
    rcases uo a J v ⟨T1,T2⟩ aa ag 18 (by omega) a2 P ak with h|⟨S,Y,o,N,c3,c4⟩;·exact(LV.after a1 h).le (by omega)
    obtain⟨ab,ac,z,E,I⟩:=FI a (U:=U) (M:=V) J i4 (by omega) a2 (fun j O=>by
     grind) ad
    rw[o]at z;cases z;rcases I with⟨j,f,F⟩|⟨p',f,F,e3⟩;·have:=c4.lo j f;omega
    .obtain⟨⟨S1,S2⟩,S3⟩:=An a (E.gv a) (J p' f) F;obtain⟨y,y1,y2,y3⟩:=lH a T1 S1 T2 S2;obtain⟨y4,y5⟩:=aa y y1 y2;have y6:=c4.hi y y4 y5;rcases uo a J v ⟨T1,T2⟩ aa ag 14 (by omega) N c3 c4 with h|⟨A3,g3,f1,f2,f3,f4⟩;·exact(LV.after a1 (LV.after o h)).le (by omega)
     .exfalso;obtain⟨ah,ai,l1,l2,j3,l3,l4⟩:=FK a J f y4.1 (fun h=>by grind) (by omega) E F y3 (fun _=>by omega);rw[f1]at l1;cases l1;have:=f4.lo j3 l3;omega
   .
    have hk:(ed n l.W b).dv=M:=by
     have h1:=a3 b k1;have h2:¬(ed n l.W b).dv<M:=fun h=>af ⟨b,by rw[ae];exact⟨k1,h⟩⟩;omega
    rcases qR a 18 (by omega) a2 a3 with h|⟨S,Y,o,N,c3⟩
    .exact(LV.after a1 h).le (by omega)
    obtain⟨ab,ac,z,E,I⟩:=im a ((va (M:=M) (c:=(ed n l.W b).ck) (fun j (h:dR n t j)=>h) k1 a).and (qs (M:=M) (T:=T) v)) 18 (by omega) a2 ⟨⟨fun j h=> .inl h,.inr (.inr ⟨hk,(a2.at k1.1.1 k1.1.2).2.1,by omega,fun x hx=>by cases hx⟩)⟩,.inr ⟨P,hT⟩⟩
    rw[o]at z
    cases z
    exfalso
    rcases I.2 with⟨j,f,F⟩|⟨f,F⟩
    .grind
    .rcases I.1.2 with⟨j,f1,f2⟩|⟨p',f1,f2,f3⟩|⟨-,-,f2,-⟩;·grind
     .have h1:=(fO (E.gv a) v f).1;have h2:=(fO (E.gv a) f1 f2).1;grind
     .have h5:=(E.at k1.1.1 k1.1.2).1;have h6:=(a2.at k1.1.1 k1.1.2).1;omega
 .
  left
  obtain⟨b,k1,k2,k3⟩:∃b,dE b/\dg T b=true/\¬dg t b=true:=by
   grind
  rcases qR a 14 (by omega) a2 a3 with h|⟨S,Y,o,N,c3⟩
  .exact(LV.after a1 h).le (by omega)
  .exfalso;obtain⟨ah,ai,l1,l2,j3,l3,l4⟩:=FK a (U:=dR n t) (fun j h=>h) v (j0:=b) ⟨k1.1,(T3 b k1 k2).1⟩ (fun h=>k3 (by rw[h];exact v.2)) (by omega) a2 P (by grind) (fun h=>absurd h.2 k3);grind
end
section
variable{P:dz×List dj->Prop} {k:Ms}
variable{n:Nat} {g G g1 g2:Gh} {i d d' t M V w i0 j0 p q T x0:Int} {dv:Int->Int} {B B' K K' R Y:Int} {s s' D u:dp} {m:dz} {L C:List dj} {e:dj} {W:eW} {A A':dU} {nd:fK} {ns:Ms} {x:dz×List dj} {U:Int->Prop} {Z c:Int->Int} {r:Nat}
def g7(t:Int)(ns:Ms)(P:dz×List dj->Prop):Prop:=∃x∈ns,dW t x=true/\P x
theorem g7.tail(h:g7 t (x::ns) P)(a:¬P x):g7 t (ns++k) P:=by
 obtain⟨z,h1,h2,h3⟩:=h;rcases List.mem_cons.1 h1 with e|h;·grind
 .exact⟨z,List.mem_append_left _ h,h2,h3⟩
theorem g7.drop(h:g7 t (x::ns) P)(a:dW t x=false):g7 t ns P:=by
 obtain⟨z,h1,h2,h3⟩:=h;rcases List.mem_cons.1 h1 with e|h;·grind
 .exact⟨z,h,h2,h3⟩
theorem g7.left(h:g7 t ns P):g7 t (ns++k) P:=by obtain⟨z,h1,h2,h3⟩:=h;exact⟨z,List.mem_append_left _ h1,h2,h3⟩
def Bo(w j:Int)(x:dz×List dj):Prop:=(x.1.kd=4\/x.1.kd=5)/\x.1.vw=w/\x.1.to=j
def vM(w j p:Int)(x:dz×List dj):Prop:=x.1.kd=6/\x.1.vw=w/\x.1.fr=j/\x.1.to=p
structure JG (n:Nat) (t w p:Int) (nd:fK) (ns:Ms):Prop where
 pS:dR n t p
 ld:eR (nd p) w
 mb:∀j,dE j->(dg (nd p).mb j=true↔dR n t j)
 dv:∀j,dR n t j->(nd j).dv=w
 k9:∀x∈ns,dW t x=true->x.1.kd=9->x.1.cm<=((nd p).L.length:Int)
 st:∀j,dR n t j->j≠p->((nd j).ls<w/\g7 t ns fun x=>x.1.kd=4/\x.1.vw=w/\x.1.to=j)\/((nd j).ls=w/\g7 t ns (Bo w j))\/((nd j).ls=w/\(nd j).hd=(nd j).ck/\(g7 t ns (vM w j p)\/(nd p).er.at j.toNat=(nd p).ck))
theorem Hs.fresh9(h:Hs s m L s')(b:s.out=[])(a:x∈s'.out)(J:x.1.kd=9):x.1.cm=s'.cm/\m.kd=6:=by
 have O:=(h.say b a).2
 have v:m.kd=6:=by omega
 refine⟨?_,v⟩
 cases h with
 |has _ k a1 a2 a3 a4=>
  obtain⟨q,N,h|⟨I,r,hr,rfl⟩⟩:=eY a4;·grind[ji]
  .obtain⟨f,o,Q,j,z,E,F,H,l,-⟩:=eH hr;rw[j]at a⊢;have a:x∈(ji s m q).out++o:=a;have y:(ji s m q).out=[]:=b;rw[y,List.nil_append]at a;obtain⟨S,-,h,-⟩:=l x a;rw[h];rfl
 |join k=>omega
 |deny k=>omega
 |revote k=>omega
 |denied k=>omega
 |voted _ _ k=>omega
 |took k=>omega
 |same k=>omega
 |app _ k=>omega
 |fresh k=>omega
 |data _ k=>omega
 |askd _ k=>omega
 |none=>grind
theorem Jo(H:GV n g nd ns)(l:dR n t p)(h:eR (nd p) w){j:Int}(f:dR n t j)(h1:(nd j).ls=w)(h2:(nd j).mi=true):j=p:=by have a:=(fO H l h).1;have b:=((H.nod j f.1.1 f.1.2).mi h2).2;rw[h1,H.id j f.1.1 f.1.2,a]at b;exact b.symm
theorem t'(hn:3<=n/\n<=5)(H:GV n g nd (x::ns))(hm:dW t x=true)(hJ:JG n t w p nd (x::ns))(y:Hs (eg (nd x.1.to) x) x.1 x.2 D)(v:Sd D u)(H':GV n G (dO nd x.1.to u) (ns++D.out)):JG n t w p (dO nd x.1.to u) (ns++D.out):=by
 obtain⟨pS,J,mb,dv,k9,st⟩:=hJ;obtain⟨y1,l,y3⟩:=fZ H hm;have hx:x∈x::ns:=List.mem_cons_self ..;have ac:(eg (nd x.1.to) x).out=[]:=H.out _ l.1.1 l.1.2;have af:(eg (nd x.1.to) x).id=x.1.to:=H.id _ l.1.1 l.1.2;have av:(eg (nd x.1.to) x).n=n:=(iW H l.1.1 l.1.2 x).nn;have al:=fO H pS J;have e0:(eg (nd x.1.to) x).dv=w:=dv _ l;have ah:∀j,dR n t j->(dO nd x.1.to u j).dv=w:=fun j F=>by have h1:=nK H hm y v (M:=w) (fun j F=>by grind) j F;have h2:=k0 (nd:=nd) (k:=x.1.to) (s:=u) (by rw[v.dve];exact y.dv_le) j;grind
 have aD:D.dv=w:=by have:=ah _ l;rw[dc,v.dve]at this;exact this
 have aL:x.1.kd=1->x.1.vw<=w:=fun h=>by have:=(ij H hx h).2;have:=dv _ y1;omega
 have aM:x.1.kd=4->x.1.vw<=w:=fun h=>by have:=(jk H hx h).1;have:=dv _ l;omega
 have aA:x.1.kd=4\/x.1.kd=5->dJ x.1.vw n=x.1.fr:=fun h=>by
  have X:=H.ms x hx;rcases h with h|h;·exact(X.k4 h).1
  .exact(X.k5 h).1
 have ad:∀{P:dz×List dj->Prop},g7 t (x::ns) P->¬P x->g7 t (ns++D.out) P:=fun h1 h2=>h1.tail h2;by_cases E:p=x.1.to
 .
  have an:eR u w/\u.mb=(nd p).mb:=by
   rcases jr (s:=eg (nd x.1.to) x) (by rw[E]at J;exact J) y v with h|⟨h,h'⟩;·rw[v.dve]at h;omega
   .exact⟨h,by rw[h',E];rfl⟩
  have au:(eg (nd x.1.to) x).mi=true:=by rw[E]at J;exact J.1
  have ar:(eg (nd x.1.to) x).ls=w:=by rw[E]at J;exact J.2.1
  have kk:=(H.pf _ l.1.1 l.1.2).heard x
  have N:=iW H l.1.1 l.1.2 x
  have ay:(nd x.1.to).L.length<=u.L.length/\u.ck=(nd x.1.to).ck/\(∀j:Int,dR n t j->j≠x.1.to->(nd x.1.to).er.at j.toNat=(nd x.1.to).ck->u.er.at j.toNat=u.ck)/\(x.1.kd=6->x.1.vw=w->u.er.at x.1.fr.toNat=u.ck):=by
   have ak:u.ck=(nd x.1.to).ck:=by rw[v.ck];exact y.kp.ck
   have aE:x.1.kd≠6->∀j:Nat,u.er.at j=(nd x.1.to).er.at j:=fun h j=>zm y v (fun h2=>absurd h2 h) ⟨y1.1.1,by have:=y1.1.2;omega⟩
   have ap:x.1.fr.toNat<8:=by have:=y1.1;omega
   have same:x.1.kd≠6->(nd x.1.to).L.length<=u.L.length->(nd x.1.to).L.length<=u.L.length/\u.ck=(nd x.1.to).ck/\(∀j:Int,dR n t j->j≠x.1.to->(nd x.1.to).er.at j.toNat=(nd x.1.to).ck->u.er.at j.toNat=u.ck)/\(x.1.kd=6->x.1.vw=w->u.er.at x.1.fr.toNat=u.ck):=fun h1 h2=>⟨h2,ak,fun j _ _ h=>by grind,fun h=>absurd h h1⟩
   have aI:∀(j:Nat),((nd x.1.to).er.set x.1.fr.toNat (nd x.1.to).ck).at j=if j=x.1.fr.toNat then(nd x.1.to).ck else(nd x.1.to).er.at j:=fun j=>E8.set_at _ ap _ j
   have am:eC (eg (nd x.1.to) x)=true:=by
    have m1:=(N.mi au).1;unfold eC;rw[N.kn,N.mem m1,e0,ar];have:=N.ls;simp;omega
   obtain⟨Q,S,O,-,rfl⟩:=v
   cases y with
   |has _ k a1 a2 a3 a4=>
    obtain⟨q,hq,h|⟨hc,r,hr,rfl⟩⟩:=eY a4
    .rw[h.1];refine⟨Nat.le_refl _,rfl,fun j F _ h=>?_,fun _ _=>?_⟩;·show((nd x.1.to).er.set x.1.fr.toNat (nd x.1.to).ck).at j.toNat=(nd x.1.to).ck;grind
     .show((nd x.1.to).er.set x.1.fr.toNat (nd x.1.to).ck).at x.1.fr.toNat=(nd x.1.to).ck;grind
    .obtain⟨f,o,l',e1,e2,-⟩:=eH hr;rw[e1,e2];refine⟨Nat.le_refl _,rfl,fun j F _ h=>?_,fun _ _=>?_⟩;·show((nd x.1.to).er.set x.1.fr.toNat (nd x.1.to).ck).at j.toNat=(nd x.1.to).ck;grind
     .show((nd x.1.to).er.set x.1.fr.toNat (nd x.1.to).ck).at x.1.fr.toNat=(nd x.1.to).ck;grind
   |data _ k a1 a2 a3=>
    obtain⟨q0,c1,c2,-⟩:=kk.hv a2;have:=(ny a3 af (N.q8 a2 ⟨l.1.1,by have:=l.1.2;omega⟩) ⟨q0,c1,c2⟩).2.1.length_le;obtain⟨L',q',rfl⟩:=fs a3;exact same (by omega) this
   |join k a1 a2=>omega
   |took k a1 a2=>omega
   |app L' k a1 a2 a3=>
    grind
   |none k1 k2 k3 k4 k5 k6=>
    by_cases h6:x.1.kd=6;·refine⟨Nat.le_refl _,rfl,fun j _ _ h=>h,fun _ h=>?_⟩;grind
    .exact same h6 (Nat.le_refl _)
   |deny k=>exact same (by omega) (Nat.le_refl _)
   |revote k=>omega
   |denied k=>exact same (by omega) (Nat.le_refl _)
   |voted _ _ k=>exact same (by omega) (Nat.le_refl _)
   |same k=>grind
   |fresh k=>grind
   |askd _ k=>exact same (by omega) (Nat.le_refl _)
  obtain⟨v1,v2,v3,v4⟩:=ay
  have aC:u.cm<=(u.L.length:Int):=by
   have:=(H'.nod _ l.1.1 l.1.2).cm.2.1;rw[dc]at this;exact this
  refine⟨pS,?_,?_,ah,fun z I h1 h2=>?_,fun j F ab=>?_⟩
  .rw[E,dc];exact an.1
  .rw[E,dc,an.2];exact mb
  .rw[E,dc];rcases List.mem_append.1 I with I|I;·grind
   .have h3:=(y.fresh9 ac I h2).1;have h4:u.cm=D.cm:=by obtain⟨Q,S,O,-,rfl⟩:=v;rfl
    omega
  .have ao:j≠x.1.to:=by rw[<-E];exact ab
   rw[dl ao];rcases st j F ab with⟨a1,a2⟩|⟨a1,a2⟩|⟨a1,a2,a3⟩;·grind
   .exact .inr (.inl ⟨a1,ad a2 (fun h=>ao h.2.2.symm)⟩)
   grind[dO,vM]
 .
  have aH:p≠x.1.to:=E
  refine⟨pS,by rw[dl E];exact J,by rw[dl E];exact mb,ah,fun z I h1 h2=>?_,fun j F ab=>?_⟩
  .rw[dl E];rcases List.mem_append.1 I with I|I;·grind
   .exfalso;have h3:=(y.fresh9 ac I h2).2;cases y with
    |has _ k a1 a2 a3 a4=>
     unfold eC at a1;simp only[Bool.and_eq_true,decide_eq_true_eq]at a1;grind[eg,Jo]
    |none=>grind
    |join k=>omega
    |deny k=>omega
    |revote k=>omega
    |denied k=>omega
    |voted _ _ k=>omega
    |took k=>omega
    |same k=>omega
    |app _ k=>omega
    |fresh k=>omega
    |data _ k=>omega
    |askd _ k=>omega
  .have aw:(dO nd x.1.to u p)=nd p:=dl E;rw[aw];by_cases ai:j=x.1.to
   .subst ai;rw[dc];have ak:u.ck=(nd x.1.to).ck:=by rw[v.ck];exact y.kp.ck
    have N:=iW H l.1.1 l.1.2 x;have ax:=st _ F ab
    have ag:∀(a:dp) (aj:Int),a.out=[]->D=gW a (jW a x.1.fr aj) []->a.id=x.1.to->a.ls=w->x.1.fr=p->g7 t (ns++D.out) (vM w x.1.to p):=fun a aj b1 b2 b3 b4 b5=>by
     refine⟨(dm a (jW a x.1.fr aj),[]),List.mem_append_right _ ?_,?_,rfl,b4,b3,b5⟩;·rw[b2];show _∈a.out++[_];grind
     .unfold dW;show(dg t a.id&&dg t x.1.fr)=true;rw[b3,l.2,y1.2];rfl
    have ae:x.1.kd=4\/x.1.kd=5->x.1.vw=w->x.1.fr=p:=fun h1 h2=>by grind
    rcases ax with⟨a1,a2⟩|⟨a1,a2⟩|⟨a1,a2,a3⟩
    .
     have a1:(eg (nd x.1.to) x).ls<w:=a1
     have aK:eC (eg (nd x.1.to) x)=true->False:=fun h=>by
      grind[eC]
     by_cases b:x.1.kd=4/\x.1.vw=w
     .cases y with
      |took k b1 b2 b3 b4=>
       have h5:=ag (lF (mP (eg (nd x.1.to) x) x.1 x.2)) 0 ac rfl af b.2 (ae (.inl k) b.2);obtain⟨Q,S,O,-,rfl⟩:=v;exact .inr (.inr ⟨b.2,rfl,.inl h5⟩)
      |same k b1 b2=>omega
      |none k1 k2 k3 k4=>grind
      |join k=>omega
      |deny k=>omega
      |revote k=>omega
      |denied k=>omega
      |voted _ _ k=>omega
      |app _ k=>omega
      |fresh k=>omega
      |has _ k=>omega
      |data _ k=>omega
      |askd _ k=>omega
     .left;refine⟨?_,ad a2 (fun h=>b ⟨h.1,h.2.1⟩)⟩;obtain⟨Q,S,O,-,rfl⟩:=v;cases y with
      |took k b1 b2=>omega
      |app L' k b1=>grind
      |has _ k b1=>grind
      |data _ k b1=>grind
      |_=>exact a1
    .
     have a1:(eg (nd x.1.to) x).ls=w:=a1
     have aG:u.ls=w:=by
      have aq:=y.kp.cm;obtain⟨Q,S,O,-,rfl⟩:=v;rcases aq with h|⟨h,-⟩;·grind
      .exfalso;have aB:=(H'.nod _ l.1.1 l.1.2).ls;grind[dc]
     have am:eC (eg (nd x.1.to) x)=true:=by
      have aF:=N.ls;have aJ:=al.2;unfold eC;rw[N.kn,N.mem (by omega),e0,a1];simp;omega
     by_cases b:Bo w x.1.to x
     .right;right
      cases y with
      |took k b1 b2=>omega
      |same k b1 b2=>
       have h5:=ag {eg (nd x.1.to) x with hd:=(eg (nd x.1.to) x).ck} 0 ac rfl af a1 (ae b.1 b.2.1);obtain⟨Q,S,O,-,rfl⟩:=v;exact⟨a1,rfl,.inl h5⟩
      |app L' k b1 b2 b3=>
       have h5:=ag (pU (eg (nd x.1.to) x) x.1.cm L') x.1.nm ac rfl af a1 (ae b.1 b.2.1);obtain⟨Q,S,O,-,rfl⟩:=v;exact⟨a1,rfl,.inl h5⟩
      |none k1 k2 k3 k4 k5=>
       exfalso;rcases b.1 with h|h;·exact(k4 h).2 ⟨by rw[a1];exact b.2.1,by rw[e0];exact b.2.1⟩
       .refine k5 h ⟨am,by rw[a1];exact b.2.1,?_⟩;rw[a1,av,al.1];exact ae b.1 b.2.1
      |join k=>grind
      |deny k=>have:=b.1;omega
      |revote k=>omega
      |denied k=>have:=b.1;omega
      |voted _ _ k=>have:=b.1;omega
      |fresh k=>have:=b.1;omega
      |has _ k=>have:=b.1;omega
      |data _ k=>have:=b.1;omega
      |askd _ k=>have:=b.1;omega
     grind
    .
     have a1:(eg (nd x.1.to) x).ls=w:=a1
     have a2:(eg (nd x.1.to) x).hd=(eg (nd x.1.to) x).ck:=a2
     have az:g7 t (ns++D.out) (vM w x.1.to p)\/(nd p).er.at x.1.to.toNat=(nd p).ck:=by
      rcases a3 with h|h;·exact .inl (ad h (fun h2=>E h2.2.2.2.symm))
      .exact .inr h
     have fin:D.ls=w->D.hd=D.ck->((u.ls<w/\g7 t (ns++D.out) fun z=>z.1.kd=4/\z.1.vw=w/\z.1.to=x.1.to)\/(u.ls=w/\g7 t (ns++D.out) (Bo w x.1.to))\/(u.ls=w/\u.hd=u.ck/\(g7 t (ns++D.out) (vM w x.1.to p)\/(nd p).er.at x.1.to.toNat=(nd p).ck))):=fun b1 b2=>by
      have c1:u.ls=D.ls/\u.hd=D.hd/\u.ck=D.ck:=by obtain⟨Q,S,O,-,rfl⟩:=v;exact⟨rfl,rfl,rfl⟩
      grind
     cases y with
     |join k b1 b2=>grind
     |took k b1 b2=>grind
     |same k b1 b2=>exact fin a1 rfl
     |app L' k b1 b2=>exact fin a1 rfl
     |has _ k b1 b2 b3 b4=>
      obtain⟨q,hq,h|⟨hc,r,hr,rfl⟩⟩:=eY b4;·rw[h.1]at fin⊢;exact fin a1 a2
      .obtain⟨f,o,l',e1,e2,-⟩:=eH hr;rw[e1,e2]at fin⊢;exact fin a1 a2
     |data _ k b1 b2 b3=>
      obtain⟨L',q',rfl⟩:=fs b3;grind
     |_=>exact fin a1 a2
   .rw[dl ai];rcases st j F ab with⟨a1,a2⟩|⟨a1,a2⟩|⟨a1,a2,a3⟩;·grind
    .exact .inr (.inl ⟨a1,ad a2 (fun h=>ai h.2.2.symm)⟩)
    .refine .inr (.inr ⟨a1,a2,?_⟩);rcases a3 with a3|a3;·exact .inl (ad a3 (fun h=>E h.2.2.2.symm))
     omega
theorem t9(a:dW t x=false)(b:JG n t w p nd (x::ns)):JG n t w p nd ns:=by
 obtain⟨F,y,E,dv,v,H⟩:=b;refine⟨F,y,E,dv,fun z o=>v z (List.mem_cons_of_mem _ o),fun j f l=>?_⟩;rcases H j f l with⟨a1,a2⟩|⟨a1,a2⟩|⟨a1,a2,a3⟩;·exact .inl ⟨a1,a2.drop a⟩
 .exact .inr (.inl ⟨a1,a2.drop a⟩)
 .exact .inr (.inr ⟨a1,a2,a3.imp (fun h=>h.drop a) id⟩)
structure GQ (n:Nat) (t w p:Int) (nd:fK):Prop where
 pS:dR n t p
 ld:eR (nd p) w
 mb:∀j,dE j->(dg (nd p).mb j=true↔dR n t j)
 dv:∀j,dR n t j->(nd j).dv=w/\(nd j).ls=w
 hd:∀j,dR n t j->j≠p->(nd j).hd=(nd j).ck/\(nd p).er.at j.toNat=(nd p).ck
theorem xc(l:JG n t w p nd []):GQ n t w p nd:=by
 obtain⟨y,f,v,dv,F,E⟩:=l
 have o:∀j,dR n t j->j≠p->(nd j).ls=w/\(nd j).hd=(nd j).ck/\(nd p).er.at j.toNat=(nd p).ck:=fun j a b=>by
  rcases E j a b with⟨-,z,h,-⟩|⟨-,z,h,-⟩|⟨a1,a2,⟨z,h,-⟩|h⟩;·cases h
  .cases h
  .cases h
  omega
 refine⟨y,f,v,fun j a=>⟨dv j a,?_⟩,fun j a b=>(o j a b).2⟩;by_cases h:j=p;·rw[h];exact f.2.1
 grind
end
end Go.Proofs.YtjhbmbbmjaabcaaGreat
