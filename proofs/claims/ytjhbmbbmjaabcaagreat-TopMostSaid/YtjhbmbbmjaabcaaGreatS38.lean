/-
  Contracts. Conditions stand at each.
-/
import Derived.Test.YtjhbmbbmjaabcaaGreatS37
set_option linter.all false
set_option maxRecDepth 8000
set_option maxHeartbeats 8000000
namespace Go.Proofs.YtjhbmbbmjaabcaaGreat
open Go Go.Sort Go.RowKit
section
variable{n:Nat} {g g' g1 g2:Gh} {i d d' t M Y w i0 j0 p q T x0 G:Int} {dv:Int->Int} {B B' K K' R Z:Int} {s s' u s2:dp} {m:dz} {L C D:List dj} {e:dj} {W:eW} {A A':dU} {nd:fK} {ns:Ms} {x:dz×List dj} {U:Int->Prop} {cf c:Int->Int} {r:Nat} {O V X:Prop}
def kw(w j:Int)(x:dz×List dj):Prop:=x.1.kd=5/\x.1.vw=w/\x.1.to=j
def kU(w p:Int)(k:Int)(G j:Int)(x:dz×List dj):Prop:=x.1.kd=6/\x.1.vw=w/\x.1.fr=j/\x.1.to=p/\x.1.po=k/\x.1.nm=G
def J3(w p j num:Int)(x:dz×List dj):Prop:=x.1.kd=8/\x.1.vw=w/\x.1.fr=j/\x.1.to=p/\x.1.nm=num
def xO(w p j num:Int)(x:dz×List dj):Prop:=x.1.kd=9/\x.1.vw=w/\x.1.fr=p/\x.1.to=j/\x.1.nm=num
structure ZB (n:Nat) (t w p:Int) (D:List dj) (nd:fK) (ns:Ms):Prop where
 L:(nd p).L=D
 P:∀j,dR n t j->lD (nd j).P D
 d:∀x∈ns,dW t x=true->x.1.kd=7->lD x.2 D
 ac:∀j,dR n t j->j≠p->dg (nd p).ac j=true
 k4:∀x∈ns,dW t x=true->x.1.kd≠4
def oF(x:dz×List dj):Bool:=decide (x.1.kd=8)
structure ZJ (n:Nat) (t w p:Int) (D:List dj) (O V X:Prop) (G:Int) (nd:fK) (ns:Ms):Prop where
 b:ZB n t w p D nd ns
 q:∃qu,(nd p).q=some qu/\qu.la=G/\G<=qu.pr.getD p.toNat 0/\∀j,dR n t j->j≠p->g7 t ns (kw w j)\/((nd j).L=D/\(g7 t ns (kU w p D.length G j)\/((D.length:Int)<=qu.hv.getD j.toNat 0/\G<=qu.pr.getD j.toNat 0)))
 m5:∀x∈ns,dW t x=true->x.1.kd=5->x.2=D.drop x.1.po.toNat/\x.1.nm=G/\(O->x.1.cm=(D.length:Int))
 zc:(nd p).cm=(D.length:Int)\/∃j,dR n t j/\j≠p/\(g7 t ns (kw w j)\/g7 t ns (kU w p D.length G j))
 zq:(∀y∈(nd p).ak,G<y.pr)\/∃j,dR n t j/\j≠p/\(g7 t ns (kw w j)\/g7 t ns (kU w p D.length G j))
 z3:O->∀j,dR n t j->j≠p->g7 t ns (kw w j)\/(nd j).cm=(D.length:Int)
 zn:((nd p).ak.countP fun y=>decide (y.pr=G+1))+ns.countP oF<=5
 zl:V->(nd p).ak.length+ns.countP oF<=11
 z5:V->∀j,dR n t j->j≠p->∃num,(nd j).f.ask.getLast? =some (num,(nd j).ck)/\QS D.length (nd j).f num (nd j).ck/\(g7 t ns (J3 w p j num)\/(∃y∈(nd p).ak,y.who=j/\y.num=num)\/g7 t ns (xO w p j num)\/FG D.length (nd j).f (nd j).ck)
 z6:X->∀j,dR n t j->j≠p->∃num c,(nd j).ck<=c+1/\(num,c)∈(nd j).f.ask/\QS D.length (nd j).f num c/\((∃y∈(nd p).ak,y.who=j/\y.num=num/\y.pr<=G)\/g7 t ns (xO w p j num)\/FG D.length (nd j).f c)
 z7:∃num,(num,(nd p).ck)∈(nd p).f.ask/\QS D.length (nd p).f num (nd p).ck/\((∃y∈(nd p).ak,y.who=p/\y.num=num/\y.pr<=G)\/FG D.length (nd p).f (nd p).ck)
theorem xS(H:GV n g nd (x::ns))(y:dW t x=true)(a:JG n t w p nd (x::ns))(v:ZB n t w p D nd (x::ns))(hk:p=x.1.to)(F:Hs (eg (nd p) x) x.1 x.2 u):((u.L=(nd p).L/\u.q=(nd p).q/\u.cm=(nd p).cm/\u.ak=(nd p).ak/\u.f=(nd p).f/\u.ac=(nd p).ac)/\¬(x.1.kd=6/\x.1.vw=w)/\¬(x.1.kd=8/\x.1.vw=w/\(nd p).ak.length<64))\/(x.1.kd=6/\x.1.vw=w/\pW (eg (nd p) x) x.1=some u)\/(x.1.kd=8/\x.1.vw=w/\∃qu,(nd p).q=some qu/\u=pi (eg (nd p) x) x.1 qu):=by
 obtain⟨z,y2,y3⟩:=fZ H y
 have l:x∈x::ns:=List.mem_cons_self ..
 have S:=fO H a.pS a.ld
 have N:=iW H a.pS.1.1 a.pS.1.2 x
 have j:eR (eg (nd p) x) w:=a.ld
 have E:=KN N j
 have o:(eg (nd p) x).ls=w:=j.2.1
 have Q:(eg (nd p) x).dv=w:=j.2.2
 have aa:(eg (nd p) x).n=n:=N.nn
 have ab:=v.k4 x l y
 have J:dg (eg (nd p) x).mb x.1.fr=true:=(a.mb _ ⟨z.1.1,by have:=(gT.1 (H.ms x l).may).1;rw[lb]at this;omega⟩).2 z
 have iY:(u.L=(nd p).L/\u.q=(nd p).q/\u.cm=(nd p).cm/\u.ak=(nd p).ak/\u.f=(nd p).f/\u.ac=(nd p).ac)->x.1.kd≠6->x.1.kd≠8->_:=fun h h6 h8=>Or.inl (b:=(x.1.kd=6/\x.1.vw=w/\pW (eg (nd p) x) x.1=some u)\/(x.1.kd=8/\x.1.vw=w/\∃qu,(nd p).q=some qu/\u=pi (eg (nd p) x) x.1 qu)) (⟨h,fun h=>h6 h.1,fun h=>h8 h.1⟩:_/\¬(x.1.kd=6/\x.1.vw=w)/\¬(x.1.kd=8/\x.1.vw=w/\(nd p).ak.length<64))
 cases F with
 |join k h1 h2=>
  have:=(ij H l k).2;have:=a.dv _ z;omega
 |deny k=>exact iY ⟨rfl,rfl,rfl,rfl,rfl,rfl⟩ (by omega) (by omega)
 |revote k=>omega
 |denied k=>exact iY ⟨rfl,rfl,rfl,rfl,rfl,rfl⟩ (by omega) (by omega)
 |voted _ _ k=>exact iY ⟨rfl,rfl,rfl,rfl,rfl,rfl⟩ (by omega) (by omega)
 |took k=>omega
 |same k=>omega
 |app P k h1 h2 h3=>
  grind
 |fresh k h1 h2 h3=>
  grind
 |has _ k h1 h2 h3 h4=>grind
 |data _ k h1 h2 h3=>
  have I:lD x.2 (eg (nd p) x).L:=by have:=v.d x l y k;rw[<-v.L]at this;exact this
  have:=s9 h3 I;rw[this]at iY⊢;exact iY ⟨rfl,rfl,rfl,rfl,rfl,rfl⟩ (by omega) (by omega)
 |askd qu k h1 h2 h3 h4 h5 h6=>exact .inr (.inr ⟨k,h3.trans o,qu,h6,rfl⟩)
 |none k1 k2 k3 k4 k5 k6 k7 k8=>
  refine .inl ⟨⟨rfl,rfl,rfl,rfl,rfl,rfl⟩,fun h=>k6 h.1 ⟨E,j.1,h.2.trans o.symm⟩,fun h=>k8 h.1 ⟨E,j.1,h.2.1.trans o.symm,J,h.2.2⟩⟩
theorem Bc(H:GV n g nd (x::ns))(E:dW t x=true)(b:JG n t w p nd (x::ns))(Q:ZB n t w p D nd (x::ns))(S:p≠x.1.to)(z:(nd x.1.to).ls=w)(P:Hs (eg (nd x.1.to) x) x.1 x.2 u):(x.1.kd=5/\x.1.vw=w/\x.1.fr=p/\∃j,fw (nd x.1.to).L (x.2.drop (wX (nd x.1.to).L.length x.1.po.toNat x.2.length))=some j/\u=gW (pU (eg (nd x.1.to) x) x.1.cm j) (jW (pU (eg (nd x.1.to) x) x.1.cm j) x.1.fr x.1.nm) [])\/(x.1.kd=9/\x.1.vw=w/\x.1.fr=p/\u={eg (nd x.1.to) x with f:=gR (nd x.1.to).f x.1.nm x.1.cm})\/((u.L=(nd x.1.to).L/\u.cm=(nd x.1.to).cm/\u.f=(nd x.1.to).f)/\¬(x.1.kd=5/\x.1.vw=w)/\¬(x.1.kd=9/\x.1.vw=w/\x.1.fr=p)):=by
 obtain⟨y1,l,y3⟩:=fZ H E
 have o:x∈x::ns:=List.mem_cons_self ..
 have v:=fO H b.pS b.ld
 have N:=iW H l.1.1 l.1.2 x
 have aa:(eg (nd x.1.to) x).n=n:=N.nn
 have a:(eg (nd x.1.to) x).ls=w:=z
 have F:(eg (nd x.1.to) x).dv=w:=b.dv _ l
 have ac:=Q.k4 x o E
 have ab:(eg (nd x.1.to) x).mi=false:=xX H b.pS b.ld l z (fun h=>S h.symm)
 have y:eC (eg (nd x.1.to) x)=true:=by
  have:=N.ls;unfold eC;rw[N.kn,N.mem (by omega),a,F];have:=v.2;simp;omega
 have I:x.1.kd=5->x.1.vw=w->x.1.fr=p:=fun h1 h2=>by
  have:=((H.ms x o).k5 h1).1;grind
 have iY:(u.L=(nd x.1.to).L/\u.cm=(nd x.1.to).cm/\u.f=(nd x.1.to).f)->x.1.kd≠5->x.1.kd≠9->(u.L=(nd x.1.to).L/\u.cm=(nd x.1.to).cm/\u.f=(nd x.1.to).f)/\¬(x.1.kd=5/\x.1.vw=w)/\¬(x.1.kd=9/\x.1.vw=w/\x.1.fr=p):=fun h h5 J=>⟨h,fun h=>h5 h.1,fun h=>J h.1⟩
 cases P with
 |join k h1 h2=>
  have:=(ij H o k).2;have:=b.dv _ y1;omega
 |deny k=>exact .inr (.inr (iY ⟨rfl,rfl,rfl⟩ (by omega) (by omega)))
 |revote k=>omega
 |denied k=>exact .inr (.inr (iY ⟨rfl,rfl,rfl⟩ (by omega) (by omega)))
 |voted _ _ k=>exact .inr (.inr (iY ⟨rfl,rfl,rfl⟩ (by omega) (by omega)))
 |took k=>grind
 |same k=>grind
 |app j k h1 h2 h3 h4=>
  have h5:x.1.vw=w:=h2.trans a;exact .inl ⟨k,h5,I k h5,j,h4,rfl⟩
 |fresh k h1 h2 h3=>
  rw[a,aa,v.1]at h3;exact .inr (.inl ⟨k,h2.trans a,h3,rfl⟩)
 |has _ k h1 h2=>grind
 |data _ k h1 h2=>grind
 |askd qu k h1 h2=>grind
 |none k1 k2 k3 k4 k5 k6 k7 k8 k9=>
  refine .inr (.inr ⟨⟨rfl,rfl,rfl⟩,fun h=>k5 h.1 ⟨y,h.2.trans a.symm,?_⟩,fun h=>k9 h.1 ⟨y,h.2.1.trans a.symm,?_⟩⟩);·grind
  grind
end
section
variable{P:dz×List dj->Prop} {k:Ms}
variable{n:Nat} {g Y g1 g2:Gh} {i d d' t M Z w i0 j0 p q T x0 N:Int} {dv:Int->Int} {B B' K K' R R':Int} {s s' u G:dp} {m:dz} {L C D:List dj} {e:dj} {W:eW} {A A':dU} {nd:fK} {ns:Ms} {x:dz×List dj} {U:Int->Prop} {cf c:Int->Int} {r:Nat} {O V X:Prop}
theorem Az{q:lr}{h a:Int}(b:i.toNat<q.pr.length)(f:a<=q.la):a<=(gM q i h a).pr.getD i.toNat 0:=by show a<=(if a<=q.la then q.pr.set i.toNat (ep (q.pr.getD i.toNat 0) a)else q.pr).getD i.toNat 0;grind[ep]
theorem qa(h:∀y∈k,y.1.kd≠8):(ns++k).countP oF=ns.countP oF:=by grind[oF,List.countP_eq_zero]
theorem Hs.kdn(h:Hs s m L s')(a:s.out=[]):∀y∈s'.out,y.1.kd≠4/\y.1.kd≠5/\y.1.kd≠7/\y.1.kd≠8:=fun y b=>by have:=h.kd a b;omega
theorem g7.rest(h:g7 t (x::ns) P):P x\/g7 t (ns++k) P:=by
 obtain⟨z,h1,h2,h3⟩:=h;rcases List.mem_cons.1 h1 with e|h;·grind
 .exact .inr ⟨z,List.mem_append_left _ h,h2,h3⟩
theorem p8(H:GV n g nd (x::ns))(hm:dW t x=true)(b:ZB n t w p D nd (x::ns))(o:Hs (eg (nd x.1.to) x) x.1 x.2 u)(J:Sd u G)(I:p=x.1.to->u.L=(nd p).L)(Q:p=x.1.to->∀j,dE j->dg (nd p).ac j=true->dg u.ac j=true)(hn:3<=n/\n<=5):ZB n t w p D (dO nd x.1.to G) (ns++u.out):=by
 obtain⟨y1,l,y3⟩:=fZ H hm;obtain⟨y,e2,e3,e4,E,e6,e7,e8,-,F⟩:=J.eqs;have hk:=o.kdn (H.out _ l.1.1 l.1.2);refine⟨?_,fun j f=>?_,fun z a h1 h2=>?_,fun j f v=>?_,fun z a h1=>?_⟩
 .by_cases h:p=x.1.to;·have:=I h;rw[h,dc,y];rw[<-b.L,this]
  .rw[dl h];exact b.L
 .by_cases h:j=x.1.to;·rw[h,dc];intro e S;have h1:=F e S;rw[o.kp.P]at h1;exact b.P _ l e h1
  .rw[dl h];exact b.P j f
 .rcases List.mem_append.1 a with a|a;·exact b.d z (List.mem_cons_of_mem _ a) h1 h2
  grind
 .by_cases h:p=x.1.to;·have h1:=Q h j (iG hn f) (b.ac j f v);rw[h,dc,E];exact h1
  .rw[dl h];exact b.ac j f v
 .rcases List.mem_append.1 a with a|a;·exact b.k4 z (List.mem_cons_of_mem _ a) h1
  grind
theorem Jf(a:JG n t w p nd ns)(f:∀x∈ns,dW t x=true->x.1.kd≠4){j:Int}(b:dR n t j):(nd j).ls=w:=by
 by_cases h:j=p;·rw[h];exact a.ld.2.1
 .rcases a.st j b h with⟨-,z,h1,h2,h3,-⟩|⟨h1,-⟩|⟨h1,-⟩;·grind
  .exact h1
  .exact h1
theorem Ay(hn:3<=n/\n<=5)(H:GV n g nd (x::ns))(hm:dW t x=true)(E:JG n t w p nd (x::ns))(hZ:ZJ n t w p D O V X N nd (x::ns))(Q:p≠x.1.to)(hH:Hs (eg (nd x.1.to) x) x.1 x.2 u)(hS:Sd u G)(H':GV n Y (dO nd x.1.to G) (ns++u.out))(ab:JG n t w p (dO nd x.1.to G) (ns++u.out)):ZJ n t w p D O V X N (dO nd x.1.to G) (ns++u.out):=by
 obtain⟨hb,⟨qu,q1,q2,q3,q4⟩,m5,zc,zq,z3,zn,zl,z5,z6,z7⟩:=hZ;obtain⟨y1,l,y3⟩:=fZ H hm;have hx:x∈x::ns:=List.mem_cons_self ..;have aC:(eg (nd x.1.to) x).out=[]:=H.out _ l.1.1 l.1.2;have ao:(eg (nd x.1.to) x).id=x.1.to:=H.id _ l.1.1 l.1.2;obtain⟨e1,e2,e3,e4,e5,e6,e7,e8,-,e9⟩:=hS.eqs;have az:=hH.kdn aC;have ap:dO nd x.1.to G p=nd p:=dl Q;have ah:=Jf E hb.k4 l;have af:=p8 H hm hb hH hS (fun h=>absurd h Q) (fun h=>absurd h Q) hn;have aG:(ns++u.out).countP oF<=(x::ns).countP oF:=by rw[qa (fun y hy=>(az y hy).2.2.2),List.countP_cons];omega
 have ax:G.ck=(nd x.1.to).ck:=by rw[e8];exact hH.kp.ck
 have ai:=(H.pf _ l.1.1 l.1.2).f;have aB:x.1.to≠p:=fun h=>Q h.symm
 have aE:((nd x.1.to).L=D->G.L=D)/\((nd x.1.to).cm=(D.length:Int)->G.cm=(D.length:Int))/\(kw w x.1.to x->G.L=D/\g7 t (ns++u.out) (kU w p D.length N x.1.to)/\(O->G.cm=(D.length:Int)))/\(∀a c,(a,c)∈(nd x.1.to).f.ask->QS D.length (nd x.1.to).f a c->(a,c)∈G.f.ask/\QS D.length G.f a c/\(FG D.length (nd x.1.to).f c->FG D.length G.f c)/\(xO w p x.1.to a x->FG D.length G.f c))/\G.f.ask=(nd x.1.to).f.ask:=by
  rcases Bc H hm E hb Q ah hH with⟨b1,b2,b3,F,b4,S⟩|⟨b1,b2,b3,b4⟩|⟨⟨b1,b2,b3⟩,b4,S⟩
  .
   obtain⟨m1,m2,m3⟩:=m5 x hx hm b1
   have ad:u.L=F:=by rw[S];rfl
   have ae:u.f=(nd x.1.to).f:=by rw[S];rfl
   have aD:u.cm=ep (nd x.1.to).cm (iz x.1.cm (F.length:Int)):=by rw[S];rfl
   have al:=(iT _ _ _ b4).1
   have hX:=H.ms x hx
   have an:=fO H E.pS E.ld
   have aH:x.1.po.toNat<=(nd x.1.to).L.length/\0<=x.1.po:=by
    have h1:=(hX.k5 b1).2.2.1;have h2:=(H.nod _ l.1.1 l.1.2).ak (by omega);rw[H.id _ l.1.1 l.1.2,ah]at h2;rw[b2,h2]at h1;have:=hX.nums;omega
   have am:=H'.nod _ l.1.1 l.1.2
   have aw:=H'.nod p E.pS.1.1 E.pS.1.2
   have aA:=Jf ab af.k4 l
   have aq:G.L<+:D:=by
    have h1:=(am.pre (by omega)).2;rw[aA,dc]at h1;have h2:=(aw.lead (by rw[ab.ld.2.1];exact an.2) (by rw[ab.ld.2.1,an.1];exact(H'.id p E.pS.1.1 E.pS.1.2).symm)).1;rw[ab.ld.2.1,af.L]at h2;rw[<-h2]at h1;exact h1
   have ac:G.L=D:=by
    refine aq.eq_of_length_le ?_;rw[e1,ad,al,m1,List.length_append,List.length_drop,List.length_drop];have h3:(nd x.1.to).L.length<=D.length:=by have:=aq.length_le;rw[e1,ad,al,List.length_append]at this;omega
    unfold wX;omega
   have ay:G.cm<=(G.L.length:Int):=by
    have:=am.cm.2.1;rw[dc]at this;exact this
   rw[ac]at ay
   have av:F=D:=by rw[<-ac,e1,ad]
   refine⟨fun _=>ac,fun h=>?_,fun _=>⟨ac,⟨(dm (pU (eg (nd x.1.to) x) x.1.cm F) (jW (pU (eg (nd x.1.to) x) x.1.cm F) x.1.fr x.1.nm),[]),List.mem_append_right _ ?_,?_,rfl,ah,ao,b3,?_,m2⟩,fun h=>?_⟩,fun a c h1 h2=>?_,by rw[e4,ae]⟩
   .have:=gA (nd x.1.to).cm (iz x.1.cm (F.length:Int));omega
   .rw[S];show _∈(eg (nd x.1.to) x).out++[_];grind
   .unfold dW;show(dg t (eg (nd x.1.to) x).id&&dg t x.1.fr)=true;rw[ao,l.2,y1.2];rfl
   .show(F.length:Int)=(D.length:Int);rw[av]
   .grind[iz,ep]
   .rw[e4,ae];exact⟨h1,h2,id,fun h=>by have:=h.1;omega⟩
  .
   have ad:u.L=(nd x.1.to).L:=by rw[b4];rfl
   have aD:u.cm=(nd x.1.to).cm:=by rw[b4];rfl
   have ae:u.f=gR (nd x.1.to).f x.1.nm x.1.cm:=by rw[b4]
   have ag:x.1.cm<=(D.length:Int):=by
    have:=E.k9 x hx hm b1;rw[hb.L]at this;exact this
   have aF:(gR (nd x.1.to).f x.1.nm x.1.cm).ask=(nd x.1.to).f.ask:=by
    rcases qh (nd x.1.to).f x.1.nm x.1.cm with e|⟨q,-,-,-,e⟩<;>rw[e]
   refine⟨fun h=>by grind,fun h=>by omega,fun h=>by have:=h.1;omega,fun a c h1 h2=>?_,by grind⟩
   rw[e4,ae]
   obtain⟨I,J⟩:=DO (num':=x.1.nm) ai h1 h2 ag
   refine⟨J,I,fun h=>DL ai h ag,fun h=>?_⟩
   have:=zv ai h1 h2 ag
   rw[h.2.2.2.2]
   exact this
  .refine⟨fun h=>by grind,fun h=>by omega,fun h=>absurd ⟨h.1,h.2.1⟩ b4,fun a c h1 h2=>?_,by rw[e4,b3]⟩;rw[e4,b3];exact⟨h1,h2,id,fun h=>absurd ⟨h.1,h.2.1,h.2.2.1⟩ S⟩
 obtain⟨kL,kc,k5,kf,ka⟩:=aE;have aj:∀j,j≠x.1.to->¬kw w j x:=fun j h h2=>h h2.2.2.symm;have ar:∀j,¬kU w p D.length N j x:=fun j h=>Q h.2.2.2.1.symm
 have aI:∀j,dR n t j->j≠p->(g7 t (x::ns) (kw w j)\/g7 t (x::ns) (kU w p D.length N j))->(g7 t (ns++u.out) (kw w j)\/g7 t (ns++u.out) (kU w p D.length N j)):=fun j o aB h=>by
  rcases h with h|h
  .rcases h.rest (k:=u.out)with h|h;·grind
   grind
  .exact .inr (h.tail (ar j))
 refine⟨af,⟨qu,by grind,q2,q3,fun j o v=>?_⟩,fun z hz h1 h2=>?_,?_,?_,fun h j o v=>?_,by grind,fun h=>by grind,fun h j o v=>?_,fun h j o v=>?_,?_⟩
 .by_cases b:j=x.1.to
  .rw[b,dc];rw[b]at o v;rcases q4 x.1.to o v with h|⟨h1,h2⟩
   .rcases h.rest (k:=u.out)with h|h;·grind
    grind
   grind
  .rw[dl b];rcases q4 j o v with h|⟨h1,h2⟩;·exact .inl (h.tail (aj j b))
   grind
 .grind
 .grind
 .grind
 .by_cases b:j=x.1.to
  .rw[b,dc];rw[b]at o v;rcases z3 h _ o v with h2|h2
   .rcases h2.rest (k:=u.out)with h2|h2;·grind
    grind
   omega
  .rw[dl b];rcases z3 h j o v with h2|h2;·exact .inl (h2.tail (aj j b))
   omega
 .rw[ap];obtain⟨a,I,J,c3⟩:=z5 h j o v
  have au:g7 t (ns++u.out) (J3 w p j a)\/(∃y∈(nd p).ak,y.who=j/\y.num=a)\/(xO w p j a x)\/g7 t (ns++u.out) (xO w p j a)\/FG D.length (nd j).f (nd j).ck:=by
   rcases c3 with h|h|h|h;·exact .inl (h.tail (fun h2=>Q h2.2.2.2.1.symm))
   .grind
   .rcases h.rest (k:=u.out)with h|h;·grind
    grind
   .grind
  by_cases b:j=x.1.to;·grind[dc,List.mem_of_getLast?]
  .rw[dl b];refine⟨a,I,J,?_⟩;rcases au with h|h|h|h|h;·exact .inl h
   .grind
   .exact absurd h.2.2.2.1.symm b
   .grind
   grind
 .rw[ap];obtain⟨a,c,c0,I,J,c3⟩:=z6 h j o v;by_cases b:j=x.1.to
  .rw[b]at c0 I J c3⊢;rw[dc,ax];obtain⟨f1,f2,f3,f4⟩:=kf a c I J;refine⟨a,c,c0,f1,f2,?_⟩;rcases c3 with h|h|h;·exact .inl h
   .rcases h.rest (k:=u.out)with h|h;·grind
    grind
   grind
  .rw[dl b];refine⟨a,c,c0,I,J,?_⟩;rcases c3 with h|h|h;·exact .inl h
   .exact .inr (.inl (h.tail (fun h2=>b h2.2.2.2.1.symm)))
   grind
 grind
end
section
variable{n:Nat} {g g' Z O:Gh} {i d d' t M M' w i0 j0 p q T x0 N:Int} {dv:Int->Int} {B B' K K' R R':Int} {s s' G D:dp} {m:dz} {L C u:List dj} {e:dj} {W:eW} {A A':dU} {nd:fK} {ns:Ms} {x:dz×List dj} {U:Int->Prop} {cf c:Int->Int} {r:Nat} {V X Y:Prop}
theorem JH(hn:3<=n/\n<=5)(hs:jx n t)(H:GV n g nd (x::ns))(hm:dW t x=true)(S:JG n t w p nd (x::ns))(hZ:ZJ n t w p u V X Y N nd (x::ns))(hk:p=x.1.to)(h6:x.1.kd=6)(aR:x.1.vw=w)(hO:pW (eg (nd p) x) x.1=some G)(hH:Hs (eg (nd x.1.to) x) x.1 x.2 G)(hS:Sd G D)(H':GV n g' (dO nd x.1.to D) (ns++G.out)):ZJ n t w p u V X Y N (dO nd x.1.to D) (ns++G.out):=by
 obtain⟨hb,⟨qu,q1,q2,q3,q4⟩,m5,zc,zq,z3,zn,zl,z5,z6,z7⟩:=hZ;obtain⟨y1,y2,y3⟩:=fZ H hm;have hx:x∈x::ns:=List.mem_cons_self ..;have J:=S.pS;have az:(eg (nd x.1.to) x).out=[]:=H.out _ y2.1.1 y2.1.2;obtain⟨e1,e2,e3,e4,e5,e6,e7,e8,aI,e9⟩:=hS.eqs;have ay:=hH.kdn az;have ar:=H.nod p J.1.1 J.1.2;obtain⟨qN,r1,r2,r3,r4,r5,r6,r7⟩:=ar.q S.ld.1;rw[q1]at r1;cases r1;obtain⟨qO,o1,an⟩:=eY hO;have o1:(nd p).q=some qO:=o1;rw[q1]at o1;cases o1;have ad:(nd p).id=p:=H.id p J.1.1 J.1.2;have ag:=iG hn y1;obtain⟨l,P⟩:∃l,l=gM qu x.1.fr x.1.po x.1.nm:=⟨_,rfl⟩;have ao:l.n=n:=by rw[P];exact r2
 have aD:l.la=N:=by rw[P];exact q2
 have aC:l.hv.length=8:=by rw[P];show(qu.hv.set _ _).length=8;rw[List.length_set];exact r5
 have aE:l.pr.length=8:=by
  rw[P];show(if x.1.nm<=qu.la then qu.pr.set x.1.fr.toNat (ep (qu.pr.getD x.1.fr.toNat 0) x.1.nm)else qu.pr).length=8;split;·grind
  .exact r6
 have aO:∀j:Int,qu.hv.getD j.toNat 0<=l.hv.getD j.toNat 0/\qu.pr.getD j.toNat 0<=l.pr.getD j.toNat 0:=fun j=>by rw[P];exact⟨qz,C3⟩
 have aQ:∀j,kU w p u.length N j x->(u.length:Int)<=l.hv.getD j.toNat 0/\N<=l.pr.getD j.toNat 0:=fun j h=>by obtain⟨b1,b2,b3,b4,b5,b6⟩:=h;rw[P,<-b3,<-b5];refine⟨ub (by rw[r5];unfold dE at ag;omega),?_⟩;rw[<-b6];exact Az (by rw[r6];unfold dE at ag;omega) (by omega)
 have af:(nd p).L=u:=hb.L
 have aw:G.L=(nd p).L/\G.q=some l/\G.cm=ep (nd p).cm (iz (eZ l.hv l.n) ((nd p).L.length:Int))/\G.ac=fC (nd p).ac x.1.fr/\G.st=(nd p).st:=by
  rcases an with h|⟨hc,r,hr,rfl⟩;·rw[h.1,P];exact⟨rfl,rfl,rfl,rfl,rfl⟩
  .obtain⟨f,o,l',f1,f2,-⟩:=eH hr;rw[f1,P];exact⟨rfl,rfl,rfl,rfl,rfl⟩
 obtain⟨c1,c2,c3,c4,c5⟩:=aw;have am:D.cm<=(u.length:Int):=by have:=(H'.nod _ y2.1.1 y2.1.2).cm.2.1;rw[dc,e1,c1,af]at this;exact this
 have ae:dO nd x.1.to D p=D:=by rw[hk,dc]
 have ah:∀j,j≠p->dO nd x.1.to D j=nd j:=fun j h=>dl (by omega);have au:=p8 H hm hb hH hS (fun _=>c1) (fun _ j v h=>by rw[c4,tu v ag,h];rfl) hn
 have aK:(ns++G.out).countP oF=(x::ns).countP oF:=by
  rw[qa (fun y I=>(ay y I).2.2.2),List.countP_cons];have:oF x=false:=by unfold oF;simp;omega
  rw[this];simp
 have ai:∀j,¬kw w j x:=fun j h=>by have:=h.1;omega
 have aS:∀j,dR n t j->j≠p->g7 t (ns++G.out) (kw w j)\/((nd j).L=u/\(g7 t (ns++G.out) (kU w p u.length N j)\/((u.length:Int)<=l.hv.getD j.toNat 0/\N<=l.pr.getD j.toNat 0))):=fun j v F=>by
  rcases q4 j v F with h|⟨h1,h⟩;·exact .inl (h.tail (ai j))
  .refine .inr ⟨h1,?_⟩;rcases h with h|⟨h2,h3⟩
   .rcases h.rest (k:=G.out)with h|h;·grind
    grind
   grind
 obtain⟨qv,v1,v2,v3,v4⟩:=(H.pf p J.1.1 J.1.2).hv S.ld.1;rw[q1]at v1;cases v1;rw[af]at v2 v3
 have ax:¬(∃j,dR n t j/\j≠p/\(g7 t (ns++G.out) (kw w j)\/g7 t (ns++G.out) (kU w p u.length N j)))->D.cm=(u.length:Int)/\N<=eZ l.pr l.n:=fun aP=>by
  have al:∀j,dE j->dg t j=true->(u.length:Int)<=l.hv.getD j.toNat 0/\N<=l.pr.getD j.toNat 0:=fun j v ht=>by
   have aM:dR n t j:=⟨⟨v.1,hs.le j v ht⟩,ht⟩;by_cases e:j=p;·grind
   grind
  have h1:=rz hn aC hs.is hs.most (x:=(u.length:Int)) (fun j v ht=>(al j v ht).1);have h2:=rz hn aE hs.is hs.most (x:=N) (fun j v ht=>(al j v ht).2);rw[ao];refine⟨?_,h2⟩;rw[e2,c3,af,ao]at am⊢;have h3:iz (eZ l.hv (n:Int)) (u.length:Int)=(u.length:Int):=by unfold iz;omega
  rw[h3]at am⊢;have h4:(u.length:Int)<=ep (nd p).cm (u.length:Int):=by unfold ep;omega
  omega
 have av:D.ck=(nd p).ck:=by rw[e8,hH.kp.ck,hk];rfl
 have aB:=(H.pf p J.1.1 J.1.2).f
 have aF:(∀y∈D.ak,y∈(nd p).ak)/\D.ak.Sublist (nd p).ak/\((D.cm=(u.length:Int)/\N<=eZ l.pr l.n)->∀y∈D.ak,N<y.pr)/\(∀y∈(nd p).ak,y.who≠p->y∈D.ak\/(dm (nd p) (fV G y),([]:List dj))∈ns++G.out)/\(∀E c,(E,c)∈(nd p).f.ask->QS u.length (nd p).f E c->(E,c)∈D.f.ask/\QS u.length D.f E c/\(FG u.length (nd p).f c->FG u.length D.f c)/\∀y∈(nd p).ak,y.who=p->y.num=E->y∈D.ak\/FG u.length D.f c):=by
  rcases an with⟨h1,h2⟩|⟨hc,r,hr,ap⟩
  .have ak:D.ak=(nd p).ak:=by rw[e7,h1];rfl
   have hf:D.f=(nd p).f:=by rw[e4,h1];rfl
   grind
  .have lj:(ji (eg (nd p) x) x.1 qu).q=some l:=by rw[P];rfl
   have aJ:(ji (eg (nd p) x) x.1 qu).cm=D.cm:=by obtain⟨f,o,l',f1,f2,-⟩:=eH hr;grind
   have aG:=eH hr;have aA:=fun E c (a:(E,c)∈(nd p).f.ask) (b:QS u.length (nd p).f E c)=>nG (k:=u.length) (num:=E) (c:=c) hr lj aB (by grind) a b;have aN:=fun y (I:y∈(nd p).ak) hl=>l8 hr lj y I hl;obtain⟨f,o,l',f1,f2,f3,f4,f5,f6,f7,f8,f9⟩:=aG;have ak:D.ak=r.2:=by rw[e7,ap]
   have hf:D.f=r.1.f:=by rw[e4,ap]
   have aq:r.2=l':=by rw[f2];rfl
   have aj:l'.Sublist (nd p).ak:=f3;rw[ak,aq,hf];refine⟨fun y I=>aj.subset I,aj,fun h y I=>?_,fun y I hw=>?_,fun E c a b=>?_⟩;·grind
   .rcases f5 l lj y I with h|h|h;·grind
    .exact absurd (h.trans ad) hw
    grind[dm,fV,ji,eg]
   .obtain⟨⟨Z,O⟩,g3,g4⟩:=aA E c a b;refine⟨O,Z,g3,fun y I hw hn=>?_⟩;by_cases hl:eZ l.pr l.n<y.pr;·grind
    .exact .inr (g4 ⟨y,I,hw.trans ad.symm,hn,hl⟩)
 obtain⟨k1,k2,k3,k4,k5⟩:=aF
 have aL:∀y∈(nd p).ak,dR n t y.who->y.who≠p->y∈D.ak\/g7 t (ns++G.out) (xO w p y.who y.num):=fun y I aH F=>by
  rcases k4 y I F with h|h;·exact .inl h
  .refine .inr ⟨_,h,?_,rfl,?_,ad,rfl,rfl⟩;·unfold dW;show(dg t (nd p).id&&dg t y.who)=true;rw[ad,J.2,aH.2];rfl
   .show G.ls=w;have h1:G.ls=D.ls:=by obtain⟨TT,tm,g2,-,rfl⟩:=hS;rfl
    rw[h1];rcases jr (s:=eg (nd x.1.to) x) (by rw[hk]at S;exact S.ld) hH hS with h|⟨h,-⟩;·have h2:=nK H hm hH hS (M:=w) (fun j v=>by have:=S.dv j v;omega) x.1.to y2;grind
    .exact h.2.1
 refine⟨au,⟨l,by grind,aD,by grind,fun j v F=>by grind⟩,fun z hz h1 h2=>?_,?_,?_,fun h j v F=>?_,?_,fun h=>?_,fun h j v F=>?_,fun h j v F=>?_,?_⟩;·grind
 .grind
 .rw[ae];by_cases hp:∃j,dR n t j/\j≠p/\(g7 t (ns++G.out) (kw w j)\/g7 t (ns++G.out) (kU w p u.length N j));·exact .inr hp
  .exact .inl (k3 (ax hp))
 .rw[ah j F];exact(z3 h j v F).imp (fun h=>h.tail (ai j)) id
 .grind
 .grind
 .rw[ae,ah j F];obtain⟨E,d1,d2,d3⟩:=z5 h j v F;refine⟨E,d1,d2,?_⟩;rcases d3 with h|⟨y,h1,h2,h3⟩|h|h;·exact .inl (h.tail (fun h2=>by have:=h2.1;omega))
  .grind
  .exact .inr (.inr (.inl (h.tail (fun h2=>by have:=h2.1;omega))))
  grind
 .rw[ae,ah j F];obtain⟨E,c,d0,d1,d2,d3⟩:=z6 h j v F;refine⟨E,c,d0,d1,d2,?_⟩;rcases d3 with⟨y,h1,h2,h3,h4⟩|h|h;·grind
  .exact .inr (.inl (h.tail (fun h2=>by have:=h2.1;omega)))
  grind
 .rw[ae,av];obtain⟨E,d1,d2,d3⟩:=z7;obtain⟨f1,f2,f3,f4⟩:=k5 E _ d1 d2;refine⟨E,f1,f2,?_⟩;grind
end
section
variable{n:Nat} {g Y g1 g2:Gh} {i d d' t M Z w i0 j0 p q T x0 G:Int} {dv:Int->Int} {B B' K K' R R':Int} {s s' u N:dp} {m:dz} {L C D:List dj} {e:dj} {W:eW} {A A':dU} {nd:fK} {ns:Ms} {x:dz×List dj} {U:Int->Prop} {cf c:Int->Int} {r:Nat} {O V X:Prop}
theorem GU(hn:3<=n/\n<=5)(hs:jx n t)(H:GV n g nd (x::ns))(hm:dW t x=true)(hJ:JG n t w p nd (x::ns))(hZ:ZJ n t w p D O V X G nd (x::ns))(Q:Hs (eg (nd x.1.to) x) x.1 x.2 u)(hS:Sd u N)(H':GV n Y (dO nd x.1.to N) (ns++u.out))(ao:JG n t w p (dO nd x.1.to N) (ns++u.out)):ZJ n t w p D O V X G (dO nd x.1.to N) (ns++u.out):=by
 by_cases ah:p≠x.1.to;·grind[Ay]
 have P:p=x.1.to:=Classical.not_not.1 ah;have af:Hs (eg (nd p) x) x.1 x.2 u:=by rw[P];exact Q
 have ap:=hZ;obtain⟨hb,⟨qu,q1,q2,q3,q4⟩,m5,zc,zq,z3,zn,zl,z5,z6,z7⟩:=hZ;obtain⟨y1,y2,y3⟩:=fZ H hm;have hx:x∈x::ns:=List.mem_cons_self ..;have aj:(eg (nd x.1.to) x).out=[]:=H.out _ y2.1.1 y2.1.2;obtain⟨e1,e2,e3,e4,e5,e6,e7,e8,an,e9⟩:=hS.eqs;have ai:=Q.kdn aj;have aa:dO nd x.1.to N p=N:=by rw[P,dc]
 have o:∀j,j≠p->dO nd x.1.to N j=nd j:=fun j h=>dl (by omega);have aq:N.ck=(nd p).ck:=by rw[e8,Q.kp.ck,P];rfl
 have J:∀j,j≠p->¬kw w j x:=fun j h h2=>h (by rw[P];exact h2.2.2.symm);have S:∀j l,j≠p->¬xO w p j l x:=fun j l h h2=>h (by rw[P];exact h2.2.2.2.1.symm);have ae:∀z∈ns++u.out,dW t z=true->z.1.kd=5->z.2=D.drop z.1.po.toNat/\z.1.nm=G/\(O->z.1.cm=(D.length:Int)):=fun z hz h1 h2=>by grind
 rcases xS H hm hJ hb P af with⟨⟨b1,b2,b3,b4,b5,b6⟩,n6,n8⟩|⟨h6,al,hO⟩|⟨h8,al,ar,c1,v⟩
 .
  have ad:=p8 H hm hb Q hS (fun _=>b1) (fun _ j _ h=>by grind) hn
  have ag:(ns++u.out).countP oF<=(x::ns).countP oF:=by
   rw[qa (fun y hy=>(ai y hy).2.2.2),List.countP_cons];omega
  have ab:∀j,¬kU w p D.length G j x:=fun j h=>n6 ⟨h.1,h.2.1⟩
  have am:∀j,j≠p->(g7 t (x::ns) (kw w j)\/g7 t (x::ns) (kU w p D.length G j))->(g7 t (ns++u.out) (kw w j)\/g7 t (ns++u.out) (kU w p D.length G j)):=fun j a h=>h.imp (fun h=>h.tail (J j a)) (fun h=>h.tail (ab j))
  refine⟨ad,⟨qu,by grind,q2,q3,fun j b a=>?_⟩,ae,?_,?_,fun h j b a=>?_,by grind,fun h=>by grind,fun h j b a=>?_,fun h j b a=>?_,by grind⟩
  .rw[o j a];rcases q4 j b a with h|⟨h1,h⟩;·exact .inl (h.tail (J j a))
   grind
  .grind
  .grind
  .rw[o j a];exact(z3 h j b a).imp (fun h=>h.tail (J j a)) id
  .rw[aa,o j a,e7,b4];obtain⟨l,E,F,I⟩:=z5 h j b a;refine⟨l,E,F,?_⟩;rcases I with h2|h2|h2|h2;·refine .inl (h2.tail (fun h3=>n8 ⟨h3.1,h3.2.1,?_⟩));grind
   .grind
   .exact .inr (.inr (.inl (h2.tail (S j l a))))
   grind
  .rw[aa,o j a,e7,b4];obtain⟨l,c,d0,E,F,I⟩:=z6 h j b a;refine⟨l,c,d0,E,F,?_⟩;rcases I with h2|h2|h2;·exact .inl h2
   .exact .inr (.inl (h2.tail (S j l a)))
   grind
 .grind[JH]
 .
  rw[q1]at c1
  cases c1
  have b1:u.L=(nd p).L:=by rw[v];rfl
  have b2:u.q=(nd p).q:=by rw[v];rfl
  have b3:u.cm=(nd p).cm:=by rw[v];rfl
  have b4:u.ak=(nd p).ak++[⟨x.1.fr,x.1.nm,G+1⟩]:=by rw[v,<-q2];rfl
  have b5:u.f=(nd p).f:=by rw[v];rfl
  have b6:u.ac=(nd p).ac:=by rw[v];rfl
  have b7:u.out=[]:=by rw[v];exact H.out p hJ.pS.1.1 hJ.pS.1.2
  have ad:=p8 H hm hb Q hS (fun _=>b1) (fun _ j _ h=>by grind) hn
  have ag:(ns++u.out).countP oF+1=(x::ns).countP oF:=by
   have h5:oF x=true:=by unfold oF;exact decide_eq_true h8
   rw[b7,List.append_nil,List.countP_cons,h5];simp
  have ab:∀j,¬kU w p D.length G j x:=fun j h=>by have:=h.1;omega
  have am:∀j,j≠p->(g7 t (x::ns) (kw w j)\/g7 t (x::ns) (kU w p D.length G j))->(g7 t (ns++u.out) (kw w j)\/g7 t (ns++u.out) (kU w p D.length G j)):=fun j a h=>h.imp (fun h=>h.tail (J j a)) (fun h=>h.tail (ab j))
  refine⟨ad,⟨qu,by grind,q2,q3,fun j b a=>?_⟩,ae,?_,?_,fun h j b a=>?_,?_,fun h=>?_,fun h j b a=>?_,fun h j b a=>?_,?_⟩
  .rw[o j a];rcases q4 j b a with h|⟨h1,h⟩;·exact .inl (h.tail (J j a))
   grind
  .grind
  .grind
  .rw[o j a];exact(z3 h j b a).imp (fun h=>h.tail (J j a)) id
  .grind
  .grind
  .rw[aa,o j a,e7,b4];obtain⟨l,E,F,I⟩:=z5 h j b a;refine⟨l,E,F,?_⟩;rcases I with h2|⟨y,h2,h3⟩|h2|h2
   .rcases h2.rest (k:=u.out)with h2|h2;·exact .inr (.inl ⟨_,List.mem_append_right _ (List.mem_singleton.2 rfl),h2.2.2.1,h2.2.2.2.2⟩)
    grind
   .grind
   .exact .inr (.inr (.inl (h2.tail (S j l a))))
   grind
  .rw[aa,o j a,e7,b4];obtain⟨l,c,d0,E,F,I⟩:=z6 h j b a;refine⟨l,c,d0,E,F,?_⟩;rcases I with⟨y,h2,h3⟩|h2|h2;·grind
   .exact .inr (.inl (h2.tail (S j l a)))
   grind
  grind
theorem GS(a:dW t x=false)(I:ZJ n t w p D O V X G nd (x::ns)):ZJ n t w p D O V X G nd ns:=by
 obtain⟨⟨b1,b2,b3,b4,F⟩,⟨qu,P,Q,S,q4⟩,J,zc,zq,z3,zn,zl,z5,z6,z7⟩:=I;have hc:ns.countP oF<=(x::ns).countP oF:=by rw[List.countP_cons];omega
 have E:∀j,(g7 t (x::ns) (kw w j)\/g7 t (x::ns) (kU w p D.length G j))->(g7 t ns (kw w j)\/g7 t ns (kU w p D.length G j)):=fun j h=>h.imp (fun h=>h.drop a) (fun h=>h.drop a);refine⟨⟨b1,b2,fun z k=>b3 z (List.mem_cons_of_mem _ k),b4,fun z k=>F z (List.mem_cons_of_mem _ k)⟩,⟨qu,P,Q,S,fun j b f=>?_⟩,fun z k=>J z (List.mem_cons_of_mem _ k),zc.imp id (fun⟨j,j1,j2,j3⟩=>⟨j,j1,j2,E j j3⟩),zq.imp id (fun⟨j,j1,j2,j3⟩=>⟨j,j1,j2,E j j3⟩),fun h j b f=>(z3 h j b f).imp (fun h=>h.drop a) id,by omega,fun h=>by grind,fun h j b f=>?_,fun h j b f=>?_,z7⟩;·exact(q4 j b f).imp (fun h=>h.drop a) (fun⟨h1,h⟩=>⟨h1,h.imp (fun h=>h.drop a) id⟩)
 .obtain⟨y,l,o,v⟩:=z5 h j b f;exact⟨y,l,o,v.imp (fun h=>h.drop a) (fun h=>h.imp id (fun h=>h.imp (fun h=>h.drop a) id))⟩
 .obtain⟨y,c,H,l,o,v⟩:=z6 h j b f;exact⟨y,c,H,l,o,v.imp id (fun h=>h.imp (fun h=>h.drop a) id)⟩
end
section
variable{k:Int}
variable{n:Nat} {g g' g1 g2:Gh} {i d d' t M M' w Y j0 p q T x0 V:Int} {dv:Int->Int} {B B' K K' R R':Int} {s s' Z D:dp} {m:dz} {L C u:List dj} {e:dj} {W:eW} {A A':dU} {nd:fK} {ns:Ms} {x:dz×List dj} {U:Int->Prop} {cf c:Int->Int} {r:Nat} {O G X:Prop}
theorem nu{k:Ms}(h:∀y∈k,y.1.kd≠8):k.countP oF=0:=by grind[oF]
theorem zh:(mB s).out.countP oF<=1:=by
 show((dm s (iU s (s.f.nm+1)),[])::if s.P=[]then []else [(dm s (fA s),s.P)]).countP oF<=1;rw[List.countP_cons]
 have:(if s.P=[]then []else [(dm s (fA s),s.P)]:Ms).countP oF=0:=by
  split;·rfl
  .rfl
 grind
theorem Ts.c8(h:Ts s s')(l:s.out=[]):s'.out.countP oF<=1:=by
 have f:∀(a:dp) (w:Int),(jc a w).out.countP oF<=1:=fun a w=>by
  rw[nu (fun y b=>by
   obtain⟨j,-,h⟩:=List.mem_flatMap.1 b
   rw[fq,List.mem_singleton]at h
   rw[h]
   show(1:Int)≠8
   decide)]
  omega
 cases h with
 |inst vw vs=>
  rw[nu (fun y b=>by
   obtain⟨j,-,h⟩:=List.mem_flatMap.1 b
   rw[fH,List.mem_singleton]at h
   rw[h]
   show(4:Int)≠8
   decide)]
  omega
 |again w=>exact f _ _
 |gath vw vs=>
  rw[nu (fun y b=>by
   obtain⟨j,-,h⟩:=List.mem_flatMap.1 b;split at h;·cases h
   .rw[fq,List.mem_singleton]at h;rw[h];show(1:Int)≠8
    decide)]
  omega
 |silent Z w=>exact f _ _
 |dec Z q=>
  rw[nu (fun y b=>by
   obtain⟨j,-,-,-,-,h|h⟩:=vC b;·rw[h.2];show(5:Int)≠8;decide
   .rw[h.2];show(4:Int)≠8
    decide)]
  omega
 |late w=>exact f _ _
 |ask=>exact zh
 |idle=>grind
structure ZI (n:Nat) (t w p:Int) (u:List dj) (O G X:Prop) (k:Int) (nd:fK) (ns:Ms):Prop where
 b:ZB n t w p u nd ns
 m:∀x∈ns,dW t x=true->x.1.kd=5->p<k
 Y:k<=p->(O->(nd p).cm=(u.length:Int))/\(G->(nd p).ak.length<=5)
 i1:p<k->∃qu,(nd p).q=some qu/\qu.la<=qu.pr.getD p.toNat 0/\(∀x∈ns,dW t x=true->x.1.kd=5->x.2=u.drop x.1.po.toNat/\x.1.nm=qu.la/\(O->x.1.cm=(u.length:Int)))/\(∀j,dR n t j->j≠p->g7 t ns (kw w j))/\(∀y∈(nd p).ak,y.pr<=qu.la)/\(G->(nd p).ak.length<=6)/\∃num,(num,(nd p).ck)∈(nd p).f.ask/\QS u.length (nd p).f num (nd p).ck/\∃y∈(nd p).ak,y.who=p/\y.num=num/\y.pr<=qu.la
 cn:(ns.countP oF:Int)<=k-1
 i5:G->∀j,dR n t j->j≠p->j<k->∃num,(nd j).f.ask.getLast? =some (num,(nd j).ck)/\QS u.length (nd j).f num (nd j).ck/\g7 t ns (J3 w p j num)
 i6:X->∀j,dR n t j->j≠p->∃num c,((k<=j/\(nd j).ck=c/\(nd j).f.ask.getLast? =some (num,c))\/(j<k/\(nd j).ck<=c+1/\(num,c)∈(nd j).f.ask))/\QS u.length (nd j).f num c/\((∃y∈(nd p).ak,y.who=j/\y.num=num)\/FG u.length (nd j).f c)
theorem Ld(hn:3<=n/\n<=5){a:dp}{b:lr}(H:GV n g nd ns)(E:wU n t w p p True nd ns)(hZ:ZI n t w p u O G X p nd ns)(h1:dt ip (ei (nd p)).P (ei (nd p))=some a)(h2:a.q=some b)(hS:Sd (ko a b) D):ZI n t w p u O G X (p+1) (dO nd p D) (ns++(ko a b).out):=by
 obtain⟨⟨S,bP,bd,ba,b4⟩,m,Y,i1,cn,i5,i6⟩:=hZ;have o:=E.pS;have N:=eK H o.1.1 o.1.2;have ab:(ei (nd p)).id=p:=H.id p o.1.1 o.1.2;have aj:=fun j (v:dR n t j) l=>(wF hn N E.ld ab o E.mb h1 h2 v l).2 (ba j v l)
 have ha:a=ei (nd p):=qA h1 (by
  have:=bP p o;rw[<-S]at this
  exact this)
 subst ha;obtain⟨e1,e2,e3,e4,e5,e6,Q,e8,al,e9⟩:=hS.eqs;have af:∀j,j≠p->dO nd p D j=nd j:=fun j h=>dl h
 have ah:∀x∈(ko (ei (nd p)) b).out,x.1.kd=5/\x.2=u.drop x.1.po.toNat/\x.1.nm=b.la+1/\x.1.cm=(nd p).cm:=fun x hx=>by
  obtain⟨j,j1,j2,j3,j4,h|h⟩:=vC hx;·rw[h.2];refine⟨rfl,?_,rfl,rfl⟩;show(nd p).L.drop (fy (eV b) j).toNat=_;rw[S];rfl
  .exfalso;have:=ba j ((E.mb j j1).1 j2) (by omega);rw[show(ei (nd p)).ac=(nd p).ac from rfl,this]at h;cases h.1
 obtain⟨qN,r1,r2,r3,r4,r5,r6,r7⟩:=N.q E.ld.1;have ae:(nd p).q=some b:=h2;have ag:(nd p).q=some qN:=r1;rw[ae]at ag;cases ag;obtain⟨qv,v1,v2,v3,v4⟩:=(H.pf p o.1.1 o.1.2).hv E.ld.1;rw[ae]at v1;cases v1;have ai:=(H.pf p o.1.1 o.1.2).f;have Y:=Y (Int.le_refl _);refine⟨⟨by rw[dc,e1];exact S,fun j v=>?_,fun z F h3 h4=>?_,fun j v l=>by rw[dc,e5];exact ba j v l,fun z F h3=>?_⟩,fun z F h3 h4=>by omega,fun h=>by omega,fun _=>?_,?_,fun h j v l am=>?_,fun h j v l=>?_⟩
 .by_cases ej:j=p;·rw[ej,dc];intro e he;exact bP p o e (e9 e he)
  grind
 .grind
 .grind
 .rw[dc];refine⟨eV b,by rw[e3];rfl,?_,fun z F h3 h4=>?_,fun j v l=>?_,fun y hy=>?_,fun h=>?_,(nd p).f.nm+1,?_,?_,⟨p,(nd p).f.nm+1,b.la+1⟩,?_,rfl,rfl,Int.le_refl _⟩;·show b.la+1<=(b.pr.set b.me.toNat (b.la+1)).getD p.toNat 0;rw[r4,ab,List.getD_eq_getElem?_getD,List.getElem?_set_self (by rw[r6];have:=o.1;omega)];grind
  .rcases List.mem_append.1 F with F|F;·grind
   .obtain⟨c1,I,J,c4⟩:=ah z F;exact⟨I,J,fun h=>by grind⟩
  .obtain⟨z,z1,z2,z3⟩:=aj j v l;refine⟨z,List.mem_append_right _ z1,z2,?_⟩;rw[z3];exact⟨rfl,E.ld.2.1,rfl⟩
  .rw[Q]at hy;have hy:y∈(nd p).ak++[⟨(nd p).id,(nd p).f.nm+1,b.la+1⟩]:=hy;show y.pr<=b.la+1;grind
  .rw[Q];show((nd p).ak++[_]).length<=6;grind
  .rw[e4,e8];exact(zb (nd p).f ((nd p).ck+1)).1
  .rw[e4,e8];exact CV (k:=u.length) (c:=(nd p).ck+1) ai
  .rw[Q];show _∈(nd p).ak++[⟨(nd p).id,(nd p).f.nm+1,b.la+1⟩];have:(nd p).id=p:=ab;grind
 .grind[qa]
 .rw[af j l];obtain⟨ad,c1,I,J⟩:=i5 h j v l (by omega);exact⟨ad,c1,I,J.left⟩
 .rw[af j l,dc,Q];obtain⟨ad,c,c1,I,J⟩:=i6 h j v l;refine⟨ad,c,?_,I,J.imp (fun⟨y,y1,y2⟩=>⟨y,List.mem_append_left _ y1,y2⟩) id⟩;grind
theorem K8(hn:3<=n/\n<=5)(a:dR n t k)(hk:k≠p)(H:GV n g nd ns)(F:wU n t w p k True nd ns)(hZ:ZI n t w p u O G X k nd ns)(hS:Sd (mB (ei (nd k))) D):ZI n t w p u O G X (k+1) (dO nd k D) (ns++(mB (ei (nd k))).out):=by
 obtain⟨⟨bL,Q,bd,ba,b4⟩,m,Y,i1,cn,i5,i6⟩:=hZ;have af:=F.pS;have N:=eK H a.1.1 a.1.2;have ac:(ei (nd k)).id=k:=H.id k a.1.1 a.1.2;have ae:(nd k).n=n:=N.nn;have ab:=fO H af F.ld;obtain⟨e1,e2,e3,e4,e5,e6,e7,e8,ai,e9⟩:=hS.eqs;have ag:dO nd k D p=nd p:=dl (fun h=>hk h.symm)
 have aj:∀x∈(mB (ei (nd k))).out,x.1.kd≠5/\x.1.kd≠4/\(x.1.kd=7->x.2=(nd k).P):=fun x hx=>by
  rcases C7 hx with h|h;·rw[h];exact⟨by show(8:Int)≠5;decide,by show(8:Int)≠4;decide,fun h=>by have:(8:Int)=7:=h;omega⟩
  .rw[h];exact⟨by show(7:Int)≠5;decide,by show(7:Int)≠4;decide,fun _=>rfl⟩
 have ah:=(H.pf k a.1.1 a.1.2).f;refine⟨⟨by grind,fun j b=>?_,fun z I h3 h4=>?_,fun j b y=>by grind,fun z I h3=>?_⟩,fun z I h3 h4=>?_,fun h=>by grind,fun h=>?_,?_,fun h j b y ad=>?_,fun h j b y=>?_⟩
 .by_cases l:j=k;·rw[l,dc];intro e he;exact Q k a e (e9 e he)
  .rw[dl l];exact Q j b
 .grind
 .grind
 .grind
 .have ad:p<k:=by clear i1 i5 i6 Y;omega
  obtain⟨qu,o,v,E,c4,c5⟩:=i1 ad;rw[ag];refine⟨qu,o,v,fun z I h3 h4=>?_,fun j b y=>(c4 j b y).left,c5⟩;grind
 .grind[ei,zh]
 .by_cases l:j=k
  .rw[l,dc,e4,e8];refine⟨(nd k).f.nm+1,(zb (nd k).f ((nd k).ck+1)).2,CV (k:=u.length) (c:=(nd k).ck+1) ah,(dm (ei (nd k)) (iU (ei (nd k)) ((ei (nd k)).f.nm+1)),[]),List.mem_append_right _ (List.mem_cons_self ..),?_,rfl,(F.dv k a).2,ac,?_,rfl⟩;·unfold dW;show(dg t (ei (nd k)).id&&dg t (dJ (nd k).ls (nd k).n))=true;rw[ac,(F.dv k a).2,ae,ab.1,a.2,af.2];rfl
   .show dJ (nd k).ls (nd k).n=p;rw[(F.dv k a).2,ae,ab.1]
  .rw[dl l];obtain⟨J,o,v,E⟩:=i5 h j b y (by omega);exact⟨J,o,v,E.left⟩
 .rw[ag];obtain⟨J,c,o,v,E⟩:=i6 h j b y;by_cases l:j=k
  .rw[l]at o v E⊢;rw[dc,e4,e8];rcases o with⟨d1,d2,S⟩|⟨d1,d2,S⟩;·refine⟨J,c,.inr ⟨by omega,by show(nd k).ck+1<=c+1;omega,(C8 (k:=(nd k).ck+1) S).1⟩,v,E⟩
   .omega
  grind[dl]
theorem K9(hn:3<=n/\n<=5)(k1:1<=k)(k2:k<=n)(F:¬dR n t k)(H:GV n g nd ns)(hI:wU n t w p k True nd ns)(hZ:ZI n t w p u O G X k nd ns)(E:Ts (ei (nd k)) Z)(hS:Sd Z D):ZI n t w p u O G X (k+1) (dO nd k D) (ns++Z.out):=by
 obtain⟨⟨S,bP,bd,ba,b4⟩,m,Y,P,cn,Q,i6⟩:=hZ;have N:(ei (nd k)).out=[]:=H.out k k1 k2;have aa:(ei (nd k)).id=k:=H.id k k1 k2;have b:∀j,dR n t j->j≠k:=fun j a h=>F (by grind);have ab:=b p hI.pS;have l:dO nd k D p=nd p:=dl ab;have ad:∀z∈Z.out,dW t z=true->False:=fun z f h=>by have h1:=(E.say N f).1;rw[aa]at h1;unfold dW at h;rw[Bool.and_eq_true,h1]at h;exact F ⟨⟨k1,k2⟩,h.1⟩
 refine⟨⟨by rw[l];exact S,fun j a=>by rw[dl (b j a)];exact bP j a,fun z f h3 h4=>?_,fun j a b=>by rw[l];exact ba j a b,fun z f h3=>?_⟩,fun z f h3 h4=>?_,fun h=>by rw[l];exact Y (by omega),fun h=>?_,?_,fun h j a J I=>?_,fun h j a J=>?_⟩;·grind
 .grind
 .grind
 .have I:p<k:=by clear P Q i6 Y;omega
  obtain⟨qu,o,v,y,c4,c5⟩:=P I;rw[l];refine⟨qu,o,v,fun z f h3 h4=>?_,fun j a b=>(c4 j a b).left,c5⟩;grind
 .rw[List.countP_append];have:=E.c8 N;omega
 .rw[dl (b j a)];have:=b j a;obtain⟨ac,o,v,y⟩:=Q h j a J (by omega);exact⟨ac,o,v,y.left⟩
 grind[dl]
theorem KI(hn:3<=n/\n<=5)(hs:jx n t)(hI:wU n t w p ((n:Int)+1) True nd ns)(hZ:ZI n t w p u O G X ((n:Int)+1) nd ns):∃V,ZJ n t w p u O G X V nd ns:=by
 obtain⟨b,m,Y,i1,cn,i5,i6⟩:=hZ;have F:=hI.pS;obtain⟨qu,H,I,J,l,N,c6,E,P,Q,y,y1,y2,y3,y4⟩:=i1 (by have:=F.1;omega);obtain⟨j0,o,v⟩:=EV hn hs F;have h0:((nd p).ak.countP fun y=>decide (y.pr=qu.la+1))=0:=by rw[List.countP_eq_zero];intro z hz;have:=N z hz;simp;omega
 refine⟨qu.la,b,⟨qu,H,rfl,I,fun j a f=> .inl (l j a f)⟩,J,.inr ⟨j0,o,v,.inl (l j0 o v)⟩,.inr ⟨j0,o,v,.inl (l j0 o v)⟩,fun _ j a f=> .inl (l j a f),by omega,fun h=>by grind,fun h j a f=>?_,fun h j a f=>?_,E,P,Q,.inl ⟨y,y1,y2,y3,y4⟩⟩;·obtain⟨E,S,d2,d3⟩:=i5 h j a f (by have:=a.1;omega);grind
 .obtain⟨E,c,S,d2,d3⟩:=i6 h j a f;grind
structure F2 (n:Nat) (t w p:Int) (nd:fK):Prop where
 gq:GQ n t w p nd
 P:∀j,dR n t j->lD (nd j).P (nd p).L
 ac:∀j,dR n t j->j≠p->dg (nd p).ac j=true
def F3(p:Int)(nd:fK):Prop:=(nd p).cm=((nd p).L.length:Int)/\(nd p).ak.length<=5
def F5(n:Nat)(t p:Int)(nd:fK):Prop:=∀j,dR n t j->j≠p->∃a,(nd j).f.ask.getLast? =some (a,(nd j).ck)/\QS (nd p).L.length (nd j).f a (nd j).ck/\((∃y∈(nd p).ak,y.who=j/\y.num=a)\/FG (nd p).L.length (nd j).f (nd j).ck)
def p9(n:Nat)(t:Int)(nd:fK):Prop:=∀j,dR n t j->jH (nd j)=true
theorem zw(N:fU n g dv s)(h:jY B K s)(f:s.ls=s.dv)(a:s.ls≠0){c:Int}(b:FG k s.f c)(y:s.ck<=c+1)(E:k<=s.cm):jH s=true:=by
 obtain⟨j,l,o⟩:=b;have F:=N.ls;have v:=h.bc;have z:eC s=true:=by unfold eC;rw[N.kn,f,N.mem a];simp;omega
 grind[jH,ts,rn]
theorem uN(E:3<=n/\n<=5)(hs:jx n t)(hr:r<=100)(H:Qr n cf r A g)(h2:F2 n t w p (ed n A.W)):∃A' g',qD t A=some A'/\Qr n cf (r+1) A' g'/\F2 n t w p (ed n A'.W)/\F3 p (ed n A'.W)/\(F3 p (ed n A.W)->F5 n t p (ed n A'.W))/\(F3 p (ed n A.W)->F5 n t p (ed n A.W)->p9 n t (ed n A'.W)):=by
 obtain⟨u,aa⟩:∃u,(ed n A.W p).L=u:=⟨_,rfl⟩
 obtain⟨A',g',k1,k2,k3,k4⟩:=CN (XI:=ZI n t w p u (F3 p (ed n A.W)) (F3 p (ed n A.W)) (F3 p (ed n A.W)/\F5 n t p (ed n A.W))) (XJ:=fun nd ns=>∃V,ZJ n t w p u (F3 p (ed n A.W)) (F3 p (ed n A.W)) (F3 p (ed n A.W)/\F5 n t p (ed n A.W)) V nd ns) E hr H h2.gq (fun nd ns g g' a q D H o l b1 b2 v S=>Ld E H o l b1 b2 v) (fun k nd ns g g' D ab hk H o l v S=>K8 E ab hk H o l v) (fun k nd ns g Z D k1 k2 ab H o l hT v=>K9 E k1 k2 ab H o l hT v) (fun nd ns g H o l=>KI E hs o l) (fun nd x ns g g' Z D H hm hJ ⟨V,l⟩ hH v S hJ'=>⟨V,GU E hs H hm hJ l hH v S hJ'⟩) (fun nd x ns hm ⟨V,l⟩=>⟨V,GS hm l⟩) ⟨⟨aa,fun j f=>by rw[<-aa];exact h2.P j f,fun x J=>(by cases J),h2.ac,fun x J=>(by cases J)⟩,fun x J=>(by cases J),fun _=>⟨fun h=>by rw[<-aa];exact h.1,fun h=>h.2⟩,fun h=>by have:=h2.gq.pS.1;omega,by show((0:Nat):Int)<=1-1;decide,fun h j f ac aj=>by have:=f.1;omega,fun h j f ac=>by
  obtain⟨ad,c1,c2,c3⟩:=h.2 j f ac
  grind⟩
 obtain⟨V,⟨b,⟨qu,q1,q2,q3,q4⟩,m5,zc,zq,z3,zn,zl,z5,z6,z7⟩⟩:=k4;have F:∀P:dz×List dj->Prop,g7 t [] P->False:=fun P ⟨z,h,_⟩=>by cases h
 have ai:(ed n A'.W p).cm=(u.length:Int):=by
  rcases zc with h|⟨j,-,-,h|h⟩;·exact h
  .exact(F _ h).elim
  .exact(F _ h).elim
 have af:∀y∈(ed n A'.W p).ak,V<y.pr:=by
  rcases zq with h|⟨j,-,-,h|h⟩;·exact h
  .exact(F _ h).elim
  .exact(F _ h).elim
 have ae:(ed n A'.W p).L=u:=b.L;have Q:=k2.gv E;have I:=k3.pS
 have ag:(ed n A'.W p).ak.length<=5:=by
  obtain⟨qv,v1,v2,v3,v4⟩:=(Q.pf p I.1.1 I.1.2).hv k3.ld.1;rw[q1]at v1;cases v1;have:((ed n A'.W p).ak.countP fun y=>decide (y.pr=V+1))=(ed n A'.W p).ak.length:=by rw[List.countP_eq_length];intro y hy;have h1:=af y hy;have h2:=v4 y hy;simp;omega
  omega
 refine⟨A',g',k1,k2,⟨k3,fun j f=>by rw[ae];exact b.P j f,b.ac⟩,⟨by grind,ag⟩,fun h=>?_,fun h h'=>?_⟩;·intro j f ac;grind
 .intro j f;obtain⟨B,hB⟩:=Q.nb;have N:=Q.nod j f.1.1 f.1.2;have hd:=k3.dv j f;have al:=(fO Q I k3.ld).2;by_cases e:j=p;·obtain⟨ad,d1,d2,d3⟩:=z7;rw[e]at hd N⊢;refine zw N (hB p I.1.1 I.1.2) (by omega) (by omega) (k:=u.length) (c:=(ed n A'.W p).ck) ?_ (by omega) (by omega);grind
  .obtain⟨ad,c,d0,d1,d2,d3⟩:=z6 ⟨h,h'⟩ j f e
   have ah:(ed n A'.W j).cm=(u.length:Int):=by
    rcases z3 h j f e with h|h;·exact(F _ h).elim
    .exact h
   refine zw N (hB j f.1.1 f.1.2) (by omega) (by omega) (k:=u.length) (c:=c) ?_ d0 (by omega);grind
end
end Go.Proofs.YtjhbmbbmjaabcaaGreat
