/-
  Contracts. Conditions stand at each.
-/
import Derived.Test.YtjhbmbbmjaabcaaGreatS36
set_option linter.all false
set_option maxRecDepth 8000
set_option maxHeartbeats 8000000
namespace Go.Proofs.YtjhbmbbmjaabcaaGreat
open Go Go.Sort Go.RowKit
section
variable{V:Prop} {j k:Int}
variable{n:Nat} {g X g1 g2:Gh} {i d d' t M Z w i0 j0 p q T x0:Int} {dv:Int->Int} {B B' K K' R R':Int} {s s' u D:dp} {m:dz} {L C:List dj} {e:dj} {W:eW} {A A':dU} {nd:fK} {ns:Ms} {x:dz×List dj} {U:Int->Prop} {Y c:Int->Int} {r:Nat}
theorem I7{a b:Int}(f:gS a)(l:gS b)(h:∀j,dE j->(dg a j=true↔dg b j=true)):a=b:=by
 have o:∀a b:Fin 128,(∀i:Fin 8,1<=i.1->dg (a.1:Int) (i.1:Int)=dg (b.1:Int) (i.1:Int))->a=b:=by decide+kernel
 obtain⟨a1,a2⟩:=f;obtain⟨b1,b2⟩:=l
 have:=o ⟨a.toNat,by omega⟩ ⟨b.toNat,by omega⟩ (fun i v=>by
  simp only[Int.toNat_of_nonneg a1,Int.toNat_of_nonneg b1]
  have:=h (i.1:Int) ⟨by omega,by omega⟩
  grind)
 grind
structure jx (n:Nat) (t:Int):Prop where
 is:gS t
 most:dX t n=true
 le:∀j,dE j->dg t j=true->j<=n
theorem jx.mem(f:jx n t){a:Int}(l:gS a)(h:∀j,dE j->(dg a j=true↔dR n t j)):a=t:=
 I7 l f.is fun j b=>⟨fun h1=>((h j b).1 h1).2,fun h1=>(h j b).2 ⟨⟨b.1,f.le j b h1⟩,h1⟩⟩
theorem tx(E:3<=n/\n<=5)(N:fU n g dv s)(f:Ts s u)(b:eR s w)(y:s.id=p)(z:∀j,dE j->(dg s.mb j=true↔dR n t j))(o:∀j,dR n t j->j≠p->s.ck<=s.er.at j.toNat+1):∃a q,dt ip s.P s=some a/\a.q=some q/\u=ko a q:=by
 rcases f.lead N b.1 (by rw[b.2.1,b.2.2])with⟨a,v,b1,b2,rfl,b4,-⟩|⟨a,q,b1,b2,b3,rfl⟩;·exfalso;obtain⟨l,H,rfl⟩:=dI b1;unfold uR at b2;rw[List.any_eq_true]at b2;obtain⟨j,h,F⟩:=b2;have G:=kZ h;grind
 grind
theorem wF(F:3<=n/\n<=5)(N:fU n g dv s)(E:eR s w)(H:s.id=p)(J:dR n t p)(I:∀j,dE j->(dg s.mb j=true↔dR n t j)){a:dp}{q:lr}(h1:dt ip s.P s=some a)(h2:a.q=some q)(l:dR n t j)(O:j≠p):g7 t (ko a q).out (Bo w j)/\(dg s.ac j=true->g7 t (ko a q).out fun x=>x=(dm (fM a q) (kJ (fM a q) (eV q).la j (fy (eV q) j)),a.L.drop (fy (eV q) j).toNat)):=by
 obtain⟨b,f,rfl⟩:=dI h1;have G:j∈ex s.id s.n (ek.filter (dg s.mb)):=rk (iG F l) ((I j (iG F l)).2 l) (by omega) (by rw[N.nn];exact l.1.2);have o:∀z:dz×List dj,z.1.fr=s.id->z.1.to=j->dW t z=true:=fun z h1 h2=>by unfold dW;rw[h1,h2,H,J.2,l.2];rfl
 by_cases v:dg s.ac j=true
 .have y:(dm (fM {s with L:=b,q:=f} q) (kJ (fM {s with L:=b,q:=f} q) (eV q).la j (fy (eV q) j)),b.drop (fy (eV q) j).toNat)∈(ko {s with L:=b,q:=f} q).out:=by show _∈(ex s.id s.n (ek.filter (dg s.mb))).flatMap (kN (fM {s with L:=b,q:=f} q) (eV q));rw[List.mem_flatMap];refine⟨j,G,?_⟩;unfold kN;rw[if_pos (show dg (fM {s with L:=b,q:=f} q).ac j=true from v)];exact List.mem_singleton.2 rfl
  exact⟨⟨_,y,o _ rfl rfl,.inr rfl,E.2.1,rfl⟩,fun _=>⟨_,y,o _ rfl rfl,rfl⟩⟩
 .refine⟨⟨(dm (fM {s with L:=b,q:=f} q) (fI (fM {s with L:=b,q:=f} q) j),b),?_,o _ rfl rfl,.inl rfl,E.2.1,rfl⟩,fun h=>absurd h v⟩;show _∈(ex s.id s.n (ek.filter (dg s.mb))).flatMap (kN (fM {s with L:=b,q:=f} q) (eV q));rw[List.mem_flatMap];refine⟨j,G,?_⟩;unfold kN;rw[if_neg (show¬dg (fM {s with L:=b,q:=f} q).ac j=true from v)];exact List.mem_singleton.2 rfl
theorem qY(N:fU n g dv s)(b:Ts s u)(h1:s.ls=s.dv)(h2:s.ls≠0)(h3:s.mi=false):u=mB s\/(ic s=true/\s.dv<u.dv):=by
 have a:s.v=none:=by
  cases a:s.v with
  |none=>rfl
  |some v=>
   obtain⟨-,-,h3,h4,-⟩:=N.v v.1 v.2 a;omega
 have l:=N.ls
 have h:eC s=true:=by
  unfold eC;rw[N.kn,h1,N.mem h2];simp;omega
 cases b with
 |inst vw vs b1=>grind
 |again w vw vs b1=>grind
 |gath vw vs b1=>grind
 |silent u w b1 b2 b3=>grind
 |dec u q b1 b2 b3=>grind
 |late w b1 b2 b3 f=>
  refine .inr ⟨b3,?_⟩;have:=gA s.dv s.dn;show s.dv<w;omega
 |ask b1 b2 b3 b4=>grind
 |idle b1 b2=>grind
structure wU (n:Nat) (t w p k:Int) (V:Prop) (nd:fK) (ns:Ms):Prop where
 pS:dR n t p
 ld:eR (nd p) w
 mb:∀j,dE j->(dg (nd p).mb j=true↔dR n t j)
 dv:∀j,dR n t j->(nd j).dv=w/\(nd j).ls=w
 k9:∀x∈ns,x.1.kd≠9
 hd:V->∀j,dR n t j->j≠p->(nd j).ck<=(nd j).hd+1/\(k<=j->(nd j).ck=(nd j).hd)/\(k<=p->(nd p).er.at j.toNat=(nd p).ck)
 ms:p<k->∀j,dR n t j->j≠p->g7 t ns (Bo w j)
def IG(n:Nat)(t w p:Int)(V:Prop)(k:Int)(nd:fK)(ns:Ms)(_:Gh):Prop:=(¬V/\jL n t w nd)\/wU n t w p k V nd ns
def LA(n:Nat)(t w p:Int)(V:Prop)(nd:fK)(ns:Ms)(_:Gh):Prop:=(¬V/\jL n t w nd)\/JG n t w p nd ns
theorem xX(H:GV n g nd ns)(h:dR n t p)(b:eR (nd p) w)(a:dR n t j)(h1:(nd j).ls=w)(f:j≠p):(nd j).mi=false:=by grind[absurd,Jo]
theorem yX(hn:3<=n/\n<=5)(k1:1<=k)(k2:k<=n)(H:GV n g nd ns)(hI:wU n t w p k V nd ns)(J:Ts (ei (nd k)) u)(o:Sd u D):(¬V/\jL n t w (dO nd k D))\/wU n t w p (k+1) V (dO nd k D) (ns++u.out):=by
 obtain⟨l,y,S,dv,k9,E,ms⟩:=hI;have aj:(ei (nd k)).out=[]:=H.out k k1 k2;have aa:(ei (nd k)).id=k:=H.id k k1 k2;have N:=eK H k1 k2;have am:=fO H l y
 have ad:∀x∈ns++u.out,x.1.kd≠9:=fun x I=>by
  rcases List.mem_append.1 I with I|I;·exact k9 x I
  .have:=(J.say aj I).2;omega
 by_cases Q:p=k
 .subst Q;have G:eR (ei (nd p)) w:=y;by_cases ae:∃a q,dt ip (ei (nd p)).P (ei (nd p))=some a/\a.q=some q/\u=ko a q
  .right;obtain⟨a,q,b1,b2,rfl⟩:=ae;have ak:=fun j (b:dR n t j) f=>(wF hn N G aa l S b1 b2 b f).1;obtain⟨L',q',rfl⟩:=dI b1;have ag:=o;obtain⟨TT,al,O,-,rfl⟩:=o;refine⟨l,by rw[dc];exact y,by rw[dc];exact S,fun j b=>?_,ad,fun h j b f=>?_,fun _ j b f=>?_⟩
   .by_cases e:j=p;·rw[e,dc];exact dv p l
    .rw[dl e];exact dv j b
   .grind[dl]
   .obtain⟨z,z1,z2⟩:=ak j b f;exact⟨z,List.mem_append_right _ z1,z2⟩
  .left
   have ai:¬V:=fun ac=>ae (tx hn N J G aa S (fun j b f=>by
    have:=(E ac j b f).2.2 (Int.le_refl _)
    show(nd p).ck+1<=(nd p).er.at j.toNat+1
    omega))
   refine⟨ai,p,l,?_⟩;rw[dc,o.dve];rcases J.lead N G.1 (by rw[G.2.1,G.2.2])with⟨a,v,b1,b2,rfl,b4,-⟩|⟨a,q,b1,b2,b3,b4⟩;·obtain⟨L',q',rfl⟩:=dI b1;have:=gA (ei (nd p)).dv (ei (nd p)).dn;have b4:ep (ei (nd p)).dv (ei (nd p)).dn<v:=b4;have e1:(ei (nd p)).dv=w:=y.2.2;show w<v;omega
   grind
 .have ab:dO nd k D p=nd p:=dl Q;have af:p<k+1->∀j,dR n t j->j≠p->g7 t (ns++u.out) (Bo w j):=fun h j b f=>(ms (by omega) j b f).left;by_cases F:dR n t k
  .obtain⟨d1,d2⟩:=dv k F;have ah:(ei (nd k)).mi=false:=xX H l y F d2 (fun h=>Q h.symm);rcases qY N J (by show(nd k).ls=(nd k).dv;omega) (by show(nd k).ls≠0;omega) ah with h|⟨h1,h2⟩
   .subst h;right;have ag:=o;obtain⟨TT,al,O,-,rfl⟩:=o;refine⟨l,by grind,by grind,fun j b=>?_,ad,fun h j b f=>?_,af⟩
    .by_cases e:j=k;·rw[e,dc];exact⟨d1,d2⟩
     .rw[dl e];exact dv j b
    .rw[ab];obtain⟨c1,c2,c3⟩:=E h j b f;by_cases e:j=k;·rw[e,dc];rw[e]at c1 c2;have:=c2 (Int.le_refl _);rw[e]at c3;refine⟨by show(nd k).ck+1<=(nd k).hd+1;omega,fun h=>by omega,fun h=>c3 (by omega)⟩
     grind[dl]
   .left;refine⟨fun ac=>?_,k,F,by rw[dc,o.dve];have e1:(ei (nd k)).dv=(nd k).dv:=rfl;omega⟩;have:=(E ac k F (fun h=>Q h.symm)).2.1 (Int.le_refl _);have h1:=of_decide_eq_true h1;rw[aa]at h1;have h1:8+2*k<=(nd k).ck+1-(nd k).hd:=h1;omega
  .right;have f:∀j,dR n t j->j≠k:=fun j b h=>F (by grind);refine⟨l,by rw[ab];exact y,by rw[ab];exact S,fun j b=>by rw[dl (f j b)];exact dv j b,ad,fun h j b an=>?_,af⟩;grind[dl]
theorem Je(f:p<k)(a:wU n t w p k V nd ns):JG n t w p nd ns:=
 ⟨a.pS,a.ld,a.mb,fun j b=>(a.dv j b).1,fun x o _ h=>absurd h (a.k9 x o),fun j b l=> .inr (.inl ⟨(a.dv j b).2,a.ms f j b l⟩)⟩
theorem KA(h:GQ n t w p nd):wU n t w p 1 True nd []:=
 ⟨h.pS,h.ld,h.mb,h.dv,fun x f=>(by cases f),fun _ j a b=>⟨by have:=(h.hd j a b).1;omega,fun _=>(h.hd j a b).1.symm,fun _=>(h.hd j a b).2⟩,fun l=>by have:=h.pS.1;omega⟩
theorem KE(h:LS n t w p nd):wU n t w p 1 False nd []:=
 ⟨h.1,h.2.1,h.2.2.1,h.2.2.2,fun x a=>(by cases a),fun h=>h.elim,fun b=>by have:=h.1.1;omega⟩
theorem GL(f:3<=n/\n<=5)(hr:r<=100)(H:Qr n Y r A g)(h:LS n t w p (ed n A.W)):LV n t Y r 1 A\/∃A' X,qD t A=some A'/\Qr n Y (r+1) A' X/\GQ n t w p (ed n A'.W):=by
 obtain⟨A',X,k1,k2,k3⟩:=jN f (t:=t) (I:=fun k nd ns g=>IG n t w p False k nd ns g) (J:=LA n t w p False) (fun k nd ns g X u D k1 k2 H l E b y _=>by
  rcases l with⟨a,h⟩|h;·exact .inl ⟨a,ky h E b⟩
  .exact yX f k1 k2 H h E b) (fun nd ns g H l=>by
  rcases l with h|h;·exact .inl h
  .exact .inr (Je (by have:=h.pS.1;omega) h)) (fun nd x ns g X u D H v o z b y _=>by
  rcases o with⟨a,h⟩|h;·exact .inl ⟨a,kx h z b⟩
  .exact .inr (t' f H v h z b y)) (fun nd x ns g H v o=>by
  rcases o with h|h;·exact .inl h
  .exact .inr (t9 v h)) hr H (.inr (KE h))
 rcases k3 with⟨-,h2⟩|h2;·exact .inl (EW f hr H (M:=w) (fun j F=>by have:=(h.2.2.2 j F).1;omega) k1 h2)
 grind[xc]
structure IV (n:Nat) (t w p k:Int) (vs:List iq) (nd:fK) (ns:Ms):Prop where
 pS:dR n t p
 dv:∀j,dR n t j->(nd j).dv=w
 k9:∀x∈ns,x.1.kd≠9
 vm:∀j,dE j->(dg (dr vs) j=true↔dR n t j)
 ot:∀j,dR n t j->j≠p->(nd j).v=none/\(nd j).ls<w/\(k<=j->(nd j).ck=(nd j).hd)
 st:(k<=p/\(nd p).v=some (w,vs))\/(p<k/\eR (nd p) w/\(nd p).mb=dr vs/\∀j,dR n t j->j≠p->g7 t ns fun x=>x.1.kd=4/\x.1.vw=w/\x.1.to=j)
theorem GF{vs:List iq}(hn:3<=n/\n<=5)(hs:jx n t){k:Int}(k1:1<=k)(k2:k<=n)(H:GV n g nd ns)(hI:IV n t w p k vs nd ns)(G:Ts (ei (nd k)) u)(F:Sd u D):IV n t w p (k+1) vs (dO nd k D) (ns++u.out):=by
 obtain⟨o,dv,k9,z,ot,st⟩:=hI;have ag:(ei (nd k)).out=[]:=H.out k k1 k2;have S:(ei (nd k)).id=k:=H.id k k1 k2;have N:=eK H k1 k2;have af:(ei (nd k)).n=n:=N.nn
 have P:∀x∈ns++u.out,x.1.kd≠9:=fun x l=>by
  rcases List.mem_append.1 l with l|l;·exact k9 x l
  .have:=(G.say ag l).2;omega
 by_cases I:k=p
 .subst I;rcases st with⟨-,f⟩|⟨h,-⟩
  .have f:(ei (nd k)).v=some (w,vs):=f;have E:(ei (nd k)).dv=w:=dv k o;have hc:jy (ei (nd k))=true:=by unfold jy;rw[f];exact decide_eq_true E.symm
   have Nv:=N.v w vs f;have ad:=fS (fun y hy=>(Nv.2.2.2.2.1.ok y hy).2.1.id);have aj:dX (dr vs) n=true:=by rw[hs.mem ad.1 z];exact hs.most
   cases G with
   |inst vw us a1 a2 a3=>
    rw[f]at a1;cases a1;have ac:=F;obtain⟨TT,ai,O,-,rfl⟩:=F;refine⟨o,fun j a=>?_,P,z,fun j a b=>?_,.inr ⟨by omega,?_,?_,fun j a b=>?_⟩⟩
    .by_cases e:j=k;·rw[e,dc];exact E
     .rw[dl e];exact dv j a
    .grind[dl]
    .rw[dc];exact⟨rfl,rfl,E⟩
    .rw[dc];rfl
    .refine⟨(dm (ix (ei (nd k)) w vs) (fI (ix (ei (nd k)) w vs) j),(ix (ei (nd k)) w vs).L),List.mem_append_right _ ?_,?_,rfl,rfl,rfl⟩;·show _∈(ex (ei (nd k)).id (ei (nd k)).n (ek.filter (dg (dr vs)))).flatMap (fH (ix (ei (nd k)) w vs));rw[List.mem_flatMap];exact⟨j,rk (iG hn a) ((z j (iG hn a)).2 a) (by omega) (by rw[af];exact a.1.2),List.mem_singleton.2 rfl⟩
     .unfold dW;show(dg t (ei (nd k)).id&&dg t j)=true;rw[S,o.2,a.2];rfl
   |again w vw us a1 a2 a3=>
    grind
   |gath vw us a1 a2 a3=>
    grind
   |silent u w a1=>grind
   |dec u q a1=>grind
   |late w a1=>grind
   |ask a1=>grind
   |idle a1=>grind
  .omega
 .have ah:dO nd k D p=nd p:=dl (fun h=>I h.symm)
  have ab:(k+1<=p/\(dO nd k D p).v=some (w,vs))\/(p<k+1/\eR (dO nd k D p) w/\(dO nd k D p).mb=dr vs/\∀j,dR n t j->j≠p->g7 t (ns++u.out) fun x=>x.1.kd=4/\x.1.vw=w/\x.1.to=j):=by
   rw[ah];rcases st with⟨h1,h2⟩|⟨h1,h2,h3,h4⟩;·grind
   .exact .inr ⟨by omega,h2,h3,fun j a b=>(h4 j a b).left⟩
  by_cases J:dR n t k
  .obtain⟨c1,c2,Q⟩:=ot k J I;have Q:=Q (Int.le_refl _);have E:(ei (nd k)).dv=w:=dv k J;have e1:(ei (nd k)).v=none:=c1;have e2:(ei (nd k)).ls<w:=c2;have al:eC (ei (nd k))=true->False:=fun h=>by grind[eC]
   have ae:u=ei (nd k):=by
    cases G with
    |inst vw us a1=>grind
    |again w vw us a1=>grind
    |gath vw us a1=>grind
    |silent u w a1 a2=>grind
    |dec u q a1 a2=>grind
    |late w a1 a2 a3=>
     have a3:=of_decide_eq_true a3;rw[S]at a3;have a3:8+2*k<=(nd k).ck+1-(nd k).hd:=a3;omega
    |ask a1 a2=>grind
    |idle=>rfl
   subst ae;have ac:=F;obtain⟨TT,ai,O,-,rfl⟩:=F;refine⟨o,fun j a=>?_,P,z,fun j a b=>?_,ab⟩;·grind[dc,dl]
   grind[dc,dl]
  .have b:∀j,dR n t j->j≠k:=fun j a h=>J (by grind);refine⟨o,fun j a=>by rw[dl (b j a)];exact dv j a,P,z,fun j a ak=>?_,ab⟩;grind[dl]
theorem GN(l:3<=n/\n<=5)(hs:jx n t)(hr:r<=100)(H:Qr n Y r A g)(h:VS n t (ed n A.W)):∃w p A' X,qD t A=some A'/\Qr n Y (r+1) A' X/\GQ n t w p (ed n A'.W):=by
 obtain⟨w,p,vs,⟨b,mx,pd,Q,vi,pf,S⟩⟩:=h;have O:∀j,dR n t j->j≠p->(ed n A.W j).dv=w/\(ed n A.W j).v=none/\(ed n A.W j).ls<w/\(ed n A.W j).hd=(ed n A.W j).ck/\dg (dr vs) j=true:=fun j a f=>by grind
 have G:=H.gv l;have Np:=(G.nod p b.1.1 b.1.2).v w vs Q;have aa:=fS (fun y hy=>iG l (vi y hy))
 have vm:∀j,dE j->(dg (dr vs) j=true↔dR n t j):=fun j a=>by
  constructor;·grind
  .intro h;by_cases e:j=p;·obtain⟨y,y1,y2⟩:=Np.2.2.2.2.2;exact(aa.2 j a).2 ⟨y,y1,by rw[y2,G.id p b.1.1 b.1.2,e]⟩
   grind
 obtain⟨A',X,k1,k2,k3⟩:=jN l (t:=t) (I:=fun k nd ns _=>IV n t w p k vs nd ns) (J:=fun nd ns _=>JG n t w p nd ns) (fun k nd ns g X u D k1 k2 H o hT E P _=>GF l hs k1 k2 H o hT E) (fun nd ns g H o=>by
  obtain⟨b,dv,k9,vm,ot,S⟩:=o
  rcases S with⟨h,-⟩|⟨h1,h2,h3,h4⟩
  .have:=b.1;omega
  .exact⟨b,h2,by grind,dv,fun x N _ h=>absurd h (k9 x N),fun j a f=> .inl ⟨(ot j a f).2.1,h4 j a f⟩⟩) (fun nd x ns g X u D H F z hH E P _=>t' l H F z hH E P) (fun nd x ns g H F z=>t9 F z) hr H ⟨b,fun j a=>by
  grind,fun x N=>(by cases N),vm,fun j a f=>⟨(O j a f).2.1,(O j a f).2.2.1,fun _=>(O j a f).2.2.2.1.symm⟩,.inl ⟨b.1.1,Q⟩⟩
 exact⟨w,p,A',X,k1,k2,xc k3⟩
end
section
variable{XI:Int->fK->Ms->Prop} {XJ:fK->Ms->Prop}
variable{n:Nat} {g D g1 g2:Gh} {i d Z t M X w i0 j0 p q T x0:Int} {dv:Int->Int} {B B' K K' R Y:Int} {s s' G u:dp} {m:dz} {L C:List dj} {e:dj} {W:eW} {A A':dU} {nd:fK} {ns:Ms} {x:dz×List dj} {U:Int->Prop} {V c:Int->Int} {r:Nat}
theorem DS(t i:Int):dg t i=t.toNat.testBit (i.toNat-1):=by grind[dg,Nat.shiftRight_eq_div_pow]
theorem tu{j:Int}(a:dE i)(b:dE j):dg (fC t j) i=(dg t i||i==j):=by obtain⟨f,h⟩:=a;obtain⟨k,l⟩:=b;rw[DS,DS];unfold fC;rw[Int.toNat_natCast,Nat.testBit_or,Nat.one_shiftLeft,Nat.testBit_two_pow];grind
theorem CN(E:3<=n/\n<=5)(hr:r<=100)(H:Qr n V r A g)(hG:GQ n t w p (ed n A.W))
  (hp:∀(nd:fK) (ns:Ms) (g D:Gh) (a:dp) (q:lr) (u:dp),GV n g nd ns->wU n t w p p True nd ns->XI p nd ns->dt ip (ei (nd p)).P (ei (nd p))=some a->a.q=some q->Sd (ko a q) u->GV n D (dO nd p u) (ns++(ko a q).out)->XI (p+1) (dO nd p u) (ns++(ko a q).out))
  (O:∀(k:Int) (nd:fK) (ns:Ms) (g D:Gh) (u:dp),dR n t k->k≠p->GV n g nd ns->wU n t w p k True nd ns->XI k nd ns->Sd (mB (ei (nd k))) u->GV n D (dO nd k u) (ns++(mB (ei (nd k))).out)->XI (k+1) (dO nd k u) (ns++(mB (ei (nd k))).out))
  (ho:∀(k:Int) (nd:fK) (ns:Ms) (g:Gh) (G u:dp),1<=k->k<=n->¬dR n t k->GV n g nd ns->wU n t w p k True nd ns->XI k nd ns->Ts (ei (nd k)) G->Sd G u->XI (k+1) (dO nd k u) (ns++G.out))
  (he:∀(nd:fK) (ns:Ms) (g:Gh),GV n g nd ns->wU n t w p ((n:Int)+1) True nd ns->XI ((n:Int)+1) nd ns->XJ nd ns)
  (hh:∀(nd:fK) (x:dz×List dj) (ns:Ms) (g D:Gh) (G u:dp),GV n g nd (x::ns)->dW t x=true->JG n t w p nd (x::ns)->XJ nd (x::ns)->Hs (eg (nd x.1.to) x) x.1 x.2 G->Sd G u->GV n D (dO nd x.1.to u) (ns++G.out)->JG n t w p (dO nd x.1.to u) (ns++G.out)->XJ (dO nd x.1.to u) (ns++G.out))
  (F:∀(nd:fK) (x:dz×List dj) (ns:Ms),dW t x=false->XJ nd (x::ns)->XJ nd ns)
  (hx:XI 1 (ed n A.W) []):∃A' D,qD t A=some A'/\Qr n V (r+1) A' D/\GQ n t w p (ed n A'.W)/\XJ (ed n A'.W) []:=by
 obtain⟨A',D,k1,k2,k3⟩:=jN E (t:=t) (I:=fun k nd ns _=>wU n t w p k True nd ns/\XI k nd ns) (J:=fun nd ns _=>JG n t w p nd ns/\XJ nd ns) (fun k nd ns g D G u k1 k2 H b f v Q _=>by
  obtain⟨b,hX⟩:=b
  have aa:wU n t w p (k+1) True (dO nd k u) (ns++G.out):=by
   rcases yX E k1 k2 H b f v with⟨h,-⟩|h;·grind
   .exact h
  refine⟨aa,?_⟩;by_cases y:k=p
  .subst y;have N:=eK H k1 k2
   obtain⟨a,q,b1,b2,rfl⟩:=tx E N f b.ld (H.id k k1 k2) b.mb (fun j O ad=>by
    have:=(b.hd trivial j O ad).2.2 (Int.le_refl _)
    show(nd k).ck+1<=(nd k).er.at j.toNat+1
    omega)
   grind
  .by_cases l:dR n t k
   .have N:=eK H k1 k2;obtain⟨d1,S⟩:=b.dv k l;have ae:=fO H b.pS b.ld;have ac:(ei (nd k)).mi=false:=xX H b.pS b.ld l S y;rcases qY N f (by show(nd k).ls=(nd k).dv;omega) (by show(nd k).ls≠0;omega) ac with h|⟨h1,h2⟩;·grind
    .exfalso;have:=(b.hd trivial k l y).2.1 (Int.le_refl _);have h1:=of_decide_eq_true h1;have ab:(ei (nd k)).id=k:=H.id k k1 k2;rw[ab]at h1;have h1:8+2*k<=(nd k).ck+1-(nd k).hd:=h1;omega
   .exact ho k nd ns g G u k1 k2 l H b hX f v) (fun nd ns g H b=>⟨Je (by have:=b.1.pS.1;omega) b.1,he nd ns g H b.1 b.2⟩) (fun nd x ns g D G u H z o hH v Q _=>by
  grind[t']) (fun nd x ns g H z o=>⟨t9 z o.1,F nd x ns z o.2⟩) hr H ⟨KA hG,hx⟩
 grind[xc]
theorem Sd.eqs(h:Sd s s'):s'.L=s.L/\s'.cm=s.cm/\s'.q=s.q/\s'.f=s.f/\s'.ac=s.ac/\s'.er=s.er/\s'.ak=s.ak/\s'.ck=s.ck/\s'.st=s.st/\∀e∈s'.P,e∈s.P:=by obtain⟨T,b,O,-,rfl⟩:=h;exact⟨rfl,rfl,rfl,rfl,rfl,rfl,rfl,rfl,rfl,fun e a=>(List.mem_filter.1 a).1⟩
theorem Hs.acer(h:Hs s m L s'):(s'.ac=s.ac/\s'.er=s.er)\/(s'.ac=fC s.ac m.fr/\s'.er=s.er.set m.fr.toNat s.ck):=by
 cases h with
 |has _ k a1 a2 a3 a4=>
  obtain⟨q,v,h|⟨l,r,hr,rfl⟩⟩:=eY a4;·rw[h.1];exact .inr ⟨rfl,rfl⟩
  .obtain⟨f,o,y,a,b,-⟩:=eH hr;rw[a,b];exact .inr ⟨rfl,rfl⟩
 |data _ k a1 a2 a3=>
  obtain⟨j,z,rfl⟩:=fs a3;grind
 |_=>exact .inl ⟨rfl,rfl⟩
def lD(P L:List dj):Prop:=∀e∈P,∃y∈L,dG y e=true
theorem lD.mono{P a L':List dj}(h:lD P L)(h1:∀e∈a,e∈P)(h2:L<+:L'):lD a L':=fun e b=>by obtain⟨y,f,j⟩:=h e (h1 e b);grind
theorem Hs.LP(h:Hs s m L s')(z:s'.ls=s.ls)(h8:s.mi=true->∀q,s.q=some q->i.toNat<q.hv.length)(v:s.id=i)(k:NP i s):s.L<+:s'.L/\(m.kd=7->eC s=true->s.mi=true->∀e∈L,e.fr=m.fr->∃y∈s'.L,dG y e=true):=by
 have hr:s.L<+:s.L:=List.prefix_refl _
 cases h with
 |took k1 h1 h2=>
  have:m.vw=s.ls:=z;omega
 |app H k1 h1 h2 h3 h4=>
  refine⟨?_,fun h=>by omega⟩;have:=(iT _ _ _ h4).1;rw[this];exact List.prefix_append _ _
 |has _ k1 a1 a2 a3 a4=>
  obtain⟨q,J,h|⟨I,r,E,rfl⟩⟩:=eY a4;·rw[h.1];exact⟨hr,fun h=>by omega⟩
  .obtain⟨f,o,N,j,l,-⟩:=eH E;rw[j,l];exact⟨hr,fun h=>by omega⟩
 |data _ k1 a1 a2 a3=>
  obtain⟨F,a,b,-⟩:=k.hv a2;have:=ny a3 v (h8 a2) ⟨F,a,b⟩;grind
 |none k1 k2 k3 k4 k5 k6 k7=>grind
 |join k1=>exact⟨hr,fun h=>by omega⟩
 |deny k1=>exact⟨hr,fun h=>by omega⟩
 |revote k1=>exact⟨hr,fun h=>by omega⟩
 |denied k1=>grind
 |voted _ _ k1=>grind
 |same k1=>exact⟨hr,fun h=>by omega⟩
 |fresh k1=>grind
 |askd _ k1=>exact⟨hr,fun h=>by omega⟩
def vG(t p:Int)(nd:fK)(ns:Ms)(j:Int):Prop:=lD (nd j).P (nd p).L\/(j≠p/\g7 t ns fun x=>x.1.kd=7/\x.1.fr=j/\x.1.to=p/\∀e∈(nd j).P,e∈x.2)
def LB(n:Nat)(t p k:Int)(nd:fK)(ns:Ms):Prop:=(∀j,dR n t j->j<k->vG t p nd ns j)/\(p<k->∀j,dR n t j->j≠p->(nd p).er.at j.toNat≠(nd p).ck)
def LC(n:Nat)(t p:Int)(nd:fK)(ns:Ms):Prop:=(∀j,dR n t j->vG t p nd ns j)/\∀j,dR n t j->j≠p->(nd p).er.at j.toNat=(nd p).ck->dg (nd p).ac j=true
theorem KN(N:fU n g dv s)(h:eR s w):eC s=true:=by have a:=(N.mi h.1).1;unfold eC;rw[N.kn,N.mem a,h.2.1,h.2.2];have:=N.ls;have:=h.2.1;simp;omega
theorem Kl(hn:3<=n/\n<=5)(hr:r<=100)(H:Qr n V r A g)(hG:GQ n t w p (ed n A.W)):∃A' D,qD t A=some A'/\Qr n V (r+1) A' D/\GQ n t w p (ed n A'.W)/\(∀j,dR n t j->lD (ed n A'.W j).P (ed n A'.W p).L)/\∀j,dR n t j->j≠p->dg (ed n A'.W p).ac j=true:=by
 obtain⟨A',D,k1,k2,k3,k4⟩:=CN (XI:=LB n t p) (XJ:=LC n t p) hn hr H hG (fun nd ns g D a q u H v o b1 b2 hS H'=>by
  have S:=v.pS;have ad:(ei (nd p)).id=p:=H.id p S.1.1 S.1.2;have kk:=(H.pf p S.1.1 S.1.2).ticked;have N:=eK H S.1.1 S.1.2;obtain⟨q0,c1,c2,-⟩:=kk.hv v.ld.1;obtain⟨-,d2,d3⟩:=nl b1 ad (N.q8 v.ld.1 ⟨S.1.1,by have:=S.1.2;omega⟩) ⟨q0,c1,c2⟩;obtain⟨e1,e2,e3,e4,e5,e6,e7,e8,-,e9⟩:=hS.eqs;obtain⟨L',q',rfl⟩:=dI b1;refine⟨fun j b y=>?_,fun _ j b E=>?_⟩
  .by_cases l:j=p;·left;rw[l,dc,e1];intro e F;exact d3 e (e9 e F)
   .rcases o.1 j b (by omega)with h|⟨h1,h2⟩;·left;rw[dc,dl l,e1];exact h.mono (fun _ h=>h) d2
    .right;rw[dl l];exact⟨h1,h2.left⟩
  .rw[dc,e6,e8];have:=(v.hd trivial j b E).2.2 (Int.le_refl _);show(nd p).er.at j.toNat≠(nd p).ck+1
   omega) (fun k nd ns g D u I y H v o hS H'=>by
  obtain⟨e1,e2,e3,e4,e5,e6,e7,e8,-,e9⟩:=hS.eqs;have Q:dO nd k u p=nd p:=dl (fun h=>y h.symm);have ad:(ei (nd k)).id=k:=H.id k I.1.1 I.1.2;have ah:=fO H v.pS v.ld;have N:=eK H I.1.1 I.1.2;refine⟨fun j b ak=>?_,fun h j b E=>by rw[Q];exact o.2 (by omega) j b E⟩;by_cases l:j=k
  .rw[l];unfold vG;rw[Q,dc];by_cases hP:(ei (nd k)).P=[];·left;intro e F;have:=e9 e F;have:e∈(ei (nd k)).P:=this;grind
   .refine .inr ⟨y,(dm (ei (nd k)) (fA (ei (nd k))),(ei (nd k)).P),List.mem_append_right _ ?_,?_,rfl,ad,?_,fun e F=>e9 e F⟩;·show _∈(dm (ei (nd k)) (iU (ei (nd k)) ((ei (nd k)).f.nm+1)),[])::if(ei (nd k)).P=[]then []else [(dm (ei (nd k)) (fA (ei (nd k))),(ei (nd k)).P)];grind
    .unfold dW;show(dg t (ei (nd k)).id&&dg t (dJ (nd k).ls (nd k).n))=true;have ag:(nd k).n=n:=N.nn;rw[ad,(v.dv k I).2,ag,ah.1,I.2,v.pS.2];rfl
    .show dJ (nd k).ls (nd k).n=p;have ag:(nd k).n=n:=N.nn;rw[(v.dv k I).2,ag,ah.1]
  .rcases o.1 j b (by omega)with h|⟨h1,h2⟩;·left;rw[Q,dl l];exact h
   .right;rw[dl l]
    exact⟨h1,h2.left⟩) (fun k nd ns g G u k1 k2 I H v o hT hS=>by
  have Q:dO nd k u p=nd p:=dl (fun h=>I (by rw[<-h];exact v.pS));refine⟨fun j b ak=>?_,fun h j b E=>by rw[Q];exact o.2 (by have:p≠k:=fun h=>I (by rw[<-h];exact v.pS);omega) j b E⟩;have l:j≠k:=fun h=>I (by grind);rcases o.1 j b (by omega)with h|⟨h1,h2⟩;·left;rw[Q,dl l];exact h
  .right;rw[dl l]
   exact⟨h1,h2.left⟩) (fun nd ns g H v o=>⟨fun j b=>o.1 j b (by have:=b.1;omega),fun j b E h=>absurd h (o.2 (by have:=v.pS.1;omega) j b E)⟩) (fun nd x ns g D G u H hm hJ o hH hS H' ai=>by
  obtain⟨y1,y2,y3⟩:=fZ H hm;obtain⟨e1,e2,e3,e4,e5,e6,e7,e8,-,e9⟩:=hS.eqs;have N:=iW H y2.1.1 y2.1.2 x;have ad:(eg (nd x.1.to) x).id=x.1.to:=H.id _ y2.1.1 y2.1.2;have kk:=(H.pf _ y2.1.1 y2.1.2).heard x;have ae:∀e∈u.P,e∈(nd x.1.to).P:=fun e F=>by have:=e9 e F;rw[hH.kp.P]at this;exact this
  by_cases y:p=x.1.to
  .have af:eR (eg (nd x.1.to) x) w:=by have:=hJ.ld;rw[y]at this;exact this
   have aj:G.ls=(eg (nd x.1.to) x).ls:=by
    have h1:=ai.ld.2.1;rw[y,dc]at h1;have h2:u.ls=G.ls:=by obtain⟨TT,tm,O,-,rfl⟩:=hS;rfl
    have h3:=af.2.1;omega
   obtain⟨a1,a2⟩:=hH.LP aj (fun al=>N.q8 al ⟨y2.1.1,by have:=y2.1.2;omega⟩) ad kk;refine⟨fun j b=>?_,fun j b E=>?_⟩
   .by_cases l:j=x.1.to
    .left;rw[l,y,dc,e1];rcases o.1 j b with h|⟨h,-⟩;·rw[l,y]at h;exact h.mono ae a1
     omega
    .unfold vG;rw[y,dc,dl l,e1];rcases o.1 j b with h|⟨h,z,J,z2,z3,z4,z5,z6⟩;·rw[y]at h;exact .inl (h.mono (fun _ h=>h) a1)
     .rcases List.mem_cons.1 J with ez|J;·left;subst ez;intro e F;have am:=(H.pf j b.1.1 b.1.2).P e F;exact a2 z3 (KN N af) af.1 e (z6 e F) (am.trans z4.symm)
      .exact .inr ⟨l,z,List.mem_append_left _ J,z2,z3,z4,by omega,z6⟩
   .rw[y]at E;rw[y,dc,e6,e8,e5,hH.kp.ck];have hf:=iG hn y1;rcases hH.acer with⟨b1,b2⟩|⟨b1,b2⟩;·rw[b1,b2];intro h;have h0:=o.2 j b (by omega);rw[y]at h0;exact h0 h
    .rw[b1,b2,E8.set_at _ (by have:=y1.1;omega)];intro h;rw[tu (iG hn b) hf];by_cases l:j=x.1.fr;·grind
     .rw[if_neg (by have:=b.1;omega)]at h;have h0:=o.2 j b (by omega);grind[dg,eg]
  .have Q:dO nd x.1.to u p=nd p:=dl y;refine⟨fun j b=>?_,fun j b E=>by rw[Q];exact o.2 j b E⟩;unfold vG;rw[Q];by_cases l:j=x.1.to
   .rw[l,dc];rcases o.1 j b with h|⟨h,z,J,z2,z3,z4,z5,z6⟩;·rw[l]at h;exact .inl (h.mono ae (List.prefix_refl _))
    .rw[l]at h z6;rcases List.mem_cons.1 J with ez|J;·grind
     .exact .inr ⟨h,z,List.mem_append_left _ J,z2,z3,by omega,z5,fun e F=>z6 e (ae e F)⟩
   .rw[dl l];rcases o.1 j b with h|⟨h,z,J,z2,z3,z4,z5,z6⟩;·exact .inl h
    .rcases List.mem_cons.1 J with ez|J;·grind
     .exact .inr ⟨h,z,List.mem_append_left _ J,z2,z3,z4,z5,z6⟩) (fun nd x ns hm o=>⟨fun j b=>by
  rcases o.1 j b with h|⟨h,h2⟩;·exact .inl h
  .exact .inr ⟨h,h2.drop hm⟩,o.2⟩) ⟨fun j b h=>by have:=b.1;omega,fun h=>by have:=hG.pS.1;omega⟩
 refine⟨A',D,k1,k2,k3,fun j b=>?_,fun j b E=>k4.2 j b E (k3.hd j b E).2⟩;rcases k4.1 j b with h|⟨-,z,h,-⟩;·exact h
 .cases h
end
section
variable{f:mz} {k num:Int}
variable{n:Nat} {g V X Y:Gh} {i d O t M D w Z j0 p q T x0:Int} {dv:Int->Int} {B B' K K' R G:Int} {s s' s1 s2:dp} {m:dz} {L C u:List dj} {e:dj} {W:eW} {A A':dU} {nd:fK} {ns:Ms} {x:dz×List dj} {U:Int->Prop} {N c:Int->Int} {r:Nat}
theorem sV(h:ip s e=some s')(a:∃y∈s.L,dG y e=true):s'=s:=by grind[ip,dG,hA,kI]
theorem qA:∀{l:List dj} {s s':dp},dt ip l s=some s'->lD l s.L->s'=s
 |[],s,s',h,_=>by cases h;rfl
 |e::l,s,s',h,a=>by
  obtain⟨t,h1,h2⟩:=dy h;have:=sV h1 (a e (List.mem_cons_self ..));subst this;exact qA h2 (fun y h=>a y (List.mem_cons_of_mem _ h))
theorem s9{fr:Int}:∀{l:List dj} {s s':dp},dt (mC fr) l s=some s'->lD l s.L->s'=s
 |[],s,s',h,_=>by cases h;rfl
 |e::l,s,s',h,a=>by
  obtain⟨t,h1,h2⟩:=dy h;unfold mC at h1
  have:t=s:=by
   split at h1;·exact sV h1 (a e (List.mem_cons_self ..))
   .cases h1;rfl
  subst this;exact s9 h2 (fun y h=>a y (List.mem_cons_of_mem _ h))
theorem vC{a:dp}{qu:lr}(b:x∈(ko a qu).out):∃j,dE j/\dg a.mb j=true/\j≠a.id/\j<=a.n/\((dg a.ac j=true/\x=(dm (fM a qu) (kJ (fM a qu) (eV qu).la j (fy (eV qu) j)),a.L.drop (fy (eV qu) j).toNat))\/(dg a.ac j=false/\x=(dm (fM a qu) (fI (fM a qu) j),a.L))):=by
 obtain⟨j,o,b⟩:=List.mem_flatMap.1 b;have h:=kZ o;refine⟨j,h.1,h.2.1,h.2.2.1,h.2.2.2,?_⟩;unfold kN at b;split at b;·rename_i l;rw[List.mem_singleton]at b;exact .inl ⟨l,b⟩
 .rename_i l;rw[fH,List.mem_singleton]at b;exact .inr ⟨Bool.eq_false_iff.2 l,b⟩
theorem C7(a:x∈(mB s).out):x=(dm s (iU s (s.f.nm+1)),[])\/x=(dm s (fA s),s.P):=by have a:x∈(dm s (iU s (s.f.nm+1)),[])::if s.P=[]then []else [(dm s (fA s),s.P)]:=a;grind
def FG(k:Int)(f:mz)(c:Int):Prop:=f.has=true/\c<=f.bc/\f.cm<=k
def QS(k:Int)(f:mz)(num c:Int):Prop:=f.has=true->f.bn<num\/(f.cm<=k/\c<=f.bc)
theorem DL{c cm:Int}(h:qy f)(j:FG k f c)(b:cm<=k):FG k (gR f num cm) c:=by
 obtain⟨h1,h2,h3⟩:=j;rcases qh f num cm with e|⟨q,l,v,o,e⟩;·rw[e];exact⟨h1,h2,h3⟩
 .rw[e]
  have h4:f.bn<q.1:=by
   by_cases a:num<=f.bn;·exact absurd ⟨h1,a⟩ o
   .omega
  have:=(h.bn h1).2.2 q l h4;exact⟨rfl,by grind,b⟩
theorem DO{c num' cm:Int}(h:qy f)(a:(num,c)∈f.ask)(o:QS k f num c)(l:cm<=k):QS k (gR f num' cm) num c/\(num,c)∈(gR f num' cm).ask:=by
 rcases qh f num' cm with e|⟨q,j,v,y,e⟩;·grind
 .rw[e];refine⟨fun _=>?_,a⟩;show q.1<num\/(cm<=k/\c<=q.2);by_cases b:q.1<num;·exact .inl b
  .have:=h.le a j (by omega);omega
theorem zv{k:Int}{f:mz}{c num cm:Int}(h:qy f)(v:(num,c)∈f.ask)(o:QS k f num c)(l:cm<=k):FG k (gR f num cm) c:=by
 unfold gR;by_cases a:f.has=true/\num<=f.bn
 .rw[if_pos a];rcases o a.1 with h1|⟨h1,h2⟩;·omega
  .exact⟨a.1,h2,h1⟩
 .rw[if_neg a];cases b:f.ask.find? fun q=>q.1==num with
  |none=>
   grind
  |some q=>
   have y:=List.mem_of_find?_eq_some b;have j:=List.find?_some b;have j:q.1=num:=by simpa using j
   have:=h.le v y (by omega);exact⟨rfl,this,l⟩
theorem oD{l:List kH}{x:kH}{a r:dp×List kH}(h:dt ke (x::l) a=some r){j:lr}(o:a.1.q=some j):(eZ j.pr j.n<x.pr/\dt ke l (a.1,a.2++[x])=some r)\/(¬eZ j.pr j.n<x.pr/\x.who=a.1.id/\dt ke l ({a.1 with f:=gR a.1.f x.num a.1.cm},a.2)=some r)\/(¬eZ j.pr j.n<x.pr/\x.who≠a.1.id/\dt ke l (gW a.1 (fV a.1 x) [],a.2)=some r):=by obtain⟨b,h1,h2⟩:=dy h;grind[ke,eZ,nE,gu,fV]
theorem nH:∀{l:List kH} {a r:dp×List kH},dt ke l a=some r->(∃j,a.1.q=some j)->∀x∈a.2,x∈r.2
 |[],a,r,h,_,x,b=>by cases h;exact b
 |y::l,a,r,h,⟨j,o⟩,x,b=>by
  rcases oD h o with⟨-,h2⟩|⟨-,-,h2⟩|⟨-,-,h2⟩;·exact nH h2 ⟨j,o⟩ x (List.mem_append_left _ b)
  .exact nH h2 ⟨j,o⟩ x b
  .exact nH h2 ⟨j,o⟩ x b
theorem l8{o:lr}:∀{l:List kH} {a r:dp×List kH},dt ke l a=some r->a.1.q=some o->∀x∈l,eZ o.pr o.n<x.pr->x∈r.2
 |[],a,r,h,j,x,b,_=>by cases b
 |y::l,a,r,h,j,x,b,v=>by
  rcases oD h j with⟨h1,h2⟩|⟨h1,-,h2⟩|⟨h1,-,h2⟩
  .rcases List.mem_cons.1 b with e|b;·exact nH h2 ⟨o,j⟩ x (by grind)
   .exact l8 h2 j x b v
  .rcases List.mem_cons.1 b with e|b;·grind
   .exact l8 h2 j x b v
  .rcases List.mem_cons.1 b with e|b;·grind
   .exact l8 h2 j x b v
theorem nG{F:lr}{k num c:Int}:∀{l:List kH} {a r:dp×List kH},dt ke l a=some r->a.1.q=some F->qy a.1.f->a.1.cm<=k->(num,c)∈a.1.f.ask->QS k a.1.f num c->(QS k r.1.f num c/\(num,c)∈r.1.f.ask)/\(FG k a.1.f c->FG k r.1.f c)/\((∃x∈l,x.who=a.1.id/\x.num=num/\¬eZ F.pr F.n<x.pr)->FG k r.1.f c)
 |[],a,r,h,o,j,b,v,z=>by
  cases h;grind
 |y::l,a,r,h,o,j,b,v,z=>by
  rcases oD h o with⟨h1,h2⟩|⟨h1,H,h2⟩|⟨h1,H,h2⟩;·obtain⟨a1,a2,a3⟩:=nG h2 o j b v z;grind
  .obtain⟨b1,b2⟩:=DO (num':=y.num) j v z b;obtain⟨a1,a2,a3⟩:=nG h2 o j.get b b2 b1;grind[FG,gR,DL,zv]
  .obtain⟨a1,a2,a3⟩:=nG h2 o j b v z;refine⟨a1,a2,fun⟨x,E,x1,x2,x3⟩=>?_⟩;rcases List.mem_cons.1 E with e|E;·grind
   .exact a3 ⟨x,E,x1,x2,x3⟩
theorem EV(v:3<=n/\n<=5)(a:jx n t)(y:dR n t p):∃j,dR n t j/\j≠p:=by
 have E:∀(n:Fin 6) (t:Fin 128) (p:Fin 8),3<=n.1->dX (t.1:Int) (n.1:Int)=true->∃i:Fin 8,1<=i.1/\dg (t.1:Int) (i.1:Int)=true/\i≠p:=by decide+kernel
 obtain⟨o,I⟩:=a.is;have F:=y.1;obtain⟨i,H,b,z⟩:=E ⟨n,by omega⟩ ⟨t.toNat,by omega⟩ ⟨p.toNat,by omega⟩ v.1 (by simpa [Int.toNat_of_nonneg o]using a.most);simp only[Int.toNat_of_nonneg o]at b;have l:dE (i.1:Int):=⟨by omega,by omega⟩;refine⟨(i.1:Int),⟨⟨l.1,a.le _ l b⟩,b⟩,fun h=>z ?_⟩;grind
theorem C8{c:Int}(h:f.ask.getLast? =some (num,c)):(num,c)∈(ir f k).ask/\(ir f k).ask.getLast? =some (f.nm+1,k):=by
 obtain⟨l,a⟩:=List.getLast?_eq_some_iff.1 h;show(num,c)∈(f.ask++[(f.nm+1,k)]).drop (f.ask.length+1-64)/\((f.ask++[(f.nm+1,k)]).drop (f.ask.length+1-64)).getLast? =_;rw[a];constructor;·grind
 .rw[List.drop_append_of_le_length (by omega),List.getLast?_append];rfl
theorem zb(f:mz)(k:Int):(f.nm+1,k)∈(ir f k).ask/\(ir f k).ask.getLast? =some (f.nm+1,k):=by show(f.nm+1,k)∈(f.ask++[(f.nm+1,k)]).drop (f.ask.length+1-64)/\((f.ask++[(f.nm+1,k)]).drop (f.ask.length+1-64)).getLast? =_;grind
theorem CV{c:Int}(h:qy f):QS k (ir f c) (f.nm+1) c:=fun a=>by have h1:f.has=true:=a;have:=(h.bn h1).1;left;show f.bn<f.nm+1;omega
end
end Go.Proofs.YtjhbmbbmjaabcaaGreat
