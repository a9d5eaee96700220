/-
  Contracts. Conditions stand at each.
-/
import Derived.Test.YtjhbmbbmjaabcaaGreatS38
import Derived.Test.YtjhbmbbmjaabcaaGreatS40
import Derived.Test.YtjhbmbbmjaabcaaGreatS41
set_option linter.all false
set_option maxRecDepth 8000
set_option maxHeartbeats 8000000
namespace Go.Proofs.YtjhbmbbmjaabcaaGreat
open Go Go.Sort Go.RowKit
section
variable{f:Nat->Nat->Bool}
variable{n:Nat} {g G O V:Gh} {i d D:Int} {dv:Int->Int} {B B' K K' R u:Int} {s s' X Y:dp} {m:dz} {L C:List dj} {e:dj} {W:eW} {A A':dU}
theorem zZ{α:Type}{a b c d:List α}(h1:a<+:c)(h2:b<+:d)(h3:c<+:d\/d<+:c):a.take (min a.length b.length)=b.take (min a.length b.length):=by grind[List.prefix_or_prefix_of_prefix,Nat.min_eq_left,List.take_length,List.prefix_iff_eq_take,Nat.min_eq_right]
theorem vF(b:3<=n/\n<=5)(H:GW n g C B K W){j:Int}(c:1<=i)(h:i<=n)(k:1<=j)(l:j<=n):(dM W i).L.take (dM W i).cm.toNat<+:(dM W j).L.take (dM W j).cm.toNat\/(dM W j).L.take (dM W j).cm.toNat<+:(dM W i).L.take (dM W i).cm.toNat:=by
 obtain⟨a1,a2,a3⟩:=(H.nd i c h).cm;obtain⟨b1,b2,b3⟩:=(H.nd j k l).cm;rcases a3 with a3|⟨v,a4,a5⟩;·grind
 .rcases b3 with b3|⟨w,b4,a⟩;·grind
  .exact vr b H.ok.gh a5 a
theorem ml(h:∀i k,i<n->k<i->f i k=true):lM n f=true:=by grind[lM]
theorem Kh(o:3<=n/\n<=5)(H:LG n g B K R A):gB A=true:=by
 have p:∀k:Nat,k<n->∃a,A.fm[k]? =some a/\a<+:((dM A.W ((k:Int)+1)).L.take (dM A.W ((k:Int)+1)).cm.toNat).filter fB:=by intro k l;obtain⟨P,Q,S,q⟩:=H.td ((k:Int)+1) (by omega) (by omega);rw[show((k:Int)+1).toNat-1=k by omega]at q;refine⟨_,q,List.IsPrefix.trans ?_ (H.w.td ((k:Int)+1) (by omega) (by omega)).firm⟩;unfold eo;exact(List.IsPrefix.map _ (List.take_prefix _ _)).filter _
 unfold gB;simp only[Bool.and_eq_true];refine⟨⟨⟨ml fun i k c l=>?_,?_⟩,ml fun i k c l=>?_⟩,ml fun a b z N=>?_⟩
 .rw[H.fl]at c;obtain⟨a,a1,a2⟩:=p i c;obtain⟨b,b1,b2⟩:=p k (by omega);unfold Ke;rw[a1,b1];show uy a b=true;unfold uy;rw[kQ];refine zZ a2 b2 ?_;rcases vF o H.w (i:=(i:Int)+1) (j:=(k:Int)+1) (by omega) (by omega) (by omega) (by omega)with h|h;·grind
  grind
 .rw[List.all_eq_true];intro x F;obtain⟨us,h1,h2⟩:=H.vs x F;have w:=(fS (fun y I=>(H.w.ok.gh.ok _ us h1 y I).id)).1;rw[h2,H.nn,H.w.ok.gh.maj _ us h1];simp;exact w
 .unfold Kg;have h1:A.vs[i]? =some A.vs[i]:=List.getElem?_eq_getElem c;have h2:A.vs[k]? =some A.vs[k]:=List.getElem?_eq_getElem (by omega);rw[h1,h2];have:=(List.pairwise_iff_getElem.1 H.vp) k i (by omega) c l;grind
 .rw[H.nn]at z;unfold Kf;by_cases E:b=0;·rw[E];rfl
  .have r:=H.w.up (a:Int) (by omega) (by omega);have t:=H.w.up (b:Int) (by omega) (by omega);rw[Int.toNat_natCast]at r t;rw[r,t];simp only[Bool.or_eq_true];right;have v:=(H.w.nd (a:Int) (by omega) (by omega)).cm;have F2:=(H.w.nd (b:Int) (by omega) (by omega)).cm;obtain⟨T,J,-⟩:=v;obtain⟨U,M,-⟩:=F2;unfold zF;rw[Bool.and_eq_true,decide_eq_true_eq,kQ];refine⟨⟨J,M⟩,?_⟩;have h:=zZ (List.prefix_refl _) (List.prefix_refl _) (vF o H.w (i:=(a:Int)) (j:=(b:Int)) (by omega) (by omega) (by omega) (by omega));grind
theorem IT(H:LG n g B K R A)(l:1<=i)(o:i<=n):lQ A (dM A.W i)=true:=by
 have T:=H.w.td i l o;unfold lQ;rw[Bool.and_eq_true];refine⟨ml fun a b h j=>?_,?_⟩;·have h1:(dM A.W i).T[a]? =some (dM A.W i).T[a]:=List.getElem?_eq_getElem h;have h2:(dM A.W i).T[b]? =some (dM A.W i).T[b]:=List.getElem?_eq_getElem (by omega);rw[h1,h2];have:=(List.pairwise_iff_getElem.1 T.pw) b a (by omega) h j;grind[dG,dM]
 .rw[List.all_eq_true];intro t k;obtain⟨c,p,q⟩:=T.ct t k;grind
theorem Iq(z:3<=n/\n<=5)(H:LG n g B K R A):(v8 A).isSome=true:=by
 have t:∀(c a:Nat) (b:dU),1<=a->a+c=n+1->b.W=A.W->b.cs=A.cs->(∀k:Nat,a<=k->k<8->b.bo.at k=0/\b.vi.at k=0)->∃h,dt pE (List.range' a c) b=some h:=by
  intro c
  induction c with
  |zero=>intro a b h1 h2 h3 h4 h5;exact⟨b,rfl⟩
  |succ c r=>
   intro a b h1 h2 h3 h4 h5;have l:=H.w.up (a:Int) (by omega) (by omega);rw[Int.toNat_natCast]at l;have N:=H.w.nd (a:Int) (by omega) (by omega);have j:=IT H (i:=(a:Int)) (by omega) (by omega);have p:lQ b (dM A.W (a:Int))=true:=by unfold lQ at j⊢;rw[h4];exact j
   obtain⟨v,w⟩:=h5 a (Nat.le_refl _) (by omega);have o:rN (dM A.W (a:Int))=true:=by unfold rN;rw[N.kn];rfl
   have q:pE b a=some {b with bo:=b.bo.set a (dM A.W (a:Int)).bt,vi:=b.vi.set a (dM A.W (a:Int)).dv}:=by
    unfold pE;rw[h3,l];simp only;have x:=N.bt;have y:=N.ls
    rw[if_pos (by
     show(!decide ((dM A.W (a:Int)).bt<b.bo.at a)&&(!decide ((dM A.W (a:Int)).dv<b.vi.at a)&&(rN (dM A.W (a:Int))&&lQ b (dM A.W (a:Int)))))=true
     rw[o,p,v,w]
     grind)]
    rfl
   rw[List.range'_succ,eG q];refine r (a+1) _ (by omega) (by omega) h3 h4 (fun k k1 k2=>?_);show(b.bo.set a _).at k=0/\(b.vi.set a _).at k=0;rw[E8.set_at _ (by omega),E8.set_at _ (by omega),if_neg (by omega),if_neg (by omega)];grind
 unfold v8;rw[H.nn]
 obtain⟨h,h2⟩:=t n 1 A (Nat.le_refl _) (by omega) rfl rfl (fun k k1 k2=>by
  rw[H.bv.1,H.bv.2,E8.all_at,if_pos k2]
  omega)
 rw[h2];rfl
end
section
variable{n:Nat} {g u X Z:Gh} {i d d' t M M' w i0 j0 p q T x0 la:Int} {dv:Int->Int} {B B' K K' R R':Int} {s s' O Y:dp} {m:dz} {L C Lc:List dj} {e:dj} {W:eW} {A A':dU} {nd:fK} {ns:Ms} {x:dz×List dj} {U:Int->Prop} {D c:Int->Int} {r:Nat} {V a4 a5:Prop}
theorem pG(a:3<=n/\n<=5)(b:jx n t):∀(k:Nat) {r:Nat} {A:dU} {g:Gh},r+k+1<=101->Qr n D r A g->F2 n t w p (ed n A.W)->F3 p (ed n A.W)->F5 n t p (ed n A.W)->∃A' u,mS t (k+1) A=some A'/\Qr n D (r+(k+1)) A' u/\F2 n t w p (ed n A'.W)/\p9 n t (ed n A'.W)
 |0,r,A,g,hr,H,h2,h3,h5=>by
  grind[uN,fL]
 |k+1,r,A,g,hr,H,h2,h3,h5=>by
  obtain⟨l,X,k1,k2,k3,k4,k5,k6⟩:=uN a b (by omega) H h2;obtain⟨A',u,f,o,h,j⟩:=pG a b k (by omega) k2 k3 k4 (k5 h3);refine⟨A',u,?_,by grind,h,j⟩;rw[show k+1+1=1+(k+1) by omega,gy 1 (k+1) (fL k1)];exact f
theorem Dy(b:3<=n/\n<=5)(f:jx n t){k:Nat}(Q:4<=k)(hr:r+k<=100)(H:Qr n D r A g)(h:GQ n t w p (ed n A.W)):∃A' u,mS t k A=some A'/\Qr n D (r+k) A' u/\F2 n t w p (ed n A'.W)/\p9 n t (ed n A'.W):=by obtain⟨G,X,a1,V,a3,a4,a5⟩:=Kl b (by omega) H h;obtain⟨I,Z,b1,b2,b3,b4,-,-⟩:=uN b f (by omega) V ⟨a3,a4,a5⟩;obtain⟨J,P,j,l,o,v,y,-⟩:=uN b f (by omega) b2 b3;obtain⟨a,rfl⟩:∃a,k=3+(a+1):=⟨k-4,by omega⟩;obtain⟨A',u,z,N,E,F⟩:=pG b f a (by omega) l o v (y b4);refine⟨A',u,?_,by grind,E,F⟩;rw[show 3+(a+1)=1+(1+(1+(a+1))) by omega,gy 1 _ (fL a1),gy 1 _ (fL b1),gy 1 _ (fL j)];exact z
theorem Ts.fbc(h:Ts s s')(a:s'.f.has=true):s.f.has=true/\s'.f.bc=s.f.bc:=by
 cases h with
 |inst=>exact⟨a,rfl⟩
 |again=>cases a
 |gath=>exact⟨a,rfl⟩
 |silent=>cases a
 |dec O q h1 h2 h3 h4=>
  obtain⟨b,f,rfl⟩:=dI h4;exact⟨a,rfl⟩
 |late=>cases a
 |ask=>exact⟨a,rfl⟩
 |idle=>grind
def JN(n:Nat)(t:Int)(c:Int->Int)(nd:fK)(_:Ms)(_:Gh):Prop:=∀j:Int,1<=j->j<=n->dg t j=false->(nd j).f.has=true->(nd j).f.bc<=c j
theorem CR:lw n t (JN n t c):=by
 refine⟨fun k nd ns g u O Y k1 k2 H b F v z G j l o a f=>?_,fun nd x ns g u O Y H y b J v z G j l o a=>?_,fun nd x ns g H y b=>b⟩
 .by_cases e:j=k;·rw[e,dc]at f⊢;obtain⟨-,-,-,E,-⟩:=v.eqs;rw[E]at f⊢;obtain⟨h1,h2⟩:=F.fbc f;rw[h2];rw[e]at a;exact b k k1 k2 a h1
  .rw[dl e]at f⊢;exact b j l o a f
 .have I:=(fZ H y).2.1;rw[dl (fun h=>by rw[h,I.2]at a;cases a)];exact b j l o a
def zj(s:Int)(L:dU)(i:Nat):Bool:=dg s (i:Int)||match L.W.sl[i-1]? with
 |some (.up x)=> !jH x
 |_=>false
def Jp(n:Nat)(s:Int)(l:List OpD):Option dU:=(uF n).bind fun A=>(pk (l.take 60) A).bind (mS s 100)
theorem Is(hn:3<=n/\n<=5)(hs:jx n t)(H:Qr n D r A g)(h:F2 n t w p (ed n A.W))(P:p9 n t (ed n A.W)):(dt (rJ t A) (List.range' 1 A.n) 0).isSome=true:=by
 have G:=H.gv hn;have f:=h.gq.pS;have ab:=(fO G f h.gq.ld).2;have S:∀j,dR n t j->(ed n A.W j).mb=t:=fun j b=>by obtain⟨vs,E,v2⟩:=(G.nod j b.1.1 b.1.2).mb (by have:=(h.gq.dv j b).2;omega);obtain⟨us,J,u2⟩:=(G.nod p f.1.1 f.1.2).mb (by have:=(h.gq.dv p f).2;omega);rw[(h.gq.dv j b).2]at E;rw[(h.gq.dv p f).2,E]at J;cases J;rw[v2,<-u2];have N:=G.ok.vs _ vs E;have hT:=(fS (fun y hy=>(N.ok y hy).2.1.id)).1;exact hs.mem (by grind) h.gq.mb
 have aa:∀(k a:Nat) (v:Int),1<=a->a+k=n+1->(v=0\/v=w)->∃r,dt (rJ t A) (List.range' a k) v=some r:=by
  intro k
  induction k with
  |zero=>intro a v _ _ _;exact⟨v,rfl⟩
  |succ k I=>
   intro a v h1 h2 l;rw[List.range'_succ];have F:=H.1.l.w.up (a:Int) (by omega) (by omega);rw[Int.toNat_natCast]at F;have e:ed n A.W (a:Int)=dM A.W (a:Int):=if_pos ⟨by omega,by omega⟩;by_cases o:dg t (a:Int)=true
   .have b:dR n t (a:Int):=⟨⟨by omega,by omega⟩,o⟩;have h3:=P _ b;have h4:=S _ b;have h5:=(h.gq.dv _ b).2;rw[e]at h3 h4 h5;have Q:eC (dM A.W (a:Int))=true:=by unfold jH at h3;rw[Bool.and_eq_true]at h3;exact h3.1
    have z:rJ t A v a=some w:=by unfold rJ;rw[if_pos o,F];simp only;rw[h3,Q,h4,h5];rcases l with l|l<;>simp[l]
    rw[eG z];exact I (a+1) w (by omega) (by omega) (.inr rfl)
   .have z:rJ t A v a=some v:=by unfold rJ;rw[if_neg o]
    rw[eG z];exact I (a+1) v (by omega) (by omega) l
 rw[H.1.l.nn];obtain⟨r,hr⟩:=aa n 1 0 (Nat.le_refl _) (by omega) (.inl rfl);rw[hr];rfl
theorem ED(o:3<=n/\n<=5)(z:jx n t)(l:List OpD)(N:Nat)(hN:N=98):∃A',((uF n).bind fun A=>(pk (l.take 60) A).bind (mS t (1+(1+N))))=some A'/\ES t A'=true/\(List.range' 1 n).all (zj t A')=true:=by
 obtain⟨A,g,h1,h2⟩:=nq o (l.take 60) (uH o) (by grind) (by omega) (by omega);have M0:Md n 600 60 (14*60) (fun i=>(dM A.W i).ck) A g:=⟨h2.l,h2.ot,h2.ph,fun _ _ _=>rfl,h2.pf⟩;have ac:∀i:Int,1<=i->i<=n->(dM A.W i).ck<=60:=fun i E F=>by have:=h2.ck i E F;omega
 obtain⟨A1,X,r1,r2,G⟩:=wn o t M0 (fun i E F=>by grind) (by omega) (by omega)
 have ae:wa n A1.W<=410:=by
  rcases r2 with h|h;·have h3:=Am (n:=n) (f:=fun i=>dV (dM A1.W i)) (m:=64) G.ot;unfold wa;rw[h];have h0:wL []=0:=rfl;omega
  .omega
 have M1:Md n (600+10*n) 61 410 (fun i=>(dM A.W i).ck+1) A1 X:=⟨G.l,G.ot,ae,G.ck,G.pf⟩;obtain⟨v,Z,O,Y,s3⟩:=wn o t M1 (fun i E F=>by grind) (by omega) (by omega)
 have ad:v.W.ns=[]:=by
  rcases Y with h|h;·exact h
  .omega
 have I:Qr n (fun i=>(dM A.W i).ck) 2 v Z:=by refine⟨⟨s3.l.up (by omega) (by omega),s3.ot,fun i E F=>?_,s3.pf,ad⟩,ac⟩;rw[s3.ck i E F];show(dM A.W i).ck+1+1=(dM A.W i).ck+((2:Nat):Int);omega
 have af:∃k b y w p,k<=67/\mS t k v=some b/\Qr n (fun i=>(dM A.W i).ck) (2+k) b y/\GQ n t w p (ed n b.W):=by
  have hV:∀{k:Nat} {b:dU} {y:Gh},k<=66->mS t k v=some b->Qr n (fun i=>(dM A.W i).ck) (2+k) b y->VS n t (ed n b.W)->∃k b y w p,k<=67/\mS t k v=some b/\Qr n (fun i=>(dM A.W i).ck) (2+k) b y/\GQ n t w p (ed n b.W):=fun{k b y} hk a1 V a3=>by obtain⟨w,p,H,J,b1,b2,b3⟩:=GN o z (by omega) V a3;refine⟨k+1,H,J,w,p,by omega,?_,by omega,b3⟩;rw[gy k 1 a1];exact fL b1
  rcases Lo o ⟨z.is,z.most,z.le⟩ (by omega) I with⟨k,b,y,k1,k2,k3,k4⟩|⟨k,b,y,M,p,k1,k2,k3,k4⟩;·grind
  .rcases GL o (by omega) k3 k4 with⟨k',H,J,Q,S,l3,l4⟩|⟨H,J,Q,S,l3⟩;·grind[Nat.add_assoc,gy]
   .refine⟨k+1,H,J,M,p,by omega,?_,by omega,l3⟩;rw[gy k 1 k2];exact fL Q
 obtain⟨k,b,y,w,p,k1,k2,k3,k4⟩:=af;obtain⟨A',u,Q,S,l3,l4⟩:=Dy o z (k:=N-k) (by omega) (by omega) k3 k4;have aa:mS t N v=some A':=by have:=gy k (N-k) k2;rw[show k+(N-k)=N by omega]at this;rw[this];exact Q
 have P:Qr n (fun i=>(dM A.W i).ck) 100 A' u:=by rw[show 2+k+(N-k)=100 by omega]at S;exact S
 refine⟨A',?_,?_,?_⟩;·rw[x' o,Option.bind_some,h1,Option.bind_some,gy 1 _ (fL r1),gy 1 _ (fL O)];exact aa
 .unfold ES;rw[Is o z P l3 l4,Kh o P.1.l,Iq o P.1.l];rfl
 .
  obtain⟨ag,ah,m1,m2,m3⟩:=im o (CR (c:=fun j=>(ed n v.W j).ck)) N (by omega) I (fun j j1 j2 _ _=>by
   have e:ed n v.W j=dM v.W j:=if_pos ⟨j1,j2⟩;rw[e];show(dM v.W j).f.bc<=(ed n v.W j).ck;rw[e]
   exact(I.1.l.w.nb j j1 j2).bc.2)
  rw[aa]at m1
  cases m1
  rw[List.all_eq_true]
  intro a ha
  rw[List.mem_range'_1]at ha
  have ab:=P.1.l.w.up (a:Int) (by omega) (by omega)
  rw[Int.toNat_natCast]at ab
  unfold zj
  cases hT:dg t (a:Int)with
  |true=>rfl
  |false=>
   rw[ab];simp only[Bool.false_or,Bool.not_eq_true'];have e:ed n A'.W (a:Int)=dM A'.W (a:Int):=if_pos ⟨by omega,by omega⟩;have h3:=m3 (a:Int) (by omega) (by omega) hT;have h4:=(m2.at (i:=(a:Int)) (by omega) (by omega)).1;have h5:=(I.at (i:=(a:Int)) (by omega) (by omega)).1;grind[jH,ts,rn,dM,ed]
theorem Ij(a:3<=n/\n<=5)(b:jx n t)(l:List OpD):∃A',Jp n t l=some A'/\ES t A'=true/\(List.range' 1 n).all (zj t A')=true:=ED a b l 98 rfl
end
section
variable{w G:World} {o D:Ow} {u:Nat} {A A':my} {L L':dU}
def OpOk(b:OpD):Prop:=I64 b.fn/\I64 b.a/\I64 b.n/\I64 b.od/\I64 b.lv/\b.da.size<=9223372036854775807
abbrev LK(b:OpD):Value:=lm b.fn b.a b.n b.od b.lv b.da
def FF(b:OpD):Prop:=b.fn=6\/b.fn=7\/b.fn=9
def KZ(L:dU):Prop:=∀i:Nat,1<=i->i<=L.n->∃s,L.W.sl[i-1]? =some (.up s)
theorem KZ.who(h:KZ L)(a:Int):CZ L a:=by
 by_cases h1:a<1;·exact .inl h1
 by_cases h2:(L.n:Int)<a;·exact .inr (.inl h2)
 exact .inr (.inr ⟨a.toNat,by omega,by omega,h a.toNat (by omega) (by omega)⟩)
theorem AR(da:ByteArray):(gX da).size<=18:=by
 unfold gX;split;·assumption
 .rw[ByteArray.size_extract];omega
theorem Ef(g:Cl w o)(h:gJ w o u A L)(F:KZ L){b:OpD}(C:OpOk b)(y:¬FF b)(d:uf L b=some L'):
  Calls Tryz.prog 16 #[de u,LK b] w fun e f=>∃z:Int,e=.returned (.int .i64 z)/\∃H A',gJ f H u A' L'/\Fm iy o H w f:=by
 obtain⟨v,a,k,t,p,m⟩:=b;change Calls Tryz.prog 16 #[de u,lm v a k t p m] w _;have n:=h.q.nn;unfold FF at y;simp only[not_or]at y;obtain⟨k6,k7,P⟩:=y;unfold uf at d;simp only at d;rw[if_neg (by omega)]at d;have j:=F.who a;split at d;·rename_i h1;subst h1;exact(zK g h j d).mono (fun e f x=>⟨0,x⟩)
 rename_i Q;split at d
 .rename_i h2;subst h2;split at d;·rename_i hr;obtain⟨i,rfl⟩:∃i:Nat,a=(i:Int):=⟨a.toNat,by omega⟩;rw[Int.toNat_natCast]at d;exact(rt g h (by omega) d).mono (fun e f x=>⟨0,x⟩)
  .rename_i hr;exact(gz (z:=8) g h ⟨by decide,by decide,by decide⟩ j (.inr (.inl ⟨rfl,by omega⟩)) n (fun w o c r=>sD c r (.inl rfl) (by omega)) d).mono (fun e f x=>⟨8,x⟩)
 rename_i R;split at d
 .rename_i I;split at d
  .rename_i l;obtain⟨i,rfl⟩:∃i:Nat,k=(i:Int):=⟨k.toNat,by unfold qk at l;simp only[Bool.and_eq_true,decide_eq_true_eq]at l;omega⟩;rw[Int.toNat_natCast]at d;rcases I with h3|h4;·subst h3;rw[decide_eq_false (by decide)]at d;exact(zL g h j d).mono (fun e f x=>⟨0,x⟩)
   .subst h4;rw[decide_eq_true (by decide)]at d;exact(zM g h j d).mono (fun e f x=>⟨0,x⟩)
  .rename_i l;exact(gz (z:=3) g h ⟨by omega,by omega,by omega⟩ j (.inl ⟨by omega,by omega⟩) n (fun w o c r=>sF c r (by omega) (by simpa using l)) d).mono (fun e f x=>⟨3,x⟩)
 rename_i S;split at d
 .rename_i h5;subst h5;split at d;·rename_i l;obtain⟨i,rfl⟩:∃i:Nat,k=(i:Int):=⟨k.toNat,by unfold qk at l;simp only[Bool.and_eq_true,decide_eq_true_eq]at l;omega⟩;rw[Int.toNat_natCast]at d;exact(H0 g h j d).mono (fun e f x=>⟨0,x⟩)
  .rename_i l;exact(gz (z:=3) g h ⟨by decide,by decide,by decide⟩ j (.inl ⟨by decide,by decide⟩) n (fun w o c r=>sF c r (by omega) (by simpa using l)) d).mono (fun e f x=>⟨3,x⟩)
 rename_i T;split at d
 .rename_i h8;subst h8;by_cases hr:1<=a/\a<=(L.n:Int)
  .obtain⟨i,rfl⟩:∃i:Nat,a=(i:Int):=⟨a.toNat,by omega⟩;split at d;·rw[Int.toNat_natCast]at d;exact(Ia g h rfl (by omega) d).mono (fun e f x=>⟨0,x⟩)
   .rename_i E;obtain⟨s,B⟩:=F i (by omega) (by omega);have N:dM L.W (i:Int)=s:=by unfold dM;rw[Int.toNat_natCast,B]
    have J:AJ s t p (gX m)=false:=by rw[N]at E;simpa [hr]using E
    obtain⟨x,c,O,-,-,q,-⟩:=h.q.wr.up (i:=i) (by omega) B;have V:=q.ok.id;have W:=q.ok.bt;have X:=q.ok.sq;have Y:=q.ok.n;have K:eQ ⟨s.id,s.bt,s.sq+1,t,p,0,gX m⟩:=⟨by unfold I64;simp only;omega,by unfold I64;simp only;omega,by unfold I64;simp only;omega,C.2.2.2.1,C.2.2.2.2.1,by unfold I64;simp only;omega,by have:=AR m;show(gX m).size<=_;omega⟩;refine(gz (z:=lz s t p (gX m)) g h ⟨by decide,by decide,by decide⟩ j (.inr (.inr ⟨rfl,vq _ _ _ _⟩)) n (fun w o c r=>wR c r (by omega) B K J) d).mono (fun e f x=>⟨_,x⟩)
  .rw[if_neg (by omega)]at d;exact(gz (z:=8) g h ⟨by decide,by decide,by decide⟩ j (.inr (.inr ⟨rfl,by decide⟩)) n (fun w o c r=>sD c r (.inr rfl) (by omega)) d).mono (fun e f x=>⟨8,x⟩)
 rename_i U;have M:v<1\/9<v:=by omega
 exact(gz (z:=1) g h ⟨by omega,by omega,by omega⟩ j (.inl ⟨by omega,by omega⟩) n (fun w o c r=>yV c r M) d).mono (fun e f x=>⟨1,x⟩)
end
section
variable{p:Option Addr} {l:List OpD} {n cap:Nat}
open Go Go.Sort Go.RowKit Go.Deep Go.ChangeShapes Go.WideShapes
theorem qX{σ α:Type}{F:σ->α->Option σ}{b:α}:∀(l:List α) (s:σ),dt F (l++[b]) s=(dt F l s).bind fun c=>F c b
 |[],s=>by
  show(match F s b with|none=>none|some c=>some c)=F s b;cases F s b<;>rfl
 |a::l,s=>by
  show(match F s a with|none=>none|some c=>dt F (l++[b]) c)=(match F s a with|none=>none|some c=>dt F l c).bind _
  cases F s a with
  |none=>rfl
  |some c=>exact qX l c
theorem G6(a:3<=n/\n<=5){j:Nat}(r:j<60){b:OpD}(g:l[j]? =some b){L:dU}(h:pk (l.take j) (A0 n)=some L):KZ L/\∃c,uf L b=some c/\pk (l.take (j+1)) (A0 n)=some c:=by
 obtain⟨k,m,h1,d⟩:=nq a (l.take j) (uH a) (by rw[List.length_take];omega) (by omega) (by omega);obtain⟨f,q,h2,-⟩:=nq a (l.take (j+1)) (uH a) (by rw[List.length_take];omega) (by omega) (by omega);rw[h]at h1;cases h1;have e:pk (l.take (j+1)) (A0 n)=uf L b:=by rw[List.take_add_one,g];show dt uf (l.take j++[b]) (A0 n)=_;rw[qX];show(pk (l.take j) (A0 n)).bind _=_;rw[h];rfl
 refine⟨fun i s t=>⟨dM L.W (i:Int),?_⟩,f,by rw[<-e];exact h2,h2⟩;·have:=d.l.w.up (i:Int) (by omega) (by have:=d.l.nn;omega);rwa[Int.toNat_natCast]at this
theorem Bu{s:Nat}(c:3<=n/\n<=5)(e:s<2^n):jx n (jb n n (s:Int) 0):=by
 obtain⟨g,r,i⟩:=Ez c e;have h5:2^n<=2^5:=Nat.pow_le_pow_right (by decide) c.2;refine⟨⟨g,by omega⟩,i,fun j d f=>?_⟩;generalize jb n n (s:Int) 0=t at*;have h:∀(n:Fin 6) (t:Fin 32) (j:Fin 8),3<=n.1->t.1<2^n.1->1<=j.1->dg (t.1:Int) (j.1:Int)=true->j.1<=n.1:=by decide+kernel
 obtain⟨m,q⟩:=d;obtain⟨b,rfl⟩:∃b:Nat,t=(b:Int):=⟨t.toNat,by omega⟩;obtain⟨a,rfl⟩:∃a:Nat,j=(a:Int):=⟨j.toNat,by omega⟩;have:=h ⟨n,by omega⟩ ⟨b,by omega⟩ ⟨a,by omega⟩ c.1 (by show b<2^n;omega) (by show 1<=a;omega) f;have k:a<=n:=this;omega
abbrev opE(b:OpD):List Value:=nk b.fn b.a b.n b.od b.lv b.da
theorem KP{r:List Value}{a b c d e f:Value}(h:r.length=6)(g:r[0]? =some a)(h1:r[1]? =some b)(h2:r[2]? =some c)(h3:r[3]? =some d)(h4:r[4]? =some e)(h5:r[5]? =some f):r=[a,b,c,d,e,f]:=by
 match r,h with
 |[x,y,z,u,v,t],_=>simp_all
theorem sts_of_arg{H:Type}{kF:TypeId×Value->H}{w:World}{base:Nat}{M:Nat->Bool}{I:Bool}{fuel:Nat}{x:DataW H×List MemPlace}
  (h:DataW.trod kF Tryz.prog w base M I fuel 22 [.slice p n cap]=some x):∃b:List OpD,SlS 6 w p n cap (b.map opE)/\∀o∈b,OpOk o:=by
 obtain⟨L,c,hr⟩:=yw Tryz.underlying22 Tryz.underlying28 (by kernel_rfl) (by kernel_rfl) (by decide) h
 obtain⟨b,rfl,J⟩:=ro (E:=opE) (ok:=OpOk) L (fun r a=>by
  obtain⟨P,y0,Z,g0,m⟩:=hr r a 0 _ rfl;obtain⟨Q,y1,m1,y,q⟩:=hr r a 1 _ rfl;obtain⟨R,y2,m2,z,s⟩:=hr r a 2 _ rfl;obtain⟨S,y3,m3,B,t⟩:=hr r a 3 _ rfl;obtain⟨T,y4,m4,C,u⟩:=hr r a 4 _ rfl;obtain⟨U,y5,m5,F,v⟩:=hr r a 5 _ rfl;obtain⟨e,K,-,V⟩:=DataW.trod_int Tryz.underlying3 m;obtain⟨f,k1,-,W⟩:=DataW.trod_int Tryz.underlying3 q;obtain⟨g,k2,-,X⟩:=DataW.trod_int Tryz.underlying3 s;obtain⟨i,k3,-,Y⟩:=DataW.trod_int Tryz.underlying3 t;obtain⟨j,k4,-,N⟩:=DataW.trod_int Tryz.underlying3 u;obtain⟨k,k5,-,d⟩:=DataW.trod_string Tryz.underlying9 v;obtain rfl:P=.int .i64 e:=by simpa using K
  obtain rfl:Q=.int .i64 f:=by simpa using k1
  obtain rfl:R=.int .i64 g:=by simpa using k2
  obtain rfl:S=.int .i64 i:=by simpa using k3
  obtain rfl:T=.int .i64 j:=by simpa using k4
  obtain rfl:U=.string k:=by simpa using k5
  exact⟨⟨e,f,g,i,j,k⟩,KP (c.wid r a) g0 y z B C F,bounds_i64 V,bounds_i64 W,bounds_i64 X,bounds_i64 Y,bounds_i64 N,by unfold maxLen at d;exact d⟩)
 exact⟨b,c,J⟩
variable{w N:World} {o O:Ow} {G D:Nat} {A A':my} {L L':dU}
theorem yG{x y:Int}{k:Nat}(B:ov=true)(i:SlS 6 w p k cap (l.map opE))(aD:∀b∈l,OpOk b):
  Calls Tryz.prog 3 #[.int .i64 x,.int .i64 y,.slice p k cap] w fun e w'=>e=.returned (.bool true)/\Below w.heap.size w w':=by
 obtain⟨n,hn⟩:∃n:Nat,3+iL x 3=(n:Int):=⟨(3+iL x 3).toNat,by have:=iM (x:=x) (show(0:Int)<3 by decide);omega⟩;have m:3<=n/\n<=5:=by have:=iM (x:=x) (show(0:Int)<3 by decide);omega
 obtain⟨-,a',ba⟩:=Js (n:=n) ⟨m.1,by omega⟩;obtain⟨s0,aG⟩:∃s0:Nat,iL y ((2^n:Nat):Int)=(s0:Int):=⟨(iL y ((2^n:Nat):Int)).toNat,by have:=iM (x:=y) (show(0:Int)<((2^n:Nat):Int) by omega);omega⟩;have aH:s0<2^n:=by have:=iM (x:=y) (show(0:Int)<((2^n:Nat):Int) by omega);omega
 have TS:=Bu m aH;have MS:=hI (fun w=>yF y n m w);rw[aG]at MS;obtain⟨s,S⟩:∃s,jb n n (s0:Int) 0=s:=⟨_,rfl⟩;rw[S]at MS TS;have ae:=TS.is;obtain⟨Lf,hm,aF,aA⟩:=Ij m TS l;have aj:l.length=k:=by have:=i.len;rwa[List.length_map]at this
 unfold Jp at hm;rw[x' m,Option.bind_some]at hm;obtain⟨aX,ah,ag⟩:=Option.bind_eq_some_iff.1 hm;have ao:=hI ah
 have aR:Hid (Lf.n=n):=hI (by
  obtain⟨A1,g1,h1,d1⟩:=nq m (l.take 60) (uH m) (by rw[List.length_take];omega) (by omega) (by omega);rw[ah]at h1;cases h1
  exact(Ji _ _ _ ag).trans d1.l.nn)
 have al:=hI ag;have HO:=hI aF;have HD:=hI aA;have ap:=hI (x' m);have aS:=hI aD
 have ar:Hid (0<k->fJ 6 w (fun _=>0) p k cap (l.map opE)):=hI (fun g=>⟨i,fun b B=>by
  obtain⟨bb,oo,r,hp,-,hl,hc⟩:=i.at 0 g;rw[hp]at B;cases B;have h6:r[0]? =some (r[0]'(by omega)):=List.getElem?_eq_getElem (by omega)
  exact⟨World.block_lt_of_cell? _ _ (hc 0 _ h6),rfl⟩⟩)
 have ai:=Nat.le_trans i.le i.max;have aP:=hI aj;have BG:=yB (w:=w) (o:=fun _=>0) (fun _ _=>rfl) B;have af:=hI (fun w=>tU x 3 (by decide) w);have aI:=iM (x:=x) (show(0:Int)<3 by decide);obtain⟨sx,aJ⟩:∃sx,sx=iL x 3:=⟨_,rfl⟩;rw[<-aJ]at af hn aI;have aq:=hI hn;have aO:=hI ai;clear hn S aG aH a' ba TS hm aF aA aj ah ag aD i aJ B ai;go_enter Tryz.func3,Tryz.ntmps3;go_wp2_with fail;refine BG.mono ?_;rintro e w1 ⟨rfl,o1,m1⟩;have ac:Hid (0<k->fJ 6 w1 o1 p k cap (l.map opE)):=hI (fun g=>(ar.o g).fr m1 gF);have P:=m1.mono kW;clear m1 BG ar;go_wp2_with fail;refine(af.o _).mono ?_;rintro e be ⟨rfl,rfl⟩;clear af;go_upto_region 5 with fail;rw[aq.o];clear aq aI;go_wp2_with fail;refine(MS.o _).mono ?_;rintro e w2 ⟨rfl,x2⟩;replace ac:Hid (0<k->fJ 6 w2 o1 p k cap (l.map opE)):=hI (fun g=>(ac.o g).ext x2);replace P:=P.tr (Fm.ext P.cl x2) jP;clear x2 MS;go_wp2_with fail;refine(Cs P.cl ⟨m.1,by omega⟩ ap.o).mono ?_;rintro e w3 ⟨G,D,X,A3,rfl,Y,m3⟩;have ad:Hid (0<k->fJ 6 w3 X p k cap (l.map opE)):=hI (fun g=>(ac.o g).fr m3 jP);have M3:=P.tr m3 jP;clear m3 P ac ap;go_wp2;go_loopw [9] (fun v T=>∃(j:Nat) (J:Ow) (Aa:my) (U:dU),j<=k/\j<=60/\v=.int .i64 (j:Int)/\mA T J G D Aa U/\pk (l.take j) (A0 n)=some U/\(0<k->fJ 6 T J p k cap (l.map opE))/\Fm nZ (fun _=>0) J w T) (fun v _=>60-(intOf v).toNat);case atStart=>exact⟨0,X,A3,A0 n,by omega,by omega,rfl,Y,rfl,ad.o,M3⟩
 case round=>
  clear Y M3 ad;obtain⟨j,J,Aa,U,hj,bd,rfl,c,hf,i,d⟩:=hrel;have HF:=hI hf;have u:=hI i;have ai:=aO.o;clear hf i;by_cases aB:j<k/\j<60
  .obtain⟨R,aw⟩:=aB;have e5:=dT ((j:Int)<(k:Int));have av:=dT (j<k) R;have e6:=dT ((j:Int)<60);have aY:=dT (j<60) aw;have SC:=u.o (by omega);obtain⟨bb,oo,r,hp,hr,a9,F⟩:=SC.sl.at j R;rw[List.getElem?_map]at hr;obtain⟨b,B,a7⟩:=Option.map_eq_some_iff.1 hr;obtain⟨aV,Lb,ay,az⟩:=G6 m aw B HF.o;have am:=hI ay;have an:=hI az;have aM:=aS.o b (List.mem_of_getElem? B);obtain⟨f,a,H,M,I,E⟩:=b;subst a7 hp;have e0:wr.cell? ⟨bb,oo+j*6,none⟩=_:=F 0 _ rfl;have e1:=F 1 _ rfl;have e2:=F 2 _ rfl;have e3:=F 3 _ rfl;have e4:=F 4 _ rfl;have au:=F 5 _ rfl;simp only[]at e0 e1 e2 e3 e4 au;clear F hr B ay az SC a9;go_upto_region 11 with fail;change Code.wp _ _ _ _ (wr.alloc (.cells (eX f a H M I E) 28));have A0:=db.alloc wr (.cells (eX f a H M I E) 28);have t:=dq.loose d.cl (eX f a H M I E) (nk f a H M I E) 28 rfl;replace c:=c.ext A0;replace u:Hid (0<k->fJ 6 (wr.alloc (.cells (eX f a H M I E) 28)) J _ k cap (l.map opE)):=hI (fun g=>(u.o g).ext A0);replace d:=d.tr (Fm.ext d.cl A0) jP;clear A0 e0 e1 e2 e3 e4 au;generalize wr.alloc (.cells (eX f a H M I E) 28)=w1 at*;generalize wr.heap.size=sb at*;have d0:=t.box.c 0 _ rfl;by_cases W:f=6\/f=7\/f=9
   .have Z:Hid (U=Lb):=hI (by
     have:=am.o;unfold uf at this;rw[if_pos W]at this
     exact Option.some.inj this)
    rw[Z.o]at c;have q6:(f==6||(f==7||f==9))=true:=by simpa using W
    rcases W with S|S|S
    all_goals
     subst S;go_wp2;go_roundw;case rel=>exact⟨j+1,J,Aa,Lb,by omega,by omega,by go_num,c,an.o,u.o,d⟩
     case measure=>simp[intOf];omega
   .have k6:(f==6)=false:=by simp;omega
    have k7:(f==7)=false:=by simp;omega
    have k9:(f==9)=false:=by simp;omega
    have aT:Hid (¬FF ⟨f,a,H,M,I,E⟩):=hI W;clear W;go_upto_region 12 with fail;clear d0;obtain⟨C,hW,V⟩:=eS w1;replace c:=c.ext V;replace t:=t.ext V;have a6:=rg C (c.box.box.c 0 _ rfl);have a0:=rg C (t.box.c 0 _ rfl);have a1:=rg C (t.box.c 1 _ rfl);have a2:=rg C (t.box.c 2 _ rfl);have a3:=rg C (t.box.c 3 _ rfl);have a4:=rg C (t.box.c 4 _ rfl);have a5:=rg C (t.box.c 5 _ rfl);refine eA [0,1,2,3,4] [5] ?_;rw[<-hW];clear hW;repeat((first|refine dC fun K Q=>?_|refine dB fun K Q=>?_);go_big_quiet_op;refine Q _ ?_;clear Q K)
    replace u:Hid (0<k->fJ 6 C J _ k cap (l.map opE)):=hI (fun g=>(u.o g).ext V);have M2:=d.tr (Fm.ext d.cl V) jP;refine dh ?_;refine iD fun K Q=>?_;go_simp;refine(Ef M2.cl c.lv aV aM aT.o am.o).mono ?_;rintro e w3 ⟨z,rfl,X,A3,h3,f3⟩;have Y:=c.go f3 h3;have ad:Hid (0<k->fJ 6 w3 X _ k cap (l.map opE)):=hI (fun g=>(u.o g).fr f3 gF);have M3:=M2.tr (f3.mono kW) jP;clear h3 f3 c M2 d V a6 a0 a1 a2 a3 a4 a5 u;refine Q _ _ ?_;clear Q K;refine df ?_;go_wp2;go_roundw;case rel=>exact⟨j+1,X,A3,Lb,by omega,by omega,by go_num,Y,an.o,ad.o,M3⟩
    case measure=>simp[intOf];omega
  .have Z:Hid (U=aX):=hI (by
    have h1:=HF.o;have h2:=ao.o;have aj:=aP.o
    have ht:l.take j=l.take 60:=by
     rcases Nat.lt_or_ge j 60 with h|h
     .have:j=k:=by omega
      rw[List.take_of_length_le (by omega),List.take_of_length_le (by omega)]
     .rw[show j=60 by omega]
    rw[ht,h2]at h1
    exact(Option.some.inj h1).symm)
   rw[Z.o]at c;have a8:(¬j<k)\/(j<k/\¬j<60):=by omega
   clear HF ao Z u aB;rcases a8 with h1|⟨h1,h2⟩;case' inl=>have e5:=dF ((j:Int)<(k:Int));have av:=dF (j<k) h1
   case' inr=>have e5:=dT ((j:Int)<(k:Int));have av:=dT (j<k) h1;have e6:=dF ((j:Int)<60);have aY:=dF (j<60) h2
   all_goals
    go_wp2_with fail;refine(yA (n:=100) d.cl c ae (by decide) al.o).mono ?_;rintro e N ⟨rfl,O,A4,H4,m4⟩;have M4:=d.tr m4 jP;clear m4 c d al;go_wp2_with fail;refine(Ge M4.cl H4 ae HO.o).mono ?_;rintro e w5 ⟨rfl,o5,A5,L2,H5,aE,m5⟩;obtain⟨aK,aC⟩:=zT _ _ _ aE;have aW:=hI aK;have aQ:=hI (aC.trans aR.o);have M5:=M4.tr m5 jP;clear m5 aE aK aC H4 M4 HO;go_wp2;go_loopw [11] (fun v T=>∃a:Nat,1<=a/\a<=n+1/\v=.int .i64 (a:Int)/\mA T o5 G D A5 L2/\Fm nZ (fun _=>0) o5 w T) (fun v _=>n+1-(intOf v).toNat);case atStart=>exact⟨1,by omega,by omega,rfl,H5,M5⟩
    case round=>
     clear H5 M5;obtain⟨a,ax,bc,rfl,c,d⟩:=hrel;by_cases R:a<=n
     .have e7:=dT ((a:Int)<=(n:Int));have aZ:=dT (a<=n) R;have q:=List.all_eq_true.1 HD.o a (List.mem_range'_1.2 ⟨ax,by omega⟩);have aL:Hid (1<=a/\a<=L2.W.n):=hI ⟨ax,by rw[c.lv.q.nn,aQ.o];exact R⟩;have RH:=hI (fun w=>mr s (a:Int) ae ⟨by omega,by omega⟩ w);unfold zj at q;rw[<-aW.o]at q;have HQ:=hI q;clear q;go_wp2_with fail;refine(RH.o _).mono ?_;rintro e w9 ⟨rfl,x9⟩;replace c:=c.ext x9;replace d:=d.tr (Fm.ext d.cl x9) jP;clear x9 RH;cases hh:dg s (a:Int)
      .have q:=HQ.o;rw[hh,Bool.false_or]at q;split at q;case h_2=>cases q
       rename_i xn i;have aU:=hI i;have aN:Hid (jH xn=false):=hI (by simpa using q);have t0:=c.box.box.c 0 _ rfl;have c0:=c.lv.box.box.c 0 _ rfl;clear q i hh;go_wp2_with fail;refine(eu c.lv.q.wr aL.o aU.o).mono ?_;rintro e bf ⟨xx,cc,AA,rfl,-,-,nd,-,-,-,rfl⟩;have GG:=mc nd;rw[aN.o]at GG;clear nd t0 c0;go_wp2_with fail;refine GG.mono ?_;rintro e bg ⟨rfl,ak⟩;replace c:=c.ext ak;replace d:=d.tr (Fm.ext d.cl ak) jP;clear ak GG;go_wp2;go_roundw;case rel=>exact⟨a+1,by omega,by omega,by go_num,c,d⟩
       case measure=>simp[intOf];omega
      .clear hh;go_wp2;go_roundw;case rel=>exact⟨a+1,by omega,by omega,by go_num,c,d⟩
       case measure=>simp[intOf];omega
     .have e7:=dF ((a:Int)<=(n:Int));have aZ:=dF (a<=n) R;go_wp2;go_ret;exact⟨rfl,d.all jP⟩
theorem Dg:ov=true:=by decide+kernel
theorem walk_TopMost{x y:Int}(d:I64 x)(f:I64 y)(h:SlS 6 w p n cap (l.map opE))(a:∀b∈l,OpOk b):
 Calls Tryz.prog 3 #[.int .i64 x,.int .i64 y,.slice p n cap] w fun e c=>e=.returned (.bool true)/\Below w.heap.size w c:=yG Dg h a
end
end Go.Proofs.YtjhbmbbmjaabcaaGreat
