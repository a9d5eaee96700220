/-
  Contracts. Conditions stand at each.
-/
import Derived.Test.YtjhbmbbmjaabcaaGreatS34
set_option linter.all false
set_option maxRecDepth 8000
set_option maxHeartbeats 8000000
namespace Go.Proofs.YtjhbmbbmjaabcaaGreat
open Go Go.Sort Go.RowKit
section
variable{n:Nat} {g G N O:Gh} {i d X:Int} {dv:Int->Int} {B B' K K' R V:Int} {s s' u D:dp} {m:dz} {L C:List dj} {e:dj} {W:eW} {A A':dU}
abbrev Ms:=List (dz×List dj)
abbrev fK:=Int->dp
def Le:dp:=uG 1 3 1 0
def ed(n:Nat)(W:eW):fK:=fun j=>if 1<=j/\j<=n then dM W j else Le
def dO(nd:fK)(i:Int)(s:dp):fK:=fun j=>if j=i then s else nd j
theorem dc(nd:fK)(i:Int)(s:dp):dO nd i s i=s:=if_pos rfl
theorem dl{nd:fK}{j:Int}(h:j≠i):dO nd i s j=nd j:=if_neg h
theorem zR(b:1<=i/\i<=n)(c:W.sl[i.toNat-1]?.isSome=true){ns:Ms}:ed n (fW W i s ns)=dO (ed n W) i s:=by
 funext j;unfold ed dO;simp only;by_cases a:1<=j/\j<=n;·rw[if_pos a,if_pos a,eN b.1 a.1 c]
 grind
def wW(nd:fK):Int->Int:=fun j=>(nd j).dv
theorem qQ(W:eW):wW (ed n W)=lh n W:=by funext j;unfold wW ed lh;split<;>rfl
structure GV (n:Nat) (g:Gh) (nd:fK) (ns:Ms):Prop where
 ok:iH n g (wW nd)
 nod:∀i:Int,1<=i->i<=n->fU n g (wW nd) (nd i)
 id:∀i:Int,1<=i->i<=n->(nd i).id=i
 nb:∃B,∀i:Int,1<=i->i<=n->jY B 300 (nd i)
 out:∀i:Int,1<=i->i<=n->(nd i).out=[]
 ms:∀x∈ns,kh n g (wW nd) x
 pf:∀i:Int,1<=i->i<=n->NP i (nd i)
structure Md (n:Nat) (B R:Int) (f:Nat) (c:Int->Int) (A:dU) (g:Gh):Prop where
 l:LG n g B 300 R A
 ot:∀i:Int,1<=i->i<=n->dV (dM A.W i)<=64
 ph:wa n A.W<=f
 ck:∀i:Int,1<=i->i<=n->(dM A.W i).ck=c i
 pf:∀i:Int,1<=i->i<=n->NP i (dM A.W i)
theorem Md.gv{f:Nat}{c:Int->Int}(H:Md n B R f c A g):GV n g (ed n A.W) A.W.ns:=by have h:∀i:Int,1<=i->i<=n->ed n A.W i=dM A.W i:=fun i a b=>if_pos ⟨a,b⟩;refine⟨by rw[qQ];exact H.l.w.ok,fun i a b=>by rw[qQ,h i a b];exact H.l.w.nd i a b,fun i a b=>by rw[h i a b];exact H.l.w.id i a b,⟨B,fun i a b=>by rw[h i a b];exact H.l.w.nb i a b⟩,fun i a b=>by rw[h i a b];exact H.l.w.out i a b,fun x j=>by rw[qQ];exact H.l.w.ms x j,fun i a b=>by rw[h i a b];exact H.pf i a b⟩
theorem se(t:3<=n/\n<=5)(Q:Prop)(I:Int->fK->Ms->Gh->Prop)(S:∀(k:Int) (nd:fK) (ns J:Ms) (g G:Gh) (u D:dp),1<=k->k<=n->GV n g nd ns->I k nd ns g->Ts (ei (nd k)) u->Sd u D->(Q->J=ns++u.out)->GV n G (dO nd k D) J->i8 n k (wW nd k) g G->I (k+1) (dO nd k D) J G):∀(c a:Nat) {B:Int} {f:Nat} {l:Int->Int} {A:dU} {g:Gh},1<=a->a+c=n+1->Md n B R f l A g->(Q->f+14*c<=400)->B+10*c<=80000->(∀i:Int,a<=i->i<=n->l i+1<=300)->I a (ed n A.W) A.W.ns g->∃A' G,dt mQ (List.range' a c) A=some A'/\Md n (B+10*c) R (f+14*c) (fun i=>if(a:Int)<=i then l i+1 else l i) A' G/\I ((n:Int)+1) (ed n A'.W) A'.W.ns G
 |0,a,B,f,l,A,g,h1,h2,H,hf,hB,y,Y=>by
  refine⟨A,g,rfl,⟨H.l.up (by omega) (Int.le_refl _),H.ot,by have:=H.ph;omega,fun i i1 i2=>?_,H.pf⟩,by grind⟩;show _=if(a:Int)<=i then l i+1 else l i;rw[if_neg (by omega)];exact H.ck i i1 i2
 |c+1,a,B,f,l,A,g,h1,h2,H,hf,hB,y,Y=>by
  have b:1<=(a:Int)/\(a:Int)<=n:=by omega
  have F:=H.l.w.up (a:Int) b.1 b.2;have z:A.W.sl[(a:Int).toNat-1]?.isSome=true:=by rw[F];rfl
  obtain⟨u,D,N,r,k1,k2,k3,k4,k5,k6,k7,k8⟩:=wB t H.l b (by omega) (by rw[H.ck _ b.1 b.2];exact y _ (Int.le_refl _) b.2);have hv:=H.l.w.nd (a:Int) b.1 b.2;have ac:=k2.kp (fun w vs hw=>(hv.v w vs hw).2.2.1);have hw:=k2.w;have aa:=k2.oth (H.ot _ b.1 b.2);have ae:(ei (dM A.W (a:Int))).out=[]:=H.l.w.out _ b.1 b.2;have h0:wL (ei (dM A.W (a:Int))).out=0:=by rw[ae];rfl
  have ai:dV (ei (dM A.W (a:Int)))=dV (dM A.W (a:Int)):=rfl;have aj:=(pL u.out).1;have al:=(pL A.W.ns).1;have am:=H.ph;have an:wa n A.W=wL A.W.ns+mF n fun i=>dV (dM A.W i):=rfl;have ao:dV (dM A.W (a:Int))<=mF n fun i=>dV (dM A.W i):=by have:=rY t (f:=fun i=>dV (dM A.W i)) (f':=fun j=>if j=(a:Int)then 0 else dV (dM A.W j)) b (fun j o hj=>by simp[hj]);simp at this;omega
  have U:Q->fd A.W.ns u.out=A.W.ns++u.out:=fun q=>oS _ _ (fun x hx=>(k8 x hx).may) (by grind);obtain⟨v,ad⟩:∃v,v=fd A.W.ns u.out:=⟨_,rfl⟩;have ah:=mq u.out A.W.ns;rw[<-ad]at U k4 ah;have af:=uM t (W:=A.W) (s:=D) (ns:=v) b z;rw[k3.oth]at af;have E:∀j:Int,1<=j->dM r.W j=if j=(a:Int)then D else dM A.W j:=fun j o=>by rw[k4];exact eN b.1 o z
  have P:Md n (B+10) R (f+14) (fun i=>if i=(a:Int)then l i+1 else l i) r N:=by
   refine⟨k5,fun j o p=>?_,by grind,fun j o p=>?_,fun j o p=>?_⟩
   .rw[E j o];split;·rw[k3.oth];exact aa
    .exact H.ot j o p
   .rw[E j o];split;·rename_i h;rw[k3.ck,ac.ck,h];show(dM A.W (a:Int)).ck+1=l (a:Int)+1;rw[H.ck _ b.1 b.2]
    .exact H.ck j o p
   .rw[E j o];split;·rename_i h;have kk:=H.pf _ b.1 b.2;rw[h];exact k3.np (k2.np hv.ticked (Dk (K:=300) (H.l.w.nb _ b.1 b.2) (by rw[H.ck _ b.1 b.2];exact y _ (Int.le_refl _) b.2)).1 (H.l.w.id _ b.1 b.2) t kk.ticked)
    .exact H.pf j o p
  have T:ed n r.W=dO (ed n A.W) (a:Int) D:=by rw[k4];exact zR b z
  have ak:ed n A.W (a:Int)=dM A.W (a:Int):=if_pos b;have Z:r.W.ns=v:=by rw[k4];rfl
  have M:=P.gv;rw[T,Z]at M;have ab:=S (a:Int) _ _ v g N u D b.1 b.2 H.gv Y (by grind) k3 U M (by rw[qQ];exact k6);rw[<-T,<-Z]at ab
  obtain⟨A2,O,r1,r2,r3⟩:=se t Q I S c (a+1) (B:=B+10) (f:=f+14) (by omega) (by omega) P (fun q=>by grind) (by omega) (fun j o p=>by
   grind) (by grind)
  have ag:mQ A a=some r:=by unfold mQ uV;rw[Int.toNat_natCast]at F k1;rw[F];exact k1
  rw[List.range'_succ];refine⟨A2,O,(eG ag).trans r1,?_,r3⟩;grind
end
section
variable{c:Int->Int}
variable{n:Nat} {g D O N:Gh} {i d X:Int} {dv:Int->Int} {B B' K K' R V:Int} {s s' u G:dp} {m:dz} {L C:List dj} {e:dj} {W:eW} {A A':dU}
theorem Md.less{f f':Nat}(H:Md n B R f c A g)(h:f<=f'):Md n B R f' c A g:=⟨H.l,H.ot,by have:=H.ph;omega,H.ck,H.pf⟩
theorem nP(v:3<=n/\n<=5)(Q:Prop)(t:Int)(I:fK->Ms->Gh->Prop)(hH:∀(nd:fK) (x:dz×List dj) (ns aa:Ms) (g D:Gh) (u G:dp),GV n g nd (x::ns)->dW t x=true->I nd (x::ns) g->Hs (eg (nd x.1.to) x) x.1 x.2 u->Sd u G->(Q->aa=ns++u.out)->GV n D (dO nd x.1.to G) aa->i8 n x.1.to (wW nd x.1.to) g D->I (dO nd x.1.to G) aa D)(hD:∀(nd:fK) (x:dz×List dj) (ns:Ms) (g:Gh),GV n g nd (x::ns)->dW t x=false->I nd (x::ns) g->I nd ns g):∀(k:Nat) {f:Nat} {z:Int->Int} {A:dU} {g:Gh},(Q->f<=400)->B<=80000->Md n B R f z A g->I (ed n A.W) A.W.ns g->∃A' D,AF t k A=some A'/\(A'.W.ns=[]\/wa n A'.W+k<=f)/\Md n B R f z A' D/\I (ed n A'.W) A'.W.ns D
 |0,f,z,A,g,h4,M,H,E=>by
  have:=H.ph;exact⟨A,g,rfl,.inr (by omega),H,E⟩
 |k+1,f,z,A,g,h4,M,H,E=>by
  cases w:A.W.ns with
  |nil=>
   grind[AF]
  |cons x ns=>
   have hx:A.W.ns[0]? =some x:=by rw[w];rfl
   have ai:x∈A.W.ns:=by rw[w];exact List.mem_cons_self ..
   have he:A.W.ns.eraseIdx 0=ns:=by rw[w];rfl
   obtain⟨b,o,-,-,f5⟩:=H.l.w.to ai;have an:=H.ph;have ar:=Au x;have ao:wa n A.W=wL A.W.ns+mF n fun i=>dV (dM A.W i):=rfl;have aq:wL A.W.ns=wM x+wL ns:=by rw[w,qo]
   have ah:AF t (k+1) A=(ln (!dW t x) 0 A).bind (AF t k):=by rw[AF,w]
   rw[ah];by_cases F:dW t x=true
   .rw[F];have hl:A.W.sl[x.1.to.toNat-1]?.isSome=true:=by rw[H.l.w.up _ b o];rfl
    obtain⟨u,G,O,l,k1,k2,k3,k4,k5,k6,k7,k8⟩:=wA v H.l hx M;rw[he]at k4;have ae:(eg (dM A.W x.1.to) x).out=[]:=H.l.w.out _ b o;have hw:=k2.w ae;have ac:=k2.oth (H.ot _ b o);have aj:dV (eg (dM A.W x.1.to) x)=dV (dM A.W x.1.to):=rfl;have ap:dV (dM A.W x.1.to)<=mF n fun i=>dV (dM A.W i):=by have:=rY v (f:=fun i=>dV (dM A.W i)) (f':=fun j=>if j=x.1.to then 0 else dV (dM A.W j)) ⟨b,o⟩ (fun j a hj=>by simp[hj]);simp at this;omega
    have ak:=(pL u.out).1;have am:=(pL ns).1;have ab:Q->fd ns u.out=ns++u.out:=fun q=>oS _ _ (fun y hy=>(k8 y hy).may) (by grind);obtain⟨S,ad⟩:∃S,S=fd ns u.out:=⟨_,rfl⟩;have ag:=mq u.out ns;rw[<-ad]at ab k4 ag;have af:=uM v (W:=A.W) (s:=G) (ns:=S) ⟨b,o⟩ hl;rw[k3.oth]at af;have r:∀j:Int,1<=j->dM l.W j=if j=x.1.to then G else dM A.W j:=fun j a=>by rw[k4];exact eN b a hl
    have T:Md n B R (f-1) z l O:=by
     refine⟨k5,fun j a p=>?_,by grind,fun j a p=>?_,fun j a p=>?_⟩
     .rw[r j a];split;·rw[k3.oth];exact ac
      .exact H.ot j a p
     .rw[r j a];split;·rename_i h;rw[k3.ck,k2.ck1,h];exact H.ck _ b o
      .exact H.ck j a p
     .rw[r j a];split;·rename_i h;have kk:=H.pf _ b o;rw[h];exact k3.np (k2.np ((H.l.w.nd _ b o).heard x) (H.l.w.id _ b o) v f5 (kk.heard x))
      .exact H.pf j a p
    have U:ed n l.W=dO (ed n A.W) x.1.to G:=by rw[k4];exact zR ⟨b,o⟩ hl
    have al:ed n A.W x.1.to=dM A.W x.1.to:=if_pos ⟨b,o⟩;have Y:l.W.ns=S:=by rw[k4];rfl
    have J:=H.gv;have G1:=T.gv;rw[U,Y]at G1;rw[w]at J E;have P:=hH _ x ns S g O u G J F E (by grind) k3 ab G1 (by rw[qQ];exact k6);rw[<-U,<-Y]at P;obtain⟨Z,N,r1,r2,r3,r4⟩:=nP v Q t I hH hD k (f:=f-1) (fun q=>by grind) M T P;refine⟨Z,N,?_,r2.imp id (fun h=>by omega),r3.less (by omega),r4⟩;grind
   .have F:dW t x=false:=Bool.eq_false_iff.2 F;rw[F];obtain⟨l,k1,k2,k3,k4⟩:=wz v H.l hx M;rw[he]at k2;have r:∀j,dM l.W j=dM A.W j:=fun j=>by rw[k2];rfl
    have T:Md n B R (f-1) z l g:=by
     refine⟨k3,fun j a p=>by rw[r];exact H.ot j a p,?_,fun j a p=>by rw[r];exact H.ck j a p,fun j a p=>by rw[r];exact H.pf j a p⟩;have h3:(fun i=>dV (dM l.W i))=fun i=>dV (dM A.W i):=by funext j;rw[r]
     unfold wa;have h2:l.W.ns=ns:=by rw[k2]
     rw[h2,h3];omega
    have U:ed n l.W=ed n A.W:=by rw[k2];rfl
    have Y:l.W.ns=ns:=by rw[k2]
    have J:=H.gv;rw[w]at J E;have P:=hD _ x ns g J F E;rw[<-U,<-Y]at P;obtain⟨Z,N,r1,r2,r3,r4⟩:=nP v Q t I hH hD k (f:=f-1) (fun q=>by grind) M T P;refine⟨Z,N,?_,r2.imp id (fun h=>by omega),r3.less (by omega),r4⟩;grind
structure Qd (n:Nat) (B R:Int) (c:Int->Int) (A:dU) (g:Gh):Prop where
 l:LG n g B 300 R A
 ot:∀i:Int,1<=i->i<=n->dV (dM A.W i)<=64
 ck:∀i:Int,1<=i->i<=n->(dM A.W i).ck=c i
 pf:∀i:Int,1<=i->i<=n->NP i (dM A.W i)
 em:A.W.ns=[]
theorem Am{f:Int->Nat}{m:Nat}(h:∀i:Int,1<=i->i<=n->f i<=m):mF n f<=m*n:=by
 unfold mF
 have:∀(c a:Nat),1<=a->a+c<=n+1->((List.range' a c).map fun i:Nat=>f (i:Int)).sum<=m*c:=by
  intro c
  induction c with
  |zero=>grind
  |succ c b=>
   intro a h1 h2;rw[List.range'_succ,List.map_cons,List.sum_cons];grind
 grind
theorem Qd.md(H:Qd n B R c A g)(b:3<=n/\n<=5):Md n B R (64*n) c A g:=by refine⟨H.l,H.ot,?_,H.ck,H.pf⟩;unfold wa;rw[H.em];have:=Am (n:=n) (f:=fun i=>dV (dM A.W i)) (m:=64) H.ot;have a:wL []=0:=rfl;omega
theorem Fo(o:3<=n/\n<=5)(t:Int)(I:Int->fK->Ms->Gh->Prop)(J:fK->Ms->Gh->Prop)
  (hI:∀(k:Int) (nd:fK) (ns:Ms) (g D:Gh) (u G:dp),1<=k->k<=n->GV n g nd ns->I k nd ns g->Ts (ei (nd k)) u->Sd u G->GV n D (dO nd k G) (ns++u.out)->i8 n k (wW nd k) g D->I (k+1) (dO nd k G) (ns++u.out) D)
  (U:∀(nd:fK) (ns:Ms) (g:Gh),GV n g nd ns->I ((n:Int)+1) nd ns g->J nd ns g)
  (hH:∀(nd:fK) (x:dz×List dj) (ns:Ms) (g D:Gh) (u G:dp),GV n g nd (x::ns)->dW t x=true->J nd (x::ns) g->Hs (eg (nd x.1.to) x) x.1 x.2 u->Sd u G->GV n D (dO nd x.1.to G) (ns++u.out)->i8 n x.1.to (wW nd x.1.to) g D->J (dO nd x.1.to G) (ns++u.out) D)
  (T:∀(nd:fK) (x:dz×List dj) (ns:Ms) (g:Gh),GV n g nd (x::ns)->dW t x=false->J nd (x::ns) g->J nd ns g)
  (H:Qd n B R c A g)(hc:∀i:Int,1<=i->i<=n->c i+1<=300)(hB:B<=70000)(Z:R<=900000)(y:I 1 (ed n A.W) [] g):
  ∃A' D,qD t A=some A'/\Qd n (B+10*n) (R+1) (fun i=>c i+1) A' D/\J (ed n A'.W) [] D:=by
 obtain⟨a,k1,k2,k3,k4⟩:=rX o H.l (by omega) Z;have r:∀j,dM a.W j=dM A.W j:=fun j=>by rw[k2];rfl
 have z:a.W.ns=[]:=by rw[k2];exact H.em
 have P:Qd n B (R+1) c a g:=⟨k3,fun j b l=>by rw[r];exact H.ot j b l,fun j b l=>by rw[r];exact H.ck j b l,fun j b l=>by rw[r];exact H.pf j b l,z⟩;have hV:ed n a.W=ed n A.W:=by rw[k2];rfl
 rw[<-hV,<-z]at y;have h1:((1:Nat):Int)=1:=rfl;obtain⟨A2,N,r1,M,r3⟩:=se o True I (fun k nd ns aa g D u G h1 h2 h3 h4 h5 h6 S h8 h9=>by grind) n 1 (Nat.le_refl _) (by omega) (P.md o) (fun _=>by omega) (by omega) (fun i v w=>hc i v w) y;have Y:=U _ _ _ M.gv r3;obtain⟨q,Q,q1,q2,p,F⟩:=nP o True t J (fun nd x ns aa g D u G h1 h2 h3 h4 h5 h6 S h8=>by grind) T 500 (f:=64*n+14*n) (fun _=>by omega) (by omega) M Y
 have E:q.W.ns=[]:=by
  rcases q2 with h|h;·exact h
  .have h2:=(pL q.W.ns).1;unfold wa at h;exact List.length_eq_zero_iff.1 (by omega)
 rw[E]at F;refine⟨q,Q,?_,⟨p.l,p.ot,fun i v w=>?_,p.pf,E⟩,F⟩;·unfold qD;rw[k1];show(oY a).bind (AF t 500)=_;unfold oY;rw[k3.nn,r1];exact q1
 .rw[p.ck i v w];omega
theorem wn(p:3<=n/\n<=5)(t:Int){f:Nat}(H:Md n B R f c A g)(z:∀i:Int,1<=i->i<=n->c i+1<=300)(Q:B<=70000)(y:R<=900000):
  ∃A' D,qD t A=some A'/\(A'.W.ns=[]\/wa n A'.W+500<=f+14*n)/\Md n (B+10*n) (R+1) (f+14*n) (fun i=>c i+1) A' D:=by
 obtain⟨a,k1,k2,k3,k4⟩:=rX p H.l (by omega) y;have o:∀j,dM a.W j=dM A.W j:=fun j=>by rw[k2];rfl
 have E:a.W.ns=A.W.ns:=by rw[k2]
 have w:Md n B (R+1) f c a g:=by
  refine⟨k3,fun j b k=>by rw[o];exact H.ot j b k,?_,fun j b k=>by rw[o];exact H.ck j b k,fun j b k=>by rw[o];exact H.pf j b k⟩;have h3:(fun i=>dV (dM a.W i))=fun i=>dV (dM A.W i):=by funext j;rw[o]
  have:=H.ph;unfold wa at this⊢;rw[E,h3];exact this
 have h1:((1:Nat):Int)=1:=rfl;obtain⟨P,N,J,M,T⟩:=se p False (fun _ _ _ _=>True) (fun _ _ _ _ _ _ _ _ _ _ _ _ _ _ _ _ _=>trivial) n 1 (Nat.le_refl _) (by omega) w (fun h=>h.elim) (by omega) (fun i q r=>z i q r) trivial;obtain⟨v,x,F,I,l,S⟩:=nP p False t (fun _ _ _=>True) (fun _ _ _ _ _ _ _ _ _ _ _ _ _ _ _ _=>trivial) (fun _ _ _ _ _ _ _=>trivial) 500 (f:=f+14*n) (fun h=>h.elim) (by omega) M trivial;refine⟨v,x,?_,I,l.l,l.ot,l.ph,fun i q r=>?_,l.pf⟩;·unfold qD;rw[k1];show(oY a).bind (AF t 500)=_;unfold oY;rw[k3.nn,J];exact F
 .rw[l.ck i q r];omega
end
section
variable{J:fK->Ms->Gh->Prop} {c:Int->Int} {I:Int->fK->Ms->Gh->Prop} {r:Nat}
variable{n:Nat} {g D X Y:Gh} {i d Z t M:Int} {dv:Int->Int} {B B' K K' R V:Int} {s s' u G:dp} {m:dz} {L C:List dj} {e:dj} {W:eW} {A A':dU} {nd:fK} {ns:Ms} {x:dz×List dj}
structure lw (n:Nat) (t:Int) (J:fK->Ms->Gh->Prop):Prop where
 tick:∀(k:Int) (nd:fK) (ns:Ms) (g D:Gh) (u G:dp),1<=k->k<=n->GV n g nd ns->J nd ns g->Ts (ei (nd k)) u->Sd u G->GV n D (dO nd k G) (ns++u.out)->i8 n k (wW nd k) g D->J (dO nd k G) (ns++u.out) D
 hear:∀(nd:fK) (x:dz×List dj) (ns:Ms) (g D:Gh) (u G:dp),GV n g nd (x::ns)->dW t x=true->J nd (x::ns) g->Hs (eg (nd x.1.to) x) x.1 x.2 u->Sd u G->GV n D (dO nd x.1.to G) (ns++u.out)->i8 n x.1.to (wW nd x.1.to) g D->J (dO nd x.1.to G) (ns++u.out) D
 drop:∀(nd:fK) (x:dz×List dj) (ns:Ms) (g:Gh),GV n g nd (x::ns)->dW t x=false->J nd (x::ns) g->J nd ns g
def Qr(n:Nat)(c:Int->Int)(r:Nat)(A:dU)(g:Gh):Prop:=Qd n (600+50*r) (60+r) (fun i=>c i+r) A g/\∀i:Int,1<=i->i<=n->c i<=60
theorem Qd.up(H:Qd n B R c A g)(a:B<=B')(b:R<=V):Qd n B' V c A g:=⟨H.l.up a b,H.ot,H.ck,H.pf,H.em⟩
theorem jN(p:3<=n/\n<=5)
  (j:∀(k:Int) (nd:fK) (ns:Ms) (g D:Gh) (u G:dp),1<=k->k<=n->GV n g nd ns->I k nd ns g->Ts (ei (nd k)) u->Sd u G->GV n D (dO nd k G) (ns++u.out)->i8 n k (wW nd k) g D->I (k+1) (dO nd k G) (ns++u.out) D)
  (l:∀(nd:fK) (ns:Ms) (g:Gh),GV n g nd ns->I ((n:Int)+1) nd ns g->J nd ns g)(h:∀(nd:fK) (x:dz×List dj) (ns:Ms) (g D:Gh) (u G:dp),GV n g nd (x::ns)->dW t x=true->J nd (x::ns) g->Hs (eg (nd x.1.to) x) x.1 x.2 u->Sd u G->GV n D (dO nd x.1.to G) (ns++u.out)->i8 n x.1.to (wW nd x.1.to) g D->J (dO nd x.1.to G) (ns++u.out) D)
  (f:∀(nd:fK) (x:dz×List dj) (ns:Ms) (g:Gh),GV n g nd (x::ns)->dW t x=false->J nd (x::ns) g->J nd ns g)
  (hr:r<=100)(H:Qr n c r A g)(o:I 1 (ed n A.W) [] g):∃A' D,qD t A=some A'/\Qr n c (r+1) A' D/\J (ed n A'.W) [] D:=by
 obtain⟨a,b⟩:=H;obtain⟨A',D,h1,h2,h3⟩:=Fo p t I J j l h f a (fun i q v=>by grind) (by omega) (by omega) o;refine⟨A',D,h1,⟨?_,b⟩,h3⟩;have h4:(fun i=>c i+(r:Int)+1)=fun i=>c i+((r+1:Nat):Int):=by funext i;omega
 rw[h4]at h2;exact h2.up (by omega) (by omega)
theorem yr(b:3<=n/\n<=5)(K:lw n t J)(hr:r<=100)(H:Qr n c r A g)(a:J (ed n A.W) [] g):∃A' D,qD t A=some A'/\Qr n c (r+1) A' D/\J (ed n A'.W) [] D:=
 jN b (I:=fun _=>J) K.tick (fun _ _ _ _ h=>h) K.hear K.drop hr H a
theorem im(b:3<=n/\n<=5){J:fK->Ms->Gh->Prop}(K:lw n t J){c:Int->Int}:∀(k:Nat) {r:Nat} {A:dU} {g:Gh},r+k<=101->Qr n c r A g->J (ed n A.W) [] g->∃A' D,mS t k A=some A'/\Qr n c (r+k) A' D/\J (ed n A'.W) [] D
 |0,r,A,g,hr,H,a=>⟨A,g,rfl,H,a⟩
 |k+1,r,A,g,hr,H,a=>by
  obtain⟨f,X,h1,h2,h3⟩:=yr b K (by omega) H a;obtain⟨h,Y,h4,h5,h6⟩:=im b K k (r:=r+1) (by omega) h2 h3;grind[mS]
theorem Ts.dv_le(h:Ts s s'):s.dv<=s'.dv:=by
 cases h with
 |again w vw vs h1 h2 h3 h4 h5=>have:=gA s.dv s.dn;show s.dv<=w;omega
 |silent u w h1 h2 h3 h4 h8 h5=>
  obtain⟨a,b,rfl⟩:=dI h4;have:=gA s.dv s.dn;have h5:ep s.dv s.dn<w:=h5;show s.dv<=w;omega
 |dec u q h1 h2 h3 h4=>
  obtain⟨a,b,rfl⟩:=dI h4;exact Int.le_refl _
 |late w h1 h2 h3 h5=>have:=gA s.dv s.dn;show s.dv<=w;omega
 |_=>exact Int.le_refl _
theorem Hs.dv_le(h:Hs s m L s'):s.dv<=s'.dv:=by
 cases h with
 |join k h1 h2=>exact Int.le_of_lt h2
 |took=>exact gA _ _
 |has _ k a1 a2 a3 a4=>
  obtain⟨q,p,h|⟨l,r,hr,rfl⟩⟩:=eY a4;·rw[h.1];exact Int.le_refl _
  .obtain⟨f,o,v,a,b,-⟩:=eH hr;rw[a,b];exact Int.le_refl _
 |data _ k a1 a2 a3=>
  obtain⟨j,w,rfl⟩:=fs a3;grind
 |_=>exact Int.le_refl _
theorem Sd.dve(h:Sd s s'):s'.dv=s.dv:=by obtain⟨T,a,O,-,rfl⟩:=h;rfl
theorem Ts.lead(N:fU n g dv s)(f:s.mi=true)(b:s.ls=s.dv)(h:Ts s s'):(∃u w,dt ip s.P s=some u/\uR u=true/\s'=jc u w/\ep u.dv u.dn<w/\dJ w u.n=u.id)\/∃u q,dt ip s.P s=some u/\uR u=false/\u.q=some q/\s'=ko u q:=by
 have j:=(N.mi f).1
 have o:=N.ls
 have a:s.v=none:=by
  cases a:s.v with
  |none=>rfl
  |some v=>
   obtain⟨-,-,h3,h4,-⟩:=N.v v.1 v.2 a;omega
 have l:eC s=true:=by
  unfold eC;rw[N.kn,b,N.mem j];simp;omega
 cases h with
 |inst vw vs h1=>grind
 |again w vw vs h1=>grind
 |gath vw vs h1=>grind
 |silent u w h1 h2 h3 h4 h8 h5 h6 k=>grind
 |dec u q h1 h2 h3 h4 h5 h6=>grind
 |late w h1 h2=>
  grind
 |ask h1 h2 h3=>grind
 |idle h1 h2=>grind
theorem Ts.k45(h:Ts s s')(E:s.out=[])(b:x∈s'.out)(f:x.1.kd=4\/x.1.kd=5):s'.mi=true/\x.1.vw=s'.ls/\s'.ls=s'.dv/\dg s'.mb x.1.to=true/\x.1.fr=s'.id:=by
 have F:∀(a:dp) (w:Int),x∈(jc a w).out->x.1.kd=1:=fun a w h=>by
  obtain⟨j,-,h⟩:=List.mem_flatMap.1 h;rw[fq,List.mem_singleton]at h;rw[h];rfl
 cases h with
 |inst vw vs h1 h2 h3=>
  obtain⟨j,k,b⟩:=List.mem_flatMap.1 b;rw[fH,List.mem_singleton]at b;have:=kZ k;rw[b];exact⟨rfl,rfl,h2,this.2.1,rfl⟩
 |again w=>grind
 |gath vw vs=>
  obtain⟨j,-,h⟩:=List.mem_flatMap.1 b;split at h;·cases h
  .rw[fq,List.mem_singleton]at h;rw[h]at f;rcases f with f|f<;>cases f
 |silent u w=>grind
 |dec u q h1 h2 h3 h4 h5 h6=>
  obtain⟨z,H,v⟩:=dI h4;have y:s.ls=s.dv:=by unfold eC at h2;simp only[Bool.and_eq_true,decide_eq_true_eq]at h2;exact h2.2.2.1
  obtain⟨j,k,b⟩:=List.mem_flatMap.1 b;have p:=(kZ k).2.1;have l:(ko u q).mi=true:=by show u.mi=true;rw[v];exact h3
  have o:(ko u q).ls=(ko u q).dv:=by show u.ls=u.dv;rw[v];exact y
  unfold kN at b;split at b;·rw[List.mem_singleton]at b;rw[b];exact⟨l,rfl,o,p,rfl⟩
  .rw[fH,List.mem_singleton]at b;rw[b];exact⟨l,rfl,o,p,rfl⟩
 |late w=>grind
 |ask=>
  have b:x∈(dm s (iU s (s.f.nm+1)),[])::if s.P=[]then []else [(dm s (fA s),s.P)]:=b;rcases List.mem_cons.1 b with b|b;·rw[b]at f;rcases f with f|f<;>cases f
  .split at b;·cases b
   .rw[List.mem_singleton]at b;rw[b]at f;rcases f with f|f<;>cases f
 |idle=>grind
theorem Hs.kd(h:Hs s m L s')(j:s.out=[])(b:x∈s'.out):x.1.kd=2\/x.1.kd=3\/x.1.kd=6\/x.1.kd=9:=by
 have one:∀(a:dp) (l:dz) (M:List dj),a.out=[]->x∈(gW a l M).out->x.1.kd=l.kd:=fun a l M e h=>by
  have h:x∈a.out++[(dm a l,M)]:=h;rw[e,List.nil_append,List.mem_singleton]at h;rw[h];rfl
 have p:∀a:dp,a.out=[]->x∈a.out->False:=fun a e h=>by grind
 cases h with
 |join=>exact .inr (.inl (one _ _ _ j b))
 |deny=>exact .inl (one _ _ _ j b)
 |revote=>exact .inr (.inl (one _ _ _ j b))
 |denied=>grind
 |voted=>grind
 |took=>exact .inr (.inr (.inl (one _ _ _ j b)))
 |same=>exact .inr (.inr (.inl (one _ _ _ j b)))
 |app=>exact .inr (.inr (.inl (one _ _ _ j b)))
 |fresh=>grind
 |has _ k a1 a2 a3 a4=>
  obtain⟨q,P,h|⟨O,r,hr,rfl⟩⟩:=eY a4;·rw[h.1]at b;exact(p _ j b).elim
  .obtain⟨f,o,Q,v,E,F,H,N,w,-⟩:=eH hr;rw[v]at b;have b:x∈(ji s m q).out++o:=b;have y:(ji s m q).out=[]:=j;rw[y,List.nil_append]at b;obtain⟨T,-,h,-⟩:=w x b;rw[h];exact .inr (.inr (.inr rfl))
 |data _ k a1 a2 a3=>
  obtain⟨z,S,rfl⟩:=fs a3;grind
 |askd=>exact(p _ j b).elim
 |none=>grind
def dR(n:Nat)(t j:Int):Prop:=(1<=j/\j<=n)/\dg t j=true
theorem fZ(H:GV n g nd (x::ns))(h:dW t x=true):dR n t x.1.fr/\dR n t x.1.to/\x.1.fr≠x.1.to:=by obtain⟨a,b,f,j,k,-⟩:=(H.ms x (List.mem_cons_self ..)).ids;unfold dW at h;rw[Bool.and_eq_true]at h;exact⟨⟨⟨a,b⟩,h.1⟩,⟨⟨f,j⟩,h.2⟩,k⟩
end
section
variable{X:Int->Int} {k:Int} {r:Nat}
variable{n:Nat} {g V g1 g2:Gh} {i d Z t M u c:Int} {dv:Int->Int} {B B' K K' R Y:Int} {s s' G D:dp} {m:dz} {L C:List dj} {e:dj} {W:eW} {A A':dU} {nd:fK} {ns:Ms} {x:dz×List dj} {U:Int->Prop}
theorem k0(h:(nd k).dv<=s.dv)(j:Int):(nd j).dv<=(dO nd k s j).dv:=by grind[dO]
def eR(s:dp)(M:Int):Prop:=s.mi=true/\s.ls=M/\s.dv=M
theorem eK(H:GV n g nd ns)(k1:1<=k)(k2:k<=n):fU n g (wW nd) (ei (nd k)):=(H.nod k k1 k2).same rfl rfl rfl rfl rfl rfl rfl rfl rfl rfl rfl rfl
theorem iW(H:GV n g nd ns)(k1:1<=k)(k2:k<=n)(x:dz×List dj):fU n g (wW nd) (eg (nd k) x):=(H.nod k k1 k2).same rfl rfl rfl rfl rfl rfl rfl rfl rfl rfl rfl rfl
theorem oG(N:fU n g dv s)(h:eR s M)(j:Ts s G)(f:Sd G D):M<D.dv\/(eR D M/\D.mb=s.mb):=by
 obtain⟨h1,h2,h3⟩:=h;obtain⟨T,o,O,-,rfl⟩:=f;rcases j.lead N h1 (by omega)with⟨a,w,a1,a2,rfl,a4,-⟩|⟨a,q,a1,a2,a3,rfl⟩;·obtain⟨b,l,rfl⟩:=dI a1;have:=gA s.dv s.dn;have a4:ep s.dv s.dn<w:=a4;left;show M<w;omega
 .obtain⟨b,l,rfl⟩:=dI a1;exact .inr ⟨⟨h1,h2,h3⟩,rfl⟩
theorem jr(h:eR s M)(j:Hs s m L G)(l:Sd G D):M<D.dv\/(eR D M/\D.mb=s.mb):=by
 obtain⟨h1,h2,h3⟩:=h
 obtain⟨T,E,O,-,rfl⟩:=l
 cases j with
 |join k a1 a2=>left;show M<m.vw;omega
 |took k a1 a2=>
  left;have:=gA s.dv m.vw;show M<ep s.dv m.vw;unfold ep;omega
 |has _ k a1 a2 a3 a4=>
  obtain⟨q,w,h|⟨v,r,hr,rfl⟩⟩:=eY a4;·rw[h.1];exact .inr ⟨⟨h1,h2,h3⟩,rfl⟩
  .obtain⟨f,o,y,a,b,-⟩:=eH hr;rw[a,b];exact .inr ⟨⟨h1,h2,h3⟩,rfl⟩
 |data _ k a1 a2 a3=>
  obtain⟨p,z,rfl⟩:=fs a3;exact .inr ⟨⟨h1,h2,h3⟩,rfl⟩
 |_=>exact .inr ⟨⟨h1,h2,h3⟩,rfl⟩
def JA(n:Nat)(t:Int)(U:Int->Prop)(M u c:Int)(nd:fK)(ns:Ms)(_:Gh):Prop:=
 (∀j,dR n t j->U j\/M<(nd j).dv)/\((∃j,U j/\M<(nd j).dv)\/(∃p,U p/\eR (nd p) M/\dg (nd p).mb u=true)\/((nd u).dv=M/\(nd u).hd<=c/\(nd u).ck<=c+17/\∀x∈ns,dW t x=true->x.1.to=u->x.1.kd=4\/x.1.kd=5->x.1.vw≠M))
theorem va(hU:∀j,U j->dR n t j)(aa:U u)(hn:3<=n/\n<=5):lw n t (JA n t U M u c):=by
 obtain⟨⟨i1,i2⟩,i3⟩:=hU u aa;refine⟨fun k nd ns g V G D k1 k2 H S J b H' al=>?_,fun nd x ns g V G D H hm S Q b H' al=>?_,fun nd x ns g H hm S=>?_⟩
 .obtain⟨I,hj⟩:=S;have mono:=k0 (nd:=nd) (k:=k) (s:=D) (by rw[b.dve];exact J.dv_le);refine⟨fun j h=>(I j h).imp id (fun h=>by grind),?_⟩;rcases hj with⟨j,j1,j2⟩|⟨p,p1,p2,p3⟩|⟨a1,a2,a3,a4⟩;·grind
  .by_cases hp:p=k
   .subst hp;rcases oG (eK H k1 k2) p2 J b with h|⟨h,h'⟩;·grind[dc]
    .exact .inr (.inl ⟨p,p1,by rw[dc];exact h,by rw[dc,h'];exact p3⟩)
   grind[dl]
  .have ak:(ei (nd k)).out=[]:=H.out k k1 k2;by_cases ai:∃x∈G.out,dW t x=true/\x.1.to=u/\(x.1.kd=4\/x.1.kd=5)/\x.1.vw=M
   .obtain⟨x,x1,x2,x3,x4,x5⟩:=ai;obtain⟨b1,b2,b3,b4,b5⟩:=J.k45 ak x1 x4;have ad:G.id=k:=by have:=(J.kp (fun w vs hv=>((eK H k1 k2).v w vs hv).2.2.1)).id;exact this.trans (H.id k k1 k2)
    have aj:dR n t k:=⟨⟨k1,k2⟩,by grind[dW]⟩;have am:(nd k).dv<=M:=by have:=J.dv_le;have:(nd k).dv<=G.dv:=this;omega
    have ag:U k:=by rcases I k aj with h|h;exact h;omega
    refine .inr (.inl ⟨k,ag,?_,?_⟩);·rw[dc];obtain⟨T,E,O,-,rfl⟩:=b;exact⟨b1,by grind,by grind⟩
    .rw[dc];obtain⟨T,E,O,-,rfl⟩:=b;grind
   .have z:∀x∈ns++G.out,dW t x=true->x.1.to=u->x.1.kd=4\/x.1.kd=5->x.1.vw≠M:=fun x hx h1 h2 h3=>by grind
    by_cases hk:u=k
    .subst hk;have N:=eK H k1 k2;have ad:(ei (nd u)).id=u:=H.id u k1 k2;rw[dc];have P:M<G.dv->(∃j,U j/\M<(dO nd u D j).dv):=fun h=>⟨u,aa,by rw[dc,b.dve];exact h⟩;have ae:ic (ei (nd u))=false->(nd u).ck+1<=c+17:=fun h=>by have h:=of_decide_eq_false h;rw[ad]at h;have:¬8+2*u<=(nd u).ck+1-(nd u).hd:=h;omega
     have l:(ei (nd u)).dv=M:=a1;cases J with
     |inst vw vs h1 h2 h3=>
      refine .inr (.inl ⟨u,aa,?_,?_⟩);·rw[dc];obtain⟨T,E,O,-,rfl⟩:=b;exact⟨rfl,by show vw=M;omega,l⟩
      .rw[dc];obtain⟨T,E,O,-,rfl⟩:=b;obtain⟨w1,w2,w3,w4,w5,xo,w6,w7⟩:=N.v vw vs h1;have af:=fS (fun y F=>(w5.ok y F).2.1.id);show dg (dr vs) u=true;exact(af.2 u ⟨i1,by omega⟩).2 ⟨xo,w6,w7.trans ad⟩
     |again w vw vs h1 h2 h3 h4 h5=>
      refine .inl (P ?_);have:=gA (ei (nd u)).dv (ei (nd u)).dn;show M<w;omega
     |gath vw vs h1 h2 h3 h4 h5=>
      obtain⟨T,E,O,-,rfl⟩:=b;exact .inr (.inr ⟨l,a2,ae h5,z⟩)
     |silent a w h1 h2 h3 h4 h8 h5=>
      obtain⟨L',q',rfl⟩:=dI h4;refine .inl (P ?_);have:=gA (ei (nd u)).dv (ei (nd u)).dn;have h5:ep (ei (nd u)).dv (ei (nd u)).dn<w:=h5;show M<w;omega
     |dec a q h1 h2 h3 h4=>
      obtain⟨L',q',rfl⟩:=dI h4;obtain⟨T,E,O,-,rfl⟩:=b;unfold eC at h2;simp only[Bool.and_eq_true,decide_eq_true_eq]at h2;refine .inr (.inl ⟨u,aa,?_,?_⟩);·rw[dc];exact⟨h3,by show(ei (nd u)).ls=M;omega,l⟩
      .rw[dc];show dg (ei (nd u)).mb u=true;grind
     |late w h1 h2 h3 h5=>
      refine .inl (P ?_);have:=gA (ei (nd u)).dv (ei (nd u)).dn;show M<w;omega
     |ask h1 h2 h3 h4=>
      obtain⟨T,E,O,-,rfl⟩:=b;exact .inr (.inr ⟨l,a2,ae h4,z⟩)
     |idle h1 h2 h4=>
      obtain⟨T,E,O,-,rfl⟩:=b;exact .inr (.inr ⟨l,a2,ae h4,z⟩)
    grind[dl]
 .obtain⟨I,hj⟩:=S;obtain⟨y1,y2,y3⟩:=fZ H hm;have mono:=k0 (nd:=nd) (k:=x.1.to) (s:=D) (by rw[b.dve];exact Q.dv_le);refine⟨fun j h=>(I j h).imp id (fun h=>by grind),?_⟩;rcases hj with⟨j,j1,j2⟩|⟨p,p1,p2,p3⟩|⟨a1,a2,a3,a4⟩;·grind
  .by_cases hp:p=x.1.to
   .subst hp;rcases jr (s:=eg (nd x.1.to) x) p2 Q b with h|⟨h,h'⟩;·grind[dc]
    .exact .inr (.inl ⟨_,p1,by rw[dc];exact h,by rw[dc,h'];exact p3⟩)
   grind[dl]
  .have z:∀y∈ns++G.out,dW t y=true->y.1.to=u->y.1.kd=4\/y.1.kd=5->y.1.vw≠M:=fun y F h1 h2 h3=>by
    rcases List.mem_append.1 F with F|F;·grind
    .have:=Q.kd (H.out _ y2.1.1 y2.1.2) F;omega
   by_cases hk:u=x.1.to
   .have ah:=a4 x (List.mem_cons_self ..) hm hk.symm;rw[<-hk]at Q⊢;have P:M<G.dv->(∃j,U j/\M<(dO nd u D j).dv):=fun h=>⟨u,aa,by rw[dc,b.dve];exact h⟩;rw[dc];have l:(eg (nd u) x).dv=M:=a1;cases Q with
    |join k h1 h2=>exact .inl (P (by show M<x.1.vw;omega))
    |took k h1 h2=>
     have:=ah (.inl k);refine .inl (P ?_);show M<ep (eg (nd u) x).dv x.1.vw;unfold ep;omega
    |same k h1 h2=>grind
    |app L' k h1 h2=>
     grind[eC,absurd]
    |has _ k b1 b2 b3 b4=>
     obtain⟨T,E,O,-,rfl⟩:=b;obtain⟨q,hq,h|⟨I,r,hr,rfl⟩⟩:=eY b4;·rw[h.1];rw[h.1]at z;exact .inr (.inr ⟨l,a2,a3,z⟩)
     .obtain⟨f,o,l',e1,e2,-⟩:=eH hr;rw[e1,e2];rw[e1,e2]at z;exact .inr (.inr ⟨l,a2,a3,z⟩)
    |data _ k b1 b2 b3=>
     obtain⟨T,E,O,-,rfl⟩:=b;obtain⟨L',q',rfl⟩:=fs b3;exact .inr (.inr ⟨l,a2,a3,z⟩)
    |_=>
     obtain⟨T,E,O,-,rfl⟩:=b;exact .inr (.inr ⟨l,a2,a3,z⟩)
   grind[dl]
 .obtain⟨I,hj⟩:=S;exact⟨I,hj.imp id (fun h=>h.imp id (fun⟨a1,a2,a3,a4⟩=>⟨a1,a2,a3,fun y F=>a4 y (List.mem_cons_of_mem _ F)⟩))⟩
theorem Qr.at(H:Qr n X r A g)(a:1<=i)(b:i<=n):(ed n A.W i).ck=X i+r/\(ed n A.W i).hd<=(ed n A.W i).ck/\∀j,(ed n A.W i).er.at j<=(ed n A.W i).ck:=by have e:ed n A.W i=dM A.W i:=if_pos ⟨a,b⟩;rw[e];have h:=H.1.l.w.nb i a b;exact⟨H.1.ck i a b,h.hd.2,h.er⟩
theorem FI(f:3<=n/\n<=5)(a:∀j,U j->dR n t j)(b:U u)(hr:r+18<=101)(H:Qr n X r A g)(v:∀j,dR n t j->U j\/M<(ed n A.W j).dv)(q:(ed n A.W u).dv=M):∃A' V,mS t 18 A=some A'/\Qr n X (r+18) A' V/\((∃j,U j/\M<(ed n A'.W j).dv)\/∃p,U p/\eR (ed n A'.W p) M/\dg (ed n A'.W p).mb u=true):=by
 obtain⟨⟨l,o⟩,y⟩:=a u b;obtain⟨b1,b2,-⟩:=H.at l o;obtain⟨A',V,h1,h2,h3⟩:=im f (va (M:=M) (c:=(ed n A.W u).ck) a b f) 18 hr H ⟨v,.inr (.inr ⟨q,b2,by omega,fun x w=>by cases w⟩)⟩;refine⟨A',V,h1,h2,?_⟩;rcases h3.2 with h|h|⟨-,-,h,-⟩;·exact .inl h
 .exact .inr h
 .exfalso;have:=(h2.at l o).1;omega
end
section
variable{n:Nat} {g G Y Z:Gh} {i d X t M i0 j0 p c:Int} {dv:Int->Int} {B B' K K' R V:Int} {s s' D u:dp} {m:dz} {L C:List dj} {e:dj} {W:eW} {A A':dU} {nd:fK} {ns:Ms} {x:dz×List dj} {U:Int->Prop}
theorem Hs.say(h:Hs s m L s')(j:s.out=[])(b:x∈s'.out):x.1.fr=s.id/\((x.1.kd=3/\m.kd=1/\x.1.to=m.fr/\x.1.vw=m.vw/\s'.dv=m.vw/\s.dv<=m.vw)\/(x.1.kd=2/\m.kd=1/\x.1.to=m.fr/\x.1.vw=s.dv/\m.vw<=s.dv)\/(x.1.kd=6/\s.dv<=x.1.vw/\(m.kd=4\/m.kd=5)/\x.1.vw=m.vw)\/(x.1.kd=9/\m.kd=6)):=by
 have one:∀(a:dp) (l:dz) (M:List dj),a.out=[]->x∈(gW a l M).out->x=(dm a l,M):=fun a l M e h=>by
  have h:x∈a.out++[(dm a l,M)]:=h;grind
 have v:∀a:dp,a.out=[]->x∈a.out->False:=fun a e h=>by grind
 cases h with
 |join k h1 h2=>rw[one _ _ _ j b];exact⟨rfl,.inl ⟨rfl,k,rfl,rfl,rfl,Int.le_of_lt h2⟩⟩
 |deny k h1 h2=>rw[one _ _ _ j b];exact⟨rfl,.inr (.inl ⟨rfl,k,rfl,rfl,h2⟩)⟩
 |revote k h1 h2=>rw[one _ _ _ j b];exact⟨rfl,.inl ⟨rfl,k,rfl,rfl,h2.symm,by omega⟩⟩
 |denied=>grind
 |voted=>grind
 |took k h1=>rw[one _ _ _ j b];exact⟨rfl,.inr (.inr (.inl ⟨rfl,h1,.inl k,rfl⟩))⟩
 |same k h1 h2=>rw[one _ _ _ j b];exact⟨rfl,.inr (.inr (.inl ⟨rfl,by show s.dv<=s.ls;omega,.inl k,h1.symm⟩))⟩
 |app w k h1 h2=>
  rw[one _ _ _ j b];unfold eC at h1;simp only[Bool.and_eq_true,decide_eq_true_eq]at h1;exact⟨rfl,.inr (.inr (.inl ⟨rfl,by show s.dv<=s.ls;omega,.inr k,h2.symm⟩))⟩
 |fresh=>grind
 |has _ k a1 a2 a3 a4=>
  obtain⟨q,O,h|⟨N,r,hr,rfl⟩⟩:=eY a4;·rw[h.1]at b;exact(v _ j b).elim
  .obtain⟨f,o,P,y,F,H,I,J,z,-⟩:=eH hr;rw[y]at b;have b:x∈(ji s m q).out++o:=b;have E:(ji s m q).out=[]:=j;rw[E,List.nil_append]at b;obtain⟨S,-,h,-⟩:=z x b;rw[h];exact⟨rfl,.inr (.inr (.inr ⟨rfl,k⟩))⟩
 |data _ k a1 a2 a3=>
  obtain⟨w,Q,rfl⟩:=fs a3;grind
 |askd=>exact(v _ j b).elim
 |none=>grind
theorem Ts.say(h:Ts s s')(o:s.out=[])(b:x∈s'.out):x.1.fr=s.id/\((x.1.kd=1/\x.1.vw=s'.dv)\/x.1.kd=4\/x.1.kd=5\/x.1.kd=7\/x.1.kd=8):=by
 have r:∀(a:dp) (w:Int),x∈(jc a w).out->x.1.fr=a.id/\((x.1.kd=1/\x.1.vw=(jc a w).dv)\/x.1.kd=4\/x.1.kd=5\/x.1.kd=7\/x.1.kd=8):=fun a w h=>by
  obtain⟨j,-,h⟩:=List.mem_flatMap.1 h;rw[fq,List.mem_singleton]at h;rw[h];exact⟨rfl,.inl ⟨rfl,rfl⟩⟩
 cases h with
 |inst vw vs h1 h2 h3=>
  obtain⟨j,k,b⟩:=List.mem_flatMap.1 b;rw[fH,List.mem_singleton]at b;rw[b];exact⟨rfl,.inr (.inl rfl)⟩
 |again w=>grind
 |gath vw vs h1 h2=>
  obtain⟨j,-,h⟩:=List.mem_flatMap.1 b;split at h;·cases h
  .rw[fq,List.mem_singleton]at h;rw[h];exact⟨rfl,.inl ⟨rfl,h2⟩⟩
 |silent D w h1 h2 h3 h4=>
  obtain⟨f,l,rfl⟩:=dI h4;grind
 |dec D q h1 h2 h3 h4 h5 h6=>
  obtain⟨f,l,rfl⟩:=dI h4;obtain⟨j,k,b⟩:=List.mem_flatMap.1 b;unfold kN at b;split at b;·rw[List.mem_singleton]at b;rw[b];exact⟨rfl,.inr (.inr (.inl rfl))⟩
  .rw[fH,List.mem_singleton]at b;rw[b];exact⟨rfl,.inr (.inl rfl)⟩
 |late w=>grind
 |ask=>
  have b:x∈(dm s (iU s (s.f.nm+1)),[])::if s.P=[]then []else [(dm s (fA s),s.P)]:=b;rcases List.mem_cons.1 b with b|b;·rw[b];exact⟨rfl,.inr (.inr (.inr (.inr rfl)))⟩
  .split at b;·cases b
   .rw[List.mem_singleton]at b;rw[b];exact⟨rfl,.inr (.inr (.inr (.inl rfl)))⟩
 |idle=>grind
theorem zm(v:Hs s m L D)(w:Sd D u){j:Nat}(y:m.kd=6->m.vw=s.ls->m.fr.toNat≠j)(H:1<=m.fr/\m.fr<=7):u.er.at j=s.er.at j:=by
 obtain⟨T,P,O,-,rfl⟩:=w
 cases v with
 |has _ k a1 a2 a3 a4=>
  have z:=y k a3;have h:(s.er.set m.fr.toNat s.ck).at j=s.er.at j:=by rw[E8.set_at _ (by omega),if_neg (fun e=>z e.symm)]
  obtain⟨q,I,l|⟨F,r,hr,rfl⟩⟩:=eY a4;·rw[l.1];exact h
  .obtain⟨f,o,J,a,b,-⟩:=eH hr;rw[a,b];exact h
 |data _ k a1 a2 a3=>
  obtain⟨E,N,rfl⟩:=fs a3;rfl
 |_=>rfl
def JB(n:Nat)(t:Int)(U:Int->Prop)(M p j0 c:Int)(nd:fK)(ns:Ms)(_:Gh):Prop:=
 (∃j,U j/\M<(nd j).dv)\/(eR (nd p) M/\dg (nd p).mb j0=true/\(nd p).er.at j0.toNat<=c/\(nd p).ck<=c+13/\(dR n t j0->M<(nd j0).dv/\∀x∈ns,dW t x=true->x.1.fr=j0->x.1.kd=6->x.1.vw≠M))
theorem CP(hU:∀j,U j->dR n t j)(I:U p)(hn:3<=n/\n<=5)(hj:1<=j0/\j0<=n)(ae:j0≠p):lw n t (JB n t U M p j0 c):=by
 obtain⟨⟨i1,i2⟩,i3⟩:=hU p I;refine⟨fun k nd ns g G D u k1 k2 H r E b H' ad=>?_,fun nd x ns g G D u H hm r l b H' ad=>?_,fun nd x ns g H hm r=>?_⟩
 .have mono:=k0 (nd:=nd) (k:=k) (s:=u) (by rw[b.dve];exact E.dv_le);have F:(ei (nd k)).out=[]:=H.out k k1 k2;rcases r with⟨j,J,j2⟩|⟨a1,a2,a3,a4,a5⟩;·exact .inl ⟨j,J,by grind⟩
  .have h5:dR n t j0->M<(dO nd k u j0).dv/\∀x∈ns++D.out,dW t x=true->x.1.fr=j0->x.1.kd=6->x.1.vw≠M:=fun h=>by
    obtain⟨b1,b2⟩:=a5 h;refine⟨by grind,fun x v h1 h2 h3=>?_⟩;rcases List.mem_append.1 v with v|v;·grind
    .have:=(E.say F v).2;omega
   by_cases f:p=k
   .subst f;have N:=eK H k1 k2;have aa:(ei (nd p)).id=p:=H.id p k1 k2;have af:(ei (nd p)).n=n:=N.nn;rcases E.lead N a1.1 (by have h1:=a1.2.1;have h2:=a1.2.2;show(nd p).ls=(nd p).dv;omega)with⟨a,w,b1,b2,rfl,b4,-⟩|⟨a,q,b1,b2,b3,rfl⟩;·obtain⟨L',q',rfl⟩:=dI b1;refine .inl ⟨p,I,?_⟩;rw[dc,b.dve];have:=gA (ei (nd p)).dv (ei (nd p)).dn;have b4:ep (ei (nd p)).dv (ei (nd p)).dn<w:=b4;have h2:(ei (nd p)).dv=M:=a1.2.2;show M<w;omega
    .obtain⟨L',q',rfl⟩:=dI b1;obtain⟨T,tm,O,-,rfl⟩:=b;have ac:(nd p).ck+1<=c+13:=by unfold uR at b2;rw[List.any_eq_false]at b2;have:=b2 j0 (rk ⟨hj.1,by omega⟩ a2 (by grind) (by grind));have:¬14<=(nd p).ck+1-(nd p).er.at j0.toNat:=of_decide_eq_false (Bool.eq_false_iff.2 this);omega
     refine .inr ⟨?_,?_,?_,?_,h5⟩;·rw[dc];exact a1
     .rw[dc];exact a2
     .rw[dc];exact a3
     .rw[dc];exact ac
   .refine .inr ⟨?_,?_,?_,?_,h5⟩<;>rw[dl f]<;>assumption
 .obtain⟨y1,z,y3⟩:=fZ H hm;have F:(eg (nd x.1.to) x).out=[]:=H.out _ z.1.1 z.1.2;have mono:=k0 (nd:=nd) (k:=x.1.to) (s:=u) (by rw[b.dve];exact l.dv_le);rcases r with⟨j,J,j2⟩|⟨a1,a2,a3,a4,a5⟩;·exact .inl ⟨j,J,by grind⟩
  .have h5:dR n t j0->M<(dO nd x.1.to u j0).dv/\∀y∈ns++D.out,dW t y=true->y.1.fr=j0->y.1.kd=6->y.1.vw≠M:=fun h=>by
    obtain⟨b1,b2⟩:=a5 h;refine⟨by grind,fun y o h1 h2 h3=>?_⟩;rcases List.mem_append.1 o with o|o;·grind
    .obtain⟨P,c2⟩:=l.say F o;have aa:(eg (nd x.1.to) x).id=x.1.to:=H.id _ z.1.1 z.1.2;rw[aa,h2]at P;rw[P]at b1;have:(eg (nd x.1.to) x).dv=(nd x.1.to).dv:=rfl;omega
   by_cases f:p=x.1.to
   .have hf:1<=x.1.fr/\x.1.fr<=7:=by have:=y1.1;omega
    have S:=zm l b (j:=j0.toNat) (fun h1 h2=>by
     have h3:x.1.vw=M:=h2.trans (by rw[<-f];exact a1.2.1)
     grind) hf
    have Q:u.ck=(nd x.1.to).ck:=by rw[b.ck];exact l.kp.ck
    rw[<-f]at l S Q⊢;rcases jr (s:=eg (nd p) x) a1 l b with h|⟨h,h'⟩;·exact .inl ⟨p,I,by rw[dc];exact h⟩
    .rw[<-f]at h5;refine .inr ⟨?_,?_,?_,?_,h5⟩;·rw[dc];exact h
     .rw[dc,h'];exact a2
     .rw[dc,S];exact a3
     .rw[dc,Q];exact a4
   .refine .inr ⟨?_,?_,?_,?_,h5⟩<;>rw[dl f]<;>assumption
 .rcases r with h|⟨a1,a2,a3,a4,a5⟩;·exact .inl h
  .exact .inr ⟨a1,a2,a3,a4,fun h=>⟨(a5 h).1,fun y o=>(a5 h).2 y (List.mem_cons_of_mem _ o)⟩⟩
theorem FK(f:3<=n/\n<=5)(b:∀j,U j->dR n t j)(k:U p)(q:1<=j0/\j0<=n)(v:j0≠p){a:Int->Int}{r:Nat}(hr:r+14<=101)(H:Qr n a r A g)(h1:eR (ed n A.W p) M)(h2:dg (ed n A.W p).mb j0=true)(h3:dR n t j0->M<(ed n A.W j0).dv):∃A' G,mS t 14 A=some A'/\Qr n a (r+14) A' G/\∃j,U j/\M<(ed n A'.W j).dv:=by
 obtain⟨⟨l,o⟩,y⟩:=b p k;obtain⟨b1,b2,b3⟩:=H.at l o;obtain⟨A',G,k1,k2,k3⟩:=im f (CP (M:=M) (c:=(ed n A.W p).ck) b k f q v) 14 hr H (.inr ⟨h1,h2,b3 _,by omega,fun h=>⟨h3 h,fun x w=>by cases w⟩⟩);refine⟨A',G,k1,k2,?_⟩;rcases k3 with h|⟨-,-,-,h,-⟩;·exact h
 .exfalso;have:=(k2.at l o).1;omega
end
section
variable{j k:Int}
variable{n:Nat} {g G Y Z:Gh} {i d V t M w i0 j0 p c:Int} {dv:Int->Int} {B B' K K' R N:Int} {s s' D u:dp} {m:dz} {L C:List dj} {e:dj} {W:eW} {A A':dU} {nd:fK} {ns:Ms} {x:dz×List dj} {U:Int->Prop}
theorem za(b:3<=n/\n<=5)(a:1<=j/\j<=n):dg (no ((n:Int).toNat:Nat)) j=true:=by
 have h3:n=3\/n=4\/n=5:=by omega
 have h5:j=1\/j=2\/j=3\/j=4\/j=5:=by omega
 rcases h3 with rfl|rfl|rfl<;>rcases h5 with rfl|rfl|rfl|rfl|rfl<;>first|decide+kernel|omega
theorem Ts.prop(h:Ts s s'):s'.dv=s.dv\/∃a b w,s'=jc {s with L:=a,q:=b} w/\ep s.dv s.dn<w/\dJ w s.n=s.id:=by
 cases h with
 |again w vw vs h1 h2 h3 h4 h5 h6 f=>grind
 |silent D w h1 h2 h3 h4 h8 h5 h6 f=>
  obtain⟨a,b,rfl⟩:=dI h4;grind
 |dec D q h1 h2 h3 h4=>
  obtain⟨a,b,rfl⟩:=dI h4;exact .inl rfl
 |late w h1 h2 h3 h5 h6 f=>grind
 |_=>exact .inl rfl
theorem jk(H:GV n g nd ns)(q:x∈ns)(l:x.1.kd=4):x.1.vw<=(nd x.1.to).dv/\(g.vt x.1.vw).isSome=true:=by
 have X:=H.ms x q;obtain⟨-,⟨vs,h2,h3⟩,-,-,-,h6,-⟩:=X.k4 l;obtain⟨v,z,f,E,-⟩:=X.ids;have b:=H.ok.vs _ vs h2;have h:=fS (fun y a=>(b.ok y a).2.1.id);have o:x.1.to<=7:=by have:=(gT.1 X.may).1;rw[lb]at this;omega
 rw[h3]at h6;obtain⟨y,a,r⟩:=(h.2 x.1.to ⟨f,o⟩).1 h6;have:=(b.ok y a).2.2.1;rw[r]at this;exact⟨this,by rw[h2];rfl⟩
theorem ij(H:GV n g nd ns)(b:x∈ns)(a:x.1.kd=1):dJ x.1.vw n=x.1.fr/\x.1.vw<=(nd x.1.fr).dv:=by obtain⟨h1,h2,h3⟩:=(H.ms x b).k1 a;exact⟨h1,h3⟩
theorem nK(H:GV n g nd (x::ns))(J:dW t x=true)(E:Hs (eg (nd x.1.to) x) x.1 x.2 D)(F:Sd D u)(b:∀j,dR n t j->(nd j).dv<=M):∀j,dR n t j->(dO nd x.1.to u j).dv<=M:=by
 intro j I;obtain⟨O,P,y3⟩:=fZ H J;have v:x∈x::ns:=List.mem_cons_self ..;by_cases l:j=x.1.to
 .rw[l,dc,F.dve];have a:=b _ P;have S:(eg (nd x.1.to) x).dv=(nd x.1.to).dv:=rfl;cases E with
  |join k h1 h2=>
   have:=(ij H v k).2;have:=b _ O;show x.1.vw<=M;omega
  |took k h1 h2=>
   have:=(jk H v k).1;show ep (eg (nd x.1.to) x).dv x.1.vw<=M;unfold ep;omega
  |has _ k b1 b2 b3 b4=>
   obtain⟨q,X,h|⟨T,r,hr,rfl⟩⟩:=eY b4;·rw[h.1];exact a
   .obtain⟨f,o,l',y,z,-⟩:=eH hr;rw[y,z];exact a
  |data _ k b1 b2 b3=>
   obtain⟨Q,q',rfl⟩:=fs b3;exact a
  |_=>exact a
 .rw[dl l];exact b j I
def IE(n:Nat)(t M k:Int)(nd:fK)(ns:Ms)(_:Gh):Prop:=
 (∀x∈ns,x.1.kd≠3)/\(∀j,dR n t j->k<=j->(nd j).dv<=M)/\∀j,dR n t j->M<(nd j).dv->(∃y,(nd j).v=some ((nd j).dv,[y])/\y.fr=j)/\(nd j).f.has=false/\(nd j).f.ask=[]/\∀y,dR n t y->y≠j->∃x∈ns,dW t x=true/\x.1.kd=1/\x.1.vw=(nd j).dv/\x.1.to=y
theorem GD(J:3<=n/\n<=5)(k1:1<=k)(k2:k<=n)(H:GV n g nd ns)(I:IE n t M k nd ns g)(v:Ts (ei (nd k)) D)(r:Sd D u):IE n t M (k+1) (dO nd k u) (ns++D.out) G:=by
 obtain⟨h1,h2,h3⟩:=I;have S:(ei (nd k)).out=[]:=H.out k k1 k2;have b:(ei (nd k)).id=k:=H.id k k1 k2;have Q:(ei (nd k)).n=n:=(eK H k1 k2).nn;refine⟨fun x a=>?_,fun j f z=>by grind[dl],fun j f o=>?_⟩
 .rcases List.mem_append.1 a with a|a;·exact h1 x a
  .have:=(v.say S a).2;omega
 .by_cases z:j=k
  .subst z;rw[dc]at o⊢;have aa:=h2 j f (Int.le_refl _);rw[r.dve]at o;rcases v.prop with e|⟨l,F,w,rfl,X,e3⟩;·have e:D.dv=(nd j).dv:=e;omega
   .obtain⟨T,tm,O,-,rfl⟩:=r;refine⟨⟨_,rfl,b⟩,rfl,rfl,fun y E P=>?_⟩;refine⟨(dm {ei (nd j)with L:=l,q:=F} (gm w y),[]),List.mem_append_right _ ?_,?_,rfl,rfl,rfl⟩;·show _∈(ex (ei (nd j)).id (ei (nd j)).n (iI (ei (nd j)).n.toNat)).flatMap (fq {ei (nd j)with L:=l,q:=F} w);rw[List.mem_flatMap];refine⟨y,?_,List.mem_singleton.2 rfl⟩;rw[b,Q];have h:=E.1;exact rk ⟨h.1,by omega⟩ (za J h) P h.2
    .unfold dW;show(dg t (ei (nd j)).id&&dg t y)=true;rw[b,f.2,E.2];rfl
  grind[dl,List.mem_append_left]
structure JE (n:Nat) (t w p:Int) (nd:fK) (ns:Ms) (vs:List iq):Prop where
 pS:dR n t p
 mx:∀j,dR n t j->(nd j).dv<=w
 pd:(nd p).dv=w
 pv:(nd p).v=some (w,vs)
 vi:∀y∈vs,dR n t y.fr
 f:(nd p).f.has=false/\(nd p).f.ask=[]
 st:∀j,dR n t j->j≠p->((nd j).dv<w/\∃x∈ns,dW t x=true/\x.1.kd=1/\x.1.vw=w/\x.1.to=j)\/((nd j).dv=w/\(nd j).v=none/\(nd j).ls<w/\(nd j).hd=(nd j).ck/\((∃x∈ns,dW t x=true/\x.1.kd=3/\x.1.vw=w/\x.1.fr=j/\x.1.to=p)\/dg (dr vs) j=true))
theorem Eu(o:3<=n/\n<=5)(nd:fK){j:Int}(b:dR n t j):∃p,dR n t p/\∀i,dR n t i->(nd i).dv<=(nd p).dv:=by
 have f:∀(k:Nat),(k:Int)<=n->(∃j,dR n t j/\j<=k)->∃p,dR n t p/\p<=k/\∀i,dR n t i->i<=k->(nd i).dv<=(nd p).dv:=by
  intro k
  induction k with
  |zero=>rintro-⟨j,h1,h2⟩;have:=h1.1;omega
  |succ k q=>
   rintro l ⟨j,h1,h2⟩;by_cases h:∃j,dR n t j/\j<=(k:Int);·grind
   grind
 obtain⟨p,a1,-,a3⟩:=f n (Int.le_refl _) ⟨j,b,b.1.2⟩;exact⟨p,a1,fun i a=>a3 i a a.1.2⟩
theorem KC(r:3<=n/\n<=5)(H:GV n g nd ns)(q:IE n t M k nd ns g):(∀j,dR n t j->(nd j).dv<=M)\/∃w p vs,M<w/\JE n t w p nd ns vs:=by
 obtain⟨h1,h2,h3⟩:=q;by_cases J:∀j,dR n t j->(nd j).dv<=M;·grind
 .right;obtain⟨j,h,O⟩:∃j,dR n t j/\M<(nd j).dv:=by grind
  obtain⟨p,b,f⟩:=Eu r nd h;have l:M<(nd p).dv:=by have:=f j h;omega
  obtain⟨⟨y,o,S⟩,a2,a3,a4⟩:=h3 p b l;refine⟨(nd p).dv,p,[y],l,b,f,rfl,o,fun z Q=>?_,⟨a2,a3⟩,fun i a P=> .inl ⟨?_,?_⟩⟩;·grind
  .have h4:=f i a;by_cases e:(nd i).dv=(nd p).dv;·exfalso;obtain⟨⟨z,E,T⟩,-⟩:=h3 i a (by omega);have F:=(H.nod i a.1.1 a.1.2).v _ _ E;have I:=(H.nod p b.1.1 b.1.2).v _ _ o;grind
   .omega
  grind
theorem wE{vs:List iq}{y:iq}(h:∀z∈vs,dE z.fr)(f:dE y.fr)(b:dE j):dg (dr (vs++[y])) j=true↔dg (dr vs) j=true\/y.fr=j:=by
 have h1:=(fS h).2 j b
 have h2:=(fS (vs:=vs++[y]) (fun z a=>by
  rcases List.mem_append.1 a with a|a;·exact h z a
  .rw[List.mem_singleton]at a;rw[a]
   exact f)).2 j b
 rw[h2,h1];simp only[List.mem_append,List.mem_singleton];constructor
 .rintro⟨z,a|rfl,h⟩;·exact .inl ⟨z,a,h⟩
  .exact .inr h
 .rintro(⟨z,a,h⟩|h);·exact⟨z,.inl a,h⟩
  .exact⟨y,.inr rfl,h⟩
theorem iG(a:3<=n/\n<=5)(h:dR n t j):dE j:=⟨h.1.1,by have:=h.1.2;omega⟩
theorem GJ(hn:3<=n/\n<=5){vs:List iq}(H:GV n g nd (x::ns))(hm:dW t x=true)(hJ:JE n t w p nd (x::ns) vs)(I:Hs (eg (nd x.1.to) x) x.1 x.2 D)(J:Sd D u):∃l,JE n t w p (dO nd x.1.to u) (ns++D.out) l:=by
 obtain⟨pS,mx,Q,S,vi,pf,st⟩:=hJ;obtain⟨y1,E,y3⟩:=fZ H hm;have P:x∈x::ns:=List.mem_cons_self ..;have aA:(eg (nd x.1.to) x).out=[]:=H.out _ E.1.1 E.1.2;have ah:(eg (nd x.1.to) x).id=x.1.to:=H.id _ E.1.1 E.1.2;have ag:=nK H hm I J mx;have Np:=H.nod p pS.1.1 pS.1.2;have af:=Np.v w vs S;have aB:g.vt w=none:=af.2.1;have az:x.1.kd=4->x.1.vw≠w:=fun h1 h2=>by grind[jk]
 have an:(nd p).ls<w:=af.2.2.1;have aj:∀{z:dz×List dj},z∈ns->z∈ns++D.out:=fun h=>List.mem_append_left _ h;by_cases F:p=x.1.to
 .
  have ap:∃l,u.dv=w/\u.v=some (w,l)/\(∀y∈l,dR n t y.fr)/\(u.f.has=false/\u.f.ask=[])/\(∀j,dE j->dg (dr vs) j=true->dg (dr l) j=true)/\(x.1.kd=3->x.1.vw=w->dg (dr l) x.1.fr=true):=by
   have hs:(nd x.1.to)=nd p:=by rw[F]
   have same:u.dv=w->u.v=some (w,vs)->u.f=(nd p).f->(x.1.kd=3->x.1.vw=w->dg (dr vs) x.1.fr=true)->∃l,u.dv=w/\u.v=some (w,l)/\(∀y∈l,dR n t y.fr)/\(u.f.has=false/\u.f.ask=[])/\(∀j,dE j->dg (dr vs) j=true->dg (dr l) j=true)/\(x.1.kd=3->x.1.vw=w->dg (dr l) x.1.fr=true):=fun a b c d=>⟨vs,a,b,vi,by grind,fun _ _ h=>h,d⟩
   rw[hs]at I
   have e0:(eg (nd p) x).dv=w:=Q
   have e1:(eg (nd p) x).v=some (w,vs):=S
   have e2:(eg (nd p) x).ls<w:=an
   have aq:eC (eg (nd p) x)=true->False:=fun h=>by
    grind[eC]
   obtain⟨T,tm,O,-,rfl⟩:=J
   cases I with
   |join k h1 h2=>
    have:=(ij H P k).2;grind
   |deny k=>exact same Q S rfl (fun h=>by omega)
   |revote k=>exact same Q S rfl (fun h=>by omega)
   |denied k=>exact same Q S rfl (fun h=>by omega)
   |voted vw us k h1 h2 h3 h4=>
    rw[e1]at h1;cases h1;refine⟨vs++[⟨x.1.fr,x.1.ls,x.2,x.1.cm⟩],Q,rfl,fun y hy=>?_,pf,fun j hj h=>?_,fun _ _=>?_⟩;·grind
    .grind[wE,iG]
    .exact(wE (fun z hz=>iG hn (vi z hz)) (iG hn y1) (iG hn y1)).2 (.inr rfl)
   |took k h1 h2=>
    have:=(jk H P k).1;grind
   |same k h1 h2=>omega
   |app L' k h1=>grind
   |fresh k h1=>grind
   |has _ k h1=>grind
   |data _ k h1=>grind
   |askd q k h1=>grind
   |none k1 k2 k3=>
    refine same Q S rfl (fun h1 h2=>k3 h1 vs (by grind) (by omega))
  obtain⟨l,v1,v2,v3,v4,v5,v6⟩:=ap
  refine⟨l,pS,ag,?_,?_,v3,?_,fun j hj ae=>?_⟩
  .rw[F,dc];exact v1
  .rw[F,dc];exact v2
  .rw[F,dc];exact v4
  .have am:j≠x.1.to:=by rw[<-F];exact ae
   rw[dl am];rcases st j hj ae with⟨a1,z,a2,a3,a4,a5,a6⟩|⟨a1,a2,a3,a4,a5⟩;·grind
   grind[b4,iG]
 .refine⟨vs,pS,ag,by rw[dl F];exact Q,by rw[dl F];exact S,vi,by rw[dl F];exact pf,fun j hj ae=>?_⟩;have au:=J;by_cases ai:j=x.1.to
  .rw[ai,dc];have al:=ag _ E;rw[dc]at al;have ax:dR n t x.1.to:=E;have ao:=st x.1.to E (by omega);obtain⟨N0,av⟩:fU n g (wW nd) (eg (nd x.1.to) x)/\True:=⟨iW H E.1.1 E.1.2 x,trivial⟩;have ay:=N0.ls;have ar:u.dv=D.dv:=J.dve;rcases ao with⟨a1,z,a2,a3,a4,a5,a6⟩|⟨a1,a2,a3,a4,a5⟩
   .
    have a1:(eg (nd x.1.to) x).dv<w:=a1
    by_cases X:x.1.kd=1/\x.1.vw=w
    .cases I with
     |join k h1 h2=>
      obtain⟨T,tm,O,-,rfl⟩:=J;refine .inr ⟨X.2,rfl,by show(eg (nd x.1.to) x).ls<w;omega,rfl,.inl ⟨(dm (pA (eg (nd x.1.to) x) x.1) (kE (eg (nd x.1.to) x) x.1),(eg (nd x.1.to) x).L),List.mem_append_right _ ?_,?_,rfl,X.2,ah,?_⟩⟩;·show _∈(pA (eg (nd x.1.to) x) x.1).out++[_];grind
      .unfold dW;show(dg t (eg (nd x.1.to) x).id&&dg t x.1.fr)=true;rw[ah,E.2,y1.2];rfl
      .show x.1.fr=p;have e1:=(ij H P k).1;have e2:=af.1;have e3:=H.id p pS.1.1 pS.1.2;grind
     |deny k h1 h2=>omega
     |revote k h1 h2=>omega
     |none k1=>exact absurd (by have h:=(ij H P X.1).1;rw[N0.nn];exact h.symm) (k1 X.1)
     |denied k=>omega
     |voted _ _ k=>omega
     |took k=>omega
     |same k=>omega
     |app _ k=>omega
     |fresh k=>omega
     |has _ k=>omega
     |data _ k=>omega
     |askd _ k=>omega
    .have hz:z∈ns:=by
      rcases List.mem_cons.1 a2 with e|h;·rw[e]at a4 a5;exact absurd ⟨a4,a5⟩ X
      .exact h
     refine .inl ⟨?_,z,aj hz,a3,a4,a5,a6⟩;by_cases e:u.dv=w
     .exfalso;rw[ar]at e;cases I with
      |join k h1 h2=>exact X ⟨k,e⟩
      |took k h1 h2=>
       have h5:=(jk H P k).1;have h6:ep (eg (nd x.1.to) x).dv x.1.vw=w:=e;have h7:(eg (nd x.1.to) x).dv=(nd x.1.to).dv:=rfl;grind[ep]
      |has _ k b1 b2 b3 b4=>
       obtain⟨q,hq,h|⟨hc,r,hr,rfl⟩⟩:=eY b4;·rw[h.1]at e;have e:(eg (nd x.1.to) x).dv=w:=e;omega
       .obtain⟨f,o,l',e1,e2,-⟩:=eH hr;rw[e1,e2]at e;have e:(eg (nd x.1.to) x).dv=w:=e;omega
      |data _ k b1 b2 b3=>
       obtain⟨L',q',rfl⟩:=fs b3;grind
      |deny=>have e:(eg (nd x.1.to) x).dv=w:=e;omega
      |revote=>have e:(eg (nd x.1.to) x).dv=w:=e;omega
      |denied=>grind
      |voted=>grind
      |same=>have e:(eg (nd x.1.to) x).dv=w:=e;omega
      |app=>have e:(eg (nd x.1.to) x).dv=w:=e;omega
      |fresh=>grind
      |askd=>have e:(eg (nd x.1.to) x).dv=w:=e;omega
      |none=>omega
     .omega
   .
    have e0:(eg (nd x.1.to) x).dv=w:=a1
    have e2:(eg (nd x.1.to) x).ls<w:=a3
    have aq:eC (eg (nd x.1.to) x)=true->False:=fun h=>by
     grind[eC]
    have ak:(∃z∈ns++D.out,dW t z=true/\z.1.kd=3/\z.1.vw=w/\z.1.fr=x.1.to/\z.1.to=p)\/dg (dr vs) x.1.to=true:=by
     rcases a5 with⟨z,b1,b2,b3,b4,b5,b6⟩|h
     .rcases List.mem_cons.1 b1 with e|h;·rw[e]at b6;exact absurd b6.symm F
      .exact .inl ⟨z,aj h,b2,b3,b4,b5,b6⟩
     .exact .inr h
    have aw:u.ck=(nd x.1.to).ck:=by rw[J.ck];exact I.kp.ck
    have same:u.dv=w->u.v=none->u.ls=(nd x.1.to).ls->u.hd=(nd x.1.to).hd->(u.dv<w/\∃z∈ns++D.out,dW t z=true/\z.1.kd=1/\z.1.vw=w/\z.1.to=x.1.to)\/(u.dv=w/\u.v=none/\u.ls<w/\u.hd=u.ck/\((∃z∈ns++D.out,dW t z=true/\z.1.kd=3/\z.1.vw=w/\z.1.fr=x.1.to/\z.1.to=p)\/dg (dr vs) x.1.to=true)):=fun b1 b2 b3 b4=> .inr ⟨b1,b2,by omega,by omega,ak⟩
    obtain⟨T,tm,O,-,rfl⟩:=J
    cases I with
    |join k h1 h2=>
     have:=(ij H P k).2;grind
    |deny k=>exact same e0 a2 rfl rfl
    |revote k=>exact same e0 a2 rfl rfl
    |denied k h1=>exact absurd a2 h1
    |voted vw us k h1=>grind[eg]
    |took k h1 h2=>
     have h5:=(jk H P k).1;grind
    |same k h1 h2=>omega
    |app L' k h1=>grind
    |fresh k h1=>grind
    |has _ k h1=>grind
    |data _ k h1=>grind
    |askd q k h1=>grind
    |none=>exact same e0 a2 rfl rfl
  .rw[dl ai];grind
end
section
variable{n:Nat} {g u V O:Gh} {i d Z t M X w i0 j0 p c:Int} {dv:Int->Int} {B B' K K' R Y:Int} {s s' G D:dp} {m:dz} {L C:List dj} {e:dj} {W:eW} {A A':dU} {nd:fK} {ns:Ms} {x:dz×List dj} {U:Int->Prop} {N:Int->Int} {r:Nat}
theorem GH{vs:List iq}(v:dW t x=false)(a:JE n t w p nd (x::ns) vs):JE n t w p nd ns vs:=by
 obtain⟨f,b,h,l,o,k,F⟩:=a;have E:∀{z:dz×List dj},z∈x::ns->dW t z=true->z∈ns:=fun h1 h2=>by grind
 refine⟨f,b,h,l,o,k,fun j q y=>?_⟩;grind
def VS(n:Nat)(t:Int)(nd:fK):Prop:=∃w p vs,JE n t w p nd [] vs
theorem wZ(l:3<=n/\n<=5)(hr:r<=100)(H:Qr n N r A g)(y:∀j,dR n t j->(ed n A.W j).dv<=M):∃A' u,qD t A=some A'/\Qr n N (r+1) A' u/\((∀j,dR n t j->(ed n A'.W j).dv<=M)\/VS n t (ed n A'.W)):=by
 obtain⟨A',u,h1,h2,h3⟩:=jN l (t:=t) (I:=IE n t M) (J:=fun nd ns _=>(∀j,dR n t j->(nd j).dv<=M)\/∃w p vs,JE n t w p nd ns vs) (fun k nd ns g u G D k1 k2 H q z a _ _=>GD l k1 k2 H q z a) (fun nd ns g H q=>by
  grind[KC]) (fun nd x ns g u G D H b f o a _ _=>by
  rcases f with h|⟨w,p,vs,h⟩;·exact .inl (nK H b o a h)
  .obtain⟨P,F⟩:=GJ l H b h o a
   grind) (fun nd x ns g H b f=>by
  rcases f with h|⟨w,p,vs,h⟩;·exact .inl h
  .exact .inr ⟨w,p,vs,GH b h⟩) hr H ⟨fun x E=>(by cases E),fun j v _=>y j v,fun j v h=>by grind⟩
 exact⟨A',u,h1,h2,h3⟩
def LV(n:Nat)(t:Int)(N:Int->Int)(r k:Nat)(A:dU):Prop:=∃a A' u,a<=k/\mS t a A=some A'/\Qr n N (r+a) A' u/\VS n t (ed n A'.W)
theorem LV.le{k b:Nat}(h:LV n t N r k A)(f:k<=b):LV n t N r b A:=by obtain⟨a,A',u,h1,h2⟩:=h;exact⟨a,A',u,by omega,h2⟩
theorem gy{t:Int}:∀(a b:Nat) {A A':dU},mS t a A=some A'->mS t (a+b) A=mS t b A'
 |0,b,A,A',h=>by
  have:A=A':=Option.some.inj h;grind
 |a+1,b,A,A',h=>by
  rw[show a+1+b=(a+b)+1 by omega];have h:(qD t A).bind (mS t a)=some A':=h;obtain⟨f,h1,h2⟩:=Option.bind_eq_some_iff.1 h;show(qD t A).bind (mS t (a+b))=_;rw[h1];exact gy a b h2
theorem LV.after{k b:Nat}(h:mS t k A=some A')(h2:LV n t N (r+k) b A'):LV n t N r (k+b) A:=by obtain⟨a,f,O,h3,h4,h5,h6⟩:=h2;exact⟨k+a,f,O,by omega,by rw[gy k a h];exact h4,by rw[<-Nat.add_assoc];exact h5,h6⟩
theorem fL(h:qD t A=some A'):mS t 1 A=some A':=by unfold mS;rw[h];rfl
theorem qR(b:3<=n/\n<=5):∀(k:Nat) {r:Nat} {A:dU} {g:Gh},r+k<=101->Qr n N r A g->(∀j,dR n t j->(ed n A.W j).dv<=M)->LV n t N r k A\/∃A' u,mS t k A=some A'/\Qr n N (r+k) A' u/\∀j,dR n t j->(ed n A'.W j).dv<=M
 |0,r,A,g,hr,H,a=> .inr ⟨A,g,rfl,H,a⟩
 |k+1,r,A,g,hr,H,a=>by
  obtain⟨f,V,h1,h2,h3⟩:=wZ b (by omega) H a;rcases h3 with h3|h3
  .rcases qR b k (by omega) h2 h3 with h4|⟨h,O,h4,h5,h6⟩;·left;have:=LV.after (fL h1) h4;grind
   .right;refine⟨h,O,?_,by grind,h6⟩;rw[Nat.add_comm,gy 1 k (fL h1)];exact h4
  .exact .inl ⟨1,f,V,by omega,fL h1,h2,h3⟩
theorem lw.and{J q:fK->Ms->Gh->Prop}(a:lw n t J)(b:lw n t q):lw n t (fun nd ns g=>J nd ns g/\q nd ns g):=
 ⟨fun k nd ns g u G D k1 k2 H f y j h o=>⟨a.tick k nd ns g u G D k1 k2 H f.1 y j h o,b.tick k nd ns g u G D k1 k2 H f.2 y j h o⟩,fun nd x ns g u G D H l f v j h o=>⟨a.hear nd x ns g u G D H l f.1 v j h o,b.hear nd x ns g u G D H l f.2 v j h o⟩,fun nd x ns g H l f=>⟨a.drop nd x ns g H l f.1,b.drop nd x ns g H l f.2⟩⟩
def jL(n:Nat)(t M:Int)(nd:fK):Prop:=∃j,dR n t j/\M<(nd j).dv
theorem ky{k:Int}(h:jL n t M nd)(b:Ts (ei (nd k)) G)(a:Sd G D):jL n t M (dO nd k D):=by obtain⟨j,h1,h2⟩:=h;have:=k0 (nd:=nd) (k:=k) (s:=D) (by rw[a.dve];exact b.dv_le) j;exact⟨j,h1,by omega⟩
theorem kx(h:jL n t M nd)(a:Hs (eg (nd x.1.to) x) x.1 x.2 G)(b:Sd G D):jL n t M (dO nd x.1.to D):=by obtain⟨j,h1,h2⟩:=h;have:=k0 (nd:=nd) (k:=x.1.to) (s:=D) (by rw[b.dve];exact a.dv_le) j;exact⟨j,h1,by omega⟩
def JL(n:Nat)(t M p T:Int)(nd:fK)(_:Ms)(_:Gh):Prop:=jL n t M nd\/(eR (nd p) M/\(nd p).mb=T)
theorem qs(q:dR n t p){T:Int}:lw n t (JL n t M p T):=by
 refine⟨fun k nd ns g u G D k1 k2 H b o f v z=>?_,fun nd x ns g u G D H y b l f v z=>?_,fun nd x ns g H y b=>b⟩
 .rcases b with h|⟨h1,h2⟩;·exact .inl (ky h o f)
  .by_cases a:p=k
   .subst a;rcases oG (eK H k1 k2) h1 o f with h|⟨h,j⟩;·exact .inl ⟨p,q,by rw[dc];exact h⟩
    .exact .inr ⟨by rw[dc];exact h,by rw[dc,j];exact h2⟩
   .exact .inr ⟨by rw[dl a];exact h1,by rw[dl a];exact h2⟩
 .rcases b with h|⟨h1,h2⟩;·exact .inl (kx h l f)
  .by_cases a:p=x.1.to
   .rw[a]at h1 h2;rcases jr (s:=eg (nd x.1.to) x) h1 l f with h|⟨h,j⟩;·exact .inl ⟨p,q,by rw[a,dc];exact h⟩
    .exact .inr ⟨by rw[a,dc];exact h,by rw[a,dc,j];exact h2⟩
   .exact .inr ⟨by rw[dl a];exact h1,by rw[dl a];exact h2⟩
end
end Go.Proofs.YtjhbmbbmjaabcaaGreat
