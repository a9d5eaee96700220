/-
  Contracts. Conditions stand at each.
-/
import Derived.Test.YtjhbmbbmjaabcaaGreatS39
set_option linter.all false
set_option maxRecDepth 8000
set_option maxHeartbeats 8000000
namespace Go.Proofs.YtjhbmbbmjaabcaaGreat
open Go Go.Sort Go.RowKit
section
theorem Jj{s:Int}:∀(k:Nat) (L L':dU),AF s k L=some L'->L'.n=L.n
 |0,L,L',h=>by cases h;rfl
 |k+1,L,L',h=>by
  unfold AF at h;split at h;·cases h;rfl
  .obtain⟨V,h1,h2⟩:=Option.bind_eq_some_iff.1 h;exact(Jj k V L' h2).trans (IY h1)
theorem Ji{s:Int}:∀(k:Nat) (L L':dU),mS s k L=some L'->L'.n=L.n
 |0,L,L',h=>by cases h;rfl
 |k+1,L,L',h=>by
  unfold mS at h;obtain⟨V,h1,h2⟩:=Option.bind_eq_some_iff.1 h;unfold qD at h1;obtain⟨a,h3,h4⟩:=Option.bind_eq_some_iff.1 h1;obtain⟨b,h5,h6⟩:=Option.bind_eq_some_iff.1 h4;exact(Ji k V L' h2).trans ((Jj _ _ _ h6).trans ((wG _ _ _ h5).trans (IZ h3)))
theorem If{m:dz}{L:List dj}(h:eP m L=true):dE m.fr/\dE m.to:=by have:=(lb m).1 (gT.1 h).1;unfold dE;omega
theorem jf.may{w:World}{o:Ow}{g:Nat}{ns:List (dz×List dj)}(h:jf w o g ns){x:dz×List dj}(b:x∈ns):eP x.1 x.2=true:=by obtain⟨p,c,d,-,-,a⟩:=h;exact a x b
variable{w N:World} {o G:Ow} {u D:Nat} {A A':my} {L L':dU}
theorem yA(ar:Cl w o)(h:mA w o u D A L){s:Int}(aB:gS s){n:Nat}(hn:n<=1000)(hs:mS s n L=some L'):
  Calls Tryz.prog 17 #[de u,.int .i64 s,.int .i64 (n:Int)] w fun e w'=>e=.returned (.tuple #[])/\∃o' A',mA w' o' u D A' L'/\Fm nZ o o' w w':=by
 have H:=hI h;have HS:=hI hs;have HT:=hI aB;have M0:=hI (Fm.refl (C:=nZ) ar);clear ar h hs aB;go_enter Tryz.func17,Tryz.ntmps17;go_wp2;go_loopw [6] (fun v J=>∃(i:Nat) (oi:Ow) (Ai:my) (Li:dU),i<=n/\v=.int .i64 (i:Int)/\mA J oi u D Ai Li/\mS s (n-i) Li=some L'/\Fm nZ o oi w J) (fun v _=>n-(intOf v).toNat);case atStart=>exact⟨0,o,A,L,by omega,rfl,H.o,HS.o,M0.o⟩
 case round=>
  obtain⟨i,oi,Ai,Li,hi,rfl,F,j,I⟩:=hrel;have b:=hI F;have g:=hI j;have d:=hI I;clear F j I H M0 HS;have O:=b.o.box.box.c 0 _ rfl;have t1:=b.o.box.box.c 1 _ rfl;by_cases r:i<n
  .have e5:decide ((i:Int)<(n:Int))=true:=decide_eq_true (by omega);have aL:decide (i<n)=true:=decide_eq_true r;have hr:=g.o;rw[show n-i=(n-(i+1))+1 by omega]at hr;unfold mS at hr;obtain⟨Lr,ah,aw⟩:=Option.bind_eq_some_iff.1 hr;unfold qD at ah;obtain⟨f,ax,ay⟩:=Option.bind_eq_some_iff.1 ah;obtain⟨Lt,ai,az⟩:=Option.bind_eq_some_iff.1 ay;unfold oY at ai;have al:=hI aw;have aI:=hI ax;have am:=hI ai;have ak:=hI az;clear hr ah aw ax ay ai az g;go_wp2_with fail;refine(xU d.o.cl b.o.lv aI.o).mono ?_;rintro e w1 ⟨rfl,o1,A1,h1,m1⟩;have H1:=hI (b.o.go m1 h1);have M1:=hI (d.o.tr (m1.mono kW) jP);have aP:=h1.n7;clear h1 m1 b d O t1;go_wp2;go_loopw [7] (fun v J=>∃(a:Nat) (t:Ow) (K:my) (c:dU),1<=a/\a<=f.n+1/\v=.int .i64 (a:Int)/\mA J t u D K c/\dt mQ (List.range' a (f.n+1-a)) c=some Lt/\c.n=f.n/\Fm nZ o t w J) (fun v _=>f.n+1-(intOf v).toNat);case atStart=>exact⟨1,_,_,f,by omega,by omega,rfl,H1.o,by rw[Nat.add_sub_cancel];exact am.o,rfl,M1.o⟩
   case round=>
    clear H1 M1 am;obtain⟨a,t,K,c,aN,aO,rfl,F,j,au,I⟩:=hrel;have b:=hI F;have g:=hI j;have ad:=hI au;have d:=hI I;clear F j au I;have O:=b.o.box.box.c 0 _ rfl;have c1:=b.o.lv.box.box.c 1 _ rfl;rw[ad.o]at c1;by_cases r:a<=f.n
    .have e6:decide ((a:Int)<=(f.n:Int))=true:=decide_eq_true (by omega);have ag:decide (a<=f.n)=true:=decide_eq_true r;have hr:=g.o;rw[show f.n+1-a=(f.n+1-(a+1))+1 by omega,List.range'_succ]at hr;obtain⟨Q,E,aA⟩:=dy hr;have aJ:=hI E;have aH:=hI aA;have aF:Hid (1<=a/\a<=c.n):=hI ⟨aN,by rw[ad.o];exact r⟩;have af:Hid (Q.n=f.n):=hI ((Ap E).trans ad.o);clear hr E aA g;go_wp2_with fail;refine(xW d.o.cl b.o.lv aF.o aJ.o).mono ?_;rintro e w5 ⟨⟨rr,rfl⟩,oc,Ac,h5,m5⟩;have aG:=hI (b.o.go m5 h5);have aK:=hI (d.o.tr (m5.mono kW) jP);clear h5 m5;go_wp2;go_roundw;case rel=>exact⟨a+1,oc,Ac,Q,by omega,by omega,by go_num,aG.o,aH.o,af.o,aK.o⟩
     case measure=>simp[intOf];omega
    .have e6:decide ((a:Int)<=(f.n:Int))=false:=decide_eq_false (by omega);have ag:decide (a<=f.n)=false:=decide_eq_false r
     have x:Hid (c=Lt):=hI (by
      have:=g.o;rw[show f.n+1-a=0 by omega]at this
      exact Option.some.inj this)
     rw[x.o]at b;clear g ad x;go_wp2;go_loopw [8] (fun v J=>∃(k:Nat) (t:Ow) (K:my) (c:dU),k<=500/\v=.int .i64 (k:Int)/\mA J t u D K c/\AF s (500-k) c=some Lr/\Fm nZ o t w J) (fun v _=>500-(intOf v).toNat);case atStart=>exact⟨0,_,_,_,by omega,rfl,b.o,ak.o,d.o⟩
     case round=>
      clear b d ak O c1;obtain⟨k,t,K,c,hk,rfl,F,j,I⟩:=hrel;have b:=hI F;have g:=hI j;have d:=hI I;clear F j I;have O:=b.o.box.box.c 0 _ rfl;have c0:=b.o.lv.box.box.c 0 _ rfl;by_cases r:k<500
      .have e6:decide ((k:Int)<500)=true:=decide_eq_true (by omega);have ag:decide (k<500)=true:=decide_eq_true r;have hr:=g.o;rw[show 500-k=(500-(k+1))+1 by omega]at hr;unfold AF at hr;go_wp2_with fail;refine(wO b.o.lv.q.wr).mono ?_;rintro e w5 ⟨rfl,rfl⟩;go_wp2_with fail;refine(Gn b.o.lv.q.wr.net).mono ?_;rintro e w5 ⟨rfl,rfl⟩;split at hr
       .rename_i M;have x:=hI (Option.some.inj hr);have X:=hI M;have e7:decide ((0:Int)<(c.W.ns.length:Int))=false:=decide_eq_false (by rw[X.o];simp);have aM:decide (0<c.W.ns.length)=false:=decide_eq_false (by rw[X.o];simp);have an:=b;rw[x.o]at an;clear hr M g;go_wp2;go_roundw;case rel=>exact⟨i+1,t,K,Lr,by omega,by go_num,an.o,al.o,d.o⟩
        case measure=>simp[intOf];omega
       .rename_i y ys M;obtain⟨Q,ap,aq⟩:=Option.bind_eq_some_iff.1 hr;have P:=hI ap;have ae:=hI aq;have X:=hI M;have e7:decide ((0:Int)<(c.W.ns.length:Int))=true:=decide_eq_true (by rw[X.o];simp only[List.length_cons];omega);have aM:decide (0<c.W.ns.length)=true:=decide_eq_true (by rw[X.o];simp);have HY:Hid (c.W.ns[0]? =some y):=hI (by rw[M];rfl);have ac:Hid (eP y.1 y.2=true):=hI (b.o.lv.q.wr.net.may (by rw[M];simp));clear hr ap aq M g;go_wp2_with fail;refine(wO b.o.lv.q.wr).mono ?_;rintro e w5 ⟨rfl,rfl⟩;go_wp2_with fail;refine(uZ (k:=0) b.o.lv.q.wr.net HY.o).mono ?_;rintro e w6 ⟨pb,nb,cb,rfl,ob,av,x6⟩;have B6:=hI ob.sl;have af:=hI av;have H6:=hI (b.o.ext x6);have M6:=hI (d.o.tr (Fm.ext d.o.cl x6) jP);have DC:=hI (pM B6.o af.o);rw[vB (l9 ac.o).1 (l9 ac.o).2 ac.o]at DC;obtain⟨aC,aD⟩:=If ac.o;have RF:=hI (fun w=>mr s y.1.fr HT.o aC w);have RT:=hI (fun w=>mr s y.1.to HT.o aD w);have z:Hid (dW s y=(dg s y.1.fr&&dg s y.1.to)):=hI rfl;obtain⟨⟨kd,R,S,bt,vw,ls,mb,po,cm,nm,ck,ye⟩,U⟩:=y;simp only at RF RT z DC;clear ob av x6 b d O c0 aC aD B6;go_wp2_with fail;refine DC.o.mono ?_;rintro e w7 ⟨pe,Z,rfl,-,-,-,x7⟩;have A8:=hI (x7.tr (db.alloc w7 (.cells (fE ⟨kd,R,S,bt,vw,ls,mb,po,cm,nm,ck,ye⟩ pe U.length Z) 76)));have MB:=hI (dq.loose (M6.o.cl.ext x7) (fE ⟨kd,R,S,bt,vw,ls,mb,po,cm,nm,ck,ye⟩ pe U.length Z) (gt ⟨kd,R,S,bt,vw,ls,mb,po,cm,nm,ck,ye⟩ pe U.length Z) 76 rfl);clear x7 DC;go_upto_region 13 with fail;change Code.wp _ _ _ _ (w7.alloc (.cells (fE ⟨kd,R,S,bt,vw,ls,mb,po,cm,nm,ck,ye⟩ pe U.length Z) 76));generalize w7.alloc (.cells (fE ⟨kd,R,S,bt,vw,ls,mb,po,cm,nm,ck,ye⟩ pe U.length Z) 76)=w8 at*;generalize w7.heap.size=aQ at*;have H8:=hI (H6.o.ext A8.o);have M8:=hI (M6.o.tr (Fm.ext M6.o.cl A8.o) jP);clear H6 M6 A8;have b1:=MB.o.box.c 1 _ rfl;try simp only at b1
        go_wp2_with fail;refine(RF.o _).mono ?_;rintro e w9 ⟨rfl,x9⟩;have p:=hI (H8.o.ext x9);have q:=hI (M8.o.tr (Fm.ext M8.o.cl x9) jP);have ao:=hI (MB.o.ext x9);clear x9 H8 M8 MB b1;cases j:dg s R
        .rw[j]at z;have l:=P.o;rw[z.o]at l;have W:=hI l;clear l P j;have O:=p.o.box.box.c 0 _ rfl;go_wp2_with fail;refine(ru (k:=0) q.o.cl p.o.lv W.o).mono ?_;rintro e aE ⟨rfl,ab,T,B,m⟩;have V:=hI (p.o.go m B);have Y:=hI (q.o.tr (m.mono kW) jP);clear B m;go_wp2;go_roundw;case rel=>exact⟨k+1,ab,T,Q,by omega,by go_num,V.o,ae.o,Y.o⟩
         case measure=>simp[intOf];omega
        .rw[j]at z;have b2:=ao.o.box.c 2 _ rfl;try simp only at b2
         clear j;go_wp2_with fail;refine(RT.o _).mono ?_;rintro e aR ⟨rfl,aj⟩;replace p:=hI (p.o.ext aj);replace q:=hI (q.o.tr (Fm.ext q.o.cl aj) jP);clear aj b2 ao;have O:=p.o.box.box.c 0 _ rfl;cases E:dg s S
         .rw[E]at z;have l:=P.o;rw[z.o]at l;have W:=hI l;clear l P E;go_wp2_with fail;refine(ru (k:=0) q.o.cl p.o.lv W.o).mono ?_;rintro e aE ⟨rfl,ab,T,B,m⟩;have V:=hI (p.o.go m B);have Y:=hI (q.o.tr (m.mono kW) jP);clear B m;go_wp2;go_roundw;case rel=>exact⟨k+1,ab,T,Q,by omega,by go_num,V.o,ae.o,Y.o⟩
          case measure=>simp[intOf];omega
         .rw[E]at z;have l:=P.o;rw[z.o]at l;have W:=hI l;clear l P E;go_wp2_with fail;refine(xV (k:=0) q.o.cl p.o.lv W.o).mono ?_;rintro e aE ⟨rfl,ab,T,B,m⟩;have V:=hI (p.o.go m B);have Y:=hI (q.o.tr (m.mono kW) jP);clear B m;go_wp2;go_roundw;case rel=>exact⟨k+1,ab,T,Q,by omega,by go_num,V.o,ae.o,Y.o⟩
          case measure=>simp[intOf];omega
      .have e6:decide ((k:Int)<500)=false:=decide_eq_false (by omega);have ag:decide (k<500)=false:=decide_eq_false r
       have x:Hid (c=Lr):=hI (by
        have:=g.o;rw[show 500-k=0 by omega]at this
        exact Option.some.inj this)
       rw[x.o]at b;go_wp2;go_roundw;case rel=>exact⟨i+1,t,K,Lr,by omega,by go_num,b.o,al.o,d.o⟩
       case measure=>simp[intOf];omega
  .have e5:decide ((i:Int)<(n:Int))=false:=decide_eq_false (by omega);have aL:decide (i<n)=false:=decide_eq_false r
   have x:Hid (Li=L'):=hI (by
    have:=g.o;rw[show n-i=0 by omega]at this
    exact Option.some.inj this)
   rw[x.o]at b;go_wp2;refine bodyPost_end (v:=.tuple #[]) (by simp[results,Tryz.results17,go_sem]) rfl ?_;exact⟨rfl,oi,Ai,b.o,d.o⟩
end
section
theorem Js{n:Nat}(h:3<=n/\n<=6):wrap64 (2^min (IntKind.u64.wrap (n:Int)).toNat 64)=((2^n:Nat):Int)/\8<=((2^n:Nat):Int)/\((2^n:Nat):Int)<=64:=by
 have h1:n=3\/n=4\/n=5\/n=6:=by omega
 rcases h1 with rfl|rfl|rfl|rfl<;>exact⟨by decide+kernel,by decide,by decide⟩
variable{w N:World} {o D:Ow} {G u:Nat} {A A':my} {L L':dU}
end
section
def jb(n:Nat):Nat->Int->Nat->Int
 |0,s,j=>s
 |f+1,s,j=>if dX s (n:Int)then s else jb n f (fC s ((j:Int)+1)) (j+1)
def Gz(s:Int):Nat->Int
 |0=>s
 |j+1=>fC (Gz s j) ((j:Int)+1)
theorem Gt{s:Int}(h:gS s):∀j:Nat,j<=7->gS (Gz s j)
 |0,_=>h
 |j+1,a=>oe (Gt h j (by omega)) ⟨by omega,by omega⟩
theorem Gu{n s:Nat}(a:3<=n/\n<=5)(b:s<2^n):dX (Gz (s:Int) n) (n:Int)=true:=by
 have h:∀(n:Fin 6) (s:Fin 32),3<=n.1->s.1<2^n.1->dX (Gz (s.1:Int) n.1) (n.1:Int)=true:=by decide+kernel
 have h5:2^n<=2^5:=Nat.pow_le_pow_right (by decide) a.2;exact h ⟨n,by omega⟩ ⟨s,by omega⟩ a.1 b
theorem Ez{n s:Nat}(a:3<=n/\n<=5)(b:s<2^n):0<=jb n n (s:Int) 0/\jb n n (s:Int) 0<((2^n:Nat):Int)/\dX (jb n n (s:Int) 0) (n:Int)=true:=by
 have h:∀(n:Fin 6) (s:Fin 32),3<=n.1->s.1<2^n.1->0<=jb n.1 n.1 (s.1:Int) 0/\jb n.1 n.1 (s.1:Int) 0<((2^n.1:Nat):Int)/\dX (jb n.1 n.1 (s.1:Int) 0) (n.1:Int)=true:=by decide+kernel
 have h5:2^n<=2^5:=Nat.pow_le_pow_right (by decide) a.2;exact h ⟨n,by omega⟩ ⟨s,by omega⟩ a.1 b
theorem Dh{j:Nat}(h:j<7):wrap64 (2^j)=AH ((j:Int)+1):=by
 have:j=0\/j=1\/j=2\/j=3\/j=4\/j=5\/j=6:=by omega
 rcases this with rfl|rfl|rfl|rfl|rfl|rfl|rfl<;>decide+kernel
theorem yF(x:Int)(n:Nat)(d:3<=n/\n<=5)(w:World):
  Calls Tryz.prog 14 #[.int .i64 x,.int .i64 (n:Int)] w fun e w'=>e=.returned (.int .i64 (jb n n (iL x ((2^n:Nat):Int)) 0))/\db w w':=by
 obtain⟨H,aa,ab⟩:=Js (n:=n) ⟨d.1,by omega⟩;obtain⟨s,r⟩:∃s:Nat,iL x ((2^n:Nat):Int)=(s:Int):=⟨(iL x ((2^n:Nat):Int)).toNat,by have:=iM (x:=x) (show(0:Int)<((2^n:Nat):Int) by omega);omega⟩;have F:s<2^n:=by have:=iM (x:=x) (show(0:Int)<((2^n:Nat):Int) by omega);omega
 have h5:2^n<=2^5:=Nat.pow_le_pow_right (by decide) d.2;have Z:s<32:=by omega
 have V:Hid (gS (s:Int)):=hI (by unfold gS;omega);have S:=hI (Gu d F);have k:=hI (fun w=>tU x ((2^n:Nat):Int) ⟨by omega,by omega⟩ w);rw[r]at k;rw[r];obtain⟨R,q⟩:∃R,jb n n (s:Int) 0=R:=⟨_,rfl⟩;have U:=hI q;rw[q];obtain⟨K,I⟩:∃K,K=((2^n:Nat):Int):=⟨_,rfl⟩;rw[<-I]at k H;have T:=hI d;clear r F h5 Z q I aa ab d;go_enter Tryz.func14,Tryz.ntmps14;go_wp2_with fail;refine(k.o _).mono ?_;rintro e w1 ⟨rfl,rfl⟩;clear k H;go_wp2;go_loopw [5,6] (fun a b wx=>∃j:Nat,j<=n/\b=.int .i64 ((j:Int)+1)/\a=.int .i64 (Gz (s:Int) j)/\jb n (n-j) (Gz (s:Int) j) j=R/\db w wx) (fun _ b _=>n+1-(intOf b).toNat);case atStart=>exact⟨0,by omega,rfl,rfl,U.o,db.rfl' _⟩
 case round=>
  obtain⟨j,hj,rfl,rfl,E,P⟩:=hrel;have X:=hI P;have m:=hI E;have Y:=T.o;have p:=hI (Gt V.o j (by omega));have g:Hid (Gz (s:Int) (j+1)=fC (Gz (s:Int) j) ((j:Int)+1)):=hI rfl;have y:Hid (j=n->dX (Gz (s:Int) j) (n:Int)=true):=hI (fun e=>by rw[e];exact S.o);clear P E;obtain⟨v,J⟩:∃v,Gz (s:Int) j=v:=⟨_,rfl⟩;rw[J]at m p g y⊢;clear J;go_wp2_with fail;refine(si v n p.o ⟨Y.1,by omega⟩ _).mono ?_;rintro e w2 ⟨rfl,M⟩;have z:=hI (X.o.tr M);clear M X;cases c:dX v (n:Int)
  .have ac:j<n:=by
    rcases Nat.lt_or_ge j n with h|h;·exact h
    .have:=y.o (by omega);rw[c]at this;cases this
   have l:=hI (sX p.o (i:=(j:Int)+1) ⟨by omega,by omega⟩);have B:=Dh (j:=j) (by omega);rw[<-B]at l;obtain⟨u,t⟩:∃u,fC v ((j:Int)+1)=u:=⟨_,rfl⟩
   have Q:Hid (jb n (n-(j+1)) u (j+1)=R):=hI (by
    have h:=m.o;rw[show n-j=(n-(j+1))+1 by omega]at h;unfold jb at h;rw[if_neg (by rw[c];simp),t]at h
    exact h)
   rw[t]at l g;have hb:=l.o;have ad:wrap64 ((j:Int)+1+1)=(j:Int)+1+1:=by unfold wrap64;omega
   clear t c B;go_wp2;go_roundw;case rel=>exact⟨j+1,by omega,by go_num,by rw[g.o],by rw[g.o];exact Q.o,z.o⟩
   case measure=>simp[intOf];omega
  .have W:Hid (v=R):=hI (by
    have h:=m.o
    cases C:n-j with
    |zero=>
     rw[C]at h;exact h
    |succ f=>
     rw[C]at h;unfold jb at h;rw[if_pos c]at h
     exact h)
   clear c;rw[W.o];go_wp2;go_ret;exact⟨rfl,z.o⟩
variable{w O:World} {o G:Ow} {N D:Nat} {A A':my} {L L':dU}
end
end Go.Proofs.YtjhbmbbmjaabcaaGreat
