/-
  Contracts. Conditions stand at each.
-/
import Derived.Test.YtjhbmbbmjaabcaaGreatS26
set_option linter.all false
set_option maxRecDepth 8000
set_option maxHeartbeats 8000000
namespace Go.Proofs.YtjhbmbbmjaabcaaGreat
open Go Go.Sort Go.RowKit
section
variable{n:Nat} {g:Gh} {dv:Int->Int} {B K:Int} {s s':dp} {m:dz} {L:List dj}
theorem Da(I:3<=n/\n<=5)(G:iH n g dv)(N:fU n g dv s)(b:jY B K s)(C:B<=1000000)(O:s.out=[])(X:kh n g dv (m,L))(r:m.kd=8)(t:s.mi=true):∃d,mN s m L=some d/\fG n g dv B K s d:=by
 obtain⟨p,v,w,y,z,A⟩:=X.ids;have M:=X.nums;have D:fG n g dv B K s s:=fG.same G N N rfl rfl b rfl rfl (by grind);obtain⟨q,c,P,Q,R,S,T,U⟩:=N.q t;have H:=b.la q c;have J:=N.nn;have F:=b.ck;unfold mN;rw[r,if_neg (by decide),if_neg (by decide),if_neg (by decide),if_pos (by decide),if_pos (decide_eq_true (by omega))];by_cases E:m.vw=s.ls/\dg s.mb m.fr=true/\s.ak.length<64
 .rw[if_pos (by grind),c];simp only;rw[if_pos (decide_eq_true (by omega))];refine⟨_,rfl,fG.same G N (N.same rfl rfl rfl rfl rfl rfl rfl rfl rfl rfl rfl rfl) rfl rfl ?_ rfl rfl (by grind)⟩;obtain⟨b1,b2,b3,b4,j,k,l,b8,o,e,u,f,h,i⟩:=b;refine⟨b1,b2,b3,b4,j,k,l,b8,o,e,?_,fun x a=>?_,h,i⟩;·show((s.ak++[_]).length:Int)<=64+s.ck;grind
  .rcases List.mem_append.1 a with a|a;·exact f x a
   .simp at a;subst a;exact⟨⟨p,by grind⟩,by show m.fr<=s.n;omega,by grind,X.nm⟩
 grind
end
section
variable{e:dj}
variable{n:Nat} {g:Gh} {dv:Int->Int} {B K:Int} {s s':dp} {m:dz} {L:List dj}
def pX(e:dj):Int×Int×Int:=(e.fr,e.bt,e.sq)
theorem fR(a b:dj):dG a b=true↔pX a=pX b:=by unfold dG pX;simp
theorem qG{C:List dj}(h:fh C e):pX e∈C.map pX:=by obtain⟨c,h1,h2⟩:=h;unfold gN at h2;simp only[Bool.and_eq_true]at h2;grind[fR,List.mem_map_of_mem]
theorem AK{C:List dj}(c:eT L)(l:∀x∈L,fh C x)(o:fh C e)(p:(L.any fun x=>dG x e)=false):L.length+1<=C.length:=by
 have h:=lZ ((L++[e]).map pX) (C.map pX) ?_ ?_;·simpa using h
 .rw[List.pairwise_map,List.pairwise_append];refine⟨c.pw.imp fun{a b} i=>?_,List.pairwise_singleton _ _,fun a f b j=>?_⟩;·grind[fR]
  grind[List.any_eq_false,fR]
 .intro k d;obtain⟨x,q,rfl⟩:=List.mem_map.1 d;grind[qG]
def Bg(g:Gh)(i v:Int)(e:dj):Gh:={g with gl:=fun u=>if u=v then g.gl v++[e]else g.gl u,ak:=fun j u=>if j=i/\u=v then(g.gl v).length+1 else g.ak j u}
theorem uw{i d v:Int}(h1:g.ak i v<=(g.gl v).length)(h2:d<=v)(h3:dJ v n=i):i8 n i d g (Bg g i v e):=by
 refine .of (fun _ _ h=>h) (fun _ _=>rfl) (fun u=>?_) (fun u a=>?_) (fun j u=>?_) (fun j u b=>?_) (fun u a=>?_) (rfl);·show g.gl u<+:if u=v then g.gl v++[e]else g.gl u;grind
 .show(if u=v then g.gl v++[e]else g.gl u)=g.gl u;grind
 .show g.ak j u<=if j=i/\u=v then(g.gl v).length+1 else g.ak j u;grind
 .show(if j=i/\u=v then(g.gl v).length+1 else g.ak j u)=g.ak j u;grind
 .show(if i=i/\u=v then(g.gl v).length+1 else g.ak i u)=g.ak i u;grind
theorem iH.glUp(G:iH n g dv){i v:Int}(f:(g.vt v).isSome=true)(h1:g.ak i v<=(g.gl v).length)(h2:dv i<=v)(h3:dJ v n=i)(l:eT (g.gl v++[e]))(k:fh g.cs e):iH n (Bg g i v e) dv:=by
 have c:i8 n i (dv i) g (Bg g i v e):=uw h1 h2 h3;refine⟨⟨G.gh.pos,G.gh.maj,fun w vs a x h=>?_,fun w=>(G.gh.pre w).trans (c.gl w)⟩,fun w=>?_,fun w vs a=>(G.vs w vs a).mono c (fun _=>Int.le_refl _),fun w a=>?_,fun w y p=>?_,G.cs,fun j w=>?_⟩;·have h3:=(G.vs w vs a).ok x h;exact(G.gh.ok w vs a x h).mono c (fun e=>by grind)
 .show eT (if w=v then g.gl v++[e]else g.gl w);split;·exact l
  .exact G.log w
 .have o:g.vt w=none:=a;have d:w≠v:=by rintro rfl;rw[o]at f;cases f
  refine⟨?_,fun j=>?_⟩;·show(if w=v then g.gl v++[e]else g.gl w)=[];rw[if_neg d];exact(G.emp w a).1
  .show(if j=i/\w=v then(g.gl v).length+1 else g.ak j w)=0;rw[if_neg (by simp[d])];exact(G.emp w a).2 j
 .have b:y∈(if w=v then g.gl v++[e]else g.gl w):=p;split at b
  .rcases List.mem_append.1 b with b|b;·exact G.gc v y b
   .simp at b;rw[b];exact k
  .exact G.gc w y b
 .show(if j=i/\w=v then(g.gl v).length+1 else g.ak j w)<=(if w=v then g.gl v++[e]else g.gl w).length;by_cases a:w=v;·subst a;rw[if_pos rfl];have:=G.al j w;grind
  .rw[if_neg (by simp[a]),if_neg a];exact G.al j w
end
section
variable{n:Nat} {g O V:Gh} {i d X:Int} {dv:Int->Int} {B K:Int} {s s':dp} {m:dz} {L:List dj} {e:dj}
theorem i8.trans(k:i8 n i d g O)(l:i8 n i d O V):i8 n i d g V:=
 .of (fun v vs h=>l.vt v vs (k.vt v vs h)) (fun v h=>(l.vti v h).trans (k.vti v h)) (fun v=>(k.gl v).trans (l.gl v)) (fun v h=>(l.gli v h).trans (k.gli v h)) (fun j v=>Nat.le_trans (k.ak j v) (l.ak j v)) (fun j v h=>(l.aki j v h).trans (k.aki j v h)) (fun v h=>(l.akd v h).trans (k.akd v h)) (l.ce.trans k.ce)
theorem fG.add(D:fG n g dv B K s s')(U:eC s'=true)(I:s'.mi=true)(f:ec e=true)(hc:fh g.cs e):∃b,ip s' e=some b/\fG n g dv B K s b/\eC b=true/\b.mi=true/\b.out=s'.out/\b.P=s'.P:=by
 have D0:=D
 obtain⟨⟨a,k,G,N,M⟩,h1,h0,h2,nb,h4,h5⟩:=D
 obtain⟨r,y⟩:=N.mi I
 obtain⟨l1,l2⟩:=N.lead r y
 obtain⟨q,q1,q2,q3,q4,q5,q6,q7⟩:=N.q I
 obtain⟨vs,v1,v2⟩:=N.mb r
 have W:=U
 unfold eC at W
 simp only[Bool.and_eq_true,decide_eq_true_eq]at W
 have H:=N.logOk G
 have am:=nb.ck
 have ae:∀x∈s'.L,fh a.cs x:=fun x o=>by rw[l1]at o;exact G.gc _ x o
 have T:fh a.cs (hA s' e):=by
  obtain⟨c,t,F⟩:=hc.mono k.cs;exact⟨c,t,F⟩
 have aa:(ib s'.L).st<=(hA s' e).st/\0<=(hA s' e).st/\(hA s' e).st<=1099511627776:=by
  have hl:0<=(ib s'.L).st/\(ib s'.L).st<=1099511627776/\(s'.L=[]->(ib s'.L).st=0):=by
   unfold ib
   cases hL:s'.L.getLast? with
   |none=>exact⟨by decide,by decide,fun _=>rfl⟩
   |some x=>
    have:=H.may x (List.mem_of_getLast? hL);grind[ec,ig]
  unfold hA;simp only;split;·grind
  .unfold ep;omega
 have an:ec (hA s' e)=true:=by
  unfold ec ig at f⊢;simp only[Bool.and_eq_true,decide_eq_true_eq]at f⊢;exact⟨f.1,f.2.1,f.2.2.1,f.2.2.2.1,f.2.2.2.2.1,⟨aa.2.1,aa.2.2⟩,f.2.2.2.2.2.2⟩
 unfold ip
 cases ha:kI s'.L (hA s' e)with
 |none=>
  simp only
  have al:(s'.L.any fun x=>dG x (hA s' e))=true:=by
   cases hb:s'.L.any fun x=>dG x (hA s' e);·have:=AK H ae T hb;have h6:=G.cs;grind[AC]
   .rfl
  grind
 |some L'=>
  simp only;obtain⟨rfl,Z⟩:=C4 H ha;rw[q1];simp only;rw[q3,N.mem r];have ai:=N.ak r;have Y:dv s.id<=s'.ls:=by omega
  have af:gL dv s.id s'.dv s'.id<=s'.ls:=by rw[h1,iO];omega
  rw[l1]at Z;have p:i8 n s.id (dv s.id) a (Bg a s'.id s'.ls (hA s' e)):=by rw[<-h1]at Y⊢;exact uw (by grind) Y y
  have G2:=G.glUp (i:=s'.id) (v:=s'.ls) (e:=hA s' e) (by rw[v1];rfl) (by grind) af y Z T;obtain⟨b,l⟩:∃b,b=({s' with L:=s'.L++[hA s' e],q:=some (gM q s'.id ((s'.L++[hA s' e]).length:Int) 0)}:dp):=⟨_,rfl⟩;refine⟨b,by rw[l];rfl,⟨⟨_,k.trans p,by grind,?_,fun x o=>?_⟩,by grind,h0,by grind,?_,by grind,by grind⟩,by rw[l];exact U,by grind,by rw[l],by rw[l]⟩
  .subst l;obtain⟨b1,b2,b3,b4,C,E,R,b8,S,z,J,P,A,Q,ab,ac,ag,ah,ad⟩:=N;have aj:(Bg a s'.id s'.ls (hA s' e)).ak s'.id s'.ls=s'.L.length+1:=by show(if s'.id=s'.id/\s'.ls=s'.ls then(a.gl s'.ls).length+1 else a.ak s'.id s'.ls)=_;grind
   refine⟨b1,b2,b3,b4,C,E,fun h=>absurd h r,fun h=>?_,S,z,fun h=>?_,fun u hu=>?_,A,fun h hd=>⟨?_,I⟩,ab,(ac.ext (List.prefix_append _ _)).mono p,fun h=>⟨_,rfl,q2,q3,q4,by simp[gM,q5],by simp[gM];grind,fun j hj=>?_⟩,fun w vs h=>?_,fun x o=>(ad x o).mono p.cs⟩;·obtain⟨t,F⟩:=b8 h;refine⟨by rw[p.base (by rw[v1];rfl)];exact t.trans (List.prefix_append _ _),?_⟩;show s'.L++[hA s' e]<+:if s'.ls=s'.ls then a.gl s'.ls++[hA s' e]else a.gl s'.ls;grind
   .grind
   .show(if s'.id=s'.id/\u=s'.ls then(a.gl s'.ls).length+1 else a.ak s'.id u)=0;grind
   .show s'.L++[hA s' e]=if s'.ls=s'.ls then a.gl s'.ls++[hA s' e]else a.gl s'.ls;grind
   .obtain⟨t,F⟩:=q7 j hj;have c3:(a.ak j s'.ls:Int)<=((Bg a s'.id s'.ls (hA s' e)).ak j s'.ls:Int):=by have:=p.ak j s'.ls;omega
    show 0<=(q.hv.set s'.id.toNat (ep (q.hv.getD s'.id.toNat 0) ((s'.L++[hA s' e]).length:Int))).getD j.toNat 0/\(q.hv.set s'.id.toNat (ep (q.hv.getD s'.id.toNat 0) ((s'.L++[hA s' e]).length:Int))).getD j.toNat 0<=_;by_cases ej:s'.id=j;·grind[ep,hA,dE]
    grind
   grind
  .subst l;rcases M x o with h|h;·exact .inl h
   .exact .inr (h.mono (i:=s.id) (by rw[iO];rw[<-h1];exact uw (by grind) (by show s'.dv<=s'.ls;omega) y) (fun _=>Int.le_refl _))
  .subst l;obtain⟨b1,b2,b3,b4,C,E,R,b8,S,z,J,P,A,Q⟩:=nb;exact⟨b1,b2,b3,b4,C,E,R,b8,(fun q' ao=>by grind[gM,hA]),z,J,P,A,Q⟩
end
section
variable{n:Nat} {g O V:Gh} {i d u:Int} {dv:Int->Int} {B K:Int} {s s':dp} {m:dz} {L:List dj} {e:dj}
theorem uk(fr:Int):∀(l:List dj) (a:dp),fG n g dv B K s a->eC a=true->a.mi=true->(∀e∈l,ec e=true/\fh g.cs e)->∃r,dt (mC fr) l a=some r/\fG n g dv B K s r/\eC r=true/\r.mi=true/\r.out=a.out/\r.P=a.P
 |[],a,D,b,c,h=>⟨a,rfl,D,b,c,rfl,rfl⟩
 |e::l,a,D,b,c,h=>by
  have f:=h e (List.mem_cons_self ..);have j:∀e∈l,ec e=true/\fh g.cs e:=fun x k=>h x (List.mem_cons_of_mem _ k);unfold dt mC;by_cases p:e.fr=fr;·rw[if_pos (by grind)];obtain⟨o,h1,h2,h3,h4,h5,h6⟩:=D.add b c f.1 f.2;rw[h1];obtain⟨r,k1,k2,k3,k4,k5,k6⟩:=uk fr l o h2 h3 h4 j;exact⟨r,k1,k2,k3,k4,k5.trans h5,k6.trans h6⟩
  .rw[if_neg (by grind)];exact uk fr l a D b c j
theorem y':∀(l:List dj) (a:dp),fG n g dv B K s a->eC a=true->a.mi=true->(∀e∈l,ec e=true/\fh g.cs e)->∃r,dt ip l a=some r/\fG n g dv B K s r/\eC r=true/\r.mi=true/\r.out=a.out/\r.P=a.P
 |[],a,D,b,c,h=>⟨a,rfl,D,b,c,rfl,rfl⟩
 |e::l,a,D,b,c,h=>by
  have f:=h e (List.mem_cons_self ..);obtain⟨k,h1,h2,h3,h4,h5,h6⟩:=D.add b c f.1 f.2;unfold dt;rw[h1];obtain⟨r,k1,k2,k3,k4,k5,k6⟩:=y' l k h2 h3 h4 (fun x j=>h x (List.mem_cons_of_mem _ j));grind
theorem Fy(p:3<=n/\n<=5)(G:iH n g dv)(N:fU n g dv s)(f:jY B K s)(j:B<=1000000)(q:s.out=[])(X:kh n g dv (m,L))(l:eC s=true)(c:s.mi=true):∃h,mN s m L=some h/\fG n g dv B K s h:=by
 have k:fG n g dv B K s s:=fG.same G N N rfl rfl f rfl rfl (by grind);have o:=X.kd;simp only at o;by_cases h6:m.kd=6
 .unfold mN;rw[if_pos (by grind)];by_cases t:m.vw=s.ls;·rw[if_pos (by grind)];grind[Hm]
  grind
 .by_cases a:m.kd=7;·unfold mN;rw[a,if_neg (by decide),if_pos (by decide)];obtain⟨r,k1,k2,k3⟩:=uk m.fr L s k l c (fun e b=>⟨X.nums.2.2.2.2.2.2.2.2.2.2.2 e b,X.k7 a e b⟩);grind
  .by_cases h8:m.kd=8;·exact Da p G N f j q X h8 c
   .unfold mN;grind
theorem Bi(c:3<=n/\n<=5)(G:iH n g dv)(N:fU n g dv s)(a:jY B K s)(b:B<=1000000)(f:s.out=[])(X:kh n g dv (m,L))(o:m.to=s.id)(p:∀j,dv j<=B):∃k,kT s m L=some k/\fG n g dv B K s k:=by
 have r:fG n g dv B K s s:=fG.same G N N rfl rfl a rfl rfl (by grind);have w:∀v,(g.vt v).isSome=true->v<=B:=fun v h=>by obtain⟨vs,h1⟩:=Option.isSome_iff_exists.1 h;have h2:=G.gh.maj v vs h1;have h3:=qn c h2;obtain⟨x,l,rfl⟩:=List.exists_cons_of_ne_nil h3;have h4:=((G.vs v _ h1).ok x (List.mem_cons_self ..)).2.2.1;grind
 unfold kT;by_cases h1:m.kd=1;·rw[if_pos (by grind)];grind[E6]
 rw[if_neg (by grind)];by_cases h2:m.kd=2;·rw[if_pos (by grind)];exact Dv c G N a b f X h2 p
 rw[if_neg (by grind)];by_cases h3:m.kd=3;·rw[if_pos (by grind)];exact Gk c G N a b f X h3
 rw[if_neg (by grind)];by_cases h4:m.kd=4;·rw[if_pos (by grind)];grind[Bl]
 rw[if_neg (by grind)];by_cases h5:m.kd=5;·rw[if_pos (by grind)];exact GY c G N a b f X h5 o
 rw[if_neg (by grind)];by_cases q:m.kd=9;·rw[if_pos (by grind)];exact Bd G N a b f
 rw[if_neg (by grind)];by_cases t:eC s=true/\s.mi=true;·rw[if_pos (by grind)];grind[Fy]
 grind
end
section
variable{o:List (dz×List dj)} {p:Int->Bool} {id:Int}
variable{n:Nat} {g V Y:Gh} {i d O:Int} {dv:Int->Int} {B K:Int} {s s':dp} {m:dz} {L:List dj} {e:dj}
def ex(id n:Int)(l:List Int):List Int:=l.filter fun i=> !(i==id)&&decide (i<=n)
theorem Ad{n:Int}{l:List Int}:i∈ex id n l↔i∈l/\i≠id/\i<=n:=by grind[ex]
def gs(s:dp)(o:List (dz×List dj)):dp:={s with out:=o}
theorem lc(h:s.out=o):gs s o=s:=by subst h;rfl
theorem eG{σ α:Type}{F:σ->α->Option σ}{i:α}{l:List α}{s t:σ}(h:F s i=some t):dt F (i::l) s=dt F l t:=by rw[dt,h]
theorem gU{F:dp->Int->Option dp}{a:dp}{f:Int->List (dz×List dj)}{id n:Int}:∀(l:List Int) (o:List (dz×List dj)),o.length+l.length<=500->(∀i∈ex id n l,(f i).length<=1/\∀o,o.length<500->F (gs a o) i=some (gs a (o++f i)))->dt (eE F id n) l (gs a o)=some (gs a (o++(ex id n l).flatMap f))
 |[],o,_,_=>by simp[dt,ex]
 |i::l,o,h,k=>by
  simp only[List.length_cons]at h;by_cases h1:i=id
  .have e:ex id n (i::l)=ex id n l:=by unfold ex;rw[List.filter_cons_of_neg (by simp[h1])]
   rw[e]at k⊢;rw[eG (t:=gs a o) (by unfold eE;grind)];exact gU l o (by omega) k
  .by_cases h2:i<=n
   .have e:ex id n (i::l)=i::ex id n l:=by unfold ex;rw[List.filter_cons_of_pos (by simp[h1,h2])]
    rw[e]at k⊢;obtain⟨k1,k2⟩:=k i (List.mem_cons_self ..);rw[eG (t:=gs a (o++f i)) (by grind[eE])];rw[gU l (o++f i) (by grind) (fun j b=>k j (List.mem_cons_of_mem _ b))];simp
   .have e:ex id n (i::l)=ex id n l:=by unfold ex;rw[List.filter_cons_of_neg (by simp[h2])]
    rw[e]at k⊢;rw[eG (t:=gs a o) (by grind[eE])];exact gU l o (by omega) k
theorem fG.says(D:fG n g dv B K s s'){ms:List (dz×List dj)}(q:s'.out.length+ms.length<=500)(l:∀a c,i8 n s.id (dv s.id) g a->iH n a c->fU n a c s'->(∀j,dv j<=c j)->∀x∈ms,kh n a c x):fG n g dv B K s (gs s' (s'.out++ms)):=by
 obtain⟨⟨a,k,G,N,M⟩,h1,f,h2,h3,h4,h5⟩:=D;have h:dv s.id<=s'.dv:=by rw[f];exact h2
 have X:=l a _ k G N (j8 h);refine⟨⟨a,k,G,N.same rfl rfl rfl rfl rfl rfl rfl rfl rfl rfl rfl rfl,fun x b=>?_⟩,h1,f,h2,h3.same rfl rfl rfl rfl rfl rfl rfl rfl rfl rfl rfl,h4,?_⟩
 .rcases List.mem_append.1 b with b|b;·exact M x b
  .exact .inr (X x b)
 .show(s'.out++ms).length<=500;grind
theorem jY.up{B' K':Int}(h:jY B K s)(u:B<=B')(v:K<=K')(h3:K'<=300):jY B' K' s:=by obtain⟨a1,a2,a3,a4,a5,k,l,r,t,a,b,c,f,j⟩:=h;exact⟨by omega,by omega,by omega,a4,by omega,k,l,r,fun q w=>by grind,a,b,c,f,j⟩
theorem qW{id n:Int}:∀(k:Nat) (v:Int),jC id n k v=none->∀j:Nat,j<k->dJ (v+j) n≠id
 |0,_,_,j,h=>by omega
 |k+1,v,h,j,b=>by
  unfold jC at h;split at h;·cases h
  .rename_i a;cases j with
   |zero=>grind
   |succ j=>
    have:=qW k (v+1) h j (by omega);grind
theorem ti{id n:Int}:∀(k:Nat) (v r:Int),jC id n k v=some r->dJ r n=id
 |0,_,_,h=>by cases h
 |k+1,v,r,h=>by
  unfold jC at h;split at h;·grind
  .exact ti k (v+1) r h
theorem xz{n:Nat}(b:3<=n/\n<=5){id x:Int}(a:1<=id/\id<=n)(c:1<=x):∃r,jC id n 8 x=some r/\dJ r n=id/\x<=r/\r<x+8:=by
 cases h:jC id n 8 x with
 |some r=>
  have h1:=nB 8 x r h;exact⟨r,rfl,ti 8 x r h,h1.1,by omega⟩
 |none=>
  exfalso;have h1:=Int.emod_nonneg (id-x) (show(n:Int)≠0 by omega);have h2:=Int.emod_lt_of_pos (id-x) (show 0<(n:Int) by omega);have h3:=qW 8 x h ((id-x)%n).toNat (by omega);rw[Int.toNat_of_nonneg h1]at h3;apply h3;unfold dJ;rw[Int.tmod_eq_emod_of_nonneg (by omega)];have h4:(x+(id-x)%n-1)%(n:Int)=(id-1)%n:=by rw[show x+(id-x)%n-1=(id-x)%n+(x-1) by omega,Int.emod_add_emod];congr 1;omega
  rw[h4,Int.emod_eq_of_lt (by omega) (by omega)];omega
theorem nM(p:Int->Bool):(ek.filter p).length<=7:=List.length_filter_le _ _
theorem kZ{n:Int}(h:i∈ex id n (ek.filter p)):dE i/\p i=true/\i≠id/\i<=n:=by obtain⟨h1,h2,h3⟩:=Ad.1 h;rw[List.mem_filter]at h1;refine⟨?_,h1.2,h2,h3⟩;have:=h1.1;simp[ek]at this;unfold dE;omega
theorem rk{n:Int}(h:dE i)(h1:p i=true)(h2:i≠id)(h3:i<=n):i∈ex id n (ek.filter p):=Ad.2 ⟨List.mem_filter.2 ⟨DX h,h1⟩,h2,h3⟩
theorem nU{n:Int}:(ex id n (ek.filter p)).length<=7:=Nat.le_trans (List.length_filter_le _ _) (nM _)
theorem ks{α β:Type}{f:α->List β}:∀{l:List α},(∀x∈l,(f x).length<=1)->(l.flatMap f).length<=l.length
 |[],_=>by simp
 |a::l,h=>by
  rw[List.flatMap_cons,List.length_append,List.length_cons];have h1:=h a (List.mem_cons_self ..);have h2:=ks (f:=f) (l:=l) (fun x b=>h x (List.mem_cons_of_mem _ b));omega
theorem z'(u:3<=n/\n<=5)(r:B<=1000000){b:Gh}{a:Int->Int}(N:fU n b a s')(q:jY B K s'){w:Int}(l:dJ w n=s'.id)(h1:1<=w)(h2:w<=s'.dv)(h:dE i)(k:i<=n)(v:i≠s'.id):kh n b a (dm s' (gm w i),[]):=by
 have j:=N.id;have t:=q.dv;have c:=N.bt;refine⟨kg (by simp[dm,gm]) (by show 1<=s'.id/\s'.id<=7;omega) (by show 1<=i/\i<=7;exact h) (by show s'.id≠i;omega) c (by show 0<=w/\w<=10000000;omega) (by simp[dm,gm]) (by simp[dm,gm]) (by simp[dm,gm]) (by simp[dm,gm]) (by simp[dm,gm]) (by simp[dm,gm]) (by grind) (fun e f=>by cases f),j.2,k,c,by simp[dm,gm],by simp[dm,gm],.inl eT.nil,?_,?_,?_,?_,?_,?_,?_⟩;·intro _;exact⟨l,h1,by show w<=a s'.id;rw[N.pr];exact h2⟩
 all_goals(intro e;simp[dm,gm]at e)
theorem wg{w:Int}(f:1<=s.id/\s.id<=7)(a:s.bt=1)(h1:1<=w/\w<=10000000)(c:dE i)(h:i≠s.id)(j:o.length<500):tP w (gs s o) i=some (gs s (o++[(dm s (gm w i),[])])):=by unfold tP;exact(oP (s:=gs s o) (kg (by simp[dm,gm]) (by show 1<=s.id/\s.id<=7;omega) (by show 1<=i/\i<=7;exact c) (by show s.id≠i;omega) a (by show 0<=w/\w<=10000000;omega) (by simp[dm,gm]) (by simp[dm,gm]) (by simp[dm,gm]) (by simp[dm,gm]) (by simp[dm,gm]) (by simp[dm,gm]) (by grind) (fun e b=>by cases b)) (by show o.length<1000;omega))
def iI(n:Nat):List Int:=ek.filter (dg (no n))
def fq(s:dp)(w:Int)(i:Int):List (dz×List dj):=[(dm s (gm w i),[])]
def jc(s:dp)(w:Int):dp:=gs (pF s w) ((ex s.id s.n (iI s.n.toNat)).flatMap (fq s w))
theorem mn(A:3<=n/\n<=5)(G:iH n g dv)(N:fU n g dv s)(h:jY B K s)(hB:B<=900000)(C:s.out=[]):∃w,kB s=some (jc s w)/\ep s.dv s.dn<w/\w<=ep s.dv s.dn+8/\dJ w n=s.id/\fG n g dv (B+10) K s (jc s w):=by
 have S:=N.id;have al:=N.ls;have ai:=h.dn;have aj:=h.dv;have ag:=h.ck;have am:s.dv<=ep s.dv s.dn/\ep s.dv s.dn<=B:=by unfold ep;omega
 obtain⟨w,h1,h2,h3,h4⟩:=xz A (x:=ep s.dv s.dn+1) S (by omega);have ab:=N.logOk G;have ah:=N.cm
 have hS:fU n g (gL dv s.id w) (pF s w):=by
  have hm:∀j,dv j<=gL dv s.id w j:=j8 (by have:=N.pr;omega);have U:=N;obtain⟨a1,a2,a3,a4,a5,J,M,P,z,l,r,t,v,y,W,I,X,ae,Z⟩:=N;refine⟨a1,a2,a3,a4,iO _ _ _,⟨J.1,by show s.ls<=w;omega⟩,M,P,z,l,r,t,v,y,W,I,X,fun u vs hu=>?_,Z⟩;have ad:some (w,[⟨s.id,s.ls,s.L,s.cm⟩])=some (u,vs):=hu;cases ad;refine⟨h2,?_,by show s.ls<w;omega,Int.le_refl _,⟨fun x b=>?_,List.pairwise_singleton _ _⟩,_,List.mem_singleton.2 rfl,rfl⟩
  .cases hv:g.vt w with
   |none=>rfl
   |some vs=>
    grind
  .rw[List.mem_singleton]at b;subst b;exact⟨S.2,U.vote A G (by omega),by grind[gL],I,ab⟩
 have D:fG n g dv (B+10) K s (pF s w):=by refine⟨⟨g,i8.refl _ _ _ _,G.le (j8 (by have:=N.pr;show dv s.id<=w;omega)),hS,fun x b=> .inl b⟩,rfl,N.pr,by show s.dv<=w;omega,?_,rfl,by show s.out.length<=500;grind⟩;obtain⟨a1,a2,a3,a4,a5,J,M,P,z,l,r,t,v,y⟩:=h;exact⟨by show w<=B+10;omega,by show 0<=s.dn/\s.dn<=B+10;omega,a3,⟨a3.1,Int.le_refl _⟩,by show _<=s.f.nm/\s.f.nm<=_;omega,by show([]:List (Int×Int)).length<=64;decide,(fun q E=>by cases E),⟨Int.le_refl _,a3.1⟩,fun q E=>by have:=z q E;omega,l,r,t,v,y⟩
 have ac:∀i∈ex s.id s.n (iI s.n.toNat),dE i/\i≠s.id/\i<=n:=fun i c=>by have:=kZ c;rw[N.nn]at this;grind
 have ak:((ex s.id s.n (iI s.n.toNat)).flatMap (fq s w)).length<=7:=Nat.le_trans (ks (fun x b=>by simp[fq])) nU
 have H:=D.says (ms:=(ex s.id s.n (iI s.n.toNat)).flatMap (fq s w)) (by show s.out.length+_<=500;grind) (fun g' af k G' T hd x b=>by
  obtain⟨i,c,b⟩:=List.mem_flatMap.1 b;rw[fq,List.mem_singleton]at b;rw[b];obtain⟨i1,i2,i3⟩:=ac i c
  exact z' A (B:=B+10) (by omega) T D.nb h2 (by omega) (by show w<=w;omega) i1 i3 i2)
 have Q:(pF s w).out=[]:=C;rw[Q,List.nil_append]at H;refine⟨w,?_,by omega,by omega,h2,H⟩;unfold kB;rw[N.nn,h1];simp only;rw[if_pos (by grind[el,km])]
 have:=gU (F:=tP w) (a:=pF s w) (f:=fq s w) (id:=s.id) (n:=n) (iI n) [] (by grind[dg,no,iI,nM]) (fun i c=>⟨by simp[fq],fun o C=>by
  have R:=kZ c
  exact wg (s:=pF s w) (by show 1<=s.id/\s.id<=7;omega) N.bt ⟨by omega,by omega⟩ R.1 R.2.2.1 C⟩)
 rw[lc Q]at this;have e3:(s.n:Int)=n:=N.nn;unfold jc;rw[e3,Int.toNat_natCast];exact this
end
section
variable{vs:List iq} {O:Int->Int} {V:Gh}
variable{n:Nat} {g Z g2:Gh} {i d Y:Int} {dv:Int->Int} {B K:Int} {s s':dp} {m:dz} {L:List dj} {e:dj}
def jQ(g:Gh)(i v:Int)(vs:List iq):Gh:={g with vt:=fun u=>if u=v then some vs else g.vt u,gl:=fun u=>if u=v then(dH vs).L else g.gl u,ak:=fun j u=>if j=i/\u=v then(dH vs).L.length else g.ak j u}
theorem At(G:iH n g dv){v:Int}(h1:g.vt v=none)(h2:d<=v)(h3:dJ v n=i):i8 n i d g (jQ g i v vs):=by
 obtain⟨b,c⟩:=G.emp v h1;refine .of (fun u us a=>?_) (fun u a=>?_) (fun u=>?_) (fun u a=>?_) (fun j u=>?_) (fun j u f=>?_) (fun u a=>?_) (rfl);·show(if u=v then some vs else g.vt u)=some us;grind
 .show(if u=v then some vs else g.vt u)=g.vt u;grind
 .show g.gl u<+:if u=v then(dH vs).L else g.gl u;grind
 .show(if u=v then(dH vs).L else g.gl u)=g.gl u;grind
 .show g.ak j u<=if j=i/\u=v then(dH vs).L.length else g.ak j u;grind
 .show(if j=i/\u=v then(dH vs).L.length else g.ak j u)=g.ak j u;grind
 .show(if i=i/\u=v then(dH vs).L.length else g.ak i u)=g.ak i u;grind
theorem ze(h:dX (dr vs) n=true)(a:3<=n/\n<=5):∃x∈vs,(dH vs).L=x.L:=by obtain⟨x,h1,h2,-⟩:=zd (qn a h);grind
theorem vl:∀(vs:List iq) (r:iq×Int) (p:Int->Prop),p r.2->(∀x∈vs,p x.cm)->p (vs.foldl fg r).2
 |[],r,p,h,_=>h
 |x::vs,r,p,h,k=>vl vs _ p (by
  show p (ep r.2 x.cm)
  grind[ep]) (fun y a=>k y (List.mem_cons_of_mem _ a))
theorem iH.vtUp(E:3<=n/\n<=5)(G:iH n g dv){v:Int}(h1:g.vt v=none)(h2:dv i<=v)(h3:dJ v n=i)(h4:1<=v)(r:dX (dr vs) n=true)(t:ve n g dv v vs):iH n (jQ g i v vs) dv:=by
 have p:i8 n i (dv i) g (jQ g i v vs):=At G h1 h2 h3;obtain⟨x,H,A⟩:=ze r E;obtain⟨I,z,J,M,N⟩:=t.ok x H
 have C:∀u,gZ (jQ g i v vs) u=if u=v then(dH vs).L else gZ g u:=by
  intro u;unfold gZ jQ;simp only;by_cases f:u=v;·rw[if_pos f,if_pos f]
  .rw[if_neg f,if_neg f]
 have D:∀w us,g.vt w=some us->ve n (jQ g i v vs) dv w us:=fun w us a=>(G.vs w us a).mono p (fun _=>Int.le_refl _);have F:ve n (jQ g i v vs) dv v vs:=t.mono p (fun _=>Int.le_refl _)
 have o:∀w us,(jQ g i v vs).vt w=some us->(w=v/\us=vs)\/g.vt w=some us:=by
  intro w us a;have b:(if w=v then some vs else g.vt w)=some us:=a;split at b;·grind
  .grind
 refine⟨⟨fun w us a=>?_,fun w us a=>?_,fun w us a y k=>?_,fun w=>?_⟩,fun w=>?_,fun w us a=>?_,fun w a=>?_,fun w y k=>?_,G.cs,fun j w=>?_⟩
 .rcases o w us a with⟨rfl,rfl⟩|h;·exact h4
  .exact G.gh.pos w us h
 .rcases o w us a with⟨rfl,rfl⟩|h;·exact r
  .exact G.gh.maj w us h
 .rcases o w us a with⟨rfl,rfl⟩|h;·exact(F.ok y k).2.1
  .exact((D w us h).ok y k).2.1
 .rw[C w];show _<+:if w=v then(dH vs).L else g.gl w;split;·grind
  .exact G.gh.pre w
 .show eT (if w=v then(dH vs).L else g.gl w);split;·grind
  .exact G.log w
 .grind
 .have b:(if w=v then some vs else g.vt w)=none:=a;have l:w≠v:=by rintro rfl;simp at b
  rw[if_neg l]at b;refine⟨?_,fun j=>?_⟩;·show(if w=v then(dH vs).L else g.gl w)=[];rw[if_neg l];exact(G.emp w b).1
  .show(if j=i/\w=v then(dH vs).L.length else g.ak j w)=0;rw[if_neg (by simp[l])];exact(G.emp w b).2 j
 .have c:y∈(if w=v then(dH vs).L else g.gl w):=k;show fh g.cs y;split at c
  .rw[A]at c;by_cases q:x.ls=0;·rw[z.zero q]at c;cases c
   .exact G.gc _ y ((z.pre q).2.2.subset c)
  .exact G.gc w y c
 .show(if j=i/\w=v then(dH vs).L.length else g.ak j w)<=(if w=v then(dH vs).L else g.gl w).length;by_cases a:w=v;·subst a;rw[if_pos rfl];have:=G.al j w;rw[(G.emp w h1).1]at this;grind
  .rw[if_neg (by simp[a]),if_neg a];exact G.al j w
theorem sv(C:3<=n/\n<=5)(y:B<=1000000)(G:iH n V O)(N:fU n V O s')(u:jY B K s')(p:s'.mi=true)(k:dE i)(o:i<=n)(D:i≠s'.id)(q:dg s'.mb i=true):kh n V O (dm s' (fI s' i),s'.L):=by
 have j:=N.cm60 G;have l:=N.id;have z:=u.dv;have A:=N.ls;have c:=N.bt;obtain⟨a,t⟩:=N.mi p;obtain⟨vs,f,h⟩:=N.mb a;have b:=(fS (fun x r=>((G.gh.ok _ vs f x r).id))).1;rw[<-h]at b;obtain⟨v,w⟩:=N.pre a;refine⟨kg (by simp[dm,fI]) (by show 1<=s'.id/\s'.id<=7;omega) (by show 1<=i/\i<=7;exact k) (by show s'.id≠i;omega) c (by show 0<=s'.ls/\s'.ls<=10000000;omega) (by simp[dm,fI]) (by simp[dm,fI]) (by simp[dm,fI]) (by show 0<=s'.mb/\s'.mb<=127;unfold gS at b;omega) (by simp[dm,fI]) (by show 0<=s'.cm/\s'.cm<=60;omega) j.2.2 (N.logOk G).may,l.2,o,c,by simp[dm,fI],by simp[dm,fI],.inl (N.logOk G),?_,?_,?_,?_,?_,?_,?_⟩;·intro e;simp[dm,fI]at e
 .intro e;simp[dm,fI]at e
 .intro e;simp[dm,fI]at e
 .intro _;exact⟨t,⟨vs,f,h⟩,v,w,N.cm,q,N.mem a⟩
 all_goals(intro e;simp[dm,fI]at e)
theorem wN(X:kh n V O (dm s (fI s i),s.L)){o:List (dz×List dj)}(a:o.length<500):nh (gs s o) i=some (gs s (o++[(dm s (fI s i),s.L)])):=oP (s:=gs s o) X.may (by show o.length<1000;omega)
def fH(s:dp)(i:Int):List (dz×List dj):=[(dm s (fI s i),s.L)]
def ix(s:dp)(vw:Int)(vs:List iq):dp:=zD s vw vs (gM (nc s.n (dr vs) s.id) s.id ((dH vs).L.length:Int) 0)
def zC(s:dp)(vw:Int)(vs:List iq):dp:=gs (ix s vw vs) ((ex s.id s.n (ek.filter (dg (dr vs)))).flatMap (fH (ix s vw vs)))
theorem Bm(p:3<=n/\n<=5)(G:iH n g dv)(N:fU n g dv s)(U:jY B K s)(hB:B<=900000)(H:s.out=[]){vw:Int}(C:s.v=some (vw,vs))(z:vw=s.dv)(A:dX (dr vs) s.n=true):vL s=some (zC s vw vs)/\fG n g dv B K s (zC s vw vs):=by
 have am:=N.id;have aA:=N.ls;have aw:=U.ck;have ay:=U.dv;have I:=N.pr;obtain⟨W,w2,w3,w4,E,xo,w6,w7⟩:=N.v vw vs C;rw[N.nn]at A;obtain⟨x,b,hb⟩:=ze A p;obtain⟨x0,x1,x2,x3,x4⟩:=E.ok x b;have aa:iH n (jQ g s.id vw vs) dv:=G.vtUp p w2 (by omega) W (by omega) A E;have KG:i8 n s.id (dv s.id) g (jQ g s.id vw vs):=At G w2 (by omega) W;have P:(jQ g s.id vw vs).vt vw=some vs:=by show(if vw=vw then some vs else g.vt vw)=some vs;grind
 have av:gZ (jQ g s.id vw vs) vw=(dH vs).L:=by unfold gZ;rw[P]
 have ae:(jQ g s.id vw vs).gl vw=(dH vs).L:=by show(if vw=vw then _ else _)=_;grind
 have ab:(jQ g s.id vw vs).ak s.id vw=(dH vs).L.length:=by show(if s.id=s.id/\vw=vw then _ else _)=_;grind
 have ao:eT (dH vs).L:=by rw[hb];exact x4
 have hT:=fS (fun y t=>(E.ok y t).2.1.id);have af:dg (dr vs) s.id=true:=(hT.2 s.id ⟨am.1,by omega⟩).2 ⟨xo,w6,w7⟩;have ad:∀{u:Int} {M:List dj} {c:Int},el n g u M c->u<vw->el n (jQ g s.id vw vs) vw (dH vs).L c:=fun h r=>(h.mono KG).later p aa r (by rw[P];rfl) (by grind)
 have ac:el n (jQ g s.id vw vs) vw (dH vs).L (dH vs).cm:=by
  have w:el n (jQ g s.id vw vs) vw (dH vs).L 0:=⟨by omega,by omega,.inl rfl⟩
  have h1:el n (jQ g s.id vw vs) vw (dH vs).L (vs.foldl fg (vs.headD ⟨0,0,[],0⟩,0)).2:=vl vs _ (fun c=>el n (jQ g s.id vw vs) vw (dH vs).L c) w (fun y t=>by
   obtain⟨y0,y1,y2,y3,y4⟩:=E.ok y t
   exact ad y3 y1.lt.2)
  have h2:(dH vs).cm=J8 (vs.foldl fg (vs.headD ⟨0,0,[],0⟩,0)).2 ((dH vs).L.length:Int):=rfl;have h3:=h1.2.1;have h4:=h1.1;rw[h2];grind[J8]
 have al:=(ad N.cm w3).max ac;have ax:0<=(dH vs).cm/\(dH vs).cm<=60:=by have:=ao.le;unfold el at ac;omega
 have aC:gL dv s.id s.dv=dv:=by rw[<-I];exact mt
 have an:fU n (jQ g s.id vw vs) dv (ix s vw vs):=by
  refine⟨N.nn,N.id,N.kn,N.bt,I,⟨by show 0<=vw;omega,by show vw<=s.dv;omega⟩,fun h=>?_,fun h=>⟨by show gZ _ vw<+:(dH vs).L;grind,by show(dH vs).L<+:_;rw[<-ae];exact List.prefix_refl _⟩,fun h=>⟨vs,P,rfl⟩,fun h=>af,fun h=>ab,fun u r=>?_,fun v C z=>?_,fun h z=>⟨ae.symm,rfl⟩,fun h=>⟨by show vw≠0;omega,W⟩,al.min,fun h=>⟨_,rfl,N.nn,rfl,rfl,by simp[gM,nc],by simp[gM,nc],fun j l=>?_⟩,fun u us r=>(by cases r),fun y t=>(N.P y t)⟩;·have:vw=0:=h;omega
  .have aB:vw<u:=r;show(if s.id=s.id/\u=vw then _ else g.ak s.id u)=0;rw[if_neg (by omega)];exact N.ak0 u (by omega)
  .show v<=vw;have ah:(if v=vw then some vs else g.vt v).isSome=true:=C;split at ah;·omega
   .have:=N.own v ah z;omega
  .show 0<=((List.replicate 8 (0:Int)).set s.id.toNat (ep ((List.replicate 8 (0:Int)).getD s.id.toNat 0) ((dH vs).L.length:Int))).getD j.toNat 0/\((List.replicate 8 (0:Int)).set s.id.toNat (ep ((List.replicate 8 (0:Int)).getD s.id.toNat 0) ((dH vs).L.length:Int))).getD j.toNat 0<=_;have hz:∀k:Nat,(List.replicate 8 (0:Int)).getD k 0=0:=by intro k;rw[List.getD_eq_getElem?_getD,List.getElem?_replicate];split<;>rfl
   rw[hz,List.getD_eq_getElem?_getD,List.getElem?_set];by_cases ej:s.id=j;·subst ej;rw[if_pos rfl,if_pos (by simp;omega)];have:(jQ g s.id vw vs).ak s.id (ix s vw vs).ls=(dH vs).L.length:=ab;grind[ep,dH]
   grind
 have D:fG n g dv B K s (ix s vw vs):=by
  refine⟨⟨jQ g s.id vw vs,KG,?_,?_,fun x b=> .inl b⟩,rfl,I,Int.le_refl _,?_,rfl,by show s.out.length<=500;grind⟩;·show iH n _ (gL dv s.id s.dv);grind
  .show fU n _ (gL dv s.id s.dv) _;grind
  .obtain⟨a1,a2,a3,a4,a5,a6,a7,a8,a9,aq,ar,au,ai,aj⟩:=U;refine⟨a1,a2,a3,⟨a3.1,Int.le_refl _⟩,a5,a6,a7,a8,fun q J=>?_,fun i=>?_,?_,fun q J=>(by cases J),ai,aj⟩;·have:gM (nc s.n (dr vs) s.id) s.id ((dH vs).L.length:Int) 0=q:=Option.some.inj J;rw[<-this];show 0<=(0:Int)/\(0:Int)<=B;omega
   .show(E8.all s.ck).at i<=s.ck;rw[E8.all_at];omega
   .show(([]:List kH).length:Int)<=64+s.ck;grind
 have ag:∀j∈ex s.id s.n (ek.filter (dg (dr vs))),dE j/\dg (dr vs) j=true/\j≠s.id/\j<=n:=fun j l=>by have:=kZ l;rw[N.nn]at this;exact this
 have ap:∀j∈ex s.id s.n (ek.filter (dg (dr vs))),kh n (jQ g s.id vw vs) dv (dm (ix s vw vs) (fI (ix s vw vs) j),(ix s vw vs).L):=fun j l=>by obtain⟨Q,R,S,T⟩:=ag j l;exact sv p (B:=B) (by omega) aa an D.nb rfl Q T S R
 have az:((ex s.id s.n (ek.filter (dg (dr vs)))).flatMap (fH (ix s vw vs))).length<=7:=Nat.le_trans (ks (fun x b=>by simp[fH])) nU;have w:(ix s vw vs).out=[]:=H
 have X:=D.says (ms:=(ex s.id s.n (ek.filter (dg (dr vs)))).flatMap (fH (ix s vw vs))) (by grind) (fun V O k G' N' z x b=>by
  obtain⟨j,l,b⟩:=List.mem_flatMap.1 b;rw[fH,List.mem_singleton]at b;rw[b];obtain⟨Q,R,S,T⟩:=ag j l
  exact sv p (B:=B) (by omega) G' N' D.nb rfl Q T S R)
 rw[w,List.nil_append]at X;refine⟨?_,X⟩;unfold vL;rw[C];simp only
 rw[if_pos (by
  rw[N.nn,A,af,km _ [] (by grind)]
  grind)]
 have:=gU (F:=nh) (a:=ix s vw vs) (f:=fH (ix s vw vs)) (id:=s.id) (n:=s.n) (ek.filter (dg (dr vs))) [] (by grind[dg,dr,nM]) (fun j l=>⟨by simp[fH],fun o H=>wN (ap j l) H⟩);rw[lc w,List.nil_append]at this;exact this
end
section
variable{u:Int->Int} {O:Gh}
variable{n:Nat} {g Y Z:Gh} {i d X:Int} {dv:Int->Int} {B B' K:Int} {s s' V s2:dp} {m:dz} {L:List dj} {e:dj}
theorem yI(dv:Int->Int)(i a b:Int):gL (gL dv i a) i b=gL dv i b:=by funext j;unfold gL;split<;>rfl
theorem i8.less(k:i8 n i X g Y)(h:d<=X):i8 n i d g Y:=
 .of k.vt k.vti k.gl k.gli k.ak k.aki (fun v a=>k.akd v (by omega)) k.ce
theorem fG.trans(D:fG n g dv B K s V)(h:∀O u,iH n O u->fU n O u V->fG n O u B' K V s2):fG n g dv B' K s s2:=by
 obtain⟨⟨O,k,G,N,M⟩,h1,l,h2,h3,h4,h5⟩:=D;obtain⟨⟨Z,k2,b,f,c⟩,o,r,t,p,v,q⟩:=h O _ G N;rw[h1,iO,yI]at*;refine⟨⟨Z,k.trans (k2.less (by omega)),b,f,fun x a=>?_⟩,o,l,by omega,p,by omega,q⟩;rcases c x a with a|a
 .rcases M x a with a|a;·exact .inl a
  .refine .inr (a.mono (i:=s.id) (by rw[iO];exact k2) (fun j=>?_));unfold gL;omega
 grind
theorem y7(h:ip s e=some s'):∃a b,s'={s with L:=a,q:=b}:=by
 unfold ip at h;split at h;·grind
 .split at h;·cases h;grind
  .cases h
theorem dI:∀{l:List dj} {s s':dp},dt ip l s=some s'->∃a b,s'={s with L:=a,q:=b}
 |[],s,s',h=>by cases h;grind
 |e::l,s,s',h=>by
  obtain⟨t,h1,h2⟩:=dy h;obtain⟨c,j,rfl⟩:=y7 h1;obtain⟨f,k,rfl⟩:=dI h2;grind
theorem fs{fr:Int}:∀{l:List dj} {s s':dp},dt (mC fr) l s=some s'->∃a b,s'={s with L:=a,q:=b}
 |[],s,s',h=>by cases h;grind
 |e::l,s,s',h=>by
  obtain⟨t,h1,h2⟩:=dy h;unfold mC at h1;split at h1;·obtain⟨c,j,rfl⟩:=y7 h1;obtain⟨f,k,rfl⟩:=fs h2;grind
  .cases h1;exact fs h2
def uR(s:dp):Bool:=(ex s.id s.n (ek.filter (dg s.mb))).any fun i=>decide (14<=s.ck-s.er.at i.toNat)
theorem uS{id n:Int}:∀(l:List Int) (b:Bool),dt (eE (Cg s) id n) l b=some (b||(ex id n l).any fun i=>decide (14<=s.ck-s.er.at i.toNat))
 |[],b=>by simp[dt,ex]
 |i::l,b=>by
  by_cases h1:i=id
  .have e:ex id n (i::l)=ex id n l:=by unfold ex;rw[List.filter_cons_of_neg (by simp[h1])]
   rw[e,eG (t:=b) (by unfold eE;grind)];exact uS l b
  .by_cases h2:i<=n
   .have e:ex id n (i::l)=i::ex id n l:=by unfold ex;rw[List.filter_cons_of_pos (by simp[h1,h2])]
    rw[e,eG (t:=b||decide (14<=s.ck-s.er.at i.toNat)) (by unfold eE;rw[if_neg h1,if_pos h2];rfl),uS l _,List.any_cons,Bool.or_assoc]
   .have e:ex id n (i::l)=ex id n l:=by unfold ex;rw[List.filter_cons_of_neg (by simp[h2])]
    rw[e,eG (t:=b) (by grind[eE])];exact uS l b
theorem JJ(J:3<=n/\n<=5)(C:B<=1000000)(G:iH n O u)(N:fU n O u s')(b:jY B K s')(j:s'.mi=true){q:lr}(k:s'.q=some q)(h:dE i)(w:i<=n)(M:i≠s'.id)(x:dg s'.mb i=true):kh n O u (dm s' (kJ s' q.la i (fy q i)),s'.L.drop (fy q i).toNat)/\0<=fy q i/\fy q i<=(s'.L.length:Int):=by
 have D:=N.cm60 G;have v:=N.id;have F:=b.dv;have H:=N.ls;have c:=N.bt;have E:=b.ck;have I:=b.la q k;obtain⟨l,o⟩:=N.mi j;obtain⟨a,P⟩:=N.lead l o;obtain⟨vs,A,W⟩:=N.mb l;obtain⟨Q,p,R,y,S,T,U,z⟩:=N.q j;rw[k]at p;cases p;have f:0<=fy q i/\fy q i<=(O.ak i s'.ls:Int):=by unfold fy;rw[y,x,if_pos rfl];exact z i h
 have r:=G.al i s'.ls;rw[<-a]at r;refine⟨⟨kg (by simp[dm,kJ]) (by show 1<=s'.id/\s'.id<=7;omega) (by show 1<=i/\i<=7;exact h) (by show s'.id≠i;omega) c (by show 0<=s'.ls/\s'.ls<=10000000;omega) (by simp[dm,kJ]) (by show 0<=q.la/\q.la<=10000000;omega) (by show 0<=s'.ck/\s'.ck<=10000000;omega) (by simp[dm,kJ]) (by show 0<=fy q i/\fy q i<=60;omega) (by show 0<=s'.cm/\s'.cm<=60;omega) (by grind) (fun e t=>(N.logOk G).may e (List.drop_subset _ _ t)),v.2,w,c,by simp[dm,kJ],by show q.la<=2048576;omega,.inl ((N.logOk G).sub (List.drop_sublist _ _)),?_,?_,?_,?_,?_,?_,?_⟩,f.1,by omega⟩;·intro e;simp[dm,kJ]at e
 .intro e;simp[dm,kJ]at e
 .intro e;simp[dm,kJ]at e
 .intro e;simp[dm,kJ]at e
 .intro _;refine⟨o,by show(O.vt s'.ls).isSome=true;rw[A];rfl,f.2,⟨s'.L.length,?_⟩,?_⟩;·show s'.L.drop _=((O.gl s'.ls).take s'.L.length).drop _;rw[<-a,List.take_length];rfl
  .show el n O s'.ls (O.gl s'.ls) s'.cm;rw[<-a];exact N.cm
 .intro e;simp[dm,kJ]at e
 .intro e;simp[dm,kJ]at e
theorem JM(h:3<=n/\n<=5)(l:B<=1000000)(N:fU n O u s')(k:jY B K s'){num:Int}(j:0<=num/\num<=2048576)(h1:1<=s'.ls)(q:dJ s'.ls n≠s'.id):kh n O u (dm s' (iU s' num),[]):=by have f:=N.id;have o:=k.dv;have p:=N.ls;have a:=N.bt;have b:=Dt h h1;refine⟨kg (by simp[dm,iU]) (by show 1<=s'.id/\s'.id<=7;omega) (by show 1<=dJ s'.ls s'.n/\dJ s'.ls s'.n<=7;rw[N.nn];omega) (by show s'.id≠dJ s'.ls s'.n;rw[N.nn];omega) a (by show 0<=s'.ls/\s'.ls<=10000000;omega) (by simp[dm,iU]) (by show 0<=num/\num<=10000000;omega) (by simp[dm,iU]) (by simp[dm,iU]) (by simp[dm,iU]) (by simp[dm,iU]) (by grind) (fun e c=>by cases c),f.2,by show dJ s'.ls s'.n<=n;rw[N.nn];exact b.2,a,by simp[dm,iU],j.2,.inl eT.nil,?_,?_,?_,?_,?_,?_,?_⟩;all_goals(intro e;simp[dm,iU]at e)
theorem Hd(k:3<=n/\n<=5)(l:B<=1000000)(N:fU n O u s')(b:jY B K s')(h1:1<=s'.ls)(q:dJ s'.ls n≠s'.id):kh n O u (dm s' (fA s'),s'.P):=by have j:=N.id;have o:=b.dv;have p:=N.ls;have a:=N.bt;have c:=b.P;have f:=Dt k h1;refine⟨kg (by simp[dm,fA]) (by show 1<=s'.id/\s'.id<=7;omega) (by show 1<=dJ s'.ls s'.n/\dJ s'.ls s'.n<=7;rw[N.nn];omega) (by show s'.id≠dJ s'.ls s'.n;rw[N.nn];omega) a (by simp[dm,fA]) (by simp[dm,fA]) (by simp[dm,fA]) (by simp[dm,fA]) (by simp[dm,fA]) (by simp[dm,fA]) (by simp[dm,fA]) (by grind) (fun e h=>(c.2 e h).1),j.2,by show dJ s'.ls s'.n<=n;rw[N.nn];exact f.2,a,by simp[dm,fA],by simp[dm,fA],.inr rfl,?_,?_,?_,?_,?_,?_,fun _=>N.P⟩;all_goals(intro e;simp[dm,fA]at e)
def kN(s:dp)(q:lr)(i:Int):List (dz×List dj):=if dg s.ac i then [(dm s (kJ s q.la i (fy q i)),s.L.drop (fy q i).toNat)]else fH s i
def ko(s:dp)(q:lr):dp:=gs (fM s q) ((ex s.id s.n (ek.filter (dg s.mb))).flatMap (kN (fM s q) (eV q)))
def mB(s:dp):dp:=gs {s with f:=ir s.f s.ck} ((dm s (iU s (s.f.nm+1)),[])::if s.P=[]then []else [(dm s (fA s),s.P)])
def zr(s:dp)(w:Int)(vs:List iq):dp:=gs s ((ex s.id s.n (iI s.n.toNat)).flatMap fun i=>if dg (dr vs) i then []else fq s w i)
end
section
variable{n:Nat} {g V X:Gh} {i d O:Int} {dv:Int->Int} {B B' K:Int} {s s' u Y:dp} {m:dz} {L:List dj} {e:dj}
def jy(s:dp):Bool:=match s.v with
 |none=>false
 |some v=>decide (v.1=s.dv)
inductive Ts (s:dp):dp->Prop
 |inst (vw:Int) (vs:List iq) (h1:s.v=some (vw,vs)) (h2:vw=s.dv) (h3:dX (dr vs) s.n=true):Ts s (zC s vw vs)
 |again (w vw:Int) (vs:List iq) (h1:s.v=some (vw,vs)) (h2:vw=s.dv) (h3:dX (dr vs) s.n=false) (h4:s.ag=true\/ic s=true) (h5:ep s.dv s.dn<w) (h6:w<=ep s.dv s.dn+8) (h7:dJ w s.n=s.id):Ts s (jc s w)
 |gath (vw:Int) (vs:List iq) (h1:s.v=some (vw,vs)) (h2:vw=s.dv) (h3:dX (dr vs) s.n=false) (h4:s.ag=false) (h5:ic s=false):Ts s (zr s vw vs)
 |silent (u:dp) (w:Int) (h1:jy s=false) (h2:eC s=true) (h3:s.mi=true) (h4:dt ip s.P s=some u) (h8:uR u=true) (h5:ep u.dv u.dn<w) (h6:w<=ep u.dv u.dn+8) (h7:dJ w u.n=u.id):Ts s (jc u w)
 |dec (u:dp) (q:lr) (h1:jy s=false) (h2:eC s=true) (h3:s.mi=true) (h4:dt ip s.P s=some u) (h5:uR u=false) (h6:u.q=some q):Ts s (ko u q)
 |late (w:Int) (h1:jy s=false) (h2:eC s=false\/s.mi=false) (h3:ic s=true) (h5:ep s.dv s.dn<w) (h6:w<=ep s.dv s.dn+8) (h7:dJ w s.n=s.id):Ts s (jc s w)
 |ask (h1:jy s=false) (h2:eC s=true) (h3:s.mi=false) (h4:ic s=false):Ts s (mB s)
 |idle (h1:jy s=false) (h2:eC s=false) (h4:ic s=false):Ts s s
theorem fG.refl(G:iH n g dv)(N:fU n g dv s)(a:jY B K s)(b:s.out=[]):fG n g dv B K s s:=fG.same G N N rfl rfl a rfl rfl (by grind)
theorem fG.up(D:fG n g dv B K s s')(h:B<=B')(b:K<=300):fG n g dv B' K s s':=by obtain⟨a,h1,h2,h3,h4,h5,h6⟩:=D;exact⟨a,h1,h2,h3,h4.up h (Int.le_refl _) b,h5,h6⟩
theorem C9(o:jY B K s):jY (B+10) K {s with f:=ir s.f s.ck}:=by
 obtain⟨a1,a2,a3,a4,a5,p,r,l,t,b,c,h,j,k⟩:=o;refine⟨by grind,by grind,a3,a4,by show 1048576<=s.f.nm+1/\s.f.nm+1<=1048576+(B+10);omega,?_,fun q a=>?_,l,fun q a=>by grind,b,c,h,j,k⟩;·show((s.f.ask++[(s.f.nm+1,s.ck)]).drop (s.f.ask.length+1-64)).length<=64;grind
 .have v:q∈(s.f.ask++[(s.f.nm+1,s.ck)]).drop (s.f.ask.length+1-64):=a;grind
theorem Db(z:3<=n/\n<=5)(G:iH n g dv)(N:fU n g dv s)(q:jY B K s)(R:B<=900000)(p:s.out=[])(J:eC s=true)(W:s.mi=false):qE s=some (mB s)/\fG n g dv (B+10) K s (mB s):=by
 have w:=J;unfold eC at w;simp only[Bool.and_eq_true,decide_eq_true_eq]at w;have A:dJ s.ls n≠s.id:=fun h=>by have:=(N.lead (by omega) h).2;grind
 have Z:=q.nm;have S:=q.P;have T:=q.ask;have v:fU n g dv {s with f:=ir s.f s.ck}:=N.same rfl rfl rfl rfl rfl rfl rfl rfl rfl rfl rfl rfl;have D:fG n g dv (B+10) K s {s with f:=ir s.f s.ck}:=fG.same G N v rfl rfl (C9 q) rfl rfl (by grind);have I:({s with f:=ir s.f s.ck}:dp).out=[]:=p
 have y:∀c b,fU n c b {s with f:=ir s.f s.ck}->∀x∈((dm s (iU s (s.f.nm+1)),[])::if s.P=[]then []else [(dm s (fA s),s.P)]:List (dz×List dj)),kh n c b x:=by
  intro c b j x a;have C:=JM (s':={s with f:=ir s.f s.ck}) z (B:=B+10) (by omega) j D.nb (num:=s.f.nm+1) (by omega) (by grind) A;have E:=Hd (s':={s with f:=ir s.f s.ck}) z (B:=B+10) (by omega) j D.nb (by grind) A;rcases List.mem_cons.1 a with rfl|a;·exact C
  .split at a;·cases a
   .rw[List.mem_singleton]at a;rw[a];exact E
 have r:=D.says (ms:=(dm s (iU s (s.f.nm+1)),[])::if s.P=[]then []else [(dm s (fA s),s.P)]) (by grind) (fun c b k Q j U x a=>y c b j x a);rw[I,List.nil_append]at r;refine⟨?_,r⟩;have H:=y g dv v;unfold qE;rw[if_pos (by simp;omega)];have F:gu {s with f:=ir s.f s.ck} (iU s (s.f.nm+1)) []=some (gW {s with f:=ir s.f s.ck} (iU s (s.f.nm+1)) []):=oP (H _ (List.mem_cons_self ..)).may (by grind);rw[F];have M:∀(P:List dj) (t:dp),(match P with|[]=>some t|e::l=>gu t (fA s) (e::l))=if P=[]then some t else gu t (fA s) P:=by intro P t;cases P<;>rfl
 refine(M s.P _).trans ?_;unfold mB;by_cases o:s.P=[];·rw[if_pos o,if_pos o];unfold gW gs;simp only;rw[p];rfl
 .rw[if_neg o]at H⊢;rw[if_neg o];refine(oP (s:=gW {s with f:=ir s.f s.ck} (iU s (s.f.nm+1)) []) (m:=fA s) (L:=s.P) (H (dm s (fA s),s.P) (by simp)).may (by show(s.out++[_]).length<1000;rw[p];simp)).trans ?_;unfold gW gs;simp only;rw[p];rfl
end
section
variable{n:Nat} {g V u:Gh} {i d O:Int} {dv:Int->Int} {B B' K:Int} {s s' X D:dp} {m:dz} {L:List dj} {e:dj}
theorem Bf(t:3<=n/\n<=5)(G:iH n g dv)(N:fU n g dv s)(l:jY B K s)(z:B<=900000)(c:s.out=[])(r:jy s=true):∃D,q9 s=some D/\Ts s D/\fG n g dv (B+10) K s D:=by
 have A:=l.ck.2.2
 have I:=N.id
 have H:=N.bt
 have aa:=l.dv
 unfold jy at r
 cases b:s.v with
 |none=>grind
 |some v=>
  obtain⟨vw,vs⟩:=v;rw[b]at r;have q:vw=s.dv:=of_decide_eq_true r;obtain⟨S,w2,w3,T,w5,w6⟩:=N.v vw vs b;have ac:=N.ls;unfold q9;rw[b];simp only;by_cases h1:dX (dr vs) s.n=true;·rw[if_pos h1];obtain⟨k1,k2⟩:=Bm t G N l z c b q h1;exact⟨_,k1,.inst vw vs b q h1,k2.up (by omega) A⟩
  .rw[if_neg h1];have h1:dX (dr vs) s.n=false:=Bool.eq_false_iff.2 h1;by_cases h2:s.ag=true\/ic s=true;·rw[if_pos (by grind)];obtain⟨w,k1,k2,k3,k4,k5⟩:=mn t G N l z c;exact⟨_,k1,.again w vw vs b q h1 h2 k2 k3 (by rw[N.nn];exact k4),k5⟩
   .rw[if_neg (by grind)];have h2:s.ag=false/\ic s=false:=by simpa using h2
    have C:∀j∈ex s.id s.n (iI s.n.toNat),dE j/\j≠s.id/\j<=n:=fun j p=>by have:=kZ p;rw[N.nn]at this;grind
    have ab:((ex s.id s.n (iI s.n.toNat)).flatMap fun i=>if dg (dr vs) i then []else fq s vw i).length<=7:=Nat.le_trans (ks (fun x h=>by split<;>simp[fq])) nU
    have y:=(fG.refl G N l c).says (ms:=(ex s.id s.n (iI s.n.toNat)).flatMap fun i=>if dg (dr vs) i then []else fq s vw i) (by grind) (fun Z W k U E hd x h=>by
     obtain⟨j,p,h⟩:=List.mem_flatMap.1 h;split at h;·cases h
     .rw[fq,List.mem_singleton]at h;rw[h];obtain⟨J,M,P⟩:=C j p
      exact z' t (B:=B) (by omega) E l S (by omega) T J P M)
    rw[c,List.nil_append]at y;refine⟨zr s vw vs,?_,.gath vw vs b q h1 h2.1 h2.2,y.up (by omega) A⟩
    have:=gU (F:=tn) (a:=s) (f:=fun i=>if dg (dr vs) i then []else fq s vw i) (id:=s.id) (n:=s.n) (iI s.n.toNat) [] (by grind[dg,no,iI,nM]) (fun j p=>⟨by split<;>simp[fq],fun o c=>by
     obtain⟨Q,R,j3⟩:=C j p;unfold tn;have:(gs s o).v=some (vw,vs):=b;rw[this];simp only;split;·grind
     .exact wg (s:=s) ⟨I.1,by omega⟩ H ⟨by omega,by omega⟩ Q R c⟩)
    rw[lc c,List.nil_append]at this;have Y:((s.n.toNat:Nat):Int)=s.n:=by rw[N.nn];rfl
    grind[iI,zr]
theorem Du(R:3<=n/\n<=5)(G:iH n g dv)(N:fU n g dv s)(T:jY B K s)(hB:B<=900000)(I:s.out=[])(aD:(s.ak.length:Int)+1<=64+s.ck)(hc:jy s=false)(P:eC s=true)(Q:s.mi=true):∃D,um s=some D/\Ts s D/\fG n g dv (B+10) K s D:=by
 have aH:=T.ck.2.2;have hP:=T.P;obtain⟨t,a1,a2,a3,a4,a5,a6⟩:=y' s.P s (fG.refl G N T I) P Q (fun e he=>⟨(hP.2 e he).1,N.P e he⟩);obtain⟨L',q',ht⟩:=dI a1;unfold um;rw[a1];simp only;have af:t.out=[]:=a5.trans I;have az:dt (eE (Cg t) t.id t.n) (ek.filter (dg t.mb)) false=some (uR t):=by have:=uS (s:=t) (id:=t.id) (n:=t.n) (ek.filter (dg t.mb)) false;rw[this,Bool.false_or];rfl
 rw[az];by_cases y:uR t=true;·rw[y];simp only;obtain⟨⟨M,k,C,l,W⟩,h1,Z,h2,p,h4,h5⟩:=a2;obtain⟨w,k1,k2,k3,k4,k5⟩:=mn R C l p hB af;refine⟨_,k1,.silent t w hc P Q a1 y k2 k3 (by rw[l.nn];exact k4),?_⟩;exact fG.trans (B:=B) ⟨⟨M,k,C,l,W⟩,h1,Z,h2,p,h4,h5⟩ (fun u b r c=>by grind[mn,Option.some.inj])
 .have y:uR t=false:=Bool.eq_false_iff.2 y;rw[y];simp only;have ag:=a2;obtain⟨⟨M,k,C,l,W⟩,h1,Z,h2,p,h4,h5⟩:=a2;obtain⟨q,J,q2,q3,q4,q5,q6,q7⟩:=l.q a4;have aI:=p.la q J;have aE:=p.ask;have aJ:=p.nm;have aF:=p.ck;have aL:t.ak=s.ak:=by rw[ht]
  have aM:t.ck=s.ck:=by rw[ht]
  have hS:∀{u:Gh} {b:Int->Int},fU n u b t->fU n u b (fM t q):=by intro u b c;obtain⟨q0,r1,r2,r3,r4,r5,r6,r7⟩:=c.q a4;rw[J]at r1;cases r1;obtain⟨b1,b2,b3,b4,b5,b6,b7,b8,b9,ah,ai,aj,ak,al,am,an,aB,ao,ap⟩:=c;exact⟨b1,b2,b3,b4,b5,b6,b7,b8,b9,ah,ai,aj,ak,al,am,an,fun _=>⟨eV q,rfl,r2,r3,r4,r5,by simp[eV,r6],r7⟩,ao,ap⟩
  have S:jY (B+10) K (fM t q):=by
   have ha:=C9 p;obtain⟨c1,c2,c3,c4,c5,c6,c7,c8,c9,aq,aC,ar,au,av⟩:=ha;refine⟨c1,c2,c3,c4,c5,c6,c7,c8,fun q2 ax=>?_,aq,?_,fun x z=>?_,au,av⟩;·have:eV q=q2:=Option.some.inj ax;rw[<-this];show 0<=q.la+1/\q.la+1<=B+10;omega
   .show((t.ak++[_]).length:Int)<=64+t.ck;grind
   .have aA:x∈t.ak++[⟨t.id,t.f.nm+1,q.la+1⟩]:=z;rcases List.mem_append.1 aA with h|h;·exact ar x h
    .rw[List.mem_singleton]at h;subst h;have aw:=l.id;have aK:=l.nn;exact⟨⟨aw.1,by grind⟩,by show t.id<=t.n;omega,by grind,by grind⟩
  have D1:fG n g dv (B+10) K s (fM t q):=fG.trans (B:=B) ag (fun u b r c=>fG.same r c (hS c) rfl rfl S rfl rfl (by omega));have aa:(fM t q).out=[]:=af;have ay:∀j∈ex t.id t.n (ek.filter (dg t.mb)),dE j/\dg t.mb j=true/\j≠t.id/\j<=n:=fun j v=>by have:=kZ v;rw[l.nn]at this;exact this
  have ae:∀u b,iH n u b->fU n u b (fM t q)->∀j∈ex t.id t.n (ek.filter (dg t.mb)),kh n u b (dm (fM t q) (kJ (fM t q) (eV q).la j (fy (eV q) j)),(fM t q).L.drop (fy (eV q) j).toNat)/\(0<=fy (eV q) j/\fy (eV q) j<=((fM t q).L.length:Int))/\kh n u b (dm (fM t q) (fI (fM t q) j),(fM t q).L):=by intro u b r c j v;obtain⟨j1,j2,j3,j4⟩:=ay j v;have A:=JJ R (B:=B+10) (by omega) r c S a4 (q:=eV q) rfl j1 j4 j3 j2;exact⟨A.1,A.2,sv R (B:=B+10) (by omega) r c S a4 j1 j4 j3 j2⟩
  have ad:∀j,(kN (fM t q) (eV q) j).length<=1:=fun j=>by unfold kN;split<;>simp[fH]
  have aG:((ex t.id t.n (ek.filter (dg t.mb))).flatMap (kN (fM t q) (eV q))).length<=7:=Nat.le_trans (ks (fun x z=>ad x)) nU
  have U:=D1.says (ms:=(ex t.id t.n (ek.filter (dg t.mb))).flatMap (kN (fM t q) (eV q))) (by grind) (fun u b k2 r c hd x z=>by
   obtain⟨j,v,z⟩:=List.mem_flatMap.1 z;obtain⟨Y,-,X2⟩:=ae u b r c j v;unfold kN at z
   grind[fH])
  rw[aa,List.nil_append]at U;refine⟨ko t q,?_,.dec t q hc P Q a1 y J,U⟩;rw[J];simp only
  rw[if_pos (by
   grind)]
  have H:=ae M _ C (hS l)
  have:=gU (F:=AT (q.la+1)) (a:=fM t q) (f:=kN (fM t q) (eV q)) (id:=t.id) (n:=t.n) (ek.filter (dg t.mb)) [] (by grind[dg,nM]) (fun j v=>⟨ad j,fun o I=>by
   obtain⟨Y,X2,X3⟩:=H j v;unfold AT;have:(gs (fM t q) o).q=some (eV q):=rfl;rw[this];simp only;unfold kN;by_cases E:dg t.ac j=true
   .rw[if_pos (show dg (gs (fM t q) o).ac j=true from E),if_pos (show dg (fM t q).ac j=true from E),if_pos (by
     have:=(l.logOk C).le
     have:(fM t q).L.length=t.L.length:=rfl
     omega)]
    exact oP (s:=gs (fM t q) o) Y.may (by show o.length<1000;omega)
   .rw[if_neg (show¬dg (gs (fM t q) o).ac j=true from E),if_neg (show¬dg (fM t q).ac j=true from E)]
    exact wN X3 I⟩)
  rw[lc aa,List.nil_append]at this;exact this
theorem Ih(h:3<=n/\n<=5)(G:iH n g dv)(N:fU n g dv s)(a:jY B K s)(f:B<=900000)(c:s.out=[])(l:(s.ak.length:Int)+1<=64+s.ck):∃D,vS s=some D/\Ts s D/\fG n g dv (B+10) K s D:=by
 have j:=a.ck.2.2;have k:vS s=(if jy s=true then q9 s else if(eC s&&s.mi)=true then um s else if ic s=true then kB s else if eC s=true then qE s else some s):=rfl;rw[k];by_cases h1:jy s=true;·rw[if_pos h1];exact Bf h G N a f c h1
 .have h1:jy s=false:=Bool.eq_false_iff.2 h1;rw[if_neg (by omega)];by_cases h2:eC s=true/\s.mi=true;·rw[if_pos (by grind)];grind[Du]
  .rw[if_neg (by grind)];by_cases h3:ic s=true;·rw[if_pos h3];obtain⟨w,k1,k2,k3,k4,k5⟩:=mn h G N a f c;refine⟨_,k1,.late w h1 ?_ h3 k2 k3 (by rw[N.nn];exact k4),k5⟩;grind
   .rw[if_neg h3];have h3:ic s=false:=Bool.eq_false_iff.2 h3;by_cases h4:eC s=true;·rw[if_pos h4];have b:s.mi=false:=Bool.eq_false_iff.2 fun b=>h2 ⟨h4,b⟩;obtain⟨k1,k2⟩:=Db h G N a f c h4 b;exact⟨_,k1,.ask h1 h4 b h3,k2⟩
    .rw[if_neg h4];exact⟨s,rfl,.idle h1 (Bool.eq_false_iff.2 h4) h3,(fG.refl G N a c).up (by omega) j⟩
end
section
variable{n:Nat} {g D G:Gh} {i d u:Int} {dv:Int->Int} {B B' K:Int} {s s' N O:dp} {m:dz} {L:List dj} {e:dj}
inductive Hs (s:dp) (m:dz) (L:List dj):dp->Prop
 |join (k:m.kd=1) (h1:m.fr=dJ m.vw s.n) (h2:s.dv<m.vw):Hs s m L (gW (pA s m) (kE s m) s.L)
 |deny (k:m.kd=1) (h1:m.fr=dJ m.vw s.n) (h2:m.vw<=s.dv) (h3:m.vw<s.dv\/m.vw<=s.ls):Hs s m L (gW s (gP s m) [])
 |revote (k:m.kd=1) (h1:m.fr=dJ m.vw s.n) (h2:m.vw=s.dv) (h3:s.ls<m.vw):Hs s m L (gW s (kE s m) s.L)
 |denied (k:m.kd=2) (h1:s.v≠none) (h2:s.dv<m.vw):Hs s m L {s with dn:=ep s.dn m.vw,ag:=true}
 |voted (vw:Int) (vs:List iq) (k:m.kd=3) (h1:s.v=some (vw,vs)) (h2:m.vw=vw) (h3:vw=s.dv) (h4:dg (dr vs) m.fr=false):Hs s m L {s with v:=some (vw,vs++[⟨m.fr,m.ls,L,m.cm⟩])}
 |took (k:m.kd=4) (h1:s.dv<=m.vw) (h2:s.ls<m.vw) (h3:dg m.mb s.id=true) (h4:m.fr=dJ m.vw s.n):Hs s m L (gW (lF (mP s m L)) (jW (lF (mP s m L)) m.fr 0) [])
 |same (k:m.kd=4) (h1:m.vw=s.ls) (h2:m.vw=s.dv):Hs s m L (gW {s with hd:=s.ck} (jW {s with hd:=s.ck} m.fr 0) [])
 |app (L':List dj) (k:m.kd=5) (h1:eC s=true) (h2:m.vw=s.ls) (h3:m.fr=dJ s.ls s.n) (h4:fw s.L (L.drop (wX s.L.length m.po.toNat L.length))=some L'):Hs s m L (gW (pU s m.cm L') (jW (pU s m.cm L') m.fr m.nm) [])
 |fresh (k:m.kd=9) (h1:eC s=true) (h2:m.vw=s.ls) (h3:m.fr=dJ s.ls s.n):Hs s m L {s with f:=gR s.f m.nm m.cm}
 |has (s':dp) (k:m.kd=6) (h1:eC s=true) (h2:s.mi=true) (h3:m.vw=s.ls) (h4:pW s m=some s'):Hs s m L s'
 |data (s':dp) (k:m.kd=7) (h1:eC s=true) (h2:s.mi=true) (h3:dt (mC m.fr) L s=some s'):Hs s m L s'
 |askd (q:lr) (k:m.kd=8) (h1:eC s=true) (h2:s.mi=true) (h3:m.vw=s.ls) (h4:dg s.mb m.fr=true) (h5:s.ak.length<64) (h6:s.q=some q):Hs s m L (pi s m q)
 |none (k1:m.kd=1->m.fr≠dJ m.vw s.n) (k2:m.kd=2->s.v=none\/m.vw<=s.dv) (k3:m.kd=3->∀vs,s.v=some (s.dv,vs)->m.vw=s.dv->dg (dr vs) m.fr=true) (k4:m.kd=4->¬(s.dv<=m.vw/\s.ls<m.vw)/\¬(m.vw=s.ls/\m.vw=s.dv)) (k5:m.kd=5->¬(eC s=true/\m.vw=s.ls/\m.fr=dJ s.ls s.n)) (k6:m.kd=6->¬(eC s=true/\s.mi=true/\m.vw=s.ls)) (k7:m.kd=7->¬(eC s=true/\s.mi=true)) (k8:m.kd=8->¬(eC s=true/\s.mi=true/\m.vw=s.ls/\dg s.mb m.fr=true/\s.ak.length<64)) (k9:m.kd=9->¬(eC s=true/\m.vw=s.ls/\m.fr=dJ s.ls s.n)):Hs s m L s
theorem JT(k:m.kd=1)(h:ng s m=some s'):Hs s m L s':=by
 unfold ng at h;split at h
 .split at h
  .rename_i h1;have h1:m.fr=dJ m.vw s.n:=by simpa using h1
   split at h;·rename_i h2;rw[fa h];exact .join k h1 (of_decide_eq_true h2)
   .rename_i h2;have h2:¬s.dv<m.vw:=by simpa using h2
    split at h;·rename_i h3;rw[fa h];exact .deny k h1 (by omega) (by grind)
    .rename_i h3;rw[fa h];have h3:¬m.vw<s.dv/\¬m.vw<=s.ls:=by simpa using h3
     exact .revote k h1 (by omega) (by omega)
  .rename_i h1;have h1:¬m.fr=dJ m.vw s.n:=by simpa using h1
   cases h;exact .none (fun _=>h1) (fun e=>by omega) (fun e=>by omega) (fun e=>by omega) (fun e=>by omega) (fun e=>by omega) (fun e=>by omega) (fun e=>by omega) (fun e=>by omega)
 .cases h
theorem JU(k:m.kd=2)(h:qJ s m=some s'):Hs s m L s':=by
 have H:(s.v=none\/m.vw<=s.dv)->Hs s m L s:=fun h=> .none (fun e=>by omega) (fun _=>h) (fun e=>by omega) (fun e=>by omega) (fun e=>by omega) (fun e=>by omega) (fun e=>by omega) (fun e=>by omega) (fun e=>by omega);unfold qJ at h;split at h;·grind
 .rename_i v a;split at h
  .rename_i h1;split at h;·cases h;exact .denied k (by rw[a];simp) (of_decide_eq_true h1)
   .cases h
  grind
theorem JV(k:m.kd=3)(h:sr s m L=some s'):Hs s m L s':=by
 have H:(∀vs,s.v=some (s.dv,vs)->m.vw=s.dv->dg (dr vs) m.fr=true)->Hs s m L s:=fun h=> .none (fun e=>by omega) (fun e=>by omega) (fun _=>h) (fun e=>by omega) (fun e=>by omega) (fun e=>by omega) (fun e=>by omega) (fun e=>by omega) (fun e=>by omega);unfold sr at h;split at h;·grind
 .rename_i v a;split at h
  .rename_i h1;have h1:m.vw=v.1/\m.vw=s.dv:=by simpa using h1
   split at h;·grind
   .split at h;·rename_i h3;cases h;unfold Ar at h3;simp only[Bool.and_eq_true,Bool.not_eq_true']at h3;exact .voted v.1 v.2 k a h1.1 (by omega) h3.1.2
    .cases h
  grind
theorem JW(k:m.kd=4)(h:mZ s m L=some s'):Hs s m L s':=by
 unfold mZ at h;split at h
 .rename_i hr;unfold rP at hr;simp only[Bool.and_eq_true,decide_eq_true_eq]at hr;split at h
  .rename_i h1;simp only[Bool.and_eq_true,decide_eq_true_eq]at h1;split at h;·rw[fa h];exact .took k h1.1 h1.2 hr.1.2.2.2 hr.1.1
   .cases h
  .rename_i h1;simp only[Bool.and_eq_true,decide_eq_true_eq]at h1;split at h;·rename_i h2;simp only[Bool.and_eq_true,beq_iff_eq]at h2;rw[fa h];exact .same k h2.1 h2.2
   .rename_i h2;simp only[Bool.and_eq_true,beq_iff_eq]at h2;cases h;exact .none (fun e=>by omega) (fun e=>by omega) (fun e=>by omega) (fun _=>⟨h1,h2⟩) (fun e=>by omega) (fun e=>by omega) (fun e=>by omega) (fun e=>by omega) (fun e=>by omega)
 .cases h
theorem JX(k:m.kd=5)(h:xh s m L=some s'):Hs s m L s':=by
 have H:¬(eC s=true/\m.vw=s.ls/\m.fr=dJ s.ls s.n)->Hs s m L s:=fun h=> .none (fun e=>by omega) (fun e=>by omega) (fun e=>by omega) (fun e=>by omega) (fun _=>h) (fun e=>by omega) (fun e=>by omega) (fun e=>by omega) (fun e=>by omega);unfold xh at h;split at h
 .rename_i h1;split at h
  .rename_i h2;split at h
   .rename_i h3;split at h
    .split at h;·rename_i a h4;rw[fa h];exact .app a k h1 (by grind) (by grind) h4
     .cases h
    .cases h
   grind
  grind
 grind
theorem JY(k:m.kd=9)(h:oB s m=some s'):Hs s m L s':=by
 have H:¬(eC s=true/\m.vw=s.ls/\m.fr=dJ s.ls s.n)->Hs s m L s:=fun h=> .none (fun e=>by omega) (fun e=>by omega) (fun e=>by omega) (fun e=>by omega) (fun e=>by omega) (fun e=>by omega) (fun e=>by omega) (fun e=>by omega) (fun _=>h);unfold oB at h;split at h
 .rename_i h1;split at h
  .rename_i h2;split at h
   .rename_i h3;unfold nE at h;split at h;·cases h;exact .fresh k h1 (by grind) (by grind)
    .cases h
   grind
  grind
 grind
theorem DW(p:1<=m.kd/\m.kd<=9)(h:kT s m L=some s'):Hs s m L s':=by
 unfold kT at h;by_cases h1:m.kd=1;·rw[if_pos (by grind)]at h;exact JT h1 h
 rw[if_neg (by grind)]at h;by_cases h2:m.kd=2;·rw[if_pos (by grind)]at h;exact JU h2 h
 rw[if_neg (by grind)]at h;by_cases h3:m.kd=3;·rw[if_pos (by grind)]at h;exact JV h3 h
 rw[if_neg (by grind)]at h;by_cases h4:m.kd=4;·rw[if_pos (by grind)]at h;exact JW h4 h
 rw[if_neg (by grind)]at h;by_cases h5:m.kd=5;·rw[if_pos (by grind)]at h;exact JX h5 h
 rw[if_neg (by grind)]at h;by_cases l:m.kd=9;·rw[if_pos (by grind)]at h;exact JY l h
 rw[if_neg (by grind)]at h;have H:(m.kd=6->¬(eC s=true/\s.mi=true/\m.vw=s.ls))->(m.kd=7->¬(eC s=true/\s.mi=true))->(m.kd=8->¬(eC s=true/\s.mi=true/\m.vw=s.ls/\dg s.mb m.fr=true/\s.ak.length<64))->Hs s m L s:=fun a b c=> .none (fun e=>by omega) (fun e=>by omega) (fun e=>by omega) (fun e=>by omega) (fun e=>by omega) a b c (fun e=>by omega);by_cases f:eC s=true/\s.mi=true
 .rw[if_pos (by grind)]at h;unfold mN at h;by_cases h6:m.kd=6
  .rw[if_pos (by grind)]at h;split at h;·rename_i r;exact .has s' h6 f.1 f.2 (by grind) h
   grind
  .rw[if_neg (by grind)]at h;by_cases k:m.kd=7;·rw[if_pos (by grind)]at h;exact .data s' k f.1 f.2 h
   .rw[if_neg (by grind),if_neg (by simp;omega),if_pos (by simp;omega)]at h;split at h
    .split at h
     .rename_i j;simp only[Bool.and_eq_true,beq_iff_eq,decide_eq_true_eq]at j;split at h;·cases h
      .rename_i q o;split at h;·cases h;exact .askd q (by omega) f.1 f.2 j.1 j.2.1 j.2.2 o
       .cases h
     grind
    .cases h
 grind
theorem eH:∀{l:List kH} {a r:dp×List kH},dt ke l a=some r->∃f o k,r.1={a.1 with f:=f,out:=a.1.out++o}/\r.2=a.2++k/\k.Sublist l/\(∀q∈k,∀p,a.1.q=some p->eZ p.pr p.n<q.pr)/\(∀p,a.1.q=some p->∀q∈l,eZ p.pr p.n<q.pr\/(q.who=a.1.id)\/(dm a.1 (fV a.1 q),[])∈o)/\(∀x∈o,∃q∈l,x=(dm a.1 (fV a.1 q),[])/\q.who≠a.1.id)/\f.nm=a.1.f.nm/\f.ask=a.1.f.ask/\o.length+k.countP (fun q=>q.who≠a.1.id)<=l.countP (fun q=>q.who≠a.1.id)
 |[],a,r,h=>by
  cases h;exact⟨a.1.f,[],[],by simp,by simp,List.Sublist.refl _,by simp,by simp,by simp,rfl,rfl,by simp⟩
 |q::l,a,r,h=>by
  obtain⟨b,h1,h2⟩:=dy h;obtain⟨f,o,k,w,y,z,F,H,A,C,E,J⟩:=eH h2;unfold ke at h1;split at h1;·cases h1
  .rename_i p lj;split at h1
   .rename_i M;split at h1
    .cases h1;refine⟨f,o,q::k,w,by rw[y];simp,z.cons_cons q,fun x c j t=>?_,fun j t x c=>?_,fun x c=>?_,C,E,?_⟩;·grind
     .grind
     .obtain⟨j,k1,k2⟩:=A x c;grind
     grind
    .cases h1
   .rename_i M;split at h1
    .rename_i v;have v:q.who=a.1.id:=by simpa using v
     unfold nE at h1;split at h1
     .cases h1;refine⟨f,o,k,w,y,z.cons q,F,fun j t x c=>?_,fun x c=>?_,C.trans (zt _ _ _),E.trans ?_,?_⟩
      .rcases List.mem_cons.1 c with rfl|c;·omega
       .exact H j t x c
      .obtain⟨j,k1,k2⟩:=A x c;exact⟨j,List.mem_cons_of_mem _ k1,k2⟩
      .grind[gR,ask]
      grind
     .cases h1
    .rename_i v;have v:q.who≠a.1.id:=by simpa using v
     cases I:gu a.1 (fV a.1 q) []with
     |none=>grind
     |some s'=>
      rw[I]at h1;cases h1;have:=fa I;subst this;refine⟨f,(dm a.1 (fV a.1 q),[])::o,k,?_,y,z.cons q,F,fun j t x c=>?_,fun x c=>?_,C,E,?_⟩;·rw[w];show({a.1 with f:=f,out:=(a.1.out++[_])++o}:dp)=_;grind
      .rcases List.mem_cons.1 c with rfl|c;·grind
       .rcases H j t x c with h|h|h;·exact .inl h
        .exact .inr (.inl h)
        .exact .inr (.inr (List.mem_cons_of_mem _ h))
      .rcases List.mem_cons.1 c with rfl|c;·grind
       .obtain⟨j,k1,k2⟩:=A x c;exact⟨j,List.mem_cons_of_mem _ k1,k2⟩
      .rw[List.countP_cons,List.length_cons,if_pos (by grind)];have P:o.length+k.countP (fun q=>q.who≠a.1.id)<=l.countP (fun q=>q.who≠a.1.id):=J;omega
end
section
variable{n:Nat} {g G N:Gh} {i d D:Int} {dv:Int->Int} {B B' K:Int} {s s' V X:dp} {m:dz} {L C:List dj} {e:dj}
def fB(e:dj):Bool:=e.lv !=0&&e.od==1
def eo(T:List iB):List dj:=(T.map (·.e)).filter fB
theorem l6(T U:List iB):eo (T++U)=eo T++eo U:=by grind[eo]
def sK(C:List dj):Prop:=C.Pairwise fun a b=>dG a b=false
theorem Ce{a b:dj}(h:dG a b=true):dG b a=true:=(fR b a).2 ((fR a b).1 h).symm
theorem zE(h:sK C){a b:dj}(f:a∈C)(l:b∈C)(p:dG a b=true):a=b:=by
 by_cases e:a=b;·exact e
 .exfalso
  induction C with
  |nil=>cases f
  |cons c C o=>
   obtain⟨h1,h2⟩:=List.pairwise_cons.1 h;rcases List.mem_cons.1 f with j|j;·grind
   .rcases List.mem_cons.1 l with k|k;·grind[Ce]
    .exact o h2 j k
theorem AL(h:sK C){a b:dj}(k:fh C a)(l:fh C b)(q:dG a b=true):fB a=fB b:=by obtain⟨c,o,f⟩:=k;obtain⟨d,p,j⟩:=l;unfold gN at f j;simp only[Bool.and_eq_true,decide_eq_true_eq]at f j;grind[trans,fB,zE,fR]
structure GM (C:List dj) (s:dp):Prop where
 pw:s.T.Pairwise fun a b=>dG a.e b.e=false
 ct:∀t∈s.T,fh C t.e
 firm:eo s.T<+:(s.L.take s.cm.toNat).filter fB
 tm:s.tm<=s.T.length
theorem we{α:Type}{A T F:List α}{e:α}(h1:A<+:T)(h2:T<+:F)(h3:A++[e]<+:F)(h4:e∉T):T=A:=by
 obtain⟨t,rfl⟩:=h1
 cases t with
 |nil=>simp
 |cons a t=>
  exfalso;obtain⟨u,rfl⟩:=h2;obtain⟨v,b⟩:=h3;grind[List.append_assoc,List.append_cancel_left_eq]
theorem E4{α:Type}{A T F:List α}{e:α}(h1:A<+:T)(h2:T<+:F)(h3:A++[e]<+:F)(h4:e∈T)(h5:e∉A):A++[e]<+:T:=by
 obtain⟨t,rfl⟩:=h1
 cases t with
 |nil=>grind
 |cons a t=>
  obtain⟨u,rfl⟩:=h2;obtain⟨v,b⟩:=h3;grind[List.append_assoc,List.append_cancel_left_eq]
theorem tX{k:Nat}(h:L[k]? =some e):L.take (k+1)=L.take k++[e]:=by rw[List.take_add_one,h];rfl
structure KW (C L:List dj) (c k:Nat) (T0:List iB) (st:ua×List iB×List iB):Prop where
 pw:st.2.1.Pairwise fun a b=>dG a.e b.e=false
 ct:∀t∈st.2.1,fh C t.e
 firm:eo st.2.1<+:(L.take c).filter fB
 o1:st.1.o1=true->(L.take (min k c)).filter fB<+:eo st.2.1
 ap:st.2.1=T0++st.2.2
 mb:∀t∈st.2.2,t.e∈L
theorem tD{q:ua}{k cm now:Int}(h:sP q e k cm now=true)(a:fB e=true):k<=cm/\q.o1=true:=by grind[fB,sP,absurd]
theorem Hl{c k:Nat}{now:Int}{T0:List iB}{z:ua×List iB×List iB}(M:sK C)(P:eT L)(S:∀x∈L,fh C x)(af:c<=L.length)(l:L[k]? =some e)(I:KW C L c k T0 z):KW C L c (k+1) T0 (jG (c:Int) now L.length z k e):=by
 have A:sK L:=P.pw.imp fun{a b} h=>h.1
 have F:e∈L:=List.mem_of_getElem? l
 have Z:k<L.length:=(List.getElem?_eq_some_iff.1 l).1
 have U:=S e F
 have ab:min (max (c:Int) 0) (L.length:Int)=(c:Int):=by omega
 have hF:fB e=true->k<c->(L.take (min (k+1) c)).filter fB=(L.take (min k c)).filter fB++[e]:=by
  intro h1 h2;rw[Nat.min_eq_left (by omega),Nat.min_eq_left (by omega),tX l,List.filter_append,List.filter_cons_of_pos h1];rfl
 have ad:(fB e=false\/c<=k)->(L.take (min (k+1) c)).filter fB=(L.take (min k c)).filter fB:=by
  intro h;by_cases h2:c<=k;·rw[Nat.min_eq_right (by omega),Nat.min_eq_right (by omega)]
  .have h1:fB e=false:=by rcases h with h|h;exact h;omega
   rw[Nat.min_eq_left (by omega),Nat.min_eq_left (by omega),tX l,List.filter_append,List.filter_cons_of_neg (by rw[h1];decide)];simp
 have ae:(L.take (min (k+1) c)).filter fB<+:(L.take c).filter fB:=(List.take_prefix_take_left (Nat.min_le_right ..)).filter _
 have ah:e∉(L.take (min k c)).filter fB:=fun h=>by
  have h1:=(List.mem_filter.1 h).1;obtain⟨j,Y,H⟩:=List.mem_iff_getElem.1 h1;rw[List.length_take]at Y;rw[List.getElem_take]at H;have h2:=(List.pairwise_iff_getElem.1 A) j k (by omega) Z (by omega);have h3:L[k]=e:=(List.getElem?_eq_some_iff.1 l).2;rw[H,h3]at h2;have:dG e e=true:=(fR e e).2 rfl;grind
 obtain⟨q,T,O⟩:=z
 obtain⟨p,r,u,i4,w,y⟩:=I
 simp only at p r u i4 w y
 have ag:(T.any fun x=>dG x.e e)=true->fB e=true->e∈eo T:=by
  intro h1 h2;rw[List.any_eq_true]at h1;obtain⟨t,f,J⟩:=h1;have h3:t.e∈eo T:=by unfold eo;rw[List.mem_filter];refine⟨List.mem_map_of_mem f,?_⟩;rw[AL M (r t f) U J];exact h2
  have h4:t.e∈L:=(List.take_subset _ _) (List.mem_filter.1 (u.subset h3)).1;rwa[zE A h4 F J]at h3
 have ai:(T.any fun x=>dG x.e e)=false->e∉eo T:=by
  intro h1 h2;rw[List.any_eq_false]at h1;unfold eo at h2;rw[List.mem_filter,List.mem_map]at h2;obtain⟨⟨t,f,W⟩,-⟩:=h2;exact h1 t f (by rw[W];exact(fR e e).2 rfl)
 unfold jG
 simp only
 rw[ab]
 cases o:T.any fun x=>dG x.e e with
 |true=>
  simp only[Bool.not_true,Bool.false_and,Bool.false_eq_true,if_false,o,if_true];refine⟨p,r,u,fun h=>?_,w,y⟩;by_cases v:fB e=true/\k<c;·grind[E4]
  grind
 |false=>
  simp only[Bool.not_false,Bool.true_and]
  cases hm:sP q e ((k:Int)+1) (c:Int) now with
  |true=>
   have R:((T++[(⟨(k:Int)+1,e⟩:iB)]).any fun x=>dG x.e e)=true:=by rw[List.any_append];simp[(fR e e).2 rfl]
   simp only[if_true,R];have ac:(T++[(⟨(k:Int)+1,e⟩:iB)]).Pairwise fun a b=>dG a.e b.e=false:=by rw[List.pairwise_append];refine⟨p,List.pairwise_singleton _ _,fun a Q b E=>?_⟩;rw[List.mem_singleton]at E;subst E;rw[List.any_eq_false]at o;simpa using o a Q
   refine⟨ac,fun t f=>?_,?_,fun h=>?_,by grind,fun t f=>?_⟩;·grind
   .show eo (T++[_])<+:_;rw[l6];by_cases v:fB e=true;·obtain⟨h1,h2⟩:=tD hm v;grind[eo,min,fB,we]
    grind[eo]
   .show _<+:eo (T++[_]);rw[l6];by_cases v:fB e=true;·grind[eo,min,fB,tD,we,List.prefix_refl]
    grind
   grind
  |false=>
   simp only[Bool.false_eq_true,if_false,o];refine⟨p,r,u,fun h=>?_,w,y⟩;grind[fB]
theorem DQ{c:Nat}{now:Int}{T0:List iB}(f:sK C)(j:eT L)(o:∀x∈L,fh C x)(p:c<=L.length):∀(M:List dj) (k:Nat) (b:ua×List iB×List iB),L.drop k=M->KW C L c k T0 b->KW C L c L.length T0 (iF (c:Int) now L.length k M b)
 |[],k,b,a,I=>by
  have q:L.length<=k:=List.drop_eq_nil_iff.1 a;obtain⟨t,u,v,w,y,z⟩:=I;refine⟨t,u,v,fun h=>?_,y,z⟩;have:=w h;rwa[Nat.min_eq_right (by omega)]at this⊢
 |e::M,k,b,a,I=>by
  have q:L[k]? =some e:=by have:=congrArg (fun l=>l[0]?) a;simpa using this
  have r:L.drop (k+1)=M:=by rw[<-List.drop_drop,a];rfl
  unfold iF;exact DQ f j o p M (k+1) _ r (Hl f j o p q I)
theorem wy:∀(l:List iB) (k:Nat),(∀t∈l,ec t.e=true)->k+l.length<=100000->∃r,dt nW l k=some r/\r<=k+l.length
 |[],k,_,_=>⟨k,rfl,Nat.le_refl _⟩
 |t::l,k,h,c=>by
  rw[List.length_cons]at c;have b:=h t (List.mem_cons_self ..)
  have:∃a,nW k t=some a/\a<=k+1:=by
   unfold nW;split
   .split;·grind
    .rw[b,if_pos (by simp;omega)];grind
   .grind
  obtain⟨a,h1,h2⟩:=this;obtain⟨r,h3,h4⟩:=wy l a (fun x f=>h x (List.mem_cons_of_mem _ f)) (by omega);grind[trans,eG,List.length_cons]
theorem Cf(q:sK C)(y:C.length<=60)(o:eT s.L)(u:∀x∈s.L,fh C x)(z:0<=s.cm/\s.cm<=(s.L.length:Int))(T:GM C s):∃l j,nV s=some {s with P:=lA s.P (s.L.take s.cm.toNat),T:=l,tm:=j}/\GM C {s with P:=lA s.P (s.L.take s.cm.toNat),T:=l,tm:=j}/\∃O,l=s.T++O:=by
 obtain⟨c,ki⟩:∃c:Nat,s.cm=(c:Int):=⟨s.cm.toNat,by omega⟩;have p:s.cm.toNat=c:=by omega
 have I:=DQ (C:=C) (L:=s.L) (c:=c) (now:=s.ck) (T0:=s.T) q o u (by omega) s.L 0 (⟨true,true,true,true⟩,s.T,[]) rfl ⟨T.pw,T.ct,by rw[<-p];exact T.firm,fun _=>by simp,by simp,fun t f=>by cases f⟩;have v:xF s=iF (c:Int) s.ck s.L.length 0 s.L (⟨true,true,true,true⟩,s.T,[]):=by unfold xF;rw[ki]
 rw[<-v]at I
 have E:(xF s).2.1.length<=60:=by
  have:=lZ ((xF s).2.1.map fun t=>pX t.e) (C.map pX) (List.pairwise_map.2 (I.pw.imp fun{a b} h e=>by rw[(fR _ _).2 e]at h;cases h)) (fun k w=>by
   obtain⟨t,f,rfl⟩:=List.mem_map.1 w
   exact qG (I.ct t f))
  rw[List.length_map,List.length_map]at this;omega
 have A:(xF s).2.1.length=s.T.length+(xF s).2.2.length:=by rw[I.ap,List.length_append]
 have F:=T.tm;obtain⟨r,h1,h2⟩:=wy (xF s).2.2 s.tm (fun t f=>o.may _ (I.mb t f)) (by omega);refine⟨(xF s).2.1,r,?_,⟨I.pw,I.ct,?_,?_⟩,_,I.ap⟩;·unfold nV;rw[if_pos (decide_eq_true (by omega)),h1];rfl
 .show _<+:(s.L.take s.cm.toNat).filter fB;rw[p];exact I.firm
 grind
end
section
variable{ns:List (dz×List dj)} {W:eW}
variable{n:Nat} {g Y Z:Gh} {i d X:Int} {dv:Int->Int} {B B' K:Int} {s s' u V:dp} {m:dz} {L C:List dj} {e:dj}
structure Kp (s s':dp):Prop where
 id:s'.id=s.id
 n:s'.n=s.n
 T:s'.T=s.T
 tm:s'.tm=s.tm
 P:s'.P=s.P
 sq:s'.sq=s.sq
 ck:s'.ck=s.ck
 cm:(s'.ls=s.ls/\s.cm<=s'.cm)\/(s.ls<s'.ls/\∃x,s'.cm=iz (ep s.cm x) (s'.L.length:Int))
theorem Kp.refl(s:dp):Kp s s:=⟨rfl,rfl,rfl,rfl,rfl,rfl,rfl,.inl ⟨rfl,Int.le_refl _⟩⟩
theorem gA(a b:Int):a<=ep a b:=by unfold ep;omega
theorem eY(h:pW s m=some s'):∃q,s.q=some q/\((s'=ji s m q/\(ji s m q).cm<(ji s m q).st)\/(¬(ji s m q).cm<(ji s m q).st/\∃r,dt ke s.ak (ji s m q,[])=some r/\s'={r.1 with ak:=r.2})):=by unfold pW at h;grind
theorem Hs.kp(h:Hs s m L s'):Kp s s':=by
 cases h with
 |join=>exact⟨rfl,rfl,rfl,rfl,rfl,rfl,rfl,.inl ⟨rfl,Int.le_refl _⟩⟩
 |deny=>exact⟨rfl,rfl,rfl,rfl,rfl,rfl,rfl,.inl ⟨rfl,Int.le_refl _⟩⟩
 |revote=>exact⟨rfl,rfl,rfl,rfl,rfl,rfl,rfl,.inl ⟨rfl,Int.le_refl _⟩⟩
 |denied=>exact⟨rfl,rfl,rfl,rfl,rfl,rfl,rfl,.inl ⟨rfl,Int.le_refl _⟩⟩
 |voted=>exact⟨rfl,rfl,rfl,rfl,rfl,rfl,rfl,.inl ⟨rfl,Int.le_refl _⟩⟩
 |took k h1 h2=>exact⟨rfl,rfl,rfl,rfl,rfl,rfl,rfl,.inr ⟨h2,m.cm,rfl⟩⟩
 |same=>exact⟨rfl,rfl,rfl,rfl,rfl,rfl,rfl,.inl ⟨rfl,Int.le_refl _⟩⟩
 |app=>exact⟨rfl,rfl,rfl,rfl,rfl,rfl,rfl,.inl ⟨rfl,gA _ _⟩⟩
 |fresh=>exact⟨rfl,rfl,rfl,rfl,rfl,rfl,rfl,.inl ⟨rfl,Int.le_refl _⟩⟩
 |has _ k h1 h2 h3 h4=>
  obtain⟨q,l,h|⟨j,r,hr,rfl⟩⟩:=eY h4;·rw[h.1];exact⟨rfl,rfl,rfl,rfl,rfl,rfl,rfl,.inl ⟨rfl,gA _ _⟩⟩
  .obtain⟨f,o,p,a,b,-⟩:=eH hr;rw[a,b];exact⟨rfl,rfl,rfl,rfl,rfl,rfl,rfl,.inl ⟨rfl,gA _ _⟩⟩
 |data _ k h1 h2 h3=>
  obtain⟨c,t,rfl⟩:=fs h3;exact⟨rfl,rfl,rfl,rfl,rfl,rfl,rfl,.inl ⟨rfl,Int.le_refl _⟩⟩
 |askd=>exact⟨rfl,rfl,rfl,rfl,rfl,rfl,rfl,.inl ⟨rfl,Int.le_refl _⟩⟩
 |none=>exact Kp.refl s
theorem Ts.kp(h:Ts s s')(b:∀w vs,s.v=some (w,vs)->s.ls<w):Kp s s':=by
 cases h with
 |inst vw vs h1 h2 h3=>exact⟨rfl,rfl,rfl,rfl,rfl,rfl,rfl,.inr ⟨b vw vs h1,(dH vs).cm,rfl⟩⟩
 |again=>exact⟨rfl,rfl,rfl,rfl,rfl,rfl,rfl,.inl ⟨rfl,Int.le_refl _⟩⟩
 |gath=>exact⟨rfl,rfl,rfl,rfl,rfl,rfl,rfl,.inl ⟨rfl,Int.le_refl _⟩⟩
 |silent u w h1 h2 h3 h4=>
  obtain⟨a,c,rfl⟩:=dI h4;exact⟨rfl,rfl,rfl,rfl,rfl,rfl,rfl,.inl ⟨rfl,Int.le_refl _⟩⟩
 |dec u q h1 h2 h3 h4=>
  obtain⟨a,c,rfl⟩:=dI h4;exact⟨rfl,rfl,rfl,rfl,rfl,rfl,rfl,.inl ⟨rfl,Int.le_refl _⟩⟩
 |late=>exact⟨rfl,rfl,rfl,rfl,rfl,rfl,rfl,.inl ⟨rfl,Int.le_refl _⟩⟩
 |ask=>exact⟨rfl,rfl,rfl,rfl,rfl,rfl,rfl,.inl ⟨rfl,Int.le_refl _⟩⟩
 |idle=>exact Kp.refl s
theorem Bb(j:3<=n/\n<=5)(G:iH n g dv){b:Gh}{f:Int->Int}(k:i8 n s.id d g b)(N:fU n g dv s)(c:iH n b f)(a:fU n b f s')(h:Kp s s'):s.L.take s.cm.toNat<+:s'.L.take s'.cm.toNat:=by
 have F:=N.cm.mono k;have o:=a.cm
 have r:s.cm<=s'.cm:=by
  rcases h.cm with⟨h1,h2⟩|⟨h1,x,h2⟩;·exact h2
  .have t:=N.ls;have l:s'.ls≠0:=by omega
   obtain⟨vs,q,y⟩:=a.mb l;have F2:=F.later j c h1 (by rw[q];rfl) (a.pre l).1;have:=F2.2.1;rw[h2];have:=gA s.cm x;unfold iz;omega
 obtain⟨a1,a2,a3⟩:=F;obtain⟨b1,b2,b3⟩:=o;rcases a3 with a3|⟨v,a4,a5⟩;·grind
 .rcases b3 with b3|⟨w,b4,p⟩;·grind
  .rcases vr j c.gh a5 p with h1|h1;·exact h1
   .have h2:=h1.length_le;rw[List.length_take,List.length_take]at h2;have h3:s.L.take s.cm.toNat=s'.L.take s'.cm.toNat:=(h1.eq_of_length (by grind)).symm;grind
theorem GM.grow(T:GM C s)(h:Kp s s')(a:s.L.take s.cm.toNat<+:s'.L.take s'.cm.toNat):GM C s':=
 ⟨by rw[h.T];exact T.pw,by rw[h.T];exact T.ct,by rw[h.T];exact T.firm.trans (a.filter _),by rw[h.T,h.tm];exact T.tm⟩
def dM(W:eW)(i:Int):dp:=match W.sl[i.toNat-1]? with
 |some (.up s)=>s
 |_=>uG 1 3 1 0
def lh(n:Nat)(W:eW):Int->Int:=fun j=>if 1<=j/\j<=n then(dM W j).dv else 0
structure GW (n:Nat) (g:Gh) (C:List dj) (B K:Int) (W:eW):Prop where
 nn:W.n=n
 up:∀i:Int,1<=i->i<=n->W.sl[i.toNat-1]? =some (.up (dM W i))
 ok:iH n g (lh n W)
 cs:g.cs=C
 ku:sK C
 nd:∀i:Int,1<=i->i<=n->fU n g (lh n W) (dM W i)
 id:∀i:Int,1<=i->i<=n->(dM W i).id=i
 nb:∀i:Int,1<=i->i<=n->jY B K (dM W i)
 td:∀i:Int,1<=i->i<=n->GM C (dM W i)
 out:∀i:Int,1<=i->i<=n->(dM W i).out=[]
 ms:∀x∈W.ns,kh n g (lh n W) x
 b0:0<=B
def fW(W:eW)(i:Int)(s:dp)(ns:List (dz×List dj)):eW:={W with sl:=W.sl.set (i.toNat-1) (.up s),ns:=ns}
theorem eN{j:Int}(a:1<=i)(b:1<=j)(c:W.sl[i.toNat-1]?.isSome=true):dM (fW W i s ns) j=if j=i then s else dM W j:=by grind[dM,fW]
theorem GW.dvB(H:GW n g C B K W)(j:Int):lh n W j<=B:=by
 unfold lh;split;·rename_i h;exact(H.nb j h.1 h.2).dv
 .exact H.b0
theorem qb(b:1<=i/\i<=n)(c:W.sl[i.toNat-1]?.isSome=true):lh n (fW W i s ns)=gL (lh n W) i s.dv:=by
 funext j;unfold lh gL;by_cases a:1<=j/\j<=n;·rw[if_pos a,eN b.1 a.1 c];grind
 grind
def Sd(s s':dp):Prop:=∃T a O,T=s.T++O/\s'={s with P:=lA s.P (s.L.take s.cm.toNat),T:=T,tm:=a,out:=[]}
theorem GW.did(hn:3<=n/\n<=5)(H:GW n g C B K W)(c:1<=i/\i<=n){o:dp}{K':Int}(hB:B<=B')(hK:K<=K')(am:K'<=300)(D:fG n g (lh n W) B' K' o u)(e1:o.id=i)(e2:o.out=[])(N:fU n g (lh n W) o)(T0:GM C o)(G:Kp o u):∃V q,un u=some (u.out,V)/\Sd u V/\i8 n i (lh n W i) g q/\∀ns,(∀x∈ns,x∈W.ns\/x∈u.out)->GW n q C B' K' (fW W i V ns):=by
 obtain⟨⟨q,k,p,f,M⟩,h1,h0,h2,au,h4,h5⟩:=D;have hp:=Bb hn H.ok k N p f G;have Q:=T0.grow G hp;have v:q.cs=C:=by rw[k.ce];exact H.cs
 have al:C.length<=60:=by rw[<-v];exact p.cs
 have ap:∀x∈u.L,fh C x:=fun x t=>by
  by_cases J:u.ls=0;·rw[f.zero J]at t;cases t
  .rw[<-v];exact p.gc _ x ((f.pre J).2.subset t)
 obtain⟨A,z,a1,a2,O,a3⟩:=Cf H.ku al (f.logOk p) ap ⟨f.cm.1,f.cm.2.1⟩ Q;obtain⟨V,r⟩:∃V:dp,V={u with P:=lA u.P (u.L.take u.cm.toNat),T:=A,tm:=z,out:=[]}:=⟨_,rfl⟩;have ar:=H.up i c.1 c.2;have l:W.sl[i.toNat-1]?.isSome=true:=by rw[ar];rfl
 refine⟨V,q,?_,⟨A,z,O,a3,r⟩,by grind,fun ns aq=>?_⟩;·unfold un;grind
 have an:V.dv=u.dv:=by rw[r]
 have F:lh n (fW W i V ns)=gL (lh n W) i u.dv:=by rw[qb c l,an]
 rw[e1]at p f M h0 k;have I:∀j,lh n W j<=gL (lh n W) i u.dv j:=j8 (by omega);refine⟨H.nn,fun j a b=>?_,by grind,v,H.ku,fun j a b=>?_,fun j a b=>?_,fun j a b=>?_,fun j a b=>?_,fun j a b=>?_,fun x t=>?_,by have:=H.b0;omega⟩
 .rw[eN c.1 a l];by_cases h:j=i;·grind[fW]
  .rw[if_neg h];unfold fW;simp only;rw[List.getElem?_set_ne (by omega)];exact H.up j a b
 .rw[F,eN c.1 a l];by_cases h:j=i;·rw[if_pos h,r];obtain⟨b1,b2,b3,b4,b5,b6,b7,b8,b9,R,S,U,aa,ab,ac,ad,ae,af,ag⟩:=f;exact⟨b1,b2,b3,b4,b5,b6,b7,b8,b9,R,S,U,aa,ab,ac,ad,ae,af,fun y w=>ag y (List.mem_filter.1 w).1⟩
  .rw[if_neg h];have ao:=H.id j a b;exact(H.nd j a b).mono k I (by omega) (by rw[ao];unfold gL;rw[if_neg h])
 .rw[eN c.1 a l];by_cases h:j=i;·grind
  .rw[if_neg h];exact H.id j a b
 .rw[eN c.1 a l];by_cases h:j=i;·rw[if_pos h,r];obtain⟨c1,c2,c3,c4,c5,c6,c7,c8,c9,ah,ai,aj,E,ak⟩:=au;exact⟨c1,c2,c3,c4,c5,c6,c7,c8,c9,ah,ai,aj,⟨Nat.le_trans (List.length_filter_le _ _) E.1,fun y w=>E.2 y (List.mem_filter.1 w).1⟩,ak⟩
  .rw[if_neg h];exact(H.nb j a b).up hB hK am
 .rw[eN c.1 a l];by_cases h:j=i;·rw[if_pos h,r];obtain⟨t1,t2,t3,t4⟩:=a2;exact⟨t1,t2,t3,t4⟩
  .rw[if_neg h];exact H.td j a b
 .rw[eN c.1 a l];by_cases h:j=i;·grind
  .rw[if_neg h];exact H.out j a b
 .rw[F];rcases aq x t with h|h;·exact(H.ms x h).mono k I
  grind
end
end Go.Proofs.YtjhbmbbmjaabcaaGreat
