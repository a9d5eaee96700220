/-
  Contracts. Conditions stand at each.
-/
import Derived.Test.YtjhbmbbmjaabcaaGreatS27
import Derived.Test.YtjhbmbbmjaabcaaGreatS30
import Derived.Test.YtjhbmbbmjaabcaaGreatS32
set_option linter.all false
set_option maxRecDepth 8000
set_option maxHeartbeats 8000000
namespace Go.Proofs.YtjhbmbbmjaabcaaGreat
open Go Go.Sort Go.RowKit
section
variable{x:dz×List dj} {k:Nat}
variable{n:Nat} {g V Y:Gh} {i d N:Int} {dv:Int->Int} {B B' K:Int} {s s' u G:dp} {m:dz} {L C:List dj} {e:dj} {W:eW}
theorem mp:∀(ms ns:List (dz×List dj)) (x:dz×List dj),x∈fd ns ms->x∈ns\/x∈ms
 |[],ns,x,h=> .inl h
 |y::ms,ns,x,h=>by
  have a:x∈fd (if uE y.1 y.2&&decide (ns.length<400)then ns++[y]else ns) ms:=h;rcases mp ms _ x a with h1|h1;·grind
  grind
def eg(s:dp)(x:dz×List dj):dp:={s with bs:=s.bs.set x.1.fr.toNat x.1.bt}
def ei(s:dp):dp:={s with ck:=s.ck+1}
theorem GW.sub(H:GW n g C B K W){ns:List (dz×List dj)}(h:∀x∈ns,x∈W.ns):GW n g C B K {W with ns:=ns}:=
 ⟨H.nn,H.up,H.ok,H.cs,H.ku,H.nd,H.id,H.nb,H.td,H.out,fun x a=>H.ms x (h x a),H.b0⟩
theorem Dk(z:jY B K s)(D:s.ck+1<=K):jY B K (ei s)/\(s.ak.length:Int)+1<=64+(s.ck+1):=by obtain⟨c,o,p,r,t,v,a,w,y,f,A,h,j,l⟩:=z;refine⟨⟨c,o,⟨by show 0<=s.ck+1;omega,by show s.ck+1<=K;omega,p.2.2⟩,⟨r.1,by show s.hd<=s.ck+1;omega⟩,t,v,fun q b=>⟨(a q b).1,by have:=(a q b).2;show q.2<=s.ck+1;omega⟩,⟨w.1,by show s.f.bc<=s.ck+1;omega⟩,y,fun i=>by have:=f i;show s.er.at i<=s.ck+1;omega,by show(s.ak.length:Int)<=64+(s.ck+1);omega,h,j,l⟩,by omega⟩
theorem Sd.idn(h:Sd s s'):s'.id=s.id/\s'.n=s.n:=by obtain⟨T,a,O,-,rfl⟩:=h;grind
theorem Ga(j:3<=n/\n<=5)(H:GW n g C B K W)(a:1<=i/\i<=n)(q:B<=900000)(r:(dM W i).ck+1<=K):∃u G b,Ts (ei (dM W i)) u/\Sd u G/\r' i.toNat W=some (fW W i G (fd W.ns u.out))/\i8 n i (lh n W i) g b/\GW n b C (B+10) K (fW W i G (fd W.ns u.out))/\∀x∈u.out,kh n b (lh n (fW W i G (fd W.ns u.out))) x:=by
 have z:=H.up i a.1 a.2;have v:=H.id i a.1 a.2;have l:=H.out i a.1 a.2;obtain⟨o,t⟩:=Dk (H.nb i a.1 a.2) r;have f:fU n g (lh n W) (ei (dM W i)):=(H.nd i a.1 a.2).same rfl rfl rfl rfl rfl rfl rfl rfl rfl rfl rfl rfl;have y:(dM W i).kn=true:=f.kn;obtain⟨u,h1,h2,D⟩:=Ih j H.ok f o q l t;have h:=h2.kp (fun w vs E=>(f.v w vs E).2.2.1);obtain⟨F,I,J,M⟩:=H.td i a.1 a.2;obtain⟨G,b,a1,a2,a3,a4⟩:=H.did j a (B':=B+10) (K':=K) (by omega) (by omega) o.ck.2.2 D v l f ⟨F,I,J,M⟩ h;have A:=a4 (fd W.ns u.out) (fun x c=>mp _ _ x c);refine⟨u,G,b,h2,a2,?_,a3,A,fun x c=>?_⟩
 .unfold r';rw[z];simp only;have O:=(H.nb i a.1 a.2).ck;have:pK (dM W i)=some (u.out,G):=by unfold pK;rw[if_pos (decide_eq_true (by omega)),if_pos y];show(vS (ei (dM W i))).bind un=_;rw[h1];exact a1
  rw[this];simp only;unfold oU;have e:=a2.idn;rw[if_pos (decide_eq_true ⟨e.1.trans h.id,e.2.trans h.n⟩)];rfl
 .have p:=a4 (W.ns++u.out) (fun x c=>List.mem_append.1 c);have:=p.ms x (List.mem_append_right _ c);grind[qb]
theorem GW.to(H:GW n g C B K W)(a:x∈W.ns):1<=x.1.to/\x.1.to<=n/\1<=x.1.fr/\x.1.fr<=n/\x.1.fr≠x.1.to:=by obtain⟨b,c,f,h,j,l⟩:=(H.ms x a).ids;omega
theorem zz(q:3<=n/\n<=5)(H:GW n g C B K W)(X:kh n g (lh n W) x)(hB:B<=900000):∃u G b,Hs (eg (dM W x.1.to) x) x.1 x.2 u/\Sd u G/\nJ (dM W x.1.to) (nI (dM W x.1.to) x)=some (u.out,G)/\Kp (eg (dM W x.1.to) x) u/\i8 n x.1.to (lh n W x.1.to) g b/\∀t,(∀y∈t,y∈W.ns\/y∈u.out)->GW n b C B K (fW W x.1.to G t):=by
 obtain⟨f1,f2,S,T,f5,U⟩:=X.ids;obtain⟨i,c⟩:∃i,i=x.1.to:=⟨_,rfl⟩;have a:1<=i/\i<=n:=by rw[c];exact⟨S,T⟩
 rw[<-c];have ad:=H.up i a.1 a.2;have l:=H.id i a.1 a.2;have r:=H.out i a.1 a.2;have o:=H.nb i a.1 a.2;have Z:=X.kd;have ab:=X.bt;have f:fU n g (lh n W) (eg (dM W i) x):=(H.nd i a.1 a.2).same rfl rfl rfl rfl rfl rfl rfl rfl rfl rfl rfl rfl;have ac:(dM W i).kn=true:=f.kn
 have nb:jY B K (eg (dM W i) x):=by
  obtain⟨v,F,I,J,M,O,P,Q,R,w,z,A,E,aa⟩:=o;refine⟨v,F,I,J,M,O,P,Q,R,w,z,A,E,fun j=>?_⟩;rcases E8.at_set (dM W i).bs (k:=x.1.fr.toNat) x.1.bt j with h|⟨-,h⟩;·exact(by show((dM W i).bs.set x.1.fr.toNat x.1.bt).at j<=1;grind)
  .exact(by show((dM W i).bs.set x.1.fr.toNat x.1.bt).at j<=1;omega)
 obtain⟨u,h1,D⟩:=Bi (m:=x.1) (L:=x.2) q H.ok f nb (by omega) r X (by show x.1.to=(dM W i).id;rw[l,c]) H.dvB;have h2:=DW ⟨U,Z⟩ h1;have p:=h2.kp;obtain⟨t1,t2,t3,t4⟩:=H.td i a.1 a.2;obtain⟨G,b,a1,a2,a3,a4⟩:=H.did q a (B':=B) (K':=K) (by omega) (by omega) o.ck.2.2 D l r f ⟨t1,t2,t3,t4⟩ p;refine⟨u,G,b,h2,a2,?_,p,a3,a4⟩;have e1:nI (dM W i) x=.inl x:=by unfold nI;rw[if_pos (by rw[l,c]),if_neg (by have:=o.bs x.1.fr.toNat;omega)]
 grind[nJ,kT,eg,dM,bind,un]
theorem Es(p:3<=n/\n<=5)(H:GW n g C B K W)(b:W.ns[k]? =some x)(o:B<=900000):∃u G a,Hs (eg (dM W x.1.to) x) x.1 x.2 u/\Sd u G/\j6 false k W=some (fW W x.1.to G (fd (W.ns.eraseIdx k) u.out))/\i8 n x.1.to (lh n W x.1.to) g a/\GW n a C B K (fW W x.1.to G (fd (W.ns.eraseIdx k) u.out))/\∀y∈u.out,kh n a (lh n (fW W x.1.to G (fd (W.ns.eraseIdx k) u.out))) y:=by
 have h:x∈W.ns:=List.mem_of_getElem? b;have X:=H.ms x h;obtain⟨c,f,r,t,v⟩:=H.to h;obtain⟨u,G,a,h1,h2,h3,h4,h5,h6⟩:=zz p H X o;have q:=H.up x.1.to c f;refine⟨u,G,a,h1,h2,?_,h5,h6 _ (fun y j=>?_),fun y j=>?_⟩;·unfold j6;rw[b];simp only[Bool.false_eq_true,if_false];rw[if_pos (decide_eq_true ⟨c,by rw[H.nn];exact f⟩),q];simp only;rw[h3];simp only;unfold oU;have e:=h2.idn;rw[if_pos (decide_eq_true ⟨e.1.trans h4.id,e.2.trans h4.n⟩)];rfl
 .grind[mp,List.mem_of_mem_eraseIdx]
 .have l:=h6 (W.ns++u.out) (fun x b=>List.mem_append.1 b);have:=l.ms y (List.mem_append_right _ j);grind[qb]
theorem Eq(l:3<=n/\n<=5)(H:GW n g C B K W)(f:W.ns[k]? =some x)(j:B<=900000):∃u G a,Hs (eg (dM W x.1.to) x) x.1 x.2 u/\Sd u G/\tC k W=some (fW W x.1.to G (fd W.ns u.out))/\GW n a C B K (fW W x.1.to G (fd W.ns u.out))/\i8 n x.1.to (lh n W x.1.to) g a:=by have h:x∈W.ns:=List.mem_of_getElem? f;have X:=H.ms x h;obtain⟨b,c,q,r,t⟩:=H.to h;obtain⟨u,G,a,h1,h2,h3,h4,h5,h6⟩:=zz l H X j;have o:=H.up x.1.to b c;refine⟨u,G,a,h1,h2,?_,h6 _ (fun y p=>mp _ _ y p),h5⟩;unfold tC;rw[f];simp only;rw[if_pos (decide_eq_true ⟨b,by rw[H.nn];exact c⟩),o];simp only;rw[h3];simp only;unfold oU;have e:=h2.idn;rw[if_pos (decide_eq_true ⟨e.1.trans h4.id,e.2.trans h4.n⟩)];rfl
theorem Er(H:GW n g C B K W)(b:W.ns[k]? =some x):j6 true k W=some {W with ns:=W.ns.eraseIdx k}/\GW n g C B K {W with ns:=W.ns.eraseIdx k}:=by refine⟨?_,H.sub fun y a=>List.mem_of_mem_eraseIdx a⟩;unfold j6;grind
end
section
variable{k:Nat} {x:E8}
variable{n:Nat} {g D G:Gh} {i d u:Int} {dv:Int->Int} {B B' K R:Int} {s s' N O:dp} {m:dz} {L C:List dj} {e:dj} {W:eW} {A A':dU}
def yz(x:E8):Int:=x.e0+x.e1+x.e2+x.e3+x.e4+x.e5+x.e6+x.e7
theorem FU(a:k<8)(v:Int):yz (x.set k v)=yz x-x.at k+v:=by rcases tB a with rfl|rfl|rfl|rfl|rfl|rfl|rfl|rfl<;>grind[yz,E8.set,E8.at]
theorem E8.set_self(a:k<8):x.set k (x.at k)=x:=by rcases tB a with rfl|rfl|rfl|rfl|rfl|rfl|rfl|rfl<;>rfl
theorem E8.set_set(a:k<8)(v w:Int):(x.set k v).set k w=x.set k w:=by rcases tB a with rfl|rfl|rfl|rfl|rfl|rfl|rfl|rfl<;>rfl
theorem tT{α:Type}{l:List α}{j:Nat}{f:α}(h:l[j]? =some f):l.set j f=l:=by grind[List.getElem?_eq_some_iff,List.set_getElem_self]
theorem zJ{k j:Nat}(c:k<8):∀(l:List iB) (A:dU) (f:List dj),A.nw.at k=(j:Int)->j<1000->A.fm[j]? =some f->f.length+l.length<=900->A.sn+l.length<=90000->∃a,dt (mJ k) l A=some {A with sn:=a,fm:=A.fm.set j (f++eo l),td:=A.td.set k (A.td.at k+(l.length:Int))}/\a<=A.sn+l.length
 |[],A,f,h1,h2,h3,h4,h5=>by
  refine⟨A.sn,?_,Nat.le_refl _⟩;have h:f++eo []=f:=by unfold eo;simp
  have p:A.td.at k+(([]:List iB).length:Int)=A.td.at k:=by simp
  rw[h,p,tT h3,E8.set_self c];rfl
 |t::l,A,f,h1,h2,h3,h4,h5=>by
  rw[List.length_cons]at h4 h5;have w:eo (t::l)=eo [t]++eo l:=l6 [t] l
  have v:∃b,rq A t.e=some {A with sn:=b}/\b<=A.sn+1:=by
   unfold rq;split;·rw[if_pos (decide_eq_true (by omega))];grind
   .grind
  obtain⟨b,k1,k2⟩:=v
  have r:pB k {A with sn:=b} t.e=some {A with sn:=b,fm:=A.fm.set j (f++eo [t])}:=by
   unfold pB;by_cases o:fB t.e=true;·grind[eo,fB]
   .have h:eo [t]=[]:=by unfold eo;simp[o]
    unfold fB at o;rw[if_neg o,h,List.append_nil,tT h3]
  have q:mJ k A t=some {A with sn:=b,fm:=A.fm.set j (f++eo [t]),td:=A.td.set k (A.td.at k+1)}:=by unfold mJ;rw[k1];simp only;rw[r]
  rw[eG q];have y:j<A.fm.length:=(List.getElem?_eq_some_iff.1 h3).1;have I:(eo [t]).length<=1:=by unfold eo;exact Nat.le_trans (List.length_filter_le _ _) (by simp)
  obtain⟨E,z,J⟩:=zJ c l {A with sn:=b,fm:=A.fm.set j (f++eo [t]),td:=A.td.set k (A.td.at k+1)} (f++eo [t]) h1 h2 (List.getElem?_set_self y) (by grind) (by grind);refine⟨E,z.trans ?_,by grind⟩;have F:(A.fm.set j (f++eo [t])).set j (f++eo [t]++eo l)=A.fm.set j (f++eo (t::l)):=by rw[List.set_set,w,List.append_assoc]
  have H:(A.td.set k (A.td.at k+1)).set k ((A.td.set k (A.td.at k+1)).at k+(l.length:Int))=A.td.set k (A.td.at k+((t::l).length:Int)):=by rw[E8.set_set c,E8.set_at _ c,if_pos rfl,List.length_cons];congr 1;omega
  grind
structure LG (n:Nat) (g:Gh) (B K R:Int) (A:dU):Prop where
 nn:A.n=n
 w:GW n g A.cs B K A.W
 sq:∀i:Int,1<=i->i<=n->gO A i.toNat 1 A.cs.length=(dM A.W i).sq
 fl:A.fm.length=n
 td:∀i:Int,1<=i->i<=n->A.nw.at i.toNat=i-1/\0<=A.td.at i.toNat/\A.td.at i.toNat<=((dM A.W i).T.length:Int)/\A.fm[i.toNat-1]? =some (eo ((dM A.W i).T.take (A.td.at i.toNat).toNat))
 t0:∀k:Nat,k=0\/n<k->A.td.at k=0
 sn:(A.sn:Int)<=yz A.td
 vs:∀x∈A.vs,∃us,g.vt x.1=some us/\x.2.1=dr us
 vp:A.vs.Pairwise fun a b=>a.1≠b.1
 rl:0<=A.W.rl/\A.W.rl<=R
 bv:A.bo=E8.all 0/\A.vi=E8.all 0
 ck:∀c∈A.cs,c.bt=1/\1<=c.fr/\c.fr<=n/\1<=c.sq/\c.sq<=(dM A.W c.fr).sq
theorem GM.len(h:GM C s)(j:C.length<=60):s.T.length<=60:=by
 have:=lZ (s.T.map fun t=>pX t.e) (C.map pX) (List.pairwise_map.2 (h.pw.imp fun{a b} h e=>by rw[(fR _ _).2 e]at h;cases h)) (fun k c=>by
  obtain⟨t,f,rfl⟩:=List.mem_map.1 c
  exact qG (h.ct t f))
 grind
theorem GW.c60(H:GW n g C B K W):C.length<=60:=by rw[<-H.cs];exact H.ok.cs
theorem LG.tlen(H:LG n g B K R A)(h1:1<=i)(h2:i<=n):(dM A.W i).T.length<=60:=(H.w.td i h1 h2).len H.w.c60
theorem LG.sn300(f:3<=n/\n<=5)(H:LG n g B K R A):A.sn<=420:=by
 have h:∀k:Nat,A.td.at k<=60:=fun k=>by
  by_cases a:k=0\/n<k;·rw[H.t0 k a];omega
  .have h1:=H.td (k:Int) (by omega) (by omega);have h2:=H.tlen (i:=(k:Int)) (by omega) (by omega);grind
 have b:A.td.e0=0:=H.t0 0 (.inl rfl);have h1:A.td.e1<=60:=h 1;have h2:A.td.e2<=60:=h 2;have h3:A.td.e3<=60:=h 3;have h4:A.td.e4<=60:=h 4;have h5:A.td.e5<=60:=h 5;have h6:A.td.e6<=60:=h 6;have c:A.td.e7<=60:=h 7;have:=H.sn;unfold yz at this;omega
theorem LG.vlen(H:LG n g B K R A)(a:3<=n/\n<=5)(f:B<=90000):A.vs.length<=90001:=by
 have h:=lZ (A.vs.map (·.1)) ((List.range 90001).map fun k:Nat=>(k:Int)) (List.pairwise_map.2 H.vp) (fun v b=>by
  obtain⟨x,c,rfl⟩:=List.mem_map.1 b;obtain⟨us,h1,h2⟩:=H.vs x c;have h3:=H.w.ok.gh.pos _ _ h1;obtain⟨y,l,rfl⟩:=List.exists_cons_of_ne_nil (qn a (H.w.ok.gh.maj _ _ h1));have h4:=((H.w.ok.vs _ _ h1).ok y (List.mem_cons_self ..)).2.2.1;have h5:=H.w.dvB y.fr;rw[List.mem_map]
  exact⟨x.1.toNat,List.mem_range.2 (by omega),by omega⟩)
 grind
theorem kM{A A':dU}(h:A'.cs=A.cs){i:Nat}{bt:Int}:∀k:Nat,gO A' i bt k=gO A i bt k
 |0=>rfl
 |k+1=>by
  unfold gO;rw[kM h k,h]
theorem Km(J:3<=n/\n<=5)(V:B<=90000)(H:LG n g B K R A)(hk:1<=k/\k<=n):∃A',rV A k=some A'/\LG n g B K R A'/\A'.W=A.W/\A'.cs=A.cs:=by
 have w:=H.w.up (k:Int) (by omega) (by omega);rw[Int.toNat_natCast]at w;obtain⟨P,Q,z,q⟩:=H.td (k:Int) (by omega) (by omega);rw[Int.toNat_natCast]at P Q z q;have X:=H.tlen (i:=(k:Int)) (by omega) (by omega);have ag:=H.sn300 J;have E:=H.w.nd (k:Int) (by omega) (by omega);have aj:=H.vlen J V;obtain⟨s,M⟩:∃s,s=dM A.W (k:Int):=⟨_,rfl⟩;rw[<-M]at w z q X E;obtain⟨t,ht⟩:∃t:Nat,A.td.at k=(t:Int):=⟨(A.td.at k).toNat,by omega⟩;have Hn:(A.td.at k).toNat=t:=by omega
 rw[Hn]at q;have ah:t<=s.T.length:=by omega
 have ae:(eo (s.T.take t)).length<=s.T.length:=Nat.le_trans (List.length_filter_le _ _) (by grind);have ad:(s.T.drop t).length=s.T.length-t:=List.length_drop;obtain⟨y,k1,k2⟩:=zJ (k:=k) (j:=k-1) (by omega) (s.T.drop t) A _ (by omega) (by omega) q (by omega) (by omega);have S:eo (s.T.take t)++eo (s.T.drop t)=eo s.T:=by rw[<-l6,List.take_append_drop]
 have U:A.td.at k+((s.T.drop t).length:Int)=(s.T.length:Int):=by omega
 rw[S,U]at k1;obtain⟨f,l⟩:∃f:dU,f={A with sn:=y,fm:=A.fm.set (k-1) (eo s.T),td:=A.td.set k (s.T.length:Int)}:=⟨_,rfl⟩;rw[<-l]at k1;have ab:k-1<A.fm.length:=(List.getElem?_eq_some_iff.1 q).1
 have c:LG n g B K R f:=by
  subst l;refine⟨H.nn,H.w,fun i o p=>(kM (A:=A) (by rfl) _).trans (H.sq i o p),by show(A.fm.set _ _).length=n;rw[List.length_set];exact H.fl,fun i o p=>?_,fun j hj=>?_,?_,H.vs,H.vp,H.rl,H.bv,H.ck⟩
  .obtain⟨u1,u2,u3,u4⟩:=H.td i o p;show A.nw.at i.toNat=i-1/\0<=(A.td.set k (s.T.length:Int)).at i.toNat/\(A.td.set k (s.T.length:Int)).at i.toNat<=((dM A.W i).T.length:Int)/\(A.fm.set (k-1) (eo s.T))[i.toNat-1]? =some (eo ((dM A.W i).T.take ((A.td.set k (s.T.length:Int)).at i.toNat).toNat));rw[E8.set_at _ (by omega)];by_cases h:i=(k:Int);·subst h;rw[Int.toNat_natCast,if_pos rfl,<-M];exact⟨P,by omega,Int.le_refl _,by rw[List.getElem?_set_self ab,Int.toNat_natCast,List.take_length]⟩
   .rw[if_neg (by omega)];grind[List.getElem?_set_ne]
  .show(A.td.set k _).at j=0;rw[E8.set_at _ (by omega),if_neg (by omega)];exact H.t0 j hj
  .show(y:Int)<=yz (A.td.set k _);rw[FU (by omega)];have:=H.sn;omega
 unfold rV;rw[w];simp only;rw[if_pos (decide_eq_true ⟨Q,z⟩),Hn,k1];simp only;have Y:f.W=A.W:=by rw[l]
 have aa:f.cs=A.cs:=by rw[l]
 have ai:f.vs=A.vs:=by rw[l]
 unfold vQ;by_cases v:eC s=true
 .rw[if_pos v];by_cases ac:wu f s=true;·grind
  .rw[if_neg ac,if_pos (decide_eq_true (by grind))];refine⟨_,rfl,?_,Y,aa⟩;have af:1<=s.ls:=by unfold eC at v;simp only[Bool.and_eq_true,decide_eq_true_eq]at v;omega
   obtain⟨us,v1,v2⟩:=E.mb (by omega);refine⟨c.nn,c.w,fun i o p=>(kM (A:=f) (by rfl) _).trans (c.sq i o p),c.fl,c.td,c.t0,c.sn,fun x r=>?_,?_,c.rl,c.bv,c.ck⟩
   .rcases List.mem_append.1 r with r|r;·exact c.vs x r
    grind
   .show(f.vs++[_]).Pairwise _;rw[List.pairwise_append];refine⟨c.vp,List.pairwise_singleton _ _,fun a Z b I F=>?_⟩;rw[List.mem_singleton]at I;subst I;have F:a.1=s.ls:=F;obtain⟨ak,w1,w2⟩:=c.vs a Z;grind[wu]
 grind
theorem jJ(h:3<=n/\n<=5)(f:B<=90000)(H:LG n g B K R A):∃A',gE A=some A'/\LG n g B K R A'/\A'.W=A.W/\A'.cs=A.cs:=by
 have o:∀(c a:Nat) (A:dU),1<=a->a+c=n+1->LG n g B K R A->∃A',dt rV (List.range' a c) A=some A'/\LG n g B K R A'/\A'.W=A.W/\A'.cs=A.cs:=by
  intro c
  induction c with
  |zero=>intro a A h1 h2 H;exact⟨A,rfl,H,rfl,rfl⟩
  |succ c j=>
   intro a A h1 h2 H;obtain⟨b,k1,k2,k3,k4⟩:=Km h f H (k:=a) ⟨h1,by omega⟩;obtain⟨l,p,q,r,t⟩:=j (a+1) b (by omega) (by omega) k2;grind[trans,List.range'_succ,eG]
 unfold gE;rw[H.nn];grind
end
section
variable{x:dz×List dj} {ns:List (dz×List dj)} {da:ByteArray} {k:Nat}
variable{n:Nat} {g G Y Z:Gh} {i d X:Int} {dv:Int->Int} {B B' K K' R:Int} {s s' D u:dp} {m:dz} {L C:List dj} {e:dj} {W:eW} {A A':dU}
theorem LG.put(H:LG n g B K R A)(b:1<=i/\i<=n)(h:GW n G A.cs B' K' (fW A.W i u ns))(k:i8 n i d g G)(y:∃O,u.T=(dM A.W i).T++O)(z:u.sq=(dM A.W i).sq):LG n G B' K' R {A with W:=fW A.W i u ns}:=by
 have o:A.W.sl[i.toNat-1]?.isSome=true:=by rw[H.w.up i b.1 b.2];rfl
 have E:∀j,1<=j->(dM (fW A.W i u ns) j).sq=(dM A.W j).sq:=fun j a=>by rw[eN b.1 a o];grind
 refine⟨H.nn,h,fun j a f=>?_,H.fl,fun j a f=>?_,H.t0,H.sn,fun x p=>?_,H.vp,H.rl,H.bv,fun c l=>?_⟩;·rw[kM (A:=A) (by rfl)];grind[dM,fW,sq]
 .obtain⟨F,I,J,M⟩:=H.td j a f;grind[dM,fW,eo]
 .obtain⟨us,h1,h2⟩:=H.vs x p;exact⟨us,k.vt _ _ h1,h2⟩
 .obtain⟨q,r,t,v,w⟩:=H.ck c l;grind
theorem LG.net(H:LG n g B K R A)(h:∀x∈ns,x∈A.W.ns):LG n g B K R {A with W:={A.W with ns:=ns}}:=
 ⟨H.nn,H.w.sub h,fun i a b=>(kM (A:=A) (by rfl) _).trans (H.sq i a b),H.fl,H.td,H.t0,H.sn,H.vs,H.vp,H.rl,H.bv,H.ck⟩
theorem Sd.tq(h:Sd D u)(k:Kp s D):(∃O,u.T=s.T++O)/\u.sq=s.sq:=by obtain⟨T,a,O,h1,rfl⟩:=h;exact⟨⟨O,by show T=_;rw[h1,k.T]⟩,k.sq⟩
theorem lV{V:eW}(h:V.n=A.n):og A (some V)=some {A with W:=V}:=by grind[og]
theorem wB(b:3<=n/\n<=5)(H:LG n g B K R A)(a:1<=i/\i<=n)(q:B<=80000)(f:(dM A.W i).ck+1<=K):∃D u G A',pI i.toNat A=some A'/\Ts (ei (dM A.W i)) D/\Sd D u/\A'.W=fW A.W i u (fd A.W.ns D.out)/\LG n G (B+10) K R A'/\i8 n i (lh n A.W i) g G/\A'.cs=A.cs/\∀x∈D.out,kh n G (lh n A'.W) x:=by obtain⟨D,u,G,h1,h2,h3,h4,h5,h6⟩:=Ga b H.w a (by omega) f;have o:=H.w.nd i a.1 a.2;have j:=h1.kp (fun w vs p=>(o.v w vs p).2.2.1);obtain⟨h,l⟩:=h2.tq j;have c:=H.put a h5 h4 h l;obtain⟨A',k1,k2,k3,k4⟩:=jJ b (by omega) c;refine⟨D,u,G,A',?_,h1,h2,k3,k2,h4,k4,by grind⟩;unfold pI;rw[h3,lV (by show A.W.n=A.n;rw[H.nn,H.w.nn])];exact k1
theorem wA(a:3<=n/\n<=5)(H:LG n g B K R A)(b:A.W.ns[k]? =some x)(o:B<=80000):∃D u G A',ln false k A=some A'/\Hs (eg (dM A.W x.1.to) x) x.1 x.2 D/\Sd D u/\A'.W=fW A.W x.1.to u (fd (A.W.ns.eraseIdx k) D.out)/\LG n G B K R A'/\i8 n x.1.to (lh n A.W x.1.to) g G/\A'.cs=A.cs/\∀y∈D.out,kh n G (lh n A'.W) y:=by obtain⟨D,u,G,h1,h2,h3,h4,h5,h6⟩:=Es a H.w b (by omega);obtain⟨f,h,-⟩:=H.w.to (List.mem_of_getElem? b);obtain⟨j,l⟩:=h2.tq h1.kp;have c:=H.put ⟨f,h⟩ h5 h4 j l;obtain⟨A',k1,k2,k3,k4⟩:=jJ a (by omega) c;refine⟨D,u,G,A',?_,h1,h2,k3,k2,h4,k4,by grind⟩;unfold ln;rw[h3,lV (by show A.W.n=A.n;rw[H.nn,H.w.nn])];exact k1
theorem FM(a:3<=n/\n<=5)(H:LG n g B K R A)(b:A.W.ns[k]? =some x)(o:B<=80000):∃D u G A',Al k A=some A'/\Hs (eg (dM A.W x.1.to) x) x.1 x.2 D/\Sd D u/\A'.W=fW A.W x.1.to u (fd A.W.ns D.out)/\LG n G B K R A'/\A'.cs=A.cs:=by obtain⟨D,u,G,h1,h2,h3,h4,h5⟩:=Eq a H.w b (by omega);obtain⟨f,h,-⟩:=H.w.to (List.mem_of_getElem? b);obtain⟨j,l⟩:=h2.tq h1.kp;have c:=H.put ⟨f,h⟩ h4 h5 j l;obtain⟨A',k1,k2,k3,k4⟩:=jJ a (by omega) c;refine⟨D,u,G,A',?_,h1,h2,k3,k2,k4⟩;unfold Al;rw[h3,lV (by show A.W.n=A.n;rw[H.nn,H.w.nn])];exact k1
theorem wz(b:3<=n/\n<=5)(H:LG n g B K R A)(c:A.W.ns[k]? =some x)(h:B<=80000):∃A',ln true k A=some A'/\A'.W={A.W with ns:=A.W.ns.eraseIdx k}/\LG n g B K R A'/\A'.cs=A.cs:=by obtain⟨h1,h2⟩:=Er H.w c;have a:=H.net (ns:=A.W.ns.eraseIdx k) (fun y f=>List.mem_of_mem_eraseIdx f);obtain⟨A',k1,k2,k3,k4⟩:=jJ b (by omega) a;refine⟨A',?_,k3,k2,k4⟩;unfold ln;rw[h1,lV (by show A.W.n=A.n;rw[H.nn,H.w.nn])];exact k1
theorem rX(c:3<=n/\n<=5)(H:LG n g B K R A)(j:B<=80000)(l:R<=900000):∃A',nX A=some A'/\A'.W={A.W with rl:=A.W.rl+1}/\LG n g B K (R+1) A'/\A'.cs=A.cs:=by
 have o:=H.rl;have b:GW n g A.cs B K {A.W with rl:=A.W.rl+1}:=⟨H.w.nn,H.w.up,H.w.ok,H.w.cs,H.w.ku,H.w.nd,H.w.id,H.w.nb,H.w.td,H.w.out,H.w.ms,H.w.b0⟩
 have a:LG n g B K (R+1) {A with W:={A.W with rl:=A.W.rl+1}}:=
  ⟨H.nn,b,fun i f h=>(kM (A:=A) (by rfl) _).trans (H.sq i f h),H.fl,H.td,H.t0,H.sn,H.vs,H.vp,⟨by grind,by grind⟩,H.bv,H.ck⟩
 obtain⟨A',k1,k2,k3,k4⟩:=jJ c (by omega) a;grind[nX]
def AJ(s:dp)(od lv:Int)(da:ByteArray):Bool:=eC s&&(ec ⟨s.id,s.bt,s.sq+1,od,lv,0,da⟩&&decide (s.P.length<4))
theorem GW.cast(H:GW n g C B K W)(o:1<=i/\i<=n){c:dj}(hC:C.length<60)(ak:sK (C++[c]))(hm:ec c=true)(aq:c.st=0)(hP:(dM W i).P.length<4)(q:Int):GW n {g with cs:=C++[c]} (C++[c]) B K (fW W i {dM W i with sq:=q,P:=(dM W i).P++[c]} W.ns):=by
 have al:=H.up i o.1 o.2;have w:W.sl[i.toNat-1]?.isSome=true:=by rw[al];rfl
 have ao:=H.cs;have k:∀j,Gsp n j (lh n W j) g {g with cs:=C++[c]}:=fun j=>⟨fun _ _ h=>h,fun _ _=>rfl,fun _=>List.prefix_refl _,fun _ _=>rfl,fun _ _=>Nat.le_refl _,fun _ _ _=>rfl,fun _ _=>rfl,by grind⟩;have S:C<+:C++[c]:=List.prefix_append _ _;have E:lh n (fW W i {dM W i with sq:=q,P:=(dM W i).P++[c]} W.ns)=lh n W:=by rw[qb o w];have:(dM W i).dv=lh n W i:=(if_pos o).symm;show gL (lh n W) i (dM W i).dv=_;rw[this];exact mt
 have hN:∀j:Int,1<=j->j<=n->fU n {g with cs:=C++[c]} (lh n W) (dM W j):=fun j l p=>by have ap:=H.id j l p;have:=(H.nd j l p).monop (i:=j+1) (k (j+1)) (fun _=>Int.le_refl _) (by omega) rfl;exact this
 have ki:gN c c=true:=by unfold gN;rw[(fR c c).2 rfl];simp
 refine⟨H.nn,fun j l p=>?_,?_,rfl,ak,fun j l p=>?_,fun j l p=>?_,fun j l p=>?_,fun j l p=>?_,fun j l p=>?_,fun x z=>?_,H.b0⟩
 .rw[eN o.1 l w];by_cases h:j=i;·grind[fW]
  .rw[if_neg h];unfold fW;simp only;rw[List.getElem?_set_ne (by omega)];exact H.up j l p
 .rw[E];obtain⟨⟨a1,a2,a3,a4⟩,b,Q,d,e,f,a⟩:=H.ok;exact⟨⟨a1,a2,fun v vs h x z=>(a3 v vs h x z).monop (k x.fr) (fun _=>((Q v vs h).ok x z).2.2.1),a4⟩,b,fun v vs h=>(Q v vs h).monop (k 1) (fun _=>Int.le_refl _),d,fun v y r=>(e v y r).mono (by grind),by grind,a⟩
 .rw[E,eN o.1 l w];have N:=hN j l p;by_cases h:j=i
  .rw[if_pos h];rw[h]at N;obtain⟨b1,b2,b3,b4,b5,b6,b7,b8,b9,T,U,V,aa,ab,ac,ad,ae,af,am⟩:=N;refine⟨b1,b2,b3,b4,b5,b6,b7,b8,b9,T,U,V,aa,ab,ac,ad,ae,af,fun y r=>?_⟩;rcases List.mem_append.1 r with r|r;·grind
   .rw[List.mem_singleton]at r;rw[r];exact⟨c,List.mem_append_right _ (List.mem_singleton.2 rfl),ki⟩
  grind
 .rw[eN o.1 l w];by_cases h:j=i;·rw[if_pos h,h];exact H.id i o.1 o.2
  .rw[if_neg h];exact H.id j l p
 .rw[eN o.1 l w];by_cases h:j=i;·rw[if_pos h];obtain⟨c1,c2,c3,c4,c5,c6,c7,c8,c9,ag,ah,ai,an,aj⟩:=H.nb i o.1 o.2;refine⟨c1,c2,c3,c4,c5,c6,c7,c8,c9,ag,ah,ai,⟨by grind,fun y r=>?_⟩,aj⟩;grind
  .rw[if_neg h];exact H.nb j l p
 .rw[eN o.1 l w];by_cases h:j=i;·rw[if_pos h];obtain⟨I,J,M,O⟩:=H.td i o.1 o.2;exact⟨I,fun t F=>(J t F).mono S,M,O⟩
  .rw[if_neg h];obtain⟨I,J,M,O⟩:=H.td j l p;exact⟨I,fun t F=>(J t F).mono S,M,O⟩
 .rw[eN o.1 l w];by_cases h:j=i;·rw[if_pos h];exact H.out i o.1 o.2
  .rw[if_neg h];exact H.out j l p
 .rw[E];exact(H.ms x z).monop (k 1) (fun _=>Int.le_refl _)
theorem vv{A A':dU}{c:dj}(h:A'.cs=A.cs++[c]){i:Nat}{bt:Int}:∀k:Nat,k<=A.cs.length->gO A' i bt k=gO A i bt k
 |0,_=>rfl
 |k+1,a=>by
  unfold gO;rw[vv h k (by omega),h,List.getElem?_append_left (by omega)]
theorem vy{i:Nat}{bt:Int}:∀k:Nat,0<=gO A i bt k/\gO A i bt k<=(k:Int)
 |0=>by unfold gO;omega
 |k+1=>by
  have h:= @vy i bt k;grind[gO]
theorem Ha(c:s.id=i)(a:s.bt=1){od lv:Int}(b:AJ s od lv da=true)(f:s.sq<1000000):qF s od lv da=some {s with sq:=s.sq+1,P:=s.P++[⟨i,1,s.sq+1,od,lv,0,da⟩]}:=by grind[AJ,qF]
theorem FN(hn:3<=n/\n<=5)(H:LG n g B K R A)(l:1<=i/\i<=n){od lv:Int}(F:AJ (dM A.W i) od lv da=true)(hl:A.cs.length<60)(hB:B<=80000):∃G A' c,ww i.toNat od lv da A=some A'/\A'.W=fW A.W i {dM A.W i with sq:=(dM A.W i).sq+1,P:=(dM A.W i).P++[c]} A.W.ns/\LG n G B K R A'/\A'.cs=A.cs++[c]/\c.fr=i:=by
 have M:=H.w.up i l.1 l.2;have I:=H.w.id i l.1 l.2;have v:=(H.w.nd i l.1 l.2).bt;have ad:=H.sq i l.1 l.2;have af:=vy (A:=A) (i:=i.toNat) (bt:=1) A.cs.length;have J:A.W.sl[i.toNat-1]?.isSome=true:=by rw[M];rfl
 have ac:i.toNat-1<A.W.sl.length:=by obtain⟨x,p⟩:=Option.isSome_iff_exists.1 J;exact(List.getElem?_eq_some_iff.1 p).1
 have r:=F;unfold AJ at r;simp only[Bool.and_eq_true,decide_eq_true_eq]at r;rw[I,v]at r;obtain⟨c,t⟩:∃c:dj,c=⟨i,1,(dM A.W i).sq+1,od,lv,0,da⟩:=⟨_,rfl⟩;have w:=Ha I v F (by omega);rw[<-t]at w r
 have ab:sK (A.cs++[c]):=by
  unfold sK;rw[List.pairwise_append];refine⟨H.w.ku,List.pairwise_singleton _ _,fun a ha b E=>?_⟩;rw[List.mem_singleton]at E;subst E;cases hs:dG a b;·rfl
  .exfalso;have hk:=(fR a b).1 hs;obtain⟨Q,S,T,U,V⟩:=H.ck a ha;grind[pX]
 have O:=H.w.cast l hl ab r.2.1 (by rw[t]) r.2.2 ((dM A.W i).sq+1);obtain⟨u,y⟩:∃u:dp,u={dM A.W i with sq:=(dM A.W i).sq+1,P:=(dM A.W i).P++[c]}:=⟨_,rfl⟩;rw[<-y]at w O;obtain⟨o,f⟩:∃o:dU,o={A with W:=fW A.W i u A.W.ns,cs:=A.cs++[c]}:=⟨_,rfl⟩;have ag:∀j,1<=j->dM (fW A.W i u A.W.ns) j=if j=i then u else dM A.W j:=fun j q=>eN l.1 q J
 have aa:∀j:Int,1<=j->gO o j.toNat 1 o.cs.length=gO A j.toNat 1 A.cs.length+(if j=i then 1 else 0):=by
  intro j q;have h1:o.cs=A.cs++[c]:=by rw[f]
  rw[h1,List.length_append,List.length_singleton];show gO o j.toNat 1 A.cs.length+(match o.cs[A.cs.length]? with|some e=>if e.fr==(j.toNat:Int)&&e.bt==1 then 1 else 0|none=>0)=_;rw[vv h1 _ (Nat.le_refl _),h1,List.getElem?_append_right (Nat.le_refl _),Nat.sub_self];show _+(if c.fr==(j.toNat:Int)&&c.bt==1 then(1:Int)else 0)=_;rw[t];congr 1;by_cases h:j=i;·rw[if_pos h,if_pos (by simp;omega)]
  .grind
 have N:LG n {g with cs:=A.cs++[c]} B K R o:=by
  refine⟨by rw[f];exact H.nn,by grind,fun j q z=>?_,by rw[f];exact H.fl,fun j q z=>?_,by rw[f];exact H.t0,by rw[f];exact H.sn,by rw[f];exact H.vs,by rw[f];exact H.vp,by rw[f];exact H.rl,by rw[f];exact H.bv,fun x p=>?_⟩;·rw[aa j q,H.sq j q z,f];grind
  .have h:=H.td j q z;grind
  .rw[f]at p⊢;have p:x∈A.cs++[c]:=p;show x.bt=1/\1<=x.fr/\x.fr<=n/\1<=x.sq/\x.sq<=(dM (fW A.W i u A.W.ns) x.fr).sq;rcases List.mem_append.1 p with p|p;·obtain⟨Q,S,T,U,V⟩:=H.ck x p;grind
   grind
 obtain⟨A',k1,k2,k3,k4⟩:=jJ hn (by omega) N;refine⟨_,A',c,?_,by grind,k2,by rw[k4,f],by rw[t]⟩;unfold ww nt;rw[M];simp only;rw[w];simp only;rw[if_pos (decide_eq_true (by rw[y];exact⟨rfl,rfl⟩)),lV (by show A.W.n=A.n;rw[H.nn,H.w.nn])];show(vn i.toNat od lv da {A with W:=fW A.W i u A.W.ns}).bind gE=_
 have ae:vn i.toNat od lv da {A with W:=fW A.W i u A.W.ns}=some o:=by
  unfold vn;have e1:({A with W:=fW A.W i u A.W.ns}:dU).W.sl[i.toNat-1]? =some (.up u):=by show(A.W.sl.set _ _)[_]? =_;exact List.getElem?_set_self ac
  rw[e1];simp only;rw[if_pos (decide_eq_true (by omega)),f];have e2:u.bt=1:=by rw[y];exact v
  have e3:gO {A with W:=fW A.W i u A.W.ns} i.toNat u.bt A.cs.length=(dM A.W i).sq:=by rw[e2,kM (A:=A) (by rfl)];exact ad
  grind
 grind
end
section
variable{f:Int->List (dz×List dj)}
variable{n:Nat} {g G N V:Gh} {i d D:Int} {dv:Int->Int} {B B' K K' R:Int} {s s' u X:dp} {m:dz} {L C:List dj} {e:dj} {W:eW} {A A':dU}
def wM(x:dz×List dj):Nat:=if x.1.kd=1\/x.1.kd=4\/x.1.kd=5\/x.1.kd=8 then 2 else 1
def wL(l:List (dz×List dj)):Nat:=(l.map wM).sum
theorem qo(x:dz×List dj)(l:List (dz×List dj)):wL (x::l)=wM x+wL l:=by grind[wL]
theorem Au(x:dz×List dj):1<=wM x/\wM x<=2:=by unfold wM;grind
theorem pL:∀l:List (dz×List dj),l.length<=wL l/\wL l<=2*l.length
 |[]=>by unfold wL;simp
 |x::l=>by
  have h1:=pL l;grind[Au,qo,List.length_cons]
theorem mq:∀(ms ns:List (dz×List dj)),wL (fd ns ms)<=wL ns+wL ms
 |[],ns=>by unfold fd;simp[wL]
 |y::ms,ns=>by
  have h:=mq ms (if uE y.1 y.2&&decide (ns.length<400)then ns++[y]else ns);grind[wL,fd,uE,decide,wM]
theorem oS:∀(ms ns:List (dz×List dj)),(∀x∈ms,eP x.1 x.2=true)->ns.length+ms.length<=400->fd ns ms=ns++ms
 |[],ns,_,_=>by unfold fd;simp
 |y::ms,ns,h,a=>by
  rw[List.length_cons]at a;show fd (if uE y.1 y.2&&decide (ns.length<400)then ns++[y]else ns) ms=_;rw[if_pos (by grind[kX,List.mem_cons_self]),oS ms _ (fun x b=>h x (List.mem_cons_of_mem _ b)) (by grind)];simp
def dV(s:dp):Nat:=s.ak.countP fun q=>q.who≠s.id
theorem mu:∀{l:List Int},(∀i∈l,(f i).length<=1)->wL (l.flatMap f)<=2*l.length:=fun{l} h=>Nat.le_trans (pL _).2 (by have:=ks h;omega)
theorem It(s:dp):dV s<=s.ak.length:=List.countP_le_length
theorem Ts.w(h:Ts s s'):wL s'.out+dV s'<=wL s.out+dV s+14:=by
 have b:∀(id n:Int) (p:Int->Bool),(ex id n (ek.filter p)).length<=7:=fun id n p=>nU
 cases h with
 |inst vw vs h1 h2 h3=>
  have a:dV (zC s vw vs)=0:=rfl;have h4:=mu (f:=fH (ix s vw vs)) (l:=ex s.id s.n (ek.filter (dg (dr vs)))) (fun i _=>by simp[fH]);have h5:=b s.id s.n (dg (dr vs));show wL ((ex s.id s.n (ek.filter (dg (dr vs)))).flatMap (fH (ix s vw vs)))+_<=_;omega
 |again w vw vs=>
  have a:dV (jc s w)=dV s:=rfl;have h4:=mu (f:=fq s w) (l:=ex s.id s.n (iI s.n.toNat)) (fun i _=>by simp[fq]);have h5:=b s.id s.n (dg (no (s.n.toNat:Nat)));show wL ((ex s.id s.n (iI s.n.toNat)).flatMap (fq s w))+_<=_;unfold iI at h4⊢;omega
 |gath vw vs=>
  have a:dV (zr s vw vs)=dV s:=rfl;have h4:=mu (f:=fun i=>if dg (dr vs) i then []else fq s vw i) (l:=ex s.id s.n (iI s.n.toNat)) (fun i _=>by split<;>simp[fq]);have h5:=b s.id s.n (dg (no (s.n.toNat:Nat)));show wL ((ex s.id s.n (iI s.n.toNat)).flatMap _)+_<=_;unfold iI at h4⊢;omega
 |silent u w h1 h2 h3 h4=>
  obtain⟨c,j,rfl⟩:=dI h4;have a:dV (jc {s with L:=c,q:=j} w)=dV s:=rfl;have h4:=mu (f:=fq {s with L:=c,q:=j} w) (l:=ex s.id s.n (iI s.n.toNat)) (fun i _=>by simp[fq]);have h5:=b s.id s.n (dg (no (s.n.toNat:Nat)));show wL ((ex s.id s.n (iI s.n.toNat)).flatMap (fq {s with L:=c,q:=j} w))+_<=_;unfold iI at h4⊢;omega
 |dec u q h1 h2 h3 h4=>
  obtain⟨c,j,rfl⟩:=dI h4;obtain⟨t,k⟩:∃t:dp,t={s with L:=c,q:=j}:=⟨_,rfl⟩;rw[<-k];have r:t.id=s.id:=by rw[k]
  have o:t.ak=s.ak:=by rw[k]
  have a:dV (ko t q)=dV s:=by show(t.ak++[(⟨t.id,t.f.nm+1,q.la+1⟩:kH)]).countP (fun x:kH=>x.who≠t.id)=s.ak.countP fun x:kH=>x.who≠s.id;rw[List.countP_append,o,r];simp
  have h4:=mu (f:=kN (fM t q) (eV q)) (l:=ex t.id t.n (ek.filter (dg t.mb))) (fun i _=>by unfold kN;split<;>simp[fH]);have h5:=b t.id t.n (dg t.mb);show wL ((ex t.id t.n (ek.filter (dg t.mb))).flatMap (kN (fM t q) (eV q)))+_<=_;omega
 |late w=>
  have a:dV (jc s w)=dV s:=rfl;have h4:=mu (f:=fq s w) (l:=ex s.id s.n (iI s.n.toNat)) (fun i _=>by simp[fq]);have h5:=b s.id s.n (dg (no (s.n.toNat:Nat)));show wL ((ex s.id s.n (iI s.n.toNat)).flatMap (fq s w))+_<=_;unfold iI at h4⊢;omega
 |ask=>
  have a:dV (mB s)=dV s:=rfl;have h4:=(pL (mB s).out).2;have h5:(mB s).out.length<=2:=by show((dm s (iU s (s.f.nm+1)),[])::if s.P=[]then []else [(dm s (fA s),s.P)]).length<=2;grind
  omega
 |idle=>omega
theorem Hs.w{x:dz×List dj}(h:Hs s x.1 x.2 s')(j:s.out=[]):wL s'.out+dV s'+1<=dV s+wM x:=by
 have h1:=Au x
 have U:∀y:dz×List dj,y.1.kd≠1->y.1.kd≠4->y.1.kd≠5->y.1.kd≠8->wL [y]=1:=fun y a b c d=>by
  grind[wL,wM]
 have h2:(x.1.kd=1\/x.1.kd=4\/x.1.kd=5\/x.1.kd=8)->wM x=2:=fun h=>if_pos h
 have T:wL []=0:=rfl
 have p:∀(t:dp) (l:dz) (M:List dj),t.out=[]->t.ak=s.ak->t.id=s.id->l.kd=2\/l.kd=3\/l.kd=6->wM x=2->wL (gW t l M).out+dV (gW t l M)+1<=dV s+wM x:=by
  intro t l M v w F O P;have H:dV (gW t l M)=dV s:=by show t.ak.countP (fun q=>q.who≠t.id)=_;rw[w,F];rfl
  have Q:wL (gW t l M).out=1:=by show wL (t.out++[(dm t l,M)])=1;rw[v,List.nil_append];have:(dm t l).kd=l.kd:=rfl;exact U _ (by grind) (by grind) (by grind) (by grind)
  omega
 have E:∀t:dp,t.out=[]->dV t=dV s->wL t.out+dV t+1<=dV s+wM x:=by
  intro t v w;rw[v,w,T];omega
 cases h with
 |join k=>exact p _ _ _ j rfl rfl (.inr (.inl rfl)) (h2 (.inl k))
 |deny k=>exact p _ _ _ j rfl rfl (.inl rfl) (h2 (.inl k))
 |revote k=>exact p _ _ _ j rfl rfl (.inr (.inl rfl)) (h2 (.inl k))
 |denied=>exact E _ j rfl
 |voted=>exact E _ j rfl
 |took k=>exact p _ _ _ j rfl rfl (.inr (.inr rfl)) (h2 (.inr (.inl k)))
 |same k=>exact p _ _ _ j rfl rfl (.inr (.inr rfl)) (h2 (.inr (.inl k)))
 |app J k=>exact p _ _ _ j rfl rfl (.inr (.inr rfl)) (h2 (.inr (.inr (.inl k))))
 |fresh=>exact E _ j rfl
 |has _ k a1 a2 a3 a4=>
  obtain⟨q,hq,h|⟨hc,r,hr,rfl⟩⟩:=eY a4;·rw[h.1];exact E _ j rfl
  .obtain⟨f,o,I,v,w,F,O,P,H,Q,e8,S⟩:=eH hr;rw[v,w];have ad:(ji s x.1 q).out=[]:=j
   have ab:wL o<=o.length:=by
    have:∀o:List (dz×List dj),(∀y∈o,y.1.kd=9)->wL o<=o.length:=by
     intro o h
     induction o with
     |nil=>simp[wL]
     |cons y o ih=>
      have h1:=h y (List.mem_cons_self ..);rw[qo,List.length_cons];have h2:=ih (fun z Z=>h z (List.mem_cons_of_mem _ Z));have h3:wM y=1:=if_neg (by omega);omega
    refine this o fun y Y=>?_;obtain⟨q2,-,h,-⟩:=H y Y;rw[h];rfl
   have ac:o.length+I.countP (fun q=>q.who≠s.id)<=dV s:=S;show wL ((ji s x.1 q).out++o)+((([]:List kH)++I).countP fun q:kH=>q.who≠s.id)+1<=_;grind
 |data _ k a1 a2 a3=>
  obtain⟨J,q',rfl⟩:=fs a3;exact E _ j rfl
 |askd q k=>
  grind[dV,pi]
 |none=>grind
theorem Hs.oth{x:dz×List dj}(h:Hs s x.1 x.2 s')(a:dV s<=64):dV s'<=64:=by
 cases h with
 |has _ k a1 a2 a3 a4=>
  obtain⟨q,I,h|⟨H,r,hr,rfl⟩⟩:=eY a4;·rw[h.1];exact a
  .obtain⟨f,o,b,c,j,v,w,y,z,E,F,l⟩:=eH hr;rw[c,j];have t:o.length+b.countP (fun q=>q.who≠s.id)<=dV s:=l;show((([]:List kH)++b).countP fun q:kH=>q.who≠s.id)<=_;grind
 |data _ k a1 a2 a3=>
  obtain⟨p,J,rfl⟩:=fs a3;exact a
 |askd q k a1 a2 a3 a4 a5=>
  grind[pi,It]
 |_=>exact a
theorem Ts.oth(h:Ts s s')(a:dV s<=64):dV s'<=64:=by
 cases h with
 |inst=>exact Nat.zero_le _
 |silent u w h1 h2 h3 h4=>
  obtain⟨c,l,rfl⟩:=dI h4;exact a
 |dec u q h1 h2 h3 h4=>
  obtain⟨c,l,b⟩:=dI h4;have k:u.id=s.id:=by rw[b]
  have j:u.ak=s.ak:=by rw[b]
  have o:dV (ko u q)=dV s:=by show(u.ak++[(⟨u.id,u.f.nm+1,q.la+1⟩:kH)]).countP (fun x:kH=>x.who≠u.id)=s.ak.countP fun x:kH=>x.who≠s.id;rw[List.countP_append,j,k];simp
  omega
 |_=>exact a
theorem Sd.oth(h:Sd s s'):dV s'=dV s:=by obtain⟨T,a,O,-,rfl⟩:=h;rfl
def mF(n:Nat)(f:Int->Nat):Nat:=((List.range' 1 n).map fun i:Nat=>f (i:Int)).sum
def wa(n:Nat)(W:eW):Nat:=wL W.ns+mF n fun i=>dV (dM W i)
theorem rY(l:3<=n/\n<=5){f f':Int->Nat}(k:1<=i/\i<=n)(h:∀j,1<=j->j≠i->f' j=f j):mF n f'+f i=mF n f+f' i:=by
 have h3:n=3\/n=4\/n=5:=by omega
 have h5:i=1\/i=2\/i=3\/i=4\/i=5:=by omega
 have a:∀f:Int->Nat,mF 3 f=f 1+(f 2+f 3):=fun f=>by simp[mF,List.range'_succ]
 have b:∀f:Int->Nat,mF 4 f=f 1+(f 2+(f 3+f 4)):=fun f=>by simp[mF,List.range'_succ]
 have c:∀f:Int->Nat,mF 5 f=f 1+(f 2+(f 3+(f 4+f 5))):=fun f=>by simp[mF,List.range'_succ]
 grind
theorem uM(c:3<=n/\n<=5)(a:1<=i/\i<=n)(b:W.sl[i.toNat-1]?.isSome=true){ns:List (dz×List dj)}:wa n (fW W i s ns)+wL W.ns+dV (dM W i)=wa n W+wL ns+dV s:=by
 have h:=rY c (f:=fun j=>dV (dM W j)) (f':=fun j=>dV (dM (fW W i s ns) j)) a (fun j o l=>by grind[dV,dM,fW]);have e:dV (dM (fW W i s ns) i)=dV s:=by rw[eN a.1 a.1 b,if_pos rfl]
 simp only[e]at h;unfold wa;have k:(fW W i s ns).ns=ns:=rfl;grind
end
section
variable{q:lr} {f:mz}
variable{n:Nat} {g V X Y:Gh} {i d G:Int} {dv:Int->Int} {B B' K K' R D:Int} {s s' u Z:dp} {m:dz} {L C:List dj} {e:dj} {W:eW} {A A':dU}
structure qy (f:mz):Prop where
 nm:∀q∈f.ask,q.1<=f.nm
 pw:f.ask.Pairwise fun a b=>a.1<b.1/\a.2<=b.2
 bn:f.has=true->f.bn<=f.nm/\(∀q∈f.ask,q.1<=f.bn->q.2<=f.bc)/\∀q∈f.ask,f.bn<q.1->f.bc<=q.2
theorem qy.drop(f:mz):qy (qM f):=⟨fun q h=>(by cases h),List.Pairwise.nil,fun h=>(by cases h)⟩
theorem qy.ask{c:Int}(h:qy f)(p:∀q∈f.ask,q.2<=c)(j:f.bc<=c):qy (ir f c):=by
 have t:(f.ask++[(f.nm+1,c)]).Pairwise fun a b=>a.1<b.1/\a.2<=b.2:=by rw[List.pairwise_append];refine⟨h.pw,List.pairwise_singleton _ _,fun a l b j=>?_⟩;rw[List.mem_singleton]at j;subst j;have h1:=h.nm a l;have h2:=p a l;exact⟨by show a.1<f.nm+1;omega,h2⟩
 refine⟨fun q k=>?_,t.sublist (List.drop_sublist _ _),fun r=>?_⟩
 .show q.1<=f.nm+1;rcases List.mem_append.1 (List.drop_subset _ _ k)with h1|h1;·have:=h.nm q h1;omega
  grind
 .obtain⟨h1,h2,h4⟩:=h.bn r;refine⟨by show f.bn<=f.nm+1;omega,fun q k j=>?_,fun q k o=>?_⟩
  .rcases List.mem_append.1 (List.drop_subset _ _ k)with h3|h3;·exact h2 q h3 j
   .rw[List.mem_singleton]at h3;subst h3;have j:f.nm+1<=f.bn:=j;omega
  .rcases List.mem_append.1 (List.drop_subset _ _ k)with h3|h3;·exact h4 q h3 o
   .rw[List.mem_singleton]at h3;subst h3;exact j
theorem qy.le{f:mz}(h:qy f){a b:Int×Int}(c:a∈f.ask)(k:b∈f.ask)(o:a.1<=b.1):a.2<=b.2:=by
 have j:=h.pw
 generalize f.ask=l at c k j
 induction l with
 |nil=>cases c
 |cons x l p=>
  obtain⟨h1,h2⟩:=List.pairwise_cons.1 j;grind
theorem qh(f:mz)(num cm:Int):gR f num cm=f\/∃q∈f.ask,q.1=num/\¬(f.has=true/\num<=f.bn)/\gR f num cm={f with has:=true,bn:=q.1,bc:=q.2,cm:=cm}:=by unfold gR;grind
theorem qy.get{num cm:Int}(h:qy f):qy (gR f num cm):=by
 rcases qh f num cm with e|⟨q,h1,h2,-,e⟩;·grind
 .rw[e];exact⟨h.nm,h.pw,fun _=>⟨h.nm q h1,fun c b a=>h.le b h1 a,fun c b a=>h.le h1 b (Int.le_of_lt a)⟩⟩
theorem zy:∀{l:List kH} {a r:dp×List kH},dt ke l a=some r->qy a.1.f->qy r.1.f
 |[],a,r,h,k=>by
  cases h;exact k
 |q::l,a,r,h,k=>by
  obtain⟨b,h1,h2⟩:=dy h;refine zy h2 ?_;unfold ke at h1;split at h1;·cases h1
  .split at h1;·grind
   .split at h1
    .unfold nE at h1;split at h1;·cases h1;exact k.get
     .cases h1
    .cases c:gu a.1 (fV a.1 q) []with
     |none=>grind
     |some s'=>
      rw[c]at h1;cases h1;rw[fa c];exact k
structure NP (i:Int) (s:dp):Prop where
 P:∀e∈s.P,e.fr=i
 f:qy s.f
 hv:s.mi=true->∃q,s.q=some q/\(s.L.length:Int)<=q.hv.getD i.toNat 0/\s.st<=(s.L.length:Int)/\∀x∈s.ak,x.pr<=q.la+1
theorem ub{h a:Int}(b:i.toNat<q.hv.length):h<=(gM q i h a).hv.getD i.toNat 0:=by show h<=(q.hv.set i.toNat (ep (q.hv.getD i.toNat 0) h)).getD i.toNat 0;grind[ep]
theorem qz{j h a:Int}:q.hv.getD j.toNat 0<=(gM q i h a).hv.getD j.toNat 0:=by show _<=(q.hv.set i.toNat (ep (q.hv.getD i.toNat 0) h)).getD j.toNat 0;grind[ep]
theorem C3{h a:Int}{k:Nat}:q.pr.getD k 0<=(gM q i h a).pr.getD k 0:=by show _<=(if a<=q.la then q.pr.set i.toNat (ep (q.pr.getD i.toNat 0) a)else q.pr).getD k 0;grind[ep]
theorem y9(h:ip s e=some s')(c:s.id=i)(h8:∀q,s.q=some q->i.toNat<q.hv.length)(k:∃q,s.q=some q/\(s.L.length:Int)<=q.hv.getD i.toNat 0):(∃q,s'.q=some q/\(s'.L.length:Int)<=q.hv.getD i.toNat 0)/\(∀q,s'.q=some q->i.toNat<q.hv.length)/\s.L<+:s'.L/\(∃x∈s'.L,dG x e=true)/\s'.id=s.id:=by
 unfold ip at h;split at h
 .rename_i t b;split at h;·cases h
  .rename_i q l;split at h;·cases h;have j:=h8 q l;obtain⟨a1,a2,a3,a4,rfl⟩:=kl b;refine⟨⟨_,rfl,by rw[c];exact ub j⟩,fun v o=>?_,List.prefix_append _ _,⟨hA s e,List.mem_append_right _ (List.mem_singleton.2 rfl),(fR _ _).2 rfl⟩,rfl⟩;cases o;show i.toNat<(q.hv.set _ _).length;grind
   .cases h
 .split at h;·rename_i a;cases h;rw[Bool.and_eq_true,List.any_eq_true]at a;obtain⟨x,r,p⟩:=a.2;exact⟨k,h8,List.prefix_refl _,⟨x,r,p⟩,rfl⟩
  .cases h
theorem nl:∀{l:List dj} {s s':dp},dt ip l s=some s'->s.id=i->(∀q,s.q=some q->i.toNat<q.hv.length)->(∃q,s.q=some q/\(s.L.length:Int)<=q.hv.getD i.toNat 0)->(∃q,s'.q=some q/\(s'.L.length:Int)<=q.hv.getD i.toNat 0)/\s.L<+:s'.L/\∀e∈l,∃x∈s'.L,dG x e=true
 |[],s,s',h,a,h8,k=>by cases h;grind
 |e::l,s,s',h,a,h8,k=>by
  obtain⟨t,h1,h2⟩:=dy h;obtain⟨a1,a2,a3,⟨x,a4,a5⟩,b⟩:=y9 h1 a h8 k;obtain⟨b1,b2,b3⟩:=nl h2 (b.trans a) a2 a1;grind
theorem ny{fr:Int}:∀{l:List dj} {s s':dp},dt (mC fr) l s=some s'->s.id=i->(∀q,s.q=some q->i.toNat<q.hv.length)->(∃q,s.q=some q/\(s.L.length:Int)<=q.hv.getD i.toNat 0)->(∃q,s'.q=some q/\(s'.L.length:Int)<=q.hv.getD i.toNat 0)/\s.L<+:s'.L/\∀e∈l,e.fr=fr->∃x∈s'.L,dG x e=true
 |[],s,s',h,a,h8,k=>by cases h;grind
 |e::l,s,s',h,a,h8,k=>by
  obtain⟨t,h1,h2⟩:=dy h;unfold mC at h1;by_cases c:e.fr=fr;·rw[if_pos (by grind)]at h1;obtain⟨a1,a2,a3,⟨x,a4,a5⟩,b⟩:=y9 h1 a h8 k;obtain⟨b1,b2,b3⟩:=ny h2 (b.trans a) a2 a1;grind
  .rw[if_neg (by grind)]at h1;cases h1;obtain⟨b1,b2,b3⟩:=ny h2 a h8 k;grind
theorem y8(h:ip s e=some s')(b:s.q=some q):∃a,s'.q=some a/\a.la=q.la/\a.pr.length=q.pr.length/\∀k,q.pr.getD k 0<=a.pr.getD k 0:=by
 unfold ip at h;split at h
 .rw[b]at h;simp only at h;split at h
  .cases h;refine⟨_,rfl,rfl,?_,fun k=>?_⟩;·show(if(0:Int)<=q.la then q.pr.set s.id.toNat (ep (q.pr.getD s.id.toNat 0) 0)else q.pr).length=_;grind
   .exact C3
  .cases h
 grind
theorem qB:∀{l:List dj} {s s':dp} {q:lr},dt ip l s=some s'->s.q=some q->∃a,s'.q=some a/\a.la=q.la/\a.pr.length=q.pr.length/\∀k,q.pr.getD k 0<=a.pr.getD k 0
 |[],s,s',q,h,b=>by cases h;grind
 |e::l,s,s',q,h,b=>by
  obtain⟨t,h1,h2⟩:=dy h;obtain⟨c,a1,a2,a3,a4⟩:=y8 h1 b;obtain⟨j,b1,b2,b3,b4⟩:=qB (q:=c) h2 a1;grind
theorem uj{fr:Int}:∀{l:List dj} {s s':dp} {q:lr},dt (mC fr) l s=some s'->s.q=some q->∃a,s'.q=some a/\a.la=q.la/\a.pr.length=q.pr.length/\∀k,q.pr.getD k 0<=a.pr.getD k 0
 |[],s,s',q,h,b=>by cases h;grind
 |e::l,s,s',q,h,b=>by
  obtain⟨t,h1,h2⟩:=dy h;unfold mC at h1;split at h1;·obtain⟨c,a1,a2,a3,a4⟩:=y8 h1 b;obtain⟨j,b1,b2,b3,b4⟩:=uj (q:=c) h2 a1;grind
  .cases h1;exact uj h2 b
theorem fU.q8(N:fU n g dv s)(a:s.mi=true)(b:1<=i/\i<=7):∀q,s.q=some q->i.toNat<q.hv.length:=fun q c=>by obtain⟨h,j,k,l,o,p,-⟩:=N.q a;grind
theorem Ts.np(N:fU n g dv s)(E:jY B K s)(y:s.id=i)(T:3<=n/\n<=5)(h:Ts s s')(k:NP i s):NP i s':=by
 obtain⟨b,r,c⟩:=k
 have h1:=N.id
 have O:1<=i/\i<=7:=by omega
 have M:∀q∈s.f.ask,q.2<=s.ck:=fun q S=>(E.asc q S).2
 cases h with
 |inst vw vs h1 h2 h3=>
  refine⟨b,r,fun _=>⟨_,rfl,?_,Int.le_refl _,fun x j=>(by cases j)⟩⟩;show((dH vs).L.length:Int)<=(gM (nc s.n (dr vs) s.id) s.id ((dH vs).L.length:Int) 0).hv.getD i.toNat 0;rw[y];exact ub (by show i.toNat<(List.replicate 8 (0:Int)).length;grind)
 |again=>exact⟨b,qy.drop _,c⟩
 |gath=>exact⟨b,r,c⟩
 |silent u w h1 h2 h3 h4=>
  obtain⟨F,p,v,Q,I⟩:=c h3;obtain⟨⟨t,b1,b2⟩,b3,-⟩:=nl h4 y (N.q8 h3 O) ⟨F,p,v⟩;have z:=qB h4 p;obtain⟨o,l,rfl⟩:=dI h4;obtain⟨H,a,J,-,-⟩:=z;have a:l=some H:=a;have b1:l=some t:=b1;rw[b1]at a;cases a;have P:s.L.length<=o.length:=b3.length_le;exact⟨b,qy.drop _,fun _=>⟨t,b1,b2,by show s.st<=(o.length:Int);omega,fun x j=>by rw[J];exact I x j⟩⟩
 |dec u q h1 h2 h3 h4 h5 h6=>
  obtain⟨F,p,v,Q,I⟩:=c h3;obtain⟨⟨t,b1,b2⟩,b3,-⟩:=nl h4 y (N.q8 h3 O) ⟨F,p,v⟩;have z:=qB h4 p;obtain⟨o,l,rfl⟩:=dI h4;obtain⟨H,a,J,-,-⟩:=z;have h6:l=some q:=h6;have a:l=some H:=a;have b1:l=some t:=b1;rw[h6]at b1 a;cases b1;cases a;have P:s.L.length<=o.length:=b3.length_le;refine⟨b,r.ask M E.bc.2,fun _=>⟨eV q,rfl,b2,by show s.st<=(o.length:Int);omega,fun x j=>?_⟩⟩;have j:x∈s.ak++[⟨s.id,s.f.nm+1,q.la+1⟩]:=j;show x.pr<=q.la+1+1;grind
 |late=>exact⟨b,qy.drop _,c⟩
 |ask=>exact⟨b,r.ask M E.bc.2,c⟩
 |idle=>exact⟨b,r,c⟩
theorem Hs.np(N:fU n g dv s)(P:s.id=i)(hn:3<=n/\n<=5)(aa:m.fr≠i)(h:Hs s m L s')(k:NP i s):NP i s':=by
 obtain⟨a,c,j⟩:=k
 have h1:=N.id
 have O:1<=i/\i<=7:=by omega
 cases h with
 |join=>exact⟨a,qy.drop _,j⟩
 |took=>exact⟨a,qy.drop _,fun h=>(by cases h)⟩
 |app v k h1 h2 h3=>
  refine⟨a,c,fun t=>?_⟩;have t:s.mi=true:=t;have:=(N.mi t).2;rw[N.nn,this]at h3;omega
 |fresh=>exact⟨a,c.get,j⟩
 |has _ k a1 a2 a3 a4=>
  obtain⟨q,F,h|⟨hc,r,hr,rfl⟩⟩:=eY a4;·rw[h.1];obtain⟨l,b1,b2,b3,b4⟩:=j a2;rw[F]at b1;cases b1;exact⟨a,c,fun _=>⟨_,rfl,Int.le_trans b2 qz,b3,b4⟩⟩
  .have E:=zy hr c;obtain⟨f,o,S,z,J,M,-⟩:=eH hr;rw[z]at E;rw[z,J];obtain⟨l,b1,b2,b3,b4⟩:=j a2;rw[F]at b1;cases b1;refine⟨a,E,fun _=>⟨_,rfl,Int.le_trans b2 qz,b3,fun x b=>?_⟩⟩;have b:x∈[]++S:=b;rw[List.nil_append]at b;exact b4 x (M.subset b)
 |data _ k a1 a2 a3=>
  obtain⟨T,y,I,c3,c4⟩:=j a2;obtain⟨⟨l,b1,b2⟩,b3,-⟩:=ny a3 P (N.q8 a2 O) ⟨T,y,I⟩;have Q:=uj a3 y;obtain⟨v,H,rfl⟩:=fs a3;obtain⟨U,p,d2,-,-⟩:=Q;have p:H=some U:=p;have b1:H=some l:=b1;rw[b1]at p;cases p;have b5:s.L.length<=v.length:=b3.length_le;exact⟨a,c,fun _=>⟨l,b1,b2,by grind,fun x b=>by grind⟩⟩
 |askd q k a1 a2 a3 a4 a5 w=>
  refine⟨a,c,fun _=>?_⟩;obtain⟨l,b1,b2,b3,b4⟩:=j a2;rw[w]at b1;cases b1;refine⟨q,w,b2,b3,fun x b=>?_⟩;have b:x∈s.ak++[⟨m.fr,m.nm,q.la+1⟩]:=b;grind
 |_=>exact⟨a,c,j⟩
theorem Sd.np(h:Sd s s')(k:NP i s):NP i s':=by obtain⟨T,b,O,-,rfl⟩:=h;exact⟨fun e a=>k.P e (List.mem_filter.1 a).1,k.f,k.hv⟩
theorem fU.ticked(N:fU n g dv s):fU n g dv (ei s):=N.same rfl rfl rfl rfl rfl rfl rfl rfl rfl rfl rfl rfl
theorem fU.heard(N:fU n g dv s)(x:dz×List dj):fU n g dv (eg s x):=N.same rfl rfl rfl rfl rfl rfl rfl rfl rfl rfl rfl rfl
theorem NP.ticked(k:NP i s):NP i (ei s):=⟨k.P,k.f,k.hv⟩
theorem NP.heard(k:NP i s)(x:dz×List dj):NP i (eg s x):=⟨k.P,k.f,k.hv⟩
end
section
variable{ns:List (dz×List dj)} {k:Nat}
variable{n:Nat} {g u X V:Gh} {i d Y:Int} {dv:Int->Int} {B B' K K' R N:Int} {s s' G D:dp} {m:dz} {L C:List dj} {e:dj} {W:eW} {A A':dU}
theorem ss:∀{l:List (dz×List dj)} {k:Nat} {x:dz×List dj},l[k]? =some x->wL (l.eraseIdx k)+wM x=wL l
 |[],k,x,h=>by simp at h
 |y::l,0,x,h=>by
  grind[wL,wM]
 |y::l,k+1,x,h=>by
  have a:l[k]? =some x:=by simpa using h
  have:=ss a;grind[qo]
theorem LG.up(H:LG n g B K R A)(p:B<=B')(I:R<=N):LG n g B' K N A:=by obtain⟨h1,h2,h3,h4,h5,h6,l,h8,o,f,h,j⟩:=H;obtain⟨q,v,w,x,y,z,E,c,F,r,t,J⟩:=h2;exact⟨h1,⟨q,v,w,x,y,z,E,fun i a b=>(c i a b).up p (Int.le_refl _) (c i a b).ck.2.2,F,r,t,by omega⟩,h3,h4,h5,h6,l,h8,o,⟨f.1,by omega⟩,h,j⟩
structure Wd (n:Nat) (B R:Int) (k:Nat) (A:dU) (g:Gh):Prop where
 l:LG n g B 300 R A
 ot:∀i:Int,1<=i->i<=n->dV (dM A.W i)<=64
 ph:wa n A.W<=14*k
 cs:A.cs.length<=k
 ck:∀i:Int,1<=i->i<=n->(dM A.W i).ck<=k
 pf:∀i:Int,1<=i->i<=n->NP i (dM A.W i)
theorem Wd.put(H:Wd n B R k A g)(q:3<=n/\n<=5)(b:1<=i/\i<=n)(f:A'.W=fW A.W i D ns)(L':LG n u B' 300 N A')(l:dV D<=64)(r:wL ns+dV D<=wL A.W.ns+dV (dM A.W i)+14)(o:A'.cs.length<=k+1)(p:D.ck<=k+1)(t:NP i D):Wd n B' N (k+1) A' u:=by
 have h:A.W.sl[i.toNat-1]?.isSome=true:=by rw[H.l.w.up i b.1 b.2];rfl
 refine⟨L',fun j a c=>?_,?_,o,fun j a c=>?_,fun j a c=>?_⟩
 .rw[f,eN b.1 a h];split;·exact l
  .exact H.ot j a c
 .rw[f];have:=uM q (W:=A.W) (s:=D) (ns:=ns) b h;have:=H.ph;omega
 .rw[f,eN b.1 a h];split;·exact p
  .have:=H.ck j a c;omega
 .rw[f,eN b.1 a h];split;·grind
  .exact H.pf j a c
theorem Wd.stay(H:Wd n B R k A g){rl:Int}(f:A'.W={A.W with ns:=ns,rl:=rl})(L':LG n u B' 300 N A')(l:wL ns<=wL A.W.ns)(h:A'.cs=A.cs):Wd n B' N (k+1) A' u:=by
 have c:∀j,dM A'.W j=dM A.W j:=fun j=>by rw[f];rfl
 refine⟨L',fun j a b=>by rw[c];exact H.ot j a b,?_,by rw[h];have:=H.cs;omega,fun j a b=>by rw[c];have:=H.ck j a b;omega,fun j a b=>by rw[c];exact H.pf j a b⟩;have h1:=H.ph;grind[wa,dV,dM]
theorem Sd.ck(h:Sd s s'):s'.ck=s.ck:=by obtain⟨T,a,O,-,rfl⟩:=h;rfl
structure OpD where
 fn:Int
 a:Int
 n:Int
 od:Int
 lv:Int
 da:ByteArray
def uf(A:dU)(b:OpD):Option dU:=
 if b.fn=6\/b.fn=7\/b.fn=9 then some A
 else if b.fn=1 then nX A
 else if b.fn=2 then(if 1<=b.a/\b.a<=(A.n:Int)then pI b.a.toNat A else gE A)
 else if b.fn=3\/b.fn=4 then(if qk b.n A.W.ns.length then ln (decide (b.fn=4)) b.n.toNat A else gE A)
 else if b.fn=5 then(if qk b.n A.W.ns.length then Al b.n.toNat A else gE A)
 else if b.fn=8 then(if 1<=b.a/\b.a<=(A.n:Int)/\AJ (dM A.W b.a) b.od b.lv (gX b.da)=true then ww b.a.toNat b.od b.lv (gX b.da) A else gE A)
 else gE A
theorem DY{z:Int}{l:List (dz×List dj)}(h:qk z l.length=true):∃x,l[z.toNat]? =some x:=by unfold qk at h;simp only[Bool.and_eq_true,decide_eq_true_eq]at h;exact⟨_,List.getElem?_eq_getElem (by omega)⟩
theorem Hs.ck1(h:Hs s m L G):G.ck=s.ck:=h.kp.ck
theorem JO(l:3<=n/\n<=5)(H:Wd n B R k A g)(b:OpD)(q:B<=80000)(M:R<=900000)(U:k<60):∃A' u,uf A b=some A'/\Wd n (B+10) (R+1) (k+1) A' u:=by
 have Z:∃A' u,gE A=some A'/\Wd n (B+10) (R+1) (k+1) A' u:=by obtain⟨A',k1,k2,k3,k4⟩:=jJ l (by omega) H.l;exact⟨A',g,k1,H.stay (ns:=A.W.ns) (rl:=A.W.rl) k3 (k2.up (by omega) (by omega)) (Nat.le_refl _) k4⟩
 have z:=H.ck;unfold uf;split;·exact⟨A,g,rfl,H.stay (ns:=A.W.ns) (rl:=A.W.rl) rfl (H.l.up (by omega) (by omega)) (Nat.le_refl _) rfl⟩
 split;·obtain⟨A',k1,k2,k3,k4⟩:=rX l H.l (by omega) M;exact⟨A',g,k1,H.stay (ns:=A.W.ns) (rl:=A.W.rl+1) k2 (k3.up (by omega) (by omega)) (Nat.le_refl _) k4⟩
 split
 .split
  .rename_i a;rw[H.l.nn]at a;have S:=z _ a.1 a.2;obtain⟨G,D,u,A',k1,k2,k3,k4,k5,k6,k7,k8⟩:=wB l H.l a q (by omega);have t:(ei (dM A.W b.a)).out=[]:=H.l.w.out _ a.1 a.2;have J:=k2.w;have p:=k2.oth (H.ot _ a.1 a.2);have F:=mq G.out A.W.ns;have Q:wL (ei (dM A.W b.a)).out=0:=by rw[t];rfl
   have h1:dV (ei (dM A.W b.a))=dV (dM A.W b.a):=rfl;have O:=k2.kp (fun w vs I=>((H.l.w.nd _ a.1 a.2).v w vs I).2.2.1);refine⟨A',u,k1,H.put l a k4 (k5.up (by omega) (by omega)) (by rw[k3.oth];exact p) (by rw[k3.oth];omega) (by rw[k7];have:=H.cs;omega) ?_ (k3.np (k2.np (H.l.w.nd _ a.1 a.2).ticked (Dk (K:=300) (H.l.w.nb _ a.1 a.2) (by omega)).1 (H.l.w.id _ a.1 a.2) l (H.pf _ a.1 a.2).ticked))⟩;rw[k3.ck,O.ck];show(dM A.W b.a).ck+1<=_;omega
  omega
 split
 .split
  .rename_i E;obtain⟨x,o⟩:=DY E;obtain⟨h,j,-,-,y⟩:=H.l.w.to (List.mem_of_getElem? o);by_cases h4:b.fn=4;·rw[decide_eq_true h4];obtain⟨A',k1,k2,k3,k4⟩:=wz l H.l o q;exact⟨A',g,k1,H.stay (ns:=A.W.ns.eraseIdx b.n.toNat) (rl:=A.W.rl) k2 (k3.up (by omega) (by omega)) (by have:=ss o;omega) k4⟩
   .rw[decide_eq_false h4];obtain⟨G,D,u,A',k1,k2,k3,k4,k5,k6,k7,k8⟩:=wA l H.l o q;have t:(eg (dM A.W x.1.to) x).out=[]:=H.l.w.out _ h j;have J:=k2.w t;have p:=k2.oth (H.ot _ h j);have F:=mq G.out (A.W.ns.eraseIdx b.n.toNat);have r:=ss o;have h1:dV (eg (dM A.W x.1.to) x)=dV (dM A.W x.1.to):=rfl;refine⟨A',u,k1,H.put l ⟨h,j⟩ k4 (k5.up (by omega) (by omega)) (by rw[k3.oth];exact p) (by rw[k3.oth];omega) (by rw[k7];have:=H.cs;omega) ?_ (k3.np (k2.np ((H.l.w.nd _ h j).heard x) (H.l.w.id _ h j) l y ((H.pf _ h j).heard x)))⟩;rw[k3.ck,k2.ck1];have:=z _ h j;show(dM A.W x.1.to).ck<=_;omega
  omega
 split
 .split;·rename_i E;obtain⟨x,o⟩:=DY E;obtain⟨h,j,-,-,y⟩:=H.l.w.to (List.mem_of_getElem? o);obtain⟨G,D,u,A',k1,k2,k3,k4,k5,k7⟩:=FM l H.l o q;have t:(eg (dM A.W x.1.to) x).out=[]:=H.l.w.out _ h j;have J:=k2.w t;have p:=k2.oth (H.ot _ h j);have F:=mq G.out A.W.ns;have aa:=Au x;have h1:dV (eg (dM A.W x.1.to) x)=dV (dM A.W x.1.to):=rfl;refine⟨A',u,k1,H.put l ⟨h,j⟩ k4 (k5.up (by omega) (by omega)) (by rw[k3.oth];exact p) (by rw[k3.oth];omega) (by rw[k7];have:=H.cs;omega) ?_ (k3.np (k2.np ((H.l.w.nd _ h j).heard x) (H.l.w.id _ h j) l y ((H.pf _ h j).heard x)))⟩;rw[k3.ck,k2.ck1];have:=z _ h j;show(dM A.W x.1.to).ck<=_;omega
  omega
 split
 .split
  .rename_i a;rw[H.l.nn]at a;have T:=H.cs;obtain⟨u,A',c,k1,k2,k3,k4,k5⟩:=FN l H.l ⟨a.1,a.2.1⟩ a.2.2 (by omega) q;refine⟨A',u,k1,H.put l ⟨a.1,a.2.1⟩ k2 (k3.up (by omega) (by omega)) (H.ot _ a.1 a.2.1) ?_ (by grind) ?_ ⟨fun e r=>?_,(H.pf _ a.1 a.2.1).f,(H.pf _ a.1 a.2.1).hv⟩⟩;·grind[dV,dM]
   .grind
   .rcases List.mem_append.1 r with r|r;·exact(H.pf _ a.1 a.2.1).P e r
    grind
  omega
 omega
def pk(l:List OpD)(A:dU):Option dU:=dt uf l A
theorem nq(c:3<=n/\n<=5):∀(l:List OpD) {B R:Int} {k:Nat} {A:dU} {g:Gh},Wd n B R k A g->k+l.length<=60->B<=10*k->R<=k->∃A' u,pk l A=some A'/\Wd n 600 60 60 A' u
 |[],B,R,k,A,g,H,a,h,j=>by
  rw[List.length_nil]at a;exact⟨A,g,rfl,H.l.up (by omega) (by omega),H.ot,by have:=H.ph;omega,by have:=H.cs;omega,fun i o p=>by have:=H.ck i o p;omega,H.pf⟩
 |b::l,B,R,k,A,g,H,a,h,j=>by
  rw[List.length_cons]at a;obtain⟨q,X,h1,h2⟩:=JO c H b (by omega) (by omega) (by omega);obtain⟨f,V,h3,h4⟩:=nq c l h2 (by omega) (by omega) (by omega);exact⟨f,V,(eG h1).trans h3,h4⟩
def g0:Gh:=⟨fun _=>none,fun _=>[],fun _ _=>0,[]⟩
def A0(n:Nat):dU:=⟨⟨n,(List.range' 1 n).map fun i:Nat=> .up (uG (i:Int) (n:Int) 1 0),[],0⟩,n,List.replicate n [],⟨0,0,1,2,if 4<=n then 3 else 0,if 5<=n then 4 else 0,0,0⟩,E8.all 0,0,[],[],E8.all 0,E8.all 0⟩
theorem x'(a:3<=n/\n<=5):uF n=some (A0 n):=by
 have:n=3\/n=4\/n=5:=by omega
 rcases this with rfl|rfl|rfl<;>rfl
theorem KR(a:1<=i/\i<=n)(b:3<=n/\n<=5):(A0 n).W.sl[i.toNat-1]? =some (.up (uG i n 1 0)):=by show((List.range' 1 n).map _)[i.toNat-1]? =_;grind
theorem uH(z:3<=n/\n<=5):Wd n 0 0 0 (A0 n) g0:=by
 have f:∀i:Int,1<=i->i<=n->dM (A0 n).W i=uG i n 1 0:=fun i a b=>by grind[dM,KR]
 have o:lh n (A0 n).W=fun _=>0:=by
  funext j;unfold lh;split;·rename_i h;rw[f j h.1 h.2];rfl
  .rfl
 have y:∀v,gZ g0 v=[]:=fun v=>rfl;refine⟨⟨rfl,⟨rfl,fun i a b=>by grind[KR],?_,rfl,List.Pairwise.nil,fun i a b=>?_,fun i a b=>by rw[f i a b];rfl,fun i a b=>?_,fun i a b=>?_,fun i a b=>by rw[f i a b];rfl,fun x l=>(by cases l),Int.le_refl _⟩,fun i a b=>by rw[f i a b];rfl,by show(List.replicate n _).length=n;simp,fun i a b=>?_,fun k _=>?_,?_,fun x l=>(by cases l),List.Pairwise.nil,⟨Int.le_refl _,Int.le_refl _⟩,⟨rfl,rfl⟩,fun c r=>(by cases r)⟩,fun i a b=>by rw[f i a b];exact Nat.zero_le _,?_,Nat.le_refl _,fun i a b=>by rw[f i a b];exact Int.le_refl _,fun i a b=>by rw[f i a b];exact⟨fun e h=>(by cases h),⟨fun q h=>(by cases h),List.Pairwise.nil,fun h=>(by cases h)⟩,fun h=>(by cases h)⟩⟩;·rw[o];exact⟨⟨fun v vs h=>(by cases h),fun v vs h=>(by cases h),fun v vs h=>(by cases h),fun v=>List.prefix_refl _⟩,fun v=>eT.nil,fun v vs h=>(by cases h),fun v _=>⟨rfl,fun _=>rfl⟩,fun v e h=>(by cases h),by decide,fun _ _=>Nat.le_refl _⟩
 .rw[o,f i a b];refine⟨rfl,⟨a,b⟩,rfl,rfl,rfl,⟨Int.le_refl _,Int.le_refl _⟩,fun _=>rfl,fun h=>absurd rfl h,fun h=>absurd rfl h,fun h=>absurd rfl h,fun h=>absurd rfl h,fun _ _=>rfl,fun v h=>(by cases h),fun h=>absurd rfl h,fun h=>(by cases h),⟨Int.le_refl _,by show(0:Int)<=_;omega,.inl rfl⟩,fun h=>(by cases h),fun w vs h=>(by cases h),fun e h=>(by cases h)⟩
 .rw[f i a b];refine⟨Int.le_refl _,⟨Int.le_refl _,Int.le_refl _⟩,⟨Int.le_refl _,by show(0:Int)<=300;decide,by decide⟩,⟨Int.le_refl _,Int.le_refl _⟩,⟨by show(1048576:Int)<=1*1048576;decide,by show(1*1048576:Int)<=1048576+0;decide⟩,by show([]:List (Int×Int)).length<=64;decide,fun q h=>(by cases h),⟨Int.le_refl _,Int.le_refl _⟩,fun q h=>(by cases h),fun j=>by show(E8.all 0).at j<=0;rw[E8.all_at];split<;>decide,by show((0:Nat):Int)<=64+0;decide,fun q h=>(by cases h),⟨by show(0:Nat)<=4;decide,fun e h=>(by cases h)⟩,fun j=>by show(E8.all 0).at j<=1;rw[E8.all_at];split<;>decide⟩
 .rw[f i a b];exact⟨List.Pairwise.nil,fun t h=>(by cases h),List.prefix_refl _,Nat.le_refl _⟩
 .rw[f i a b];have p:(A0 n).td.at i.toNat=0:=by show(E8.all 0).at _=0;rw[E8.all_at];split<;>rfl
  rw[p];refine⟨?_,Int.le_refl _,Int.le_refl _,?_⟩
  .have h3:n=3\/n=4\/n=5:=by omega
   have h5:i=1\/i=2\/i=3\/i=4\/i=5:=by omega
   rcases h5 with rfl|rfl|rfl|rfl|rfl;·rfl
   .rfl
   .rfl
   .show(if 4<=n then(3:Int)else 0)=3;omega
   .show(if 5<=n then(4:Int)else 0)=4;omega
  .show(List.replicate n [])[i.toNat-1]? =some [];grind
 .show(E8.all 0).at k=0;rw[E8.all_at];split<;>rfl
 .show((0:Nat):Int)<=yz (E8.all 0);decide
 .unfold wa
  have h1:mF n (fun i=>dV (dM (A0 n).W i))=0:=by
   have:n=3\/n=4\/n=5:=by omega
   rcases this with rfl|rfl|rfl<;>rfl
  rw[h1];exact Nat.le_refl _
end
end Go.Proofs.YtjhbmbbmjaabcaaGreat
