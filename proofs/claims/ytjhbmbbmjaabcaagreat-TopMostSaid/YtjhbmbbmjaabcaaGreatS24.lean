/-
  Contracts. Conditions stand at each.
-/
import Derived.Test.YtjhbmbbmjaabcaaGreatS23
set_option linter.all false
set_option maxRecDepth 8000
set_option maxHeartbeats 8000000
namespace Go.Proofs.YtjhbmbbmjaabcaaGreat
open Go Go.Sort Go.RowKit
section
variable{i:Nat} {C:Nat->Prop} {v:Value} {s:dp}
inductive mH where
 |up (s:dp)
 |dn (bt dv:Int)
structure eW where
 n:Nat
 sl:List mH
 ns:List (dz×List dj)
 rl:Int
def lf(w:World)(o:Ow)(u i:Nat)(n:Int):mH->Prop
 | .up s=>(∃x g A,w.cell? ⟨u,1+i*4,none⟩=some (de x)/\w.cell? ⟨u,1+i*4+1,none⟩=some (de g)/\di w o (32*i) x u (1+i*4+2) A s/\wT w o (32*i+21) g x)/\s.id=(i:Int)/\s.n=n
 | .dn bt a=>w.cell? ⟨u,1+i*4,none⟩=some (.pointer none)/\w.cell? ⟨u,1+i*4+1,none⟩=some (.pointer none)/\ni w o (32*i+13) u (1+i*4+2) bt a/\(0<=bt/\bt<1000)/\0<=a/\a<=1000000000
theorem mV(h:i<8):ox (1+i*4)=1:=by unfold ox;rw[if_neg (by omega)]
theorem qI(h:i<8):ox (1+i*4+1)=1:=by unfold ox;rw[if_neg (by omega)]
theorem lf.fr{C:Nat->Prop}{w m:World}{o l:Ow}{u i:Nat}{n:Int}{sd:mH}(h:lf w o u i n sd)(j:1<=i/\i<8)(a:u<w.heap.size/\o u=1)(k:Fm C o l w m)(p:¬C 0)(h1:¬C 1)(b:∀d,C d->d<32*i\/32*i+31<d):lf m l u i n sd:=by
 have f:=k.cel u (1+i*4) a.1 a.2 (by rw[mV j.2];exact h1)
 have c:=k.cel u (1+i*4+1) a.1 a.2 (by rw[qI j.2];exact h1)
 cases sd with
 |up s=>
  obtain⟨⟨x,g,A,h1,h2,h3,h4⟩,h5⟩:=h;exact⟨⟨x,g,A,f.trans h1,c.trans h2,h3.fr (by omega) k p (fun d q=>by have:=b d q;unfold rD;omega),h4.fr k (by omega) (fun e=>by have:=b _ e;omega)⟩,h5⟩
 |dn bt r=>
  obtain⟨h1,h2,h3,h4⟩:=h;exact⟨f.trans h1,c.trans h2,h3.fr k (fun e=>by have:=b _ e;omega),h4⟩
theorem lf.ext{w a:World}{o:Ow}{u i:Nat}{n:Int}{sd:mH}(h:lf w o u i n sd)(k:db w a):lf a o u i n sd:=by
 cases sd with
 |up s=>
  obtain⟨⟨x,g,A,h1,h2,h3,h4⟩,h5⟩:=h;exact⟨⟨x,g,A,db.cell k h1,db.cell k h2,h3.ext k,h4.ext k⟩,h5⟩
 |dn bt b=>
  obtain⟨h1,h2,h3,h4⟩:=h;exact⟨db.cell k h1,db.cell k h2,h3.ext k,h4⟩
structure fk (w:World) (o:Ow) (u g:Nat) (W:eW):Prop where
 col:o u=1
 hi:u<w.heap.size
 c0:w.cell? ⟨u,0,none⟩=some (.int .i64 (W.n:Int))
 c33:w.cell? ⟨u,33,none⟩=some (de g)
 c34:w.cell? ⟨u,34,none⟩=some (.int .i64 W.rl)
 fz:∀j,w.frozen? ⟨u,j,none⟩=false
 net:jf w o g W.ns
 hn:3<=W.n/\W.n<=7
 hr:0<=W.rl/\W.rl<=1000000
 sl:∀i,1<=i->i<=W.n->∃sd,W.sl[i-1]? =some sd/\lf w o u i (W.n:Int) sd
variable{w D:World} {o G:Ow} {u g:Nat} {W W':eW}
theorem fk.ext(h:fk w o u g W)(k:db w D):fk D o u g W:=
 ⟨h.col,Nat.lt_of_lt_of_le h.hi k.size,db.cell k h.c0,db.cell k h.c33,db.cell k h.c34,fun j=>(World.frozen?_of_block (k.block u h.hi)).trans (h.fz j),h.net.ext k,h.hn,h.hr,fun i h1 h2=>by
  obtain⟨a,e,v⟩:=h.sl i h1 h2
  exact⟨a,e,v.ext k⟩⟩
def fF(d:Nat):Prop:=d=1\/d=24\/d=25\/(32<=d/\d<288)
theorem jU:¬fF 0:=by unfold fF;omega
theorem tG(h:1<=i/\i<8):∀d,eh (32*i) d->fF d:=fun d a=>by unfold eh at a;unfold fF;omega
theorem oJ:∀d,lI d->fF d:=fun d a=>by unfold lI at a;unfold fF;omega
theorem fk.fr(h:fk w o u g W)(k:Fm C o G w D)(c:∀d,C d->d≠0/\¬fF d):fk D G u g W:=by
 have l:¬C 0:=fun e=>(c _ e).1 rfl;have h1:¬C 1:=fun e=>(c _ e).2 (by unfold fF;omega);have f:∀j,ox j=1->D.cell? ⟨u,j,none⟩=w.cell? ⟨u,j,none⟩:=fun j e=>k.cel u j h.hi h.col (by rw[e];exact h1)
 exact⟨(k.at h.hi (by rw[h.col];exact h1)).trans h.col,Nat.lt_of_lt_of_le h.hi k.size,(f 0 rfl).trans h.c0,(f 33 rfl).trans h.c33,(f 34 rfl).trans h.c34,fun j=>(k.frz u j h.hi h.col).trans (h.fz j),h.net.fr k l (fun e=>(c _ e).2 (by unfold fF;omega)) (fun e=>(c _ e).2 (by unfold fF;omega)),h.hn,h.hr,fun i a b=>by
  obtain⟨n,e,v⟩:=h.sl i a b;have:=h.hn
  exact⟨n,e,v.fr ⟨a,by omega⟩ ⟨h.hi,h.col⟩ k l h1 (fun d m=>by have:=(c d m).2;unfold fF at this;omega)⟩⟩
def zS(k d:Nat):Prop:=k<=d/\d<=k+21
theorem fk.goes(h:fk w o u g W)(t:1<=i/\i<=W.n)(k:Fm C o G w D)(c:∀d,C d->zS (32*i) d){sd:mH}(q:lf D G u i (W.n:Int) sd):fk D G u g {W with sl:=W.sl.set (i-1) sd}:=by
 have x:=h.hn;have l:¬C 0:=fun e=>by have:=c _ e;unfold zS at this;omega
 have h1:¬C 1:=fun e=>by have:=c _ e;unfold zS at this;omega
 have f:∀j,ox j=1->D.cell? ⟨u,j,none⟩=w.cell? ⟨u,j,none⟩:=fun j e=>k.cel u j h.hi h.col (by rw[e];exact h1);refine⟨(k.at h.hi (by rw[h.col];exact h1)).trans h.col,Nat.lt_of_lt_of_le h.hi k.size,(f 0 rfl).trans h.c0,(f 33 rfl).trans h.c33,(f 34 rfl).trans h.c34,fun j=>(k.frz u j h.hi h.col).trans (h.fz j),h.net.fr k l (fun e=>by have:=c _ e;unfold zS at this;omega) (fun e=>by have:=c _ e;unfold zS at this;omega),h.hn,h.hr,fun j a b=>?_⟩;obtain⟨r,e,v⟩:=h.sl j a b;by_cases n:j=i;·subst n;have p:j-1<W.sl.length:=(List.getElem?_eq_some_iff.1 e).1;exact⟨sd,by simp[p],q⟩
 .refine⟨r,?_,v.fr ⟨a,by simp only at b;omega⟩ ⟨h.hi,h.col⟩ k l h1 (fun d m=>by have:=c d m;unfold zS at this;omega)⟩;rw[<-e];simp only[List.getElem?_set];rw[if_neg (by omega)]
theorem fk.mails(h:fk w o u g W)(k:Fm lI o G w D){ns:List (dz×List dj)}(m:jf D G g ns):fk D G u g {W with ns:=ns}:=by
 have p:=h.hn;have f:¬lI 0:=by unfold lI;omega
 have h1:¬lI 1:=by unfold lI;omega
 have c:∀j,ox j=1->D.cell? ⟨u,j,none⟩=w.cell? ⟨u,j,none⟩:=fun j e=>k.cel u j h.hi h.col (by rw[e];exact h1);refine⟨(k.at h.hi (by rw[h.col];exact h1)).trans h.col,Nat.lt_of_lt_of_le h.hi k.size,(c 0 rfl).trans h.c0,(c 33 rfl).trans h.c33,(c 34 rfl).trans h.c34,fun j=>(k.frz u j h.hi h.col).trans (h.fz j),m,h.hn,h.hr,fun j a b=>?_⟩;obtain⟨n,e,v⟩:=h.sl j a b;exact⟨n,e,v.fr ⟨a,by simp only at b;omega⟩ ⟨h.hi,h.col⟩ k f h1 (fun d l=>by unfold lI at l;omega)⟩
theorem j9(h:fk w o u g W)(z:Int):
  Calls Tryz.prog 49 #[de u,.int .i64 z] w fun e b=>e=.returned (.bool (decide (1<=z)&&decide (z<=(W.n:Int))))/\w=b:=by
 have c:=h.c0;clear h;go_enter Tryz.func49,Tryz.ntmps49;by_cases h1:1<=z;·have a:decide (1<=z)=true:=decide_eq_true h1;clear h1;go_wp2;go_ret;simp[a]
 .have a:decide (1<=z)=false:=decide_eq_false h1;clear h1;go_wp2;go_ret;simp[a]
theorem fk.up(h:fk w o u g W)(a:1<=i/\i<=W.n)(b:W.sl[i-1]? =some (.up s)):∃x c A,w.cell? ⟨u,1+i*4,none⟩=some (de x)/\w.cell? ⟨u,1+i*4+1,none⟩=some (de c)/\di w o (32*i) x u (1+i*4+2) A s/\wT w o (32*i+21) c x/\s.id=(i:Int)/\s.n=(W.n:Int):=by obtain⟨d,e,v⟩:=h.sl i a.1 a.2;rw[b]at e;cases e;obtain⟨⟨x,c,A,h1,h2,h3,h4⟩,h5,h6⟩:=v;exact⟨x,c,A,h1,h2,h3,h4,h5,h6⟩
theorem fk.dn(h:fk w o u g W){bt dv:Int}(a:1<=i/\i<=W.n)(b:W.sl[i-1]? =some (.dn bt dv)):w.cell? ⟨u,1+i*4,none⟩=some (.pointer none)/\w.cell? ⟨u,1+i*4+1,none⟩=some (.pointer none)/\ni w o (32*i+13) u (1+i*4+2) bt dv/\(0<=bt/\bt<1000)/\0<=dv/\dv<=1000000000:=by obtain⟨c,e,v⟩:=h.sl i a.1 a.2;rw[b]at e;cases e;exact v
theorem oE{n:Nat}(h:1<=i/\i<=n):(decide (1<=(i:Int))&&decide ((i:Int)<=(n:Int)))=true:=by rw[Bool.and_eq_true,decide_eq_true_eq,decide_eq_true_eq];omega
theorem sy(h:fk w o u g W)(b:1<=i/\i<=W.n)(j:w.cell? ⟨u,1+i*4,none⟩=some v):
  Calls Tryz.prog 20 #[de u,.int .i64 (i:Int)] w fun e c=>e=.returned v/\w=c:=by
 have a:=hI (j9 h (i:Int));rw[oE b]at a;have d:(0:Int)<=(i:Int):=by omega
 have f:(i:Int)<8:=by have:=h.hn;omega
 clear h b;go_enter Tryz.func20,Tryz.ntmps20;go_wp2_with fail;refine a.o.mono ?_;rintro e k ⟨rfl,rfl⟩;go_wp2;go_ret;trivial
theorem eu(h:fk w o u g W)(a:1<=i/\i<=W.n)(d:W.sl[i-1]? =some (.up s)):
  Calls Tryz.prog 20 #[de u,.int .i64 (i:Int)] w fun e b=>∃x c A,e=.returned (de x)/\w.cell? ⟨u,1+i*4,none⟩=some (de x)/\w.cell? ⟨u,1+i*4+1,none⟩=some (de c)/\di w o (32*i) x u (1+i*4+2) A s/\wT w o (32*i+21) c x/\s.id=(i:Int)/\s.n=(W.n:Int)/\w=b:=by obtain⟨x,c,A,h1,h2⟩:=h.up a d;refine(sy h a h1).mono ?_;rintro e b ⟨rfl,rfl⟩;exact⟨x,c,A,rfl,h1,h2.1,h2.2.1,h2.2.2.1,h2.2.2.2.1,h2.2.2.2.2,rfl⟩
theorem jR(h:fk w o u g W){bt dv:Int}(a:1<=i/\i<=W.n)(b:W.sl[i-1]? =some (.dn bt dv)):
  Calls Tryz.prog 20 #[de u,.int .i64 (i:Int)] w fun e c=>e=.returned (.pointer none)/\w=c:=
 sy h a (h.dn a b).1
theorem Gs(h:fk w o u g W){z:Int}(b:(decide (1<=z)&&decide (z<=(W.n:Int)))=false):
  Calls Tryz.prog 20 #[de u,.int .i64 z] w fun e c=>e=.returned (.pointer none)/\w=c:=by have a:=hI (j9 h z);rw[b]at a;clear h b;go_enter Tryz.func20,Tryz.ntmps20;go_wp2_with fail;refine a.o.mono ?_;rintro e d ⟨rfl,rfl⟩;go_wp2;go_ret;trivial
theorem wK(h:fk w o u g W)(b:1<=i/\i<=W.n)(j:w.cell? ⟨u,1+i*4+1,none⟩=some v):
  Calls Tryz.prog 79 #[de u,.int .i64 (i:Int)] w fun e c=>e=.returned v/\w=c:=by
 have a:=hI (j9 h (i:Int));rw[oE b]at a;have d:(0:Int)<=(i:Int):=by omega
 have f:(i:Int)<8:=by have:=h.hn;omega
 clear h b;go_enter Tryz.func79,Tryz.ntmps79;go_wp2_with fail;refine a.o.mono ?_;rintro e k ⟨rfl,rfl⟩;go_wp2;go_ret;trivial
theorem t7(h:fk w o u g W)(b:1<=i/\i<=W.n):
  Calls Tryz.prog 57 #[de u,.int .i64 (i:Int)] w fun e c=>e=.returned (.pointer (some ⟨u,1+i*4+2,none⟩))/\w=c:=by
 have a:=hI (j9 h (i:Int));rw[oE b]at a;have d:(0:Int)<=(i:Int):=by omega
 have f:(i:Int)<8:=by have:=h.hn;omega
 clear h b;go_enter Tryz.func57,Tryz.ntmps57;go_wp2_with fail;refine a.o.mono ?_;rintro e j ⟨rfl,rfl⟩;go_wp2;go_ret;trivial
theorem wO(h:fk w o u g W):
  Calls Tryz.prog 38 #[de u] w fun e a=>e=.returned (de g)/\w=a:=by have b:=h.c33;clear h;go_enter Tryz.func38,Tryz.ntmps38;go_wp2;go_ret;trivial
theorem pc(h:fk w o u g W):
  Calls Tryz.prog 67 #[de u] w fun e a=>e=.returned (.int .i64 W.rl)/\w=a:=by have b:=h.c34;clear h;go_enter Tryz.func67,Tryz.ntmps67;go_wp2;go_ret;trivial
end
section
variable{ns:List (dz×List dj)} {x:dz×List dj} {k:Nat} {A:iS} {s:dp}
abbrev nk(b a n od lv:Int)(da:ByteArray):List Value:=[.int .i64 b,.int .i64 a,.int .i64 n,.int .i64 od,.int .i64 lv,.string da]
abbrev eX(b a n od lv:Int)(da:ByteArray):Array Value:=#[.int .i64 b,.int .i64 a,.int .i64 n,.int .i64 od,.int .i64 lv,.string da]
abbrev lm(b a n od lv:Int)(da:ByteArray):Value:=.agg #[.int .i64 b,.int .i64 a,.int .i64 n,.int .i64 od,.int .i64 lv,.string da]
def nI(s:dp)(x:dz×List dj):(dz×List dj)⊕Int:=
 if x.1.to=s.id then(if x.1.bt<s.bs.at x.1.fr.toNat then .inr 7 else .inl x)else .inr 1
theorem tv(h:eP x.1 x.2=true):ri s.id s.bs.at (hY x.1 x.2)=nI s x:=by unfold ri nI;obtain⟨h1,h2⟩:=l9 h;rw[vB h1 h2 h]
def oU(W:eW)(i:Nat)(s s':dp)(ms:List (dz×List dj)):Option eW:=
 if decide (s'.id=s.id/\s'.n=s.n)then some {W with sl:=W.sl.set (i-1) (.up s'),ns:=fd W.ns ms}else none
def j6(a:Bool)(k:Nat)(W:eW):Option eW:=
 match W.ns[k]? with
 |none=>none
 |some x=>
  if a then some {W with ns:=W.ns.eraseIdx k}
  else if decide (1<=x.1.to/\x.1.to<=(W.n:Int))then
   match W.sl[x.1.to.toNat-1]? with
   |some (.up s)=>
    match nJ s (nI s x)with
    |none=>none
    |some r=>oU {W with ns:=W.ns.eraseIdx k} x.1.to.toNat s r.2 r.1
   |_=>none
  else none
def r'(i:Nat)(W:eW):Option eW:=
 match W.sl[i-1]? with
 |some (.up s)=>
  match pK s with
  |none=>none
  |some r=>oU W i s r.2 r.1
 |_=>none
def nt(i:Nat)(od lv:Int)(da:ByteArray)(W:eW):Option eW:=
 match W.sl[i-1]? with
 |some (.up s)=>
  match qF s od lv da with
  |none=>none
  |some a=>if decide (a.id=s.id/\a.n=s.n)then some {W with sl:=W.sl.set (i-1) (.up a)}else none
 |_=>none
variable{w G:World} {o D:Ow} {u g:Nat} {W W':eW}
theorem lf.go{i x c:Nat}{s':dp}{n:Int}(b:1<=i/\i<8)(a:u<w.heap.size/\o u=1)(h1:w.cell? ⟨u,1+i*4,none⟩=some (de x))(h2:w.cell? ⟨u,1+i*4+1,none⟩=some (de c))(f:wT w o (32*i+21) c x)(h:s.id=(i:Int))(j:s.n=n)
  (F:Fm (eh (32*i)) o D w G)(N:di G D (32*i) x u (1+i*4+2) A s')(e:s'.id=s.id/\s'.n=s.n):lf G D u i n (.up s'):=by
 have d:¬eh (32*i) 1:=by unfold eh;omega
 exact⟨⟨x,c,A,(F.cel u (1+i*4) a.1 a.2 (by rw[mV b.2];exact d)).trans h1,(F.cel u (1+i*4+1) a.1 a.2 (by rw[qI b.2];exact d)).trans h2,N,f.fr F (by omega) (by unfold eh;omega)⟩,by rw[e.1];exact h,by rw[e.2];exact j⟩
theorem fk.said{i x c:Nat}{s':dp}(H:fk w o u g W)(b:1<=i/\i<=W.n)(h1:w.cell? ⟨u,1+i*4,none⟩=some (de x))(h2:w.cell? ⟨u,1+i*4+1,none⟩=some (de c))(f:wT w o (32*i+21) c x)(h:s.id=(i:Int))(j:s.n=(W.n:Int))
  (F:Fm (eh (32*i)) o D w G)(N:di G D (32*i) x u (1+i*4+2) A s')(e:s'.id=s.id/\s'.n=s.n):fk G D u g {W with sl:=W.sl.set (i-1) (.up s')}:=
 H.goes b F (fun d a=>⟨a.1,Nat.le_succ_of_le a.2⟩) (lf.go ⟨b.1,by have:=H.hn;omega⟩ ⟨H.hi,H.col⟩ h1 h2 f h j F N e)
theorem uZ(h:jf w o g ns)(f:ns[k]? =some x):
  Calls Tryz.prog 47 #[de g,.int .i64 (k:Int)] w fun e c=>∃b n a,e=.returned (.tuple #[.slice b n a,.bool true])/\gK c w.heap.size b n a (hY x.1 x.2)/\n<=6000/\db w c:=by obtain⟨d,rfl⟩:=List.getElem?_eq_some_iff.1 f;exact Cz h d
theorem Kv(h:jf w o g ns)(b:ns[k]? =some x):
  Calls Tryz.prog 85 #[de g,.int .i64 (k:Int)] w fun e c=>e=.returned (.int .i64 x.1.to)/\w=c:=by obtain⟨a,rfl⟩:=List.getElem?_eq_some_iff.1 b;exact Jc h a
theorem Gl(b:Cl w o)(h:jf w o g ns)(c:ns[k]? =some x):
  Calls Tryz.prog 86 #[de g,.int .i64 (k:Int)] w fun e a=>e=.returned (.bool true)/\jf a o g (ns.eraseIdx k)/\Fm lI o o w a:=
 Cx b h (List.getElem?_eq_some_iff.1 c).1
theorem t8(X:Cl w o)(h:fk w o u g W){a od lv:Int}{da:ByteArray}{k:Nat}(p:j6 false k W=some W'):
  Calls Tryz.prog 65 #[de u,lm 3 a (k:Int) od lv da] w fun e w'=>e=.returned (.int .i64 0)/\∃o',fk w' o' u g W'/\Fm fF o o' w w':=by
 unfold j6 at p
 cases S:W.ns[k]? with
 |none=>rw[S]at p;cases p
 |some x=>
 rw[S]at p
 simp only at p
 have O:=hI S
 have t:=hI p
 have H:=h
 have f5:((3:Int) !=5)=true:=rfl
 have f4:((3:Int) !=4)=true:=rfl
 have an:=h.net
 clear h p S
 go_enter Tryz.func65,Tryz.ntmps65
 go_upto_region 1 with fail
 change Code.wp _ _ _ _ (w.alloc (.cells (eX 3 a (k:Int) od lv da) 28))
 have A0:=db.alloc w (.cells (eX 3 a (k:Int) od lv da) 28)
 have y:=dq.loose X (eX 3 a (k:Int) od lv da) (nk 3 a (k:Int) od lv da) 28 rfl
 replace H:=H.ext A0
 have P:=Fm.ext (C:=fF) X A0
 clear A0 X
 generalize w.alloc (.cells (eX 3 a (k:Int) od lv da) 28)=w1 at*
 generalize w.heap.size=sb at*
 obtain⟨W2,d,z⟩:=eS w1
 replace H:=H.ext z
 replace y:=y.ext z
 have F:=rg W2 H.c33
 have I:=rg W2 (y.box.c 2 _ rfl)
 refine eA [0,1,2,3,4,5,6,7,8,9,10,11] [] ?_
 rw[<-d]
 clear d
 repeat((first|refine dC fun K b=>?_|refine dB fun K b=>?_);go_big_quiet_op;refine b _ ?_;clear b K)
 refine eF fun K b=>?_
 go_simp
 refine(uZ H.net O.o).mono ?_
 rintro e w3 ⟨pb,nb,cb,rfl,n,af,N⟩
 have am:=hI af
 have aj:Hid (∀i,pb.map (·.block)=some i->o i=0):=hI (fun i m=>(P.cl.ext z) i ((n.lt i m).1))
 have f:=H.ext N
 have j:=y.ext N
 have Z:=P.tr (Fm.ext P.cl (z.tr N)) jU
 refine b _ _ N ?_
 clear b K N af H y P z F I
 repeat((first|refine dC fun K b=>?_|refine dB fun K b=>?_);go_big_quiet_op;refine b _ ?_;clear b K)
 refine dh ?_
 refine df ?_
 go_upto_region 4 with fail
 obtain⟨W4,d,B⟩:=eS w3
 replace f:=f.ext B
 replace j:=j.ext B
 replace n:=n.ext B
 have F:=rg W4 f.c33
 have I:=rg W4 (j.box.c 2 _ rfl)
 refine eA [0,1,2,3,4,5,6,7] [] ?_
 rw[<-d]
 clear d
 repeat((first|refine dC fun K b=>?_|refine dB fun K b=>?_);go_big_quiet_op;refine b _ ?_;clear b K)
 refine eF fun K b=>?_
 go_simp
 refine(Kv f.net O.o).mono ?_
 rintro e w5 ⟨rfl,rfl⟩
 refine b _ _ (db.rfl' _) ?_;clear b K
 repeat((first|refine dC fun K b=>?_|refine dB fun K b=>?_);go_big_quiet_op;refine b _ ?_;clear b K)
 refine dh ?_
 refine df ?_
 have Q:=Z.tr (Fm.ext Z.cl B) jU
 clear B Z F I
 have E:=j.box.c 0 _ rfl
 go_upto_region 6 with fail
 clear E
 obtain⟨W6,d,v⟩:=eS W4
 replace f:=f.ext v
 replace j:=j.ext v
 replace n:=n.ext v
 have F:=rg W6 f.c33
 have I:=rg W6 (j.box.c 2 _ rfl)
 refine eA [0,1,2,3,4,5] [6] ?_
 rw[<-d]
 clear d
 repeat((first|refine dC fun K b=>?_|refine dB fun K b=>?_);go_big_quiet_op;refine b _ ?_;clear b K)
 refine dh ?_
 refine iD fun K b=>?_
 go_simp
 refine(Gl (Q.cl.ext v) f.net O.o).mono ?_
 rintro e w7 ⟨rfl,n7,M⟩
 have l:=f.mails M n7
 have ae:=j.fr M (by decide) (by unfold lI;omega)
 have T:=gK.fr n M (fun i m=>by rw[aj.o i m];unfold lI;omega)
 have M7:=(Q.tr (Fm.ext Q.cl v) jU).tr (M.mono oJ) jU
 refine b _ _ ?_
 clear b K n7 M f j n Q v F I
 refine df ?_
 have E:=ae.box.c 0 _ rfl
 clear E
 have E:=ae.box.c 0 _ rfl
 go_upto_region 8 with fail
 clear E
 have c:=t.o
 simp only[Bool.false_eq_true,if_false]at c
 split at c
 case isFalse=>cases c
 rename_i ag
 have Y:=hI (of_decide_eq_true ag)
 obtain⟨i,m⟩:∃i:Nat,x.1.to=(i:Int):=⟨x.1.to.toNat,by have:=Y.o.1;omega⟩
 have HI:=hI m
 have q:Hid (1<=i/\i<=W.n):=hI (by have:=Y.o;rw[m]at this;omega)
 rw[m,Int.toNat_natCast]at c
 replace t:=hI c
 clear c ag m Y
 rw[HI.o]
 cases L:W.sl[i-1]? with
 |none=>
  have:=t.o;rw[L]at this;cases this
 |some sd=>
 cases sd with
 |dn bt dv=>
  have:=t.o;rw[L]at this;cases this
 |up s=>
  have c:=t.o
  rw[L]at c
  simp only at c
  cases hr:nJ s (nI s x)with
  |none=>rw[hr]at c;cases c
  |some r=>
  rw[hr]at c
  simp only at c
  obtain⟨ms,s'⟩:=r
  unfold oU at c
  split at c
  case isFalse=>cases c
  rename_i J
  have ak:=hI (of_decide_eq_true J)
  have HR:=hI hr
  have HW:=hI (Option.some.inj c)
  have ao:Hid (({W with ns:=W.ns.eraseIdx k}:eW).sl[i-1]? =some (.up s)):=hI L
  have al:Hid (eP x.1 x.2=true):=hI (by
   obtain⟨_,_,_,_,_,hm⟩:=an
   exact hm x (List.mem_of_getElem? O.o))
  clear t c L J hr
  obtain⟨W8,d,R⟩:=eS w7
  replace l:=l.ext R
  replace T:=T.ext R
  have az:=fun(qq:dN (CL [(⟨u,33,none⟩,de g)]))=>(qq.h.1:qq.w.cell? ⟨u,33,none⟩=some (de g))
  refine zx [0,1,2,3,4,5,7,6,8,9] (CL [(⟨u,33,none⟩,de g)]) (by rw[<-d];exact⟨l.c33,trivial⟩) (fun _=>?_)
  rw[<-d]
  clear d
  repeat((first|refine kv fun K b=>?_|refine kt fun K b=>?_);go_big_quiet_op;refine b _ ?_;clear b K)
  have M8:=M7.tr (Fm.ext M7.cl R) jU
  clear R M7
  refine l7 fun K b=>?_
  go_simp
  refine(eu l q.o ao.o).mono ?_
  rintro e w9 ⟨xx,cc,A,rfl,h1,h2,ND,ac,J,hn,rfl⟩
  have Q1:=hI h1
  have Q2:=hI h2
  have QI:=hI (And.intro J hn)
  clear h1 h2 J hn
  refine b (CL [(⟨u,33,none⟩,de g)]) _ _ (fun _ h=>h) ⟨l.c33,trivial⟩ (fun _=>?_)
  clear b K
  repeat((first|refine kv fun K b=>?_|refine kt fun K b=>?_);go_big_quiet_op;refine b _ ?_;clear b K)
  refine l7 fun K b=>?_
  go_simp
  refine(tF M8.cl (by have:=q.o;omega) ND T.sl am.o (tv al.o) HR.o).mono ?_
  rintro e aA ⟨ax,av,ay,aw,rfl,aq,ai,aa⟩
  have U:=l.said q.o Q1.o Q2.o ac QI.o.1 QI.o.2 aa ai ak.o
  have ad:=M8.tr (aa.mono (tG ⟨q.o.1,by have h1:3<=W.n/\W.n<=7:=l.hn;have h2:=q.o.2;omega⟩)) jU
  clear ai aa Q1 Q2 ND ac l M8
  refine b (CL [(⟨u,33,none⟩,de g)]) _ _ (fun _ h=>h) ⟨U.c33,trivial⟩ (fun _=>?_)
  clear b K
  repeat((first|refine kv fun K b=>?_|refine kt fun K b=>?_);go_big_quiet_op;refine b _ ?_;clear b K)
  refine l7 fun K b=>?_
  go_simp
  refine(mw ad.cl U.net aq (by have:=q.o;omega)).mono ?_
  rintro e au ⟨ar,aB,rfl,ah,ab⟩
  have V:=U.mails ab ah
  have ap:=ad.tr (ab.mono oJ) jU
  clear ah ab
  refine b (fun W=>W=au) _ _ (fun W h=>by rw[h];exact⟨V.c33,trivial⟩) rfl (fun _=>?_)
  clear b K
  refine gG ?_
  rw[show({({({W with ns:=W.ns.eraseIdx k}:eW)with sl:=W.sl.set (i-1) (.up s')}:eW)with ns:=fd (W.ns.eraseIdx k) ms}:eW)=W' from HW.o]at V
  go_wp2
  go_ret
  exact⟨rfl,ar,V,ap⟩
theorem yM(F:Cl w o)(h:fk w o u g W){a od lv:Int}{da:ByteArray}{k:Nat}(l:j6 true k W=some W'):
  Calls Tryz.prog 65 #[de u,lm 4 a (k:Int) od lv da] w fun e U=>e=.returned (.int .i64 0)/\∃T,fk U T u g W'/\Fm fF o T w U:=by
 unfold j6 at l
 cases E:W.ns[k]? with
 |none=>rw[E]at l;cases l
 |some x=>
 rw[E]at l
 simp only at l
 have I:=hI E
 have X:=hI l
 have H:=h
 have f5:((4:Int) !=5)=true:=rfl
 have f4:((4:Int) !=4)=false:=rfl
 clear h l E
 go_enter Tryz.func65,Tryz.ntmps65
 go_upto_region 1 with fail
 change Code.wp _ _ _ _ (w.alloc (.cells (eX 4 a (k:Int) od lv da) 28))
 have A0:=db.alloc w (.cells (eX 4 a (k:Int) od lv da) 28)
 have n:=dq.loose F (eX 4 a (k:Int) od lv da) (nk 4 a (k:Int) od lv da) 28 rfl
 replace H:=H.ext A0
 have z:=Fm.ext (C:=fF) F A0
 clear A0 F
 generalize w.alloc (.cells (eX 4 a (k:Int) od lv da) 28)=w1 at*
 generalize w.heap.size=sb at*
 obtain⟨O,f,p⟩:=eS w1
 replace H:=H.ext p
 replace n:=n.ext p
 have r:=rg O H.c33
 have t:=rg O (n.box.c 2 _ rfl)
 refine eA [0,1,2,3,4,5,6,7,8,9,10,11] [] ?_
 rw[<-f]
 clear f
 repeat((first|refine dC fun K b=>?_|refine dB fun K b=>?_);go_big_quiet_op;refine b _ ?_;clear b K)
 refine eF fun K b=>?_
 go_simp
 refine(uZ H.net I.o).mono ?_
 rintro e w3 ⟨pb,nb,cb,rfl,j,R,y⟩
 have ab:=hI R
 have V:Hid (∀i,pb.map (·.block)=some i->o i=0):=hI (fun i M=>(z.cl.ext p) i ((j.lt i M).1))
 have c:=H.ext y
 have d:=n.ext y
 have J:=z.tr (Fm.ext z.cl (p.tr y)) jU
 refine b _ _ y ?_
 clear b K y R H n z p r t
 repeat((first|refine dC fun K b=>?_|refine dB fun K b=>?_);go_big_quiet_op;refine b _ ?_;clear b K)
 refine dh ?_
 refine df ?_
 go_upto_region 4 with fail
 obtain⟨L,f,q⟩:=eS w3
 replace c:=c.ext q
 replace d:=d.ext q
 replace j:=j.ext q
 have r:=rg L c.c33
 have t:=rg L (d.box.c 2 _ rfl)
 refine eA [0,1,2,3,4,5,6,7] [] ?_
 rw[<-f]
 clear f
 repeat((first|refine dC fun K b=>?_|refine dB fun K b=>?_);go_big_quiet_op;refine b _ ?_;clear b K)
 refine eF fun K b=>?_
 go_simp
 refine(Kv c.net I.o).mono ?_
 rintro e w5 ⟨rfl,rfl⟩
 refine b _ _ (db.rfl' _) ?_;clear b K
 repeat((first|refine dC fun K b=>?_|refine dB fun K b=>?_);go_big_quiet_op;refine b _ ?_;clear b K)
 refine dh ?_
 refine df ?_
 have B:=J.tr (Fm.ext J.cl q) jU
 clear q J r t
 have Q:=d.box.c 0 _ rfl
 go_upto_region 6 with fail
 clear Q
 obtain⟨P,f,m⟩:=eS L
 replace c:=c.ext m
 replace d:=d.ext m
 replace j:=j.ext m
 have r:=rg P c.c33
 have t:=rg P (d.box.c 2 _ rfl)
 refine eA [0,1,2,3,4,5] [6] ?_
 rw[<-f]
 clear f
 repeat((first|refine dC fun K b=>?_|refine dB fun K b=>?_);go_big_quiet_op;refine b _ ?_;clear b K)
 refine dh ?_
 refine iD fun K b=>?_
 go_simp
 refine(Gl (B.cl.ext m) c.net I.o).mono ?_
 rintro e w7 ⟨rfl,S,v⟩
 have N:=c.mails v S
 have aa:=d.fr v (by decide) (by unfold lI;omega)
 have B7:=gK.fr j v (fun i M=>by rw[V.o i M];unfold lI;omega)
 have Z:=(B.tr (Fm.ext B.cl m) jU).tr (v.mono oJ) jU
 refine b _ _ ?_
 clear b K S v c d j B m r t
 refine df ?_
 have Q:=aa.box.c 0 _ rfl
 have Y:Hid ({W with ns:=W.ns.eraseIdx k}=W'):=hI (by
  have:=X.o;simp only[if_true]at this
  exact Option.some.inj this)
 rw[Y.o]at N
 go_wp2
 go_ret
 exact⟨rfl,o,N,Z⟩
end
section
variable{w O:World} {o N:Ow} {G g:Nat} {W W':eW}
theorem fk.put2(h:fk w o G g W)(y:Cl w o){i:Nat}(H:1<=i/\i<=W.n)(v u:Value){sd:mH}(D:Fm (one 1) o o w ((w.setCell ⟨G,1+i*4,none⟩ v).setCell ⟨G,1+i*4+1,none⟩ u)->lf ((w.setCell ⟨G,1+i*4,none⟩ v).setCell ⟨G,1+i*4+1,none⟩ u) o G i (W.n:Int) sd):
  fk ((w.setCell ⟨G,1+i*4,none⟩ v).setCell ⟨G,1+i*4+1,none⟩ u) o G g {W with sl:=W.sl.set (i-1) sd}/\Fm fF o o w ((w.setCell ⟨G,1+i*4,none⟩ v).setCell ⟨G,1+i*4+1,none⟩ u):=by
 have I:=h.hn;have l:=Fm.cell1 (C:=one 1) y (g:=G) (j:=1+i*4) v h.col (mV (by omega));have F2:=Fm.cell1 (C:=one 1) l.cl (g:=G) (j:=1+i*4+1) u h.col (qI (by omega));have F:=l.tr F2 (by unfold one;omega);have S:=D F;have f:∀j,j≠1+i*4->j≠1+i*4+1->((w.setCell ⟨G,1+i*4,none⟩ v).setCell ⟨G,1+i*4+1,none⟩ u).cell? ⟨G,j,none⟩=w.cell? ⟨G,j,none⟩:=fun j h1 h2=>by rw[World.cell?_setCell_other (h:=by simp<;>omega),World.cell?_setCell_other (h:=by simp<;>omega)]
 have t:Fm fF o o w ((w.setCell ⟨G,1+i*4,none⟩ v).setCell ⟨G,1+i*4+1,none⟩ u):=F.mono (fun d k=> .inl k);generalize(w.setCell ⟨G,1+i*4,none⟩ v).setCell ⟨G,1+i*4+1,none⟩ u=J at*;have p:¬one 1 0:=by unfold one;omega
 refine⟨⟨h.col,Nat.lt_of_lt_of_le h.hi F.size,(f 0 (by omega) (by omega)).trans h.c0,(f 33 (by omega) (by omega)).trans h.c33,(f 34 (by omega) (by omega)).trans h.c34,fun j=>(F.frz G j h.hi h.col).trans (h.fz j),h.net.fr F p (by unfold one;omega) (by unfold one;omega),h.hn,h.hr,fun j a b=>?_⟩,t⟩;obtain⟨q,e,r⟩:=h.sl j a b;by_cases z:j=i;·subst z;have B:j-1<W.sl.length:=(List.getElem?_eq_some_iff.1 e).1;exact⟨sd,by simp[B],S⟩
 .refine⟨q,?_,?_⟩;·rw[<-e];simp only[List.getElem?_set];rw[if_neg (by omega)]
  .have n:=f (1+j*4) (by omega) (by omega);have m:=f (1+j*4+1) (by omega) (by omega);cases q with
   |up s=>
    obtain⟨⟨x,c,A,h1,h2,h3,h4⟩,h5⟩:=r;exact⟨⟨x,c,A,n.trans h1,m.trans h2,h3.fr (by omega) F p (fun d k=>by unfold one at k;unfold rD;omega),h4.fr F (by omega) (by unfold one;omega)⟩,h5⟩
   |dn bt E=>
    obtain⟨h1,h2,h3,h4⟩:=r;exact⟨n.trans h1,m.trans h2,h3.fr F (by unfold one;omega),h4⟩
def uT(i:Nat)(W:eW):Option eW:=
 match W.sl[i-1]? with
 |some (.dn bt a)=>if decide (bt+1<1000)then some {W with sl:=W.sl.set (i-1) (.up (uG (i:Int) (W.n:Int) (bt+1) a))}else none
 |_=>none
theorem yO(J:Cl w o)(h:fk w o G g W){i:Nat}(E:1<=i/\i<=W.n)(l:uT i W=some W'):
  Calls Tryz.prog 82 #[de G,.int .i64 (i:Int)] w fun e X=>e=.returned (.int .i64 0)/\∃U,fk X U G g W'/\Fm fF o U w X:=by
 unfold uT at l;split at l;case h_2=>cases l
 rename_i bt j I;split at l;case isFalse=>cases l
 rename_i R;have Z:=hI (of_decide_eq_true R);have HW:=hI (Option.some.inj l);have D:=hI (h.dn E I);have L:=hI I;have a:=hI E;have H:=h;have f1:(0:Int)<=(i:Int):=by omega
 have f2:(i:Int)<8:=by have:=h.hn;omega
 have Q:=D.o.1;clear h E l I R;go_enter Tryz.func82,Tryz.ntmps82;go_upto_region 4 with fail;clear Q;obtain⟨y,B,z⟩:=eS w;replace H:=H.ext z;have r0:=fun(V:dN (CL [(⟨G,0,none⟩,.int .i64 (W.n:Int))]))=>(V.h.1:V.w.cell? ⟨G,0,none⟩=some (.int .i64 (W.n:Int)));refine zx [0,1,2,3,4,5,6,7,8,9,10,11,12,13] (CL [(⟨G,0,none⟩,.int .i64 (W.n:Int))]) (by rw[<-B];exact⟨H.c0,trivial⟩) (fun _=>?_);rw[<-B];clear B;repeat((first|refine kv fun K b=>?_|refine kt fun K b=>?_);go_big_quiet_op;refine b _ ?_;clear b K)
 have t:=Fm.ext (C:=fF) J z;have f:Hid (y.cell? ⟨G,1+i*4,none⟩=some (.pointer none)/\y.cell? ⟨G,1+i*4+1,none⟩=some (.pointer none)/\ni y o (32*i+13) G (1+i*4+2) bt j/\(0<=bt/\bt<1000)/\0<=j/\j<=1000000000):=hI (H.dn a.o L.o);clear D J z;refine l7 fun K b=>?_;go_simp;refine(BH (k:=32*i) t.cl (by have:=a.o;omega) ⟨by have:=a.o;omega,by have:=a.o;omega⟩ (by have:=H.hn;omega) f.o.2.2.2.1 f.o.2.2.2.2 f.o.2.2.1).mono ?_;rintro e w3 ⟨o3,x,A,rfl,v,n⟩
 have r:=H.goes (sd:=.dn (bt+1) j) a.o n (fun d p=>⟨p.1,Nat.le_succ_of_le p.2⟩) (by
  have T:¬eh (32*i) 1:=by unfold eh;have:=a.o;omega
  have S:i<8:=by have:=H.hn;have:=a.o;omega
  exact⟨(n.cel G (1+i*4) H.hi H.col (by rw[mV S];exact T)).trans f.o.1,(n.cel G (1+i*4+1) H.hi H.col (by rw[qI S];exact T)).trans f.o.2.1,v.q.dk,⟨by have:=f.o.2.2.2.1;omega,Z.o⟩,f.o.2.2.2.2⟩)
 have u:=t.tr (n.mono (tG ⟨a.o.1,by have:=H.hn;have:=a.o;omega⟩)) jU;clear n H t f;refine b (CL [(⟨G,0,none⟩,.int .i64 (W.n:Int))]) _ _ (fun _ h=>h) ⟨r.c0,trivial⟩ (fun _=>?_);clear b K;repeat((first|refine kv fun K b=>?_|refine kt fun K b=>?_);go_big_quiet_op;refine b _ ?_;clear b K)
 refine gG ?_;go_wp2_with fail;refine(Dl u.cl (32*i+21) x).mono ?_;rintro e O ⟨c,N,rfl,Y,q⟩;have N4:=v.fr (by have:=a.o;omega) q (fun e=>e) (fun d e=>e.elim);have s:=r.fr q (fun d e=>e.elim);have M:=u.tr (q.mono (fun d e=>e.elim)) jU;clear q v r u
 have m:=hI (s.dn (i:=i) (bt:=bt+1) (dv:=j) a.o (by
  have hl:i-1<W.sl.length:=(List.getElem?_eq_some_iff.1 L.o).1
  simp[hl]))
 have Q:=m.o.1;have cc:=m.o.2.1;have fz:=s.fz
 obtain⟨aa,P⟩:=s.put2 (sd:=.up (uG (i:Int) (W.n:Int) (bt+1) j)) M.cl a.o (de x) (de c) (fun F=>by
  have h0:¬one 1 0:=by unfold one;omega
  refine⟨⟨x,c,A,?_,?_,N4.fr (by have:=a.o;omega) F h0 (fun d p=>by unfold one at p;unfold rD;have:=a.o;omega),Y.fr F (by omega) (by unfold one;have:=a.o;omega)⟩,rfl,rfl⟩;·rw[World.cell?_setCell_other (h:=by simp<;>omega)];exact World.cell?_setCell_same (h:=m.o.1) ..
  .exact World.cell?_setCell_same (h:=by rw[World.cell?_setCell_other (h:=by simp<;>omega)];exact m.o.2.1) ..)
 have ab:=M.tr P jU;clear P m;go_wp2;go_ret;refine⟨rfl,N,?_,ab⟩;have:=aa;rw[List.set_set]at this;rw[<-HW.o];exact this
theorem CF(D:Cl w o)(h:fk w o G g W){k od lv:Int}{da:ByteArray}{i:Nat}(S:1<=i/\i<=W.n)(X:r' i W=some W'):
  Calls Tryz.prog 66 #[de G,lm 2 (i:Int) k od lv da] w fun e w'=>e=.returned (.int .i64 0)/\∃o',fk w' o' G g W'/\Fm fF o o' w w':=by
 have L:=hI X
 have d:=hI S
 have H:=h
 have f1:(0:Int)<=(i:Int):=by omega
 have f2:(i:Int)<8:=by have:=h.hn;omega
 have f7:((2:Int)==7)=false:=rfl
 have f6:((2:Int)==6)=false:=rfl
 have f2:((2:Int)==2)=true:=rfl
 clear h X S
 go_enter Tryz.func66,Tryz.ntmps66
 go_upto_region 1 with fail
 change Code.wp _ _ _ _ (w.alloc (.cells (eX 2 (i:Int) k od lv da) 28))
 have A0:=db.alloc w (.cells (eX 2 (i:Int) k od lv da) 28)
 have n:=dq.loose D (eX 2 (i:Int) k od lv da) (nk 2 (i:Int) k od lv da) 28 rfl
 replace H:=H.ext A0
 have E:=Fm.ext (C:=fF) D A0
 clear A0 D
 generalize w.alloc (.cells (eX 2 (i:Int) k od lv da) 28)=w1 at*
 generalize w.heap.size=sb at*
 have d1:=n.box.c 1 _ rfl
 go_wp2_with fail
 refine(j9 H (i:Int)).mono ?_
 rw[oE d.o]
 rintro e w2 ⟨rfl,rfl⟩
 go_upto_region 3 with fail
 clear d1
 obtain⟨R,l,v⟩:=eS w1
 replace H:=H.ext v
 replace n:=n.ext v
 have ag:=rg R (n.box.c 1 _ rfl)
 refine eA [0,1,2,3,4,5,6] [] ?_
 rw[<-l]
 clear l
 repeat((first|refine dC fun K a=>?_|refine dB fun K a=>?_);go_big_quiet_op;refine a _ ?_;clear a K)
 refine dh ?_
 refine df ?_
 have F:=E.tr (Fm.ext E.cl v) jU
 clear v E ag
 have d0:=n.box.c 0 _ rfl
 have b:=L.o
 unfold r' at b
 split at b
 case h_2=>cases b
 rename_i s Y
 obtain⟨x,c,A,q1,q2,t,q,T,V⟩:=H.up d.o Y
 cases hr:pK s with
 |none=>rw[hr]at b;cases b
 |some r=>
 rw[hr]at b
 simp only at b
 obtain⟨ms,s'⟩:=r
 unfold oU at b
 split at b
 case isFalse=>cases b
 rename_i U
 have ac:=hI (of_decide_eq_true U)
 have HR:=hI hr
 have HW:=hI (Option.some.inj b)
 have j:=hI q1
 have u:=hI q2
 have Q:=hI (And.intro T V)
 clear L b Y U hr q2 T V
 go_upto_region 12 with fail
 clear d0 q1
 obtain⟨W3,l,f⟩:=eS R
 replace H:=H.ext f
 have an:=fun(p:dN (CL [(⟨G,33,none⟩,de g),(⟨G,1+i*4,none⟩,de x)]))=>(p.h.1:p.w.cell? ⟨G,33,none⟩=some (de g))
 have rx:=fun(p:dN (CL [(⟨G,33,none⟩,de g),(⟨G,1+i*4,none⟩,de x)]))=>(p.h.2.1:p.w.cell? ⟨G,1+i*4,none⟩=some (de x))
 refine zx [0,1,2,3,4,5,6,7,8,9] (CL [(⟨G,33,none⟩,de g),(⟨G,1+i*4,none⟩,de x)]) (by rw[<-l];exact⟨H.c33,(db.cell f j.o),trivial⟩) (fun _=>?_)
 rw[<-l]
 clear l
 repeat((first|refine kv fun K a=>?_|refine kt fun K a=>?_);go_big_quiet_op;refine a _ ?_;clear a K)
 replace j:=hI (db.cell f j.o)
 replace u:=hI (db.cell f u.o)
 replace t:=t.ext f
 replace q:=q.ext f
 have I:=F.tr (Fm.ext F.cl f) jU
 clear f F
 refine l7 fun K a=>?_
 go_simp
 refine(tL I.cl (by have:=d.o;omega) t HR.o).mono ?_
 rintro e ao ⟨al,aj,am,ak,rfl,ae,aa,y⟩
 have m:=H.said d.o j.o u.o q Q.o.1 Q.o.2 y aa ac.o
 have n1:¬eh (32*i) 1:=by unfold eh;have:=d.o;omega
 have J:i<8:=by have:=H.hn;have:=d.o;omega
 have P:=hI ((y.cel G (1+i*4) H.hi H.col (by rw[mV J];exact n1)).trans j.o)
 have M:=I.tr (y.mono (tG ⟨d.o.1,J⟩)) jU
 clear aa y j u t q H I
 refine a (CL [(⟨G,33,none⟩,de g),(⟨G,1+i*4,none⟩,de x)]) _ _ (fun _ h=>h) ⟨m.c33,P.o,trivial⟩ (fun _=>?_)
 clear a K
 repeat((first|refine kv fun K a=>?_|refine kt fun K a=>?_);go_big_quiet_op;refine a _ ?_;clear a K)
 refine l7 fun K a=>?_
 go_simp
 refine(mw M.cl m.net ae (by have:=d.o;omega)).mono ?_
 rintro e ai ⟨ah,ap,rfl,Z,z⟩
 have B:=m.mails z Z
 have ad:=M.tr (z.mono oJ) jU
 have af:=hI ((z.cel G (1+i*4) m.hi m.col (by rw[mV J];unfold lI;omega)).trans P.o)
 clear Z z
 refine a (fun W=>W=ai) _ _ (fun W h=>by rw[h];exact⟨B.c33,af.o,trivial⟩) rfl (fun _=>?_)
 clear a K
 refine gG ?_
 rw[show({({W with sl:=W.sl.set (i-1) (.up s')}:eW)with ns:=fd W.ns ms}:eW)=W' from HW.o]at B
 go_wp2
 go_ret
 exact⟨rfl,ah,B,ad⟩
theorem Cw(u:Cl w o)(h:fk w o G g W){k od lv:Int}{da:ByteArray}{i:Nat}(J:1<=i/\i<=W.n)(Q:nt i od lv da W=some W'):
  Calls Tryz.prog 66 #[de G,lm 8 (i:Int) k od lv da] w fun e X=>e=.returned (.int .i64 0)/\∃T,fk X T G g W'/\Fm fF o T w X:=by
 have E:=hI Q
 have j:=hI J
 have H:=h
 have f1:(0:Int)<=(i:Int):=by omega
 have f2:(i:Int)<8:=by have:=h.hn;omega
 have f7:((8:Int)==7)=false:=rfl
 have f6:((8:Int)==6)=false:=rfl
 have f2:((8:Int)==2)=false:=rfl
 clear h Q J
 go_enter Tryz.func66,Tryz.ntmps66
 go_upto_region 1 with fail
 change Code.wp _ _ _ _ (w.alloc (.cells (eX 8 (i:Int) k od lv da) 28))
 have A0:=db.alloc w (.cells (eX 8 (i:Int) k od lv da) 28)
 have d:=dq.loose u (eX 8 (i:Int) k od lv da) (nk 8 (i:Int) k od lv da) 28 rfl
 replace H:=H.ext A0
 have v:=Fm.ext (C:=fF) u A0
 clear A0 u
 generalize w.alloc (.cells (eX 8 (i:Int) k od lv da) 28)=w1 at*
 generalize w.heap.size=sb at*
 have d1:=d.box.c 1 _ rfl
 go_wp2_with fail
 refine(j9 H (i:Int)).mono ?_
 rw[oE j.o]
 rintro e w2 ⟨rfl,rfl⟩
 go_upto_region 3 with fail
 clear d1
 obtain⟨I,n,t⟩:=eS w1
 replace H:=H.ext t
 replace d:=d.ext t
 have ac:=rg I (d.box.c 1 _ rfl)
 refine eA [0,1,2,3,4,5,6] [] ?_
 rw[<-n]
 clear n
 repeat((first|refine dC fun K a=>?_|refine dB fun K a=>?_);go_big_quiet_op;refine a _ ?_;clear a K)
 refine dh ?_
 refine df ?_
 have y:=v.tr (Fm.ext v.cl t) jU
 clear t v ac
 have d0:=d.box.c 0 _ rfl
 have b:=E.o
 unfold nt at b
 split at b
 case h_2=>cases b
 rename_i s R
 obtain⟨x,c,A,U,V,p,l,L,P⟩:=H.up j.o R
 cases hr:qF s od lv da with
 |none=>rw[hr]at b;cases b
 |some s'=>
 rw[hr]at b
 simp only at b
 split at b
 case isFalse=>cases b
 rename_i M
 have Y:=hI (of_decide_eq_true M)
 have Z:=hI hr
 have HW:=hI (Option.some.inj b)
 have q:=hI U
 have m:=hI V
 have F:=hI (And.intro L P)
 clear E b R M hr V L P
 go_upto_region 4 with fail
 clear d0 U
 obtain⟨r,n,f⟩:=eS I
 replace H:=H.ext f
 replace d:=d.ext f
 replace p:=p.ext f
 replace l:=l.ext f
 have gc:=rg r (db.cell f m.o)
 have ad:=rg r (d.box.c 3 _ rfl)
 have ae:=rg r (d.box.c 4 _ rfl)
 have af:=rg r (d.box.c 5 _ rfl)
 refine eA [0,1,2,3,4,5,6,7,8,9] [10,11] ?_
 rw[<-n]
 clear n
 repeat((first|refine dC fun K a=>?_|refine dB fun K a=>?_);go_big_quiet_op;refine a _ ?_;clear a K)
 have z:=y.tr (Fm.ext y.cl f) jU
 replace q:=hI (db.cell f q.o)
 replace m:=hI (db.cell f m.o)
 clear f y
 refine dh ?_
 refine iD fun K a=>?_
 go_simp
 refine(AM z.cl (by have:=j.o;omega) l p Z.o).mono ?_
 rintro e ai ⟨rfl,ag,ah,S,B⟩
 have D:=H.said j.o q.o m.o l F.o.1 F.o.2 B S Y.o
 have ab:=z.tr (B.mono (tG ⟨j.o.1,by have:=H.hn;have:=j.o;omega⟩)) jU
 clear S B q m p l H z gc ad ae af
 refine a _ _ ?_
 clear a K
 refine iD fun K a=>?_
 go_simp
 refine a _ _ ?_
 clear a K
 refine df ?_
 rw[HW.o]at D
 go_wp2
 go_ret
 exact⟨rfl,ag,D,ab⟩
end
end Go.Proofs.YtjhbmbbmjaabcaaGreat
