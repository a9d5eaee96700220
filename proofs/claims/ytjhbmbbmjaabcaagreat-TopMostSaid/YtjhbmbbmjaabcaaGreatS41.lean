/-
  Contracts. Conditions stand at each.
-/
import Derived.Test.YtjhbmbbmjaabcaaGreatS25
set_option linter.all false
set_option maxRecDepth 8000
set_option maxHeartbeats 8000000
namespace Go.Proofs.YtjhbmbbmjaabcaaGreat
open Go Go.Sort Go.RowKit
section
variable{da:ByteArray} {od lv f a k:Int}
variable{w G:World} {o D:Ow} {u g:Nat} {W W':eW}
theorem Kt{ns:List (dz×List dj)}{z:Int}(h:jf w o g ns)(q:qk z ns.length=false):
  Calls Tryz.prog 47 #[de g,.int .i64 z] w fun e d=>∃c n b,e=.returned (.tuple #[.slice c n b,.bool false])/\db w d:=by
 obtain⟨p,r,i,m,j,-⟩:=h;have l:i.length=ns.length:=by have:=congrArg List.length j;simpa using this
 refine(oM m.nv z).mono ?_;rintro e d ⟨c,b,rfl,-,x⟩;rw[l,q];exact⟨_,_,_,rfl,x⟩
theorem yN(j:Cl w o)(h:fk w o u g W)(n:qk k W.ns.length=false):
  Calls Tryz.prog 65 #[de u,lm f a k od lv da] w fun e t=>e=.returned (.int .i64 3)/\db w t:=by
 have p:=hI n;have H:=h;have x:=h.net;clear h n;go_enter Tryz.func65,Tryz.ntmps65;go_upto_region 1 with fail;change Code.wp _ _ _ _ (w.alloc (.cells (eX f a k od lv da) 28));have A0:=db.alloc w (.cells (eX f a k od lv da) 28);have c:=dq.loose j (eX f a k od lv da) (nk f a k od lv da) 28 rfl;replace H:=H.ext A0;clear j;generalize w.alloc (.cells (eX f a k od lv da) 28)=v at*;generalize w.heap.size=B at*;obtain⟨l,m,d⟩:=eS v;replace H:=H.ext d;replace c:=c.ext d;have r:=rg l H.c33;have s:=rg l (c.box.c 2 _ rfl);refine eA [0,1,2,3,4,5,6,7,8,9,10,11] [] ?_;rw[<-m];clear m;repeat((first|refine dC fun K b=>?_|refine dB fun K b=>?_);go_big_quiet_op;refine b _ ?_;clear b K)
 refine eF fun K b=>?_;go_simp;refine(Kt H.net p.o).mono ?_;rintro e C ⟨A,z,y,rfl,i⟩;have q:=A0.tr (d.tr i);refine b _ _ i ?_;clear b K i H c d A0 r s;repeat((first|refine dC fun K b=>?_|refine dB fun K b=>?_);go_big_quiet_op;refine b _ ?_;clear b K)
 refine dh ?_;refine df ?_;go_wp2;go_ret;exact⟨rfl,q⟩
theorem sF(b:Cl w o)(H:fk w o u g W)(t:f=3\/f=4\/f=5)(j:qk k W.ns.length=false):
  Calls Tryz.prog 44 #[de u,lm f a k od lv da] w fun e m=>e=.returned (.int .i64 3)/\∃l,fk m l u g W/\Fm fF o l w m:=by
 have h:=fun(w:World) (b:Cl w o) (H:fk w o u g W)=>yN (f:=f) (a:=a) (od:=od) (lv:=lv) (da:=da) b H j;have E:(f==1)=false:=by simp;omega
 have I:(f==9)=false:=by simp;omega
 clear j;rcases t with h3|h3|h3;case' inl=>have i:(f==3)=true:=by simpa using h3
 case' inr.inl=>
  have i:(f==3)=false:=by simp;omega
  have s:(f==4)=true:=by simpa using h3
 case' inr.inr=>
  have i:(f==3)=false:=by simp;omega
  have s:(f==4)=false:=by simp;omega
  have F:(f==5)=true:=by simpa using h3
 all_goals clear h3;go_enter Tryz.func44,Tryz.ntmps44;go_upto_region 1 with fail;change Code.wp _ _ _ _ (w.alloc (.cells (eX f a k od lv da) 28));have A0:=db.alloc w (.cells (eX f a k od lv da) 28);have r:=dq.loose b (eX f a k od lv da) (nk f a k od lv da) 28 rfl;replace H:=H.ext A0;have c:=Fm.ext (C:=fF) b A0;have n:=h _ c.cl H;clear A0 b h;generalize w.alloc (.cells (eX f a k od lv da) 28)=K at*;generalize w.heap.size=J at*;obtain⟨v,x,y,z,A,B⟩:=nx r;go_wp2_with fail;refine n.mono ?_;rintro e L ⟨rfl,d⟩;have p:=H.ext d;have q:=c.tr (Fm.ext c.cl d) jU;clear d;go_wp2;go_ret;exact⟨rfl,o,p,q⟩
theorem CE(b:Cl w o)(H:fk w o u g W)(h:a<1\/(W.n:Int)<a):
  Calls Tryz.prog 66 #[de u,lm f a k od lv da] w fun e i=>e=.returned (.int .i64 8)/\db w i:=by have c:Hid ((decide (1<=a)&&decide (a<=(W.n:Int)))=false):=hI (by rw[Bool.and_eq_false_iff,decide_eq_false_iff_not,decide_eq_false_iff_not];omega);clear h;go_enter Tryz.func66,Tryz.ntmps66;go_upto_region 1 with fail;change Code.wp _ _ _ _ (w.alloc (.cells (eX f a k od lv da) 28));have A0:=db.alloc w (.cells (eX f a k od lv da) 28);have d:=dq.loose b (eX f a k od lv da) (nk f a k od lv da) 28 rfl;replace H:=H.ext A0;clear b;generalize w.alloc (.cells (eX f a k od lv da) 28)=m at*;generalize w.heap.size=l at*;have j:=d.box.c 1 _ rfl;go_wp2_with fail;refine(j9 H a).mono ?_;rw[c.o];rintro e n ⟨rfl,rfl⟩;go_wp2;go_ret;exact⟨rfl,A0⟩
theorem sE(d:Cl w o)(H:fk w o u g W){z:Int}(r:f=2\/f=8)(h:∀(w:World) (o:Ow),Cl w o->fk w o u g W->Calls Tryz.prog 66 #[de u,lm f a k od lv da] w fun e c=>e=.returned (.int .i64 z)/\∃b,fk c b u g W'/\Fm fF o b w c):
  Calls Tryz.prog 44 #[de u,lm f a k od lv da] w fun e c=>e=.returned (.int .i64 z)/\∃b,fk c b u g W'/\Fm fF o b w c:=by
 have E:(f==1)=false:=by simp;omega
 have N:(f==9)=false:=by simp;omega
 have F:(f==3)=false:=by simp;omega
 have I:(f==4)=false:=by simp;omega
 have J:(f==5)=false:=by simp;omega
 have K:(f==6)=false:=by simp;omega
 have L:(f==7)=false:=by simp;omega
 rcases r with h3|h3;case' inl=>have q:(f==2)=true:=by simpa using h3
 case' inr=>
  have q:(f==2)=false:=by simp;omega
  have M:(f==8)=true:=by simpa using h3
 all_goals clear h3;go_enter Tryz.func44,Tryz.ntmps44;go_upto_region 1 with fail;change Code.wp _ _ _ _ (w.alloc (.cells (eX f a k od lv da) 28));have A0:=db.alloc w (.cells (eX f a k od lv da) 28);have p:=dq.loose d (eX f a k od lv da) (nk f a k od lv da) 28 rfl;replace H:=H.ext A0;have i:=Fm.ext (C:=fF) d A0;have l:=h _ _ i.cl H;clear A0 d h;generalize w.alloc (.cells (eX f a k od lv da) 28)=P at*;generalize w.heap.size=O at*;obtain⟨t,v,x,y,A,B⟩:=nx p;go_wp2_with fail;refine l.mono ?_;rintro e Q ⟨rfl,s,m,j⟩;have n:=i.tr j jU;clear j;go_wp2;go_ret;exact⟨rfl,s,m,n⟩
theorem sD(b:Cl w o)(h:fk w o u g W)(l:f=2\/f=8)(j:a<1\/(W.n:Int)<a):
  Calls Tryz.prog 44 #[de u,lm f a k od lv da] w fun e c=>e=.returned (.int .i64 8)/\∃d,fk c d u g W/\Fm fF o d w c:=
 sE b h l (fun w o b h=>(CE b h j).mono (fun e c ⟨i,x⟩=>⟨i,o,h.ext x,Fm.ext b x⟩))
theorem yV(b:Cl w o)(H:fk w o u g W)(j:f<1\/9<f):
  Calls Tryz.prog 44 #[de u,lm f a k od lv da] w fun e d=>e=.returned (.int .i64 1)/\∃c,fk d c u g W/\Fm fF o c w d:=by
 have m:(f==1)=false:=by simp;omega
 have x:(f==9)=false:=by simp;omega
 have p:(f==3)=false:=by simp;omega
 have q:(f==4)=false:=by simp;omega
 have r:(f==5)=false:=by simp;omega
 have n:(f==2)=false:=by simp;omega
 have s:(f==6)=false:=by simp;omega
 have t:(f==7)=false:=by simp;omega
 have v:(f==8)=false:=by simp;omega
 clear j;go_enter Tryz.func44,Tryz.ntmps44;go_upto_region 1 with fail;change Code.wp _ _ _ _ (w.alloc (.cells (eX f a k od lv da) 28));have A0:=db.alloc w (.cells (eX f a k od lv da) 28);have i:=dq.loose b (eX f a k od lv da) (nk f a k od lv da) 28 rfl;replace H:=H.ext A0;have h:=Fm.ext (C:=fF) b A0;clear A0 b;generalize w.alloc (.cells (eX f a k od lv da) 28)=z at*;generalize w.heap.size=y at*;have l:=i.box.c 0 _ rfl;go_wp2;go_ret;exact⟨rfl,o,H,h⟩
end
def yo(e:dj):Int:=if ec e then 9 else 1
theorem BO{w:World}{o:Ow}{c g:Nat}{fr bt a:Int}{L:List dj}{od lv:Int}{da:ByteArray}(u:Cl w o)(h:sI w o c g fr bt a L)(h1:1<c)(hs:0<=a/\a<1099511627776)(V:eQ ⟨fr,bt,a+1,od,lv,0,da⟩)(R:(ec ⟨fr,bt,a+1,od,lv,0,da⟩&&decide (L.length<4))=false):
  Calls Tryz.prog 161 #[.pointer (some ⟨g,0,none⟩),.int .i64 od,.int .i64 lv,.string da] w fun e T=>∃(S:Ow) (z:Int),e=.returned (.tuple #[jT dx,.int .i64 z])/\z=yo ⟨fr,bt,a+1,od,lv,0,da⟩/\sI T S c g fr bt a L/\Fm (two c) o S w T:=by
 obtain⟨p,Q,h⟩:=h;obtain⟨s1,s2⟩:=hs;have q:=hI h1;have sw:wrap64 (a+1)=a+1:=by unfold wrap64;omega
 have A0:=db.alloc w (.cells (dZ dx) 71);have d:=dq.loose u (dZ dx) (dY dx) 71 rfl;have m:=u.ext A0;have r:Fm (two c) o o w (w.alloc (.cells (dZ dx) 71)):=Fm.ext u A0;have H:=h.ext A0;have Z:Hid (w.heap.size<=w.heap.size/\o w.heap.size=0):=hI ⟨Nat.le_refl _,u _ (Nat.le_refl _)⟩;clear h u h1;go_enter Tryz.func161,Tryz.ntmps161;go_upto_region 1 with fail;change Code.wp _ _ _ _ (w.alloc (.cells (dZ dx) 71));clear A0;generalize w.alloc (.cells (dZ dx) 71)=f at*;obtain⟨b,J⟩:∃b,b=w.heap.size:=⟨_,rfl⟩;rw[<-J]at d Z⊢;have W:=hI J;clear J;obtain⟨E,F,G,I⟩:=Jl H.box;have M:=db.alloc f (.cells #[.int .i64 0,.int .i64 0,.int .i64 0,.int .i64 0,.int .i64 0,.int .i64 0,.string ⟨#[]⟩] 71);obtain⟨e0,e1,e2⟩:=Dn (H.box.ext M);go_wp2_with fail;go_region;change Exit.then _ _ _ _ ((f.alloc (.cells (dZ ⟨fr,bt,a+1,od,lv,0,da⟩) 71)).drew);have t:db f ((f.alloc (.cells (dZ ⟨fr,bt,a+1,od,lv,0,da⟩) 71)).drew):=(db.alloc f _).tr (db.drew _);have y:dq ((f.alloc (.cells (dZ ⟨fr,bt,a+1,od,lv,0,da⟩) 71)).drew) o 0 f.heap.size (dY ⟨fr,bt,a+1,od,lv,0,da⟩):=(dq.loose m (dZ ⟨fr,bt,a+1,od,lv,0,da⟩) (dY ⟨fr,bt,a+1,od,lv,0,da⟩) 71 rfl).ext (db.drew _);generalize(f.alloc (.cells (dZ ⟨fr,bt,a+1,od,lv,0,da⟩) 71)).drew=w1 at*;clear E F G I e0 e1 e2 M;generalize f.heap.size=eb at*;replace H:=H.ext t;replace d:=d.ext t;replace r:=r.tr (Fm.ext m t) (by unfold two;have:=q.o;omega);replace m:=m.ext t;clear t;obtain⟨E,F,G,I,d4,d5,d6⟩:=pm y;have U:=hI R;clear R;go_wp2_with fail;refine(kY (e:=⟨fr,bt,a+1,od,lv,0,da⟩) V).mono ?_;rintro x i ⟨rfl,s⟩;replace H:=H.ext s;replace y:=y.ext s;replace d:=d.ext s;replace r:=r.tr (Fm.ext m s) (by unfold two;have:=q.o;omega);replace m:=m.ext s;clear s E F G I d4 d5 d6;have c3:=H.box.box.c 3 _ rfl;cases B:ec ⟨fr,bt,a+1,od,lv,0,da⟩;case' false=>obtain⟨j,D⟩:∃j:Int,Hid ((1:Int)=j/\j=yo ⟨fr,bt,a+1,od,lv,0,da⟩):=⟨_,hI ⟨rfl,by unfold yo;rw[B];rfl⟩⟩
 case' true=>obtain⟨j,D⟩:∃j:Int,Hid ((9:Int)=j/\j=yo ⟨fr,bt,a+1,od,lv,0,da⟩):=⟨_,hI ⟨rfl,by unfold yo;rw[B];rfl⟩⟩;have ab:(4:Int)<=(L.length:Int):=by have h1:=U.o;rw[B,Bool.true_and,decide_eq_false_iff_not]at h1;omega
 all_goals
  clear B;have P:Hid (o b=0):=hI d.col;have O:Fm (two c) o (gH o b c) w i:=r.paint c (Nat.le_of_eq W.o.symm) d.box.hi;have A:dq i (gH o b c) c b (dY dx):=⟨et _ _ _,d.box⟩;have n:yY i (gH o b c) c g p Q fr bt a L:=yY.paint H P.o q.o
  have X:Hid (g≠b):=hI (fun e=>by
   have h1:=H.box.col
   have h2:=P.o
   have h3:=q.o
   rw[e]at h1
   omega)
  obtain⟨r0,r1,r2,r3,r4,r5,r6⟩:=pm A;have rf:=A.box.f;clear d r m H y;go_wp2;obtain⟨K,aa⟩:∃K,K=dL i b 0 (dY dx):=⟨_,rfl⟩;change bodyPost _ _ _ Exit.ret _ (dL i b 0 (dY dx));have l:=A.box.fill (vs:=dY dx) (by simp[dY]);have N:Fm (two c) o (gH o b c) w (dL i b 0 (dY dx)):=O.tr (Fm.fill O.cl A (by have:=q.o;omega) (.inl rfl)) (by unfold two;have:=q.o;omega);have C:=eU b (dY dx) 0 i i (dD i (some b));rw[<-aa]at l N C⊢;have f0:=l.c 0 _ rfl;have f1:=l.c 1 _ rfl;have f2:=l.c 2 _ rfl;have f3:=l.c 3 _ rfl;have f4:=l.c 4 _ rfl;have f5:=l.c 5 _ rfl;have f6:=l.c 6 _ rfl
  have Y:sI K (gH o b c) c g fr bt a L:=⟨p,Q,⟨⟨n.box.col,n.box.box.other C (fun e=>X.o (by cases e;rfl))⟩,⟨n.row.row.kept C (fun k hk e=>by
   have h1:=n.row.col k e
   cases hk
   rw[et]at h1
   omega),n.row.col⟩,n.ok,n.le⟩⟩
  exact bodyPost_ret (v:=.tuple #[jT dx,.int .i64 j]) (by rw[<-D.o.1];simp[results,Tryz.results161,go_sem,f0,f1,f2,f3,f4,f5,f6]) rfl ⟨gH o b c,j,rfl,D.o.2,Y,N⟩
section
variable{da:ByteArray} {W:eW} {g:Nat}
def lz(s:dp)(od lv:Int)(da:ByteArray):Int:=if eC s then yo ⟨s.id,s.bt,s.sq+1,od,lv,0,da⟩else 6
theorem vq(s:dp)(od lv:Int)(da:ByteArray):lz s od lv da≠0:=by unfold lz yo;split<;>(try split)<;>omega
variable{w N:World} {o G:Ow} {k x u D:Nat} {A A':iS} {s s':dp}
theorem xY(p:Cl w o)(q:32<=k)(H:di w o k x u D A s){od lv:Int}{da:ByteArray}(I:eQ ⟨s.id,s.bt,s.sq+1,od,lv,0,da⟩)(r:(eC s&&(ec ⟨s.id,s.bt,s.sq+1,od,lv,0,da⟩&&decide (s.P.length<4)))=false):
  Calls Tryz.prog 118 #[de x,.int .i64 od,.int .i64 lv,.string da] w fun e E=>∃z:Int,e=.returned (.int .i64 z)/\z=lz s od lv da/\∃v,di E v k x u D A s/\Fm (eh k) o v w E:=by
 have L:=hI r;have b:=hI q;clear q r;go_enter Tryz.func118,Tryz.ntmps118;go_wp2_with fail;refine(fQ H).mono ?_;rintro e O ⟨rfl,m⟩;have a:=H.ext m;have h:=Fm.ext (C:=eh k) p m;clear m H p;have M:=a.c 13 _ rfl;cases c:eC s;·have f:=hI (show(6:Int)=lz s od lv da by unfold lz;rw[c];rfl);clear c;go_wp2;go_ret;exact⟨6,rfl,f.o,o,a,h⟩
 .have K:Hid ((ec ⟨s.id,s.bt,s.sq+1,od,lv,0,da⟩&&decide (s.P.length<4))=false):=hI (by have:=L.o;rwa[c,Bool.true_and]at this);have J:=hI c;clear c;go_wp2_with fail;refine(BO h.cl a.q.pn (by have:=b.o;omega) ⟨a.ok.sq.1,by have:=a.ok.sq.2;omega⟩ I K.o).mono ?_;rintro e F ⟨y,z,rfl,t,B,l⟩;obtain⟨n,F3⟩:=di.mod0 (A':=A) (s':=s) b.o a l (fun d j=>by unfold two at j;unfold eh;omega) (a.q.set_pn b.o B l (fun d j=>by unfold two at j;omega)) rfl a.ok;have i:=h.tr F3 (dw b.o);have f:Hid (z=lz s od lv da):=hI (by unfold lz;rw[J.o];exact t);clear F3 B l M a h t;go_wp2;go_ret
  first
   |exact⟨z,rfl,f.o,y,n,i⟩
   |exact⟨z,rfl,f.o,y,n.ext (db.alloc F _),i.tr (Fm.ext i.cl (db.alloc F _)) (dw b.o)⟩
theorem xk(r:Cl w o)(f:32<=k)(p:wT w o (k+21) g x)(h:di w o k x u D A s){od lv:Int}(t:eQ ⟨s.id,s.bt,s.sq+1,od,lv,0,da⟩)(v:(eC s&&(ec ⟨s.id,s.bt,s.sq+1,od,lv,0,da⟩&&decide (s.P.length<4)))=false):
  Calls Tryz.prog 88 #[de g,.int .i64 od,.int .i64 lv,.string da] w fun e m=>e=.returned (.int .i64 (lz s od lv da))/\∃l,di m l k x u D A s/\wT m l (k+21) g x/\Fm (zS k) o l w m:=by
 have E:=xY r f h t v;have F:=s8 p;have c:=hI f;clear r f h v t;go_enter Tryz.func88,Tryz.ntmps88;go_wp2_with fail;refine F.mono ?_;rintro e M ⟨rfl,rfl⟩;go_wp2_with fail;refine E.mono ?_;rintro e M ⟨z,rfl,i,L,J,j⟩;have O:(z !=0)=true:=by rw[i];simpa using vq s od lv da
 have H:=hI i;have q:=j.mono (C':=zS k) (fun d a=>⟨a.1,Nat.le_succ_of_le a.2⟩);obtain⟨y,b⟩:=p.fr j (by have:=c.o;omega) (by unfold eh;omega);clear j i;go_wp2_with fail;refine(Cq (b.box.c 3 _ rfl) (b.box.f 3)).mono ?_;rintro e Q ⟨⟨R,rfl⟩,n,rfl⟩;have P:=Fm.put (C:=one (k+21)) q.cl b (by have:=c.o;omega) rfl 3 (.int .i64 n);have B:=b.put 3 (.int .i64 n);have K:=J.fr c.o P (by unfold one;omega) (fun d a=>by unfold one at a;unfold rD;omega);have I:=q.tr (P.mono (C':=zS k) (fun d a=>by unfold one at a;unfold zS;omega)) (by have:=c.o;unfold zS;omega);clear P;go_wp2;go_ret;exact⟨by rw[<-H.o];rfl,L,K,⟨n,B⟩,I⟩
theorem yJ{i:Nat}(B:Cl w o)(h:fk w o u g W){n od lv:Int}(U:1<=i/\i<=W.n)(Z:W.sl[i-1]? =some (.up s))(z:eQ ⟨s.id,s.bt,s.sq+1,od,lv,0,da⟩)(Y:(eC s&&(ec ⟨s.id,s.bt,s.sq+1,od,lv,0,da⟩&&decide (s.P.length<4)))=false):
  Calls Tryz.prog 66 #[de u,lm 8 (i:Int) n od lv da] w fun e w'=>e=.returned (.int .i64 (lz s od lv da))/\∃o',fk w' o' u g W/\Fm fF o o' w w':=by
 have P:=hI (And.intro z Y);have Q:=hI Z;have j:=hI U;have H:=h;have f1:(0:Int)<=(i:Int):=by omega
 have f2:(i:Int)<8:=by have:=h.hn;omega
 have f7:((8:Int)==7)=false:=rfl;have f6:((8:Int)==6)=false:=rfl;have f2:((8:Int)==2)=false:=rfl;clear h Y U Z z;go_enter Tryz.func66,Tryz.ntmps66;go_upto_region 1 with fail;change Code.wp _ _ _ _ (w.alloc (.cells (eX 8 (i:Int) n od lv da) 28));have A0:=db.alloc w (.cells (eX 8 (i:Int) n od lv da) 28);have b:=dq.loose B (eX 8 (i:Int) n od lv da) (nk 8 (i:Int) n od lv da) 28 rfl;replace H:=H.ext A0;have E:=Fm.ext (C:=fF) B A0;clear A0 B;generalize w.alloc (.cells (eX 8 (i:Int) n od lv da) 28)=w1 at*;generalize w.heap.size=sb at*;have d1:=b.box.c 1 _ rfl;go_wp2_with fail;refine(j9 H (i:Int)).mono ?_;rw[oE j.o];rintro e w2 ⟨rfl,rfl⟩;go_upto_region 3 with fail;clear d1;obtain⟨S,p,y⟩:=eS w1;replace H:=H.ext y;replace b:=b.ext y;have ac:=rg S (b.box.c 1 _ rfl);refine eA [0,1,2,3,4,5,6] [] ?_;rw[<-p];clear p;repeat((first|refine dC fun K a=>?_|refine dB fun K a=>?_);go_big_quiet_op;refine a _ ?_;clear a K)
 refine dh ?_;refine df ?_;have F:=E.tr (Fm.ext E.cl y) jU;clear y E ac;have d0:=b.box.c 0 _ rfl;obtain⟨x,c,A,q1,q2,r,q,V,X⟩:=H.up j.o Q.o;have t:=hI q1;have l:=hI q2;have QI:=hI (And.intro V X);clear q2 V X;go_upto_region 4 with fail;clear d0 q1;obtain⟨v,p,f⟩:=eS S;replace H:=H.ext f;replace b:=b.ext f;replace r:=r.ext f;replace q:=q.ext f;have gc:=rg v (db.cell f l.o);have ad:=rg v (b.box.c 3 _ rfl);have ae:=rg v (b.box.c 4 _ rfl);have af:=rg v (b.box.c 5 _ rfl);refine eA [0,1,2,3,4,5,6,7,8,9] [10,11] ?_;rw[<-p];clear p;repeat((first|refine dC fun K a=>?_|refine dB fun K a=>?_);go_big_quiet_op;refine a _ ?_;clear a K)
 have I:=F.tr (Fm.ext F.cl f) jU;replace t:=hI (db.cell f t.o);replace l:=hI (db.cell f l.o);clear f F;refine dh ?_;refine iD fun K a=>?_;go_simp;refine(xk I.cl (by have:=j.o;omega) q r P.o.1 P.o.2).mono ?_;rintro e ah ⟨rfl,ag,aa,T,m⟩;have M:¬zS (32*i) 1:=by unfold zS;have:=j.o;omega
 have L:i<8:=by have:=H.hn;have:=j.o;omega
 have O:=H.goes (sd:=.up s) j.o m (fun d J=>J) ⟨⟨x,c,A,(m.cel u (1+i*4) H.hi H.col (by rw[mV L];exact M)).trans t.o,(m.cel u (1+i*4+1) H.hi H.col (by rw[qI L];exact M)).trans l.o,aa,T⟩,QI.o⟩;have ab:=I.tr (m.mono (fun d J=>by unfold zS at J;unfold fF;have:=j.o;omega)) jU;have R:W.sl.set (i-1) (.up s)=W.sl:=by obtain⟨hl,z⟩:=List.getElem?_eq_some_iff.1 Q.o;rw[<-z];exact List.set_getElem_self _
 rw[R]at O;clear R M L aa T m t l r q H I gc ad ae af;refine a _ _ ?_;clear a K;refine iD fun K a=>?_;go_simp;refine a _ _ ?_;clear a K;refine df ?_;go_wp2;go_ret;exact⟨rfl,ag,O,ab⟩
theorem wR{i:Nat}(a:Cl w o)(h:fk w o u g W){n od lv:Int}(f:1<=i/\i<=W.n)(l:W.sl[i-1]? =some (.up s))(d:eQ ⟨s.id,s.bt,s.sq+1,od,lv,0,da⟩)(j:(eC s&&(ec ⟨s.id,s.bt,s.sq+1,od,lv,0,da⟩&&decide (s.P.length<4)))=false):
  Calls Tryz.prog 44 #[de u,lm 8 (i:Int) n od lv da] w fun e c=>e=.returned (.int .i64 (lz s od lv da))/\∃b,fk c b u g W/\Fm fF o b w c:=
 sE a h (.inr rfl) (fun w o a h=>yJ a h f l d j)
end
end Go.Proofs.YtjhbmbbmjaabcaaGreat
