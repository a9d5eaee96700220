/-
  Contracts. Conditions stand at each.
-/
import Derived.Test.YtjhbmbbmjaabcaaGreatS29
import Derived.Test.YtjhbmbbmjaabcaaGreatS31
set_option linter.all false
set_option maxRecDepth 8000
set_option maxHeartbeats 8000000
namespace Go.Proofs.YtjhbmbbmjaabcaaGreat
open Go Go.Sort Go.RowKit
section
theorem Gv{w:World}{o:Ow}{c g:Nat}{W W':eW}(f:Cl w o)(h:fk w o c g W){a k od lv:Int}{da:ByteArray}(hr:W.rl<1000000)(e:{W with rl:=W.rl+1}=W'):
  Calls Tryz.prog 44 #[de c,lm 1 a k od lv da] w fun e b=>e=.returned (.int .i64 0)/\∃d,fk b d c g W'/\Fm fF o d w b:=by subst e;refine(yQ f h hr).mono ?_;rintro e b ⟨h1,h2,h3⟩;exact⟨h1,o,h2,h3⟩
variable{w D:World} {o G:Ow} {u:Nat} {A A':my} {L L':dU}
theorem zK{f n od lv:Int}{da:ByteArray}(HC:Cl w o)(h:gJ w o u A L)(hu:CZ L f)(E:nX L=some L'):
  Calls Tryz.prog 16 #[de u,lm 1 f n od lv da] w fun e w'=>e=.returned (.int .i64 0)/\∃o' A',gJ w' o' u A' L'/\Fm iy o o' w w':=by
 have H:=h;have k9:((1:Int)==9)=false:=rfl;have k1:((1:Int)==1)=true:=rfl;have k2:((1:Int)==2)=false:=rfl;have k7:((1:Int)==7)=false:=rfl;have k8:((1:Int)==8)=false:=rfl;unfold nX at E;split at E;case isFalse=>cases E
 rename_i ap;have aB:=hI (of_decide_eq_true ap);obtain⟨F,X⟩:∃F:eW,{L.W with rl:=L.W.rl+1}=F:=⟨_,rfl⟩;rw[X]at E;have HW:=hI X;have aj:Hid (F.n=L.n):=hI (by rw[<-X];exact h.q.nn);have ay:=hI E;have aA:=hI h.q.nn;have ao:3<=L.n/\L.n<=7:=by have h1:=h.q.wr.hn;have h2:=h.q.nn;omega
 have az:=hI ao;clear h E ap X;rcases hu with Y|Y|⟨i,Y,hi,s,ar⟩
 all_goals first
  |have z1:=dF ((1:Int)<=f)
  |(have z1:=dT ((1:Int)<=f);have z2:decide (f<=(L.n:Int))=false:=decide_eq_false (by omega))
  |(have ax:=hI Y;have aC:=hI ar;have y:Hid (1<=i/\i<=L.W.n):=hI (by rw[aA.o];exact hi);have f1:(0:Int)<=f:=(by omega);have f2:f<8:=(by omega);have z1:=dT ((1:Int)<=f);have z2:=dT (f<=(L.n:Int));clear ar hi)
 all_goals clear Y
 all_goals clear ao
 all_goals
  go_enter Tryz.func16,Tryz.ntmps16;go_upto_region 1 with fail;change Code.wp _ _ _ _ (w.alloc (.cells (eX 1 f n od lv da) 28));have N:=Fm.made (C:=fun _=>False) HC (.cells (eX 1 f n od lv da) 28) 305;have z:=dq.made w o 305 (eX 1 f n od lv da) (nk 1 f n od lv da) 28 rfl;replace H:gJ (w.alloc (.cells (eX 1 f n od lv da) 28)) (gH o w.heap.size 305) u A L:=⟨H.box.fr N (by decide) (fun e=>e),H.q.fr N (fun d e=>e.elim)⟩;have M1:=N.mono (C':=iy) (fun d e=>e.elim);clear N HC;generalize w.alloc (.cells (eX 1 f n od lv da) 28)=w1 at*;generalize gH o w.heap.size 305=o1 at*;generalize w.heap.size=M at*;have d5:=z.box.c 5 _ rfl;have d0:=z.box.c 0 _ rfl;have V:=z.box.f 5;go_wp2_with fail;refine(lY da _).mono ?_;rintro e w2 ⟨rfl,rfl⟩;have P:=Fm.put (C:=one 305) M1.cl z (by decide) rfl 5 (.string (gX da));have j:dq (w1.setCell ⟨M,5,none⟩ (.string (gX da))) o1 305 M (nk 1 f n od lv (gX da)):=z.put 5 (.string (gX da));have l:gJ (w1.setCell ⟨M,5,none⟩ (.string (gX da))) o1 u A L:=⟨H.box.fr P (by decide) (by unfold one;omega),H.q.fr P (fun d I=>by unfold one at I;subst I;unfold fF;omega)⟩;have M2:=M1.tr (P.mono (C':=iy) (fun d I=>by unfold one at I;subst I;unfold iy;omega)) gF;go_upto_region 5 with fail;clear d5 d0 V P z H M1;generalize w1.setCell ⟨M,5,none⟩ (.string (gX da))=w2 at*;obtain⟨B,r,Q⟩:=eS w2;replace l:=l.ext Q;replace j:=j.ext Q;have g1:∀d os,(grow (redrawn B d) os).cell? ⟨u,1,none⟩=some (.int .i64 (L.n:Int)):=rg B (l.box.box.c 1 _ rfl);have g0:=rg B (l.box.box.c 0 _ rfl);have ad:∀d os,(grow (redrawn B d) os).cell? ⟨M,1,none⟩=some (.int .i64 f):=rg B (j.box.c 1 _ rfl);refine eA [0,1,2,3,4,5,6,7,8,9,10,11,12,13,14,15,16,17,18,19,20,21,22] [] ?_;rw[<-r];clear r;repeat((first|refine dC fun K c=>?_|refine dB fun K c=>?_);go_big_quiet_op;refine c _ ?_;clear c K)
  try refine eF fun K c=>?_;go_simp;rw[ax.o];refine(eu l.q.wr y.o aC.o).mono ?_;rintro e D ⟨xx,cc,AA,rfl,-,-,-,-,-,-,rfl⟩;refine c _ _ (db.rfl' _) ?_;clear c K;repeat((first|refine dC fun K c=>?_|refine dB fun K c=>?_);go_big_quiet_op;refine c _ ?_;clear c K)
  refine dh ?_;refine df ?_;have M3:=M2.tr (Fm.ext M2.cl Q) gF;clear Q M2 g1 g0 ad;go_upto_region 6 with fail;obtain⟨v,r,R⟩:=eS B;replace l:=l.ext R;replace j:=j.ext R;have g0:=rg v (l.box.box.c 0 _ rfl);have aG:=rg v (j.box.c 0 _ rfl);have ad:=rg v (j.box.c 1 _ rfl);have aH:=rg v (j.box.c 2 _ rfl);have aI:=rg v (j.box.c 3 _ rfl);have aJ:=rg v (j.box.c 4 _ rfl);have aK:=rg v (j.box.c 5 _ rfl);refine eA [0,1,2,3,4] [5,6] ?_;rw[<-r];clear r;repeat((first|refine dC fun K c=>?_|refine dB fun K c=>?_);go_big_quiet_op;refine c _ ?_;clear c K)
  have M5:=M3.tr (Fm.ext M3.cl R) gF;clear R M3;refine dh ?_;refine iD fun K c=>?_;go_simp;refine(Gv (k:=n) (a:=f) (od:=od) (lv:=lv) (da:=gX da) M5.cl l.q.wr aB.o HW.o).mono ?_;rintro e w6 ⟨rfl,o6,aw,U⟩;have H6:=l.went U aw aj.o;have aD:=j.fr U (by decide) (by unfold fF;omega);have M6:=M5.tr (U.mono pP) gF;clear aw U l j M5 g0 aG ad aH aI aJ aK;refine c _ _ ?_;clear c K;refine iD fun K c=>?_;go_simp;refine c _ _ ?_;clear c K;refine df ?_;have d0:=aD.box.c 0 _ rfl;go_wp2;go_loopw [7] (fun ai wx=>∃(a:Nat) (m:my),1<=a/\a<=L.n+1/\ai=.int .i64 (a:Int)/\gJ wx o6 u m {L with W:=F}/\Fm iy o o6 w wx) (fun ai _=>L.n+1-(intOf ai).toNat);case atStart=>exact⟨1,A,by omega,by omega,rfl,H6,M6⟩
  case round=>
   obtain⟨a,m,aM,aN,rfl,g,t⟩:=hrel;clear d0;have c1:wr.cell? ⟨u,1,none⟩=some (.int .i64 (L.n:Int)):=g.box.box.c 1 _ rfl;have c0:wr.cell? ⟨u,0,none⟩=some (de m.wb):=g.box.box.c 0 _ rfl;by_cases ae:a<=L.n
   .have e5:=dT ((a:Int)<=(L.n:Int));have aF:=dT (a<=L.n) ae;have f1:(0:Int)<=(a:Int):=by omega
    have f2:(a:Int)<8:=by have:=az.o;omega
    have Z:a<8:=by omega
    have y:Hid (1<=a/\a<=F.n):=hI (by rw[aj.o];exact⟨aM,ae⟩);obtain⟨sd,aq,-⟩:=g.q.wr.sl a y.o.1 y.o.2;have ah:=hI aq;clear aq;go_wp2_with fail;cases sd with
    |dn bt dv=>
     refine(jR g.q.wr y.o ah.o).mono ?_;rintro e w9 ⟨rfl,rfl⟩;go_wp2;go_roundw;case rel=>exact⟨a+1,m,by omega,by omega,by go_num,g,t⟩
     case measure=>simp[intOf];omega
    |up s=>
     refine(eu g.q.wr y.o ah.o).mono ?_;rintro e w9 ⟨xx,cc,AA,rfl,-,-,-,-,-,-,rfl⟩;go_upto_region 12 with fail;clear c0 c1;obtain⟨W9,r,S⟩:=eS wr;replace g:=g.ext S;have aL:=rg W9 (g.box.box.c (38+a) _ (ry Z));refine eA [0,1,2,3,4,5,6,7,8,9] [10] ?_;rw[<-r];clear r;repeat((first|refine dC fun K c=>?_|refine dB fun K c=>?_);go_big_quiet_op;refine c _ ?_;clear c K)
     refine dh ?_;have cs:=g.box.box.c (38+a) _ (ry Z);have V:=g.box.box.f (38+a);refine iD fun K c=>?_;go_simp;obtain⟨x,m8⟩:=g.put (t.cl.ext S) (38+a) (.int .i64 (wrap64 (m.sl.at a+1))) (uD Z) (fun q=>⟨q.wr,q.nn,q.fo,q.fl,q.fi,q.so,q.vo,q.co,q.mx⟩);have O:=(t.tr (Fm.ext t.cl S) gF).tr m8 gF;refine c _ _ ?_;clear c K m8 cs V aL g t S;refine df ?_;generalize W9.setCell ⟨u,38+a,none⟩ (.int .i64 (wrap64 (m.sl.at a+1)))=av at*;obtain⟨p,am⟩:∃p:my,{m with sl:=m.sl.set a (wrap64 (m.sl.at a+1))}=p:=⟨_,rfl⟩;rw[am]at x;clear am;have aE:av.cell? ⟨u,46,none⟩=some (.bool p.ev):=x.box.box.c 46 _ rfl;have cs:av.cell? ⟨u,38+a,none⟩=some (.int .i64 (p.sl.at a)):=x.box.box.c (38+a) _ (ry Z);have V:=x.box.box.f 46;obtain⟨ev,an⟩:∃b,p.ev=b:=⟨_,rfl⟩;rw[an]at aE;clear an;cases ev
     .obtain⟨aa,J⟩:=x.put (A':={p with ev:=false}) O.cl 46 (.bool false) rfl (fun q=>⟨q.wr,q.nn,q.fo,q.fl,q.fi,q.so,q.vo,q.co,q.mx⟩);have ac:=O.tr J gF;clear J;go_wp2;go_roundw;case rel=>exact⟨a+1,_,by omega,by omega,by go_num,aa,ac⟩
      case measure=>simp[intOf];omega
     .obtain⟨T,aO⟩:∃T,decide (p.sl.at a<=2)=T:=⟨_,rfl⟩;obtain⟨aa,J⟩:=x.put (A':={p with ev:=T}) O.cl 46 (.bool T) rfl (fun q=>⟨q.wr,q.nn,q.fo,q.fl,q.fi,q.so,q.vo,q.co,q.mx⟩);have ac:=O.tr J gF;clear J;go_wp2;go_roundw;case rel=>exact⟨a+1,_,by omega,by omega,by go_num,aa,ac⟩
      case measure=>simp[intOf];omega
   .have e5:=dF ((a:Int)<=(L.n:Int));have aF:=dF (a<=L.n) ae;go_wp2_with fail;refine(kV t.cl g ay.o).mono ?_;rintro e aP ⟨rfl,au,af,ag,al⟩;have ak:=t.tr al gF;clear al;go_wp2;go_ret;first|exact⟨rfl,au,af,ag,ak⟩|exact⟨rfl,au,⟨af,ag⟩,ak⟩
theorem xU(c:Cl w o)(h:gJ w o u A L)(d:nX L=some L'):
 Calls Tryz.prog 16 #[de u,lm 1 0 0 0 0 ⟨#[]⟩] w fun e b=>e=.returned (.int .i64 0)/\∃a A',gJ b a u A' L'/\Fm iy o a w b:=zK c h (.inl (by decide)) d
end
section
variable{i n:Nat} {W:eW}
def vh(n:Nat)(W:eW):dU:=⟨W,n,[],E8.all 0,E8.all 0,0,[],[],E8.all 0,E8.all 0⟩
def uF(n:Nat):Option dU:=(Ka n).bind fun W=>dt m0 (List.range' 1 n) (vh n W)
def uV(i:Nat)(L:dU):Option dU:=match L.W.sl[i-1]? with
 |some (.up _)=>pI i L
 |_=>none
def mQ(L:dU)(i:Nat):Option dU:=uV i L
def oY(L:dU):Option dU:=dt mQ (List.range' 1 L.n) L
theorem I0{L L':dU}(h:pI i L=some L'):L'.n=L.n:=by unfold pI at h;obtain⟨c,b,a⟩:=Option.bind_eq_some_iff.1 h;obtain⟨d,-,-,rfl⟩:=il b;exact(rs a).2
theorem Ap{L L':dU}(h:mQ L i=some L'):L'.n=L.n:=by
 unfold mQ uV at h;split at h;·exact I0 h
 .cases h
theorem En{L L':dU}(h:m0 L i=some L'):L'.n=L.n:=by
 unfold m0 at h;split at h;·cases h;rfl
 .cases h
theorem Kb(h:Ka n=some W):W.n=n:=qf (F:=rW) (fun W i a h=>wv h) _ _ _ h
variable{w G:World} {o D:Ow} {u:Nat} {A A':my} {L L':dU}
abbrev pj(a n:Nat):Array Value:=#[de a,.int .i64 (n:Int),.slice none 0 0,.int .i64 0,.int .i64 0,.int .i64 0,.int .i64 0,.int .i64 0,.int .i64 0,.int .i64 0,.int .i64 0,.int .i64 0,.int .i64 0,.int .i64 0,.int .i64 0,.int .i64 0,.int .i64 0,.int .i64 0,.int .i64 0,.slice none 0 0,.slice none 0 0,.slice none 0 0,.int .i64 0,.int .i64 0,.int .i64 0,.int .i64 0,.int .i64 0,.int .i64 0,.int .i64 0,.int .i64 0,.int .i64 0,.int .i64 0,.int .i64 0,.int .i64 0,.int .i64 0,.int .i64 0,.int .i64 0,.int .i64 0,.int .i64 0,.int .i64 0,.int .i64 0,.int .i64 0,.int .i64 0,.int .i64 0,.int .i64 0,.int .i64 0,.bool true]
def Jk(a g:Nat):my:=⟨a,g,none,0,[],none,0,none,0,none,0,E8.all 0,true⟩
theorem J5{c g:Nat}(f:Cl w o)(h:fk w o c g W)(k:W.n=n):gJ (w.alloc (.cells (pj c n) 46)) (gH o w.heap.size 300) w.heap.size (Jk c g) (vh n W)/\Fm iy o (gH o w.heap.size 300) w (w.alloc (.cells (pj c n) 46)):=by have F:=Fm.made (C:=iy) f (.cells (pj c n) 46) 300;have B:=dq.made w o 300 (pj c n) (pY (Jk c g) (vh n W)) 46 rfl;have N:=h.fr (Fm.made (C:=fun _=>False) f (.cells (pj c n) 46) 300) (fun d e=>e.elim);generalize w.alloc (.cells (pj c n) 46)=q at*;generalize gH o w.heap.size 300=m at*;generalize w.heap.size=p at*;exact⟨⟨B,⟨N,k,dQ.nil _ _ _ _ _,rfl,fun i r l a b=>by simp[vh]at b,⟨[],dQ.nil _ _ _ _ _⟩,dQ.nil _ _ _ _ _,dQ.nil _ _ _ _ _,Nat.zero_le _,Nat.zero_le _,Nat.zero_le _,Nat.zero_le _,fun l j=>by simp[vh]at j⟩⟩,F⟩
theorem tA(y:Cl w o)(p:3<=n/\n<=7)(q:uF n=some L'):
  Calls Tryz.prog 41 #[.int .i64 (n:Int)] w fun e M=>∃u K A',e=.returned (de u)/\gJ M K u A' L'/\Fm iy o K w M:=by
 unfold uF at q;obtain⟨W,F,b⟩:=Option.bind_eq_some_iff.1 q;have s:=hI y;have t:=hI b;have v:=hI F;have Q:=hI p;have ad:n<=7:=p.2;clear y q p F b;go_enter Tryz.func41,Tryz.ntmps41;go_wp2_with fail;refine(CD s.o Q.o v.o).mono ?_;rintro e f ⟨Z,N,g,rfl,h2,m⟩;obtain⟨h3,H⟩:=J5 m.cl h2 (Kb v.o);have r:=hI h3;have x:=hI ((m.mono pP).tr H gF);clear h3 H h2 m s;go_upto_region 5 with fail;change Code.wp _ _ _ _ (f.alloc (.cells (pj N n) 46));generalize f.alloc (.cells (pj N n) 46)=w3 at*;generalize gH Z f.heap.size 300=o3 at*;generalize f.heap.size=u at*;go_wp2;go_loopw [5] (fun i wr=>∃(a:Nat) (d:Ow) (h:my) (c:dU),1<=a/\a<=n+1/\i=.int .i64 (a:Int)/\gJ wr d u h c/\dt m0 (List.range' a (n+1-a)) c=some L'/\Fm iy o d w wr) (fun i _=>n+1-(intOf i).toNat);case atStart=>exact⟨1,o3,_,_,by omega,by omega,rfl,r.o,by rw[Nat.add_sub_cancel];exact t.o,x.o⟩
 case round=>
  obtain⟨a,d,h,c,ab,ac,rfl,E,b,J⟩:=hrel;have j:=hI E;have k:=hI b;have l:=hI J;clear E b J r x t;by_cases z:a<=n
  .have X:decide ((a:Int)<=(n:Int))=true:=decide_eq_true (by omega);have Y:decide (a<=n)=true:=decide_eq_true z;have hr:=k.o;rw[show n+1-a=(n+1-(a+1))+1 by omega,List.range'_succ]at hr;obtain⟨U,C,B⟩:=dy hr;have S:=hI C;have R:=hI B;clear hr C B k;go_wp2_with fail;refine(xT l.o.cl j.o S.o).mono ?_;rintro e w5 ⟨rfl,o5,O,h5,I⟩;have P:=hI h5;have V:=hI (l.o.tr I gF);clear h5 I;go_wp2;go_roundw;case rel=>exact⟨a+1,o5,O,U,by omega,by omega,by go_num,P.o,R.o,V.o⟩
   case measure=>simp[intOf];omega
  .have X:decide ((a:Int)<=(n:Int))=false:=decide_eq_false (by omega);have Y:decide (a<=n)=false:=decide_eq_false z
   have T:Hid (c=L'):=hI (by
    have:=k.o;rw[show n+1-a=0 by omega]at this
    exact Option.some.inj this)
   rw[T.o]at j;go_wp2;go_ret;exact⟨u,d,h,rfl,j.o,l.o⟩
theorem xW(d:Cl w o)(h:gJ w o u A L)(f:1<=i/\i<=L.n)(a:mQ L i=some L'):
  Calls Tryz.prog 16 #[de u,lm 2 (i:Int) 0 0 0 ⟨#[]⟩] w fun e b=>(∃r,e=.returned (.int .i64 r))/\∃c A',gJ b c u A' L'/\Fm iy o c w b:=by
 unfold mQ uV at a;split at a;·refine(rt d h f a).mono ?_;rintro e b ⟨h1,h2⟩;exact⟨⟨_,h1⟩,h2⟩
 .cases a
def dW(s:Int)(x:dz×List dj):Bool:=dg s x.1.fr&&dg s x.1.to
def AF(s:Int):Nat->dU->Option dU
 |0,L=>some L
 |k+1,L=>match L.W.ns with
  |[]=>some L
  |x::_=>(ln (!dW s x) 0 L).bind (AF s k)
def qD(s:Int)(L:dU):Option dU:=(nX L).bind fun a=>(oY a).bind (AF s 500)
def mS(s:Int):Nat->dU->Option dU
 |0,L=>some L
 |k+1,L=>(qD s L).bind (mS s k)
end
section
def Ls:ByteArray:=⟨#[97,61,98]⟩
def Df(b:eW):Bool:=match n3 4 b with
 |some a=>match a.sl[(1:Nat)]? with
  |some (.up u)=>decide (u.T.length=1)&&(jH u&&decide (a.rl=19))
  |_=>false
 |none=>false
def De(a:eW):Bool:=match a.sl[(1:Nat)]? with
 |some (.up s)=>eC s&&(decide (s.ls=1)&&decide (s.mb=7))&&match nt 3 1 1 Ls a with
  |some b=>Df b
  |none=>false
 |_=>false
def Dd(W:eW):Bool:=match W.sl[(0:Nat)]?,W.sl[(1:Nat)]? with
 |some (.up _),some (.up _)=>match n3 15 W with
  |some a=>De a
  |none=>false
 |_,_=>false
def ov:Bool:=match uF 3 with
 |some L=>Dd L.W
 |none=>false
theorem zg{i:Nat}{od lv:Int}{da:ByteArray}{W W':eW}(h:nt i od lv da W=some W'):W'.n=W.n:=by
 unfold nt at h;split at h
 .split at h;·cases h
  .split at h;·cases h;rfl
   .cases h
 .cases h
theorem n5:∀(k:Nat) {W W':eW},n3 k W=some W'->W'.n=W.n
 |0,W,W',h=>by cases h;rfl
 |k+1,W,W',h=>by
  unfold n3 at h;obtain⟨V,h1,h2⟩:=Option.bind_eq_some_iff.1 h;exact(n5 k h2).trans (Aw h1)
theorem zo:∀(l:List Nat) (L L':dU),dt m0 l L=some L'->L'.n=L.n
 |[],L,L',h=>by cases h;rfl
 |t::l,L,L',h=>by
  obtain⟨V,h1,h2⟩:=dy h;exact(zo l V L' h2).trans (En h1)
theorem J'{n:Nat}{L:dU}(h:uF n=some L):L.n=n:=by unfold uF at h;obtain⟨W,b,a⟩:=Option.bind_eq_some_iff.1 h;exact(zo _ _ _ a).trans rfl
variable{w N:World} {o G:Ow} {D:Nat} {A A':my} {L L':dU}
theorem xR(ad:Cl w o)(b:ov=true):
  Calls Tryz.prog 62 #[] w fun e w'=>e=.returned (.bool true)/\∃o',Fm iy o o' w w':=by
 have HC:=hI ad;unfold ov at b;split at b;case h_2=>cases b
 rename_i L U;have HL:=hI U;unfold Dd at b;split at b;case h_2=>cases b
 rename_i s0 s1 ae af;split at b;case h_2=>cases b
 rename_i Q ag;unfold De at b;split at b;case h_2=>cases b
 rename_i s hs;rw[Bool.and_eq_true,Bool.and_eq_true,Bool.and_eq_true,decide_eq_true_eq,decide_eq_true_eq]at b;obtain⟨⟨i1,i2,i3⟩,b⟩:=b;split at b;case h_2=>cases b
 rename_i W2 ah;unfold Df at b;split at b;case h_2=>cases b
 rename_i r ai;split at b;case h_2=>cases b
 rename_i u hu;rw[Bool.and_eq_true,Bool.and_eq_true,decide_eq_true_eq,decide_eq_true_eq]at b;obtain⟨t1,t2,t3⟩:=b;have al:=hI ae;have am:=hI af;have B:=hI ag;have HS:=hI hs;have v:=hI (And.intro i1 (And.intro i2 i3));have C:=hI ah;have E:=hI ai;have HU:=hI hu;have y:=hI (And.intro t1 (And.intro t2 t3));have ak:=hI (J' U);clear ad U ae af ag hs i1 i2 i3 ah ai hu t1 t2 t3;go_enter Tryz.func62,Tryz.ntmps62;go_wp2_with fail;refine(tA (n:=3) HC.o (by decide) HL.o).mono ?_;rintro e w1 ⟨D,o1,A,rfl,h1,m1⟩;have d:=hI h1;have F:=hI m1;have g:Hid (L.W.n=3):=hI (h1.q.nn.trans ak.o);clear h1 m1 HC;have c:=d.o.box.box.c 0 _ rfl;go_wp2_with fail;refine(eu (i:=1) d.o.q.wr ⟨by decide,by rw[g.o];decide⟩ al.o).mono ?_;rintro e h ⟨xx,cc,Z,rfl,-,-,-,-,-,-,rfl⟩;go_wp2_with fail;obtain⟨x2,c2,A2,q1,q2,-⟩:=d.o.q.wr.up (i:=2) ⟨by decide,by rw[g.o];decide⟩ am.o;refine(wK (i:=2) d.o.q.wr ⟨by decide,by rw[g.o];decide⟩ q2).mono ?_;rintro e h ⟨rfl,rfl⟩;clear q1 q2;go_wp2_with fail;refine(t7 (i:=3) d.o.q.wr ⟨by decide,by rw[g.o];decide⟩).mono ?_;rintro e h ⟨rfl,rfl⟩;go_wp2_with fail;refine(Gs (z:=4) d.o.q.wr (by rw[g.o];decide)).mono ?_;rintro e h ⟨rfl,rfl⟩;go_wp2_with fail;refine(sC (k:=15) (a:=0) (od:=0) (lv:=0) (da:=⟨#[]⟩) F.o.cl d.o.q.wr (by decide) B.o).mono ?_;rintro e w2 ⟨rfl,o2,g2,R⟩;have m:=hI (d.o.went R g2 ((n5 15 B.o).trans d.o.q.nn));have H:=hI (F.o.tr (R.mono pP) gF);have x:Hid (Q.n=3):=hI ((n5 15 B.o).trans g.o);clear g2 R d F c;have c:=m.o.box.box.c 0 _ rfl;go_wp2_with fail;refine(eu (i:=2) (W:=Q) m.o.q.wr ⟨by decide,by rw[x.o];decide⟩ HS.o).mono ?_;rintro e h ⟨xx,cc,Z,rfl,-,-,f,-,-,-,rfl⟩;go_wp2_with fail;refine(mg f).mono ?_;rw[v.o.1,v.o.2.1,v.o.2.2];rintro e w3 ⟨rfl,V⟩;have j:=hI (m.o.ext V);have I:=hI (H.o.tr (Fm.ext H.o.cl V) gF);clear f V m H c;have c:=j.o.box.box.c 0 _ rfl;go_wp2_with fail;refine(sB (i:=3) (k:=0) (od:=1) (lv:=1) (da:=Ls) I.o.cl (W:=Q) j.o.q.wr ⟨by decide,by rw[x.o];decide⟩ C.o).mono ?_;rintro e N ⟨rfl,G,g4,S⟩;have l:=hI (j.o.went S g4 ((zg C.o).trans j.o.q.nn));have J:=hI (I.o.tr (S.mono pP) gF);have aj:Hid (W2.n=3):=hI ((zg C.o).trans x.o);clear g4 S j I c;have c:=l.o.box.box.c 0 _ rfl;go_wp2_with fail;refine(sC (k:=4) (a:=0) (od:=0) (lv:=0) (da:=⟨#[]⟩) J.o.cl (W:=W2) l.o.q.wr (by decide) E.o).mono ?_;rintro e w5 ⟨rfl,o5,g5,T⟩;have p:=hI (l.o.went T g5 ((n5 4 E.o).trans l.o.q.nn));have K:=hI (J.o.tr (T.mono pP) gF);have ac:Hid (r.n=3):=hI ((n5 4 E.o).trans aj.o);clear g5 T l J c;have c:=p.o.box.box.c 0 _ rfl;go_wp2_with fail;refine(eu (i:=2) (W:=r) p.o.q.wr ⟨by decide,by rw[ac.o];decide⟩ HU.o).mono ?_;rintro e h ⟨xx,cc,Z,rfl,-,-,f,-,-,-,rfl⟩;have P:=hI (oN f);rw[y.o.1]at P;clear f;go_wp2_with fail;refine P.o.mono ?_;rintro e w6 ⟨pt,ct,rfl,-,X⟩;have q:=hI (p.o.ext X);have M:=hI (K.o.tr (Fm.ext K.o.cl X) gF);clear X p K c P;have c:=q.o.box.box.c 0 _ rfl;go_wp2_with fail;refine(eu (i:=2) (W:=r) q.o.q.wr ⟨by decide,by rw[ac.o];decide⟩ HU.o).mono ?_;rintro e h ⟨x7,c7,A7,rfl,-,-,f,-,-,-,rfl⟩;have t:=hI (mc f);rw[y.o.2.1]at t;clear f;go_wp2_with fail;refine t.o.mono ?_;rintro e w7 ⟨rfl,Y⟩;have H7:=hI (q.o.ext Y);have O:=hI (M.o.tr (Fm.ext M.o.cl Y) gF);clear Y q M c t;have c:=H7.o.box.box.c 0 _ rfl;have RR:=hI (pc (W:=r) H7.o.q.wr);rw[y.o.2.2]at RR;go_wp2_with fail;refine RR.o.mono ?_;rintro e w8 ⟨rfl,rfl⟩;go_wp2_with fail;refine(yP O.o.cl).mono ?_;rintro e w8 ⟨rfl,x8⟩;have M8:=hI (O.o.tr (Fm.ext O.o.cl x8) gF);clear x8;go_wp2;go_ret;exact⟨rfl,_,M8.o⟩
theorem xP(b:Cl w o)(a:ov=true):
  Calls Tryz.prog 40 #[] w fun e h=>e=.returned (.bool true)/\∃f,Fm iy o f w h:=by have B:=hI (xR b a);clear b a;go_enter Tryz.func40,Tryz.ntmps40;go_wp2_with fail;refine B.o.mono ?_;rintro e i ⟨rfl,g,c⟩;have d:=hI c;clear c;go_wp2;go_ret;exact⟨rfl,g,d.o⟩
theorem yB(b:Cl w o)(a:ov=true):
  Calls Tryz.prog 12 #[] w fun e h=>e=.returned (.bool true)/\∃f,Fm iy o f w h:=by have B:=hI (xP b a);clear b a;go_enter Tryz.func12,Tryz.ntmps12;go_wp2_with fail;refine B.o.mono ?_;rintro e i ⟨rfl,g,c⟩;have d:=hI c;clear c;go_wp2;go_ret;exact⟨rfl,g,d.o⟩
end
end Go.Proofs.YtjhbmbbmjaabcaaGreat
