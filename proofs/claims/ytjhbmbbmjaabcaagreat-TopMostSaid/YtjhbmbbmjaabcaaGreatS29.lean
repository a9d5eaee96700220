/-
  Contracts. Conditions stand at each.
-/
import Derived.Test.YtjhbmbbmjaabcaaGreatS28
set_option linter.all false
set_option maxRecDepth 8000
set_option maxHeartbeats 8000000
namespace Go.Proofs.YtjhbmbbmjaabcaaGreat
open Go Go.Sort Go.RowKit
section
variable{da:ByteArray} {k i:Nat} {od lv:Int}
theorem JP{s:ByteArray}{w:World}(b:s.size<=18):
  Calls Tryz.prog 42 #[.string s,.int .i64 18] w fun e a=>e=.returned (.string s)/\w=a:=by go_enter Tryz.func42,Tryz.ntmps42;go_wp2;go_ret;trivial
def gX(da:ByteArray):ByteArray:=if da.size<=18 then da else da.extract 0 18
theorem lY(s:ByteArray)(w:World):
  Calls Tryz.prog 42 #[.string s,.int .i64 18] w fun e a=>e=.returned (.string (gX s))/\w=a:=by
 by_cases h:s.size<=18;·rw[show gX s=s from if_pos h];exact JP h
 .rw[show gX s=s.extract 0 18 from if_neg h];have h1:=dT ((18:Int)<(s.size:Int));have h2:=dT (18<s.size);have h3:(18:Int)<=(s.size:Int):=by omega
  clear h;go_enter Tryz.func42,Tryz.ntmps42;go_wp2;go_ret;exact⟨rfl,rfl⟩
def og(L:dU)(W:Option eW):Option dU:=
 match W with
 |none=>none
 |some a=>if decide (a.n=L.n)then some {L with W:=a}else none
def pI(i:Nat)(L:dU):Option dU:=(og L (r' i L.W)).bind gE
def ln(b:Bool)(k:Nat)(L:dU):Option dU:=(og L (j6 b k L.W)).bind gE
def nX(L:dU):Option dU:=if decide (L.W.rl<1000000)then gE {L with W:={L.W with rl:=L.W.rl+1}}else none
def gO(L:dU)(i:Nat)(bt:Int):Nat->Int
 |0=>0
 |k+1=>gO L i bt k+(match L.cs[k]? with|some e=>if e.fr==(i:Int)&&e.bt==bt then 1 else 0|none=>0)
def vn(i:Nat)(od lv:Int)(da:ByteArray)(L:dU):Option dU:=
 match L.W.sl[i-1]? with
 |some (.up s)=>if decide (L.cs.length<1000)then some {L with cs:=L.cs++[⟨(i:Int),s.bt,gO L i s.bt L.cs.length+1,od,lv,0,da⟩]}else none
 |_=>none
def ww(i:Nat)(od lv:Int)(da:ByteArray)(L:dU):Option dU:=((og L (nt i od lv da L.W)).bind (vn i od lv da)).bind gE
variable{w G:World} {o N:Ow} {D:Nat} {A A':my} {L L':dU}
theorem Dm{W':eW}{i:Nat}{bt:Int}:∀k:Nat,gO {L with W:=W'} i bt k=gO L i bt k
 |0=>rfl
 |k+1=>by
  have h:= @Dm W' i bt k;unfold gO;rw[h]
theorem uh{i:Nat}{bt:Int}:∀k:Nat,0<=gO L i bt k/\gO L i bt k<=(k:Int)
 |0=>by unfold gO;omega
 |k+1=>by
  have h:= @uh i bt k;unfold gO;split;·split<;>omega
  .omega
theorem il{W:Option eW}{b:dU}(h:og L W=some b):∃a,W=some a/\a.n=L.n/\b={L with W:=a}:=by
 unfold og at h;split at h;·cases h
 .rename_i a;split at h;·rename_i h1;cases h;exact⟨a,rfl,of_decide_eq_true h1,rfl⟩
  .cases h
theorem gz{f a k od lv z:Int}{da:ByteArray}{W':eW}(V:Cl w o)(h:gJ w o D A L)(E:f≠1/\f≠9/\f≠7)(hu:a<1\/(L.n:Int)<a\/∃i:Nat,a=(i:Int)/\(1<=i/\i<=L.n)/\∃s,L.W.sl[i-1]? =some (.up s))
  (hf:(f≠2/\f≠8)\/(f=2/\(a<1\/(L.n:Int)<a))\/(f=8/\z≠0))(hn:W'.n=L.n)
  (T:∀(w:World) (o:Ow),Cl w o->fk w o A.wb A.g L.W->Calls Tryz.prog 44 #[de A.wb,lm f a k od lv (gX da)] w fun e t=>e=.returned (.int .i64 z)/\∃q,fk t q A.wb A.g W'/\Fm fF o q w t)(hs:gE {L with W:=W'}=some L'):
  Calls Tryz.prog 16 #[de D,lm f a k od lv da] w fun e t=>e=.returned (.int .i64 z)/\∃q A',gJ t q D A' L'/\Fm iy o q w t:=by
 have H:=h;have af:=hI T;have ag:=hI hs;have aj:=hI hn;have ah:=hI h.q.nn;have ar:L.n<8:=by have h1:=h.q.wr.hn;have h2:=h.q.nn;omega
 have k9:(f==9)=false:=by simpa using E.2.1
 have k1:(f==1)=false:=by simpa using E.1
 have k7:(f==7)=false:=by simpa using E.2.2
 clear h hs hn T E;rcases hf with⟨h2,h8⟩|⟨h2,aq⟩|⟨h8,hz⟩
 case' inl=>
  have k2:(f==2)=false:=by simpa using h2
  have k8:(f==8)=false:=by simpa using h8
  clear h2 h8
 case' inr.inl=>
  have k2:(f==2)=true:=by simpa using h2
  have k8:(f==8)=false:=by rw[h2];rfl
  clear h2
 case' inr.inr=>
  have k2:(f==2)=false:=by rw[h8];rfl
  have k8:(f==8)=true:=by simpa using h8
  have kz:(z==0)=false:=by simpa using hz
  clear h8 hz
 all_goals rcases hu with F|F|⟨i,F,hi,s,ab⟩
 all_goals try(exfalso;omega)
 all_goals first
  |have z1:=dF ((1:Int)<=a)
  |(have z1:=dT ((1:Int)<=a);have z2:decide (a<=(L.n:Int))=false:=decide_eq_false (by omega))
  |(have ae:=hI F;have ai:=hI ab;have HI:Hid (1<=i/\i<=L.W.n):=hI (by rw[ah.o];exact hi);have f1:(0:Int)<=a:=(by omega);have f2:a<8:=(by omega);have z1:=dT ((1:Int)<=a);have z2:=dT (a<=(L.n:Int));clear ab hi)
 all_goals try clear F
 all_goals try clear aq
 all_goals
  go_enter Tryz.func16,Tryz.ntmps16;go_upto_region 1 with fail;change Code.wp _ _ _ _ (w.alloc (.cells (eX f a k od lv da) 28));have u:=Fm.made (C:=fun _=>False) V (.cells (eX f a k od lv da) 28) 305;have l:=dq.made w o 305 (eX f a k od lv da) (nk f a k od lv da) 28 rfl;replace H:gJ (w.alloc (.cells (eX f a k od lv da) 28)) (gH o w.heap.size 305) D A L:=⟨H.box.fr u (by decide) (fun e=>e),H.q.fr u (fun d e=>e.elim)⟩;have I:=u.mono (C':=iy) (fun d e=>e.elim);clear u V;generalize w.alloc (.cells (eX f a k od lv da) 28)=R at*;generalize gH o w.heap.size 305=o1 at*;generalize w.heap.size=r at*;have d5:=l.box.c 5 _ rfl;have Z:=l.box.c 0 _ rfl;have fz:=l.box.f 5;go_wp2_with fail;refine(lY da _).mono ?_;rintro e w2 ⟨rfl,rfl⟩;have v:=Fm.put (C:=one 305) I.cl l (by decide) rfl 5 (.string (gX da));have c:dq (R.setCell ⟨r,5,none⟩ (.string (gX da))) o1 305 r (nk f a k od lv (gX da)):=l.put 5 (.string (gX da));have g:gJ (R.setCell ⟨r,5,none⟩ (.string (gX da))) o1 D A L:=⟨H.box.fr v (by decide) (by unfold one;omega),H.q.fr v (fun d p=>by unfold one at p;subst p;unfold fF;omega)⟩;have J:=I.tr (v.mono (C':=iy) (fun d p=>by unfold one at p;subst p;unfold iy;omega)) gF;go_upto_region 5 with fail;clear d5 Z fz v l H I;generalize R.setCell ⟨r,5,none⟩ (.string (gX da))=w2 at*;obtain⟨m,n,x⟩:=eS w2;replace g:=g.ext x;replace c:=c.ext x;have g1:∀d Q,(grow (redrawn m d) Q).cell? ⟨D,1,none⟩=some (.int .i64 (L.n:Int)):=rg m (g.box.box.c 1 _ rfl);have g0:=rg m (g.box.box.c 0 _ rfl);have P:∀d Q,(grow (redrawn m d) Q).cell? ⟨r,1,none⟩=some (.int .i64 a):=rg m (c.box.c 1 _ rfl);refine eA [0,1,2,3,4,5,6,7,8,9,10,11,12,13,14,15,16,17,18,19,20,21,22] [] ?_;rw[<-n];clear n;repeat((first|refine dC fun K b=>?_|refine dB fun K b=>?_);go_big_quiet_op;refine b _ ?_;clear b K)
  try refine eF fun K b=>?_;go_simp;rw[ae.o];refine(eu g.q.wr HI.o ai.o).mono ?_;rintro e G ⟨xx,cc,AA,rfl,-,-,-,-,-,-,rfl⟩;refine b _ _ (db.rfl' _) ?_;clear b K;repeat((first|refine dC fun K b=>?_|refine dB fun K b=>?_);go_big_quiet_op;refine b _ ?_;clear b K)
  refine dh ?_;refine df ?_;have M:=J.tr (Fm.ext J.cl x) gF;clear x J g1 g0 P;go_upto_region 6 with fail;obtain⟨j,n,y⟩:=eS m;replace g:=g.ext y;replace c:=c.ext y;have g0:=rg j (g.box.box.c 0 _ rfl);have al:=rg j (c.box.c 0 _ rfl);have P:=rg j (c.box.c 1 _ rfl);have am:=rg j (c.box.c 2 _ rfl);have an:=rg j (c.box.c 3 _ rfl);have ao:=rg j (c.box.c 4 _ rfl);have ap:=rg j (c.box.c 5 _ rfl);refine eA [0,1,2,3,4] [5,6] ?_;rw[<-n];clear n;repeat((first|refine dC fun K b=>?_|refine dB fun K b=>?_);go_big_quiet_op;refine b _ ?_;clear b K)
  have O:=M.tr (Fm.ext M.cl y) gF;clear y M;refine dh ?_;refine iD fun K b=>?_;go_simp;refine(af.o _ _ O.cl g.q.wr).mono ?_;rintro e w6 ⟨rfl,o6,ad,B⟩;have H6:=g.went B ad aj.o;have ak:=c.fr B (by decide) (by unfold fF;omega);have Y:=O.tr (B.mono pP) gF;clear ad B g c O g0 al P am an ao ap;refine b _ _ ?_;clear b K;refine iD fun K b=>?_;go_simp;refine b _ _ ?_;clear b K;refine df ?_;have Z:=ak.box.c 0 _ rfl;go_wp2_with fail;refine(kV Y.cl H6 ag.o).mono ?_;rintro e au ⟨rfl,ac,S,U,aa⟩;have X:=Y.tr aa gF;clear aa;go_wp2;go_ret;first|exact⟨rfl,ac,S,U,X⟩|exact⟨rfl,ac,⟨S,U⟩,X⟩
def CZ(L:dU)(a:Int):Prop:=a<1\/(L.n:Int)<a\/∃i:Nat,a=(i:Int)/\(1<=i/\i<=L.n)/\∃s,L.W.sl[i-1]? =some (.up s)
theorem zL{a:Int}(f:Cl w o)(h:gJ w o D A L)(m:CZ L a)(l:ln false k L=some L'):
  Calls Tryz.prog 16 #[de D,lm 3 a (k:Int) od lv da] w fun e d=>e=.returned (.int .i64 0)/\∃b A',gJ d b D A' L'/\Fm iy o b w d:=by obtain⟨q,n,g⟩:=Option.bind_eq_some_iff.1 l;obtain⟨s,p,j,rfl⟩:=il n;exact gz f h (by decide) m (.inl (by decide)) j (fun w o c r=>yS c r p) g
theorem xV(c:Cl w o)(h:gJ w o D A L)(d:ln false k L=some L'):
 Calls Tryz.prog 16 #[de D,lm 3 0 (k:Int) 0 0 ⟨#[]⟩] w fun e b=>e=.returned (.int .i64 0)/\∃a A',gJ b a D A' L'/\Fm iy o a w b:=zL c h (.inl (by decide)) d
theorem zM{a:Int}(f:Cl w o)(h:gJ w o D A L)(m:CZ L a)(l:ln true k L=some L'):
  Calls Tryz.prog 16 #[de D,lm 4 a (k:Int) od lv da] w fun e d=>e=.returned (.int .i64 0)/\∃b A',gJ d b D A' L'/\Fm iy o b w d:=by obtain⟨q,n,g⟩:=Option.bind_eq_some_iff.1 l;obtain⟨s,p,j,rfl⟩:=il n;exact gz f h (by decide) m (.inl (by decide)) j (fun w o c r=>yT c r p) g
theorem ru(c:Cl w o)(h:gJ w o D A L)(d:ln true k L=some L'):
 Calls Tryz.prog 16 #[de D,lm 4 0 (k:Int) 0 0 ⟨#[]⟩] w fun e b=>e=.returned (.int .i64 0)/\∃a A',gJ b a D A' L'/\Fm iy o a w b:=zM c h (.inl (by decide)) d
theorem rt{g:Int}(Y:Cl w o)(h:gJ w o D A L)(hi:1<=i/\i<=L.n)(T:pI i L=some L'):
  Calls Tryz.prog 16 #[de D,lm 2 (i:Int) g od lv da] w fun e w'=>e=.returned (.int .i64 0)/\∃o' A',gJ w' o' D A' L'/\Fm iy o o' w w':=by
 have H:=h;have k9:((2:Int)==9)=false:=rfl;have k1:((2:Int)==1)=false:=rfl;have k2:((2:Int)==2)=true:=rfl;have k7:((2:Int)==7)=false:=rfl;have k8:((2:Int)==8)=false:=rfl;unfold pI at T;obtain⟨L1,hw,ac⟩:=Option.bind_eq_some_iff.1 T;obtain⟨W',u,hn,rfl⟩:=il hw
 obtain⟨s,ad⟩:∃s,L.W.sl[i-1]? =some (.up s):=by
  unfold r' at u;split at u;·rename_i s h1;exact⟨s,h1⟩
  .cases u
 have ah:=hI ad;have HW:=hI u;have ai:=hI hn;have ag:=hI ac;have J:Hid (1<=i/\i<=L.W.n):=hI (by rw[h.q.nn];exact hi);have f1:(0:Int)<=(i:Int):=by omega
 have f2:(i:Int)<8:=by have h1:=h.q.wr.hn;have h2:=J.o;omega
 have ab:i<8:=by omega
 have z1:=dT ((1:Int)<=(i:Int));have z2:=dT ((i:Int)<=(L.n:Int));have ar:=dT (i<=L.n);have aq:=dT (1<=i);have ap:=dT (0<i);clear h T hw u hn ac ad hi;go_enter Tryz.func16,Tryz.ntmps16;go_upto_region 1 with fail;change Code.wp _ _ _ _ (w.alloc (.cells (eX 2 (i:Int) g od lv da) 28));have x:=Fm.made (C:=fun _=>False) Y (.cells (eX 2 (i:Int) g od lv da) 28) 305;have m:=dq.made w o 305 (eX 2 (i:Int) g od lv da) (nk 2 (i:Int) g od lv da) 28 rfl;replace H:gJ (w.alloc (.cells (eX 2 (i:Int) g od lv da) 28)) (gH o w.heap.size 305) D A L:=⟨H.box.fr x (by decide) (fun e=>e),H.q.fr x (fun d e=>e.elim)⟩;have M:=x.mono (C':=iy) (fun d e=>e.elim);clear x Y;generalize w.alloc (.cells (eX 2 (i:Int) g od lv da) 28)=V at*;generalize gH o w.heap.size 305=o1 at*;generalize w.heap.size=v at*;have d5:=m.box.c 5 _ rfl;have R:=m.box.c 0 _ rfl;have S:=m.box.f 5;go_wp2_with fail;refine(lY da _).mono ?_;rintro e w2 ⟨rfl,rfl⟩;have z:=Fm.put (C:=one 305) M.cl m (by decide) rfl 5 (.string (gX da));have b:dq (V.setCell ⟨v,5,none⟩ (.string (gX da))) o1 305 v (nk 2 (i:Int) g od lv (gX da)):=m.put 5 (.string (gX da));have c:gJ (V.setCell ⟨v,5,none⟩ (.string (gX da))) o1 D A L:=⟨H.box.fr z (by decide) (by unfold one;omega),H.q.fr z (fun d t=>by unfold one at t;subst t;unfold fF;omega)⟩;have O:=M.tr (z.mono (C':=iy) (fun d t=>by unfold one at t;subst t;unfold iy;omega)) gF;go_upto_region 5 with fail;clear d5 R S z m H M;generalize V.setCell ⟨v,5,none⟩ (.string (gX da))=w2 at*;obtain⟨n,f,E⟩:=eS w2;replace c:=c.ext E;replace b:=b.ext E;have g1:∀d U,(grow (redrawn n d) U).cell? ⟨D,1,none⟩=some (.int .i64 (L.n:Int)):=rg n (c.box.box.c 1 _ rfl);have g0:=rg n (c.box.box.c 0 _ rfl);have r:∀d U,(grow (redrawn n d) U).cell? ⟨v,1,none⟩=some (.int .i64 ((i:Int))):=rg n (b.box.c 1 _ rfl);refine eA [0,1,2,3,4,5,6,7,8,9,10,11,12,13,14,15,16,17,18,19,20,21,22] [] ?_;rw[<-f];clear f;repeat((first|refine dC fun K a=>?_|refine dB fun K a=>?_);go_big_quiet_op;refine a _ ?_;clear a K)
 refine eF fun K a=>?_;go_simp;refine(eu c.q.wr J.o ah.o).mono ?_;rintro e G ⟨xx,cc,AA,rfl,-,-,-,-,-,-,rfl⟩;refine a _ _ (db.rfl' _) ?_;clear a K;repeat((first|refine dC fun K a=>?_|refine dB fun K a=>?_);go_big_quiet_op;refine a _ ?_;clear a K)
 refine dh ?_;refine df ?_;have P:=O.tr (Fm.ext O.cl E) gF;clear E O g1 g0 r;go_upto_region 6 with fail;obtain⟨j,f,F⟩:=eS n;replace c:=c.ext F;replace b:=b.ext F;have g0:=rg j (c.box.box.c 0 _ rfl);have aj:=rg j (b.box.c 0 _ rfl);have r:=rg j (b.box.c 1 _ rfl);have ak:=rg j (b.box.c 2 _ rfl);have al:=rg j (b.box.c 3 _ rfl);have am:=rg j (b.box.c 4 _ rfl);have an:=rg j (b.box.c 5 _ rfl);refine eA [0,1,2,3,4] [5,6] ?_;rw[<-f];clear f;repeat((first|refine dC fun K a=>?_|refine dB fun K a=>?_);go_big_quiet_op;refine a _ ?_;clear a K)
 have Q:=P.tr (Fm.ext P.cl F) gF;clear F P;refine dh ?_;refine iD fun K a=>?_;go_simp;refine(yR Q.cl c.q.wr J.o HW.o).mono ?_;rintro e w6 ⟨rfl,o6,af,I⟩;have l:=c.went I af ai.o;have B:=b.fr I (by decide) (by unfold fF;omega);have y:=Q.tr (I.mono pP) gF;clear af I c b Q g0 aj r ak al am an;refine a _ _ ?_;clear a K;refine iD fun K a=>?_;go_simp;refine a _ _ ?_;clear a K;refine df ?_;have R:=B.box.c 0 _ rfl;go_upto_region 15 with fail;clear R;obtain⟨W7,f,p⟩:=eS w6;replace l:=l.ext p;replace B:=B.ext p;have r:=rg W7 (B.box.c 1 _ rfl);refine eA [0,1,2,3,4,5] [6] ?_;rw[<-f];clear f;repeat((first|refine dC fun K a=>?_|refine dB fun K a=>?_);go_big_quiet_op;refine a _ ?_;clear a K)
 refine dh ?_;have cs:=l.box.box.c (38+i) _ (ry ab);have S:=l.box.box.f (38+i);refine iD fun K a=>?_;go_simp;obtain⟨H8,m8⟩:=l.put (y.cl.ext p) (38+i) (.int .i64 0) (uD ab) (fun q=>⟨q.wr,q.nn,q.fo,q.fl,q.fi,q.so,q.vo,q.co,q.mx⟩);have M8:=(y.tr (Fm.ext y.cl p) gF).tr m8 gF;clear m8 cs S r p l y;refine a _ _ ?_;clear a K;refine df ?_;generalize W7.setCell ⟨D,38+i,none⟩ (.int .i64 0)=w8 at*;go_wp2_with fail;refine(kV M8.cl H8 ag.o).mono ?_;rintro e ao ⟨rfl,ae,W,X,aa⟩;have Z:=M8.tr aa gF;clear aa;go_wp2;go_ret;first|exact⟨rfl,ae,W,X,Z⟩|exact⟨rfl,ae,⟨W,X⟩,Z⟩
theorem Ia{E:Int}{B:ByteArray}(HC:Cl w o)(h:gJ w o D A L)(aC:gX B=da)(hi:1<=i/\i<=L.n)(hs:ww i od lv da L=some L'):
  Calls Tryz.prog 16 #[de D,lm 8 (i:Int) E od lv B] w fun e w'=>e=.returned (.int .i64 0)/\∃o' A',gJ w' o' D A' L'/\Fm iy o o' w w':=by
 have H:=h;have k9:((8:Int)==9)=false:=rfl;have k1:((8:Int)==1)=false:=rfl;have k2:((8:Int)==2)=false:=rfl;have k7:((8:Int)==7)=false:=rfl;have k8:((8:Int)==8)=true:=rfl;unfold ww at hs;obtain⟨L2,aE,aD⟩:=Option.bind_eq_some_iff.1 hs;obtain⟨L1,hw,Q⟩:=Option.bind_eq_some_iff.1 aE;obtain⟨U,ad,hn,rfl⟩:=il hw
 obtain⟨s,aF⟩:∃s,L.W.sl[i-1]? =some (.up s):=by
  unfold nt at ad;split at ad;·rename_i s h1;exact⟨s,h1⟩
  .cases ad
 unfold vn at Q;split at Q;case h_2=>cases Q
 rename_i m aG;split at Q;case isFalse=>cases Q
 rename_i aA;have aq:=hI (of_decide_eq_true aA);have aP:=hI (Option.some.inj Q);have aS:=hI aG;have aR:=hI aF;have HW:=hI ad;have aT:=hI hn;have aQ:=hI aD;have aM:=hI aC;have HI:Hid (1<=i/\i<=L.W.n):=hI (by rw[h.q.nn];exact hi);have aN:Hid (1<=i/\i<=U.n):=hI (by rw[hn];exact hi);have f1:(0:Int)<=(i:Int):=by omega
 have f2:(i:Int)<8:=by have h1:=h.q.wr.hn;have h2:=HI.o;omega
 have bf:i<8:=by omega
 have z1:=dT ((1:Int)<=(i:Int));have z2:=dT ((i:Int)<=(L.n:Int));have bn:=dT (i<=L.n);have bm:=dT (1<=i);have bl:=dT (0<i);have z3:((0:Int)==0)=true:=rfl;clear h hs aE hw ad hn aD aF hi Q aG aA aC;go_enter Tryz.func16,Tryz.ntmps16;go_upto_region 1 with fail;change Code.wp _ _ _ _ (w.alloc (.cells (eX 8 (i:Int) E od lv B) 28));have F0:=Fm.made (C:=fun _=>False) HC (.cells (eX 8 (i:Int) E od lv B) 28) 305;have T:=dq.made w o 305 (eX 8 (i:Int) E od lv B) (nk 8 (i:Int) E od lv B) 28 rfl;replace H:gJ (w.alloc (.cells (eX 8 (i:Int) E od lv B) 28)) (gH o w.heap.size 305) D A L:=⟨H.box.fr F0 (by decide) (fun e=>e),H.q.fr F0 (fun d e=>e.elim)⟩;have M1:=F0.mono (C':=iy) (fun d e=>e.elim);clear F0 HC;generalize w.alloc (.cells (eX 8 (i:Int) E od lv B) 28)=w1 at*;generalize gH o w.heap.size 305=o1 at*;generalize w.heap.size=b at*;have d5:=T.box.c 5 _ rfl;have d0:=T.box.c 0 _ rfl;have fz:=T.box.f 5;go_wp2_with fail;refine(lY B _).mono ?_;rw[aM.o];rintro e w2 ⟨rfl,rfl⟩;have P2:=Fm.put (C:=one 305) M1.cl T (by decide) rfl 5 (.string da);have r:dq (w1.setCell ⟨b,5,none⟩ (.string da)) o1 305 b (nk 8 (i:Int) E od lv da):=T.put 5 (.string da);have y:gJ (w1.setCell ⟨b,5,none⟩ (.string da)) o1 D A L:=⟨H.box.fr P2 (by decide) (by unfold one;omega),H.q.fr P2 (fun d hd=>by unfold one at hd;subst hd;unfold fF;omega)⟩;have M2:=M1.tr (P2.mono (C':=iy) (fun d hd=>by unfold one at hd;subst hd;unfold iy;omega)) gF;go_upto_region 5 with fail;clear d5 d0 fz P2 T H M1;generalize w1.setCell ⟨b,5,none⟩ (.string da)=w2 at*;obtain⟨V,l,X3⟩:=eS w2;replace y:=y.ext X3;replace r:=r.ext X3;have X:∀d F,(grow (redrawn V d) F).cell? ⟨D,1,none⟩=some (.int .i64 (L.n:Int)):=rg V (y.box.box.c 1 _ rfl);have g0:=rg V (y.box.box.c 0 _ rfl);have I:∀d F,(grow (redrawn V d) F).cell? ⟨b,1,none⟩=some (.int .i64 ((i:Int))):=rg V (r.box.c 1 _ rfl);refine eA [0,1,2,3,4,5,6,7,8,9,10,11,12,13,14,15,16,17,18,19,20,21,22] [] ?_;rw[<-l];clear l;repeat((first|refine dC fun K a=>?_|refine dB fun K a=>?_);go_big_quiet_op;refine a _ ?_;clear a K)
 refine eF fun K a=>?_;go_simp;refine(eu y.q.wr HI.o aR.o).mono ?_;rintro e G ⟨xx,cc,AA,rfl,-,-,-,-,-,-,rfl⟩;refine a _ _ (db.rfl' _) ?_;clear a K;repeat((first|refine dC fun K a=>?_|refine dB fun K a=>?_);go_big_quiet_op;refine a _ ?_;clear a K)
 refine dh ?_;refine df ?_;have M3:=M2.tr (Fm.ext M2.cl X3) gF;clear X3 M2 X g0 I;go_upto_region 6 with fail;obtain⟨J,l,X5⟩:=eS V;replace y:=y.ext X5;replace r:=r.ext X5;have g0:=rg J (y.box.box.c 0 _ rfl);have aW:=rg J (r.box.c 0 _ rfl);have I:=rg J (r.box.c 1 _ rfl);have aX:=rg J (r.box.c 2 _ rfl);have aY:=rg J (r.box.c 3 _ rfl);have aZ:=rg J (r.box.c 4 _ rfl);have a0:=rg J (r.box.c 5 _ rfl);refine eA [0,1,2,3,4] [5,6] ?_;rw[<-l];clear l;repeat((first|refine dC fun K a=>?_|refine dB fun K a=>?_);go_big_quiet_op;refine a _ ?_;clear a K)
 have M5:=M3.tr (Fm.ext M3.cl X5) gF;clear X5 M3;refine dh ?_;refine iD fun K a=>?_;go_simp;refine(sB (k:=E) M5.cl y.q.wr HI.o HW.o).mono ?_;rintro e w6 ⟨rfl,o6,aK,f6⟩;have R:=y.went f6 aK aT.o;have aa:=r.fr f6 (by decide) (by unfold fF;omega);have M6:=M5.tr (f6.mono pP) gF;clear aK f6 y r M5 g0 aW I aX aY aZ a0;refine a _ _ ?_;clear a K;refine iD fun K a=>?_;go_simp;refine a _ _ ?_;clear a K;refine df ?_;have d0:=aa.box.c 0 _ rfl;go_upto_region 19 with fail;clear d0;obtain⟨W7,l,X7⟩:=eS w6;replace R:=R.ext X7;replace aa:=aa.ext X7;have I:=rg W7 (aa.box.c 1 _ rfl);have g0:=rg W7 (R.box.box.c 0 _ rfl);refine eA [0,1,2,3,4,5,6,7] [] ?_;rw[<-l];clear l;repeat((first|refine dC fun K a=>?_|refine dB fun K a=>?_);go_big_quiet_op;refine a _ ?_;clear a K)
 refine eF fun K a=>?_;go_simp;refine(eu R.q.wr aN.o aS.o).mono ?_;rintro e w8 ⟨x2,c2,A2,rfl,-,-,ND,-,-,-,rfl⟩;refine a _ _ (db.rfl' _) ?_;clear a K;repeat((first|refine dC fun K a=>?_|refine dB fun K a=>?_);go_big_quiet_op;refine a _ ?_;clear a K)
 refine dh ?_;refine df ?_;have M7:=M6.tr (Fm.ext M6.cl X7) gF;clear X7 M6 I g0;have be:L.cs.length<1000:=aq.o;have O:W7.cell? ⟨D,21,none⟩=some (.slice A.cp L.cs.length A.cc):=R.box.box.c 21 _ rfl;go_wp2;go_loopw [9,10] (fun v ii wx=>∃k:Nat,k<=L.cs.length/\ii=.int .i64 (k:Int)/\v=.int .i64 (gO L i m.bt k)/\db W7 wx) (fun _ ii _=>L.cs.length-(intOf ii).toNat);case atStart=>exact⟨0,by omega,rfl,rfl,db.rfl' _⟩
 case round=>
  obtain⟨k,hk,rfl,rfl,M⟩:=hrel;have g:=R.ext M;have c:=aa.ext M;have t:=ND.ext M;have z:=M7.tr (Fm.ext M7.cl M) gF;clear O;have O:wr.cell? ⟨D,21,none⟩=some (.slice A.cp L.cs.length A.cc):=g.box.box.c 21 _ rfl;by_cases a2:k<L.cs.length
  .have e5:=dT ((k:Int)<(L.cs.length:Int));obtain⟨cb,a9,ce,al,aB,q0,q1,q2,q3,q4,q5,q6⟩:=iE g.q.co.row.sl k a2;have ag:=hI aB;have a7:=hI al;have CB:=uh (L:=L) (i:=i) (bt:=m.bt) k;have lC:(k:Int)<1000:=by omega
   rw[al]at O;obtain⟨aj,ak,ba,bb,bc,bd,a'⟩:=ce;simp only at q0 q1 q2 q3 q4 q5 q6;clear aB al;obtain⟨n,P⟩:∃n,n=gO L i m.bt k:=⟨_,rfl⟩;have S:=hI P;rw[<-P]at CB⊢;clear P;have a3:wrap64 (n+1)=n+1:=by unfold wrap64;omega
   have bg:wrap64 ((k:Int)+1)=(k:Int)+1:=by unfold wrap64;omega
   by_cases h1:aj=(i:Int)
   .have X:(aj==(i:Int))=true:=by simpa using h1
    by_cases h2:ak=m.bt
    .have g2:(ak==m.bt)=true:=by simpa using h2
     have Y:Hid (gO L i m.bt (k+1)=n+1):=hI (by
      unfold gO
      rw[ag.o,<-S.o]
      simp only[X,g2]
      rfl)
     clear h1 h2;go_upto_region 24 with fail;obtain⟨p,l,f⟩:=eS wr;replace g:=g.ext f;replace c:=c.ext f;replace t:=t.ext f;have ax:=rg p (db.cell f O);have ay:=rg p (db.cell f q0);have az:=rg p (db.cell f q1);have I:∀d F,(grow (redrawn p d) F).cell? ⟨b,1,none⟩=some (.int .i64 (i:Int)):=rg p (c.box.c 1 _ rfl);refine eA [0,1,2,3,4,5,6,7,8,9,10,11,12,13,14,15,16,17,18,19,20,21,22,23] [] ?_;rw[<-l];clear l;repeat((first|refine dC fun K a=>?_|refine dB fun K a=>?_);go_big_quiet_op;refine a _ ?_;clear a K)
     refine eF fun K a=>?_;go_simp;refine(oI t).mono ?_;rintro e a5 ⟨rfl,rfl⟩;refine a _ _ (db.rfl' _) ?_;clear a K;repeat((first|refine dC fun K a=>?_|refine dB fun K a=>?_);go_big_quiet_op;refine a _ ?_;clear a K)
     refine dh ?_;refine df ?_;have XX:=M.tr f;go_wp2;go_roundw;case rel=>exact⟨k+1,by omega,by go_num,by rw[Y.o],XX⟩
     case measure=>simp[intOf];omega
    .have g2:(ak==m.bt)=false:=by simpa using h2
     have Y:Hid (gO L i m.bt (k+1)=n):=hI (by
      unfold gO
      rw[ag.o,<-S.o]
      simp only[X,g2]
      simp)
     clear h1 h2;go_upto_region 24 with fail;obtain⟨p,l,f⟩:=eS wr;replace g:=g.ext f;replace c:=c.ext f;replace t:=t.ext f;have ax:=rg p (db.cell f O);have ay:=rg p (db.cell f q0);have az:=rg p (db.cell f q1);have I:∀d F,(grow (redrawn p d) F).cell? ⟨b,1,none⟩=some (.int .i64 (i:Int)):=rg p (c.box.c 1 _ rfl);refine eA [0,1,2,3,4,5,6,7,8,9,10,11,12,13,14,15,16,17,18,19,20,21,22,23] [] ?_;rw[<-l];clear l;repeat((first|refine dC fun K a=>?_|refine dB fun K a=>?_);go_big_quiet_op;refine a _ ?_;clear a K)
     refine eF fun K a=>?_;go_simp;refine(oI t).mono ?_;rintro e a5 ⟨rfl,rfl⟩;refine a _ _ (db.rfl' _) ?_;clear a K;repeat((first|refine dC fun K a=>?_|refine dB fun K a=>?_);go_big_quiet_op;refine a _ ?_;clear a K)
     refine dh ?_;refine df ?_;have XX:=M.tr f;go_wp2;go_roundw;case rel=>exact⟨k+1,by omega,by go_num,by rw[Y.o],XX⟩
     case measure=>simp[intOf];omega
   .have X:(aj==(i:Int))=false:=by simpa using h1
    have Y:Hid (gO L i m.bt (k+1)=n):=hI (by
     unfold gO
     rw[ag.o,<-S.o]
     simp only[X]
     simp)
    clear h1;go_upto_region 24 with fail;obtain⟨p,l,f⟩:=eS wr;replace g:=g.ext f;replace c:=c.ext f;replace t:=t.ext f;have ax:=rg p (db.cell f O);have ay:=rg p (db.cell f q0);have az:=rg p (db.cell f q1);have I:∀d F,(grow (redrawn p d) F).cell? ⟨b,1,none⟩=some (.int .i64 (i:Int)):=rg p (c.box.c 1 _ rfl);refine eA [0,1,2,3,4,5,6,7,8,9,10,11,12,13,14,15,16,17,18,19,20,21,22,23] [] ?_;rw[<-l];clear l;repeat((first|refine dC fun K a=>?_|refine dB fun K a=>?_);go_big_quiet_op;refine a _ ?_;clear a K)
    refine dh ?_;refine df ?_;have XX:=M.tr f;go_wp2;go_roundw;case rel=>exact⟨k+1,by omega,by go_num,by rw[Y.o],XX⟩
    case measure=>simp[intOf];omega
  .have e5:=dF ((k:Int)<(L.cs.length:Int));have lC:k=L.cs.length:=by omega
   have aO:=hI lC;clear lC;have CB:=uh (L:=L) (i:=i) (bt:=m.bt) k;have S:Hid (gO L i m.bt k=gO L i m.bt L.cs.length):=hI (by rw[aO.o]);rw[S.o]at CB⊢;obtain⟨n,P⟩:∃n,n=gO L i m.bt L.cs.length:=⟨_,rfl⟩;have aL:=hI P;rw[<-P]at CB⊢;clear P S;have a3:wrap64 (n+1)=n+1:=by unfold wrap64;omega
   have a8:Hid (gJ wr o6 D A {L with W:=U}):=g;go_upto_region 26 with fail;clear O e5;obtain⟨ah,l,ab⟩:=eS wr;replace g:=g.ext ab;replace c:=c.ext ab;replace t:=t.ext ab;have a4:=fun(q:dN (CL [(⟨D,21,none⟩,.slice A.cp L.cs.length A.cc),(⟨b,1,none⟩,.int .i64 (i:Int)),(⟨b,3,none⟩,.int .i64 od),(⟨b,4,none⟩,.int .i64 lv),(⟨b,5,none⟩,.string da)]))=>(q.h.1:q.w.cell? ⟨D,21,none⟩=some (.slice A.cp L.cs.length A.cc));have s1:=fun(q:dN (CL [(⟨D,21,none⟩,.slice A.cp L.cs.length A.cc),(⟨b,1,none⟩,.int .i64 (i:Int)),(⟨b,3,none⟩,.int .i64 od),(⟨b,4,none⟩,.int .i64 lv),(⟨b,5,none⟩,.string da)]))=>(q.h.2.1:q.w.cell? ⟨b,1,none⟩=some (.int .i64 (i:Int)));have s3:=fun(q:dN (CL [(⟨D,21,none⟩,.slice A.cp L.cs.length A.cc),(⟨b,1,none⟩,.int .i64 (i:Int)),(⟨b,3,none⟩,.int .i64 od),(⟨b,4,none⟩,.int .i64 lv),(⟨b,5,none⟩,.string da)]))=>(q.h.2.2.1:q.w.cell? ⟨b,3,none⟩=some (.int .i64 od));have s4:=fun(q:dN (CL [(⟨D,21,none⟩,.slice A.cp L.cs.length A.cc),(⟨b,1,none⟩,.int .i64 (i:Int)),(⟨b,3,none⟩,.int .i64 od),(⟨b,4,none⟩,.int .i64 lv),(⟨b,5,none⟩,.string da)]))=>(q.h.2.2.2.1:q.w.cell? ⟨b,4,none⟩=some (.int .i64 lv));have s5:=fun(q:dN (CL [(⟨D,21,none⟩,.slice A.cp L.cs.length A.cc),(⟨b,1,none⟩,.int .i64 (i:Int)),(⟨b,3,none⟩,.int .i64 od),(⟨b,4,none⟩,.int .i64 lv),(⟨b,5,none⟩,.string da)]))=>(q.h.2.2.2.2.1:q.w.cell? ⟨b,5,none⟩=some (.string da));refine Hn [0,1,2,3,4,5,6,7,9,10,11,12,13,14,15,16,8,17,18,19,20,21] 22 (CL [(⟨D,21,none⟩,.slice A.cp L.cs.length A.cc),(⟨b,1,none⟩,.int .i64 (i:Int)),(⟨b,3,none⟩,.int .i64 od),(⟨b,4,none⟩,.int .i64 lv),(⟨b,5,none⟩,.string da)]) (by rw[<-l];exact⟨g.box.box.c 21 _ rfl,c.box.c 1 _ rfl,c.box.c 3 _ rfl,c.box.c 4 _ rfl,c.box.c 5 _ rfl,trivial⟩) (fun _=>?_);rw[<-l];clear l;repeat((first|refine lj fun K a=>?_;go_big_quiet_op|refine iK fun K a=>?_;go_big_quiet_op|refine lC fun K a=>?_;go_big_quiet_op);refine a _ ?_;clear a K)
   replace z:=z.tr (Fm.ext z.cl ab) gF;clear ab;refine ki fun K a=>?_;go_simp;refine(oI t).mono ?_;rintro e bj ⟨rfl,rfl⟩;refine a (CL [(⟨D,21,none⟩,.slice A.cp L.cs.length A.cc),(⟨b,1,none⟩,.int .i64 (i:Int)),(⟨b,3,none⟩,.int .i64 od),(⟨b,4,none⟩,.int .i64 lv),(⟨b,5,none⟩,.string da)]) _ _ (fun _ h=>h) ⟨g.box.box.c 21 _ rfl,c.box.c 1 _ rfl,c.box.c 3 _ rfl,c.box.c 4 _ rfl,c.box.c 5 _ rfl,trivial⟩ (fun _=>?_);clear a K;repeat((first|refine lj fun K a=>?_;go_big_quiet_op|refine iK fun K a=>?_;go_big_quiet_op|refine lC fun K a=>?_;go_big_quiet_op);refine a _ ?_;clear a K)
   refine ki fun K a=>?_;go_simp;refine a (CL [(⟨D,21,none⟩,.slice A.cp L.cs.length A.cc),(⟨b,1,none⟩,.int .i64 (i:Int)),(⟨b,3,none⟩,.int .i64 od),(⟨b,4,none⟩,.int .i64 lv),(⟨b,5,none⟩,.string da)]) _ _ (fun _ h=>h) ⟨g.box.box.c 21 _ rfl,c.box.c 1 _ rfl,c.box.c 3 _ rfl,c.box.c 4 _ rfl,c.box.c 5 _ rfl,trivial⟩ (fun _=>?_);clear a K;repeat((first|refine lj fun K a=>?_;go_big_quiet_op|refine iK fun K a=>?_;go_big_quiet_op|refine lC fun K a=>?_;go_big_quiet_op);refine a _ ?_;clear a K)
   refine ki fun K a=>?_;go_simp;have ae:=db.alloc ah (.cells (dZ ⟨(i:Int),m.bt,n+1,od,lv,0,da⟩) 71);replace g:=g.ext ae;replace c:=c.ext ae;replace z:=z.tr (Fm.ext z.cl ae) gF;refine a (CL [(⟨D,21,none⟩,.slice A.cp L.cs.length A.cc),(⟨b,1,none⟩,.int .i64 (i:Int)),(⟨b,3,none⟩,.int .i64 od),(⟨b,4,none⟩,.int .i64 lv),(⟨b,5,none⟩,.string da)]) _ _ (fun _ h=>h) ⟨g.box.box.c 21 _ rfl,c.box.c 1 _ rfl,c.box.c 3 _ rfl,c.box.c 4 _ rfl,c.box.c 5 _ rfl,trivial⟩ (fun _=>?_);clear a K;repeat((first|refine lj fun K a=>?_;go_big_quiet_op|refine iK fun K a=>?_;go_big_quiet_op|refine lC fun K a=>?_;go_big_quiet_op);refine a _ ?_;clear a K)
   have a1:L.cs.length<=1000000:=by omega
   refine ki fun K a=>?_;refine js (by rfl) _ _ _ (by rfl) 71 7 64 _ Tryz.underlying43 nN (by rfl) (by omega) z.cl g.q.co (by rfl) ah.heap.size 1 (dY ⟨(i:Int),m.bt,n+1,od,lv,0,da⟩) (by rfl) (by rfl) (fun j u hu=>gd (w:=ah) rfl j u hu) (kP [⟨(i:Int),m.bt,n+1,od,lv,0,da⟩] (dY ⟨(i:Int),m.bt,n+1,od,lv,0,da⟩) (by simp)) a1 (by omega) (by decide) (fun d=>d=304) rfl ?_;intro am ai bh a6 aJ ac;have af:=g.box.fr ac (by decide) (by omega);have Z:=c.fr ac (by decide) (by omega);have aU:=af.box.c 21 _ rfl;have aV:=af.box.f 21;obtain⟨ap,aH⟩:=g.app (A':={A with cp:=am,cc:=ai}) (L':={L with W:=U,cs:=L.cs++[⟨(i:Int),m.bt,n+1,od,lv,0,da⟩]}) ⟨by decide,by decide⟩ ac (g.q.castd ac (x:=⟨(i:Int),m.bt,n+1,od,lv,0,da⟩) aJ aq.o) 21 (.slice am (L.cs.length+1) ai) (by simp);have av:({L with W:=U,cs:=L.cs++[⟨(i:Int),m.bt,n+1,od,lv,0,da⟩]}:dU)=L2:=by rw[<-aP.o,aL.o,<-Dm (L:=L) (W':=U) (i:=i) (bt:=m.bt) L.cs.length]
   rw[av]at ap;have au:=z.tr aH gF;refine a (CL [(⟨D,21,none⟩,.slice A.cp L.cs.length A.cc),(⟨b,1,none⟩,.int .i64 (i:Int)),(⟨b,3,none⟩,.int .i64 od),(⟨b,4,none⟩,.int .i64 lv),(⟨b,5,none⟩,.string da)]) _ _ (fun _ h=>h) ⟨af.box.c 21 _ rfl,Z.box.c 1 _ rfl,Z.box.c 3 _ rfl,Z.box.c 4 _ rfl,Z.box.c 5 _ rfl,trivial⟩ (fun _=>?_);clear a K;go_simp;repeat((first|refine lj fun K a=>?_;go_big_quiet_op|refine iK fun K a=>?_;go_big_quiet_op|refine lC fun K a=>?_;go_big_quiet_op);refine a _ ?_;clear a K)
   refine sJ fun K a=>?_;go_simp;refine a _ _ ?_;clear a K aU aV aH aJ ac g c t z af Z a4 s1 s3 s4 s5 ae av;generalize a6.setCell ⟨D,21,none⟩ (.slice am (L.cs.length+1) ai)=bk at*;go_wp2_with fail;refine(kV au.cl ap aQ.o).mono ?_;rintro e bi ⟨rfl,aI,an,ao,aw⟩;have ar:=au.tr aw gF;clear aw;go_wp2;go_ret;first|exact⟨rfl,aI,an,ao,ar⟩|exact⟨rfl,aI,⟨an,ao⟩,ar⟩
end
end Go.Proofs.YtjhbmbbmjaabcaaGreat
