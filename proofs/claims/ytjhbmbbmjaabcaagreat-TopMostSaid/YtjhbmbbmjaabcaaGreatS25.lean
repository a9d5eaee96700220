/-
  Contracts. Conditions stand at each.
-/
import Derived.Test.YtjhbmbbmjaabcaaGreatS24
set_option linter.all false
set_option maxRecDepth 8000
set_option maxHeartbeats 8000000
namespace Go.Proofs.YtjhbmbbmjaabcaaGreat
open Go Go.Sort Go.RowKit
section
variable{da:ByteArray} {i k:Nat} {od lv:Int}
variable{w G:World} {o D:Ow} {u g:Nat} {W W':eW}
def nY(W:eW)(i:Nat):Option eW:=
 match W.sl[i-1]? with
 |some (.up s)=>
  match pK s with
  |none=>none
  |some r=>oU W i s r.2 r.1
 |_=>none
def oH:Nat->eW->Option eW
 |0,W=>some W
 |k+1,W=>match W.ns with
  |[]=>some W
  |_::_=>(j6 false 0 W).bind (oH k)
def Av(W:eW):Option eW:=
 if decide (W.rl<1000000)then(dt nY (List.range' 1 W.n) {W with rl:=W.rl+1}).bind (oH 3000)else none
def n3:Nat->eW->Option eW
 |0,W=>some W
 |k+1,W=>(Av W).bind (n3 k)
theorem Fz{s s':dp}{ms:List (dz×List dj)}(h:oU W i s s' ms=some W'):W'.n=W.n:=by
 unfold oU at h;split at h;·cases h;rfl
 .cases h
theorem uW(h:nY W i=some W'):W'.n=W.n:=by
 unfold nY at h;split at h
 .split at h;·cases h
  .exact Fz h
 .cases h
theorem zO{b:Bool}(h:j6 b k W=some W'):W'.n=W.n:=by
 unfold j6 at h;split at h;·cases h
 .split at h;·cases h;rfl
  .split at h
   .split at h
    .split at h;·cases h
     .exact(Fz h).trans rfl
    .cases h
   .cases h
theorem vR:∀(k:Nat) (W W':eW),oH k W=some W'->W'.n=W.n
 |0,W,W',h=>by cases h;rfl
 |k+1,W,W',h=>by
  unfold oH at h;split at h;·cases h;rfl
  .obtain⟨V,h1,h2⟩:=Option.bind_eq_some_iff.1 h;exact(vR k V W' h2).trans (zO h1)
theorem qf{F:eW->Nat->Option eW}(a:∀W i W',F W i=some W'->W'.n=W.n):∀(l:List Nat) (W W':eW),dt F l W=some W'->W'.n=W.n
 |[],W,W',h=>by cases h;rfl
 |i::l,W,W',h=>by
  obtain⟨V,h1,h2⟩:=dy h;exact(qf a l V W' h2).trans (a _ _ _ h1)
theorem Aw(h:Av W=some W'):W'.n=W.n:=by
 unfold Av at h;split at h;·obtain⟨V,h1,h2⟩:=Option.bind_eq_some_iff.1 h;exact(vR _ _ _ h2).trans ((qf (F:=nY) (fun W i W' h=>uW h) _ _ _ h1).trans rfl)
 .cases h
theorem fk.later(h:fk w o u g W)(y:Cl w o)(hr:W.rl<1000000):fk (w.setCell ⟨u,34,none⟩ (.int .i64 (W.rl+1))) o u g {W with rl:=W.rl+1}/\Fm fF o o w (w.setCell ⟨u,34,none⟩ (.int .i64 (W.rl+1))):=by
 have E:=h.hn
 have F:=Fm.cell1 (C:=one 1) y (g:=u) (j:=34) (.int .i64 (W.rl+1)) h.col rfl
 have f:∀j,j≠34->(w.setCell ⟨u,34,none⟩ (.int .i64 (W.rl+1))).cell? ⟨u,j,none⟩=w.cell? ⟨u,j,none⟩:=fun j h1=>by
  rw[World.cell?_setCell_other (h:=by simp<;>omega)]
 have v:(w.setCell ⟨u,34,none⟩ (.int .i64 (W.rl+1))).cell? ⟨u,34,none⟩=some (.int .i64 (W.rl+1)):=World.cell?_setCell_same (h:=h.c34) ..
 have t:Fm fF o o w (w.setCell ⟨u,34,none⟩ (.int .i64 (W.rl+1))):=F.mono (fun d l=> .inl l)
 generalize w.setCell ⟨u,34,none⟩ (.int .i64 (W.rl+1))=H at*
 have p:¬one 1 0:=by unfold one;omega
 refine⟨⟨h.col,Nat.lt_of_lt_of_le h.hi F.size,(f 0 (by omega)).trans h.c0,(f 33 (by omega)).trans h.c33,v,fun j=>(F.frz u j h.hi h.col).trans (h.fz j),h.net.fr F p (by unfold one;omega) (by unfold one;omega),h.hn,by have:=h.hr;show 0<=W.rl+1/\W.rl+1<=1000000;omega,fun j a b=>?_⟩,t⟩
 obtain⟨q,e,r⟩:=h.sl j a b
 have z:j<=W.n:=b
 refine⟨q,e,?_⟩
 have n:=f (1+j*4) (by omega)
 have m:=f (1+j*4+1) (by omega)
 cases q with
 |up s=>
  obtain⟨⟨x,c,A,h1,h2,h3,h4⟩,h5⟩:=r;exact⟨⟨x,c,A,n.trans h1,m.trans h2,h3.fr (by omega) F p (fun d l=>by unfold one at l;unfold rD;omega),h4.fr F (by omega) (by unfold one;omega)⟩,h5⟩
 |dn bt B=>
  obtain⟨h1,h2,h3,h4⟩:=r;exact⟨n.trans h1,m.trans h2,h3.fr F (by unfold one;omega),h4⟩
theorem yK(s:Cl w o)(h:fk w o u g W)(r:W.ns=[]):
  Calls Tryz.prog 65 #[de u,lm 3 0 0 0 0 ⟨#[]⟩] w fun e d=>e=.returned (.int .i64 3)/\db w d:=by
 have H:=h;have t:=hI r;clear h r;go_enter Tryz.func65,Tryz.ntmps65;go_upto_region 1 with fail;change Code.wp _ _ _ _ (w.alloc (.cells (eX 3 0 0 0 0 ⟨#[]⟩) 28));have A0:=db.alloc w (.cells (eX 3 0 0 0 0 ⟨#[]⟩) 28);have f:=dq.loose s (eX 3 0 0 0 0 ⟨#[]⟩) (nk 3 0 0 0 0 ⟨#[]⟩) 28 rfl;replace H:=H.ext A0;generalize w.alloc (.cells (eX 3 0 0 0 0 ⟨#[]⟩) 28)=E at*;generalize w.heap.size=N at*;obtain⟨b,n,j⟩:=eS E;replace H:=H.ext j;replace f:=f.ext j;have J:=rg b H.c33;have L:=rg b (f.box.c 2 _ rfl);refine eA [0,1,2,3,4,5,6,7,8,9,10,11] [] ?_;rw[<-n];clear n;repeat((first|refine dC fun K a=>?_|refine dB fun K a=>?_);go_big_quiet_op;refine a _ ?_;clear a K)
 refine eF fun K a=>?_;go_simp
 have m:Calls Tryz.prog 47 #[de g,.int .i64 0] b fun e d=>(∃p c,e=.returned (.tuple #[.slice p 0 c,.bool false]))/\db b d:=by
  obtain⟨p,F,z,A,q,-⟩:=H.net;have B:z=[]:=by rw[t.o]at q;simpa using q
  subst B;refine(oM A.nv 0).mono ?_;rintro e d ⟨C,y,rfl,-,x⟩;exact⟨⟨C,y,rfl⟩,x⟩
 refine m.mono ?_;clear m;rintro e O ⟨⟨M,I,rfl⟩,l⟩;have v:=(A0.tr j).tr l;refine a _ _ l ?_;clear a K l;repeat((first|refine dC fun K a=>?_|refine dB fun K a=>?_);go_big_quiet_op;refine a _ ?_;clear a K)
 refine dh ?_;refine df ?_;go_wp2;go_ret;exact⟨rfl,v⟩
theorem CG(HC:Cl w o)(H:fk w o u g W){k:Nat}(hk:k<=200)(hs:n3 k W=some W'):
  Calls Tryz.prog 64 #[de u,.int .i64 (k:Int)] w fun e w'=>e=.returned (.int .i64 0)/\∃o',fk w' o' u g W'/\Fm fF o o' w w':=by
 have HS:=hI hs;have e1:=dF ((k:Int)<0);have e2:=dF (200<(k:Int));have M0:=Fm.refl (C:=fF) HC;have aW:W.n<=7:=H.hn.2;clear hs;go_enter Tryz.func64,Tryz.ntmps64;go_wp2;go_loopw [13] (fun i wr=>∃(j:Nat) (Q:Ow) (q:eW),j<=k/\i=.int .i64 (j:Int)/\fk wr Q u g q/\n3 (k-j) q=some W'/\q.n=W.n/\Fm fF o Q w wr) (fun i _=>k-(intOf i).toNat);case atStart=>exact⟨0,o,W,by omega,rfl,H,HS.o,rfl,M0⟩
 case round=>
  obtain⟨j,Q,q,hj,rfl,y,hw,m,U⟩:=hrel;have ac:=hI hw;have aj:=hI m;clear hw m H HC HS M0;by_cases aU:j<k
  .have aK:=dT ((j:Int)<(k:Int));have B:=ac.o;rw[show k-j=(k-(j+1))+1 by omega]at B;unfold n3 at B;obtain⟨V,hr,N⟩:=Option.bind_eq_some_iff.1 B;have ak:=hI N;have aR:=hI (Aw hr);unfold Av at hr;split at hr;case isFalse=>cases hr
   rename_i ar;obtain⟨W1,E,L⟩:=Option.bind_eq_some_iff.1 hr;have HF:=hI E;have HM:=hI L;have aC:=hI (of_decide_eq_true ar);have aQ:=hI (qf (F:=nY) (fun W i W' H=>uW H) _ _ _ E);have aH:=y.c34;have aI:=y.fz 34;have aM:wrap64 (q.rl+1)=q.rl+1:=by have h1:=y.hr;unfold wrap64;omega
   obtain⟨H3,m3⟩:=y.later U.cl aC.o;have M3:=U.tr m3 jU;clear B N hr E L ar m3 ac;go_upto_region 6 with fail;clear aH aI aM;generalize wr.setCell ⟨u,34,none⟩ (.int .i64 (q.rl+1))=w3 at*;clear y U;go_wp2;go_loopw [5] (fun i wr=>∃(a:Nat) (X:Ow) (n:eW),1<=a/\a<=W.n+1/\i=.int .i64 (a:Int)/\fk wr X u g n/\dt nY (List.range' a (W.n+1-a)) n=some W1/\n.n=W.n/\Fm fF o X w wr) (fun i _=>W.n+1-(intOf i).toNat);case atStart=>exact⟨1,Q,_,by omega,by omega,rfl,H3,by rw[Nat.add_sub_cancel,show List.range' 1 W.n=List.range' 1 q.n by rw[aj.o]];exact HF.o,aj.o,M3⟩
   case round=>
    obtain⟨a,X,n,aJ,aT,rfl,f,E,m,J⟩:=hrel;have T:=hI E;have I:=hI m;clear E m H3 M3 HF;have c0:=f.c0;rw[I.o]at c0;by_cases aL:a<=W.n
    .have e3:=dT ((a:Int)<=(W.n:Int));have hr:=T.o;rw[show W.n+1-a=(W.n+1-(a+1))+1 by omega,List.range'_succ]at hr;obtain⟨p,ht,N⟩:=dy hr;have aa:=hI ht;have aB:=hI N;have R:Hid (1<=a/\a<=n.n):=hI ⟨aJ,by rw[I.o];exact aL⟩;have z:Hid (p.n=W.n):=hI ((uW ht).trans I.o);clear hr ht N T;go_upto_region 9 with fail;clear c0;cases O:n.sl[a-1]? with
     |none=>
      have:=aa.o;unfold nY at this;rw[O]at this;cases this
     |some sd=>
     cases sd with
     |dn bt dv=>
      have:=aa.o;unfold nY at this;rw[O]at this;cases this
     |up s=>
      have aD:=hI O
      have h:=aa.o
      unfold nY at h
      rw[O]at h
      simp only at h
      cases hr:pK s with
      |none=>rw[hr]at h;cases h
      |some r=>
      rw[hr]at h
      simp only at h
      obtain⟨ms,s'⟩:=r
      unfold oU at h
      split at h
      case isFalse=>cases h
      rename_i ao
      have aw:=hI (of_decide_eq_true ao)
      have HR:=hI hr
      have HW:=hI (Option.some.inj h)
      clear h O ao hr
      obtain⟨W5,hW,X5⟩:=eS wr
      replace f:=f.ext X5
      have aZ:=fun(qq:dN (CL [(⟨u,33,none⟩,de g)]))=>(qq.h.1:qq.w.cell? ⟨u,33,none⟩=some (de g))
      refine lP [0,1,2,3,4,5,6,7,8] (CL [(⟨u,33,none⟩,de g)]) (by kernel_rfl) (by kernel_rfl) (fun _ _ d _ _ H=>by cases d<;>exact H) (by rw[<-hW];exact⟨f.c33,trivial⟩) (fun _=>?_)
      rw[<-hW]
      clear hW
      repeat((first|refine kv fun K c=>?_|refine kt fun K c=>?_);go_big_quiet_op;refine c _ ?_;clear c K)
      have M5:=J.tr (Fm.ext J.cl X5) jU
      clear X5 J
      refine l7 fun K c=>?_
      go_simp
      refine(eu f R.o aD.o).mono ?_
      rintro e w9 ⟨xx,cc,A,rfl,h1,h2,ND,ah,an,m,rfl⟩
      have Q1:=hI h1
      have Q2:=hI h2
      have QI:=hI (And.intro an m)
      clear h1 h2 an m
      refine c (CL [(⟨u,33,none⟩,de g)]) _ _ (fun _ H=>H) ⟨f.c33,trivial⟩ (fun _=>?_)
      clear c K
      repeat((first|refine kv fun K c=>?_|refine kt fun K c=>?_);go_big_quiet_op;refine c _ ?_;clear c K)
      refine l7 fun K c=>?_
      go_simp
      refine(tL M5.cl (by omega) ND HR.o).mono ?_
      rintro e a0 ⟨aX,aP,aY,aS,rfl,aG,av,ae⟩
      have Y:=f.said R.o Q1.o Q2.o ah QI.o.1 QI.o.2 ae av aw.o
      have al:=M5.tr (ae.mono (tG ⟨R.o.1,by have:=f.hn;have:=R.o.2;omega⟩)) jU
      clear av ae Q1 Q2 ND ah f M5
      refine c (CL [(⟨u,33,none⟩,de g)]) _ _ (fun _ H=>H) ⟨Y.c33,trivial⟩ (fun _=>?_)
      clear c K
      repeat((first|refine kv fun K c=>?_|refine kt fun K c=>?_);go_big_quiet_op;refine c _ ?_;clear c K)
      refine l7 fun K c=>?_
      go_simp
      refine(mw al.cl Y.net aG (by omega)).mono ?_
      rintro e aO ⟨aN,a1,rfl,au,ag⟩
      have Z:=Y.mails ag au
      have aF:=al.tr (ag.mono oJ) jU
      clear au ag
      refine c (fun W=>W=aO) _ _ (fun W H=>by rw[H];exact⟨Z.c33,trivial⟩) rfl (fun _=>?_)
      clear c K
      refine gG ?_
      rw[show({({n with sl:=n.sl.set (a-1) (.up s')}:eW)with ns:=fd n.ns ms}:eW)=p from HW.o]at Z
      go_wp2
      go_roundw
      case rel=>exact⟨a+1,aN,p,by omega,by omega,by go_num,Z,aB.o,z.o,aF⟩
      case measure=>simp[intOf];omega
    .have e3:=dF ((a:Int)<=(W.n:Int));have am:a=W.n+1:=by omega
     have B:Hid (n=W1):=hI (by
      have:=T.o;rw[am,Nat.sub_self]at this
      exact Option.some.inj this)
     clear am T;rw[B.o]at f I;clear B;go_wp2;go_loopw [39] (fun i wr=>∃(b:Nat) (P:Ow) (p:eW),b<=3000/\i=.int .i64 (b:Int)/\fk wr P u g p/\oH (3000-b) p=some V/\p.n=W.n/\Fm fF o P w wr) (fun i _=>3000-(intOf i).toNat);case atStart=>exact⟨0,X,W1,by omega,rfl,f,HM.o,I.o,J⟩
     case round=>
      obtain⟨b,P,p,hb,rfl,v,L,m,t⟩:=hrel;have ai:=hI L;have z:=hI m;clear L m f J HM c0;by_cases aV:b<3000
      .have e4:=dT ((b:Int)<3000);have hr:=ai.o;rw[show 3000-b=(3000-(b+1))+1 by omega]at hr;unfold oH at hr;cases M:p.ns with
       |nil=>
        rw[M]at hr;simp only at hr;have ab:=hI (Option.some.inj hr);have aA:=hI M;clear hr M;go_wp2_with fail;refine(yK t.cl v aA.o).mono ?_;rintro e w5 ⟨rfl,x5⟩;have S:=v.ext x5;have ad:=t.tr (Fm.ext t.cl x5) jU;rw[ab.o]at S z;clear x5 v t;go_wp2;go_roundw;case rel=>exact⟨j+1,P,V,by omega,by go_num,S,ak.o,z.o,ad⟩
        case measure=>simp[intOf];omega
       |cons x l=>
        rw[M]at hr;simp only at hr;obtain⟨Wc,af,aq⟩:=Option.bind_eq_some_iff.1 hr;have ax:=hI af;have ay:=hI aq;have az:Hid (Wc.n=W.n):=hI ((zO af).trans z.o);clear hr M af aq;go_wp2_with fail;refine(t8 (k:=0) t.cl v ax.o).mono ?_;rintro e w5 ⟨rfl,o5,S,m5⟩;have ad:=t.tr m5 jU;clear m5 v t;go_wp2;go_roundw;case rel=>exact⟨b+1,o5,Wc,by omega,by go_num,S,ay.o,az.o,ad⟩
        case measure=>simp[intOf];omega
      .have e4:=dF ((b:Int)<3000)
       have ab:Hid (p=V):=hI (by
        have:=ai.o;rw[show 3000-b=0 by omega]at this
        exact Option.some.inj this)
       rw[ab.o]at v z;go_wp2;go_roundw;case rel=>exact⟨j+1,P,V,by omega,by go_num,v,ak.o,z.o,t⟩
       case measure=>simp[intOf];omega
  .have ap:j=k:=by omega
   have aK:=dF ((j:Int)<(k:Int))
   have aE:Hid (q=W'):=hI (by
    have:=ac.o;rw[ap,Nat.sub_self]at this
    exact Option.some.inj this)
   clear ap;rw[aE.o]at y;go_wp2;go_ret;exact⟨rfl,Q,y,U⟩
theorem yS(b:Cl w o)(H:fk w o u g W){a:Int}(q:j6 false k W=some W'):
  Calls Tryz.prog 44 #[de u,lm 3 a (k:Int) od lv da] w fun e j=>e=.returned (.int .i64 0)/\∃h,fk j h u g W'/\Fm fF o h w j:=by have c:=fun(w:World) (b:Cl w o) (H:fk w o u g W)=>t8 (a:=a) (od:=od) (lv:=lv) (da:=da) b H q;have A:((3:Int)==1)=false:=rfl;have M:((3:Int)==9)=false:=rfl;have E:((3:Int)==3)=true:=rfl;have F:((3:Int)==4)=false:=rfl;have I:((3:Int)==5)=false:=rfl;have B:((3:Int)==2)=false:=rfl;have J:((3:Int)==6)=false:=rfl;have K:((3:Int)==7)=false:=rfl;have L:((3:Int)==8)=false:=rfl;go_enter Tryz.func44,Tryz.ntmps44;go_upto_region 1 with fail;change Code.wp _ _ _ _ (w.alloc (.cells (eX 3 a (k:Int) od lv da) 28));have A0:=db.alloc w (.cells (eX 3 a (k:Int) od lv da) 28);have p:=dq.loose b (eX 3 a (k:Int) od lv da) (nk 3 a (k:Int) od lv da) 28 rfl;replace H:=H.ext A0;have d:=Fm.ext (C:=fF) b A0;have l:=c _ d.cl H;clear A0 b c;generalize w.alloc (.cells (eX 3 a (k:Int) od lv da) 28)=O at*;generalize w.heap.size=N at*;obtain⟨s,t,v,x,y,z⟩:=nx p;go_wp2_with fail;refine l.mono ?_;rintro e P ⟨rfl,r,m,f⟩;have n:=d.tr f jU;clear f;go_wp2;go_ret;exact⟨rfl,r,m,n⟩
theorem yT(b:Cl w o)(H:fk w o u g W){a:Int}(q:j6 true k W=some W'):
  Calls Tryz.prog 44 #[de u,lm 4 a (k:Int) od lv da] w fun e j=>e=.returned (.int .i64 0)/\∃h,fk j h u g W'/\Fm fF o h w j:=by have c:=fun(w:World) (b:Cl w o) (H:fk w o u g W)=>yM (a:=a) (od:=od) (lv:=lv) (da:=da) b H q;have A:((4:Int)==1)=false:=rfl;have M:((4:Int)==9)=false:=rfl;have E:((4:Int)==3)=false:=rfl;have F:((4:Int)==4)=true:=rfl;have I:((4:Int)==5)=false:=rfl;have B:((4:Int)==2)=false:=rfl;have J:((4:Int)==6)=false:=rfl;have K:((4:Int)==7)=false:=rfl;have L:((4:Int)==8)=false:=rfl;go_enter Tryz.func44,Tryz.ntmps44;go_upto_region 1 with fail;change Code.wp _ _ _ _ (w.alloc (.cells (eX 4 a (k:Int) od lv da) 28));have A0:=db.alloc w (.cells (eX 4 a (k:Int) od lv da) 28);have p:=dq.loose b (eX 4 a (k:Int) od lv da) (nk 4 a (k:Int) od lv da) 28 rfl;replace H:=H.ext A0;have d:=Fm.ext (C:=fF) b A0;have l:=c _ d.cl H;clear A0 b c;generalize w.alloc (.cells (eX 4 a (k:Int) od lv da) 28)=O at*;generalize w.heap.size=N at*;obtain⟨s,t,v,x,y,z⟩:=nx p;go_wp2_with fail;refine l.mono ?_;rintro e P ⟨rfl,r,m,f⟩;have n:=d.tr f jU;clear f;go_wp2;go_ret;exact⟨rfl,r,m,n⟩
theorem sC(b:Cl w o)(H:fk w o u g W){a:Int}(q:k<=200)(r:n3 k W=some W'):
  Calls Tryz.prog 44 #[de u,lm 9 a (k:Int) od lv da] w fun e j=>e=.returned (.int .i64 0)/\∃h,fk j h u g W'/\Fm fF o h w j:=by have c:=fun(w:World) (b:Cl w o) (H:fk w o u g W)=>CG b H q r;have B:((9:Int)==1)=false:=rfl;have N:((9:Int)==9)=true:=rfl;have F:((9:Int)==3)=false:=rfl;have I:((9:Int)==4)=false:=rfl;have J:((9:Int)==5)=false:=rfl;have E:((9:Int)==2)=false:=rfl;have K:((9:Int)==6)=false:=rfl;have L:((9:Int)==7)=false:=rfl;have M:((9:Int)==8)=false:=rfl;go_enter Tryz.func44,Tryz.ntmps44;go_upto_region 1 with fail;change Code.wp _ _ _ _ (w.alloc (.cells (eX 9 a (k:Int) od lv da) 28));have A0:=db.alloc w (.cells (eX 9 a (k:Int) od lv da) 28);have p:=dq.loose b (eX 9 a (k:Int) od lv da) (nk 9 a (k:Int) od lv da) 28 rfl;replace H:=H.ext A0;have d:=Fm.ext (C:=fF) b A0;have l:=c _ d.cl H;clear A0 b c;generalize w.alloc (.cells (eX 9 a (k:Int) od lv da) 28)=P at*;generalize w.heap.size=O at*;obtain⟨t,v,x,y,z,A⟩:=nx p;go_wp2_with fail;refine l.mono ?_;rintro e Q ⟨rfl,s,m,f⟩;have n:=d.tr f jU;clear f;go_wp2;go_ret;exact⟨rfl,s,m,n⟩
theorem yR(a:Cl w o)(H:fk w o u g W){k:Int}(p:1<=i/\i<=W.n)(q:r' i W=some W'):
  Calls Tryz.prog 44 #[de u,lm 2 (i:Int) k od lv da] w fun e h=>e=.returned (.int .i64 0)/\∃f,fk h f u g W'/\Fm fF o f w h:=by have b:=fun(w:World) (a:Cl w o) (H:fk w o u g W)=>CF (k:=k) (od:=od) (lv:=lv) (da:=da) a H p q;have A:((2:Int)==1)=false:=rfl;have M:((2:Int)==9)=false:=rfl;have E:((2:Int)==3)=false:=rfl;have F:((2:Int)==4)=false:=rfl;have I:((2:Int)==5)=false:=rfl;have B:((2:Int)==2)=true:=rfl;have J:((2:Int)==6)=false:=rfl;have K:((2:Int)==7)=false:=rfl;have L:((2:Int)==8)=false:=rfl;go_enter Tryz.func44,Tryz.ntmps44;go_upto_region 1 with fail;change Code.wp _ _ _ _ (w.alloc (.cells (eX 2 (i:Int) k od lv da) 28));have A0:=db.alloc w (.cells (eX 2 (i:Int) k od lv da) 28);have n:=dq.loose a (eX 2 (i:Int) k od lv da) (nk 2 (i:Int) k od lv da) 28 rfl;replace H:=H.ext A0;have c:=Fm.ext (C:=fF) a A0;have j:=b _ c.cl H;clear A0 a b;generalize w.alloc (.cells (eX 2 (i:Int) k od lv da) 28)=O at*;generalize w.heap.size=N at*;obtain⟨s,t,v,x,y,z⟩:=nx n;go_wp2_with fail;refine j.mono ?_;rintro e P ⟨rfl,r,l,d⟩;have m:=c.tr d jU;clear d;go_wp2;go_ret;exact⟨rfl,r,l,m⟩
theorem sB(a:Cl w o)(H:fk w o u g W){k:Int}(p:1<=i/\i<=W.n)(q:nt i od lv da W=some W'):
  Calls Tryz.prog 44 #[de u,lm 8 (i:Int) k od lv da] w fun e h=>e=.returned (.int .i64 0)/\∃f,fk h f u g W'/\Fm fF o f w h:=by have b:=fun(w:World) (a:Cl w o) (H:fk w o u g W)=>Cw (k:=k) (od:=od) (lv:=lv) (da:=da) a H p q;have A:((8:Int)==1)=false:=rfl;have M:((8:Int)==9)=false:=rfl;have E:((8:Int)==3)=false:=rfl;have F:((8:Int)==4)=false:=rfl;have I:((8:Int)==5)=false:=rfl;have B:((8:Int)==2)=false:=rfl;have J:((8:Int)==6)=false:=rfl;have K:((8:Int)==7)=false:=rfl;have L:((8:Int)==8)=true:=rfl;go_enter Tryz.func44,Tryz.ntmps44;go_upto_region 1 with fail;change Code.wp _ _ _ _ (w.alloc (.cells (eX 8 (i:Int) k od lv da) 28));have A0:=db.alloc w (.cells (eX 8 (i:Int) k od lv da) 28);have n:=dq.loose a (eX 8 (i:Int) k od lv da) (nk 8 (i:Int) k od lv da) 28 rfl;replace H:=H.ext A0;have c:=Fm.ext (C:=fF) a A0;have j:=b _ c.cl H;clear A0 a b;generalize w.alloc (.cells (eX 8 (i:Int) k od lv da) 28)=O at*;generalize w.heap.size=N at*;obtain⟨s,t,v,x,y,z⟩:=nx n;go_wp2_with fail;refine j.mono ?_;rintro e P ⟨rfl,r,l,d⟩;have m:=c.tr d jU;clear d;go_wp2;go_ret;exact⟨rfl,r,l,m⟩
theorem yQ(b:Cl w o)(H:fk w o u g W){a k:Int}(hr:W.rl<1000000):
  Calls Tryz.prog 44 #[de u,lm 1 a k od lv da] w fun e f=>e=.returned (.int .i64 0)/\fk f o u g {W with rl:=W.rl+1}/\Fm fF o o w f:=by
 have j:=hI hr;clear hr;go_enter Tryz.func44,Tryz.ntmps44;go_upto_region 1 with fail;change Code.wp _ _ _ _ (w.alloc (.cells (eX 1 a k od lv da) 28));have A0:=db.alloc w (.cells (eX 1 a k od lv da) 28);have m:=dq.loose b (eX 1 a k od lv da) (nk 1 a k od lv da) 28 rfl;replace H:=H.ext A0;have c:=Fm.ext (C:=fF) b A0;clear A0 b;generalize w.alloc (.cells (eX 1 a k od lv da) 28)=v at*;generalize w.heap.size=t at*;have p:=m.box.c 0 _ rfl;have n:=H.c34;have r:=H.fz 34;have q:((1:Int)==1)=true:=rfl;have s:wrap64 (W.rl+1)=W.rl+1:=by have h1:=H.hr;unfold wrap64;omega
 obtain⟨h,d⟩:=H.later c.cl j.o;have l:=c.tr d jU;clear d;go_wp2;go_ret;exact⟨rfl,h,l⟩
theorem yP(a:Cl w o):
  Calls Tryz.prog 44 #[de u,lm 0 0 0 0 0 ⟨#[]⟩] w fun e c=>e=.returned (.int .i64 1)/\db w c:=by go_enter Tryz.func44,Tryz.ntmps44;go_upto_region 1 with fail;change Code.wp _ _ _ _ (w.alloc (.cells (eX 0 0 0 0 0 ⟨#[]⟩) 28));have A0:=db.alloc w (.cells (eX 0 0 0 0 0 ⟨#[]⟩) 28);have b:=dq.loose a (eX 0 0 0 0 0 ⟨#[]⟩) (nk 0 0 0 0 0 ⟨#[]⟩) 28 rfl;generalize w.alloc (.cells (eX 0 0 0 0 0 ⟨#[]⟩) 28)=t at*;generalize w.heap.size=s at*;have d:=b.box.c 0 _ rfl;have f:((0:Int)==1)=false:=rfl;have r:((0:Int)==9)=false:=rfl;have j:((0:Int)==3)=false:=rfl;have l:((0:Int)==4)=false:=rfl;have m:((0:Int)==5)=false:=rfl;have h:((0:Int)==2)=false:=rfl;have n:((0:Int)==6)=false:=rfl;have p:((0:Int)==7)=false:=rfl;have q:((0:Int)==8)=false:=rfl;go_wp2;go_ret;exact⟨rfl,A0⟩
end
section
variable{n:Nat}
variable{w G:World} {o D:Ow} {u g:Nat} {W W':eW}
def xw(n:Nat):eW:=⟨n,List.replicate n (.dn 0 0),[],0⟩
def rW(W:eW)(i:Nat):Option eW:=uT i W
def Ka(n:Nat):Option eW:=dt rW (List.range' 1 n) (xw n)
theorem wv{i:Nat}(h:rW W i=some W'):W'.n=W.n:=by
 unfold rW uT at h;split at h
 .split at h;·cases h;rfl
  .cases h
 .cases h
abbrev LL(n g:Nat):List Value:=[.int .i64 (n:Int),.pointer none,.pointer none,.int .i64 0,.int .i64 0,.pointer none,.pointer none,.int .i64 0,.int .i64 0,.pointer none,.pointer none,.int .i64 0,.int .i64 0,.pointer none,.pointer none,.int .i64 0,.int .i64 0,.pointer none,.pointer none,.int .i64 0,.int .i64 0,.pointer none,.pointer none,.int .i64 0,.int .i64 0,.pointer none,.pointer none,.int .i64 0,.int .i64 0,.pointer none,.pointer none,.int .i64 0,.int .i64 0,de g,.int .i64 0]
abbrev Jt(n g:Nat):Array Value:=#[.int .i64 (n:Int),.pointer none,.pointer none,.int .i64 0,.int .i64 0,.pointer none,.pointer none,.int .i64 0,.int .i64 0,.pointer none,.pointer none,.int .i64 0,.int .i64 0,.pointer none,.pointer none,.int .i64 0,.int .i64 0,.pointer none,.pointer none,.int .i64 0,.int .i64 0,.pointer none,.pointer none,.int .i64 0,.int .i64 0,.pointer none,.pointer none,.int .i64 0,.int .i64 0,.pointer none,.pointer none,.int .i64 0,.int .i64 0,de g,.int .i64 0]
theorem Ku(c:3<=n/\n<=7)(a:Cl w o)(b:jf w o g [])(d:g<w.heap.size):fk (w.alloc (.cells (Jt n g) 86)) (gH o w.heap.size 1) w.heap.size g (xw n)/\Fm fF o (gH o w.heap.size 1) w (w.alloc (.cells (Jt n g) 86)):=by
 have F:=Fm.made (C:=fF) a (.cells (Jt n g) 86) 1;have B:=dq.made w o 1 (Jt n g) (LL n g) 86 rfl;have N:=b.fr (Fm.made (C:=fun _=>False) a (.cells (Jt n g) 86) 1) (fun e=>e) (fun e=>e) (fun e=>e);generalize w.alloc (.cells (Jt n g) 86)=h at*;generalize gH o w.heap.size 1=f at*;generalize w.heap.size=u at*;refine⟨⟨B.col,B.box.hi,B.box.c 0 _ rfl,B.box.c 33 _ rfl,B.box.c 34 _ rfl,B.box.f,N,c,by show 0<=(0:Int)/\(0:Int)<=1000000;omega,fun i h1 h2=>?_⟩,F⟩;have h2:i<=n:=h2;refine⟨.dn 0 0,?_,?_⟩;·show(List.replicate n (mH.dn 0 0))[i-1]? =some (.dn 0 0);rw[List.getElem?_replicate,if_pos (by omega)]
 .have:i=1\/i=2\/i=3\/i=4\/i=5\/i=6\/i=7:=by omega
  rcases this with rfl|rfl|rfl|rfl|rfl|rfl|rfl;·exact⟨B.box.c 5 _ rfl,B.box.c 6 _ rfl,⟨B.col,B.box.hi,rfl,rfl,B.box.c 7 _ rfl,B.box.c 8 _ rfl,B.box.f 7,B.box.f 8⟩,by omega,by omega⟩
  .exact⟨B.box.c 9 _ rfl,B.box.c 10 _ rfl,⟨B.col,B.box.hi,rfl,rfl,B.box.c 11 _ rfl,B.box.c 12 _ rfl,B.box.f 11,B.box.f 12⟩,by omega,by omega⟩
  .exact⟨B.box.c 13 _ rfl,B.box.c 14 _ rfl,⟨B.col,B.box.hi,rfl,rfl,B.box.c 15 _ rfl,B.box.c 16 _ rfl,B.box.f 15,B.box.f 16⟩,by omega,by omega⟩
  .exact⟨B.box.c 17 _ rfl,B.box.c 18 _ rfl,⟨B.col,B.box.hi,rfl,rfl,B.box.c 19 _ rfl,B.box.c 20 _ rfl,B.box.f 19,B.box.f 20⟩,by omega,by omega⟩
  .exact⟨B.box.c 21 _ rfl,B.box.c 22 _ rfl,⟨B.col,B.box.hi,rfl,rfl,B.box.c 23 _ rfl,B.box.c 24 _ rfl,B.box.f 23,B.box.f 24⟩,by omega,by omega⟩
  .exact⟨B.box.c 25 _ rfl,B.box.c 26 _ rfl,⟨B.col,B.box.hi,rfl,rfl,B.box.c 27 _ rfl,B.box.c 28 _ rfl,B.box.f 27,B.box.f 28⟩,by omega,by omega⟩
  .exact⟨B.box.c 29 _ rfl,B.box.c 30 _ rfl,⟨B.col,B.box.hi,rfl,rfl,B.box.c 31 _ rfl,B.box.c 32 _ rfl,B.box.f 31,B.box.f 32⟩,by omega,by omega⟩
theorem CD(v:Cl w o)(r:3<=n/\n<=7)(J:Ka n=some W'):
  Calls Tryz.prog 63 #[.int .i64 (n:Int)] w fun e N=>∃M u g,e=.returned (de u)/\fk N M u g W'/\Fm fF o M w N:=by
 have z:=hI J;have x:=hI r;have ae:n<=7:=r.2;have e1:(dJ 1 (n:Int)==0)=false:=by rw[Jm (by omega)];rfl
 clear J r;go_enter Tryz.func63,Tryz.ntmps63;go_wp2_with fail;refine(gn 1 (n:Int) (by omega) (by have:=x.o;omega) _).mono ?_;rintro e w0 ⟨rfl,rfl⟩;go_wp2_with fail;refine(Gq v).mono ?_;rintro e c ⟨Z,rfl,t,q⟩;have F:w.heap.size<c.heap.size:=by obtain⟨p,ac,ds,h,-⟩:=t;exact h.nv.box.hi
 obtain⟨j,K⟩:=Ku x.o q.cl t F;have A:=(q.mono (C':=fF) (fun d e=>e.elim)).tr K jU;clear K t q F v;go_upto_region 4 with fail;change Code.wp _ _ _ _ (c.alloc (.cells (Jt n w.heap.size) 86));generalize c.alloc (.cells (Jt n w.heap.size) 86)=w3 at*;generalize gH Z c.heap.size 1=o3 at*;generalize c.heap.size=u at*;obtain⟨g,E⟩:∃g,g=w.heap.size:=⟨_,rfl⟩;rw[<-E]at j;clear E;go_wp2;go_loopw [4] (fun i wr=>∃(a:Nat) (f:Ow) (b:eW),1<=a/\a<=n+1/\i=.int .i64 (a:Int)/\fk wr f u g b/\dt rW (List.range' a (n+1-a)) b=some W'/\b.n=n/\Fm fF o f w wr) (fun i _=>n+1-(intOf i).toNat);case atStart=>exact⟨1,o3,xw n,by omega,by omega,rfl,j,by rw[Nat.add_sub_cancel];exact z.o,rfl,A⟩
 case round=>
  obtain⟨a,f,b,X,ad,rfl,k,C,H,m⟩:=hrel;have l:=hI C;have y:=hI H;clear C H j A z;by_cases Y:a<=n
  .have V:=dT ((a:Int)<=(n:Int));have hr:=l.o;rw[show n+1-a=(n+1-(a+1))+1 by omega,List.range'_succ]at hr;obtain⟨B,s,I⟩:=dy hr;have S:=hI s;have R:=hI I;have P:Hid (1<=a/\a<=b.n):=hI ⟨X,by rw[y.o];exact Y⟩;have Q:Hid (B.n=n):=hI ((wv s).trans y.o);clear hr s I l;go_wp2_with fail;refine(yO m.cl k P.o S.o).mono ?_;rintro e w5 ⟨rfl,o5,O,L⟩;have U:=m.tr L jU;clear L;go_wp2;go_roundw;case rel=>exact⟨a+1,o5,B,by omega,by omega,by go_num,O,R.o,Q.o,U⟩
   case measure=>simp[intOf];omega
  .have V:=dF ((a:Int)<=(n:Int))
   have T:Hid (b=W'):=hI (by
    have:=l.o;rw[show n+1-a=0 by omega]at this
    exact Option.some.inj this)
   rw[T.o]at k;go_wp2;go_ret;exact⟨f,u,g,rfl,k,m⟩
end
section
variable{F:Nat} {v:Int}
structure dU where
 W:eW
 n:Nat
 fm:List (List dj)
 nw:E8
 td:E8
 sn:Nat
 vs:List (Int×Int×Int)
 cs:List dj
 bo:E8
 vi:E8
structure my where
 wb:Nat
 g:Nat
 fp:Option Addr
 fc:Nat
 rows:List (Option Addr×Nat)
 sp:Option Addr
 sc:Nat
 vp:Option Addr
 vc:Nat
 cp:Option Addr
 cc:Nat
 sl:E8
 ev:Bool
abbrev pY(A:my)(L:dU):List Value:=[de A.wb,.int .i64 (L.n:Int),.slice A.fp L.fm.length A.fc,.int .i64 L.nw.e0,.int .i64 L.nw.e1,.int .i64 L.nw.e2,.int .i64 L.nw.e3,.int .i64 L.nw.e4,.int .i64 L.nw.e5,.int .i64 L.nw.e6,.int .i64 L.nw.e7,.int .i64 L.td.e0,.int .i64 L.td.e1,.int .i64 L.td.e2,.int .i64 L.td.e3,.int .i64 L.td.e4,.int .i64 L.td.e5,.int .i64 L.td.e6,.int .i64 L.td.e7,.slice A.sp L.sn A.sc,.slice A.vp L.vs.length A.vc,.slice A.cp L.cs.length A.cc,.int .i64 L.bo.e0,.int .i64 L.bo.e1,.int .i64 L.bo.e2,.int .i64 L.bo.e3,.int .i64 L.bo.e4,.int .i64 L.bo.e5,.int .i64 L.bo.e6,.int .i64 L.bo.e7,.int .i64 L.vi.e0,.int .i64 L.vi.e1,.int .i64 L.vi.e2,.int .i64 L.vi.e3,.int .i64 L.vi.e4,.int .i64 L.vi.e5,.int .i64 L.vi.e6,.int .i64 L.vi.e7,.int .i64 A.sl.e0,.int .i64 A.sl.e1,.int .i64 A.sl.e2,.int .i64 A.sl.e3,.int .i64 A.sl.e4,.int .i64 A.sl.e5,.int .i64 A.sl.e6,.int .i64 A.sl.e7,.bool A.ev]
def j5:List (Option Addr×Nat)->List (List dj)->List (List Value)
 |r::b,l::a=>[.slice r.1 l.length r.2]::j5 b a
 |_,_=>[]
abbrev KM(x:Int×Int×Int):List Value:=[.int .i64 x.1,.int .i64 x.2.1,.int .i64 x.2.2]
theorem tj:∀(c:List (Option Addr×Nat)) (ls:List (List dj)) (r:Option Addr×Nat) (l:List dj),c.length=ls.length->j5 (c++[r]) (ls++[l])=j5 c ls++[[.slice r.1 l.length r.2]]
 |[],[],r,l,_=>rfl
 |a::c,b::ls,r,l,h=>by
  simp only[List.cons_append,j5];rw[tj c ls r l (by simpa using h)]
 |[],b::ls,r,l,h=>by simp at h
 |a::c,[],r,l,h=>by simp at h
theorem iV:∀(c:List (Option Addr×Nat)) (ls:List (List dj)) (i:Nat) (r:Option Addr×Nat) (l:List dj),c[i]? =some r->ls[i]? =some l->(j5 c ls)[i]? =some [.slice r.1 l.length r.2]
 |a::c,b::ls,0,r,l,h1,h2=>by simp at h1 h2;subst h1;subst h2;rfl
 |a::c,b::ls,i+1,r,l,h1,h2=>by
  simp only[j5,List.getElem?_cons_succ];exact iV c ls i r l (by simpa using h1) (by simpa using h2)
 |[],_,i,r,l,h1,h2=>by simp at h1
 |a::c,[],i,r,l,h1,h2=>by simp at h2
theorem tk:∀(c:List (Option Addr×Nat)) (ls:List (List dj)) (i:Nat) (r:Option Addr×Nat) (l:List dj),j5 (c.set i r) (ls.set i l)=(j5 c ls).set i [.slice r.1 l.length r.2]
 |a::c,b::ls,0,r,l=>rfl
 |a::c,b::ls,i+1,r,l=>by simp only[List.set_cons_succ,j5];rw[tk c ls i r l]
 |[],_,i,r,l=>by simp[j5]
 |a::c,[],i,r,l=>by simp[j5]
def iy(d:Nat):Prop:=fF d\/(300<=d/\d<400)
theorem gF:¬iy 0:=by unfold iy fF;omega
structure sH (w:World) (o:Ow) (A:my) (L:dU):Prop where
 wr:fk w o A.wb A.g L.W
 nn:L.W.n=L.n
 fo:dQ 43 1 w o 301 A.fp L.fm.length A.fc (j5 A.rows L.fm)
 fl:A.rows.length=L.fm.length
 fi:∀(i:Nat) (r:Option Addr×Nat) (l:List dj),A.rows[i]? =some r->L.fm[i]? =some l->dQ 71 7 w o (310+i) r.1 l.length r.2 (l.map dY)
 so:∃S,dQ 116 8 w o 302 A.sp L.sn A.sc S
 vo:dQ 104 3 w o 303 A.vp L.vs.length A.vc (L.vs.map KM)
 co:dQ 71 7 w o 304 A.cp L.cs.length A.cc (L.cs.map dY)
 mx:L.fm.length<=80/\L.sn<=100000/\L.vs.length<=100000/\L.cs.length<=1000/\∀l∈L.fm,l.length<=1000
structure gJ (w:World) (o:Ow) (D:Nat) (A:my) (L:dU):Prop where
 box:dq w o 300 D (pY A L)
 q:sH w o A L
variable{w G:World} {o N:Ow} {D:Nat} {A A':my} {L L':dU}
theorem sH.ext(h:sH w o A L)(k:db w G):sH G o A L:=
 ⟨h.wr.ext k,h.nn,h.fo.ext k,h.fl,fun i r l a b=>(h.fi i r l a b).ext k,(by obtain⟨S,c⟩:=h.so;exact⟨S,c.ext k⟩),h.vo.ext k,h.co.ext k,h.mx⟩
theorem gJ.ext(h:gJ w o D A L)(k:db w G):gJ G o D A L:=⟨h.box.ext k,h.q.ext k⟩
theorem sH.fr{C:Nat->Prop}(h:sH w o A L)(k:Fm C o N w G)(c:∀d,C d->d≠0/\¬fF d/\d≠301/\d≠302/\d≠303/\d≠304/\¬(310<=d/\d<400)):sH G N A L:=
 ⟨h.wr.fr k (fun d f=>⟨(c d f).1,(c d f).2.1⟩),h.nn,h.fo.fr k (by decide) (fun e=>(c _ e).2.2.1 rfl),h.fl,fun i r l a b=>(h.fi i r l a b).fr k (by omega) (fun e=>(c _ e).2.2.2.2.2.2 (by
  have h1:=h.mx.1
  have h2:i<L.fm.length:=(List.getElem?_eq_some_iff.1 b).1
  omega)),(by obtain⟨S,g⟩:=h.so;exact⟨S,g.fr k (by decide) (fun e=>(c _ e).2.2.2.1 rfl)⟩),h.vo.fr k (by decide) (fun e=>(c _ e).2.2.2.2.1 rfl),h.co.fr k (by decide) (fun e=>(c _ e).2.2.2.2.2.1 rfl),h.mx⟩
theorem gJ.put(h:gJ w o D A L)(c:Cl w o)(i:Nat)(v:Value)(b:(pY A L).set i v=pY A' L')(e:sH (w.setCell ⟨D,i,none⟩ v) o A L->sH (w.setCell ⟨D,i,none⟩ v) o A' L'):
  gJ (w.setCell ⟨D,i,none⟩ v) o D A' L'/\Fm iy o o w (w.setCell ⟨D,i,none⟩ v):=by have F:=Fm.put (C:=one 300) c h.box (by decide) rfl i v;have B:=h.box.put i v;rw[b]at B;exact⟨⟨B,e (h.q.fr F (fun d a=>by unfold one at a;subst a;unfold fF;omega))⟩,F.mono (fun d a=>by unfold one at a;subst a;unfold iy;omega)⟩
theorem gJ.went{W':eW}(h:gJ w o D A L)(k:Fm fF o N w G)(e:fk G N A.wb A.g W')(d:W'.n=L.n):gJ G N D A {L with W:=W'}:=by have q:=h.q;exact⟨h.box.fr k (by decide) (by unfold fF;omega),⟨e,d,q.fo.fr k (by decide) (by unfold fF;omega),q.fl,fun i r l a b=>(q.fi i r l a b).fr k (by omega) (by unfold fF;omega),(by obtain⟨S,c⟩:=q.so;exact⟨S,c.fr k (by decide) (by unfold fF;omega)⟩),q.vo.fr k (by decide) (by unfold fF;omega),q.co.fr k (by decide) (by unfold fF;omega),q.mx⟩⟩
theorem pP:∀d,fF d->iy d:=fun d a=> .inl a
theorem jK(h:F<8):(pY A L)[11+F]? =some (.int .i64 (L.td.at F)):=by rcases tB h with rfl|rfl|rfl|rfl|rfl|rfl|rfl|rfl<;>rfl
theorem uC(h:F<8):(pY A L)[3+F]? =some (.int .i64 (L.nw.at F)):=by rcases tB h with rfl|rfl|rfl|rfl|rfl|rfl|rfl|rfl<;>rfl
theorem Eo(h:F<8):(pY A L)[22+F]? =some (.int .i64 (L.bo.at F)):=by rcases tB h with rfl|rfl|rfl|rfl|rfl|rfl|rfl|rfl<;>rfl
theorem Ep(h:F<8):(pY A L)[30+F]? =some (.int .i64 (L.vi.at F)):=by rcases tB h with rfl|rfl|rfl|rfl|rfl|rfl|rfl|rfl<;>rfl
theorem ry(h:F<8):(pY A L)[38+F]? =some (.int .i64 (A.sl.at F)):=by rcases tB h with rfl|rfl|rfl|rfl|rfl|rfl|rfl|rfl<;>rfl
theorem qm(h:F<8):(pY A L).set (11+F) (.int .i64 v)=pY A {L with td:=L.td.set F v}:=by rcases tB h with rfl|rfl|rfl|rfl|rfl|rfl|rfl|rfl<;>rfl
theorem Ic(h:F<8):(pY A L).set (3+F) (.int .i64 v)=pY A {L with nw:=L.nw.set F v}:=by rcases tB h with rfl|rfl|rfl|rfl|rfl|rfl|rfl|rfl<;>rfl
theorem Ib(h:F<8):(pY A L).set (22+F) (.int .i64 v)=pY A {L with bo:=L.bo.set F v}:=by rcases tB h with rfl|rfl|rfl|rfl|rfl|rfl|rfl|rfl<;>rfl
theorem Id(h:F<8):(pY A L).set (30+F) (.int .i64 v)=pY A {L with vi:=L.vi.set F v}:=by rcases tB h with rfl|rfl|rfl|rfl|rfl|rfl|rfl|rfl<;>rfl
theorem uD(h:F<8):(pY A L).set (38+F) (.int .i64 v)=pY {A with sl:=A.sl.set F v} L:=by rcases tB h with rfl|rfl|rfl|rfl|rfl|rfl|rfl|rfl<;>rfl
def m0(L:dU)(i:Nat):Option dU:=
 if decide (L.fm.length<80)&&decide (i<8)then some {L with fm:=L.fm++[[]],nw:=L.nw.set i (L.fm.length:Int),td:=L.td.set i 0}else none
theorem Ho:(Tryz.prog.info? 43).map (fun i=>(i.zero,i.size,i.bytes))=some (some (.slice none 0 0),1,24):=by kernel_rfl
theorem xT(K:Cl w o)(H:gJ w o D A L){i:Nat}(z:m0 L i=some L'):
  Calls Tryz.prog 45 #[de D,.int .i64 (i:Int)] w fun e w'=>e=.returned (.tuple #[])/\∃Z A',gJ w' Z D A' L'/\Fm iy o Z w w':=by
 unfold m0 at z;split at z;case isFalse=>cases z
 rename_i J;simp only[Bool.and_eq_true,decide_eq_true_eq]at J;have E:=hI J;have ad:=hI (Option.some.inj z);have f1:(0:Int)<=(i:Int):=by omega
 have f2:(i:Int)<8:=by omega
 have s:i<8:=J.2;clear z J;have O:=H.box.box.c 2 _ rfl;have V:=H.box.box.f;have m:=db.alloc w (.cells #[.slice none 0 0] 43);have b2:=(H.ext m).box.box.c 2 _ rfl;have ag:L.fm.length<=1000000:=by have:=E.o.1;omega
 go_enter Tryz.func45,Tryz.ntmps45;go_wp2_with (at_builtin;refine lW rfl _ _ 39 rfl 43 1 24 _ Tryz.underlying39 Ho (by rfl) (by omega) (K.ext m) (H.q.fo.ext m) (by rfl) w.heap.size 1 [.slice none 0 0] (by rfl) (by rfl) (fun j u hu=>gd (w:=w) rfl j u hu) (by simp[Value.oneCell']) ag (by omega) (by decide) (fun x=>x=301) rfl ?_);intro k h N G r4 g;have c:=(H.ext m).q;have y:=(H.ext m).box.fr g (by decide) (by omega);have af:∀d,d=301->d≠0:=fun d f=>by omega
 have U:sH G N {A with fp:=k,fc:=h,rows:=A.rows++[(none,0)]} {L with fm:=L.fm++[[]]}:=by
  refine⟨c.wr.fr g (fun d f=>by subst f;unfold fF;omega),c.nn,?_,by simp[c.fl],fun j r l a b=>?_,(by obtain⟨S,hS⟩:=c.so;exact⟨S,hS.fr g (by decide) (by omega)⟩),c.vo.fr g (by decide) (by omega),c.co.fr g (by decide) (by omega),?_⟩;·simp only[tj _ _ _ _ c.fl,List.length_append,List.length_singleton];exact r4
  .by_cases Y:j<L.fm.length;·rw[List.getElem?_append_left (by rw[c.fl];exact Y)]at a;rw[List.getElem?_append_left Y]at b;exact(c.fi j r l a b).fr g (by omega) (by omega)
   .rw[List.getElem?_append_right (by rw[c.fl];omega),List.getElem?_eq_some_iff]at a;rw[List.getElem?_append_right (by omega),List.getElem?_eq_some_iff]at b;obtain⟨a1,a2⟩:=a;obtain⟨b1,b2⟩:=b;simp at a2 b2;subst a2;subst b2;exact dQ.nil _ _ _ _ _
  .obtain⟨m1,m2,m3,m4,m5⟩:=c.mx;refine⟨by have:=E.o.1;simp;omega,m2,m3,m4,fun l t=>?_⟩;rcases List.mem_append.1 t with t|t;·exact m5 l t
   .simp at t;subst t;simp
 have b4:=y.box.c 2 _ rfl;have ae:=y.box.f;have F5:=Fm.put (C:=one 300) g.cl y (by decide) rfl 2 (.slice k (L.fm.length+1) h);have n:gJ (G.setCell ⟨D,2,none⟩ (.slice k (L.fm.length+1) h)) N D {A with fp:=k,fc:=h,rows:=A.rows++[(none,0)]} {L with fm:=L.fm++[[]]}:=by refine⟨?_,U.fr F5 (fun d f=>by unfold one at f;subst f;unfold fF;omega)⟩;have:=y.put 2 (.slice k (L.fm.length+1) h);rw[show(pY A L).set 2 (.slice k (L.fm.length+1) h)=pY {A with fp:=k,fc:=h,rows:=A.rows++[(none,0)]} {L with fm:=L.fm++[[]]} by simp]at this;exact this
 have M:=((Fm.ext (C:=iy) K m).tr (g.mono (fun d f=>by subst f;unfold iy;omega)) gF).tr (F5.mono (fun d f=>by unfold one at f;subst f;unfold iy;omega)) gF;clear c r4 af y U F5 g H K m b2 O V;go_upto_region 1 with fail;clear b4 ae;generalize G.setCell ⟨D,2,none⟩ (.slice k (L.fm.length+1) h)=w5 at*;obtain⟨B,X⟩:∃B:my,B={A with fp:=k,fc:=h,rows:=A.rows++[(none,0)]}:=⟨_,rfl⟩;obtain⟨p,I⟩:∃p:dU,p={L with fm:=L.fm++[[]]}:=⟨_,rfl⟩;rw[<-X,<-I]at n;have E5:Hid (p.fm.length=L.fm.length+1):=hI (by rw[I];simp);have ac:=hI I;clear X I;have O:w5.cell? ⟨D,2,none⟩=some (.slice B.fp p.fm.length B.fc):=n.box.box.c 2 _ rfl;rw[E5.o]at O;have cn:=n.box.box.c (3+i) _ (uC s);have ct:=n.box.box.c (11+i) _ (jK s);have cs:=n.box.box.c (38+i) _ (ry s);have V:=n.box.box.f;obtain⟨h6,P⟩:=n.put M.cl (3+i) (.int .i64 (L.fm.length:Int)) (Ic s) (fun q=>⟨q.wr,q.nn,q.fo,q.fl,q.fi,q.so,q.vo,q.co,q.mx⟩);obtain⟨W,Q⟩:=h6.put P.cl (11+i) (.int .i64 0) (qm s) (fun q=>⟨q.wr,q.nn,q.fo,q.fl,q.fi,q.so,q.vo,q.co,q.mx⟩);obtain⟨h8,R⟩:=W.put Q.cl (38+i) (.int .i64 0) (uD s) (fun q=>⟨q.wr,q.nn,q.fo,q.fl,q.fi,q.so,q.vo,q.co,q.mx⟩);have T:=h8.ext (db.drew _);have M8:=(((M.tr P gF).tr Q gF).tr R gF).tr (Fm.ext R.cl (db.drew _)) gF;clear h6 P W Q h8 R M;have ah:wrap64 ((L.fm.length:Int)+1-1)=(L.fm.length:Int):=by have:=E.o.1;unfold wrap64;omega
 have ai:wrap64 (((L.fm.length+1:Nat):Int)-1)=(L.fm.length:Int):=by have:=E.o.1;unfold wrap64;omega
 go_region
 all_goals
  have e8:({p with nw:=p.nw.set i (L.fm.length:Int),td:=p.td.set i 0}:dU)=L':=by rw[<-ad.o,ac.o]
  rw[e8]at T;refine bodyPost_end (v:=.tuple #[]) (by simp[results,Tryz.results45,go_sem]) rfl ?_;exact⟨rfl,N,_,T,M8⟩
end
section
variable{p:Option Addr} {c j:Nat} {E:TypeId}
theorem kR:∀(L:List (List Value)) (j:Nat) (v:Value),(∀x∈L,x.length=1)->(L.set j [v]).flatten=L.flatten.set j v
 |[],j,v,_=>by simp
 |x::L,0,v,h=>by
  have b:x.length=1:=h x (by simp);obtain⟨a,rfl⟩:=List.length_eq_one_iff.1 b;simp
 |x::L,j+1,v,h=>by
  have b:x.length=1:=h x (by simp);obtain⟨a,rfl⟩:=List.length_eq_one_iff.1 b;simp only[List.set_cons_succ,List.flatten_cons,List.cons_append,List.nil_append];rw[kR L j v (fun y d=>h y (by simp[d]))]
theorem fY.set1{w:World}{base n cap g:Nat}{L:List (List Value)}(h:fY E 1 w base p n cap L){l:Nat}(B:j<n)(k:p=some ⟨g,l,none⟩)(v:Value):l=0/\fY E 1 (w.setCell ⟨g,j,none⟩ v) base p n cap (L.set j [v])/\w.frozen? ⟨g,j,none⟩=false:=by
 obtain⟨q,e,h1,h2⟩:=h;rcases h2 with⟨d,i⟩|⟨y,c,f,d,m,b,i,r,s,t⟩;·cases d;cases k
 .subst k;cases d;refine⟨rfl,⟨by simp[q],fun x a=>?_,?_,.inr ⟨g,cap,f.setIfInBounds j v,rfl,m,?_,i,r,by simp[s],?_⟩⟩,?_⟩
  .rcases List.mem_or_eq_of_mem_set a with a|a;·exact e x a
   .subst a;rfl
  .rw[kR L j v e];simpa using h1
  .have C:g<w.heap.size:=(Array.getElem?_eq_some_iff.1 b).1;have z:w.heap[g]=.cells f E (0,0):=(Array.getElem?_eq_some_iff.1 b).2;simp[World.setCell,Array.getElem?_modify,b]
  .rw[kR L j v e,<-t];simp[List.take_set]
  .simp[World.frozen?,b]
theorem mo{w:World}{o:Ow}{n cap:Nat}{L:List (List Value)}(h:dQ E 1 w o c p n cap L){v:Value}(e:L[j]? =some [v]):∃b,p=some ⟨b,0,none⟩/\o b=c/\b<w.heap.size/\w.cell? ⟨b,j,none⟩=some v/\w.frozen? ⟨b,j,none⟩=false/\j<n:=by
 have l:j<L.length:=(List.getElem?_eq_some_iff.1 e).1;have d:j<n:=by rw[<-h.row.1];exact l
 obtain⟨b,m,x,a,f,-,i⟩:=h.row.sl.at j d;obtain⟨g,-,k⟩:=h.row.set1 d a v;subst g;rw[e]at f;cases f;have:=i 0 v rfl;rw[Nat.zero_add,Nat.mul_one,Nat.add_zero]at this;exact⟨b,a,h.col b (by rw[a];rfl),(h.row.lt b (by rw[a];rfl)).2,this,k,d⟩
variable{w u:World} {o D:Ow} {G:Nat} {A A':my} {L L':dU}
theorem gJ.app(h:gJ w o G A L)(g:301<=c/\c<400)(F:Fm (fun d=>d=c) o D w u)(f:sH u D A' L')(i:Nat)(v:Value)(e:(pY A L).set i v=pY A' L'):
  gJ (u.setCell ⟨G,i,none⟩ v) D G A' L'/\Fm iy o D w (u.setCell ⟨G,i,none⟩ v):=by have B:=h.box.fr F (by decide) (by omega);have F2:=Fm.put (C:=one 300) F.cl B (by decide) rfl i v;have b:=B.put i v;rw[e]at b;exact⟨⟨b,f.fr F2 (fun d a=>by unfold one at a;subst a;unfold fF;omega)⟩,(F.mono (fun d a=>by unfold iy;omega)).tr (F2.mono (fun d a=>by unfold one at a;subst a;unfold iy;omega)) gF⟩
theorem sH.others(q:sH w o A L)(k:301<=c/\c<400)(F:Fm (fun d=>d=c) o D w u):
  fk u D A.wb A.g L.W/\(c≠301->dQ 43 1 u D 301 A.fp L.fm.length A.fc (j5 A.rows L.fm))/\(∀(i:Nat) (r:Option Addr×Nat) (l:List dj),310+i≠c->A.rows[i]? =some r->L.fm[i]? =some l->dQ 71 7 u D (310+i) r.1 l.length r.2 (l.map dY))/\(c≠302->∃S,dQ 116 8 u D 302 A.sp L.sn A.sc S)/\(c≠303->dQ 104 3 u D 303 A.vp L.vs.length A.vc (L.vs.map KM))/\(c≠304->dQ 71 7 u D 304 A.cp L.cs.length A.cc (L.cs.map dY)):=
 ⟨q.wr.fr F (fun d f=>by subst f;unfold fF;omega),fun h=>q.fo.fr F (by decide) (by omega),fun i r l g a b=>(q.fi i r l a b).fr F (by omega) g,fun h=>by obtain⟨S,e⟩:=q.so;exact⟨S,e.fr F (by decide) (by omega)⟩,fun h=>q.vo.fr F (by decide) (by omega),fun h=>q.co.fr F (by decide) (by omega)⟩
theorem sH.saw{S:List (List Value)}(q:sH w o A L)(F:Fm (fun d=>d=302) o D w u)(r:dQ 116 8 u D 302 p (L.sn+1) c S)(e:L.sn<100000):sH u D {A with sp:=p,sc:=c} {L with sn:=L.sn+1}:=by obtain⟨h1,h2,h3,h4,h5,h6⟩:=q.others (by decide) F;obtain⟨f,m,g,h,k⟩:=q.mx;exact⟨h1,q.nn,h2 (by decide),q.fl,fun i r l a b=>h3 i r l (by have:i<L.fm.length:=(List.getElem?_eq_some_iff.1 b).1;omega) a b,⟨S,r⟩,h5 (by decide),h6 (by decide),f,e,g,h,k⟩
theorem sH.inst{x:Int×Int×Int}(q:sH w o A L)(F:Fm (fun d=>d=303) o D w u)(r:dQ 104 3 u D 303 p (L.vs.length+1) c (L.vs.map KM++[KM x]))(k:L.vs.length<100000):sH u D {A with vp:=p,vc:=c} {L with vs:=L.vs++[x]}:=by obtain⟨h1,h2,h3,h4,h5,h6⟩:=q.others (by decide) F;obtain⟨e,f,m,g,h⟩:=q.mx;refine⟨h1,q.nn,h2 (by decide),q.fl,fun i r l a b=>h3 i r l (by have:i<L.fm.length:=(List.getElem?_eq_some_iff.1 b).1;omega) a b,h4 (by decide),by simpa using r,h6 (by decide),e,f,?_,g,h⟩;simp;omega
theorem sH.castd{x:dj}(q:sH w o A L)(F:Fm (fun d=>d=304) o D w u)(r:dQ 71 7 u D 304 p (L.cs.length+1) c (L.cs.map dY++[dY x]))(k:L.cs.length<1000):sH u D {A with cp:=p,cc:=c} {L with cs:=L.cs++[x]}:=by obtain⟨h1,h2,h3,h4,h5,h6⟩:=q.others (by decide) F;obtain⟨e,f,g,m,h⟩:=q.mx;refine⟨h1,q.nn,h2 (by decide),q.fl,fun i r l a b=>h3 i r l (by have:i<L.fm.length:=(List.getElem?_eq_some_iff.1 b).1;omega) a b,h4 (by decide),h5 (by decide),by simpa using r,e,f,g,?_,h⟩;simp;omega
theorem gJ.firm{b:Nat}{H:Option Addr×Nat}{l:List dj}{e:dj}(h:gJ w o G A L)(hr:A.rows[j]? =some H)(C:L.fm[j]? =some l)(t:A.fp=some ⟨b,0,none⟩)(F:Fm (fun d=>d=310+j) o D w u)(r:dQ 71 7 u D (310+j) p (l.length+1) c (l.map dY++[dY e]))(W:l.length<1000):
  gJ (u.setCell ⟨b,j,none⟩ (.slice p (l.length+1) c)) D G {A with rows:=A.rows.set j (p,c)} {L with fm:=L.fm.set j (l++[e])}/\Fm iy o D w (u.setCell ⟨b,j,none⟩ (.slice p (l.length+1) c)):=by
 have z:j<L.fm.length:=(List.getElem?_eq_some_iff.1 C).1;obtain⟨P,Q,R,T,U⟩:=h.q.mx;obtain⟨h1,h2,h3,h4,h5,h6⟩:=h.q.others ⟨by omega,by omega⟩ F;have B:=h.box.fr F (by decide) (by omega);have n:=h2 (by omega);have X:=iV A.rows L.fm j H l hr C;have M:D b=301:=n.col b (by rw[t];rfl);have V:b<u.heap.size:=(n.row.lt b (by rw[t];rfl)).2;obtain⟨-,J,-⟩:=n.row.set1 (j:=j) z t (.slice p (l.length+1) c);have F2:Fm (fun d=>d=301) D D u (u.setCell ⟨b,j,none⟩ (.slice p (l.length+1) c)):=Fm.grown F.cl (dP (dD u (some b)) j _) (fun g N=>by cases N;rw[M];exact⟨by decide,rfl⟩);refine⟨⟨?_,h1.fr F2 (fun d s=>by subst s;unfold fF;omega),h.q.nn,?_,by simp[h.q.fl],fun i y v a f=>?_,(by obtain⟨S,K⟩:=h4 (by omega);exact⟨S,K.fr F2 (by decide) (by decide)⟩),(h5 (by omega)).fr F2 (by decide) (by decide),(h6 (by omega)).fr F2 (by decide) (by decide),?_⟩,(F.mono (fun d s=>by unfold iy;omega)).tr (F2.mono (fun d s=>by unfold iy;omega)) gF⟩;·have:=B.fr F2 (by decide) (by decide);rw[show pY {A with rows:=A.rows.set j (p,c)} {L with fm:=L.fm.set j (l++[e])}=pY A L by simp];exact this
 .refine⟨?_,n.col⟩;have q:(L.fm.set j (l++[e])).length=L.fm.length:=by simp
  have m:=tk A.rows L.fm j (p,c) (l++[e]);have I:(l++[e]).length=l.length+1:=by simp
  rw[I]at m;show fY _ 1 _ 0 A.fp (L.fm.set j (l++[e])).length A.fc (j5 (A.rows.set j (p,c)) (L.fm.set j (l++[e])));rw[q,m];exact J
 .by_cases O:i=j
  .subst O;have q:(A.rows.set i (p,c))[i]? =some (p,c):=by have:i<A.rows.length:=(List.getElem?_eq_some_iff.1 hr).1;simp[this]
   have m:(L.fm.set i (l++[e]))[i]? =some (l++[e]):=by simp[z]
   have a:(A.rows.set i (p,c))[i]? =some y:=a;have f:(L.fm.set i (l++[e]))[i]? =some v:=f;rw[q]at a;rw[m]at f;cases a;cases f;have:=r.fr F2 (by omega) (by omega);simpa using this
  .have a:(A.rows.set j (p,c))[i]? =some y:=a;have f:(L.fm.set j (l++[e]))[i]? =some v:=f;rw[List.getElem?_set_ne (by omega)]at a f;exact(h3 i y v (by omega) a f).fr F2 (by omega) (by omega)
 .refine⟨by simpa using P,Q,R,T,fun x k=>?_⟩;rcases List.mem_or_eq_of_mem_set k with k|k;·exact U x k
  .subst k;simp;omega
def gN(c e:dj):Bool:=dG c e&&(decide (c.od=e.od)&&(decide (c.lv=e.lv)&&decide (c.da=e.da)))
end
end Go.Proofs.YtjhbmbbmjaabcaaGreat
