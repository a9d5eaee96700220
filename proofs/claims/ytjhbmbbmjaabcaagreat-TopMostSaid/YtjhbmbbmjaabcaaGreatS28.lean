/-
  Contracts. Conditions stand at each.
-/
import Derived.Test.YtjhbmbbmjaabcaaGreatS25
set_option linter.all false
set_option maxRecDepth 8000
set_option maxHeartbeats 8000000
namespace Go.Proofs.YtjhbmbbmjaabcaaGreat
open Go Go.Sort Go.RowKit
section
variable{i:Nat} {e:dj}
def rq(L:dU)(e:dj):Option dU:=
 if e.lv !=0 then(if decide (L.sn<100000)then some {L with sn:=L.sn+1}else none)else some L
def pB(i:Nat)(L:dU)(e:dj):Option dU:=
 if e.lv !=0&&e.od==1 then
  if decide (0<=L.nw.at i/\L.nw.at i<1000)then
   match L.fm[(L.nw.at i).toNat]? with
   |none=>none
   |some l=>if decide (l.length<1000)then some {L with fm:=L.fm.set (L.nw.at i).toNat (l++[e])}else none
  else none
 else some L
def mJ(i:Nat)(L:dU)(t:iB):Option dU:=
 match rq L t.e with
 |none=>none
 |some b=>match pB i b t.e with
  |none=>none
  |some a=>some {a with td:=a.td.set i (a.td.at i+1)}
def wu(L:dU)(s:dp):Bool:=L.vs.any fun x=>x.1==s.ls&&x.2.1==s.mb
def vQ(L:dU)(s:dp):Option dU:=
 if eC s then
  if wu L s then some L
  else if decide (L.vs.length<100000)then some {L with vs:=L.vs++[(s.ls,s.mb,L.W.rl)]}else none
 else some L
def rV(L:dU)(i:Nat):Option dU:=
 match L.W.sl[i-1]? with
 |some (.up s)=>
  if decide (0<=L.td.at i/\L.td.at i<=(s.T.length:Int))then
   match dt (mJ i) (s.T.drop (L.td.at i).toNat) L with
   |none=>none
   |some a=>vQ a s
  else none
 |_=>none
def gE(L:dU):Option dU:=dt rV (List.range' 1 L.n) L
theorem zI{L L':dU}(h:rq L e=some L'):L'.W=L.W/\L'.n=L.n/\L'.td=L.td/\L'.nw=L.nw:=by
 unfold rq at h;split at h
 .split at h;·cases h;exact⟨rfl,rfl,rfl,rfl⟩
  .cases h
 .cases h;exact⟨rfl,rfl,rfl,rfl⟩
theorem zH{L L':dU}(h:pB i L e=some L'):L'.W=L.W/\L'.n=L.n/\L'.td=L.td/\L'.nw=L.nw:=by
 unfold pB at h;split at h
 .split at h
  .split at h;·cases h
   .split at h;·cases h;exact⟨rfl,rfl,rfl,rfl⟩
    .cases h
  .cases h
 .cases h;exact⟨rfl,rfl,rfl,rfl⟩
theorem zG{L L':dU}{t:iB}(h:mJ i L t=some L'):L'.W=L.W/\L'.n=L.n:=by
 unfold mJ at h;split at h;·cases h
 .rename_i a h1;split at h;·cases h
  .rename_i b h2;cases h;obtain⟨a1,a2,-⟩:=zI h1;obtain⟨b1,b2,-⟩:=zH h2;exact⟨b1.trans a1,b2.trans a2⟩
theorem uv{i:Nat}:∀(l:List iB) (L L':dU),dt (mJ i) l L=some L'->L'.W=L.W/\L'.n=L.n
 |[],L,L',h=>by cases h;exact⟨rfl,rfl⟩
 |t::l,L,L',h=>by
  obtain⟨V,h1,h2⟩:=dy h;obtain⟨a1,a2⟩:=zG h1;obtain⟨b1,b2⟩:=uv l V L' h2;exact⟨b1.trans a1,b2.trans a2⟩
theorem HH{L L':dU}{s:dp}(h:vQ L s=some L'):L'.W=L.W/\L'.n=L.n:=by
 unfold vQ at h;split at h
 .split at h;·cases h;exact⟨rfl,rfl⟩
  .split at h;·cases h;exact⟨rfl,rfl⟩
   .cases h
 .cases h;exact⟨rfl,rfl⟩
theorem Fx{L L':dU}(h:rV L i=some L'):L'.W=L.W/\L'.n=L.n:=by
 unfold rV at h;split at h
 .split at h
  .split at h;·cases h
   .rename_i a h1;obtain⟨a1,a2⟩:=uv _ _ _ h1;obtain⟨b1,b2⟩:=HH h;exact⟨b1.trans a1,b2.trans a2⟩
  .cases h
 .cases h
theorem zp:∀(l:List Nat) (L L':dU),dt rV l L=some L'->L'.W=L.W/\L'.n=L.n
 |[],L,L',h=>by cases h;exact⟨rfl,rfl⟩
 |t::l,L,L',h=>by
  obtain⟨V,h1,h2⟩:=dy h;obtain⟨a1,a2⟩:=Fx h1;obtain⟨b1,b2⟩:=zp l V L' h2;exact⟨b1.trans a1,b2.trans a2⟩
theorem rs{L L':dU}(h:gE L=some L'):L'.W=L.W/\L'.n=L.n:=zp _ _ _ h
theorem D8:(Tryz.prog.info? 116).map (fun i=>(i.zero,i.size,i.bytes))=some (some (.agg (dZ dx++ #[.int .i64 0])),8,72):=by kernel_rfl
theorem Hp:(Tryz.prog.info? 104).map (fun i=>(i.zero,i.size,i.bytes))=some (some (.agg #[.int .i64 0,.int .i64 0,.int .i64 0]),3,24):=by kernel_rfl
variable{w N:World} {o G:Ow} {D:Nat} {A A':my} {L L':dU}
theorem zA{p:Option Addr}{n cap:Nat}{L:List (Int×Int×Int)}(h:SlS 3 w p n cap (L.map KM))(k:Nat)(f:k<n):
  ∃b a q,p=some ⟨b,a,none⟩/\L[k]? =some q/\w.cell? ⟨b,a+k*3,none⟩=some (.int .i64 q.1)/\w.cell? ⟨b,a+k*3+1,none⟩=some (.int .i64 q.2.1)/\w.cell? ⟨b,a+k*3+2,none⟩=some (.int .i64 q.2.2):=by obtain⟨b,a,x,g,d,-,c⟩:=h.at k f;rw[List.getElem?_map]at d;obtain⟨q,j,rfl⟩:=Option.map_eq_some_iff.1 d;exact⟨b,a,q,g,j,c 0 _ rfl,c 1 _ rfl,c 2 _ rfl⟩
theorem kV(b8:Cl w o)(h:gJ w o D A L)(hs:gE L=some L'):
  Calls Tryz.prog 46 #[de D] w fun e w'=>e=.returned (.tuple #[])/\∃o' A',gJ w' o' D A' L'/\Fm iy o o' w w':=by
 have H:=hI h;have HS:=hI hs;have M0:=hI (Fm.refl (C:=iy) b8);have c4:L.n<=7:=by have h1:=h.q.nn;have h2:=h.q.wr.hn;omega
 clear b8 h hs;go_enter Tryz.func46,Tryz.ntmps46;go_wp2;go_loopw [2] (fun i wr=>∃(a:Nat) (oa:Ow) (Aa:my) (La:dU),1<=a/\a<=L.n+1/\i=.int .i64 (a:Int)/\gJ wr oa D Aa La/\dt rV (List.range' a (L.n+1-a)) La=some L'/\La.n=L.n/\Fm iy o oa w wr) (fun i _=>L.n+1-(intOf i).toNat);case atStart=>exact⟨1,o,A,L,by omega,by omega,rfl,H.o,by rw[Nat.add_sub_cancel];exact HS.o,rfl,M0.o⟩
 case round=>
  obtain⟨a,oa,Aa,La,cM,c2,rfl,hv,hf,cd,ma⟩:=hrel;have HA:=hI hv;have a4:=hI hf;have aQ:=hI cd;have MA:=hI ma;clear hv hf cd ma H HS M0;have c1:=HA.o.box.box.c 1 _ rfl;rw[aQ.o]at c1;have c0:=HA.o.box.box.c 0 _ rfl;by_cases cQ:a<=L.n
  .have e3:=dT ((a:Int)<=(L.n:Int));have hr:=a4.o;rw[show L.n+1-a=(L.n+1-(a+1))+1 by omega,List.range'_succ]at hr;obtain⟨Lb,ht,cg⟩:=dy hr;have ae:=hI ht;have a9:=hI cg;have cw:Hid (1<=a/\a<=La.W.n):=hI ⟨cM,by rw[HA.o.q.nn,aQ.o];exact cQ⟩;have a8:Hid (Lb.n=L.n):=hI ((Fx ht).2.trans aQ.o);have z:(0:Int)<=(a:Int):=by omega
   have B:(a:Int)<8:=by omega
   have Z:a<8:=by omega
   clear hr ht cg a4;go_wp2_with fail;cases aq:La.W.sl[a-1]? with
   |none=>
    have:=ae.o;unfold rV at this;rw[aq]at this;cases this
   |some sd=>
   cases sd with
   |dn bt dv=>
    have:=ae.o;unfold rV at this;rw[aq]at this;cases this
   |up s=>
    have cD:=hI aq;have ak:=ae.o;unfold rV at ak;rw[aq]at ak;simp only at ak;split at ak;case isFalse=>cases ak
    rename_i aC;have Y:=hI (of_decide_eq_true aC);split at ak;case h_1=>cases ak
    rename_i M bk;have av:=hI bk;have bd:=hI ak;have cX:=hI (uv _ _ _ bk);clear ak aq aC bk ae;refine(eu HA.o.q.wr cw.o cD.o).mono ?_;rintro e w9 ⟨xx,cc,AA,rfl,h1,h2,nd,cl,cO,hn,rfl⟩;have ND:=hI nd;clear h1 h2 nd cl cO hn c0 c1;go_wp2_with fail;refine(oN ND.o).mono ?_;rintro e w9 ⟨pt,ct,rfl,cp,x9⟩;have T9:=hI (fJ.fresh cp MA.o.cl (Nat.le_refl _));have T:=hI (HA.o.ext x9);have M9:=hI (MA.o.tr (Fm.ext MA.o.cl x9) gF);have N9:=hI (ND.o.ext x9);clear cp x9 ND HA MA;have c5:s.T.length<=9223372036854775807:=Nat.le_trans T9.o.sl.le T9.o.sl.max;obtain⟨jj,bl⟩:∃jj:Nat,La.td.at a=(jj:Int):=⟨(La.td.at a).toNat,by have:=Y.o.1;omega⟩;have m:=hI bl;have cx:Hid (jj<=s.T.length):=hI (by have:=Y.o.2;omega)
    have bL:Hid (dt (mJ a) (s.T.drop jj) La=some M):=hI (by
     have:=av.o;rw[bl]at this
     simpa using this)
    clear bl Y av;go_wp2;go_loopw [] (fun wr=>∃(j:Nat) (oj:Ow) (l:my) (O:dU),j<=s.T.length/\O.td.at a=(j:Int)/\gJ wr oj D l O/\fJ 8 wr oj pt s.T.length ct (s.T.map r8)/\di wr oj (32*a) xx Aa.wb (1+a*4+2) AA s/\dt (mJ a) (s.T.drop j) O=some M/\(O.n=L.n/\O.W=La.W)/\Fm iy o oj w wr) (fun wr=>s.T.length-(jZ wr ⟨D,11+a,none⟩).toNat);case atStart=>exact⟨jj,oa,Aa,La,cx.o,m.o,T.o,T9.o,N9.o,bL.o,⟨aQ.o,rfl⟩,M9.o⟩
    case round=>
     obtain⟨j,oj,l,O,hj,aC,hv,aq,ce,hf,hk,mj⟩:=hrel;have m:=hI hv;have Y:=hI aC;have S:=hI aq;have R:=hI ce;have FJ:=hI hf;have KJ:=hI hk;have r:=hI mj;have am:wr.cell? ⟨D,11+a,none⟩=some (.int .i64 (j:Int)):=by rw[<-aC];exact hv.box.box.c (11+a) _ (jK Z)
     have aP:Hid (jZ wr ⟨D,11+a,none⟩=(j:Int)):=hI (by unfold jZ;rw[am]);clear hv aC aq ce hf hk mj T T9 N9 bL M9;by_cases bp:j<s.T.length
     .have e4:=dT ((j:Int)<(s.T.length:Int));obtain⟨b,oo,td,hp,hx,q0,q1,q2,q3,q4,q5,q6,q7⟩:=jO S.o.sl j bp;have b9:s.T.drop j=td::s.T.drop (j+1):=by rw[List.drop_eq_getElem_cons bp];congr 1;rw[List.getElem?_eq_getElem bp]at hx;exact Option.some.inj hx
      obtain⟨Lk,bs,ch⟩:=dy (by rw[<-b9];exact FJ.o);have bO:=hI bs;have a':=hI ch;have ax:=hI (zG bs);clear bs ch b9 hx FJ;subst hp;obtain⟨xa,⟨z,B,I,t,y,J,F⟩⟩:=td;simp only at q1 q2 q3 q4 q5 q6 q7;have c3:(j:Int)<9223372036854775807:=by omega
      go_upto_region 9 with fail;change Code.wp _ _ _ _ (wr.alloc (.cells (dZ ⟨z,B,I,t,y,J,F⟩) 71));have p:=hI (dq.loose r.o.cl (dZ ⟨z,B,I,t,y,J,F⟩) (dY ⟨z,B,I,t,y,J,F⟩) 71 rfl);have A1:=hI (db.alloc wr (.cells (dZ ⟨z,B,I,t,y,J,F⟩) 71));replace m:=hI (m.o.ext A1.o);replace S:=hI (S.o.ext A1.o);replace R:=hI (R.o.ext A1.o);replace r:=hI (r.o.tr (Fm.ext r.o.cl A1.o) gF);clear A1 q0 q1 q2 q3 q4 q5 q6 q7 am;generalize wr.alloc (.cells (dZ ⟨z,B,I,t,y,J,F⟩) 71)=w5 at*;generalize wr.heap.size=c at*;have HE:=bO.o;unfold mJ at HE;simp only at HE;split at HE;case h_1=>cases HE
      rename_i LS bo;split at HE;case h_1=>cases HE
      rename_i LF bn;have bN:=hI bo;have a6:=hI bn;have a7:=hI (Option.some.inj HE);have cz:=hI (zI bo);have cy:=hI (zH bn);clear HE bo bn bO;have d3:=p.o.box.c 3 _ rfl;have d4:=p.o.box.c 4 _ rfl;try simp only at d3 d4
      by_cases aW:y=0
      .have g1:(y !=0)=false:=by simpa using aW
       have cC:Hid (O=LS):=hI (by
        have:=bN.o;unfold rq at this;rw[if_neg (by simp only[g1];simp)]at this
        exact Option.some.inj this)
       have av:Hid (LS=LF):=hI (by
        have:=a6.o;unfold pB at this;rw[if_neg (by simp only[g1];simp)]at this
        exact Option.some.inj this)
       clear aW;rw[cC.o,av.o]at m Y;go_upto_region 7 with fail;clear d3 d4;obtain⟨W,V⟩:∃W,W=w5.drew:=⟨_,rfl⟩;have U:Hid (db w5 W):=hI (by rw[V];exact db.drew w5);replace m:=hI (m.o.ext U.o);replace S:=hI (S.o.ext U.o);replace R:=hI (R.o.ext U.o);have aK:∀d os,(grow (redrawn W d) os).cell? ⟨D,11+a,none⟩=some (.int .i64 (j:Int)):=rg W (by rw[<-Y.o];exact m.o.box.box.c (11+a) _ (jK Z));refine eA [0,1,2,3,4,5,6,7,8,9] [10] ?_;rw[<-V];clear V;repeat((first|refine dC fun K f=>?_|refine dB fun K f=>?_);go_big_quiet_op;refine f _ ?_;clear f K)
       refine dh ?_;have am:W.cell? ⟨D,11+a,none⟩=some (.int .i64 (j:Int)):=by rw[<-Y.o];exact m.o.box.box.c (11+a) _ (jK Z)
       have fz:=m.o.box.box.f (11+a);have aM:wrap64 ((j:Int)+1)=(j:Int)+1:=by unfold wrap64;omega
       refine iD fun K f=>?_;go_simp;obtain⟨ap,ar⟩:=m.o.put (r.o.cl.ext U.o) (11+a) (.int .i64 ((j:Int)+1)) (qm Z) (fun q=>⟨q.wr,q.nn,q.fo,q.fl,q.fi,q.so,q.vo,q.co,q.mx⟩);have af:=hI ap;have aJ:=hI (S.o.fr ((Fm.put (C:=one 300) (r.o.cl.ext U.o) m.o.box (by decide) rfl (11+a) (.int .i64 ((j:Int)+1)))) (by unfold one;omega));have aI:=hI (R.o.fr (by omega) ((Fm.put (C:=one 300) (r.o.cl.ext U.o) m.o.box (by decide) rfl (11+a) (.int .i64 ((j:Int)+1)))) (by unfold one;omega) (fun d hd=>by unfold one at hd;unfold rD;omega));have aH:=hI ((r.o.tr (Fm.ext r.o.cl U.o) gF).tr ar gF);clear ap ar am fz aM aK U m S R r;refine f _ _ ?_;clear f K;refine df ?_;generalize W.setCell ⟨D,11+a,none⟩ (.int .i64 ((j:Int)+1))=cu at*;have ai:({LF with td:=LF.td.set a ((j:Int)+1)}:dU)=Lk:=by rw[<-a7.o,Y.o]
       rw[ai]at af;have ae:Hid (Lk.td.at a=((j+1:Nat):Int)):=hI (by rw[<-ai];show(LF.td.set a ((j:Int)+1)).at a=_;rw[E8.set_at _ Z,if_pos rfl];rfl);clear ai;go_wp2;go_roundw;case rel=>exact⟨j+1,oj,l,Lk,by omega,ae.o,af.o,aJ.o,aI.o,a'.o,⟨ax.o.2.trans KJ.o.1,ax.o.1.trans KJ.o.2⟩,aH.o⟩
       case measure=>have h1:=af.o.box.box.c (11+a) _ (jK Z);rw[ae.o]at h1;have h4:=aP.o;unfold jZ at h4;simp only[jZ,h1];rw[h4];omega
      .have g1:(y !=0)=true:=by simpa using aW
       clear aW;go_upto_region 10 with fail
       have bc:Hid (O.sn<100000/\({O with sn:=O.sn+1}:dU)=LS):=hI (by
        have:=bN.o;unfold rq at this;rw[if_pos (by simp only[g1])]at this;split at this;·rename_i h1;exact⟨of_decide_eq_true h1,Option.some.inj this⟩
        .cases this)
       clear d3 d4;obtain⟨W6,V⟩:∃W6,W6=w5.drew:=⟨_,rfl⟩;have X6:Hid (db w5 W6):=hI (by rw[V];exact db.drew w5);replace m:=hI (m.o.ext X6.o);replace S:=hI (S.o.ext X6.o);replace R:=hI (R.o.ext X6.o);replace p:=hI (p.o.ext X6.o);have cT:=fun(n:dN (CL [(⟨D,19,none⟩,.slice l.sp O.sn l.sc),(⟨D,0,none⟩,de l.wb),(⟨c,0,none⟩,.int .i64 z),(⟨c,1,none⟩,.int .i64 B),(⟨c,2,none⟩,.int .i64 I),(⟨c,3,none⟩,.int .i64 t),(⟨c,4,none⟩,.int .i64 y),(⟨c,5,none⟩,.int .i64 J),(⟨c,6,none⟩,.string F)]))=>(n.h.1:n.w.cell? ⟨D,19,none⟩=some (.slice l.sp O.sn l.sc));have r0:=fun(n:dN (CL [(⟨D,19,none⟩,.slice l.sp O.sn l.sc),(⟨D,0,none⟩,de l.wb),(⟨c,0,none⟩,.int .i64 z),(⟨c,1,none⟩,.int .i64 B),(⟨c,2,none⟩,.int .i64 I),(⟨c,3,none⟩,.int .i64 t),(⟨c,4,none⟩,.int .i64 y),(⟨c,5,none⟩,.int .i64 J),(⟨c,6,none⟩,.string F)]))=>(n.h.2.1:n.w.cell? ⟨D,0,none⟩=some (de l.wb));have bz:=fun(n:dN (CL [(⟨D,19,none⟩,.slice l.sp O.sn l.sc),(⟨D,0,none⟩,de l.wb),(⟨c,0,none⟩,.int .i64 z),(⟨c,1,none⟩,.int .i64 B),(⟨c,2,none⟩,.int .i64 I),(⟨c,3,none⟩,.int .i64 t),(⟨c,4,none⟩,.int .i64 y),(⟨c,5,none⟩,.int .i64 J),(⟨c,6,none⟩,.string F)]))=>(n.h.2.2.1:n.w.cell? ⟨c,0,none⟩=some (.int .i64 z));have bA:=fun(n:dN (CL [(⟨D,19,none⟩,.slice l.sp O.sn l.sc),(⟨D,0,none⟩,de l.wb),(⟨c,0,none⟩,.int .i64 z),(⟨c,1,none⟩,.int .i64 B),(⟨c,2,none⟩,.int .i64 I),(⟨c,3,none⟩,.int .i64 t),(⟨c,4,none⟩,.int .i64 y),(⟨c,5,none⟩,.int .i64 J),(⟨c,6,none⟩,.string F)]))=>(n.h.2.2.2.1:n.w.cell? ⟨c,1,none⟩=some (.int .i64 B));have bB:=fun(n:dN (CL [(⟨D,19,none⟩,.slice l.sp O.sn l.sc),(⟨D,0,none⟩,de l.wb),(⟨c,0,none⟩,.int .i64 z),(⟨c,1,none⟩,.int .i64 B),(⟨c,2,none⟩,.int .i64 I),(⟨c,3,none⟩,.int .i64 t),(⟨c,4,none⟩,.int .i64 y),(⟨c,5,none⟩,.int .i64 J),(⟨c,6,none⟩,.string F)]))=>(n.h.2.2.2.2.1:n.w.cell? ⟨c,2,none⟩=some (.int .i64 I));have bC:=fun(n:dN (CL [(⟨D,19,none⟩,.slice l.sp O.sn l.sc),(⟨D,0,none⟩,de l.wb),(⟨c,0,none⟩,.int .i64 z),(⟨c,1,none⟩,.int .i64 B),(⟨c,2,none⟩,.int .i64 I),(⟨c,3,none⟩,.int .i64 t),(⟨c,4,none⟩,.int .i64 y),(⟨c,5,none⟩,.int .i64 J),(⟨c,6,none⟩,.string F)]))=>(n.h.2.2.2.2.2.1:n.w.cell? ⟨c,3,none⟩=some (.int .i64 t));have bD:=fun(n:dN (CL [(⟨D,19,none⟩,.slice l.sp O.sn l.sc),(⟨D,0,none⟩,de l.wb),(⟨c,0,none⟩,.int .i64 z),(⟨c,1,none⟩,.int .i64 B),(⟨c,2,none⟩,.int .i64 I),(⟨c,3,none⟩,.int .i64 t),(⟨c,4,none⟩,.int .i64 y),(⟨c,5,none⟩,.int .i64 J),(⟨c,6,none⟩,.string F)]))=>(n.h.2.2.2.2.2.2.1:n.w.cell? ⟨c,4,none⟩=some (.int .i64 y));have bE:=fun(n:dN (CL [(⟨D,19,none⟩,.slice l.sp O.sn l.sc),(⟨D,0,none⟩,de l.wb),(⟨c,0,none⟩,.int .i64 z),(⟨c,1,none⟩,.int .i64 B),(⟨c,2,none⟩,.int .i64 I),(⟨c,3,none⟩,.int .i64 t),(⟨c,4,none⟩,.int .i64 y),(⟨c,5,none⟩,.int .i64 J),(⟨c,6,none⟩,.string F)]))=>(n.h.2.2.2.2.2.2.2.1:n.w.cell? ⟨c,5,none⟩=some (.int .i64 J));have bF:=fun(n:dN (CL [(⟨D,19,none⟩,.slice l.sp O.sn l.sc),(⟨D,0,none⟩,de l.wb),(⟨c,0,none⟩,.int .i64 z),(⟨c,1,none⟩,.int .i64 B),(⟨c,2,none⟩,.int .i64 I),(⟨c,3,none⟩,.int .i64 t),(⟨c,4,none⟩,.int .i64 y),(⟨c,5,none⟩,.int .i64 J),(⟨c,6,none⟩,.string F)]))=>(n.h.2.2.2.2.2.2.2.2.1:n.w.cell? ⟨c,6,none⟩=some (.string F));refine Hn [0,1,2,3,4,5,6,7,8,9,10,11,12,13,14,15] 16 (CL [(⟨D,19,none⟩,.slice l.sp O.sn l.sc),(⟨D,0,none⟩,de l.wb),(⟨c,0,none⟩,.int .i64 z),(⟨c,1,none⟩,.int .i64 B),(⟨c,2,none⟩,.int .i64 I),(⟨c,3,none⟩,.int .i64 t),(⟨c,4,none⟩,.int .i64 y),(⟨c,5,none⟩,.int .i64 J),(⟨c,6,none⟩,.string F)]) (by rw[<-V];exact⟨m.o.box.box.c 19 _ rfl,m.o.box.box.c 0 _ rfl,p.o.box.c 0 _ rfl,p.o.box.c 1 _ rfl,p.o.box.c 2 _ rfl,p.o.box.c 3 _ rfl,p.o.box.c 4 _ rfl,p.o.box.c 5 _ rfl,p.o.box.c 6 _ rfl,trivial⟩) (fun _=>?_);rw[<-V];clear V;repeat((first|refine lj fun K f=>?_;go_big_quiet_op|refine iK fun K f=>?_;go_big_quiet_op|refine lC fun K f=>?_;go_big_quiet_op);refine f _ ?_;clear f K)
       replace r:=hI (r.o.tr (Fm.ext r.o.cl X6.o) gF);clear X6;refine ki fun K f=>?_;go_simp;refine(pc m.o.q.wr).mono ?_;rintro e w7 ⟨rfl,rfl⟩;refine f (CL [(⟨D,19,none⟩,.slice l.sp O.sn l.sc),(⟨D,0,none⟩,de l.wb),(⟨c,0,none⟩,.int .i64 z),(⟨c,1,none⟩,.int .i64 B),(⟨c,2,none⟩,.int .i64 I),(⟨c,3,none⟩,.int .i64 t),(⟨c,4,none⟩,.int .i64 y),(⟨c,5,none⟩,.int .i64 J),(⟨c,6,none⟩,.string F)]) _ _ (fun _ h=>h) ⟨m.o.box.box.c 19 _ rfl,m.o.box.box.c 0 _ rfl,p.o.box.c 0 _ rfl,p.o.box.c 1 _ rfl,p.o.box.c 2 _ rfl,p.o.box.c 3 _ rfl,p.o.box.c 4 _ rfl,p.o.box.c 5 _ rfl,p.o.box.c 6 _ rfl,trivial⟩ (fun _=>?_);clear f K;repeat((first|refine lj fun K f=>?_;go_big_quiet_op|refine iK fun K f=>?_;go_big_quiet_op|refine lC fun K f=>?_;go_big_quiet_op);refine f _ ?_;clear f K)
       refine ki fun K f=>?_;go_simp;refine f (CL [(⟨D,19,none⟩,.slice l.sp O.sn l.sc),(⟨D,0,none⟩,de l.wb),(⟨c,0,none⟩,.int .i64 z),(⟨c,1,none⟩,.int .i64 B),(⟨c,2,none⟩,.int .i64 I),(⟨c,3,none⟩,.int .i64 t),(⟨c,4,none⟩,.int .i64 y),(⟨c,5,none⟩,.int .i64 J),(⟨c,6,none⟩,.string F)]) _ _ (fun _ h=>h) ⟨m.o.box.box.c 19 _ rfl,m.o.box.box.c 0 _ rfl,p.o.box.c 0 _ rfl,p.o.box.c 1 _ rfl,p.o.box.c 2 _ rfl,p.o.box.c 3 _ rfl,p.o.box.c 4 _ rfl,p.o.box.c 5 _ rfl,p.o.box.c 6 _ rfl,trivial⟩ (fun _=>?_);clear f K;repeat((first|refine lj fun K f=>?_;go_big_quiet_op|refine iK fun K f=>?_;go_big_quiet_op|refine lC fun K f=>?_;go_big_quiet_op);refine f _ ?_;clear f K)
       refine ki fun K f=>?_;go_simp;have ab:=hI (db.alloc W6 (.cells #[.int .i64 z,.int .i64 B,.int .i64 I,.int .i64 t,.int .i64 y,.int .i64 J,.string F,.int .i64 O.W.rl] 116));replace m:=hI (m.o.ext ab.o);replace S:=hI (S.o.ext ab.o);replace R:=hI (R.o.ext ab.o);replace p:=hI (p.o.ext ab.o);replace r:=hI (r.o.tr (Fm.ext r.o.cl ab.o) gF);refine f (CL [(⟨D,19,none⟩,.slice l.sp O.sn l.sc),(⟨D,0,none⟩,de l.wb),(⟨c,0,none⟩,.int .i64 z),(⟨c,1,none⟩,.int .i64 B),(⟨c,2,none⟩,.int .i64 I),(⟨c,3,none⟩,.int .i64 t),(⟨c,4,none⟩,.int .i64 y),(⟨c,5,none⟩,.int .i64 J),(⟨c,6,none⟩,.string F)]) _ _ (fun _ h=>h) ⟨m.o.box.box.c 19 _ rfl,m.o.box.box.c 0 _ rfl,p.o.box.c 0 _ rfl,p.o.box.c 1 _ rfl,p.o.box.c 2 _ rfl,p.o.box.c 3 _ rfl,p.o.box.c 4 _ rfl,p.o.box.c 5 _ rfl,p.o.box.c 6 _ rfl,trivial⟩ (fun _=>?_);clear f K;repeat((first|refine lj fun K f=>?_;go_big_quiet_op|refine iK fun K f=>?_;go_big_quiet_op|refine lC fun K f=>?_;go_big_quiet_op);refine f _ ?_;clear f K)
       have aL:O.sn<=1000000:=by have:=bc.o.1;omega
       obtain⟨SS,b5⟩:=m.o.q.so;refine ki fun K f=>?_;refine js (by rfl) _ _ _ (by rfl) 116 8 72 _ Tryz.underlying41 D8 (by rfl) (by omega) r.o.cl b5 (by rfl) W6.heap.size 1 [.int .i64 z,.int .i64 B,.int .i64 I,.int .i64 t,.int .i64 y,.int .i64 J,.string F,.int .i64 O.W.rl] (by rfl) (by rfl) (fun j u hu=>gd (w:=W6) rfl j u hu) (by simp[Value.oneCell']) aL (by omega) (by decide) (fun d=>d=302) rfl ?_;intro aD aB cR cV cq an;have bW:=hI (S.o.fr an (by omega));have bS:=hI (R.o.fr (by omega) an (by omega) (fun d hd=>by unfold rD;omega));have aj:=hI (p.o.fr an (by decide) (by omega));have au:=hI (m.o.box.fr an (by decide) (by omega));have cH:=au.o.box.c 19 _ rfl;have cJ:=au.o.box.f 19;obtain⟨bg,cm⟩:=m.o.app (A':={l with sp:=aD,sc:=aB}) (L':={O with sn:=O.sn+1}) ⟨by decide,by decide⟩ an (m.o.q.saw an cq bc.o.1) 19 (.slice aD (O.sn+1) aB) rfl;have aN:=hI (Fm.put (C:=one 300) an.cl au.o (by decide) rfl 19 (.slice aD (O.sn+1) aB));rw[bc.o.2]at bg;have bJ:=hI bg;have bQ:=hI (r.o.tr cm gF);have bX:=hI (bW.o.fr aN.o (by unfold one;omega));have bT:=hI (bS.o.fr (by omega) aN.o (by unfold one;omega) (fun d hd=>by unfold one at hd;unfold rD;omega));have bH:=hI (aj.o.fr aN.o (by decide) (by unfold one;omega));refine f (CL [(⟨D,19,none⟩,.slice l.sp O.sn l.sc),(⟨D,0,none⟩,de l.wb),(⟨c,0,none⟩,.int .i64 z),(⟨c,1,none⟩,.int .i64 B),(⟨c,2,none⟩,.int .i64 I),(⟨c,3,none⟩,.int .i64 t),(⟨c,4,none⟩,.int .i64 y),(⟨c,5,none⟩,.int .i64 J),(⟨c,6,none⟩,.string F)]) _ _ (fun _ h=>h) ⟨au.o.box.c 19 _ rfl,au.o.box.c 0 _ rfl,aj.o.box.c 0 _ rfl,aj.o.box.c 1 _ rfl,aj.o.box.c 2 _ rfl,aj.o.box.c 3 _ rfl,aj.o.box.c 4 _ rfl,aj.o.box.c 5 _ rfl,aj.o.box.c 6 _ rfl,trivial⟩ (fun _=>?_);clear f K;go_simp;repeat((first|refine lj fun K f=>?_;go_big_quiet_op|refine iK fun K f=>?_;go_big_quiet_op|refine lC fun K f=>?_;go_big_quiet_op);refine f _ ?_;clear f K)
       refine sJ fun K f=>?_;go_simp;refine f _ _ ?_;clear f K cH cJ bg cm cq an b5 m S R p r bW bS aj au aN cT r0 bz bA bB bC bD bE bF ab;generalize cV.setCell ⟨D,19,none⟩ (.slice aD (O.sn+1) aB)=aE at*;have m:=bJ;have S:=bX;have R:=bT;have p:=bH;have r:=bQ;replace Y:Hid (LS.td.at a=(j:Int)):=hI (by rw[cz.o.2.2.1];exact Y.o);clear bJ bX bT bH bQ;have d3:=p.o.box.c 3 _ rfl;have d4:=p.o.box.c 4 _ rfl;try simp only at d3 d4
       by_cases aX:t=1
       .have g2:(t==1)=true:=by simpa using aX
        clear aX;go_upto_region 12 with fail;clear d3 d4;obtain⟨X,b3⟩:∃X:my,X={l with sp:=aD,sc:=aB}:=⟨_,rfl⟩;rw[<-b3]at m;clear b3;have ah:=a6.o;unfold pB at ah;rw[if_pos (by simp only[g1,g2];rfl)]at ah;split at ah;case isFalse=>cases ah
        rename_i cf;have cB:=hI (of_decide_eq_true cf);obtain⟨E,bm⟩:∃E:Nat,LS.nw.at a=(E:Int):=⟨(LS.nw.at a).toNat,by have:=cB.o.1;omega⟩;have a5:=hI bm;rw[bm,Int.toNat_natCast]at ah;split at ah;case h_1=>cases ah
        rename_i ll sJ;split at ah;case isFalse=>cases ah
        rename_i cb;have bM:=hI (of_decide_eq_true cb);have ag:=hI sJ;have cA:=hI (Option.some.inj ah);clear ah cf bm sJ cb;obtain⟨P,br⟩:∃P,X.rows[E]? =some P:=⟨_,List.getElem?_eq_getElem (by rw[m.o.q.fl];exact(List.getElem?_eq_some_iff.1 ag.o).1)⟩;have aR:=hI br;obtain⟨Q,ca,-,-,-,-,-⟩:=mo m.o.q.fo (iV _ _ _ _ _ br ag.o);have aw:=hI ca;have a3:∀{w':World} {o':Ow},gJ w' o' D X LS->w'.cell? ⟨Q,E,none⟩=some (.slice P.1 ll.length P.2):=fun h=>by obtain⟨b',h1,-,-,h2,-,-⟩:=mo h.q.fo (iV _ _ _ _ _ aR.o ag.o);rw[aw.o]at h1;cases h1;exact h2
        clear br ca;have cY:(0:Int)<=(E:Int):=by omega
        have cZ:(E:Int)<(LS.fm.length:Int):=by have:=(List.getElem?_eq_some_iff.1 ag.o).1;omega
        obtain⟨ay,V⟩:∃ay,ay=aE.drew:=⟨_,rfl⟩;have aA:Hid (db aE ay):=hI (by rw[V];exact db.drew aE);replace m:=hI (m.o.ext aA.o);replace S:=hI (S.o.ext aA.o);replace R:=hI (R.o.ext aA.o);replace p:=hI (p.o.ext aA.o);have r2:=fun(n:dN (CL [(⟨D,2,none⟩,.slice (some ⟨Q,0,none⟩) LS.fm.length X.fc),(⟨D,3+a,none⟩,.int .i64 (E:Int)),(⟨Q,E,none⟩,.slice P.1 ll.length P.2),(⟨c,0,none⟩,.int .i64 z),(⟨c,1,none⟩,.int .i64 B),(⟨c,2,none⟩,.int .i64 I),(⟨c,3,none⟩,.int .i64 t),(⟨c,4,none⟩,.int .i64 y),(⟨c,5,none⟩,.int .i64 J),(⟨c,6,none⟩,.string F)]))=>(n.h.1:n.w.cell? ⟨D,2,none⟩=some (.slice (some ⟨Q,0,none⟩) LS.fm.length X.fc));have r3:=fun(n:dN (CL [(⟨D,2,none⟩,.slice (some ⟨Q,0,none⟩) LS.fm.length X.fc),(⟨D,3+a,none⟩,.int .i64 (E:Int)),(⟨Q,E,none⟩,.slice P.1 ll.length P.2),(⟨c,0,none⟩,.int .i64 z),(⟨c,1,none⟩,.int .i64 B),(⟨c,2,none⟩,.int .i64 I),(⟨c,3,none⟩,.int .i64 t),(⟨c,4,none⟩,.int .i64 y),(⟨c,5,none⟩,.int .i64 J),(⟨c,6,none⟩,.string F)]))=>(n.h.2.1:n.w.cell? ⟨D,3+a,none⟩=some (.int .i64 (E:Int)));have rf:=fun(n:dN (CL [(⟨D,2,none⟩,.slice (some ⟨Q,0,none⟩) LS.fm.length X.fc),(⟨D,3+a,none⟩,.int .i64 (E:Int)),(⟨Q,E,none⟩,.slice P.1 ll.length P.2),(⟨c,0,none⟩,.int .i64 z),(⟨c,1,none⟩,.int .i64 B),(⟨c,2,none⟩,.int .i64 I),(⟨c,3,none⟩,.int .i64 t),(⟨c,4,none⟩,.int .i64 y),(⟨c,5,none⟩,.int .i64 J),(⟨c,6,none⟩,.string F)]))=>(n.h.2.2.1:n.w.cell? ⟨Q,E,none⟩=some (.slice P.1 ll.length P.2));have bz:=fun(n:dN (CL [(⟨D,2,none⟩,.slice (some ⟨Q,0,none⟩) LS.fm.length X.fc),(⟨D,3+a,none⟩,.int .i64 (E:Int)),(⟨Q,E,none⟩,.slice P.1 ll.length P.2),(⟨c,0,none⟩,.int .i64 z),(⟨c,1,none⟩,.int .i64 B),(⟨c,2,none⟩,.int .i64 I),(⟨c,3,none⟩,.int .i64 t),(⟨c,4,none⟩,.int .i64 y),(⟨c,5,none⟩,.int .i64 J),(⟨c,6,none⟩,.string F)]))=>(n.h.2.2.2.1:n.w.cell? ⟨c,0,none⟩=some (.int .i64 z));have bA:=fun(n:dN (CL [(⟨D,2,none⟩,.slice (some ⟨Q,0,none⟩) LS.fm.length X.fc),(⟨D,3+a,none⟩,.int .i64 (E:Int)),(⟨Q,E,none⟩,.slice P.1 ll.length P.2),(⟨c,0,none⟩,.int .i64 z),(⟨c,1,none⟩,.int .i64 B),(⟨c,2,none⟩,.int .i64 I),(⟨c,3,none⟩,.int .i64 t),(⟨c,4,none⟩,.int .i64 y),(⟨c,5,none⟩,.int .i64 J),(⟨c,6,none⟩,.string F)]))=>(n.h.2.2.2.2.1:n.w.cell? ⟨c,1,none⟩=some (.int .i64 B));have bB:=fun(n:dN (CL [(⟨D,2,none⟩,.slice (some ⟨Q,0,none⟩) LS.fm.length X.fc),(⟨D,3+a,none⟩,.int .i64 (E:Int)),(⟨Q,E,none⟩,.slice P.1 ll.length P.2),(⟨c,0,none⟩,.int .i64 z),(⟨c,1,none⟩,.int .i64 B),(⟨c,2,none⟩,.int .i64 I),(⟨c,3,none⟩,.int .i64 t),(⟨c,4,none⟩,.int .i64 y),(⟨c,5,none⟩,.int .i64 J),(⟨c,6,none⟩,.string F)]))=>(n.h.2.2.2.2.2.1:n.w.cell? ⟨c,2,none⟩=some (.int .i64 I));have bC:=fun(n:dN (CL [(⟨D,2,none⟩,.slice (some ⟨Q,0,none⟩) LS.fm.length X.fc),(⟨D,3+a,none⟩,.int .i64 (E:Int)),(⟨Q,E,none⟩,.slice P.1 ll.length P.2),(⟨c,0,none⟩,.int .i64 z),(⟨c,1,none⟩,.int .i64 B),(⟨c,2,none⟩,.int .i64 I),(⟨c,3,none⟩,.int .i64 t),(⟨c,4,none⟩,.int .i64 y),(⟨c,5,none⟩,.int .i64 J),(⟨c,6,none⟩,.string F)]))=>(n.h.2.2.2.2.2.2.1:n.w.cell? ⟨c,3,none⟩=some (.int .i64 t));have bD:=fun(n:dN (CL [(⟨D,2,none⟩,.slice (some ⟨Q,0,none⟩) LS.fm.length X.fc),(⟨D,3+a,none⟩,.int .i64 (E:Int)),(⟨Q,E,none⟩,.slice P.1 ll.length P.2),(⟨c,0,none⟩,.int .i64 z),(⟨c,1,none⟩,.int .i64 B),(⟨c,2,none⟩,.int .i64 I),(⟨c,3,none⟩,.int .i64 t),(⟨c,4,none⟩,.int .i64 y),(⟨c,5,none⟩,.int .i64 J),(⟨c,6,none⟩,.string F)]))=>(n.h.2.2.2.2.2.2.2.1:n.w.cell? ⟨c,4,none⟩=some (.int .i64 y));have bE:=fun(n:dN (CL [(⟨D,2,none⟩,.slice (some ⟨Q,0,none⟩) LS.fm.length X.fc),(⟨D,3+a,none⟩,.int .i64 (E:Int)),(⟨Q,E,none⟩,.slice P.1 ll.length P.2),(⟨c,0,none⟩,.int .i64 z),(⟨c,1,none⟩,.int .i64 B),(⟨c,2,none⟩,.int .i64 I),(⟨c,3,none⟩,.int .i64 t),(⟨c,4,none⟩,.int .i64 y),(⟨c,5,none⟩,.int .i64 J),(⟨c,6,none⟩,.string F)]))=>(n.h.2.2.2.2.2.2.2.2.1:n.w.cell? ⟨c,5,none⟩=some (.int .i64 J));have bF:=fun(n:dN (CL [(⟨D,2,none⟩,.slice (some ⟨Q,0,none⟩) LS.fm.length X.fc),(⟨D,3+a,none⟩,.int .i64 (E:Int)),(⟨Q,E,none⟩,.slice P.1 ll.length P.2),(⟨c,0,none⟩,.int .i64 z),(⟨c,1,none⟩,.int .i64 B),(⟨c,2,none⟩,.int .i64 I),(⟨c,3,none⟩,.int .i64 t),(⟨c,4,none⟩,.int .i64 y),(⟨c,5,none⟩,.int .i64 J),(⟨c,6,none⟩,.string F)]))=>(n.h.2.2.2.2.2.2.2.2.2.1:n.w.cell? ⟨c,6,none⟩=some (.string F));refine Hn [0,1,2,3,4,5,6,7,8,9,10,11,12,13,14,15,16,17,18,19,20,21,22,23,24,25] 26 (CL [(⟨D,2,none⟩,.slice (some ⟨Q,0,none⟩) LS.fm.length X.fc),(⟨D,3+a,none⟩,.int .i64 (E:Int)),(⟨Q,E,none⟩,.slice P.1 ll.length P.2),(⟨c,0,none⟩,.int .i64 z),(⟨c,1,none⟩,.int .i64 B),(⟨c,2,none⟩,.int .i64 I),(⟨c,3,none⟩,.int .i64 t),(⟨c,4,none⟩,.int .i64 y),(⟨c,5,none⟩,.int .i64 J),(⟨c,6,none⟩,.string F)]) (by rw[<-V];exact⟨(by have:=m.o.box.box.c 2 _ rfl;rw[aw.o]at this;exact this),(by rw[<-a5.o];exact m.o.box.box.c (3+a) _ (uC Z)),(a3 m.o),p.o.box.c 0 _ rfl,p.o.box.c 1 _ rfl,p.o.box.c 2 _ rfl,p.o.box.c 3 _ rfl,p.o.box.c 4 _ rfl,p.o.box.c 5 _ rfl,p.o.box.c 6 _ rfl,trivial⟩) (fun _=>?_);rw[<-V];clear V;repeat((first|refine lj fun K f=>?_;go_big_quiet_op|refine iK fun K f=>?_;go_big_quiet_op|refine lC fun K f=>?_;go_big_quiet_op);refine f _ ?_;clear f K)
        replace r:=hI (r.o.tr (Fm.ext r.o.cl aA.o) gF);clear aA;refine ki fun K f=>?_;go_simp;have ab:=hI (db.alloc ay (.cells (dZ ⟨z,B,I,t,y,J,F⟩) 71));replace m:=hI (m.o.ext ab.o);replace S:=hI (S.o.ext ab.o);replace R:=hI (R.o.ext ab.o);replace p:=hI (p.o.ext ab.o);replace r:=hI (r.o.tr (Fm.ext r.o.cl ab.o) gF);refine f (CL [(⟨D,2,none⟩,.slice (some ⟨Q,0,none⟩) LS.fm.length X.fc),(⟨D,3+a,none⟩,.int .i64 (E:Int)),(⟨Q,E,none⟩,.slice P.1 ll.length P.2),(⟨c,0,none⟩,.int .i64 z),(⟨c,1,none⟩,.int .i64 B),(⟨c,2,none⟩,.int .i64 I),(⟨c,3,none⟩,.int .i64 t),(⟨c,4,none⟩,.int .i64 y),(⟨c,5,none⟩,.int .i64 J),(⟨c,6,none⟩,.string F)]) _ _ (fun _ h=>h) ⟨(by have:=m.o.box.box.c 2 _ rfl;rw[aw.o]at this;exact this),(by rw[<-a5.o];exact m.o.box.box.c (3+a) _ (uC Z)),(a3 m.o),p.o.box.c 0 _ rfl,p.o.box.c 1 _ rfl,p.o.box.c 2 _ rfl,p.o.box.c 3 _ rfl,p.o.box.c 4 _ rfl,p.o.box.c 5 _ rfl,p.o.box.c 6 _ rfl,trivial⟩ (fun _=>?_);clear f K;repeat((first|refine lj fun K f=>?_;go_big_quiet_op|refine iK fun K f=>?_;go_big_quiet_op|refine lC fun K f=>?_;go_big_quiet_op);refine f _ ?_;clear f K)
        have aL:ll.length<=1000000:=by have:=bM.o;omega
        refine ki fun K f=>?_;refine js (by rfl) _ _ _ (by rfl) 71 7 64 _ Tryz.underlying43 nN (by rfl) (by omega) r.o.cl (m.o.q.fi E P ll aR.o ag.o) (by rfl) ay.heap.size 1 (dY ⟨z,B,I,t,y,J,F⟩) (by rfl) (by rfl) (fun j u hu=>gd (w:=ay) rfl j u hu) (kP [⟨z,B,I,t,y,J,F⟩] (dY ⟨z,B,I,t,y,J,F⟩) (by simp)) aL (by omega) (by omega) (fun d=>d=310+E) rfl ?_;intro bx bf bw a0 cr ao;have cP:310+E<400:=by have h1:=m.o.q.mx.1;have h2:=(List.getElem?_eq_some_iff.1 ag.o).1;omega
        have bY:=hI (S.o.fr ao (by omega));have bU:=hI (R.o.fr (by omega) ao (by omega) (fun d hd=>by unfold rD;omega));have al:=hI (p.o.fr ao (by decide) (by omega));have a1:=hI (m.o.box.fr ao (by decide) (by omega));obtain⟨bh,cn⟩:=m.o.firm aR.o ag.o aw.o ao cr bM.o;have bI:=(m.o.q.others ⟨by omega,cP⟩ ao).2.1 (by omega);obtain⟨b',b6,b7,cN,b0,cL,-⟩:=mo bI (iV _ _ _ _ _ aR.o ag.o);rw[aw.o]at b6;cases b6;have a2:Hid (Fm (fun d=>d=301) bw bw a0 (a0.setCell ⟨Q,E,none⟩ (.slice bx (ll.length+1) bf))):=hI (Fm.grown ao.cl (dP (dD a0 (some Q)) E _) (fun g hg=>by cases hg;rw[b7];exact⟨by decide,rfl⟩));rw[cA.o]at bh;have bK:=hI bh;have bR:=hI (r.o.tr cn gF);have bZ:=hI (bY.o.fr a2.o (by omega));have bV:=hI (bU.o.fr (by omega) a2.o (by omega) (fun d hd=>by unfold rD;omega));refine f (CL [(⟨D,2,none⟩,.slice (some ⟨Q,0,none⟩) LS.fm.length X.fc),(⟨D,3+a,none⟩,.int .i64 (E:Int)),(⟨Q,E,none⟩,.slice P.1 ll.length P.2),(⟨c,0,none⟩,.int .i64 z),(⟨c,1,none⟩,.int .i64 B),(⟨c,2,none⟩,.int .i64 I),(⟨c,3,none⟩,.int .i64 t),(⟨c,4,none⟩,.int .i64 y),(⟨c,5,none⟩,.int .i64 J),(⟨c,6,none⟩,.string F)]) _ _ (fun _ h=>h) ⟨(by have:=a1.o.box.c 2 _ rfl;rw[aw.o]at this;exact this),(by rw[<-a5.o];exact a1.o.box.c (3+a) _ (uC Z)),b0,al.o.box.c 0 _ rfl,al.o.box.c 1 _ rfl,al.o.box.c 2 _ rfl,al.o.box.c 3 _ rfl,al.o.box.c 4 _ rfl,al.o.box.c 5 _ rfl,al.o.box.c 6 _ rfl,trivial⟩ (fun _=>?_);clear f K;go_simp;repeat((first|refine lj fun K f=>?_;go_big_quiet_op|refine iK fun K f=>?_;go_big_quiet_op|refine lC fun K f=>?_;go_big_quiet_op);refine f _ ?_;clear f K)
        refine sJ fun K f=>?_;go_simp;refine f _ _ ?_;clear f K b0 cL bh cn cr ao m S R p r bY bU al a1 a2 bI b7 cN r2 r3 rf bz bA bB bC bD bE bF ab a3;generalize a0.setCell ⟨Q,E,none⟩ (.slice bx (ll.length+1) bf)=bG at*;have m:=bK;have S:=bZ;have R:=bV;have r:=bR;replace Y:Hid (LF.td.at a=(j:Int)):=hI (by rw[cy.o.2.2.1];exact Y.o);clear bK bZ bV bR;go_upto_region 7 with fail;obtain⟨W,V⟩:∃W,W=bG.drew:=⟨_,rfl⟩;have U:Hid (db bG W):=hI (by rw[V];exact db.drew bG);replace m:=hI (m.o.ext U.o);replace S:=hI (S.o.ext U.o);replace R:=hI (R.o.ext U.o);have aK:∀d os,(grow (redrawn W d) os).cell? ⟨D,11+a,none⟩=some (.int .i64 (j:Int)):=rg W (by rw[<-Y.o];exact m.o.box.box.c (11+a) _ (jK Z));refine eA [0,1,2,3,4,5,6,7,8,9] [10] ?_;rw[<-V];clear V;repeat((first|refine dC fun K f=>?_|refine dB fun K f=>?_);go_big_quiet_op;refine f _ ?_;clear f K)
        refine dh ?_;have am:W.cell? ⟨D,11+a,none⟩=some (.int .i64 (j:Int)):=by rw[<-Y.o];exact m.o.box.box.c (11+a) _ (jK Z)
        have fz:=m.o.box.box.f (11+a);have aM:wrap64 ((j:Int)+1)=(j:Int)+1:=by unfold wrap64;omega
        refine iD fun K f=>?_;go_simp;obtain⟨ap,ar⟩:=m.o.put (r.o.cl.ext U.o) (11+a) (.int .i64 ((j:Int)+1)) (qm Z) (fun q=>⟨q.wr,q.nn,q.fo,q.fl,q.fi,q.so,q.vo,q.co,q.mx⟩);have af:=hI ap;have aJ:=hI (S.o.fr ((Fm.put (C:=one 300) (r.o.cl.ext U.o) m.o.box (by decide) rfl (11+a) (.int .i64 ((j:Int)+1)))) (by unfold one;omega));have aI:=hI (R.o.fr (by omega) ((Fm.put (C:=one 300) (r.o.cl.ext U.o) m.o.box (by decide) rfl (11+a) (.int .i64 ((j:Int)+1)))) (by unfold one;omega) (fun d hd=>by unfold one at hd;unfold rD;omega));have aH:=hI ((r.o.tr (Fm.ext r.o.cl U.o) gF).tr ar gF);clear ap ar am fz aM aK U m S R r;refine f _ _ ?_;clear f K;refine df ?_;generalize W.setCell ⟨D,11+a,none⟩ (.int .i64 ((j:Int)+1))=cu at*;have ai:({LF with td:=LF.td.set a ((j:Int)+1)}:dU)=Lk:=by rw[<-a7.o,Y.o]
        rw[ai]at af;have ae:Hid (Lk.td.at a=((j+1:Nat):Int)):=hI (by rw[<-ai];show(LF.td.set a ((j:Int)+1)).at a=_;rw[E8.set_at _ Z,if_pos rfl];rfl);clear ai;go_wp2;go_roundw;case rel=>exact⟨j+1,bw,{X with rows:=X.rows.set E (bx,bf)},Lk,by omega,ae.o,af.o,aJ.o,aI.o,a'.o,⟨ax.o.2.trans KJ.o.1,ax.o.1.trans KJ.o.2⟩,aH.o⟩
        case measure=>have h1:=af.o.box.box.c (11+a) _ (jK Z);rw[ae.o]at h1;have h4:=aP.o;unfold jZ at h4;simp only[jZ,h1];rw[h4];omega
       .have g2:(t==1)=false:=by simpa using aX
        have av:Hid (LS=LF):=hI (by
         have:=a6.o;unfold pB at this;rw[if_neg (by simp only[g1,g2];simp)]at this
         exact Option.some.inj this)
        clear aX;rw[av.o]at m Y;go_upto_region 7 with fail;clear d3 d4;obtain⟨W,V⟩:∃W,W=aE.drew:=⟨_,rfl⟩;have U:Hid (db aE W):=hI (by rw[V];exact db.drew aE);replace m:=hI (m.o.ext U.o);replace S:=hI (S.o.ext U.o);replace R:=hI (R.o.ext U.o);have aK:∀d os,(grow (redrawn W d) os).cell? ⟨D,11+a,none⟩=some (.int .i64 (j:Int)):=rg W (by rw[<-Y.o];exact m.o.box.box.c (11+a) _ (jK Z));refine eA [0,1,2,3,4,5,6,7,8,9] [10] ?_;rw[<-V];clear V;repeat((first|refine dC fun K f=>?_|refine dB fun K f=>?_);go_big_quiet_op;refine f _ ?_;clear f K)
        refine dh ?_;have am:W.cell? ⟨D,11+a,none⟩=some (.int .i64 (j:Int)):=by rw[<-Y.o];exact m.o.box.box.c (11+a) _ (jK Z)
        have fz:=m.o.box.box.f (11+a);have aM:wrap64 ((j:Int)+1)=(j:Int)+1:=by unfold wrap64;omega
        refine iD fun K f=>?_;go_simp;obtain⟨ap,ar⟩:=m.o.put (r.o.cl.ext U.o) (11+a) (.int .i64 ((j:Int)+1)) (qm Z) (fun q=>⟨q.wr,q.nn,q.fo,q.fl,q.fi,q.so,q.vo,q.co,q.mx⟩);have af:=hI ap;have aJ:=hI (S.o.fr ((Fm.put (C:=one 300) (r.o.cl.ext U.o) m.o.box (by decide) rfl (11+a) (.int .i64 ((j:Int)+1)))) (by unfold one;omega));have aI:=hI (R.o.fr (by omega) ((Fm.put (C:=one 300) (r.o.cl.ext U.o) m.o.box (by decide) rfl (11+a) (.int .i64 ((j:Int)+1)))) (by unfold one;omega) (fun d hd=>by unfold one at hd;unfold rD;omega));have aH:=hI ((r.o.tr (Fm.ext r.o.cl U.o) gF).tr ar gF);clear ap ar am fz aM aK U m S R r;refine f _ _ ?_;clear f K;refine df ?_;generalize W.setCell ⟨D,11+a,none⟩ (.int .i64 ((j:Int)+1))=cu at*;have ai:({LF with td:=LF.td.set a ((j:Int)+1)}:dU)=Lk:=by rw[<-a7.o,Y.o]
        rw[ai]at af;have ae:Hid (Lk.td.at a=((j+1:Nat):Int)):=hI (by rw[<-ai];show(LF.td.set a ((j:Int)+1)).at a=_;rw[E8.set_at _ Z,if_pos rfl];rfl);clear ai;go_wp2;go_roundw;case rel=>exact⟨j+1,cR,{l with sp:=aD,sc:=aB},Lk,by omega,ae.o,af.o,aJ.o,aI.o,a'.o,⟨ax.o.2.trans KJ.o.1,ax.o.1.trans KJ.o.2⟩,aH.o⟩
        case measure=>have h1:=af.o.box.box.c (11+a) _ (jK Z);rw[ae.o]at h1;have h4:=aP.o;unfold jZ at h4;simp only[jZ,h1];rw[h4];omega
     .have e4:=dF ((j:Int)<(s.T.length:Int))
      have ag:Hid (O=M):=hI (by
       have:=FJ.o;rw[List.drop_of_length_le (by omega)]at this
       exact Option.some.inj this)
      rw[ag.o]at m KJ;clear ag FJ Y aP;go_wp2_with fail;refine(mg R.o).mono ?_;have ac:=bd.o;unfold vQ at ac;cases aV:eC s
      .rw[if_neg (by rw[aV];simp)]at ac;have aG:=hI (Option.some.inj ac);rintro e w9 ⟨rfl,x9⟩;have T:=hI (m.o.ext x9);have M9:=hI (r.o.tr (Fm.ext r.o.cl x9) gF);rw[aG.o]at T;clear ac x9 aV m r S R bd;go_wp2;go_roundw;case rel=>exact⟨a+1,oj,l,Lb,by omega,by omega,by go_num,T.o,a9.o,a8.o,M9.o⟩
       case measure=>simp[intOf];omega
      .rw[if_pos (by rw[aV])]at ac;have cE:=hI ac;rintro e w9 ⟨rfl,x9⟩;have T:=hI (m.o.ext x9);have M9:=hI (r.o.tr (Fm.ext r.o.cl x9) gF);clear ac x9 aV m r S R bd;have b1:w9.cell? ⟨D,20,none⟩=some (.slice l.vp M.vs.length l.vc):=T.o.box.box.c 20 _ rfl;have c6:M.vs.length<=100000:=T.o.q.mx.2.2.1;go_wp2;go_loopw [9,10] (fun v i wx=>wx=w9/\∃k:Nat,k<=M.vs.length/\i=.int .i64 (k:Int)/\v=.bool ((M.vs.take k).any fun x=>x.1==s.ls&&x.2.1==s.mb)) (fun _ i _=>M.vs.length-(intOf i).toNat);case atStart=>exact⟨rfl,0,by omega,rfl,rfl⟩
       case round=>
        obtain⟨rfl,k,hk,rfl,rfl⟩:=hrel;by_cases bq:k<M.vs.length
        .have e5:=dT ((k:Int)<(M.vs.length:Int));obtain⟨vb,c7,vx,ck,bu,v0,v1,v2⟩:=zA T.o.q.vo.row.sl k bq;have ci:(M.vs.take (k+1)).any (fun x=>x.1==s.ls&&x.2.1==s.mb)=((M.vs.take k).any (fun x=>x.1==s.ls&&x.2.1==s.mb)||(vx.1==s.ls&&vx.2.1==s.mb)):=by rw[List.take_succ_eq_append_getElem bq];rw[List.getElem?_eq_getElem bq]at bu;rw[Option.some.inj bu];simp
         have aS:=hI ci;rw[ck]at b1;obtain⟨y1,y2,y3⟩:=vx;simp only at v0 v1 v2;obtain⟨bb,bj⟩:∃bb,bb=(M.vs.take k).any (fun x=>x.1==s.ls&&x.2.1==s.mb):=⟨_,rfl⟩;have aO:=hI bj;rw[<-bj];clear bj bu ci ck;cases bb
         .by_cases h1:y1=s.ls
          .have g1:(y1==s.ls)=true:=by simpa using h1
           by_cases h2:y2=s.mb
           .have g2:(y2==s.mb)=true:=by simpa using h2
            clear h1 h2;go_wp2;go_roundw;case rel=>exact⟨by first|trivial|rfl,k+1,by omega,by go_num,by rw[aS.o,<-aO.o,g1,g2];rfl⟩
            case measure=>simp[intOf];omega
           .have g2:(y2==s.mb)=false:=by simpa using h2
            clear h1 h2;go_wp2;go_roundw;case rel=>exact⟨by first|trivial|rfl,k+1,by omega,by go_num,by rw[aS.o,<-aO.o,g1,g2];rfl⟩
            case measure=>simp[intOf];omega
          .have g1:(y1==s.ls)=false:=by simpa using h1
           clear h1;go_wp2;go_roundw;case rel=>exact⟨by first|trivial|rfl,k+1,by omega,by go_num,by rw[aS.o,<-aO.o,g1];rfl⟩
           case measure=>simp[intOf];omega
         .go_wp2;go_roundw;case rel=>exact⟨by first|trivial|rfl,k+1,by omega,by go_num,by rw[aS.o,<-aO.o];rfl⟩
          case measure=>simp[intOf];omega
        .have e5:=dF ((k:Int)<(M.vs.length:Int))
         have ba:Hid ((M.vs.take k).any (fun x=>x.1==s.ls&&x.2.1==s.mb)=wu M s):=hI (by
          rw[List.take_of_length_le (by omega)]
          rfl)
         rw[ba.o];have ac:=cE.o;cases aY:wu M s
         .rw[if_neg (by rw[aY];simp)]at ac;split at ac;case isFalse=>cases ac
          rename_i cj;have bP:=hI (of_decide_eq_true cj);have aG:=hI (Option.some.inj ac);clear ac cj aY ba;go_upto_region 21 with fail;clear b1 e5;obtain⟨az,V⟩:∃az,az=wr.drew:=⟨_,rfl⟩;have be:Hid (db wr az):=hI (by rw[V];exact db.drew wr);replace T:=hI (T.o.ext be.o);have cU:=fun(n:dN (CL [(⟨D,20,none⟩,.slice l.vp M.vs.length l.vc),(⟨D,0,none⟩,de l.wb)]))=>(n.h.1:n.w.cell? ⟨D,20,none⟩=some (.slice l.vp M.vs.length l.vc));have r0:=fun(n:dN (CL [(⟨D,20,none⟩,.slice l.vp M.vs.length l.vc),(⟨D,0,none⟩,de l.wb)]))=>(n.h.2.1:n.w.cell? ⟨D,0,none⟩=some (de l.wb));refine Hn [0,1,2,3,4,5,6,7,8,9,10,11,12,13,14,15,16] 17 (CL [(⟨D,20,none⟩,.slice l.vp M.vs.length l.vc),(⟨D,0,none⟩,de l.wb)]) (by rw[<-V];exact⟨T.o.box.box.c 20 _ rfl,T.o.box.box.c 0 _ rfl,trivial⟩) (fun _=>?_);rw[<-V];clear V;repeat((first|refine lj fun K f=>?_;go_big_quiet_op|refine iK fun K f=>?_;go_big_quiet_op|refine lC fun K f=>?_;go_big_quiet_op);refine f _ ?_;clear f K)
          replace M9:=hI (M9.o.tr (Fm.ext M9.o.cl be.o) gF);clear be;refine ki fun K f=>?_;go_simp;refine(pc T.o.q.wr).mono ?_;rintro e c8 ⟨rfl,rfl⟩;refine f (CL [(⟨D,20,none⟩,.slice l.vp M.vs.length l.vc),(⟨D,0,none⟩,de l.wb)]) _ _ (fun _ h=>h) ⟨T.o.box.box.c 20 _ rfl,T.o.box.box.c 0 _ rfl,trivial⟩ (fun _=>?_);clear f K;repeat((first|refine lj fun K f=>?_;go_big_quiet_op|refine iK fun K f=>?_;go_big_quiet_op|refine lC fun K f=>?_;go_big_quiet_op);refine f _ ?_;clear f K)
          refine ki fun K f=>?_;go_simp;refine f (CL [(⟨D,20,none⟩,.slice l.vp M.vs.length l.vc),(⟨D,0,none⟩,de l.wb)]) _ _ (fun _ h=>h) ⟨T.o.box.box.c 20 _ rfl,T.o.box.box.c 0 _ rfl,trivial⟩ (fun _=>?_);clear f K;repeat((first|refine lj fun K f=>?_;go_big_quiet_op|refine iK fun K f=>?_;go_big_quiet_op|refine lC fun K f=>?_;go_big_quiet_op);refine f _ ?_;clear f K)
          refine ki fun K f=>?_;go_simp;have ab:=hI (db.alloc az (.cells #[.int .i64 s.ls,.int .i64 s.mb,.int .i64 M.W.rl] 104));replace T:=hI (T.o.ext ab.o);replace M9:=hI (M9.o.tr (Fm.ext M9.o.cl ab.o) gF);refine f (CL [(⟨D,20,none⟩,.slice l.vp M.vs.length l.vc),(⟨D,0,none⟩,de l.wb)]) _ _ (fun _ h=>h) ⟨T.o.box.box.c 20 _ rfl,T.o.box.box.c 0 _ rfl,trivial⟩ (fun _=>?_);clear f K;repeat((first|refine lj fun K f=>?_;go_big_quiet_op|refine iK fun K f=>?_;go_big_quiet_op|refine lC fun K f=>?_;go_big_quiet_op);refine f _ ?_;clear f K)
          have aL:M.vs.length<=1000000:=by have:=bP.o;omega
          refine ki fun K f=>?_;refine js (by rfl) _ _ _ (by rfl) 104 3 24 _ Tryz.underlying42 Hp (by rfl) (by omega) M9.o.cl T.o.q.vo (by rfl) az.heap.size 1 [.int .i64 s.ls,.int .i64 s.mb,.int .i64 M.W.rl] (by rfl) (by rfl) (fun j u hu=>gd (w:=az) rfl j u hu) (by simp[Value.oneCell']) aL (by omega) (by decide) (fun d=>d=303) rfl ?_;intro aZ aT cS cW cs aU;have aF:=hI (T.o.box.fr aU (by decide) (by omega));have cI:=aF.o.box.c 20 _ rfl;have cK:=aF.o.box.f 20;have b2:(M.vs++[(s.ls,s.mb,M.W.rl)]).length=M.vs.length+1:=by simp
          obtain⟨bi,co⟩:=T.o.app (A':={l with vp:=aZ,vc:=aT}) (L':={M with vs:=M.vs++[(s.ls,s.mb,M.W.rl)]}) ⟨by decide,by decide⟩ aU (T.o.q.inst aU (x:=(s.ls,s.mb,M.W.rl)) cs bP.o) 20 (.slice aZ (M.vs.length+1) aT) (by rw[<-b2];rfl);rw[aG.o]at bi;have cv:=hI bi;have cG:=hI (M9.o.tr co gF);refine f (CL [(⟨D,20,none⟩,.slice l.vp M.vs.length l.vc),(⟨D,0,none⟩,de l.wb)]) _ _ (fun _ h=>h) ⟨aF.o.box.c 20 _ rfl,aF.o.box.c 0 _ rfl,trivial⟩ (fun _=>?_);clear f K;go_simp;repeat((first|refine lj fun K f=>?_;go_big_quiet_op|refine iK fun K f=>?_;go_big_quiet_op|refine lC fun K f=>?_;go_big_quiet_op);refine f _ ?_;clear f K)
          refine sJ fun K f=>?_;go_simp;refine f _ _ ?_;clear f K cI cK bi co cs aU T M9 aF cU r0 ab b2;generalize cW.setCell ⟨D,20,none⟩ (.slice aZ (M.vs.length+1) aT)=c9 at*;go_wp2;go_roundw;case rel=>exact⟨a+1,cS,{l with vp:=aZ,vc:=aT},Lb,by omega,by omega,by go_num,cv.o,a9.o,a8.o,cG.o⟩
          case measure=>simp[intOf];omega
         .rw[if_pos (by rw[aY])]at ac;have aG:=hI (Option.some.inj ac);clear ac aY ba;rw[aG.o]at T;go_wp2;go_roundw;case rel=>exact⟨a+1,oj,l,Lb,by omega,by omega,by go_num,T.o,a9.o,a8.o,M9.o⟩
          case measure=>simp[intOf];omega
  .have e3:=dF ((a:Int)<=(L.n:Int))
   have cF:Hid (La=L'):=hI (by
    have:=a4.o;rw[show L.n+1-a=0 by omega]at this
    exact Option.some.inj this)
   rw[cF.o]at HA;go_wp2;refine bodyPost_end (v:=.tuple #[]) (by simp[results,Tryz.results46,go_sem]) rfl ?_;first|exact⟨rfl,oa,Aa,HA.o,MA.o⟩|exact⟨rfl,oa,⟨Aa,HA.o⟩,MA.o⟩
end
end Go.Proofs.YtjhbmbbmjaabcaaGreat
