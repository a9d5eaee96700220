/-
  Contracts. Conditions stand at each.
-/
import Derived.Test.YtjhbmbbmjaabcaaGreatS28
set_option linter.all false
set_option maxRecDepth 8000
set_option maxHeartbeats 8000000
namespace Go.Proofs.YtjhbmbbmjaabcaaGreat
open Go Go.Sort Go.RowKit
section
variable{f:Nat->Nat->Bool} {x:Int×Int×Int} {i:Nat}
def lM(n:Nat)(f:Nat->Nat->Bool):Bool:=(List.range n).all fun i=>(List.range i).all fun k=>f i k
theorem mh{n:Nat}(h:lM n f=true){k:Nat}(a:i<n)(b:k<i):f i k=true:=by unfold lM at h;rw[List.all_eq_true]at h;have h1:=h i (List.mem_range.2 a);rw[List.all_eq_true]at h1;exact h1 k (List.mem_range.2 b)
def uy(a b:List dj):Bool:=ut (a.take (min a.length b.length)) (b.take (min a.length b.length))
def Ke(L:dU)(i k:Nat):Bool:=match L.fm[i]?,L.fm[k]? with
 |some a,some b=>uy a b
 |_,_=>false
def Kg(L:dU)(i k:Nat):Bool:=match L.vs[i]?,L.vs[k]? with
 |some x,some y=> !(x.1==y.1)
 |_,_=>false
def zF(x y:dp):Bool:=decide (x.cm<=(x.L.length:Int)/\y.cm<=(y.L.length:Int))&&ut (x.L.take (min x.cm.toNat y.cm.toNat)) (y.L.take (min x.cm.toNat y.cm.toNat))
def Kf(L:dU)(a b:Nat):Bool:=b==0||match L.W.sl[a-1]?,L.W.sl[b-1]? with
 |some (.up x),some (.up y)=>zF x y
 |_,_=>true
def gB(L:dU):Bool:=lM L.fm.length (Ke L)&&(L.vs.all fun x=>decide (0<=x.2.1/\x.2.1<128)&&dX x.2.1 (L.n:Int))&&lM L.vs.length (Kg L)&&lM (L.n+1) (Kf L)
theorem xA{L:dU}(h:gB L=true){k:Nat}{a b:List dj}(e:k<i)(c:L.fm[i]? =some a)(d:L.fm[k]? =some b):uy a b=true:=by unfold gB at h;simp only[Bool.and_eq_true]at h;have:=mh h.1.1.1 (List.getElem?_eq_some_iff.1 c).1 e;unfold Ke at this;rw[c,d]at this;exact this
theorem xB{L:dU}(h:gB L=true)(a:L.vs[i]? =some x):gS x.2.1/\dX x.2.1 (L.n:Int)=true:=by unfold gB at h;simp only[Bool.and_eq_true]at h;have:=List.all_eq_true.1 h.1.1.2 x (List.mem_of_getElem? a);simp only[Bool.and_eq_true,decide_eq_true_eq]at this;exact this
theorem xC{L:dU}(h:gB L=true){k:Nat}{y:Int×Int×Int}(b:k<i)(a:L.vs[i]? =some x)(c:L.vs[k]? =some y):(x.1==y.1)=false:=by unfold gB at h;simp only[Bool.and_eq_true]at h;have:=mh h.1.2 (List.getElem?_eq_some_iff.1 a).1 b;unfold Kg at this;rw[a,c]at this;simpa using this
theorem xD{L:dU}(h:gB L=true){a b:Nat}{x y:dp}(j:1<=b)(c:b<a)(g:a<=L.n)(d:L.W.sl[a-1]? =some (.up x))(e:L.W.sl[b-1]? =some (.up y)):zF x y=true:=by unfold gB at h;simp only[Bool.and_eq_true]at h;have:=mh h.2 (show a<L.n+1 by omega) c;unfold Kf at this;rw[d,e]at this;simpa [show(b==0)=false by simp;omega]using this
variable{w G:World} {o D:Ow} {u:Nat} {A A':my} {L L':dU}
theorem gJ.n7(h:gJ w o u A L):3<=L.n/\L.n<=7:=by have h1:=h.q.wr.hn;have h2:=h.q.nn;omega
theorem El(h:gJ w o u A L)(hs:gB L=true):
  Calls Tryz.prog 30 #[de u] w fun e B=>e=.returned (.bool true)/\db w B:=by
 have H:=hI h;have HO:=hI hs;have aY:=h.n7;have a8:L.fm.length<=80:=h.q.mx.1;have a9:L.vs.length<=100000:=h.q.mx.2.2.1;clear h hs;go_enter Tryz.func30,Tryz.ntmps30;go_wp2;go_loopw [3] (fun a C=>∃i:Nat,i<=L.fm.length/\a=.int .i64 (i:Int)/\db w C) (fun a _=>L.fm.length-(intOf a).toNat);case atStart=>exact⟨0,by omega,rfl,db.rfl' _⟩
 case round=>
  obtain⟨i,hi,rfl,q⟩:=hrel;have X:=hI q;have j:=hI (H.o.ext q);clear q;have c2:wr.cell? ⟨u,2,none⟩=some (.slice A.fp L.fm.length A.fc):=j.o.box.box.c 2 _ rfl;by_cases v:i<L.fm.length
  .have V:decide ((i:Int)<(L.fm.length:Int))=true:=decide_eq_true (by omega);have W:decide (i<L.fm.length)=true:=decide_eq_true v;have f1:(0:Int)<=(i:Int):=by omega
   have f2:(i:Int)<(L.fm.length:Int):=by omega
   go_wp2;go_loopw [4] (fun b C=>∃k:Nat,k<=i/\b=.int .i64 (k:Int)/\db w C) (fun b _=>i-(intOf b).toNat);case atStart=>exact⟨0,by omega,rfl,X.o⟩
   case round=>
    obtain⟨k,hk,rfl,q⟩:=hrel;have X:=hI q;have j:=hI (H.o.ext q);clear q c2;by_cases Y:k<i
    .have e6:decide ((k:Int)<(i:Int))=true:=decide_eq_true (by omega);have ae:decide (k<i)=true:=decide_eq_true Y;have f3:(0:Int)<=(k:Int):=by omega
     have f4:(k:Int)<(L.fm.length:Int):=by omega
     obtain⟨M,af⟩:∃l,L.fm[i]? =some l:=⟨_,List.getElem?_eq_getElem v⟩;obtain⟨N,J⟩:∃l,L.fm[k]? =some l:=⟨_,List.getElem?_eq_getElem (by omega)⟩;obtain⟨ra,aj⟩:∃r,A.rows[i]? =some r:=⟨_,List.getElem?_eq_getElem (by rw[j.o.q.fl];exact v)⟩;obtain⟨rb,ar⟩:∃r,A.rows[k]? =some r:=⟨_,List.getElem?_eq_getElem (by rw[j.o.q.fl];omega)⟩;have HE:=hI (xA HO.o Y af J);have RA:=hI (j.o.q.fi i ra M aj af);have Q:=hI (j.o.q.fi k rb N ar J);obtain⟨fb,ai,-,-,-,-,-⟩:=mo j.o.q.fo (iV _ _ _ _ _ aj af);have aA:=hI ai;have FA:∀{B:World},gJ B o u A L->B.cell? ⟨fb,i,none⟩=some (.slice ra.1 M.length ra.2):=fun h=>by obtain⟨b',h1,-,-,h2,-,-⟩:=mo h.q.fo (iV _ _ _ _ _ aj af);rw[ai]at h1;cases h1;exact h2
     have FB:∀{B:World},gJ B o u A L->B.cell? ⟨fb,k,none⟩=some (.slice rb.1 N.length rb.2):=fun h=>by obtain⟨b',h1,-,-,h2,-,-⟩:=mo h.q.fo (iV _ _ _ _ _ ar J);rw[ai]at h1;cases h1;exact h2
     have GA:=hI (fun(B:World) (h:gJ B o u A L)=>FA h);have GB:=hI (fun(B:World) (h:gJ B o u A L)=>FB h);have a':M.length<=ra.2:=RA.o.row.sl.le;have ba:N.length<=rb.2:=Q.o.row.sl.le;clear FA FB af J aj ar ai;obtain⟨aZ,a0⟩:=ra;obtain⟨a1,a2⟩:=rb;obtain⟨p,Z⟩:∃p,p=min M.length N.length:=⟨_,rfl⟩;have aR:=hI Z;have aH:=uP (P:=Tryz.prog) M.length N.length p Z;have ag:p<=M.length/\p<=N.length:=by omega
     clear Z;have aS:=jA aZ M.length a0 p (by omega);have gX:=jA a1 N.length a2 p (by omega);go_upto_region 7 with fail;obtain⟨z,n⟩:∃z,z=wr.drew:=⟨_,rfl⟩;have X7:Hid (db wr z):=hI (by rw[n];exact db.drew wr);replace j:=hI (j.o.ext X7.o);have g2:∀d m,(grow (redrawn z d) m).cell? ⟨u,2,none⟩=some (.slice (some ⟨fb,0,none⟩) L.fm.length A.fc):=fun d m=>db.cell (db.reg z d m) (by have:=j.o.box.box.c 2 _ rfl;rw[aA.o]at this;exact this);have ga:=fun d m=>db.cell (db.reg z d m) (GA.o z j.o);have gb:=fun d m=>db.cell (db.reg z d m) (GB.o z j.o);refine eA [0,1,2,3,4,5,6,7,8,9,10,11,12,13,14,15,16,17] [] ?_;rw[<-n];clear n;repeat((first|refine dC fun K g=>?_|refine dB fun K g=>?_);go_big_quiet_op;refine g _ ?_;clear g K)
     refine dh ?_;refine df ?_;replace RA:=hI (RA.o.ext X7.o);replace Q:=hI (Q.o.ext X7.o);replace X:=hI (X.o.tr X7.o);clear X7 g2 ga gb;go_upto_region 8 with fail;obtain⟨I,n⟩:∃I,I=z.drew:=⟨_,rfl⟩;have X8:Hid (db z I):=hI (by rw[n];exact db.drew z);replace j:=hI (j.o.ext X8.o);replace RA:=hI (RA.o.ext X8.o);replace Q:=hI (Q.o.ext X8.o);have g2:∀d m,(grow (redrawn I d) m).cell? ⟨u,2,none⟩=some (.slice (some ⟨fb,0,none⟩) L.fm.length A.fc):=fun d m=>db.cell (db.reg I d m) (by have:=j.o.box.box.c 2 _ rfl;rw[aA.o]at this;exact this);have ga:=fun d m=>db.cell (db.reg I d m) (GA.o I j.o);have gb:=fun d m=>db.cell (db.reg I d m) (GB.o I j.o);refine eA [0,1,2,3,4,5,6,7,8,9,10,11,12,13,14,15,16,17,18,19] [] ?_;rw[<-n];clear n;repeat((first|refine dC fun K g=>?_|refine dB fun K g=>?_);go_big_quiet_op;refine g _ ?_;clear g K)
     have R:=RA.o.row.sl.take p ag.1;have S:=Q.o.row.sl.take p ag.2;rw[<-List.map_take]at R S;refine eF fun K g=>?_;go_simp;refine(tg R S).mono ?_;have aG:ut (M.take p) (N.take p)=true:=by rw[aR.o];exact HE.o
     rw[aG];rintro e E ⟨rfl,x9⟩;have XE:=hI ((X.o.tr X8.o).tr x9);refine g _ _ x9 ?_;clear g K R S aG x9 X X8 j RA Q g2 ga gb;repeat((first|refine dC fun K g=>?_|refine dB fun K g=>?_);go_big_quiet_op;refine g _ ?_;clear g K)
     refine dh ?_;refine df ?_;go_wp2;go_roundw;case rel=>exact⟨k+1,by omega,by go_num,XE.o⟩
     case measure=>simp[intOf];omega
    .have e6:decide ((k:Int)<(i:Int))=false:=decide_eq_false (by omega);have ae:decide (k<i)=false:=decide_eq_false Y;go_wp2;go_roundw;case rel=>exact⟨i+1,by omega,by go_num,X.o⟩
     case measure=>simp[intOf];omega
  .have V:decide ((i:Int)<(L.fm.length:Int))=false:=decide_eq_false (by omega);have W:decide (i<L.fm.length)=false:=decide_eq_false v;clear hi v;go_wp2;clear V W c2 j;go_loopw [6] (fun a C=>∃i:Nat,i<=L.vs.length/\a=.int .i64 (i:Int)/\db w C) (fun a _=>L.vs.length-(intOf a).toNat);case atStart=>exact⟨0,by omega,rfl,X.o⟩
   case round=>
    clear X;obtain⟨i,hi,rfl,q⟩:=hrel;have X:=hI q;have j:=hI (H.o.ext q);clear q;have c6:wr.cell? ⟨u,20,none⟩=some (.slice A.vp L.vs.length A.vc):=j.o.box.box.c 20 _ rfl;by_cases v:i<L.vs.length
    .have V:decide ((i:Int)<(L.vs.length:Int))=true:=decide_eq_true (by omega);have W:decide (i<L.vs.length)=true:=decide_eq_true v;have f1:(0:Int)<=(i:Int):=by omega
     have f2:(i:Int)<(L.vs.length:Int):=by omega
     obtain⟨vb,a3,vx,au,av,v0,v1,v2⟩:=zA j.o.q.vo.row.sl i v;have aE:=hI au;have aF:=hI av;have aD:=hI (xB HO.o av);obtain⟨y1,y2,y3⟩:=vx;simp only at v0 v1 v2;rw[au]at c6;clear au av;go_upto_region 13 with fail;obtain⟨T,n⟩:∃T,T=wr.drew:=⟨_,rfl⟩;have ac:Hid (db wr T):=hI (by rw[n];exact db.drew wr);replace j:=hI (j.o.ext ac.o);have g6:=fun d m=>db.cell (db.reg T d m) (db.cell ac.o c6);have aW:=fun d m=>db.cell (db.reg T d m) (db.cell ac.o v1);have g1:=fun d m=>db.cell (db.reg T d m) (j.o.box.box.c 1 _ rfl);refine eA [0,1,2,3,4,5,6,7,8,9,10,11,12,13] [] ?_;rw[<-n];clear n;repeat((first|refine dC fun K g=>?_|refine dB fun K g=>?_);go_big_quiet_op;refine g _ ?_;clear g K)
     refine eF fun K g=>?_;go_simp;refine(si y2 L.n aD.o.1 aY T).mono ?_;rw[aD.o.2];rintro e bg ⟨rfl,ay⟩;have XE:=hI ((X.o.tr ac.o).tr ay);refine g _ _ ay ?_;clear g K ay ac X g6 aW g1 j v0 v1 v2 c6;repeat((first|refine dC fun K g=>?_|refine dB fun K g=>?_);go_big_quiet_op;refine g _ ?_;clear g K)
     refine dh ?_;refine df ?_;go_wp2;go_loopw [7] (fun b C=>∃k:Nat,k<=i/\b=.int .i64 (k:Int)/\db w C) (fun b _=>i-(intOf b).toNat);case atStart=>exact⟨0,by omega,rfl,XE.o⟩
     case round=>
      clear XE;obtain⟨k,hk,rfl,q⟩:=hrel;have X:=hI q;have j:=hI (H.o.ext q);clear q;by_cases Y:k<i
      .have e6:decide ((k:Int)<(i:Int))=true:=decide_eq_true (by omega);have ae:decide (k<i)=true:=decide_eq_true Y;have f3:(0:Int)<=(k:Int):=by omega
       have f4:(k:Int)<(L.vs.length:Int):=by omega
       obtain⟨bb,bd,aO,aK,aM,u0,u1,u2⟩:=zA j.o.q.vo.row.sl k (by omega);obtain⟨bc,be,bf,aL,aN,t0,t1,t2⟩:=zA j.o.q.vo.row.sl i v;rw[aE.o]at aK aL;cases aK;cases aL;rw[aF.o]at aN;cases aN;have aT:(y1==aO.1)=false:=xC HO.o Y aF.o aM;obtain⟨z1,z2,z3⟩:=aO;simp only at u0 u1 u2 t0 t1 t2 aT;clear aM;go_upto_region 18 with fail;obtain⟨U,n⟩:∃U,U=wr.drew:=⟨_,rfl⟩;have ad:Hid (db wr U):=hI (by rw[n];exact db.drew wr);replace j:=hI (j.o.ext ad.o);have g6:∀d m,(grow (redrawn U d) m).cell? ⟨u,20,none⟩=some (.slice (some ⟨vb,a3,none⟩) L.vs.length A.vc):=fun d m=>db.cell (db.reg U d m) (by have:=j.o.box.box.c 20 _ rfl;rw[aE.o]at this;exact this);have aU:=fun d m=>db.cell (db.reg U d m) (db.cell ad.o t0);have aV:=fun d m=>db.cell (db.reg U d m) (db.cell ad.o u0);refine eA [0,1,2,3,4,5,6,7,8,9,10,11,12,13,14,15,16] [] ?_;rw[<-n];clear n;repeat((first|refine dC fun K g=>?_|refine dB fun K g=>?_);go_big_quiet_op;refine g _ ?_;clear g K)
       refine dh ?_;refine df ?_;have XE:=hI (X.o.tr ad.o);clear ad X g6 aU aV j u0 u1 u2 t0 t1 t2;go_wp2;go_roundw;case rel=>exact⟨k+1,by omega,by go_num,XE.o⟩
       case measure=>simp[intOf];omega
      .have e6:decide ((k:Int)<(i:Int))=false:=decide_eq_false (by omega);have ae:decide (k<i)=false:=decide_eq_false Y;go_wp2;go_roundw;case rel=>exact⟨i+1,by omega,by go_num,X.o⟩
       case measure=>simp[intOf];omega
    .have V:decide ((i:Int)<(L.vs.length:Int))=false:=decide_eq_false (by omega);have W:decide (i<L.vs.length)=false:=decide_eq_false v;clear hi v;go_wp2;clear V W c6 j;go_loopw [8] (fun a C=>∃i:Nat,1<=i/\i<=L.n+1/\a=.int .i64 (i:Int)/\db w C) (fun a _=>L.n+1-(intOf a).toNat);case atStart=>exact⟨1,by omega,by omega,rfl,X.o⟩
     case round=>
      clear X;obtain⟨a,a5,a6,rfl,q⟩:=hrel;have X:=hI q;have j:=hI (H.o.ext q);clear q;have c1:wr.cell? ⟨u,1,none⟩=some (.int .i64 (L.n:Int)):=j.o.box.box.c 1 _ rfl;by_cases v:a<=L.n
      .have V:decide ((a:Int)<=(L.n:Int))=true:=decide_eq_true (by omega);have W:decide (a<=L.n)=true:=decide_eq_true v;have f1:(0:Int)<=(a:Int):=by omega
       have f2:(a:Int)<8:=by omega
       go_wp2;go_loopw [9] (fun b C=>∃k:Nat,1<=k/\k<=a/\b=.int .i64 (k:Int)/\db w C) (fun b _=>a-(intOf b).toNat);case atStart=>exact⟨1,by omega,by omega,rfl,X.o⟩
       case round=>
        clear X c1;obtain⟨b,aX,a7,rfl,q⟩:=hrel;have X:=hI q;have j:=hI (H.o.ext q);clear q;by_cases J:b<a
        .have e6:decide ((b:Int)<(a:Int))=true:=decide_eq_true (by omega);have ae:decide (b<a)=true:=decide_eq_true J;have f3:(0:Int)<=(b:Int):=by omega
         have f4:(b:Int)<8:=by omega
         have HI:Hid (1<=a/\a<=L.W.n):=hI (by rw[j.o.q.nn];omega);have HJ:Hid (1<=b/\b<=L.W.n):=hI (by rw[j.o.q.nn];omega);have aQ:=hI J;have aP:=hI v;obtain⟨sa,aI,-⟩:=j.o.q.wr.sl a HI.o.1 HI.o.2;obtain⟨sb,aJ,-⟩:=j.o.q.wr.sl b HJ.o.1 HJ.o.2;have aa:=hI aI;have ab:=hI aJ;clear aI aJ;go_upto_region 26 with fail;cases sa with
         |dn bt dv=>
          cases sb with
          |dn bt2 a4=>
           obtain⟨s,n⟩:∃s,s=wr.drew:=⟨_,rfl⟩;have t:Hid (db wr s):=hI (by rw[n];exact db.drew wr);replace j:=hI (j.o.ext t.o);have g0:=fun d m=>db.cell (db.reg s d m) (j.o.box.box.c 0 _ rfl);refine eA [0,1,2,3,4,6,7,8,9,10,5,11,12,13] [] ?_;rw[<-n];clear n;repeat((first|refine dC fun K g=>?_|refine dB fun K g=>?_);go_big_quiet_op;refine g _ ?_;clear g K)
           refine eF fun K g=>?_;go_simp;refine(jR j.o.q.wr HI.o aa.o).mono ?_;rintro e E ⟨rfl,rfl⟩;refine g _ _ (db.rfl' _) ?_;clear g K;repeat((first|refine dC fun K g=>?_|refine dB fun K g=>?_);go_big_quiet_op;refine g _ ?_;clear g K)
           refine eF fun K g=>?_;go_simp;refine(jR j.o.q.wr HJ.o ab.o).mono ?_;rintro e E ⟨rfl,rfl⟩;refine g _ _ (db.rfl' _) ?_;clear g K;repeat((first|refine dC fun K g=>?_|refine dB fun K g=>?_);go_big_quiet_op;refine g _ ?_;clear g K)
           refine dh ?_;refine df ?_;replace X:=hI (X.o.tr t.o);clear t g0;go_wp2;go_roundw;case rel=>exact⟨b+1,by omega,by omega,by go_num,X.o⟩
           case measure=>simp[intOf];omega
          |up y=>
           obtain⟨s,n⟩:∃s,s=wr.drew:=⟨_,rfl⟩;have t:Hid (db wr s):=hI (by rw[n];exact db.drew wr);replace j:=hI (j.o.ext t.o);have g0:=fun d m=>db.cell (db.reg s d m) (j.o.box.box.c 0 _ rfl);refine eA [0,1,2,3,4,6,7,8,9,10,5,11,12,13] [] ?_;rw[<-n];clear n;repeat((first|refine dC fun K g=>?_|refine dB fun K g=>?_);go_big_quiet_op;refine g _ ?_;clear g K)
           refine eF fun K g=>?_;go_simp;refine(jR j.o.q.wr HI.o aa.o).mono ?_;rintro e E ⟨rfl,rfl⟩;refine g _ _ (db.rfl' _) ?_;clear g K;repeat((first|refine dC fun K g=>?_|refine dB fun K g=>?_);go_big_quiet_op;refine g _ ?_;clear g K)
           refine eF fun K g=>?_;go_simp;refine(eu j.o.q.wr HJ.o ab.o).mono ?_;rintro e E ⟨xb,cb,AB,rfl,-,-,nb,-,-,-,rfl⟩;have F:=hI nb;clear nb;refine g _ _ (db.rfl' _) ?_;clear g K;repeat((first|refine dC fun K g=>?_|refine dB fun K g=>?_);go_big_quiet_op;refine g _ ?_;clear g K)
           refine dh ?_;refine df ?_;replace X:=hI (X.o.tr t.o);clear t g0;go_wp2;go_roundw;case rel=>exact⟨b+1,by omega,by omega,by go_num,X.o⟩
           case measure=>simp[intOf];omega
         |up x=>
          cases sb with
          |dn bt dv=>
           obtain⟨s,n⟩:∃s,s=wr.drew:=⟨_,rfl⟩;have t:Hid (db wr s):=hI (by rw[n];exact db.drew wr);replace j:=hI (j.o.ext t.o);have g0:=fun d m=>db.cell (db.reg s d m) (j.o.box.box.c 0 _ rfl);refine eA [0,1,2,3,4,6,7,8,9,10,5,11,12,13] [] ?_;rw[<-n];clear n;repeat((first|refine dC fun K g=>?_|refine dB fun K g=>?_);go_big_quiet_op;refine g _ ?_;clear g K)
           refine eF fun K g=>?_;go_simp;refine(eu j.o.q.wr HI.o aa.o).mono ?_;rintro e E ⟨xa,ca,AA,rfl,-,-,na,-,-,-,rfl⟩;have O:=hI na;clear na;refine g _ _ (db.rfl' _) ?_;clear g K;repeat((first|refine dC fun K g=>?_|refine dB fun K g=>?_);go_big_quiet_op;refine g _ ?_;clear g K)
           refine eF fun K g=>?_;go_simp;refine(jR j.o.q.wr HJ.o ab.o).mono ?_;rintro e E ⟨rfl,rfl⟩;refine g _ _ (db.rfl' _) ?_;clear g K;repeat((first|refine dC fun K g=>?_|refine dB fun K g=>?_);go_big_quiet_op;refine g _ ?_;clear g K)
           refine dh ?_;refine df ?_;replace X:=hI (X.o.tr t.o);clear t g0;go_wp2;go_roundw;case rel=>exact⟨b+1,by omega,by omega,by go_num,X.o⟩
           case measure=>simp[intOf];omega
          |up y=>
           obtain⟨s,n⟩:∃s,s=wr.drew:=⟨_,rfl⟩;have t:Hid (db wr s):=hI (by rw[n];exact db.drew wr);replace j:=hI (j.o.ext t.o);have g0:=fun d m=>db.cell (db.reg s d m) (j.o.box.box.c 0 _ rfl);refine eA [0,1,2,3,4,6,7,8,9,10,5,11,12,13] [] ?_;rw[<-n];clear n;repeat((first|refine dC fun K g=>?_|refine dB fun K g=>?_);go_big_quiet_op;refine g _ ?_;clear g K)
           refine eF fun K g=>?_;go_simp;refine(eu j.o.q.wr HI.o aa.o).mono ?_;rintro e E ⟨xa,ca,AA,rfl,-,-,na,-,-,-,rfl⟩;have O:=hI na;clear na;refine g _ _ (db.rfl' _) ?_;clear g K;repeat((first|refine dC fun K g=>?_|refine dB fun K g=>?_);go_big_quiet_op;refine g _ ?_;clear g K)
           refine eF fun K g=>?_;go_simp;refine(eu j.o.q.wr HJ.o ab.o).mono ?_;rintro e E ⟨xb,cb,AB,rfl,-,-,nb,-,-,-,rfl⟩;have F:=hI nb;clear nb;refine g _ _ (db.rfl' _) ?_;clear g K;repeat((first|refine dC fun K g=>?_|refine dB fun K g=>?_);go_big_quiet_op;refine g _ ?_;clear g K)
           refine dh ?_;refine df ?_;replace X:=hI (X.o.tr t.o);clear t g0;have aC:=hI (xD HO.o aX aQ.o aP.o aa.o ab.o);obtain⟨an,ap⟩:∃c:Nat,x.cm=(c:Int):=⟨x.cm.toNat,by have:=O.o.ok.cm;omega⟩;obtain⟨ao,aq⟩:∃c:Nat,y.cm=(c:Int):=⟨y.cm.toNat,by have:=F.o.ok.cm;omega⟩;obtain⟨p,Z⟩:∃p,p=min an ao:=⟨_,rfl⟩
           have aB:Hid (an<=x.L.length/\ao<=y.L.length/\ut (x.L.take p) (y.L.take p)=true):=hI (by
            have h:=aC.o;unfold zF at h;rw[ap,aq]at h;simp only[Int.toNat_natCast,Bool.and_eq_true,decide_eq_true_eq]at h;rw[Z]
            exact⟨by omega,by omega,h.2⟩)
           have CA:=hI (pD O.o);have CB:=hI (pD F.o);rw[ap]at CA;rw[aq]at CB;have aH:=uP (P:=Tryz.prog) an ao p Z;have ag:p<=x.L.length/\p<=y.L.length:=by have:=aB.o;omega
           clear aC ap aq Z;go_wp2_with fail;refine CA.o.mono ?_;rintro e E ⟨rfl,rfl⟩;go_wp2_with fail;refine CB.o.mono ?_;rintro e E ⟨rfl,rfl⟩;clear CA CB;go_upto_region 29 with fail;clear aH;obtain⟨am,n⟩:∃am,am=s.drew:=⟨_,rfl⟩;have ah:Hid (db s am):=hI (by rw[n];exact db.drew s);replace O:=hI (O.o.ext ah.o);replace F:=hI (F.o.ext ah.o);refine eA [0,2,4,6,1,3,5,7,8,9] [] ?_;rw[<-n];clear n;repeat((first|refine dC fun K g=>?_|refine dB fun K g=>?_);go_big_quiet_op;refine g _ ?_;clear g K)
           refine eF fun K g=>?_;go_simp;refine(vW O.o).mono ?_;rintro e bh ⟨p1,k1,rfl,aw,ak⟩;have S1:=hI aw.sl;have aS:=jA p1 x.L.length k1 p (by have:=aw.sl.le;omega);replace F:=hI (F.o.ext ak);replace X:=hI ((X.o.tr ah.o).tr ak);refine g _ _ ak ?_;clear g K aw ak ah O;repeat((first|refine dC fun K g=>?_|refine dB fun K g=>?_);go_big_quiet_op;refine g _ ?_;clear g K)
           refine eF fun K g=>?_;go_simp;refine(vW F.o).mono ?_;rintro e bi ⟨p2,k2,rfl,ax,al⟩;replace S1:=hI (S1.o.ext al);have S2:=hI ax.sl;have gX:=jA p2 y.L.length k2 p (by have:=ax.sl.le;omega);replace X:=hI (X.o.tr al);refine g _ _ al ?_;clear g K ax al F;repeat((first|refine dC fun K g=>?_|refine dB fun K g=>?_);go_big_quiet_op;refine g _ ?_;clear g K)
           have R:=S1.o.take p ag.1;have S:=S2.o.take p ag.2;rw[<-List.map_take]at R S;refine eF fun K g=>?_;go_simp;refine(tg R S).mono ?_;rw[aB.o.2.2];rintro e bj ⟨rfl,az⟩;replace X:=hI (X.o.tr az);refine g _ _ az ?_;clear g K R S az S1 S2;repeat((first|refine dC fun K g=>?_|refine dB fun K g=>?_);go_big_quiet_op;refine g _ ?_;clear g K)
           refine dh ?_;refine df ?_;go_wp2;go_roundw;case rel=>exact⟨b+1,by omega,by omega,by go_num,X.o⟩
           case measure=>simp[intOf];omega
        .have e6:decide ((b:Int)<(a:Int))=false:=decide_eq_false (by omega);have ae:decide (b<a)=false:=decide_eq_false J;go_wp2;go_roundw;case rel=>exact⟨a+1,by omega,by omega,by go_num,X.o⟩
         case measure=>simp[intOf];omega
      .have V:decide ((a:Int)<=(L.n:Int))=false:=decide_eq_false (by omega);have W:decide (a<=L.n)=false:=decide_eq_false v;go_wp2;go_ret;exact⟨rfl,X.o⟩
end
end Go.Proofs.YtjhbmbbmjaabcaaGreat
