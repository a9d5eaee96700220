/-
  Contracts. Conditions stand at each.
-/
import Derived.Lib.SliceRun
import Derived.Test.YtjhbmbbmjaabcaaGreatS6
set_option linter.all false
set_option maxRecDepth 8000
set_option maxHeartbeats 8000000
namespace Go.Proofs.YtjhbmbbmjaabcaaGreat
open Go Go.Sort Go.RowKit
section
variable{b:List UInt8} {zs l:List Int} {k i:Nat} {m:dz}
def Jw(w:World)(R:Option (dz×List dj))(e:Ending)(a:World):Prop:=
 match R with
 |none=>e=.returned (.tuple #[mK dA none 0 0,.int .i64 1])/\db w a
 |some (m,L)=>∃p c,e=.returned (.tuple #[mK m p L.length c,.int .i64 0])/\fY 71 7 a w.heap.size p L.length c (L.map dY)/\(∀x∈L,eQ x)/\lx m/\db w a
def ue(zs:List Int):List Value:=(zs++List.replicate (13-zs.length) 0).map (Value.int .i64)
theorem C6{v:Int}(h:zs.length<13):(ue zs).set zs.length (.int .i64 v)=ue (zs++[v]):=by unfold ue;rw[show 13-zs.length=(13-(zs++[v]).length)+1 by simp;omega,List.replicate_succ];rw[<-List.map_set,List.set_append_right _ _ (Nat.le_refl _),Nat.sub_self];simp
theorem GZ(h:k<13)(a:zs.length<=13):∃u,(ue zs)[k]? =some u:=by
 have:k<(ue zs).length:=by unfold ue;simp;omega
 exact⟨_,List.getElem?_eq_getElem this⟩
theorem ul(d:eJ (gk b) 13=some (l,i))(c:nf l=some m)(h:∀L,pV ((gk b).drop i)=some L->¬(hY m L=b/\eP m L=true)):mE b=none:=by
 unfold mE;split
 .rw[d];simp only[c];split;·rfl
  .rename_i L a;rw[if_neg (h L a)]
 .rfl
theorem Ds{L:List dj}(a:j7 b=true)(f:eJ (gk b) 13=some (l,i))(e:nf l=some m)(c:pV ((gk b).drop i)=some L)(h:hY m L=b)(d:eP m L=true):mE b=some (m,L):=by unfold mE;rw[if_pos a,f];simp only[e,c];rw[if_pos ⟨h,d⟩]
theorem xp(a:k<=13)(h:eJ (gk b) k=none):mE b=none:=by
 unfold mE;split;·rw[lO 13 a h]
 .rfl
theorem AU(h:j7 b=false):mE b=none:=by unfold mE;rw[if_neg (by rw[h];decide)]
theorem BN(l:List UInt8):(gk l).length<=l.length:=by
 unfold gk;split;·rw[List.length_take];omega
 .simp
theorem EI(a:Option Addr)(n c:Nat)(w:World):(binOp .eql 72 (.slice a n c) (.slice none 0 0)).run Tryz.prog w=.ok (.bool a.isNone) w:=Go.Lib.run_eql_slice_nil w _ _ a n c 0 0 Tryz.underlying72
theorem pM{w:World}{p:Option Addr}{n cap:Nat}{b:List UInt8}(H:j' w p n cap b)(hn:n<=6000):
  Calls Tryz.prog 48 #[.slice p n cap] w fun e w'=>Jw w (mE b) e w':=by
 have HL:=hI H.len;have aH:=BN b;rw[H.len]at aH;obtain⟨R,hR⟩:∃R,R=mE b:=⟨_,rfl⟩;rw[<-hR];have HR:=hI hR;clear hR;have OP:=hI (fun(w:World) (H:j' w p n cap b)=>EU H (by omega));obtain⟨r,hr⟩:∃r,r=gk b:=⟨_,rfl⟩;obtain⟨nr,ay⟩:∃nr,nr=r.length:=⟨_,rfl⟩;rw[<-hr,<-ay]at aH;rw[<-hr,<-ay]at OP;have ax:=hI hr;have az:=hI ay;clear hr ay;have T:=dK.new w w.heap.size (fE dA none 0 0) (gt dA none 0 0) 76 _ rfl (Nat.le_refl _) rfl;have X:=db.alloc w (.cells (fE dA none 0 0) 76);cases ho:j7 b
 .rw[ho]at OP;have ao:R=none:=by rw[HR.o];exact AU ho
  subst ao;clear ho;go_enter Tryz.func48,Tryz.ntmps48;go_wp2_with fail;refine(OP.o _ (H.ext X)).mono ?_;rintro e V ⟨p1,U,rfl,o1,x1⟩;replace X:=X.tr x1;replace T:=T.ext x1;clear x1 o1;have b0:=T.c 0 _ rfl;have b1:=T.c 1 _ rfl;have b2:=T.c 2 _ rfl;have b3:=T.c 3 _ rfl;have b4:=T.c 4 _ rfl;have b5:=T.c 5 _ rfl;have b6:=T.c 6 _ rfl;have b7:=T.c 7 _ rfl;have b8:=T.c 8 _ rfl;have b9:=T.c 9 _ rfl;have ak:=T.c 10 _ rfl;have al:=T.c 11 _ rfl;have am:=T.c 12 _ rfl;try simp only at b0 b1 b2 b3 b4 b5 b6 b7 b8 b9 ak al am
  have bf:=T.f;go_wp2;obtain⟨Q,an⟩:∃Q,Q=dL V w.heap.size 0 (gt dA none 0 0):=⟨_,rfl⟩;change bodyPost _ _ _ Exit.ret _ (dL V w.heap.size 0 (gt dA none 0 0));have a:=T.fill (vs:=gt dA none 0 0) (Nat.le_refl _);have N:=eL X (Nat.le_refl _) (gt dA none 0 0) 0;rw[<-an]at a N⊢;have g:=a.c 0 _ rfl;have j:=a.c 1 _ rfl;have y:=a.c 2 _ rfl;have z:=a.c 3 _ rfl;have A:=a.c 4 _ rfl;have C:=a.c 5 _ rfl;have D:=a.c 6 _ rfl;have E:=a.c 7 _ rfl;have I:=a.c 8 _ rfl;have J:=a.c 9 _ rfl;have o:=a.c 10 _ rfl;have s:=a.c 11 _ rfl;have t:=a.c 12 _ rfl;try simp only at g j y z A C D E I J o s t
  simp only[dA]at g j y z A C D E I J o s t;exact bodyPost_ret (v:=.tuple #[mK dA none 0 0,.int .i64 1]) (by simp[results,Tryz.results48,go_sem,g,j,y,z,A,C,D,E,I,J,o,s,t,dA]) rfl ⟨rfl,N⟩
 .rw[ho]at OP;have HO:=hI ho;clear ho;go_enter Tryz.func48,Tryz.ntmps48;go_wp2_with fail;refine(OP.o _ (H.ext X)).mono ?_;rintro e V ⟨p1,U,rfl,o1,x1⟩;replace X:=X.tr x1;replace T:=T.ext x1;have O1:=o1.sl;clear x1 o1;go_wp2;have A1:=db.alloc V (.cells #[.int .i64 0,.int .i64 0,.int .i64 0,.int .i64 0,.int .i64 0,.int .i64 0,.int .i64 0,.int .i64 0,.int .i64 0,.int .i64 0,.int .i64 0,.int .i64 0,.int .i64 0] 121);have G1:=dK.new V V.heap.size #[.int .i64 0,.int .i64 0,.int .i64 0,.int .i64 0,.int .i64 0,.int .i64 0,.int .i64 0,.int .i64 0,.int .i64 0,.int .i64 0,.int .i64 0,.int .i64 0,.int .i64 0] (ue []) 121 _ rfl (Nat.le_refl _) rfl;go_loopw [4,23] (fun v i wr=>∃(k x:Nat) (zs:List Int) (p':Option Addr) (c':Nat),k<=13/\i=.int .i64 (k:Int)/\v=.slice p' (nr-x) c'/\eJ r k=some (zs,x)/\j' V p' (nr-x) c' (r.drop x)/\dK wr V.heap.size V.heap.size (ue zs)/\db V wr) (fun _ i _=>13-(intOf i).toNat);case atStart=>exact⟨0,0,[],p1,U,by omega,rfl,rfl,rfl,O1,G1,A1⟩
  case round=>
   clear A1 G1 O1;obtain⟨k,x,zs,p',c',hk,rfl,rfl,hp,S,G,XR⟩:=hrel;obtain⟨aD,aI,-,aQ⟩:=kA hp;rw[<-az.o]at aQ;have P:=hI hp;have ZI:=hI aI;clear hp aI;by_cases aO:k<13
   .obtain⟨v,hv⟩:∃v,v=(eO (r.drop x)).1:=⟨_,rfl⟩;obtain⟨c,hc⟩:∃c,c=(eO (r.drop x)).2.1:=⟨_,rfl⟩;obtain⟨q,hq⟩:∃q,q=(eO (r.drop x)).2.2:=⟨_,rfl⟩;have GI:=nD (r.drop x);rw[<-hv,<-hc,<-hq,List.length_drop,<-az.o]at GI;have HV:=hI hv;have HC:=hI hc;have HQ:=hI hq;clear hv hc hq;by_cases av:q=0
    .subst av;have aG:c<=nr-x:=by omega
     clear GI
     have P2:Hid (eJ r (k+1)=some (zs++[v],x+c)):=hI (by
      rw[eJ,P.o];simp only
      rw[if_pos HQ.o.symm,<-HV.o,<-HC.o])
     have cf:=fun w=>jm (P:=Tryz.prog) 72 5 Tryz.underlying72 Kz p' (nr-x) c' c aG w;have D2:j' V (mO p' c' c) (nr-(x+c)) (c'-c) (r.drop (x+c)):=by have h:=S.drop c aG;rwa[List.drop_drop,show nr-x-c=nr-(x+c) by omega]at h
     obtain⟨u,hu⟩:=GZ (zs:=zs) aO (by omega);have cu:=G.c k u hu;have fu:=G.f k;have G2:dK (wr.setCell ⟨V.heap.size,k,none⟩ (.int .i64 v)) V.heap.size V.heap.size (ue (zs++[v])):=by have h:=G.put k (.int .i64 v);rwa[<-aD,C6 (by omega),aD]at h
     have O:db V (wr.setCell ⟨V.heap.size,k,none⟩ (.int .i64 v)):=XR.setCell (Nat.le_refl _) (.int .i64 v);have aS:nr-x-c=nr-(x+c):=by omega
     clear hu;go_wp2_with fail;refine(nF (S.ext XR) (by omega)).mono ?_;rw[<-HV.o,<-HC.o,<-HQ.o];rintro e f ⟨rfl,rfl⟩;go_wp2;go_roundw;case rel=>exact⟨k+1,x+c,zs++[v],mO p' c' c,c'-c,by omega,by go_num,by go_num,P2.o,D2,G2,O⟩
     case measure=>simp[intOf];omega
    .have h1:(q !=0)=true:=bne_iff_ne.2 av;have h2:(q==0)=false:=beq_eq_false_iff_ne.2 av;have ao:R=none:=by rw[HR.o];refine xp (k:=k+1) (by omega) ?_;rw[<-ax.o,eJ,P.o];simp only;rw[if_neg (by rw[<-HQ.o];exact av)]
     subst ao;clear av GI;have d:=T.ext XR;have O:=X.tr XR;go_wp2_with fail;refine(nF (S.ext XR) (by omega)).mono ?_;rw[<-HV.o,<-HC.o,<-HQ.o];rintro e f ⟨rfl,rfl⟩;have b0:=d.c 0 _ rfl;have b1:=d.c 1 _ rfl;have b2:=d.c 2 _ rfl;have b3:=d.c 3 _ rfl;have b4:=d.c 4 _ rfl;have b5:=d.c 5 _ rfl;have b6:=d.c 6 _ rfl;have b7:=d.c 7 _ rfl;have b8:=d.c 8 _ rfl;have b9:=d.c 9 _ rfl;have ak:=d.c 10 _ rfl;have al:=d.c 11 _ rfl;have am:=d.c 12 _ rfl;try simp only at b0 b1 b2 b3 b4 b5 b6 b7 b8 b9 ak al am
     have bf:=d.f;go_wp2;obtain⟨Q,an⟩:∃Q,Q=dL wr w.heap.size 0 (gt dA none 0 0):=⟨_,rfl⟩;change bodyPost _ _ _ Exit.ret _ (dL wr w.heap.size 0 (gt dA none 0 0));have a:=d.fill (vs:=gt dA none 0 0) (Nat.le_refl _);have N:=eL O (Nat.le_refl _) (gt dA none 0 0) 0;rw[<-an]at a N⊢;have g:=a.c 0 _ rfl;have j:=a.c 1 _ rfl;have y:=a.c 2 _ rfl;have z:=a.c 3 _ rfl;have A:=a.c 4 _ rfl;have C:=a.c 5 _ rfl;have D:=a.c 6 _ rfl;have E:=a.c 7 _ rfl;have I:=a.c 8 _ rfl;have J:=a.c 9 _ rfl;have o:=a.c 10 _ rfl;have s:=a.c 11 _ rfl;have t:=a.c 12 _ rfl;try simp only at g j y z A C D E I J o s t
     simp only[dA]at g j y z A C D E I J o s t;exact bodyPost_ret (v:=.tuple #[mK dA none 0 0,.int .i64 1]) (by simp[results,Tryz.results48,go_sem,g,j,y,z,A,C,D,E,I,J,o,s,t,dA]) rfl ⟨rfl,N⟩
   .have aN:k=13:=by omega
    subst aN
    obtain⟨W,Y,z2,z3,z4,z5,z6,z7,z8,z9,Z,M,au,rfl⟩:∃W Y z2 z3 z4 z5 z6 z7 z8 z9 Z M au,zs=[W,Y,z2,z3,z4,z5,z6,z7,z8,z9,Z,M,au]:=by
     match zs,aD with
     |[W,Y,z2,z3,z4,z5,z6,z7,z8,z9,Z,M,au],_=>exact⟨W,Y,z2,z3,z4,z5,z6,z7,z8,z9,Z,M,au,rfl⟩
    have c0:=G.c 0 _ rfl;have U:=G.c 1 _ rfl;have c2:=G.c 2 _ rfl;have c3:=G.c 3 _ rfl;have c4:=G.c 4 _ rfl;have c5:=G.c 5 _ rfl;have c6:=G.c 6 _ rfl;have c7:=G.c 7 _ rfl;have c8:=G.c 8 _ rfl;have c9:=G.c 9 _ rfl;have ai:=G.c 10 _ rfl;have aj:=G.c 11 _ rfl;try simp only at c0 U c2 c3 c4 c5 c6 c7 c8 c9 ai aj
    change wr.cell? _=some (.int .i64 W)at c0;change wr.cell? _=some (.int .i64 Y)at U;change wr.cell? _=some (.int .i64 z2)at c2;change wr.cell? _=some (.int .i64 z3)at c3;change wr.cell? _=some (.int .i64 z4)at c4;change wr.cell? _=some (.int .i64 z5)at c5;change wr.cell? _=some (.int .i64 z6)at c6;change wr.cell? _=some (.int .i64 z7)at c7;change wr.cell? _=some (.int .i64 z8)at c8;change wr.cell? _=some (.int .i64 z9)at c9;change wr.cell? _=some (.int .i64 Z)at ai;change wr.cell? _=some (.int .i64 M)at aj;obtain⟨m,aB⟩:∃m:dz,m=⟨W,Y,z2,z3,z4,z5,z6,z7,z8,z9,Z,decide (M=1)⟩:=⟨_,rfl⟩;have HM:=hI aB;have aC:nf [W,Y,z2,z3,z4,z5,z6,z7,z8,z9,Z,M,au]=some m:=by rw[aB];rfl
    have aA:=tM aC ZI.o;have aw:=hI aC
    have aT:(M==1)=decide (M=1):=by
     cases hq:(M==1);·rw[decide_eq_false (beq_eq_false_iff_ne.1 hq)]
     .rw[decide_eq_true (eq_of_beq hq)]
    clear aB aC;have DD:=xq (S.ext XR) (by omega);have HP:Hid (eJ (gk b) 13=some ([W,Y,z2,z3,z4,z5,z6,z7,z8,z9,Z,M,au],x)):=hI (by rw[<-ax.o];exact P.o);rw[ax.o]at DD;have d:=T.ext XR;have O:=X.tr XR;have aF:=XR;cases ap:pV ((gk b).drop x)with
    |none=>
     have ao:R=none:=by rw[HR.o];exact ul HP.o aw.o (fun L hL=>by rw[ap]at hL;cases hL)
     subst ao;rw[ap]at DD;clear ap;go_wp2_with fail;refine DD.mono ?_;rintro e f ⟨rfl,x2⟩;replace O:=O.tr x2;replace d:=d.ext x2;replace G:=G.ext x2;clear x2 DD c0 U c2 c3 c4 c5 c6 c7 c8 c9 ai aj;have c0:=G.c 0 _ rfl;have U:=G.c 1 _ rfl;have c2:=G.c 2 _ rfl;have c3:=G.c 3 _ rfl;have c4:=G.c 4 _ rfl;have c5:=G.c 5 _ rfl;have c6:=G.c 6 _ rfl;have c7:=G.c 7 _ rfl;have c8:=G.c 8 _ rfl;have c9:=G.c 9 _ rfl;have ai:=G.c 10 _ rfl;have aj:=G.c 11 _ rfl;try simp only at c0 U c2 c3 c4 c5 c6 c7 c8 c9 ai aj
     change f.cell? _=some (.int .i64 W)at c0;change f.cell? _=some (.int .i64 Y)at U;change f.cell? _=some (.int .i64 z2)at c2;change f.cell? _=some (.int .i64 z3)at c3;change f.cell? _=some (.int .i64 z4)at c4;change f.cell? _=some (.int .i64 z5)at c5;change f.cell? _=some (.int .i64 z6)at c6;change f.cell? _=some (.int .i64 z7)at c7;change f.cell? _=some (.int .i64 z8)at c8;change f.cell? _=some (.int .i64 z9)at c9;change f.cell? _=some (.int .i64 Z)at ai;change f.cell? _=some (.int .i64 M)at aj;have S3:=SlS.empty 7 (f.alloc (.cells (fE m none 0 0) 76));have A3:=db.alloc f (.cells (fE m none 0 0) 76);have K:=dK.new f f.heap.size (fE m none 0 0) (gt m none 0 0) 76 _ rfl (Nat.le_refl _) rfl;have EN:=hI (fun w (h:SlS 7 w none 0 0 (([]:List dj).map dY))=>lU (L:=[]) aA h (fun e he=>by cases he));rw[HM.o]at EN A3 K S3;try simp only at EN A3 K S3
     go_wp2_with fail;refine(EN.o _ S3).mono ?_;rintro e w3 ⟨p3,k3,rfl,o3,ar,x3⟩;replace O:=O.tr (A3.tr x3);replace d:=d.ext (A3.tr x3);clear x3 o3 ar;have b0:=d.c 0 _ rfl;have b1:=d.c 1 _ rfl;have b2:=d.c 2 _ rfl;have b3:=d.c 3 _ rfl;have b4:=d.c 4 _ rfl;have b5:=d.c 5 _ rfl;have b6:=d.c 6 _ rfl;have b7:=d.c 7 _ rfl;have b8:=d.c 8 _ rfl;have b9:=d.c 9 _ rfl;have ak:=d.c 10 _ rfl;have al:=d.c 11 _ rfl;have am:=d.c 12 _ rfl;try simp only at b0 b1 b2 b3 b4 b5 b6 b7 b8 b9 ak al am
     have bf:=d.f;go_wp2;obtain⟨Q,an⟩:∃Q,Q=dL w3 w.heap.size 0 (gt dA none 0 0):=⟨_,rfl⟩;change bodyPost _ _ _ Exit.ret _ (dL w3 w.heap.size 0 (gt dA none 0 0));have a:=d.fill (vs:=gt dA none 0 0) (Nat.le_refl _);have N:=eL O (Nat.le_refl _) (gt dA none 0 0) 0;rw[<-an]at a N⊢;have g:=a.c 0 _ rfl;have j:=a.c 1 _ rfl;have y:=a.c 2 _ rfl;have z:=a.c 3 _ rfl;have A:=a.c 4 _ rfl;have C:=a.c 5 _ rfl;have D:=a.c 6 _ rfl;have E:=a.c 7 _ rfl;have I:=a.c 8 _ rfl;have J:=a.c 9 _ rfl;have o:=a.c 10 _ rfl;have s:=a.c 11 _ rfl;have t:=a.c 12 _ rfl;try simp only at g j y z A C D E I J o s t
     simp only[dA]at g j y z A C D E I J o s t;exact bodyPost_ret (v:=.tuple #[mK dA none 0 0,.int .i64 1]) (by simp[results,Tryz.results48,go_sem,g,j,y,z,A,C,D,E,I,J,o,s,t,dA]) rfl ⟨rfl,N⟩
    |some L=>
     have aK:=Dr ap;rw[<-ax.o,List.length_drop,<-az.o]at aK;have HD:=hI ap;rw[ap]at DD;clear ap;go_wp2_with fail;refine DD.mono ?_;rintro e f ⟨pe,ce,rfl,OE,x2,aJ⟩;replace O:=O.tr x2;replace d:=d.ext x2;replace G:=G.ext x2;have aE:=hI aJ;have XS:=hI x2.size;replace aF:=aF.tr x2;clear x2 DD aJ c0 U c2 c3 c4 c5 c6 c7 c8 c9 ai aj;have c0:=G.c 0 _ rfl;have U:=G.c 1 _ rfl;have c2:=G.c 2 _ rfl;have c3:=G.c 3 _ rfl;have c4:=G.c 4 _ rfl;have c5:=G.c 5 _ rfl;have c6:=G.c 6 _ rfl;have c7:=G.c 7 _ rfl;have c8:=G.c 8 _ rfl;have c9:=G.c 9 _ rfl;have ai:=G.c 10 _ rfl;have aj:=G.c 11 _ rfl;try simp only at c0 U c2 c3 c4 c5 c6 c7 c8 c9 ai aj
     change f.cell? _=some (.int .i64 W)at c0;change f.cell? _=some (.int .i64 Y)at U;change f.cell? _=some (.int .i64 z2)at c2;change f.cell? _=some (.int .i64 z3)at c3;change f.cell? _=some (.int .i64 z4)at c4;change f.cell? _=some (.int .i64 z5)at c5;change f.cell? _=some (.int .i64 z6)at c6;change f.cell? _=some (.int .i64 z7)at c7;change f.cell? _=some (.int .i64 z8)at c8;change f.cell? _=some (.int .i64 z9)at c9;change f.cell? _=some (.int .i64 Z)at ai;change f.cell? _=some (.int .i64 M)at aj;have S3:=OE.sl.ext (db.alloc f (.cells (fE m pe L.length ce) 76));have A3:=db.alloc f (.cells (fE m pe L.length ce) 76);have K:=dK.new f f.heap.size (fE m pe L.length ce) (gt m pe L.length ce) 76 _ rfl (Nat.le_refl _) rfl;have EN:=hI (fun w (h:SlS 7 w pe L.length ce (L.map dY))=>lU aA h aE.o);obtain⟨F,hF⟩:∃F,F=hY m L:=⟨_,rfl⟩;obtain⟨B,hB⟩:∃B,B=eP m L:=⟨_,rfl⟩;rw[<-hF,<-hB]at EN;have HF:=hI hF;have HB:=hI hB;clear hF hB;rw[HM.o]at EN A3 K S3;try simp only at EN A3 K S3
     go_wp2_with fail;refine(EN.o _ S3).mono ?_;rintro e w3 ⟨p3,k3,rfl,o3,ar,x3⟩;replace O:=O.tr (A3.tr x3);replace d:=d.ext (A3.tr x3);replace K:=K.ext x3;replace OE:=OE.ext (A3.tr x3);have O3:=o3.sl;clear x3 o3 c0 U c2 c3 c4 c5 c6 c7 c8 c9 ai aj;cases B
     .have aP:=ar.2 rfl;subst aP;have ne:=fun w=>EI none F.length k3 w;simp only[Option.isNone_none]at ne;have ao:R=none:=by rw[HR.o];refine ul HP.o aw.o (fun L' hL h=>?_);rw[HD.o]at hL;cases hL;rw[<-HB.o]at h;cases h.2
      subst ao;clear ar;have b0:=d.c 0 _ rfl;have b1:=d.c 1 _ rfl;have b2:=d.c 2 _ rfl;have b3:=d.c 3 _ rfl;have b4:=d.c 4 _ rfl;have b5:=d.c 5 _ rfl;have b6:=d.c 6 _ rfl;have b7:=d.c 7 _ rfl;have b8:=d.c 8 _ rfl;have b9:=d.c 9 _ rfl;have ak:=d.c 10 _ rfl;have al:=d.c 11 _ rfl;have am:=d.c 12 _ rfl;try simp only at b0 b1 b2 b3 b4 b5 b6 b7 b8 b9 ak al am
      have bf:=d.f;go_wp2;obtain⟨Q,an⟩:∃Q,Q=dL w3 w.heap.size 0 (gt dA none 0 0):=⟨_,rfl⟩;change bodyPost _ _ _ Exit.ret _ (dL w3 w.heap.size 0 (gt dA none 0 0));have a:=d.fill (vs:=gt dA none 0 0) (Nat.le_refl _);have N:=eL O (Nat.le_refl _) (gt dA none 0 0) 0;rw[<-an]at a N⊢;have g:=a.c 0 _ rfl;have j:=a.c 1 _ rfl;have y:=a.c 2 _ rfl;have z:=a.c 3 _ rfl;have A:=a.c 4 _ rfl;have C:=a.c 5 _ rfl;have D:=a.c 6 _ rfl;have E:=a.c 7 _ rfl;have I:=a.c 8 _ rfl;have J:=a.c 9 _ rfl;have o:=a.c 10 _ rfl;have s:=a.c 11 _ rfl;have t:=a.c 12 _ rfl;try simp only at g j y z A C D E I J o s t
      simp only[dA]at g j y z A C D E I J o s t;exact bodyPost_ret (v:=.tuple #[mK dA none 0 0,.int .i64 1]) (by simp[results,Tryz.results48,go_sem,g,j,y,z,A,C,D,E,I,J,o,s,t,dA]) rfl ⟨rfl,N⟩
     .obtain⟨ad,rfl⟩:∃ad,p3=some ad:=by
       cases p3 with
       |none=>cases ar.1 rfl
       |some ad=>exact⟨ad,rfl⟩
      clear ar;have ne:=fun w=>EI (some ad) F.length k3 w;simp only[Option.isNone_some]at ne;have EQ:=kq O3 (H.ext O);cases aq:(F==b)
      .rw[aq]at EQ;have ao:R=none:=by rw[HR.o];refine ul HP.o aw.o (fun L' hL h=>?_);rw[HD.o]at hL;cases hL;rw[<-HF.o]at h;rw[h.1,beq_self_eq_true]at aq;cases aq
       subst ao;clear aq;go_wp2_with fail;refine EQ.mono ?_;rintro e w4 ⟨rfl,rfl⟩;have b0:=d.c 0 _ rfl;have b1:=d.c 1 _ rfl;have b2:=d.c 2 _ rfl;have b3:=d.c 3 _ rfl;have b4:=d.c 4 _ rfl;have b5:=d.c 5 _ rfl;have b6:=d.c 6 _ rfl;have b7:=d.c 7 _ rfl;have b8:=d.c 8 _ rfl;have b9:=d.c 9 _ rfl;have ak:=d.c 10 _ rfl;have al:=d.c 11 _ rfl;have am:=d.c 12 _ rfl;try simp only at b0 b1 b2 b3 b4 b5 b6 b7 b8 b9 ak al am
       have bf:=d.f;go_wp2;obtain⟨Q,an⟩:∃Q,Q=dL w3 w.heap.size 0 (gt dA none 0 0):=⟨_,rfl⟩;change bodyPost _ _ _ Exit.ret _ (dL w3 w.heap.size 0 (gt dA none 0 0));have a:=d.fill (vs:=gt dA none 0 0) (Nat.le_refl _);have N:=eL O (Nat.le_refl _) (gt dA none 0 0) 0;rw[<-an]at a N⊢;have g:=a.c 0 _ rfl;have j:=a.c 1 _ rfl;have y:=a.c 2 _ rfl;have z:=a.c 3 _ rfl;have A:=a.c 4 _ rfl;have C:=a.c 5 _ rfl;have D:=a.c 6 _ rfl;have E:=a.c 7 _ rfl;have I:=a.c 8 _ rfl;have J:=a.c 9 _ rfl;have o:=a.c 10 _ rfl;have s:=a.c 11 _ rfl;have t:=a.c 12 _ rfl;try simp only at g j y z A C D E I J o s t
       simp only[dA]at g j y z A C D E I J o s t;exact bodyPost_ret (v:=.tuple #[mK dA none 0 0,.int .i64 1]) (by simp[results,Tryz.results48,go_sem,g,j,y,z,A,C,D,E,I,J,o,s,t,dA]) rfl ⟨rfl,N⟩
      .rw[aq]at EQ;have aM:R=some (m,L):=by rw[HR.o];exact Ds HO.o HP.o aw.o HD.o (by rw[<-HF.o];exact eq_of_beq aq) HB.o.symm
       subst aM;clear aq;go_wp2_with fail;refine EQ.mono ?_;rintro e w4 ⟨rfl,rfl⟩;obtain rfl:=HM.o;have c0:=K.c 0 _ rfl;have U:=K.c 1 _ rfl;have c2:=K.c 2 _ rfl;have c3:=K.c 3 _ rfl;have c4:=K.c 4 _ rfl;have c5:=K.c 5 _ rfl;have c6:=K.c 6 _ rfl;have c7:=K.c 7 _ rfl;have c8:=K.c 8 _ rfl;have c9:=K.c 9 _ rfl;have ai:=K.c 10 _ rfl;have aj:=K.c 11 _ rfl;have aL:=K.c 12 _ rfl;try simp only at c0 U c2 c3 c4 c5 c6 c7 c8 c9 ai aj aL
       have b0:=d.c 0 _ rfl;have b1:=d.c 1 _ rfl;have b2:=d.c 2 _ rfl;have b3:=d.c 3 _ rfl;have b4:=d.c 4 _ rfl;have b5:=d.c 5 _ rfl;have b6:=d.c 6 _ rfl;have b7:=d.c 7 _ rfl;have b8:=d.c 8 _ rfl;have b9:=d.c 9 _ rfl;have ak:=d.c 10 _ rfl;have al:=d.c 11 _ rfl;have am:=d.c 12 _ rfl;try simp only at b0 b1 b2 b3 b4 b5 b6 b7 b8 b9 ak al am
       have bf:=d.f;have aR:w.heap.size<wr.heap.size:=(T.ext XR).hi;go_wp2;obtain⟨Q,an⟩:∃Q,Q=dL w3 w.heap.size 0 (gt ⟨W,Y,z2,z3,z4,z5,z6,z7,z8,z9,Z,decide (M=1)⟩ pe L.length ce):=⟨_,rfl⟩;change bodyPost _ _ _ Exit.ret _ (dL w3 w.heap.size 0 (gt ⟨W,Y,z2,z3,z4,z5,z6,z7,z8,z9,Z,decide (M=1)⟩ pe L.length ce));have a:=d.fill (vs:=gt ⟨W,Y,z2,z3,z4,z5,z6,z7,z8,z9,Z,decide (M=1)⟩ pe L.length ce) (Nat.le_refl _);have N:=eL O (Nat.le_refl _) (gt ⟨W,Y,z2,z3,z4,z5,z6,z7,z8,z9,Z,decide (M=1)⟩ pe L.length ce) 0
       have FO:=(OE.kept (eU w.heap.size (gt ⟨W,Y,z2,z3,z4,z5,z6,z7,z8,z9,Z,decide (M=1)⟩ pe L.length ce) 0 w3 w3 (dD _ _)) (fun k hk=>by
        cases hk
        intro hc
        have:=OE.lt _ hc
        omega)).mono (show w.heap.size<=wr.heap.size by omega)
       rw[<-an]at a N FO⊢;have g:=a.c 0 _ rfl;have j:=a.c 1 _ rfl;have y:=a.c 2 _ rfl;have z:=a.c 3 _ rfl;have A:=a.c 4 _ rfl;have C:=a.c 5 _ rfl;have D:=a.c 6 _ rfl;have E:=a.c 7 _ rfl;have I:=a.c 8 _ rfl;have J:=a.c 9 _ rfl;have o:=a.c 10 _ rfl;have s:=a.c 11 _ rfl;have t:=a.c 12 _ rfl;try simp only at g j y z A C D E I J o s t
       try simp only at g j y z A C D E I J o s t
       exact bodyPost_ret (v:=.tuple #[mK ⟨W,Y,z2,z3,z4,z5,z6,z7,z8,z9,Z,decide (M=1)⟩ pe L.length ce,.int .i64 0]) (by simp[results,Tryz.results48,go_sem,g,j,y,z,A,C,D,E,I,J,o,s,t]) rfl ⟨pe,ce,rfl,FO,aE.o,aA,N⟩
end
end Go.Proofs.YtjhbmbbmjaabcaaGreat
