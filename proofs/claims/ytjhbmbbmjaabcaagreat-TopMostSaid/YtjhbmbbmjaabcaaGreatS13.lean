/-
  Contracts. Conditions stand at each.
-/
import Derived.Test.YtjhbmbbmjaabcaaGreatS10
set_option linter.all false
set_option maxRecDepth 8000
set_option maxHeartbeats 8000000
namespace Go.Proofs.YtjhbmbbmjaabcaaGreat
open Go Go.Sort Go.RowKit
section
variable{p:Option Addr} {L:List dj} {T:List iB} {now:Int} {cap:Nat}
def jG(cm now:Int)(n:Nat)(a:ua×List iB×List iB)(k:Nat)(e:dj):ua×List iB×List iB:=
 let b:= !(a.2.1.any fun x=>dG x.e e)&&sP a.1 e ((k:Int)+1) (min (max cm 0) (n:Int)) now
 let T:=if b then a.2.1++[⟨(k:Int)+1,e⟩]else a.2.1
 let O:=if b then a.2.2++[⟨(k:Int)+1,e⟩]else a.2.2
 (if T.any fun x=>dG x.e e then a.1 else⟨false,a.1.o0&&decide (e.od≠0),a.1.o1&&decide (e.od≠1),a.1.o2&&decide (e.od≠2)⟩,T,O)
def iF(cm now:Int)(n:Nat):Nat->List dj->ua×List iB×List iB->ua×List iB×List iB
 |_,[],a=>a
 |k,e::L,a=>iF cm now n (k+1) L (jG cm now n a k e)
theorem re(cm now:Int)(n:Nat):∀(L:List dj) (k:Nat) (e:dj) (a:ua×List iB×List iB),iF cm now n k (L++[e]) a=jG cm now n (iF cm now n k L a) (k+L.length) e
 |[],k,e,a=>rfl
 |x::L,k,e,a=>by
  rw[List.cons_append,iF,iF,re cm now n L,List.length_cons];congr 1;omega
theorem jF(cm now:Int)(n k:Nat)(L:List dj)(e:dj)(a:ua×List iB×List iB)(h:L[k]? =some e):iF cm now n 0 (L.take (k+1)) a=jG cm now n (iF cm now n 0 (L.take k) a) k e:=by rw[List.take_add_one,h];have:=re cm now n (L.take k) 0 e a;have b:k<L.length:=(List.getElem?_eq_some_iff.1 h).1;simpa [List.length_take,Nat.min_eq_left (Nat.le_of_lt b)]using this
theorem xG{cm:Int}{n k:Nat}{q:ua}{a b:List iB}{e:dj}(h1:(a.any fun x=>dG x.e e)=false)(h2:sP q e ((k:Int)+1) (min (max cm 0) (n:Int)) now=true)(h3:((a++[(⟨(k:Int)+1,e⟩:iB)]).any fun x=>dG x.e e)=true):jG cm now n (q,a,b) k e=(q,a++[⟨(k:Int)+1,e⟩],b++[⟨(k:Int)+1,e⟩]):=by simp only[jG,h1,h2];simp only[Bool.not_false,Bool.true_and,if_true,h3]
def oA(c d:Nat)(x:Nat):Prop:=x=c\/x=c+1\/x=d\/x=d+1
theorem AY(p:Option Addr)(n cap:Nat)(a:n<=cap)(w:World):(Instr.slice 43 (.slice p n cap) none (some (.int .i64 (n:Int))) none).run Tryz.prog w=.ok (.slice p n cap) w:=
 pH 7 43 71 Tryz.underlying43 (fun w=>by kernel_rfl) p n cap n a w
structure KB (w0:World) (o0:Ow) (c d g sb n cap:Nat) (p:Option Addr) (T0:List iB) (L:List dj) (cm now:Int) (k:Nat) (wr:World) (o1:Ow) (po:Option Addr) (co:Nat) (st:ua×List iB×List iB):Prop where
 eq:st=iF cm now n 0 (L.take k) (⟨true,true,true,true⟩,T0,[])
 box:dq wr o1 (d+1) sb (Ln st.1)
 q:sU wr o1 c g st.2.1
 row:dQ 109 8 wr o1 d po st.2.2.length co (st.2.2.map r8)
 sl:fJ 7 wr o1 p n cap (L.map dY)
 fm:Fm (oA c d) o0 o1 w0 wr
 lt:st.2.1.length<=T0.length+k
 lo:st.2.2.length<=k
theorem KB.ext{q:World}{e:Ow}{c d g l n:Nat}{T0:List iB}{cm:Int}{k:Nat}{wr o:World}{f:Ow}{po:Option Addr}{b:Nat}{m:ua×List iB×List iB}(h:KB q e c d g l n cap p T0 L cm now k wr f po b m)(x:db wr o):KB q e c d g l n cap p T0 L cm now k o f po b m:=
 ⟨h.eq,h.box.ext x,h.q.ext x,h.row.ext x,h.sl.ext x,⟨x.os.trans h.fm.os,x.tape.trans h.fm.tape,x.output.trans h.fm.output,Nat.le_trans h.fm.size x.size,h.fm.col,fun i a h1 h2=>(x.block i (Nat.lt_of_lt_of_le a h.fm.size)).trans (h.fm.blk i a h1 h2),fun i j a h1 h2=>(World.cell?_of_block (x.block i (Nat.lt_of_lt_of_le a h.fm.size))).trans (h.fm.cel i j a h1 h2),fun i j a h1=>(World.frozen?_of_block (x.block i (Nat.lt_of_lt_of_le a h.fm.size))).trans (h.fm.frz i j a h1),h.fm.cl.ext x⟩,h.lt,h.lo⟩
theorem oC{k wr:World}{i a:Ow}{c d g b n m h:Nat}{po:Option Addr}{e f:List (List Value)}{vs:List Value}(l:1<c/\c+1<d)(j:Nat)(v:Value)(h1:dq wr a (d+1) b vs)(h2:sU wr a c g T)(h3:dQ 109 8 wr a d po m h f)(h4:fJ 7 wr a p n cap e)(h5:Fm (oA c d) i a k wr):
  dq (wr.setCell ⟨b,j,none⟩ v) a (d+1) b (vs.set j v)/\sU (wr.setCell ⟨b,j,none⟩ v) a c g T/\dQ 109 8 (wr.setCell ⟨b,j,none⟩ v) a d po m h f/\fJ 7 (wr.setCell ⟨b,j,none⟩ v) a p n cap e/\Fm (oA c d) i a k (wr.setCell ⟨b,j,none⟩ v):=by have F:=Fm.put (C:=fun x=>x=d+1) h5.cl h1 (by omega) rfl j v;exact⟨h1.put j v,h2.fr F l.1 (by omega) (by omega),h3.fr F (by omega) (by omega),h4.fr F (by omega),h5.tr (F.mono (fun x o=> .inr (.inr (.inr o)))) (by unfold oA;omega)⟩
theorem IH{w:World}{o:Ow}{c d g n:Nat}{cm:Int}(aq:Cl w o)(h:sU w o c g T)(h1:1<c/\c+1<d)(hs:fJ 7 w o p n cap (L.map dY))(hn:n<=60)(hT:T.length+n<=100000)(aB:∀e∈L,eQ e/\0<=e.st/\e.st<=1099511627776/\0<=e.od/\e.od<=2)(aA:0<=now/\now<=1099511627776)(ay:0<=cm/\cm<=1000000):
  Calls Tryz.prog 177 #[.pointer (some ⟨g,0,none⟩),.slice p n cap,.int .i64 cm,.int .i64 now] w fun e w'=>∃o' Y W,e=.returned (.slice Y (iF cm now n 0 L (⟨true,true,true,true⟩,T,[])).2.2.length W)/\dQ 109 8 w' o' d Y (iF cm now n 0 L (⟨true,true,true,true⟩,T,[])).2.2.length W ((iF cm now n 0 L (⟨true,true,true,true⟩,T,[])).2.2.map r8)/\sU w' o' c g (iF cm now n 0 L (⟨true,true,true,true⟩,T,[])).2.1/\Fm (oA c d) o o' w w':=by
 have aH:=AY p n cap hs.sl.le;have N:=hI (it hs.sl);have M0:Hid (Fm (fun _=>False) o (gH o w.heap.size (d+1)) w (w.alloc (.cells (Fv ⟨true,true,true,true⟩) 243))):=hI (Fm.made aq _ (d+1));have SB:=hI (dq.made w o (d+1) (Fv ⟨true,true,true,true⟩) (Ln ⟨true,true,true,true⟩) 243 rfl);have aM:¬(60:Int)<(n:Int):=by omega
 have H:=hI (h.fr M0.o h1.1 (fun x=>x) (fun x=>x));have S:=hI (hs.fr M0.o (fun x=>x));have M:=hI (M0.o.mono (C':=oA c d) (fun x hx=>hx.elim));have HC:=hI aq;have f:=hI h1;have OK:=hI aB;have NW:=hI aA;have CM:=hI ay;have HT:=hI hT;clear h hs aq h1 aB aA ay hT;go_enter Tryz.func177,Tryz.ntmps177;go_upto_region 6 with fail;change Code.wp _ _ _ _ (w.alloc (.cells (Fv ⟨true,true,true,true⟩) 243));have GI:Hid (KB w o c d g w.heap.size n cap p T L cm now 0 (w.alloc (.cells (Fv ⟨true,true,true,true⟩) 243)) (gH o w.heap.size (d+1)) none 0 (⟨true,true,true,true⟩,T,[])):=hI ⟨rfl,SB.o,H.o,dQ.nil _ _ _ _ _,S.o,M.o,Nat.le_refl _,Nat.le_refl _⟩;clear M0 SB H S M HC aH aM;generalize gH o w.heap.size (d+1)=o1 at*;generalize w.alloc (.cells (Fv ⟨true,true,true,true⟩) 243)=w1 at*;generalize w.heap.size=sb at*;go_wp2;go_loopw [25,10] (fun i v wr=>∃k o2 Y W st,k<=n/\i=.int .i64 (k:Int)/\v=.slice Y st.2.2.length W/\KB w o c d g sb n cap p T L cm now k wr o2 Y W st) (fun i _ _=>n-(intOf i).toNat);case atStart=>exact⟨0,_,_,_,_,by omega,rfl,rfl,GI.o⟩
 case round=>
  obtain⟨k,o2,Y,W,st,hk,rfl,rfl,gi⟩:=hrel;clear GI;have I:=hI gi;clear gi;by_cases aL:k<n
  .obtain⟨b,oo,e,hp,hx,c0,c1,c2,c3,c4,c5,c6⟩:=iE I.o.sl.sl k aL;have HX:=hI hx;clear hx;subst hp;obtain⟨q,r,t,l,y,z,m⟩:=e;simp only at c0 c1 c2 c3 c4 c5 c6;go_upto_region 9 with fail;change Code.wp _ _ _ _ (wr.alloc (.cells (dZ ⟨q,r,t,l,y,z,m⟩) 71));have EB:=hI (dq.loose I.o.fm.cl (dZ ⟨q,r,t,l,y,z,m⟩) (dY ⟨q,r,t,l,y,z,m⟩) 71 rfl);have I2:=hI (I.o.ext (db.alloc wr (.cells (dZ ⟨q,r,t,l,y,z,m⟩) 71)));clear I c0 c1 c2 c3 c4 c5 c6;generalize wr.alloc (.cells (dZ ⟨q,r,t,l,y,z,m⟩) 71)=w2 at*;generalize wr.heap.size=eb at*;have J:=EB.o.box.c 0 _ rfl;have K:=EB.o.box.c 1 _ rfl;have O:=EB.o.box.c 2 _ rfl;have F:=EB.o.box.c 3 _ rfl;have P:=EB.o.box.c 4 _ rfl;have Q:=EB.o.box.c 5 _ rfl;have R:=EB.o.box.c 6 _ rfl;go_wp2_with fail;refine(nT (e:=⟨q,r,t,l,y,z,m⟩) I2.o.q).mono ?_;rintro x w3 ⟨rfl,x3⟩;have aa:=hI (EB.o.ext x3);have I3:=hI (I2.o.ext x3);clear EB I2 x3 J K O F P Q R;obtain⟨B,hB⟩:∃B,B=st.2.1.any fun x=>dG x.e ⟨q,r,t,l,y,z,m⟩:=⟨_,rfl⟩;rw[<-hB];have HB:=hI hB;clear hB;have J:=aa.o.box.c 0 _ rfl;have K:=aa.o.box.c 1 _ rfl;have O:=aa.o.box.c 2 _ rfl;have F:=aa.o.box.c 3 _ rfl;have P:=aa.o.box.c 4 _ rfl;have Q:=aa.o.box.c 5 _ rfl;have R:=aa.o.box.c 6 _ rfl;cases B
   .obtain⟨⟨q1,q2,q3,q4⟩,V,O1⟩:=st;have s0:=I3.o.box.box.c 0 _ rfl;have s1:=I3.o.box.box.c 1 _ rfl;have s2:=I3.o.box.box.c 2 _ rfl;have s3:=I3.o.box.box.c 3 _ rfl;simp only at s0 s1 s2 s3;have an:=OK.o _ (List.mem_of_getElem? HX.o);simp only at an;have OE:=hI an;clear an;have hw:wrap64 ((k:Int)+1)=(k:Int)+1:=by unfold wrap64;omega
    have aP:¬cm<0:=by have:=CM.o;omega
    obtain⟨CC,ao⟩:∃CC:Int,CC=min (max cm 0) (n:Int):=⟨_,rfl⟩;have aC:=hI ao;by_cases aQ:(n:Int)<cm;case' pos=>have ax:Hid (CC=(n:Int)):=hI (by omega);clear ao;go_wp2_with fail;refine(wm (s:=⟨q1,q2,q3,q4⟩) (e:=⟨q,r,t,l,y,z,m⟩) (cm:=(n:Int)) NW.o ⟨OE.o.2.1,OE.o.2.2.1⟩).mono ?_;rintro x w4 ⟨rfl,G⟩;obtain⟨B2,am⟩:∃B2,B2=sP ⟨q1,q2,q3,q4⟩ ⟨q,r,t,l,y,z,m⟩ ((k:Int)+1) (n:Int) now:=⟨_,rfl⟩
    case' neg=>have ax:Hid (CC=cm):=hI (by omega);clear ao;go_wp2_with fail;refine(wm (s:=⟨q1,q2,q3,q4⟩) (e:=⟨q,r,t,l,y,z,m⟩) (cm:=cm) NW.o ⟨OE.o.2.1,OE.o.2.2.1⟩).mono ?_;rintro x w4 ⟨rfl,G⟩;obtain⟨B2,am⟩:∃B2,B2=sP ⟨q1,q2,q3,q4⟩ ⟨q,r,t,l,y,z,m⟩ ((k:Int)+1) cm now:=⟨_,rfl⟩
    all_goals
     rw[<-am];have al:Hid (B2=sP ⟨q1,q2,q3,q4⟩ ⟨q,r,t,l,y,z,m⟩ ((k:Int)+1) (min (max cm 0) (n:Int)) now):=hI (by rw[am,<-aC.o,ax.out]);clear am;have E:=hI (I3.o.ext G);have U:=hI (aa.o.ext G);clear G I3 aa J K O F P Q R s0 s1 s2 s3;have J:=U.o.box.c 0 _ rfl;have K:=U.o.box.c 1 _ rfl;have O:=U.o.box.c 2 _ rfl;have F:=U.o.box.c 3 _ rfl;have P:=U.o.box.c 4 _ rfl;have Q:=U.o.box.c 5 _ rfl;have R:=U.o.box.c 6 _ rfl;cases B2
     .go_wp2_with fail;refine(nT (e:=⟨q,r,t,l,y,z,m⟩) E.o.q).mono ?_;rw[<-HB.o];rintro x w5 ⟨rfl,x5⟩;have a:=hI (E.o.ext x5);have ak:=hI (U.o.ext x5);clear x5 E U J K O F P Q R;have F:=ak.o.box.c 3 _ rfl;simp only at F;have s0:=a.o.box.box.c 0 _ rfl;have s1:=a.o.box.box.c 1 _ rfl;have s2:=a.o.box.box.c 2 _ rfl;have s3:=a.o.box.box.c 3 _ rfl;have sf:=a.o.box.box.f;simp only at s0 s1 s2 s3;have aN:l=0\/l=1\/l=2:=by have:=OE.o.2.2.2;omega
      rcases aN with rfl|rfl|rfl
      .go_wp2;go_roundw
       case rel=>
        obtain⟨x1,x2,x3,G,x5⟩:=oC f.o 0 (.bool false) a.o.box a.o.q a.o.row a.o.sl a.o.fm;obtain⟨y1,y2,y3,y4,y5⟩:=oC f.o 1 (.bool false) x1 x2 x3 G x5;refine⟨k+1,o2,Y,W,(⟨false,false,q3,q4⟩,V,O1),by omega,by go_num,rfl,⟨?_,y1,y2,y3,y4,y5,by have:=a.o.lt;simp only at this⊢;omega,by have:=a.o.lo;simp only at this⊢;omega⟩⟩;rw[jF _ _ _ _ _ _ _ HX.o,<-a.o.eq];have X:=HB.o;have e2:=al.o;try simp only at X
        simp[jG,<-X,<-e2]
       case measure=>simp[intOf];omega
      .go_wp2;go_roundw
       case rel=>
        obtain⟨x1,x2,x3,G,x5⟩:=oC f.o 0 (.bool false) a.o.box a.o.q a.o.row a.o.sl a.o.fm;obtain⟨y1,y2,y3,y4,y5⟩:=oC f.o 2 (.bool false) x1 x2 x3 G x5;refine⟨k+1,o2,Y,W,(⟨false,q2,false,q4⟩,V,O1),by omega,by go_num,rfl,⟨?_,y1,y2,y3,y4,y5,by have:=a.o.lt;simp only at this⊢;omega,by have:=a.o.lo;simp only at this⊢;omega⟩⟩;rw[jF _ _ _ _ _ _ _ HX.o,<-a.o.eq];have X:=HB.o;have e2:=al.o;try simp only at X
        simp[jG,<-X,<-e2]
       case measure=>simp[intOf];omega
      .go_wp2;go_roundw
       case rel=>
        obtain⟨x1,x2,x3,G,x5⟩:=oC f.o 0 (.bool false) a.o.box a.o.q a.o.row a.o.sl a.o.fm;obtain⟨y1,y2,y3,y4,y5⟩:=oC f.o 3 (.bool false) x1 x2 x3 G x5;refine⟨k+1,o2,Y,W,(⟨false,q2,q3,false⟩,V,O1),by omega,by go_num,rfl,⟨?_,y1,y2,y3,y4,y5,by have:=a.o.lt;simp only at this⊢;omega,by have:=a.o.lo;simp only at this⊢;omega⟩⟩;rw[jF _ _ _ _ _ _ _ HX.o,<-a.o.eq];have X:=HB.o;have e2:=al.o;try simp only at X
        simp[jG,<-X,<-e2]
       case measure=>simp[intOf];omega
     .go_upto_region 11 with fail;change Code.wp _ _ _ _ (w4.alloc (.cells (wY ⟨(k:Int)+1,⟨q,r,t,l,y,z,m⟩⟩) 109));have D:=hI (dq.loose E.o.fm.cl (wY ⟨(k:Int)+1,⟨q,r,t,l,y,z,m⟩⟩) (r8 ⟨(k:Int)+1,⟨q,r,t,l,y,z,m⟩⟩) 109 rfl);have a:=hI (E.o.ext (db.alloc w4 (.cells (wY ⟨(k:Int)+1,⟨q,r,t,l,y,z,m⟩⟩) 109)));have ak:=hI (U.o.ext (db.alloc w4 (.cells (wY ⟨(k:Int)+1,⟨q,r,t,l,y,z,m⟩⟩) 109)));clear E U J K O F P Q R;generalize w4.alloc (.cells (wY ⟨(k:Int)+1,⟨q,r,t,l,y,z,m⟩⟩) 109)=w5 at*;generalize w4.heap.size=tb at*;obtain⟨pq,cq,hq⟩:=a.o.q;have HP:=hI hq;clear hq;have J:=D.o.box.c 0 _ rfl;have K:=D.o.box.c 1 _ rfl;have O:=D.o.box.c 2 _ rfl;have F:=D.o.box.c 3 _ rfl;have P:=D.o.box.c 4 _ rfl;have Q:=D.o.box.c 5 _ rfl;have R:=D.o.box.c 6 _ rfl;have d7:=D.o.box.c 7 _ rfl;have A:=hI (db.alloc w5 (.cells (wY ⟨(k:Int)+1,⟨q,r,t,l,y,z,m⟩⟩) 109));have Z:=hI (A.o.tr (db.drew (w5.alloc (.cells (wY ⟨(k:Int)+1,⟨q,r,t,l,y,z,m⟩⟩) 109))));have a0:=(D.o.ext A.o).box.c 0 _ rfl;have a1:=(D.o.ext A.o).box.c 1 _ rfl;have a2:=(D.o.ext A.o).box.c 2 _ rfl;have a3:=(D.o.ext A.o).box.c 3 _ rfl;have a4:=(D.o.ext A.o).box.c 4 _ rfl;have a5:=(D.o.ext A.o).box.c 5 _ rfl;have a6:=(D.o.ext A.o).box.c 6 _ rfl;have a7:=(D.o.ext A.o).box.c 7 _ rfl;have c0:=HP.o.box.box.c 0 _ rfl;have b0:=(HP.o.box.ext A.o).box.c 0 _ rfl;simp only at c0 b0;have aJ:V.length<=1000000:=by have h1:=a.o.lt;have h2:=HT.o;simp only at h1;omega
      go_region_law (refine iN (by rfl) _ _ _ (by rfl) 109 8 72 _ Tryz.underlying55 uB (by rfl) (by omega) (a.o.fm.cl.ext Z.o) (HP.o.row.ext Z.o) (by rfl) w5.heap.size 1 (r8 ⟨(k:Int)+1,⟨q,r,t,l,y,z,m⟩⟩) (by rfl) (by rfl) (fun j u hu=>gd (w:=w5) rfl j u hu) (yD [⟨(k:Int)+1,⟨q,r,t,l,y,z,m⟩⟩] (r8 ⟨(k:Int)+1,⟨q,r,t,l,y,z,m⟩⟩) (by simp)) (by simpa using aJ) (by omega) (by have:=f.o;omega) (fun x=>x=c+1) rfl ?_;intro p4 c4 o4 w6 r4 m4;have D4:=hI ((HP.o.box.ext Z.o).fr m4 (by have:=f.o;omega) (by omega));have b4:=D4.o.box.c 0 _ rfl;have aI:=D4.o.box.f 0)
      all_goals
       have ai:¬oA c d 0:=by have:=f.o;unfold oA;omega
       have F7:=hI (Fm.put (C:=fun x=>x=c) m4.cl D4.o (by have:=f.o;omega) rfl 0 (.slice p4 (V.length+1) c4));obtain⟨B5,R5,M5⟩:=ly (C:=oA c d) (j:=0) ai (a.o.fm.tr (Fm.ext a.o.fm.cl Z.o) ai) D4.o m4 r4 (by have:=f.o;omega) (by have:=f.o;omega) (.inl rfl) (.inr (.inl rfl)) (by omega) (.slice p4 (V.length+1) c4);have av:=hI (((a.o.box.ext Z.o).fr m4 (by have:=f.o;omega) (by have:=f.o;omega)).fr F7.o (by have:=f.o;omega) (by have:=f.o;omega));have au:=hI (((a.o.row.ext Z.o).fr m4 (by have:=f.o;omega) (by have:=f.o;omega)).fr F7.o (by have:=f.o;omega) (by have:=f.o;omega));have aw:=hI (((a.o.sl.ext Z.o).fr m4 (by have:=f.o;omega)).fr F7.o (by have:=f.o;omega));have ad:=hI (((D.o.ext Z.o).fr m4 (by have:=f.o;omega) (by have:=f.o;omega)).fr F7.o (by have:=f.o;omega) (by have:=f.o;omega));have ar:=hI (((ak.o.ext Z.o).fr m4 (by have:=f.o;omega) (by have:=f.o;omega)).fr F7.o (by have:=f.o;omega) (by have:=f.o;omega))
       have Q7:Hid (sU (w6.setCell ⟨g,0,none⟩ (.slice p4 (V.length+1) c4)) o4 c g (V++[⟨(k:Int)+1,⟨q,r,t,l,y,z,m⟩⟩])):=hI ⟨p4,c4,by simpa using B5,by simpa using R5,by
        have h1:=a.o.lt
        have h2:=HT.o
        simp only at h1
        simp
        omega⟩
       have M7:=hI M5;have LT:=hI (And.intro a.o.lt (And.intro a.o.lo a.o.eq));clear r4 m4 D4 b4 aI B5 R5 M5 A Z a0 a1 a2 a3 a4 a5 a6 a7 J K O F P Q R d7 c0 b0 F7 a D ak HP;generalize w6.setCell ⟨g,0,none⟩ (.slice p4 (V.length+1) c4)=w7 at*;have J:=ad.o.box.c 0 _ rfl;have K:=ad.o.box.c 1 _ rfl;have O:=ad.o.box.c 2 _ rfl;have F:=ad.o.box.c 3 _ rfl;have P:=ad.o.box.c 4 _ rfl;have Q:=ad.o.box.c 5 _ rfl;have R:=ad.o.box.c 6 _ rfl;have d7:=ad.o.box.c 7 _ rfl;have A:=hI (db.alloc w7 (.cells (wY ⟨(k:Int)+1,⟨q,r,t,l,y,z,m⟩⟩) 109));have aK:O1.length<=1000000:=by have h1:=LT.o.2.1;simp only at h1;omega
       go_wp2_with (at_builtin;refine lW rfl _ _ 55 rfl 109 8 72 _ Tryz.underlying55 uB (by rfl) (by omega) (M7.o.cl.ext A.o) (au.o.ext A.o) (by rfl) w7.heap.size 1 (r8 ⟨(k:Int)+1,⟨q,r,t,l,y,z,m⟩⟩) (by rfl) (by rfl) (fun j u hu=>gd (w:=w7) rfl j u hu) (yD [⟨(k:Int)+1,⟨q,r,t,l,y,z,m⟩⟩] (r8 ⟨(k:Int)+1,⟨q,r,t,l,y,z,m⟩⟩) (by simp)) (by simpa using aK) (by omega) (by have:=f.o;omega) (fun x=>x=d) rfl ?_);intro p6 c6 o6 w9 r9 f9;have Q9:=hI ((Q7.o.ext A.o).fr f9 (by have:=f.o;omega) (by have:=f.o;omega) (by have:=f.o;omega));have aF:=hI ((av.o.ext A.o).fr f9 (by have:=f.o;omega) (by have:=f.o;omega));have aG:=hI ((aw.o.ext A.o).fr f9 (by have:=f.o;omega));have ah:=hI ((ar.o.ext A.o).fr f9 (by have:=f.o;omega) (by have:=f.o;omega));have aE:=hI r9;have M9:=hI ((M7.o.tr (Fm.ext M7.o.cl A.o) ai).tr (f9.mono (fun x hx=> .inr (.inr (.inl hx)))) ai);clear r9 f9 Q7 av aw ar au M7 ad A J K O F P Q R d7;have J:=ah.o.box.c 0 _ rfl;have K:=ah.o.box.c 1 _ rfl;have O:=ah.o.box.c 2 _ rfl;have F:=ah.o.box.c 3 _ rfl;have P:=ah.o.box.c 4 _ rfl;have Q:=ah.o.box.c 5 _ rfl;have R:=ah.o.box.c 6 _ rfl;go_wp2_with fail;refine(nT (e:=⟨q,r,t,l,y,z,m⟩) Q9.o).mono ?_;have ap:((V++[(⟨(k:Int)+1,⟨q,r,t,l,y,z,m⟩⟩:iB)]).any fun x=>dG x.e ⟨q,r,t,l,y,z,m⟩)=true:=by simp[dG]
       rw[ap];have HA:=hI ap;clear ap;rintro x aR ⟨rfl,aj⟩;have aD:=hI (M9.o.tr (Fm.ext M9.o.cl aj) ai);go_wp2;go_roundw
       case rel=>
        refine⟨k+1,o6,p6,c6,(⟨q1,q2,q3,q4⟩,V++[⟨(k:Int)+1,⟨q,r,t,l,y,z,m⟩⟩],O1++[⟨(k:Int)+1,⟨q,r,t,l,y,z,m⟩⟩]),by omega,by go_num,by simp,⟨?_,aF.o.ext aj,Q9.o.ext aj,by simpa using aE.o.ext aj,aG.o.ext aj,aD.o,by have:=LT.o.1;simp at this⊢;omega,by have:=LT.o.2.1;simp at this⊢;omega⟩⟩;rw[jF _ _ _ _ _ _ _ HX.o,<-LT.o.2.2];have X:=HB.o;have e2:=al.o;try simp only at X
        exact(xG X.symm e2.symm HA.o).symm
       case measure=>simp[intOf];omega
   .go_wp2_with fail;refine(nT (e:=⟨q,r,t,l,y,z,m⟩) I3.o.q).mono ?_;rw[<-HB.o];rintro x w4 ⟨rfl,G⟩;have E:=hI (I3.o.ext G);clear G I3 aa J K O F P Q R;go_wp2;go_roundw;case rel=>refine⟨k+1,o2,Y,W,st,by omega,by go_num,rfl,⟨?_,E.o.box,E.o.q,E.o.row,E.o.sl,E.o.fm,by have:=E.o.lt;omega,by have:=E.o.lo;omega⟩⟩;rw[jF _ _ _ _ _ _ _ HX.o,<-E.o.eq];have:=HB.o;simp only[jG];rw[<-this];simp[<-this]
    case measure=>simp[intOf];omega
  .have az:k=n:=by omega
   have HK:=hI az;clear az;go_wp2;go_ret;have aO:st=iF cm now n 0 L (⟨true,true,true,true⟩,T,[]):=by rw[I.o.eq,List.take_of_length_le (by rw[N.o,HK.o];omega)]
   rw[<-aO];exact⟨o2,Y,W,rfl,I.o.row,I.o.q,I.o.fm⟩
end
end Go.Proofs.YtjhbmbbmjaabcaaGreat
