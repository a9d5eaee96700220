/-
  Contracts. Conditions stand at each.
-/
import Derived.Test.YtjhbmbbmjaabcaaGreatS2
set_option linter.all false
set_option maxRecDepth 8000
set_option maxHeartbeats 8000000
namespace Go.Proofs.YtjhbmbbmjaabcaaGreat
open Go Go.Sort Go.RowKit
section
variable{b:List UInt8} {e:dj} {k:Nat} {x:Int}
def gQ:List Int->List UInt8
 |[]=>[]
 |x::l=>kF (mG x)++gQ l
theorem pp(a b:List Int):gQ (a++b)=gQ a++gQ b:=by
 induction a with
 |nil=>rfl
 |cons x a c=>simp[gQ,c,List.append_assoc]
theorem oz{zs:List Int}(a:zs[k]? =some x):gQ (zs.take (k+1))=gQ (zs.take k)++kF (mG x):=by rw[List.take_add_one,a,pp];simp[gQ]
def pZ(e:dj):List Int:=[e.fr,e.bt,e.sq,e.od,e.lv,e.st]
def li(e:dj):List UInt8:=gQ (pZ e)++u' e.da.data.toList
def ft(l:List dj):List UInt8:=if l.all ec then(l.map li).flatten else []
theorem oW(s:ByteArray):s.data.toList.length=s.size:=by cases s;rfl
theorem eD(h:I64 x):(kF (mG x)).length<=10:=qc (pg h.1 h.2)
theorem He(h:eQ e)(f:e.da.size<=16):(li e).length<=100:=by obtain⟨h1,h2,h3,h4,h5,h6,d⟩:=h;have a1:=eD h1;have a2:=eD h2;have a3:=eD h3;have a4:=eD h4;have a5:=eD h5;have a:=eD h6;have g:=oW e.da;have c:(kF (mG (e.da.data.toList.length:Int))).length<=10:=eD ⟨by omega,by omega⟩;simp only[li,pZ,gQ,u',List.length_append,List.length_nil];omega
theorem rA(h:ec e=true):e.da.size<=16:=by simp only[ec,Bool.and_eq_true,decide_eq_true_eq]at h;exact h.2.2.2.2.2.2
theorem Hf(e:dj):0<(li e).length:=by have:=ur (mG e.fr);simp only[li,pZ,gQ,List.length_append];omega
def eJ(b:List UInt8):Nat->Option (List Int×Nat)
 |0=>some ([],0)
 |k+1=>match eJ b k with
  |none=>none
  |some (l,i)=>if(eO (b.drop i)).2.2=0 then some (l++[(eO (b.drop i)).1],i+(eO (b.drop i)).2.1)else none
def lK(b:List UInt8):Option (dj×Nat):=
 match eJ b 6 with
 |some ([a,c,d,f,g,h],i)=>if(fX (b.drop i)).2.2=0 then some (⟨a,c,d,f,g,h,⟨(fX (b.drop i)).1.toArray⟩⟩,i+(fX (b.drop i)).2.1)else none
 |_=>none
theorem rI{s:List UInt8}{a c d f g j:Int}{i:Nat}(h:eJ b 6=some ([a,c,d,f,g,j],i))(l:fX (b.drop i)=(s,k,0)):lK b=some (⟨a,c,d,f,g,j,⟨s.toArray⟩⟩,i+k):=by unfold lK;rw[h];simp only;rw[if_pos (by rw[l]),l]
theorem ER{a c d f g j:Int}{i:Nat}(h:eJ b 6=some ([a,c,d,f,g,j],i))(l:(fX (b.drop i)).2.2≠0):lK b=none:=by unfold lK;rw[h];simp only;rw[if_neg l]
theorem lO{b:List UInt8}{k:Nat}:∀m,k<=m->eJ b k=none->eJ b m=none
 |0,a,h=>by
  obtain rfl:k=0:=by omega
  exact h
 |m+1,a,h=>by
  rcases Nat.lt_or_ge k (m+1)with h1|h1;·rw[eJ,lO m (by omega) h]
  .obtain rfl:k=m+1:=by omega
   exact h
theorem Ir(a:k<=6)(h:eJ b k=none):lK b=none:=by unfold lK;rw[lO 6 a h]
theorem kA{b:List UInt8}:∀{k:Nat} {l:List Int} {i:Nat},eJ b k=some (l,i)->l.length=k/\(∀x∈l,I64 x)/\k<=i/\i<=b.length
 |0,l,i,h=>by
  simp[eJ]at h;obtain⟨rfl,rfl⟩:=h;exact⟨rfl,(fun x a=>by cases a),Nat.le_refl _,Nat.zero_le _⟩
 |k+1,l,i,h=>by
  rw[eJ]at h
  cases c:eJ b k with
  |none=>rw[c]at h;cases h
  |some q=>
   obtain⟨r,n⟩:=q;rw[c]at h;simp only at h;obtain⟨h1,h2,h3,h4⟩:=kA c;split at h
   .rename_i p;simp at h;obtain⟨rfl,rfl⟩:=h;rcases nD (b.drop n)with⟨f,g,d,o,j,m⟩|⟨f,g,d⟩
    .rw[List.length_drop]at d;refine⟨by simp[h1],fun x a=>?_,by omega,by omega⟩;rcases List.mem_append.1 a with a|a;·exact h2 x a
     .simp at a;subst a;exact⟨j,m⟩
    .omega
   .cases h
theorem lN{zs:List Int}(d:∀x∈zs,I64 x)(rest:List UInt8):∀k,k<=zs.length->eJ (gQ zs++rest) k=some (zs.take k,(gQ (zs.take k)).length)
 |0,_=>by simp[eJ,gQ]
 |k+1,g=>by
  have c:zs[k]? =some zs[k]:=List.getElem?_eq_getElem (by omega)
  have f:(gQ zs++rest).drop (gQ (zs.take k)).length=kF (mG zs[k])++(gQ (zs.drop (k+1))++rest):=by
   have e:gQ zs=gQ (zs.take k)++(kF (mG zs[k])++gQ (zs.drop (k+1))):=by
    have h1:zs=zs.take k++(zs[k]::zs.drop (k+1)):=by rw[<-List.drop_eq_getElem_cons (by omega),List.take_append_drop]
    have h2:=congrArg gQ h1;rw[pp]at h2;exact h2
   rw[e,List.append_assoc,List.drop_left,List.append_assoc]
  have a:=d zs[k] (List.getElem_mem _);rw[eJ,lN d rest k (by omega)];simp only;rw[f,vH (pg a.1 a.2)];simp only[if_true,t6];rw[oz c,List.length_append,List.take_add_one,c];rfl
theorem Ao(b:List UInt8):((fX b).2.2=0->(fX b).2.1<=b.length/\(fX b).1.length<=65536):=by
 intro h;unfold fX at h⊢;split at h;·rename_i h1;exact absurd h h1
 .split at h;·cases h
  .split at h;·cases h
   .rename_i h1 h2 h3;rw[if_neg h1,if_neg h2,if_neg h3];rcases nD b with⟨a,c,d,f,g,i⟩|⟨a,c,d⟩;·simp only[List.length_take,List.length_drop];omega
    .omega
theorem zU(h:lK b=some (e,k)):eQ e/\6<=k/\k<=b.length:=by
 unfold lK at h;split at h
 .rename_i f g j l m n i a;obtain⟨h1,h2,h3,h4⟩:=kA a;split at h;·rename_i c;simp at h;obtain⟨rfl,rfl⟩:=h;obtain⟨d,o⟩:=Ao _ c;rw[List.length_drop]at d;refine⟨⟨h2 _ (by simp),h2 _ (by simp),h2 _ (by simp),h2 _ (by simp),h2 _ (by simp),h2 _ (by simp),?_⟩,by omega,by omega⟩;show(fX (b.drop i)).1.toArray.size<=_;simp;omega
  .cases h
 .cases h
theorem EP(f:eQ e)(i:e.da.size<=16)(rest:List UInt8):lK (li e++rest)=some (e,(li e).length):=by
 have g:∀x∈pZ e,I64 x:=by obtain⟨h1,h2,h3,h4,h5,h6,a⟩:=f;intro x c;simp[pZ]at c;rcases c with rfl|rfl|rfl|rfl|rfl|rfl<;>assumption
 have h6:=lN g (u' e.da.data.toList++rest) 6 (by simp[pZ]);have d:(pZ e).take 6=pZ e:=List.take_of_length_le (by simp[pZ]);rw[d]at h6;have h:=oW e.da;have a:eJ (li e++rest) 6=some ([e.fr,e.bt,e.sq,e.od,e.lv,e.st],(gQ (pZ e)).length):=by rw[li,List.append_assoc];exact h6
 have h8:fX ((li e++rest).drop (gQ (pZ e)).length)=(e.da.data.toList,(u' e.da.data.toList).length,0):=by rw[li,List.append_assoc,List.drop_left,Cn (by omega)]
 rw[rI a h8,li,List.length_append]
def mD(b:List UInt8):Nat->Nat->List dj->Option (List dj)
 |0,_,_=>none
 |f+1,i,L=>if i<b.length then match lK (b.drop i)with
   |none=>none
   |some (e,k)=>mD b f (i+k) (L++[e])
  else some L
def pV(b:List UInt8):Option (List dj):=
 match mD b (b.length+1) 0 []with
 |none=>none
 |some L=>if ft L=b then some L else none
theorem zi(l:List dj)(h:∀e∈l,eQ e/\e.da.size<=16):∀(m f:Nat),m<=l.length->((l.map li).flatten).length-(((l.take (l.length-m)).map li).flatten).length<f->
  mD (l.map li).flatten f (((l.take (l.length-m)).map li).flatten).length (l.take (l.length-m))=some l
 |0,f,r,c=>by
  obtain⟨a,rfl⟩:∃a,f=a+1:=⟨f-1,by omega⟩;rw[Nat.sub_zero,List.take_length,mD,if_neg (Nat.lt_irrefl _)]
 |m+1,f,r,c=>by
  obtain⟨a,rfl⟩:∃a,f=a+1:=⟨f-1,by omega⟩;obtain⟨j,q⟩:∃j,j=l.length-(m+1):=⟨_,rfl⟩;have n:l.length-m=j+1:=by omega
  have d:j<l.length:=by omega
  rw[<-q]at c⊢
  have i:(l.map li).flatten=((l.take j).map li).flatten++(li l[j]++((l.drop (j+1)).map li).flatten):=by
   have h1:l=l.take j++(l[j]::l.drop (j+1)):=by rw[<-List.drop_eq_getElem_cons d,List.take_append_drop]
   conv=>lhs;rw[h1]
   rw[List.map_append,List.flatten_append,List.map_cons,List.flatten_cons]
  have o:((l.take (j+1)).map li).flatten=((l.take j).map li).flatten++li l[j]:=by rw[List.take_succ_eq_append_getElem d,List.map_append,List.flatten_append,List.map_cons,List.map_nil,List.flatten_cons,List.flatten_nil,List.append_nil]
  have u:=Hf l[j];obtain⟨s,t⟩:=h l[j] (List.getElem_mem _)
  have g:=zi l h m a (by omega) (by
   rw[n,o,List.length_append]
   have:=congrArg List.length i
   simp only[List.length_append]at this c
   omega)
  rw[n]at g;rw[mD,if_pos (by have:=congrArg List.length i;simp only[List.length_append]at this;omega)];have p:((l.map li).flatten).drop (((l.take j).map li).flatten).length=li l[j]++((l.drop (j+1)).map li).flatten:=by rw[i,List.drop_left]
  rw[p,EP s t];simp only;rw[o,List.length_append,List.take_succ_eq_append_getElem d]at g;exact g
theorem Dq{l:List dj}(h:∀e∈l,eQ e)(d:l.all ec=true):pV (ft l)=some l:=by
 have a:ft l=(l.map li).flatten:=by unfold ft;rw[if_pos d]
 have h2:∀e∈l,eQ e/\e.da.size<=16:=fun e c=>⟨h e c,rA (List.all_eq_true.1 d e c)⟩;have:=zi l h2 l.length ((ft l).length+1) (Nat.le_refl _) (by rw[a];omega);rw[Nat.sub_self,List.take_zero,<-a]at this;unfold pV;rw[show mD (ft l) ((ft l).length+1) 0 []=some l from this];simp
end
section
variable{L:List dj} {p:Option Addr} {w:World} {k cap:Nat} {e:dj}
theorem iE{n:Nat}(h:SlS 7 w p n cap (L.map dY))(k:Nat)(f:k<n):
  ∃b o e,p=some ⟨b,o,none⟩/\L[k]? =some e/\w.cell? ⟨b,o+k*7,none⟩=some (.int .i64 e.fr)/\w.cell? ⟨b,o+k*7+1,none⟩=some (.int .i64 e.bt)/\w.cell? ⟨b,o+k*7+2,none⟩=some (.int .i64 e.sq)/\
   w.cell? ⟨b,o+k*7+3,none⟩=some (.int .i64 e.od)/\w.cell? ⟨b,o+k*7+4,none⟩=some (.int .i64 e.lv)/\w.cell? ⟨b,o+k*7+5,none⟩=some (.int .i64 e.st)/\w.cell? ⟨b,o+k*7+6,none⟩=some (.string e.da):=by
 obtain⟨b,o,x,g,c,-,a⟩:=h.at k f
 rw[List.getElem?_map]at c
 obtain⟨e,d,rfl⟩:=Option.map_eq_some_iff.1 c
 exact⟨b,o,e,g,d,a 0 _ rfl,a 1 _ rfl,a 2 _ rfl,a 3 _ rfl,a 4 _ rfl,a 5 _ rfl,a 6 _ rfl⟩
theorem it{n:Nat}(h:SlS 7 w p n cap (L.map dY)):L.length=n:=by have:=h.len;simpa using this
theorem Lg(a b c d f g:Int)(k:Nat)(h:k<6):∃x,[a,b,c,d,f,g][k]? =some x/\∀w,(Instr.index 176 (.agg #[.int .i64 a,.int .i64 b,.int .i64 c,.int .i64 d,.int .i64 f,.int .i64 g]) (.int .i64 (k:Int))).run Tryz.prog w=.ok (.int .i64 x) w:=by
 match k,h with
 |0,_=>exact⟨a,rfl,fun _=>by kernel_rfl⟩
 |1,_=>exact⟨b,rfl,fun _=>by kernel_rfl⟩
 |2,_=>exact⟨c,rfl,fun _=>by kernel_rfl⟩
 |3,_=>exact⟨d,rfl,fun _=>by kernel_rfl⟩
 |4,_=>exact⟨f,rfl,fun _=>by kernel_rfl⟩
 |5,_=>exact⟨g,rfl,fun _=>by kernel_rfl⟩
theorem qT(h:L[k]? =some e):((L.take (k+1)).map li).flatten=((L.take k).map li).flatten++li e:=by rw[List.take_add_one,h,List.map_append,List.flatten_append];simp
theorem Ex(h:L[k]? =some e)(b:(L.take k).all ec=true)(a:ec e=true):(L.take (k+1)).all ec=true:=by rw[List.take_add_one,h,List.all_append,b];simp[a]
theorem Hg(h:L[k]? =some e)(a:ec e=false):ft L=[]:=by unfold ft;rw[if_neg];intro b;have:=List.all_eq_true.1 b e (List.mem_of_getElem? h);rw[a]at this;cases this
theorem Ly(b:eQ e){x:Int}(h:[e.fr,e.bt,e.sq,e.od,e.lv,e.st][k]? =some x):I64 x:=by obtain⟨h1,h2,h3,h4,h5,h6,c⟩:=b;have a:=List.mem_of_getElem? h;simp at a;rcases a with rfl|rfl|rfl|rfl|rfl|rfl<;>assumption
theorem Dx{zs:List Int}(h:∀x∈zs,I64 x):(gQ zs).length<=10*zs.length:=by
 induction zs with
 |nil=>simp[gQ]
 |cons x r b=>
  have h1:=eD (h x (by simp));have h2:=b (fun y a=>h y (by simp[a]));simp only[gQ,List.length_append,List.length_cons];omega
theorem db.gr{a b:World}{d:Option Addr}{n:Nat}{l:List UInt8}(h:db a w)(c:gK w a.heap.size p n cap l)(g:Gr w b (p.map (·.block)) d):db a b:=db.own h c g.1 rfl
theorem mW{n:Nat}(h:SlS 7 w p n cap (L.map dY))(hL:∀e∈L,eQ e)(hn:n<=1000):
  Calls Tryz.prog 92 #[.slice p n cap] w fun e w'=>∃c y,e=.returned (.slice c (ft L).length y)/\gK w' w.heap.size c (ft L).length y (ft L)/\db w w':=by
 have an:=h.le;have S:=hI h;have HL:=hI hL;have N:=hI (it h);clear h hL;obtain⟨R,hR⟩:∃R,R=ft L:=⟨_,rfl⟩;rw[<-hR];have HR:=hI hR;clear hR;go_enter Tryz.func92,Tryz.ntmps92;go_wp2;go_loopw [3,10] (fun v i wr=>∃(k F:Nat) (c:Option Addr) (y:Nat),k<=n/\i=.int .i64 (k:Int)/\v=.slice c F y/\F<=100*k/\gK wr w.heap.size c F y ((L.take k).map li).flatten/\(L.take k).all ec=true/\db w wr) (fun _ i _=>n-(intOf i).toNat);case atStart=>exact⟨0,0,none,0,by omega,rfl,rfl,by omega,gK.nil _ _,rfl,db.rfl' _⟩
 case round=>
  obtain⟨k,F,c,y,hk,rfl,rfl,aq,ho,Y,x1⟩:=hrel;obtain⟨B,rfl⟩:∃B:World,B=wr:=⟨_,rfl⟩;have O:=hI ho;have M:=hI Y;have X:=hI x1;clear ho Y x1;by_cases am:k<n
  .obtain⟨b,o,e,hp,u,G,H,d,a,I,J,z⟩:=iE (S.o.ext X.o) k am;have U:=hI (HL.o e (List.mem_of_getElem? u));have P:=hI u;clear u;subst hp;obtain⟨f,g,l,r,s,t,D⟩:=e;simp only at G H d a I J z;have Q:=hI (fun w=>kY (w:=w) U.o);have D1:=hI (eB.new B ⟨f,g,l,r,s,t,D⟩ 71);have A1:=hI (db.alloc B (.cells (dZ ⟨f,g,l,r,s,t,D⟩) 71));cases A:ec ⟨f,g,l,r,s,t,D⟩
   .have W:R=[]:=by rw[HR.o];exact Hg P.o A
    subst W;rw[A]at Q;clear A;go_wp2_with fail;refine(Q.o _).mono ?_;rintro x w4 ⟨rfl,C⟩;have V:=hI (X.o.tr (A1.o.tr C));clear C;go_wp2;go_ret;exact⟨none,0,rfl,gK.nil _ _,V.o⟩
   .have ai:=hI A;have ae:=rA A;simp only at ae;rw[A]at Q;clear A;go_wp2_with fail;refine(Q.o _).mono ?_;rintro x w4 ⟨rfl,C⟩;have V:=hI (X.o.tr (A1.o.tr C));have T:=hI (O.o.ext (A1.o.tr C));have D4:=hI (D1.o.ext C);have NE:Hid (∀q,c.map (·.block)=some q->q<B.heap.size):=hI (fun q hq=>(O.o.lt q hq).2);have W4:Hid (B.heap.size<w4.heap.size):=hI (World.block_lt_of_cell? w4 _ D4.o.c0);clear C D1 G H d a I J z;obtain⟨G,H,d,a,I,J,z⟩:=D4.o;simp only at G H d a I J z;go_wp2;clear G H d a I J z;go_loopw [3,30] (fun v i wr=>∃(m E:Nat) (Z:Option Addr) (d:Nat),m<=6/\i=.int .i64 (m:Int)/\v=.slice Z E d/\gK wr w.heap.size Z E d (((L.take k).map li).flatten++gQ ([f,g,l,r,s,t].take m))/\Gr w4 wr (c.map (·.block)) Z) (fun _ i _=>6-(intOf i).toNat);case atStart=>exact⟨0,F,c,y,by omega,rfl,rfl,by simpa [gQ]using T.o,Gr.refl _ _⟩
    case round=>
     obtain⟨wi,rfl⟩:∃wi:World,wi=wr:=⟨_,rfl⟩;obtain⟨m,E,Z,d,ao,rfl,rfl,ad,g2⟩:=hrel;have O2:=hI ad;have G2:=hI g2
     have ap:E<=100*k+60:=by
      have h1:=ad.len;have h2:=T.o.len
      have h3:=Dx (zs:=[f,g,l,r,s,t].take m) (fun x u=>by
       obtain⟨j,hj⟩:=List.getElem?_of_mem (List.mem_of_mem_take u)
       exact Ly U.o hj)
      have h4:([f,g,l,r,s,t].take m).length<=6:=by simp;omega
      rw[List.length_append]at h1;omega
     have ah:Hid (w.heap.size<=wi.heap.size):=hI (Nat.le_trans V.o.size g2.1.size);clear ad g2;by_cases Y:m<6
     .obtain⟨x,u,ak⟩:=Lg f g l r s t m Y;have IX:=hI (Ly U.o u);have aj:=hI u;clear u;go_wp2_with fail;refine(Kk O2.o ah.out (by omega) IX.o.1 IX.o.2).mono ?_;rintro e w5 ⟨p3,a,rfl,K,g3⟩;have O3:=hI K;have G3:=hI (G2.o.tr g3);clear K g3 ak;go_wp2;go_roundw;case rel=>exact⟨m+1,_,p3,a,by omega,by go_num,rfl,by rw[oz aj.o,<-List.append_assoc];exact O3.o,G3.o⟩
      case measure=>simp[intOf];omega
     .have ag:[f,g,l,r,s,t].take m=[f,g,l,r,s,t]:=List.take_of_length_le (by simp;omega);rw[ag]at O2;clear ag;have z:wi.cell? ⟨B.heap.size,6,none⟩=some (.string D):=G2.o.cell D4.o.c6 (fun e=>by have:=NE.o _ e.symm;simp at this);go_wp2_with fail;refine(wh O2.o ah.out (by omega) (by omega)).mono ?_;rintro e w5 ⟨p3,a,rfl,K,b3⟩;have X5:=hI (Below.trans (db.gr V.o T.o G2.o) b3)
      have O5:Hid (gK w5 w.heap.size p3 (E+(u' D.data.toList).length) a (((L.take (k+1)).map li).flatten)):=hI (by
       rw[qT P.o,li,<-List.append_assoc]
       exact K)
      have hb:E+(u' D.data.toList).length<=100*(k+1):=by have h1:=O5.o.len;rw[qT P.o,List.length_append]at h1;have h2:=T.o.len;have h3:=He U.o ae;omega
      clear K b3 z;go_wp2;go_roundw;case rel=>exact⟨k+1,_,p3,a,by omega,by go_num,rfl,hb,O5.o,Ex P.o M.o ai.o,X5.o⟩
      case measure=>simp[intOf];omega
  .have af:L.take k=L:=List.take_of_length_le (by rw[N.o];omega);rw[af]at O M;have W:R=(L.map li).flatten:=by rw[HR.o];unfold ft;rw[if_pos M.o]
   rw[<-W]at O;have al:F=R.length:=O.o.len.symm;subst al;clear af W;go_wp2;go_ret;exact⟨c,y,rfl,O.o,X.o⟩
end
section
variable{w:World} {g:Nat} {v:Value} {e:dj}
def Jg(w:World)(g:Nat)(f:Nat->Int):Prop:=∀j,j<6->w.cell? ⟨g,j,none⟩=some (.int .i64 (f j))/\w.frozen? ⟨g,j,none⟩=false
theorem Jg.put{f:Nat->Int}(h:Jg w g f)(k:Nat)(b:k<6)(v:Int):Jg (w.setCell ⟨g,k,none⟩ (.int .i64 v)) g (fun j=>if j=k then v else f j):=fun j a=>by
 obtain⟨h1,h2⟩:=h j a;refine⟨?_,by simp[h2]⟩;by_cases e:j=k;·subst e;simp only[if_true];exact World.cell?_setCell_same (h:=h1) ..
 .simp only[if_neg e];rw[World.cell?_setCell_other (h:=by simp[*])];exact h1
theorem Jg.new(w:World)(g:Nat)(t:TypeId)(a:g=w.heap.size):Jg (w.alloc (.cells #[.int .i64 0,.int .i64 0,.int .i64 0,.int .i64 0,.int .i64 0,.int .i64 0] t)) g (fun j=>([]:List Int).getD j 0):=by
 subst a
 intro j b
 refine⟨?_,World.frozen?_alloc_at _ _ _ _ rfl⟩
 rw[World.cell?_alloc_mark]
 match j,b with
 |0,_=>rfl
 |1,_=>rfl
 |2,_=>rfl
 |3,_=>rfl
 |4,_=>rfl
 |5,_=>rfl
structure jX (w:World) (g:Nat) (e:dj):Prop where
 box:eB w g e
 f:∀j,w.frozen? ⟨g,j,none⟩=false
theorem jX.ext{a:World}(h:jX w g e)(k:db w a):jX a g e:=⟨h.box.ext k,fun j=>by rw[Below.frozen k (p:=⟨g,j,none⟩) (World.block_lt_of_cell? w ⟨g,0,none⟩ h.box.c0)];exact h.f j⟩
theorem jX.new(w:World)(e:dj)(t:TypeId)(g:Nat)(a:g=w.heap.size):jX (w.alloc (.cells (dZ e) t)) g e:=by subst a;exact⟨eB.new w e t,fun j=>World.frozen?_alloc_at _ _ _ _ rfl⟩
theorem jX.other{b k:Nat}(h:jX w g e)(c:g≠b):jX (w.setCell ⟨b,k,none⟩ v) g e:=by have a:∀j,(w.setCell ⟨b,k,none⟩ v).cell? ⟨g,j,none⟩=w.cell? ⟨g,j,none⟩:=fun j=>World.cell?_setCell_other (h:=by simp[*]) ..;refine⟨⟨(a 0).trans h.box.c0,(a 1).trans h.box.c1,(a 2).trans h.box.c2,(a 3).trans h.box.c3,(a 4).trans h.box.c4,(a 5).trans h.box.c5,(a 6).trans h.box.c6⟩,fun j=>by simp[h.f j]⟩
def kr(w:World)(g:Nat)(e:dj):World:=((((((w.setCell ⟨g,0,none⟩ (.int .i64 e.fr)).setCell ⟨g,1,none⟩ (.int .i64 e.bt)).setCell ⟨g,2,none⟩ (.int .i64 e.sq)).setCell ⟨g,3,none⟩ (.int .i64 e.od)).setCell ⟨g,4,none⟩ (.int .i64 e.lv)).setCell ⟨g,5,none⟩ (.int .i64 e.st)).setCell ⟨g,6,none⟩ (.string e.da)
theorem iJ{j:Nat}{u:Value}(h:w.cell? ⟨g,j,none⟩=some u):(w.setCell ⟨g,j,none⟩ v).cell? ⟨g,j,none⟩=some v:=World.cell?_setCell_same (h:=h) ..
theorem du{j k:Nat}(h:j≠k):(w.setCell ⟨g,k,none⟩ v).cell? ⟨g,j,none⟩=w.cell? ⟨g,j,none⟩:=World.cell?_setCell_other (h:=by simp[*]) ..
theorem jX.fill{d:dj}(h:jX w g d)(e:dj):eB (kr w g e) g e:=by
 obtain⟨⟨a,b1,b2,b3,b4,b,c⟩,-⟩:=h;unfold kr;constructor;·rw[du (by omega),du (by omega),du (by omega),du (by omega),du (by omega),du (by omega)];exact iJ a
 .rw[du (by omega),du (by omega),du (by omega),du (by omega),du (by omega)];exact iJ (by rw[du (by omega)];exact b1)
 .rw[du (by omega),du (by omega),du (by omega),du (by omega)];exact iJ (by rw[du (by omega),du (by omega)];exact b2)
 .rw[du (by omega),du (by omega),du (by omega)];exact iJ (by rw[du (by omega),du (by omega),du (by omega)];exact b3)
 .rw[du (by omega),du (by omega)];exact iJ (by rw[du (by omega),du (by omega),du (by omega),du (by omega)];exact b4)
 .rw[du (by omega)];exact iJ (by rw[du (by omega),du (by omega),du (by omega),du (by omega),du (by omega)];exact b)
 .exact iJ (by rw[du (by omega),du (by omega),du (by omega),du (by omega),du (by omega),du (by omega)];exact c)
theorem jB{base:Nat}{b:World}(h:Below base b w)(a:base<=g)(e:dj):Below base b (kr w g e):=
 ((((((h.setCell a _).setCell a _).setCell a _).setCell a _).setCell a _).setCell a _).setCell a _
def dx:dj:=⟨0,0,0,0,0,0,ByteArray.empty⟩
def uI(b:List UInt8):dj:=match lK b with
 |some (e,_)=>e
 |none=>dx
def uJ(b:List UInt8):Nat:=match lK b with
 |some (_,k)=>k
 |none=>0
theorem zV{w:World}{p:Option Addr}{n cap:Nat}{l:List UInt8}(h:j' w p n cap l)(hn:n<=70368744177664):
  Calls Tryz.prog 91 #[.slice p n cap] w fun e w'=>e=.returned (.tuple #[jT (uI l),.int .i64 (uJ l:Int)])/\db w w':=by
 have am:=h.le;have ao:=h.max;have H:=hI h;have HL:=hI h.len;clear h;obtain⟨E,hE⟩:∃E,E=uI l:=⟨_,rfl⟩;obtain⟨K,hK⟩:∃K,K=uJ l:=⟨_,rfl⟩;rw[<-hE,<-hK];have HE:=hI hE;have HK:=hI hK;clear hE hK;go_enter Tryz.func91,Tryz.ntmps91;go_wp2;have X0:Hid (db w ((w.alloc (.cells (dZ dx) 71)).alloc (.cells #[.int .i64 0,.int .i64 0,.int .i64 0,.int .i64 0,.int .i64 0,.int .i64 0] 176))):=hI ((db.alloc w _).tr (db.alloc _ _));have T0:Hid (jX ((w.alloc (.cells (dZ dx) 71)).alloc (.cells #[.int .i64 0,.int .i64 0,.int .i64 0,.int .i64 0,.int .i64 0,.int .i64 0] 176)) w.heap.size dx):=hI ((jX.new w dx 71 _ rfl).ext (db.alloc _ _));have S0:Hid (Jg ((w.alloc (.cells (dZ dx) 71)).alloc (.cells #[.int .i64 0,.int .i64 0,.int .i64 0,.int .i64 0,.int .i64 0,.int .i64 0] 176)) (w.heap.size+1) (fun j=>([]:List Int).getD j 0)):=hI (Jg.new (w.alloc (.cells (dZ dx) 71)) (w.heap.size+1) _ (by simp));go_loopw [5,13] (fun aj i wr=>∃(k x:Nat) (B:List Int),k<=6/\i=.int .i64 (k:Int)/\aj=.int .i64 (x:Int)/\eJ l k=some (B,x)/\Jg wr (w.heap.size+1) (fun j=>B.getD j 0)/\jX wr w.heap.size dx/\Below w.heap.size w wr) (fun _ i _=>6-(intOf i).toNat);case atStart=>exact⟨0,0,[],by omega,rfl,rfl,rfl,S0.o,T0.o,X0.o⟩
 case round=>
  clear X0 T0 S0;obtain⟨k,x,B,hk,rfl,rfl,hp,s1,t1,x1⟩:=hrel;obtain⟨ai,ah,-,ae⟩:=kA hp;rw[HL.o]at ae;have P:=hI hp;have S:=hI s1;have T:=hI t1;have X:=hI x1;have ZI:=hI ah;have ZL:=hI ai;clear hp s1 t1 x1 ah ai;have D:=hI ((H.o.ext X.o).drop x ae);have cf:=fun w=>jm (P:=Tryz.prog) 72 5 Tryz.underlying72 Kz p n cap x ae w;by_cases ag:k<6
  .obtain⟨v,hv⟩:∃v,v=(eO (l.drop x)).1:=⟨_,rfl⟩;obtain⟨c,Q⟩:∃c,c=(eO (l.drop x)).2.1:=⟨_,rfl⟩;obtain⟨r,hr⟩:∃r,r=(eO (l.drop x)).2.2:=⟨_,rfl⟩;have GI:=nD (l.drop x);rw[<-hv,<-Q,<-hr,List.length_drop,HL.o]at GI;have HV:=hI hv;have U:=hI Q;have A:=hI hr;clear hv Q hr;by_cases m:r=0
   .subst m;have an:c<=n-x:=by omega
    have al:c<=10:=by omega
    clear GI
    have P2:Hid (eJ l (k+1)=some (B++[v],x+c)):=hI (by
     rw[eJ,P.o];simp only
     rw[if_pos A.o.symm,<-HV.o,<-U.o])
    obtain⟨q1,q2⟩:=S.o k ag;go_wp2_with fail;refine(nF D.o (by omega)).mono ?_;rw[<-HV.o,<-U.o,<-A.o];rintro e w2 ⟨rfl,rfl⟩;go_wp2;go_roundw
    case rel=>
     refine⟨k+1,x+c,B++[v],by omega,by go_num,by go_num,P2.o,?_,T.o.other (by omega),X.o.setCell (by simp) _⟩
     have e:(fun j=>(B++[v]).getD j 0)=(fun j=>if j=k then v else B.getD j 0):=by
      funext j;have hl:=ZL.o;rcases Nat.lt_or_ge j k with h1|h1;·rw[if_neg (by omega),List.getD_eq_getElem?_getD,List.getD_eq_getElem?_getD,List.getElem?_append_left (by omega)]
      .by_cases h2:j=k;·subst h2;rw[if_pos rfl,List.getD_eq_getElem?_getD,List.getElem?_append_right (by omega),hl,Nat.sub_self];rfl
       .rw[if_neg h2,List.getD_eq_getElem?_getD,List.getD_eq_getElem?_getD,List.getElem?_eq_none (by simp;omega),List.getElem?_eq_none (by omega)]
     rw[e];exact S.o.put k ag v
    case measure=>simp[intOf];omega
   .have h1:(r !=0)=true:=bne_iff_ne.2 m;have h2:(r==0)=false:=beq_eq_false_iff_ne.2 m
    have V:lK l=none:=Ir (k:=k+1) (by omega) (by
     rw[eJ,P.o];simp only
     rw[if_neg (by rw[<-A.o];exact m)])
    have W:E=dx:=by rw[HE.o];unfold uI;rw[V]
    have Y:K=0:=by rw[HK.o];unfold uJ;rw[V]
    subst W Y;clear m V GI;obtain⟨⟨b0,b1,b2,b3,b4,b5,b6⟩,bf⟩:=T.o;go_wp2_with fail;refine(nF D.o (by omega)).mono ?_;rw[<-HV.o,<-U.o,<-A.o];rintro e w2 ⟨rfl,rfl⟩;go_wp2;obtain⟨R,Z⟩:∃R,R=kr wr w.heap.size dx:=⟨_,rfl⟩;change bodyPost _ _ _ Exit.ret _ (kr wr w.heap.size dx);have C:=T.o.fill dx;have F:=hI (jB X.o (Nat.le_refl _) dx);rw[<-Z]at C F⊢;obtain⟨G,I,J,L,M,N,O⟩:=C;simp only[dx]at G I J L M N O;exact bodyPost_ret (v:=.tuple #[jT dx,.int .i64 0]) (by simp[results,Tryz.results91,go_sem,G,I,J,L,M,N,O,dx]) rfl ⟨rfl,F.o⟩
  .have ak:k=6:=by omega
   subst ak
   obtain⟨o,q,t,u,y,z,rfl⟩:∃o q t u y z,B=[o,q,t,u,y,z]:=by
    have hl:=ZL.o
    match B,hl with
    |[a,b,c,d,e,f],_=>exact⟨a,b,c,d,e,f,rfl⟩
   obtain⟨c0,-⟩:=S.o 0 (by omega);obtain⟨c1,-⟩:=S.o 1 (by omega);obtain⟨c2,-⟩:=S.o 2 (by omega);obtain⟨c3,-⟩:=S.o 3 (by omega);obtain⟨c4,-⟩:=S.o 4 (by omega);obtain⟨c5,-⟩:=S.o 5 (by omega);change wr.cell? _=some (.int .i64 o)at c0;change wr.cell? _=some (.int .i64 q)at c1;change wr.cell? _=some (.int .i64 t)at c2;change wr.cell? _=some (.int .i64 u)at c3;change wr.cell? _=some (.int .i64 y)at c4;change wr.cell? _=some (.int .i64 z)at c5;obtain⟨⟨b0,b1,b2,b3,b4,b5,b6⟩,bf⟩:=T.o;obtain⟨s,hs⟩:∃s,s=(fX (l.drop x)).1:=⟨_,rfl⟩;obtain⟨c,Q⟩:∃c,c=(fX (l.drop x)).2.1:=⟨_,rfl⟩;obtain⟨r,hr⟩:∃r,r=(fX (l.drop x)).2.2:=⟨_,rfl⟩;have HS:=hI hs;have U:=hI Q;have A:=hI hr;by_cases m:r=0
   .have TI:=(Ao (l.drop x) (hr.symm.trans m)).1;rw[<-Q,List.length_drop,HL.o]at TI;subst m;clear hs Q hr;have af:lK l=some (⟨o,q,t,u,y,z,⟨s.toArray⟩⟩,x+c):=rI P.o (by rw[HS.o,U.o];exact Prod.ext rfl (Prod.ext rfl A.o.symm));have W:E=⟨o,q,t,u,y,z,⟨s.toArray⟩⟩:=by rw[HE.o];unfold uI;rw[af]
    have Y:K=x+c:=by rw[HK.o];unfold uJ;rw[af]
    subst W Y;clear af;go_wp2_with fail;refine(pu D.o (by omega)).mono ?_;rw[<-HS.o,<-U.o,<-A.o];rintro e w2 ⟨rfl,rfl⟩;go_wp2;obtain⟨R,Z⟩:∃R,R=kr wr w.heap.size (⟨o,q,t,u,y,z,⟨s.toArray⟩⟩:dj):=⟨_,rfl⟩;change bodyPost _ _ _ Exit.ret _ (kr wr w.heap.size (⟨o,q,t,u,y,z,⟨s.toArray⟩⟩:dj));have C:=T.o.fill (⟨o,q,t,u,y,z,⟨s.toArray⟩⟩:dj);have F:=hI (jB X.o (Nat.le_refl _) (⟨o,q,t,u,y,z,⟨s.toArray⟩⟩:dj));rw[<-Z]at C F⊢;obtain⟨G,I,J,L,M,N,O⟩:=C;simp only at G I J L M N O;exact bodyPost_ret (v:=.tuple #[jT (⟨o,q,t,u,y,z,⟨s.toArray⟩⟩:dj),.int .i64 ((x+c:Nat):Int)]) (by simp[results,Tryz.results91,go_sem,G,I,J,L,M,N,O]) rfl ⟨rfl,F.o⟩
   .have h1:(r !=0)=true:=bne_iff_ne.2 m;have h2:(r==0)=false:=beq_eq_false_iff_ne.2 m;clear hs Q hr;have V:lK l=none:=ER P.o (by rw[<-A.o];exact m);have W:E=dx:=by rw[HE.o];unfold uI;rw[V]
    have Y:K=0:=by rw[HK.o];unfold uJ;rw[V]
    subst W Y;clear m V;go_wp2_with fail;refine(pu D.o (by omega)).mono ?_;rw[<-HS.o,<-U.o,<-A.o];rintro e w2 ⟨rfl,rfl⟩;go_wp2;obtain⟨R,Z⟩:∃R,R=kr wr w.heap.size dx:=⟨_,rfl⟩;change bodyPost _ _ _ Exit.ret _ (kr wr w.heap.size dx);have C:=T.o.fill dx;have F:=hI (jB X.o (Nat.le_refl _) dx);rw[<-Z]at C F⊢;obtain⟨G,I,J,L,M,N,O⟩:=C;simp only[dx]at G I J L M N O;exact bodyPost_ret (v:=.tuple #[jT dx,.int .i64 0]) (by simp[results,Tryz.results91,go_sem,G,I,J,L,M,N,O,dx]) rfl ⟨rfl,F.o⟩
end
section
variable{M:List dj}
theorem KO:(Tryz.prog.info? 71).map (fun i=>(i.zero,i.size,i.bytes))=some (some (.agg (dZ ⟨0,0,0,0,0,0,⟨#[]⟩⟩)),7,64):=by kernel_rfl
theorem Ll:∀r∈M.map dY,∀u∈r,u.oneCell'=true:=by intro r hr u a;obtain⟨d,-,rfl⟩:=List.mem_map.1 hr;simp[dY]at a;rcases a with rfl|rfl|rfl|rfl|rfl|rfl|rfl<;>rfl
theorem Lp:∀r∈M.map dY,r.length=7:=by intro r hr;obtain⟨d,-,rfl⟩:=List.mem_map.1 hr;rfl
def GC(w:World)(R:Option (List dj))(e:Ending)(a:World):Prop:=
 match R with
 |none=>e=.returned (.tuple #[.slice none 0 0,.int .i64 1])/\db w a
 |some L=>∃p b,e=.returned (.tuple #[.slice p L.length b,.int .i64 0])/\fY 71 7 a w.heap.size p L.length b (L.map dY)/\db w a/\∀x∈L,eQ x
theorem xq{w:World}{p:Option Addr}{n cap:Nat}{b:List UInt8}(H:j' w p n cap b)(hn:n<=6000):
  Calls Tryz.prog 72 #[.slice p n cap] w fun e w'=>GC w (pV b) e w':=by
 obtain⟨i0,ad,ae,af,ag⟩:=info_parts KO;have ai:=H.le;have s:=hI H.len;obtain⟨R,W⟩:∃R,R=pV b:=⟨_,rfl⟩;rw[<-W];have HR:=hI W;clear W;go_enter Tryz.func72,Tryz.ntmps72;go_wp2;go_loopw [4,5] (fun v V wr=>∃(f x:Nat) (L:List dj) (F:Option Addr) (z:Nat),V=.int .i64 (x:Int)/\v=.slice F L.length z/\mD b f x L=mD b (n+1) 0 []/\n-x<f/\x<=n/\6*L.length<=x/\fY 71 7 wr w.heap.size F L.length z (L.map dY)/\(∀e∈L,eQ e)/\db w wr) (fun _ V _=>n-(intOf V).toNat);case atStart=>exact⟨n+1,0,[],none,0,rfl,rfl,rfl,by omega,by omega,by simp,fY.nil _ _ _ _,(fun e he=>by cases he),db.rfl' _⟩
 case round=>
  obtain⟨f,x,L,F,z,rfl,rfl,hd,hf,hx,ah,O,ab,X⟩:=hrel;obtain⟨wo,rfl⟩:∃wo:World,wo=wr:=⟨_,rfl⟩;obtain⟨I,rfl⟩:∃I,f=I+1:=⟨f-1,by omega⟩;have D:=hI hd;have G:=hI ab;clear hd ab;by_cases Y:x<n
  .have Z:=(H.ext X).drop x hx;have cf:=fun w=>jm (P:=Tryz.prog) 72 5 Tryz.underlying72 Kz p n cap x hx w;cases r:lK (b.drop x)with
   |none=>
    have ac:R=none:=by rw[HR.o];unfold pV;rw[s.o,<-D.o,mD,if_pos (by rw[s.o];exact Y),r]
    subst ac;have A:uI (b.drop x)=dx:=by unfold uI;rw[r]
    have B:uJ (b.drop x)=0:=by unfold uJ;rw[r]
    have Q:=hI A;have S:=hI B;clear A B r;go_wp2_with fail;refine(zV Z (by omega)).mono ?_;rw[Q.o,S.o];rintro e o ⟨rfl,x2⟩;have a:=X.tr x2;clear x2;go_wp2;go_ret2;exact⟨rfl,a.tr (db.alloc _ _)⟩
   |some q=>
    obtain⟨e,k⟩:=q;have aa:=zU r;rw[List.length_drop,s.o]at aa;obtain⟨EK,ak,al⟩:=aa;have A:uI (b.drop x)=e:=by unfold uI;rw[r]
    have B:uJ (b.drop x)=k:=by unfold uJ;rw[r]
    have D2:Hid (mD b I (x+k) (L++[e])=mD b (n+1) 0 []):=hI (by rw[<-D.o,mD,if_pos (by rw[s.o];exact Y),r])
    have Q:=hI A;have S:=hI B;clear A B r;have aj:((k:Int)==0)=false:=beq_eq_false_iff_ne.2 (by omega);obtain⟨d,g,i,j,l,m,c⟩:=e;go_wp2_with fail;refine(zV Z (by omega)).mono ?_;rw[Q.o,S.o];rintro e o ⟨rfl,a⟩;have N:=(db.alloc o (.cells (dZ ⟨d,g,i,j,l,m,c⟩) 71)).tr (db.alloc _ (.cells (dZ ⟨d,g,i,j,l,m,c⟩) 71));have SR:SlS 7 ((o.alloc (.cells (dZ ⟨d,g,i,j,l,m,c⟩) 71)).alloc (.cells (dZ ⟨d,g,i,j,l,m,c⟩) 71)) (some ⟨o.heap.size+1,0,none⟩) 1 1 (([⟨d,g,i,j,l,m,c⟩]:List dj).map dY):=by have h:=SlS.lit (K:=7) (E:=71) (o.alloc (.cells (dZ ⟨d,g,i,j,l,m,c⟩) 71)) 1 (dZ ⟨d,g,i,j,l,m,c⟩) (0,0) (([⟨d,g,i,j,l,m,c⟩]:List dj).map dY) rfl Lp rfl (by omega);rw[show(o.alloc (.cells (dZ ⟨d,g,i,j,l,m,c⟩) 71)).heap.size=o.heap.size+1 by simp]at h;exact h
    go_wp2_with (at_builtin;refine io rfl _ _ 43 rfl w.heap.size Tryz.underlying43 i0 _ 64 ad ae af ag rfl (by decide) F L.length z _ rfl (O.ext (a.tr N)) (some ⟨o.heap.size+1,0,none⟩) 1 1 _ rfl SR Ll (by omega) (by omega) (by have:=X.size;have:=a.size;simp;omega) ?_);intro p3 c3 w3 O3 g3;have X3:=db.ownS (X.tr (a.tr N)) (O.ext (a.tr N)) g3 rfl;clear g3;go_wp2;go_roundw
    case rel=>exact⟨I,x+k,L++[⟨d,g,i,j,l,m,c⟩],p3,c3,by go_num,by rw[List.length_append];rfl,D2.o,by omega,by omega,by rw[List.length_append];simp;omega,by rw[List.length_append,List.map_append];simpa using O3,(fun y u=>by
     rcases List.mem_append.1 u with u|u;·exact G.o y u
     .simp at u;subst u;exact EK),X3⟩
    case measure=>simp[intOf];omega
  .have J:R=if ft L=b then some L else none:=by rw[HR.o];unfold pV;rw[s.o,<-D.o,mD,if_neg (by rw[s.o];exact Y)]
   by_cases t:ft L=b
   .rw[if_pos t]at J;subst J;have C:(ft L==b)=true:=by rw[t];exact beq_self_eq_true _
    have T:=hI C;clear C t;go_wp2_with fail;refine(mW O.sl G.o (by omega)).mono ?_;rintro e o ⟨p2,c2,rfl,U,a⟩;go_wp2_with fail;refine(kq U.sl (H.ext (X.tr a))).mono ?_;rw[T.o];rintro e w3 ⟨rfl,rfl⟩;go_wp2;go_ret2;exact⟨F,z,rfl,O.ext a,X.tr a,G.o⟩
   .rw[if_neg t]at J;subst J;have C:(ft L==b)=false:=beq_eq_false_iff_ne.2 t;have T:=hI C;clear C t;go_wp2_with fail;refine(mW O.sl G.o (by omega)).mono ?_;rintro e o ⟨p2,c2,rfl,U,a⟩;go_wp2_with fail;refine(kq U.sl (H.ext (X.tr a))).mono ?_;rw[T.o];rintro e w3 ⟨rfl,rfl⟩;go_wp2;go_ret2;exact⟨rfl,X.tr a⟩
end
theorem qe(a b:dj):Ba a b=true↔a=b:=by obtain⟨a1,a2,a3,a4,a5,c,d⟩:=a;obtain⟨b1,b2,b3,b4,e,f,g⟩:=b;simp[Ba,dG,and_assoc]
theorem DA(a:dj):Ba a a=true:=(qe a a).2 rfl
theorem Dz{a b:dj}(h:Ba a b=false):a≠b:=fun e=>by rw[e,DA]at h;cases h
def ut:List dj->List dj->Bool
 |[],[]=>true
 |a::l,b::m=>Ba a b&&ut l m
 |_,_=>false
theorem kQ:∀(l m:List dj),ut l m=true↔l=m
 |[],[]=>by simp[ut]
 |a::l,b::m=>by simp[ut,qe,kQ l m]
 |[],b::m=>by simp[ut]
 |a::l,[]=>by simp[ut]
theorem uu{l m:List dj}(h:l≠m):ut l m=false:=by
 cases a:ut l m;·rfl
 .exact absurd ((kQ l m).1 a) h
theorem vA{b:List UInt8}:∀(f i:Nat) (L M:List dj),mD b f i L=some M->6*L.length<=i->i<=b.length->6*M.length<=b.length
 |0,i,L,M,h,_,_=>by simp[mD]at h
 |f+1,i,L,M,h,g,d=>by
  rw[mD]at h;split at h
  .cases a:lK (b.drop i)with
   |none=>rw[a]at h;cases h
   |some q=>
    obtain⟨e,k⟩:=q;rw[a]at h;obtain⟨-,h6,c⟩:=zU a;rw[List.length_drop]at c;exact vA f (i+k) (L++[e]) M h (by simp;omega) (by omega)
  .cases h;omega
theorem Dr{b:List UInt8}{L:List dj}(h:pV b=some L):6*L.length<=b.length:=by
 unfold pV at h;split at h;·cases h
 .rename_i M a;split at h;·cases h;exact vA _ _ _ _ a (by simp) (by omega)
  .cases h
theorem tg{w:World}{p q:Option Addr}{n m cap j:Nat}{L M:List dj}(h:SlS 7 w p n cap (L.map dY))(h2:SlS 7 w q m j (M.map dY)):
  Calls Tryz.prog 54 #[.slice p n cap,.slice q m j] w fun e w'=>e=.returned (.bool (ut L M))/\db w w':=by
 have hn:n<=9223372036854775807:=Nat.le_trans h.le h.max;have N:=hI (it h);have V:=hI (it h2);have S:=hI h;have S2:=hI h2;clear h h2;obtain⟨B,J⟩:∃B,B=ut L M:=⟨_,rfl⟩;rw[<-J];have s:=hI J;clear J;by_cases Q:n=m
 .subst Q;go_enter Tryz.func54,Tryz.ntmps54;go_wp2;go_loopw [5] (fun i wr=>∃k:Nat,k<=n/\i=.int .i64 (k:Int)/\L.take k=M.take k/\db w wr) (fun i _=>n-(intOf i).toNat);case atStart=>exact⟨0,by omega,rfl,rfl,db.rfl' _⟩
  case round=>
   obtain⟨k,hk,rfl,ht,x1⟩:=hrel;have T:=hI ht;have X:=hI x1;clear ht x1;by_cases ad:k<n
   .obtain⟨b,o,e,hp,hx,u,v,j,x,y,z,A⟩:=iE (S.o.ext (X.o.tr (db.drew wr))) k ad;obtain⟨b',o',e',ag,ae,C,D,E,F,G,H,I⟩:=iE (S2.o.ext (X.o.tr (db.drew wr))) k ad;have R:=hI hx;have U:=hI ae;clear hx ae;subst hp ag;obtain⟨Y,Z,f3,f4,f5,f6,W⟩:=e;obtain⟨g1,g2,g3,g4,g5,g6,ac⟩:=e';simp only at u v j x y z A C D E F G H I;have r:=hI (fun w=>JS (a:=⟨Y,Z,f3,f4,f5,f6,W⟩) (b:=⟨g1,g2,g3,g4,g5,g6,ac⟩) (w:=w));have r0:=fun d c=>db.cell (db.reg wr.drew d c) u;have r1:=fun d c=>db.cell (db.reg wr.drew d c) v;have r2:=fun d c=>db.cell (db.reg wr.drew d c) j;have r3:=fun d c=>db.cell (db.reg wr.drew d c) x;have r4:=fun d c=>db.cell (db.reg wr.drew d c) y;have r5:=fun d c=>db.cell (db.reg wr.drew d c) z;have r6:=fun d c=>db.cell (db.reg wr.drew d c) A;have s0:=fun d c=>db.cell (db.reg wr.drew d c) C;have s1:=fun d c=>db.cell (db.reg wr.drew d c) D;have s2:=fun d c=>db.cell (db.reg wr.drew d c) E;have s3:=fun d c=>db.cell (db.reg wr.drew d c) F;have s4:=fun d c=>db.cell (db.reg wr.drew d c) G;have s5:=fun d c=>db.cell (db.reg wr.drew d c) H;have s6:=fun d c=>db.cell (db.reg wr.drew d c) I;clear u v j x y z A C D E F G H I;cases l:Ba ⟨Y,Z,f3,f4,f5,f6,W⟩ ⟨g1,g2,g3,g4,g5,g6,ac⟩
    .have O:B=false:=by rw[s.o];refine uu fun P=>?_;have h1:=R.o;rw[P,U.o]at h1;injection h1 with h1;exact Dz l h1.symm
     subst O;rw[l]at r;clear l;go_wp2_with fail;refine Lx [0,1,2,3,4,5,6,7,8,9] ?_;repeat((first|refine K6 fun K f=>?_|refine K5 fun K f=>?_);go_big_quiet_op;refine f _ ?_;clear f K)
     refine Lw fun K f=>?_;go_simp;refine(r.o _).mono ?_;rintro e w4 ⟨rfl,g⟩;refine f _ _ g ?_;clear f K r0 r1 r2 r3 r4 r5 r6 s0 s1 s2 s3 s4 s5 s6;have t:=hI (X.o.tr ((db.drew wr).tr g));clear g;repeat((first|refine K6 fun K f=>?_|refine K5 fun K f=>?_);go_big_quiet_op;refine f _ ?_;clear f K)
     refine Fq ?_;go_wp2;go_ret;exact⟨rfl,t.o⟩
    .have T2:Hid (L.take (k+1)=M.take (k+1)):=hI (by rw[List.take_add_one,List.take_add_one,R.o,U.o,T.o,(qe _ _).1 l])
     rw[l]at r;clear l;go_wp2_with fail;refine Lx [0,1,2,3,4,5,6,7,8,9] ?_;repeat((first|refine K6 fun K f=>?_|refine K5 fun K f=>?_);go_big_quiet_op;refine f _ ?_;clear f K)
     refine Lw fun K f=>?_;go_simp;refine(r.o _).mono ?_;rintro e w4 ⟨rfl,g⟩;refine f _ _ g ?_;clear f K r0 r1 r2 r3 r4 r5 r6 s0 s1 s2 s3 s4 s5 s6;have t:=hI (X.o.tr ((db.drew wr).tr g));clear g;repeat((first|refine K6 fun K f=>?_|refine K5 fun K f=>?_);go_big_quiet_op;refine f _ ?_;clear f K)
     refine Fq ?_;go_wp2;go_roundw;case rel=>exact⟨k+1,by omega,by go_num,T2.o,t.o⟩
     case measure=>simp[intOf];omega
   .have af:B=true:=by rw[s.o];refine(kQ L M).2 ?_;have h1:=T.o;rwa[List.take_of_length_le (by rw[N.o];omega),List.take_of_length_le (by rw[V.o];omega)]at h1
    subst af;go_wp2;go_ret;exact⟨rfl,X.o⟩
 .have O:B=false:=by rw[s.o];refine uu fun P=>Q ?_;rw[<-N.o,P,V.o]
  subst O;have h1:((n:Int) !=(m:Int))=true:=bne_iff_ne.2 (by omega);have h2:((n:Int)==(m:Int))=false:=beq_eq_false_iff_ne.2 (by omega);clear Q;go_enter Tryz.func54,Tryz.ntmps54;go_wp2;go_ret;exact⟨rfl,db.rfl' _⟩
section
structure dz where
 kd:Int
 fr:Int
 to:Int
 bt:Int
 vw:Int
 ls:Int
 mb:Int
 po:Int
 cm:Int
 nm:Int
 ck:Int
 ye:Bool
variable{L:List dj} {m:dz}
def lx(m:dz):Prop:=I64 m.kd/\I64 m.fr/\I64 m.to/\I64 m.bt/\I64 m.vw/\I64 m.ls/\I64 m.mb/\I64 m.po/\I64 m.cm/\I64 m.nm/\I64 m.ck
def dA:dz:=⟨0,0,0,0,0,0,0,0,0,0,0,false⟩
abbrev gt(m:dz)(p:Option Addr)(n cap:Nat):List Value:=[.int .i64 m.kd,.int .i64 m.fr,.int .i64 m.to,.int .i64 m.bt,.int .i64 m.vw,.int .i64 m.ls,.int .i64 m.mb,.int .i64 m.po,.slice p n cap,.int .i64 m.cm,.int .i64 m.nm,.int .i64 m.ck,.bool m.ye]
abbrev fE(m:dz)(p:Option Addr)(n cap:Nat):Array Value:=#[.int .i64 m.kd,.int .i64 m.fr,.int .i64 m.to,.int .i64 m.bt,.int .i64 m.vw,.int .i64 m.ls,.int .i64 m.mb,.int .i64 m.po,.slice p n cap,.int .i64 m.cm,.int .i64 m.nm,.int .i64 m.ck,.bool m.ye]
abbrev mK(m:dz)(p:Option Addr)(n cap:Nat):Value:=.agg (fE m p n cap)
def iZ(m:dz):Bool:=[m.kd].all (ig 1 13)&&([m.fr,m.to].all (ig 1 7)&&((m.fr !=m.to)&&[m.bt].all (ig 1 1099511627776)))
def gw(m:dz):Bool:=[m.vw,m.ls,m.nm,m.ck].all (ig 0 1099511627776)&&([m.mb].all (ig 0 127)&&[m.po,m.cm].all (ig 0 60))
def eP(m:dz)(L:List dj):Bool:=iZ m&&(gw m&&(decide (L.length<=60)&&L.all ec))
theorem lb(m:dz):iZ m=true↔1<=m.kd/\m.kd<=13/\1<=m.fr/\m.fr<=7/\1<=m.to/\m.to<=7/\m.fr≠m.to/\1<=m.bt/\m.bt<=1099511627776:=by simp[iZ,ig,and_assoc]
theorem su(m:dz):gw m=true↔0<=m.vw/\m.vw<=1099511627776/\0<=m.ls/\m.ls<=1099511627776/\0<=m.nm/\m.nm<=1099511627776/\0<=m.ck/\m.ck<=1099511627776/\0<=m.mb/\m.mb<=127/\0<=m.po/\m.po<=60/\0<=m.cm/\m.cm<=60:=by simp[gw,ig,and_assoc]
theorem gT:eP m L=true↔iZ m=true/\gw m=true/\L.length<=60/\L.all ec=true:=by simp[eP]
def Kw(m:dz):Int:=if m.ye then 1 else 0
def lJ(m:dz)(n:Nat):List Int:=[m.kd,m.fr,m.to,m.bt,m.vw,m.ls,m.mb,m.po,m.cm,m.nm,m.ck,Kw m,(n:Int)]
def sY(m:dz)(L:List dj):List UInt8:=gQ (lJ m L.length)++ft L
def hY(m:dz)(L:List dj):List UInt8:=if eP m L then lk (sY m L)else []
theorem Kx(m:dz):I64 (Kw m):=by unfold Kw I64;split<;>omega
theorem Jd(m:dz):decide (Kw m=1)=m.ye:=by unfold Kw;cases m.ye<;>rfl
theorem rG{n:Nat}(h:lx m)(i:n<=1000000):∀x∈lJ m n,I64 x:=by
 obtain⟨h1,h2,h3,h4,h5,h6,f,h8,g,b,c⟩:=h;have d:=Kx m;have e:I64 (n:Int):=by unfold I64;omega
 intro x a;simp[lJ]at a;rcases a with rfl|rfl|rfl|rfl|rfl|rfl|rfl|rfl|rfl|rfl|rfl|rfl|rfl<;>assumption
theorem tc:∀(zs:List Int),(∀x∈zs,I64 x)->(gQ zs).length<=10*zs.length
 |[],_=>by simp[gQ]
 |x::zs,h=>by
  have h1:=eD (h x (by simp));have h2:=tc zs (fun y a=>h y (by simp[a]));simp only[gQ,List.length_append,List.length_cons];omega
theorem AX{e:dj}(h:eQ e)(d:e.da.size<=16):(li e).length<=86:=by obtain⟨h1,h2,h3,h4,h5,h6,c⟩:=h;have a1:=eD h1;have a2:=eD h2;have a3:=eD h3;have a4:=eD h4;have a5:=eD h5;have a:=eD h6;have f:=oW e.da;have b:(kF (mG (e.da.data.toList.length:Int))).length<=10:=eD ⟨by omega,by omega⟩;simp only[li,pZ,gQ,u',List.length_append,List.length_nil];omega
theorem nz:∀{L:List dj},(∀e∈L,eQ e)->L.all ec=true->(ft L).length<=86*L.length:=by
 intro L h a
 unfold ft
 rw[if_pos a]
 induction L with
 |nil=>simp
 |cons e L d=>
  have b:ec e=true/\L.all ec=true:=by simpa using a
  have h1:=AX (h e (by simp)) (rA b.1);have h2:=d (fun x c=>h x (by simp[c])) b.2;simp only[List.map_cons,List.flatten_cons,List.length_append,List.length_cons];omega
theorem AI(h:lx m)(d:∀e∈L,eQ e)(f:eP m L=true):(sY m L).length<=5290:=by obtain⟨-,-,h1,h2⟩:=gT.1 f;have a:=tc _ (rG h (show L.length<=1000000 by omega));have b:=nz d h2;have c:(lJ m L.length).length=13:=rfl;unfold sY;rw[List.length_append];omega
theorem Dw(h:lx m)(a:∀e∈L,eQ e):(hY m L).length<=5294:=by
 unfold hY;split;·rename_i b;rw[jo];have:=AI h a b;omega
 .simp
theorem zk(a:eP m L=false):hY m L=[]:=by unfold hY;rw[a];rfl
def nf:List Int->Option dz
 |[k,f,t,b,v,l,d,g,c,e,a,y,_]=>some ⟨k,f,t,b,v,l,d,g,c,e,a,decide (y=1)⟩
 |_=>none
theorem vZ(m:dz)(n:Nat):nf (lJ m n)=some m:=by show some (⟨m.kd,m.fr,m.to,m.bt,m.vw,m.ls,m.mb,m.po,m.cm,m.nm,m.ck,decide (Kw m=1)⟩:dz)=some m;rw[Jd]
theorem tM{l:List Int}(h:nf l=some m)(a:∀x∈l,I64 x):lx m:=by
 unfold nf at h;split at h;·cases h;exact⟨a _ (by simp),a _ (by simp),a _ (by simp),a _ (by simp),a _ (by simp),a _ (by simp),a _ (by simp),a _ (by simp),a _ (by simp),a _ (by simp),a _ (by simp)⟩
 .cases h
def mE(b:List UInt8):Option (dz×List dj):=
 if j7 b=true then
  match eJ (gk b) 13 with
  |none=>none
  |some (l,i)=>match nf l with
   |none=>none
   |some m=>match pV ((gk b).drop i)with
    |none=>none
    |some L=>if hY m L=b/\eP m L=true then some (m,L)else none
 else none
theorem vB(h:lx m)(b:∀e∈L,eQ e)(a:eP m L=true):mE (hY m L)=some (m,L):=by
 obtain⟨-,-,h1,h2⟩:=gT.1 a;have e:hY m L=lk (sY m L):=by unfold hY;rw[if_pos a]
 have p:=lN (rG h (show L.length<=1000000 by omega)) (ft L) 13 (by simp[lJ]);have t:(lJ m L.length).take 13=lJ m L.length:=List.take_of_length_le (by simp[lJ]);rw[t]at p;unfold mE;rw[e,if_pos (rK _),yl];unfold sY;rw[p];simp only[vZ,List.drop_left,Dq b h2];rw[if_pos ⟨by rw[e];rfl,a⟩]
theorem AV{b:List UInt8}(h:mE b=some (m,L)):hY m L=b/\eP m L=true/\lx m:=by
 unfold mE at h;split at h
 .split at h;·cases h
  .rename_i l i d;split at h;·cases h
   .rename_i g c;split at h;·cases h
    .rename_i e f;split at h;·rename_i a;cases h;exact⟨a.1,a.2,tM c (kA d).2.1⟩
     .cases h
 .cases h
end
end Go.Proofs.YtjhbmbbmjaabcaaGreat
