/-
  Contracts. Conditions stand at each.
-/
import Derived.Test.YtjhbmbbmjaabcaaGreatS20
set_option linter.all false
set_option maxRecDepth 8000
set_option maxHeartbeats 8000000
namespace Go.Proofs.YtjhbmbbmjaabcaaGreat
open Go Go.Sort Go.RowKit
section
variable{p:Option Addr} {L:List dj} {cap:Nat} {m:dz}
def fV(s:dp)(q:kH):dz:=⟨9,0,q.who,0,s.ls,0,0,0,s.cm,q.num,0,false⟩
def nE(s:dp)(num cm:Int):Option dp:=
 if decide (0<=(gR s.f num cm).bc/\(gR s.f num cm).bc<=1000000)then some {s with f:=gR s.f num cm}else none
def ke(a:dp×List kH)(q:kH):Option (dp×List kH):=
 match a.1.q with
 |none=>none
 |some b=>
  if decide (eZ b.pr b.n<q.pr)then(if decide (a.2.length<1000)then some (a.1,a.2++[q])else none)
  else if q.who==a.1.id then(nE a.1 q.num a.1.cm).map fun s'=>(s',a.2)
  else(gu a.1 (fV a.1 q) []).map fun s'=>(s',a.2)
def ji(s:dp)(m:dz)(q:lr):dp:=
 {s with q:=some (gM q m.fr m.po m.nm),ac:=fC s.ac m.fr,er:=s.er.set m.fr.toNat s.ck,cm:=ep s.cm (iz (eZ (gM q m.fr m.po m.nm).hv (gM q m.fr m.po m.nm).n) (s.L.length:Int))}
def pW(s:dp)(m:dz):Option dp:=
 match s.q with
 |none=>none
 |some q=>
  if dg q.mb m.fr&&(decide (1<=m.fr/\m.fr<=7)&&decide (0<=m.po/\m.po<=60))then
   if decide ((ji s m q).cm<(ji s m q).st)then some (ji s m q)
   else match dt ke s.ak (ji s m q,[])with
    |none=>none
    |some r=>if decide (r.2.length<=1000)then some {r.1 with ak:=r.2}else none
  else none
variable{w O:World} {o V:Ow} {k x G D:Nat} {A A':iS} {s s':dp}
theorem zt(x:mz)(num cm:Int):(gR x num cm).nm=x.nm:=by
 unfold gR;split;·rfl
 .split<;>rfl
theorem tH(j:Cl w o)(i:32<=k)(h:di w o k x G D A s){num cm:Int}(a:nE s num cm=some s'){n:Nat}{L:List (List Value)}(hr:dQ 200 3 w o (k+18) p n cap L):
  Calls Tryz.prog 159 #[de A.f,.int .i64 num,.int .i64 cm] w fun e b=>CY e/\di b o k x G D A s'/\dQ 200 3 b o (k+18) p n cap L/\Fm (eh k) o o w b:=by
 unfold nE at a;split at a;case isFalse=>cases a
 rename_i c;have c:=of_decide_eq_true c;cases a;refine(EY (num:=num) (cm:=cm) j h.q.pf (by omega)).mono ?_;rintro e b ⟨h1,l,m⟩;obtain⟨N,F⟩:=di.mod0 (A':=A) (s':={s with f:=gR s.f num cm}) i h m (fun d g=>by unfold two at g;unfold eh;omega) (h.q.set_pf i l m (fun d g=>by unfold two at g;omega)) rfl {h.ok with f:=(by have:=h.ok.f;rw[zt];exact this),bc:=c};exact⟨h1,N,hr.fr m (by omega) (by unfold two;omega),F⟩
def uQ(k d:Nat):Prop:=d=k\/d=k+16\/d=k+20
theorem K1(a:32<=k):¬uQ k 0:=by unfold uQ;omega
theorem BJ(ab:Cl w o)(U:32<=k)(h:di w o k x G D A s)(ad:lx (dm s m))(hs:fJ 7 w o p L.length cap (L.map dY))(hL:∀e∈L,eQ e)(hl:s.out.length<1000):
  Calls Tryz.prog 114 #[de x,mK m p L.length cap] w fun e w'=>e=.returned (.tuple #[])/\∃o' p' c',di w' o' k x G D {A with op:=p',oc:=c'} (gW s m L)/\Fm (uQ k) o o' w w':=by
 have l:=hI U;have HL:=hI hL;obtain⟨k1,k2,k3,k4,k5,k6,k7,k8,i,b,f,g⟩:=m;have B:Fm (fun _=>False) o (gH o w.heap.size (k+20)) w (w.alloc (.cells (fE ⟨k1,k2,k3,k4,k5,k6,k7,k8,i,b,f,g⟩ p L.length cap) 76)):=Fm.made ab _ _;have r:=dq.made w o (k+20) (fE ⟨k1,k2,k3,k4,k5,k6,k7,k8,i,b,f,g⟩ p L.length cap) (gt ⟨k1,k2,k3,k4,k5,k6,k7,k8,i,b,f,g⟩ p L.length cap) 76 rfl;have H:=h.fr U B (fun e=>e) (fun d e=>e.elim);have S:=hs.fr B (fun e=>e);have Z:=hI hl;clear ab h hs hL hl U;go_enter Tryz.func114,Tryz.ntmps114;go_upto_region 1 with fail;change Code.wp _ _ _ _ (w.alloc (.cells (fE ⟨k1,k2,k3,k4,k5,k6,k7,k8,i,b,f,g⟩ p L.length cap) 76));generalize w.alloc (.cells (fE ⟨k1,k2,k3,k4,k5,k6,k7,k8,i,b,f,g⟩ p L.length cap) 76)=w1 at*;generalize w.heap.size=X at*;generalize gH o X (k+20)=o1 at*;have c0:=H.c 0 _ rfl;have c3:=H.c 3 _ rfl;have b1:=r.box.c 1 _ rfl;have b3:=r.box.c 3 _ rfl;have f1:=r.box.f 1;have f3:=r.box.f 3;have Q:=Fm.put (C:=one (k+20)) B.cl r (by have:=l.o;omega) rfl 1 (.int .i64 s.id);have F2:=Fm.put (C:=one (k+20)) Q.cl (r.put 1 (.int .i64 s.id)) (by have:=l.o;omega) rfl 3 (.int .i64 s.bt);have F:¬one (k+20) 0:=by unfold one;omega
 have K:=(Q.tr F2 F).tr (Fm.ext F2.cl (db.drew _)) F;have aa:=(((r.put 1 (.int .i64 s.id)).put 3 (.int .i64 s.bt))).ext (db.drew _);go_region;clear c0 c3 b1 b3 f1 f3 Q F2;generalize((w1.setCell ⟨X,1,none⟩ (.int .i64 s.id)).setCell ⟨X,3,none⟩ (.int .i64 s.bt)).drew=J at*;have t:=H.fr l.o K F (fun d a=>by unfold one at a;unfold rD;omega);have S2:=S.fr K F;have R:Fm (uQ k) o o1 w J:=(B.mono (fun d e=>e.elim)).tr (K.mono (fun d a=>by unfold one at a;unfold uQ;omega)) (K1 l.o);clear H S B r K F;obtain⟨z,T,R0,ao⟩:=t.q.ou;have W:s.out.length=z.length:=by rw[<-T];simp
 have AO:=hI ao;have ac:=hI T;have Y:=hI W;clear ao T;obtain⟨M,hM⟩:∃M:dz,M=⟨k1,s.id,k3,s.bt,k5,k6,k7,k8,i,b,f,g⟩:=⟨_,rfl⟩;have ai:=hI hM;clear hM;obtain⟨d0,d1,d2,d3,d4,d5,d6,d7,d8,d9,am,an,ap⟩:=i9 aa;have N:=db.alloc J (.cells (fE ⟨k1,s.id,k3,s.bt,k5,k6,k7,k8,i,b,f,g⟩ p L.length cap) 76);have n:=N.tr (db.drew (J.alloc (.cells (fE ⟨k1,s.id,k3,s.bt,k5,k6,k7,k8,i,b,f,g⟩ p L.length cap) 76)));obtain⟨a0,a1,a2,a3,a4,a5,a6,a7,a8,a9,aj,ak,al⟩:=i9 (aa.ext N);have ag:=t.c 33 _ rfl;have af:=(t.ext N).c 33 _ rfl;rw[W]at ag af;have ah:z.length<=1000000:=by have:=Z.o;omega
 clear W;go_upto_region 2 with fail;go_region_law (refine iN (by rfl) _ _ _ (by rfl) 76 13 120 _ Tryz.underlying98 vK (by rfl) (by omega) (R.cl.ext n) (R0.ext n) (by rfl) J.heap.size 1 (gt ⟨k1,s.id,k3,s.bt,k5,k6,k7,k8,i,b,f,g⟩ p L.length cap) (by rfl) (by rfl) (fun j u hu=>gd (w:=J) rfl j u hu) (zQ _ _ _ _) (by simpa using ah) (by omega) (by have:=l.o;omega) (fun d=>d=k+16) rfl ?_;intro I E V O r4 y;have P:=(t.ext n).box.fr y (by have:=l.o;omega) (by omega);have b4:=P.box.c 33 _ rfl;have aq:=P.box.f 33)
 all_goals
  have ae:jV O V (k+16) I E (s.out++[(dm s ⟨k1,k2,k3,k4,k5,k6,k7,k8,i,b,f,g⟩,L)]):=⟨z++[⟨⟨k1,s.id,k3,s.bt,k5,k6,k7,k8,i,b,f,g⟩,p,cap,L⟩],by rw[<-ac.o];simp[Bq,dm],by have:=r4;simpa using this,fun d a=>by
   rcases List.mem_append.1 a with a|a;·exact((AO.o d a).ext n).fr y (by omega)
   .simp at a;subst a
    exact⟨ad,(S2.ext n).fr y (by omega),HL.o⟩⟩
  have e5:(gW s ⟨k1,k2,k3,k4,k5,k6,k7,k8,i,b,f,g⟩ L).out.length=z.length+1:=by simp[gW,Y.o]
  obtain⟨N6,M5⟩:=di.mod (A':={A with op:=I,oc:=E}) (s':=gW s ⟨k1,k2,k3,k4,k5,k6,k7,k8,i,b,f,g⟩ L) l.o (t.ext n) y (fun d a=>by unfold eh;omega) ((t.ext n).q.set_ou l.o ae y (fun d a=> .inl a)) 33 (.slice I (z.length+1) E) (by rw[<-e5];rfl) {t.ok with out:=(by have:=Z.o;rw[e5,<-Y.o];omega)};have P4:=Fm.put (C:=one k) y.cl P (by have:=l.o;omega) rfl 33 (.slice I (z.length+1) E);have M6:=(R.tr (Fm.ext R.cl n) (K1 l.o)).tr ((y.mono (fun d a=>by unfold uQ;omega)).tr (P4.mono (fun d a=>by unfold one at a;unfold uQ;omega)) (K1 l.o)) (K1 l.o);refine bodyPost_end (v:=.tuple #[]) (by simp[results,Tryz.results114,go_sem]) rfl ?_;exact⟨rfl,V,I,E,N6,M6⟩
theorem BK(q:Cl w o)(t:32<=k)(h:di w o k x G D A s)(u:fJ 7 w o p L.length cap (L.map dY))(b:gu s m L=some s'){l:Option Addr}{n j:Nat}{R:List (List Value)}(hr:dQ 200 3 w o (k+18) l n j R):
  Calls Tryz.prog 114 #[de x,mK m p L.length cap] w fun e c=>e=.returned (.tuple #[])/\∃a i g,di c a k x G D {A with op:=i,oc:=g} s'/\dQ 200 3 c a (k+18) l n j R/\Fm (eh k) o a w c:=by
 unfold gu at b;split at b;case isFalse=>cases b
 rename_i h1;rw[Bool.and_eq_true,decide_eq_true_eq,kX]at h1;cases b;obtain⟨h2,h3⟩:=l9 h1.1;exact(BJ q t h h2 u h3 h1.2).mono (fun e c ⟨h1,a,i,g,n,f⟩=>⟨h1,a,i,g,n,hr.fr f (by omega) (by unfold uQ;omega),f.mono (fun d r=>by unfold uQ at r;unfold eh;omega)⟩)
theorem KT{n:Nat}{L:List kH}(h:SlS 3 w p n cap (L.map Jq))(k:Nat)(e:k<n):
  ∃b a q,p=some ⟨b,a,none⟩/\L[k]? =some q/\w.cell? ⟨b,a+k*3,none⟩=some (.int .i64 q.who)/\w.cell? ⟨b,a+k*3+1,none⟩=some (.int .i64 q.num)/\w.cell? ⟨b,a+k*3+2,none⟩=some (.int .i64 q.pr):=by obtain⟨b,a,x,f,d,-,c⟩:=h.at k e;rw[List.getElem?_map]at d;obtain⟨q,g,rfl⟩:=Option.map_eq_some_iff.1 d;exact⟨b,a,q,f,g,c 0 _ rfl,c 1 _ rfl,c 2 _ rfl⟩
theorem BD(aZ:Cl w o)(hk:32<=k)(h:di w o k x G D A s){m:dz}{p:Option Addr}{cap:Nat}{L:List dj}(bn:fJ 7 w o p L.length cap (L.map dY))(hb:pW s m=some s'):
  Calls Tryz.prog 183 #[de x,mK m p L.length cap] w fun e w'=>e=.returned (.tuple #[])/\∃o' A',di w' o' k x G D A' s'/\Fm (eh k) o o' w w':=by
 obtain⟨k1,k2,k3,k4,k5,k6,k7,k8,k9,ah,an,ao⟩:=m
 unfold pW at hb
 simp only at hb
 cases hq:s.q with
 |none=>rw[hq]at hb;cases hb
 |some q=>
 rw[hq]at hb
 simp only at hb
 split at hb
 case isFalse=>cases hb
 rename_i ki
 simp only[Bool.and_eq_true,decide_eq_true_eq]at ki
 have HB:=hI hb
 have CC:=hI ki
 have HQ:=hI hq
 clear hb ki hq
 obtain⟨qg,bi,bf⟩:∃qg,A.q=some qg/\ol w o (k+14) qg q:=by
  have:=h.q.qu;rw[HQ.o]at this;exact this
 have QV:=bf.ext (db.alloc w (.cells (fE ⟨k1,k2,k3,k4,k5,k6,k7,k8,k9,ah,an,ao⟩ p L.length cap) 76))
 have av:=hI bi
 clear bf bi
 have A0:=db.alloc w (.cells (fE ⟨k1,k2,k3,k4,k5,k6,k7,k8,k9,ah,an,ao⟩ p L.length cap) 76)
 have MB:=dq.loose aZ (fE ⟨k1,k2,k3,k4,k5,k6,k7,k8,k9,ah,an,ao⟩ p L.length cap) (gt ⟨k1,k2,k3,k4,k5,k6,k7,k8,k9,ah,an,ao⟩ p L.length cap) 76 rfl
 have H:=h.ext A0
 have S:=bn.ext A0
 have M1:=Fm.ext (C:=eh k) aZ A0
 have c:=hI hk
 clear aZ h bn hk
 go_enter Tryz.func183,Tryz.ntmps183
 go_upto_region 1 with fail
 change Code.wp _ _ _ _ (w.alloc (.cells (fE ⟨k1,k2,k3,k4,k5,k6,k7,k8,k9,ah,an,ao⟩ p L.length cap) 76))
 clear A0
 generalize w.alloc (.cells (fE ⟨k1,k2,k3,k4,k5,k6,k7,k8,k9,ah,an,ao⟩ p L.length cap) 76)=w1 at*
 generalize w.heap.size=mb at*
 obtain⟨W2,l,X2⟩:=eS w1
 replace H:=H.ext X2
 replace S:=S.ext X2
 replace MB:=MB.ext X2
 replace QV:=QV.ext X2
 have aA:∀d z,(grow (redrawn W2 d) z).cell? ⟨x,21,none⟩=some (de qg):=by have:=H.g 21 _ rfl;rw[av.o]at this;exact this
 have aB:=rg W2 (MB.box.c 1 _ rfl)
 have bE:=rg W2 (MB.box.c 7 _ rfl)
 have bD:=rg W2 (MB.box.c 10 _ rfl)
 refine eA [0,1,2,3,4,5,6,7,8,9] [10,11] ?_
 rw[<-l]
 clear l
 repeat((first|refine dC fun K a=>?_|refine dB fun K a=>?_);go_big_quiet_op;refine a _ ?_;clear a K)
 refine dh ?_
 refine iD fun K a=>?_
 go_simp
 refine(rL (M1.cl.ext X2) QV (by have:=c.o;omega) CC.o.2.1 CC.o.2.2 CC.o.1).mono ?_
 rintro e w3 ⟨rfl,a2,m3⟩
 obtain⟨N3,F3⟩:=di.mod0 (A':=A) (s':={s with q:=some (gM q k2 k8 ah)}) c.o H m3 (fun d J=>by unfold one at J;unfold eh;omega) (H.q.set_qu c.o ⟨qg,av.o,a2⟩ m3 (fun d J=> .inl J)) rfl {H.ok with id:=H.ok.id}
 have N:=N3
 have ax:=MB.fr F3 (by decide) (dw c.o)
 have Q3:=a2
 have M3:=(M1.tr (Fm.ext M1.cl X2) (dw c.o)).tr F3 (dw c.o)
 clear N3 F3 a2 m3 H S MB QV M1 X2 aA aB bE bD
 refine a _ _ ?_
 clear a K
 refine iD fun K a=>?_
 go_simp
 refine a _ _ ?_
 clear a K
 refine df ?_
 obtain⟨M,a0⟩:∃M,M=gM q k2 k8 ah:=⟨_,rfl⟩
 rw[<-a0]at N Q3
 have a9:=hI a0
 clear a0
 go_upto_region 2 with fail
 obtain⟨W4,l,X4⟩:=eS w3
 replace N:=N.ext X4
 replace ax:=ax.ext X4
 replace Q3:=Q3.ext X4
 have bC:=N.g 23 _ rfl
 have aB:=rg W4 (ax.box.c 1 _ rfl)
 refine eA [0,1,2,3,4,5,6,7,8,9] [10] ?_
 rw[<-l]
 clear l
 repeat((first|refine dC fun K a=>?_|refine dB fun K a=>?_);go_big_quiet_op;refine a _ ?_;clear a K)
 refine eF fun K a=>?_
 go_simp
 refine(tZ s.ac k2 N.ok.ac CC.o.2.1 _).mono ?_
 rintro e w5 ⟨rfl,rfl⟩
 refine a _ _ (db.rfl' _) ?_;clear a K
 repeat((first|refine dC fun K a=>?_|refine dB fun K a=>?_);go_big_quiet_op;refine a _ ?_;clear a K)
 refine dh ?_
 have bz:=N.c 23 _ rfl
 have bB:=N.box.box.f 23
 refine iD fun K a=>?_
 go_simp
 obtain⟨N5,F5⟩:=di.mod (C:=fun _=>False) (A':=A) (s':={s with q:=some M,ac:=fC s.ac k2}) c.o N (Fm.refl (M3.cl.ext X4)) (fun d J=>J.elim) {N.q with dk:=N.q.dk} 23 (.int .i64 (fC s.ac k2)) rfl {N.ok with ac:=(oe N.ok.ac CC.o.2.1)}
 have P:=N5
 have ay:=ax.fr (F5) (by decide) (dw c.o)
 have Q4:=Q3.fr (Fm.put (C:=one k) (M3.cl.ext X4) N.box (by have:=c.o;omega) rfl 23 (.int .i64 (fC s.ac k2))) (by have:=c.o;omega) (by unfold one;omega)
 have M4:=(M3.tr (Fm.ext M3.cl X4) (dw c.o)).tr F5 (dw c.o)
 clear N5 F5 bz bB bC aB X4 N ax Q3 M3
 refine a _ _ ?_
 clear a K
 refine df ?_
 generalize W4.setCell ⟨x,23,none⟩ (.int .i64 (fC s.ac k2))=O at*
 go_upto_region 3 with fail
 have f1:(0:Int)<=k2:=by have:=CC.o.2.1.1;omega
 have f2:k2<8:=by have:=CC.o.2.1.2;omega
 have ai:k2.toNat<8:=by omega
 obtain⟨W6,l,X6⟩:=eS O
 replace P:=P.ext X6
 replace ay:=ay.ext X6
 replace Q4:=Q4.ext X6
 have g4:∀d z,(grow (redrawn W6 d) z).cell? ⟨x,4,none⟩=some (.int .i64 s.ck):=P.g 4 _ rfl
 have aB:=rg W6 (ay.box.c 1 _ rfl)
 refine eA [0,1,2,3,4,5,6,7,8,9] [10] ?_
 rw[<-l]
 clear l
 repeat((first|refine dC fun K a=>?_|refine dB fun K a=>?_);go_big_quiet_op;refine a _ ?_;clear a K)
 refine dh ?_
 have ce:=P.c (24+k2.toNat) _ (xZ ai)
 have fe:=P.box.box.f (24+k2.toNat)
 refine iD fun K a=>?_
 go_simp
 obtain⟨N7,F7⟩:=di.mod (C:=fun _=>False) (A':=A) (s':={s with q:=some M,ac:=fC s.ac k2,er:=s.er.set k2.toNat s.ck}) c.o P (Fm.refl (M4.cl.ext X6)) (fun d J=>J.elim) {P.q with dk:=P.q.dk} (24+k2.toNat) (.int .i64 s.ck) (vU ai) {P.ok with er:=(fun i=>by have h1:=P.ok.er i;have h2:=P.ok.ck;simp only at h1 h2;rw[E8.set_at _ ai];split<;>assumption)}
 have H6:=N7
 have bJ:=ay.fr F7 (by decide) (dw c.o)
 have Q6:=Q4.fr (Fm.put (C:=one k) (M4.cl.ext X6) P.box (by have:=c.o;omega) rfl (24+k2.toNat) (.int .i64 s.ck)) (by have:=c.o;omega) (by unfold one;omega)
 have M6:=(M4.tr (Fm.ext M4.cl X6) (dw c.o)).tr F7 (dw c.o)
 clear N7 F7 ce fe g4 aB X6 P ay Q4 M4 f1 f2 ai
 refine a _ _ ?_
 clear a K
 refine df ?_
 generalize W6.setCell ⟨x,24+k2.toNat,none⟩ (.int .i64 s.ck)=w6 at*
 go_upto_region 4 with fail
 obtain⟨W8,l,X8⟩:=eS w6
 replace H6:=H6.ext X8
 replace Q6:=Q6.ext X8
 have am:∀d z,(grow (redrawn W8 d) z).cell? ⟨x,10,none⟩=some (.int .i64 s.cm):=H6.g 10 _ rfl
 have g9:=H6.g 9 _ rfl
 have aA:∀d z,(grow (redrawn W8 d) z).cell? ⟨x,21,none⟩=some (de qg):=by have:=H6.g 21 _ rfl;rw[av.o]at this;exact this
 refine eA [0,1,2,3,4,5,6,7,8,10,11,12,13,9,14,15,16,17,18] [19] ?_
 rw[<-l]
 clear l
 repeat((first|refine dC fun K a=>?_|refine dB fun K a=>?_);go_big_quiet_op;refine a _ ?_;clear a K)
 refine eF fun K a=>?_
 go_simp
 refine(wj Q6).mono ?_
 rintro e w9 ⟨rfl,x9⟩
 obtain⟨QC,aX⟩:∃QC,QC=eZ M.hv M.n:=⟨_,rfl⟩
 rw[<-aX]
 have a':=hI aX
 clear aX
 have X:=H6.ext x9
 have Q9:=Q6.ext x9
 have M9:=M6.tr (Fm.ext M6.cl (X8.tr x9)) (dw c.o)
 refine a _ _ x9 ?_
 clear a K x9 H6 Q6 M6 X8
 repeat((first|refine dC fun K a=>?_|refine dB fun K a=>?_);go_big_quiet_op;refine a _ ?_;clear a K)
 refine eF fun K a=>?_
 go_simp
 refine(fP X.q.lg).mono ?_
 rintro e a3 ⟨rfl,rfl⟩
 refine a _ _ (db.rfl' _) ?_;clear a K
 repeat((first|refine dC fun K a=>?_|refine dB fun K a=>?_);go_big_quiet_op;refine a _ ?_;clear a K)
 refine dh ?_
 have bw:w9.cell? ⟨x,10,none⟩=some (.int .i64 s.cm):=X.c 10 _ rfl
 have bA:=X.box.box.f 10
 refine iD fun K a=>?_
 go_simp
 obtain⟨CM,aC⟩:∃CM:Int,CM=ep s.cm (iz QC (s.L.length:Int)):=⟨_,rfl⟩
 have a4:Hid (0<=CM/\CM<=60):=hI (by
  have h1:=X.ok.cm;have h3:s.L.length<=60:=ge.max X.q.lg;simp only at h1;rw[aC];unfold ep iz
  split<;>(try split)<;>omega)
 have a8:=hI aC
 unfold ep iz at aC
 rw[<-aC]
 clear aC
 generalize(if(s.L.length:Int)<QC then(s.L.length:Int)else QC)=bO at*
 obtain⟨bc,a6⟩:=di.mod (C:=fun _=>False) (A':=A) (s':={s with q:=some M,ac:=fC s.ac k2,er:=s.er.set k2.toNat s.ck,cm:=CM}) c.o X (Fm.refl M9.cl) (fun d J=>J.elim) {X.q with dk:=X.q.dk} 10 (.int .i64 CM) rfl {X.ok with cm:=a4.o}
 have Q:=bc
 have az:=Q9.fr (Fm.put (C:=one k) M9.cl X.box (by have:=c.o;omega) rfl 10 (.int .i64 CM)) (by have:=c.o;omega) (by unfold one;omega)
 have ap:=M9.tr a6 (dw c.o)
 clear bc a6 bw bA am g9 aA X Q9 M9
 refine a _ _ ?_
 clear a K
 refine df ?_
 generalize w9.setCell ⟨x,10,none⟩ (.int .i64 CM)=a3 at*
 obtain⟨f,a1⟩:∃f:dp,f=ji s ⟨k1,k2,k3,k4,k5,k6,k7,k8,k9,ah,an,ao⟩ q:=⟨_,rfl⟩
 have aV:({s with q:=some M,ac:=fC s.ac k2,er:=s.er.set k2.toNat s.ck,cm:=CM}:dp)=f:=by
  rw[a1,a8.o,a'.o,a9.o];rfl
 rw[aV]at Q
 have a5:Hid (f.q=some M/\f.ak=s.ak):=hI (by rw[<-aV];exact⟨rfl,rfl⟩)
 have HX:Hid ((if decide (f.cm<f.st)then some f else match dt ke f.ak (f,[])with|none=>none|some r=>if decide (r.2.length<=1000)then some {r.1 with ak:=r.2}else none)=some s'):=hI (by
  have:=HB.o;rw[<-a1]at this;rw[a5.o.2]
  exact this)
 clear HB aV a1 a8 a4 a' a9
 go_upto_region 5 with fail
 by_cases aN:f.cm<f.st
 .have e1:=dT (f.cm<f.st) aN
  have bt:Hid (f=s'):=hI (by
   have:=HX.o;rw[e1]at this
   exact Option.some.inj this)
  clear aN HX;obtain⟨aL,l,ag⟩:=eS a3;replace Q:=Q.ext ag;replace az:=az.ext ag;have am:=Q.g 10 _ rfl;have aW:=Q.g 22 _ rfl;refine eA [0,1,2,3,4,5,6,7,8] [] ?_;rw[<-l];clear l;repeat((first|refine dC fun K a=>?_|refine dB fun K a=>?_);go_big_quiet_op;refine a _ ?_;clear a K)
  refine dh ?_;refine df ?_;have aq:=ap.tr (Fm.ext ap.cl ag) (dw c.o);clear ap ag am aW;have ae:=Q;rw[bt.o]at ae;go_wp2;refine bodyPost_ret (v:=.tuple #[]) (by simp[results,Tryz.results183,go_sem]) rfl ?_;first|exact⟨rfl,o,⟨A,ae⟩,aq⟩|exact⟨rfl,o,A,ae,aq⟩
 .have e1:=dF (f.cm<f.st) aN
  obtain⟨⟨s2,rest⟩,hf,bh,bl⟩:∃r,dt ke f.ak (f,[])=some r/\r.2.length<=1000/\{r.1 with ak:=r.2}=s':=by
   have:=HX.o
   rw[e1]at this
   simp only[Bool.false_eq_true,if_false]at this
   cases hf:dt ke f.ak (f,[])with
   |none=>rw[hf]at this;cases this
   |some r=>
    rw[hf]at this;simp only at this;split at this;·rename_i h1;exact⟨r,rfl,of_decide_eq_true h1,Option.some.inj this⟩
    .cases this
  have HF:=hI hf;have bp:=hI bh;have bs:=hI bl;clear aN HX hf bh bl;obtain⟨aL,l,ag⟩:=eS a3;replace Q:=Q.ext ag;replace az:=az.ext ag;have am:=Q.g 10 _ rfl;have aW:=Q.g 22 _ rfl;refine eA [0,1,2,3,4,5,6,7,8] [] ?_;rw[<-l];clear l;repeat((first|refine dC fun K a=>?_|refine dB fun K a=>?_);go_big_quiet_op;refine a _ ?_;clear a K)
  refine dh ?_;refine df ?_;have aq:=ap.tr (Fm.ext ap.cl ag) (dw c.o);clear ap ag am aW;have W0:=Fm.wipe (d:=k+18) aq.cl (by have:=c.o;omega);have ae:=Q.fr c.o W0 (by unfold one;omega) (fun d J=>by unfold one at J;unfold rD;omega);have ba:=aq.tr (W0.mono (fun d J=>by unfold one at J;unfold eh;omega)) (dw c.o);have HN:Hid (∀i,i<aL.heap.size->Gm o (k+18) i≠k+18):=hI (fun i _=>Cy o (by omega) i);clear W0 Q az aq;generalize Gm o (k+18)=oL at*;have ML:=Fm.refl (C:=eh k) ba.cl;have be:aL.cell? ⟨x,32,none⟩=some (.slice A.ap f.ak.length A.ac):=ae.c 32 _ rfl;have bN:f.ak.length<=9223372036854775807:=Nat.le_trans ae.q.aks.row.sl.le ae.q.aks.row.sl.max;go_wp2;go_loopw [4,72] (fun v i wr=>∃(j:Nat) (oj:Ow) (W:iS) (E:dp) (R:List kH) (pR:Option Addr) (cR:Nat),j<=f.ak.length/\i=.int .i64 (j:Int)/\v=.slice pR R.length cR/\di wr oj k x G D W E/\dQ 200 3 wr oj (k+18) pR R.length cR (R.map Jq)/\(W.ap=A.ap/\W.ac=A.ac/\W.q=A.q/\E.ak=f.ak/\E.q=some M)/\dt ke (f.ak.drop j) (E,R)=some (s2,rest)/\Fm (eh k) oL oj aL wr) (fun _ i _=>f.ak.length-(intOf i).toNat);case atStart=>exact⟨0,oL,A,f,[],none,0,by omega,rfl,rfl,ae,dQ.nil _ _ _ _ _,⟨rfl,rfl,rfl,rfl,a5.o.1⟩,HF.o,ML⟩
  case round=>
   obtain⟨j,oj,W,E,R,pR,cR,hj,rfl,rfl,nj,rj,ej,fj,mj⟩:=hrel;have n:=nj;have B:=rj;have F:=hI ej;have FJ:=hI fj;have t:=mj;clear nj rj ej fj mj ae ML HF be;by_cases ai:j<f.ak.length
   .have aP:=n.q.aks;rw[F.o.1,F.o.2.1,F.o.2.2.2.1]at aP;obtain⟨b,oo,q,hp,hx,c0,c1,c2⟩:=KT aP.row.sl j ai;have bg:f.ak.drop j=q::f.ak.drop (j+1):=by rw[List.drop_eq_getElem_cons ai];congr 1;rw[List.getElem?_eq_getElem ai]at hx;exact Option.some.inj hx
    obtain⟨⟨sk,Rk⟩,bm,bj⟩:=dy (by rw[<-bg];exact FJ.o);have aK:=hI bm;have aQ:=hI bj;clear bm bj bg hx FJ aP;rw[hp]at F⊢;clear hp;obtain⟨T,z2,U⟩:=q;simp only at c0 c1 c2;go_upto_region 11 with fail;change Code.wp _ _ _ _ (wr.alloc (.cells #[.int .i64 T,.int .i64 z2,.int .i64 U] 200));have A1:=db.alloc wr (.cells #[.int .i64 T,.int .i64 z2,.int .i64 U] 200);have y:=dq.loose t.cl #[.int .i64 T,.int .i64 z2,.int .i64 U] [.int .i64 T,.int .i64 z2,.int .i64 U] 200 rfl;replace n:=n.ext A1;replace B:=B.ext A1;replace t:=t.tr (Fm.ext t.cl A1) (dw c.o);clear A1 c0 c1 c2;generalize wr.alloc (.cells #[.int .i64 T,.int .i64 z2,.int .i64 U] 200)=w5 at*;generalize wr.heap.size=tb at*;have QV:ol w5 oj (k+14) qg M:=by have:=n.q.qu;rw[F.o.2.2.1,F.o.2.2.2.2,av.o]at this;obtain⟨g,hg,h⟩:=this;cases hg;exact h
    obtain⟨bd,l,ar⟩:=eS w5;replace n:=n.ext ar;replace B:=B.ext ar;replace y:=y.ext ar;replace QV:=QV.ext ar;have aA:∀d z,(grow (redrawn bd d) z).cell? ⟨x,21,none⟩=some (de qg):=by have:=n.g 21 _ rfl;rw[F.o.2.2.1,av.o]at this;exact this
    have q2:=rg bd (y.box.c 2 _ rfl);try simp only at q2
    refine eA [0,1,2,3,4,5,6,7,8] [] ?_;rw[<-l];clear l;repeat((first|refine dC fun K a=>?_|refine dB fun K a=>?_);go_big_quiet_op;refine a _ ?_;clear a K)
    refine eF fun K a=>?_;go_simp;refine(yp QV).mono ?_;rintro e aI ⟨rfl,au⟩;obtain⟨QP,aY⟩:∃QP,QP=eZ M.pr M.n:=⟨_,rfl⟩;rw[<-aY];have bq:=hI aY;clear aY;replace n:=n.ext au;replace B:=B.ext au;replace y:=y.ext au;replace t:=t.tr (Fm.ext t.cl (ar.tr au)) (dw c.o);refine a _ _ au ?_;clear a K au ar aA q2 QV;repeat((first|refine dC fun K a=>?_|refine dB fun K a=>?_);go_big_quiet_op;refine a _ ?_;clear a K)
    refine dh ?_;refine df ?_;have I:=aK.o;unfold ke at I;simp only[F.o.2.2.2.2]at I;rw[<-bq.o]at I;by_cases aM:QP<U
    .have e2:=dT (QP<U) aM;rw[if_pos e2]at I;split at I;case isFalse=>cases I
     rename_i bk;have br:=hI (of_decide_eq_true bk);obtain⟨rfl,rfl⟩:=Prod.mk.inj (Option.some.inj I);clear I bk aM aK;simp only[e2];go_upto_region 12 with fail;have A1:=db.alloc aI (.cells #[.int .i64 T,.int .i64 z2,.int .i64 U] 200);obtain⟨d0,d1,d2⟩:=Dn y;have bF:R.length<=1000000:=by have:=br.o;omega
     go_wp2_with (at_builtin;refine lW rfl _ _ 97 rfl 200 3 24 _ Tryz.underlying97 uA (by rfl) (by omega) (t.cl.ext A1) (B.ext A1) (by rfl) aI.heap.size 1 (Jq ⟨T,z2,U⟩) (by rfl) (by rfl) (fun j u hu=>gd (w:=aI) rfl j u hu) (by simp[Value.oneCell']) (by simpa using bF) (by omega) (by have:=c.o;omega) (fun x=>x=k+18) rfl ?_);intro p6 c6 o6 w9 r9 f9;have N9:=(n.ext A1).fr c.o f9 (by omega) (fun d J=>by unfold rD;omega);have R9:=r9;have M9:=(t.tr (Fm.ext t.cl A1) (dw c.o)).tr (f9.mono (fun d J=>by unfold eh;omega)) (dw c.o);clear r9 f9 A1 d0 d1 d2;go_wp2;go_roundw;case rel=>exact⟨j+1,o6,W,E,R++[⟨T,z2,U⟩],p6,c6,by omega,by go_num,by simp,N9,by simpa using R9,F.o,aQ.o,M9⟩
     case measure=>simp[intOf];omega
    .have e2:=dF (QP<U) aM;rw[if_neg (by rw[e2];simp)]at I;clear aM;simp only[e2];go_upto_region 13 with fail;by_cases aO:T=E.id
     .have e3:(T==E.id)=true:=by simpa using aO
      rw[if_pos e3]at I;obtain⟨s6,aE,aD⟩:=Option.map_eq_some_iff.1 I;obtain⟨rfl,rfl⟩:=Prod.mk.inj aD;have aw:=hI aE;clear I aE aD aO aK;obtain⟨aj,l,Y⟩:=eS aI;replace n:=n.ext Y;replace B:=B.ext Y;replace y:=y.ext Y;have g0:∀d z,(grow (redrawn aj d) z).cell? ⟨x,0,none⟩=some (.int .i64 E.id):=n.g 0 _ rfl;have q0:=rg aj (y.box.c 0 _ rfl);try simp only at q0
      refine eA [0,1,2,3,4,5,6,7] [] ?_;rw[<-l];clear l;repeat((first|refine dC fun K a=>?_|refine dB fun K a=>?_);go_big_quiet_op;refine a _ ?_;clear a K)
      refine dh ?_;refine df ?_;replace t:=t.tr (Fm.ext t.cl Y) (dw c.o);clear Y g0 q0;go_upto_region 14 with fail;obtain⟨al,l,Z⟩:=eS aj;replace n:=n.ext Z;replace B:=B.ext Z;replace y:=y.ext Z;have bM:=n.g 16 _ rfl;have am:∀d z,(grow (redrawn al d) z).cell? ⟨x,10,none⟩=some (.int .i64 E.cm):=n.g 10 _ rfl;have q1:=rg al (y.box.c 1 _ rfl);try simp only at q1
      refine eA [0,1,2,3,4,5,6,7,8,9] [10] ?_;rw[<-l];clear l;repeat((first|refine dC fun K a=>?_|refine dB fun K a=>?_);go_big_quiet_op;refine a _ ?_;clear a K)
      refine dh ?_;refine iD fun K a=>?_;go_simp;refine(tH (t.cl.ext Z) c.o n aw.o B).mono ?_;rintro e bI ⟨⟨bb,rfl⟩,aG,aH,aF⟩;have aU:=aH;have aT:=aG
      have aJ:Hid (W.ap=some ⟨b,oo,none⟩/\W.ac=A.ac/\W.q=A.q/\s6.ak=f.ak/\s6.q=some M):=hI (by
       have:=aw.o;unfold nE at this;split at this;·cases this;exact F.o
       .cases this)
      have aR:=(t.tr (Fm.ext t.cl Z) (dw c.o)).tr aF (dw c.o);clear aG aH aF;refine a _ _ ?_;clear a K;refine df ?_;go_wp2;go_roundw;case rel=>exact⟨j+1,oj,W,s6,R,pR,cR,by omega,by go_num,rfl,aT,aU,aJ.o,aQ.o,aR⟩
      case measure=>simp[intOf];omega
     .have e3:(T==E.id)=false:=by simpa using aO
      rw[if_neg (by rw[e3];simp)]at I;obtain⟨s6,aE,aD⟩:=Option.map_eq_some_iff.1 I;obtain⟨rfl,rfl⟩:=Prod.mk.inj aD;have aw:=hI aE;clear I aE aD aO aK;obtain⟨aj,l,Y⟩:=eS aI;replace n:=n.ext Y;replace B:=B.ext Y;replace y:=y.ext Y;have g0:∀d z,(grow (redrawn aj d) z).cell? ⟨x,0,none⟩=some (.int .i64 E.id):=n.g 0 _ rfl;have q0:=rg aj (y.box.c 0 _ rfl);try simp only at q0
      refine eA [0,1,2,3,4,5,6,7] [] ?_;rw[<-l];clear l;repeat((first|refine dC fun K a=>?_|refine dB fun K a=>?_);go_big_quiet_op;refine a _ ?_;clear a K)
      refine dh ?_;refine df ?_;replace t:=t.tr (Fm.ext t.cl Y) (dw c.o);clear Y g0 q0;go_upto_region 10 with fail;obtain⟨al,l,Z⟩:=eS aj;replace n:=n.ext Z;replace B:=B.ext Z;replace y:=y.ext Z;have bL:∀d z,(grow (redrawn al d) z).cell? ⟨x,11,none⟩=some (.int .i64 E.ls):=n.g 11 _ rfl;have am:∀d z,(grow (redrawn al d) z).cell? ⟨x,10,none⟩=some (.int .i64 E.cm):=n.g 10 _ rfl;have q1:=rg al (y.box.c 1 _ rfl);have q0:=rg al (y.box.c 0 _ rfl);try simp only at q1 q0
      refine eA [0,1,2,3,4,5,6,7,8,9,10,11,12,13] [14] ?_;rw[<-l];clear l;repeat((first|refine dC fun K a=>?_|refine dB fun K a=>?_);go_big_quiet_op;refine a _ ?_;clear a K)
      refine eF fun K a=>?_;go_simp;refine a _ _ (db.rfl' _) ?_;clear a K;refine dh ?_;refine iD fun K a=>?_;go_simp;refine(BK (m:=fV E ⟨T,z2,U⟩) (t.cl.ext Z) c.o n (L:=[]) (fJ.empty 7 _ _) aw.o B).mono ?_;rintro e bI ⟨rfl,bG,bH,bx,aG,aH,aF⟩;have aT:=aG;have aU:=aH;have aJ:Hid (s6.ak=f.ak/\s6.q=some M):=hI (by rw[fa aw.o];exact⟨F.o.2.2.2.1,F.o.2.2.2.2⟩);have aR:=(t.tr (Fm.ext t.cl Z) (dw c.o)).tr aF (dw c.o);clear aG aH aF;refine a _ _ ?_;clear a K;refine df ?_;go_wp2;go_roundw;case rel=>exact⟨j+1,bG,{W with op:=bH,oc:=bx},s6,R,pR,cR,by omega,by go_num,rfl,aT,aU,⟨F.o.1,F.o.2.1,F.o.2.2.1,aJ.o.1,aJ.o.2⟩,aQ.o,aR⟩
      case measure=>simp[intOf];omega
   .have e2:(E,R)=(s2,rest):=by have:=FJ.o;rw[List.drop_of_length_le (by omega)]at this;exact Option.some.inj this
    obtain⟨rfl,rfl⟩:=Prod.mk.inj e2;have be:=n.c 32 _ rfl;have bK:=n.box.box.f 32;obtain⟨aS,a7⟩:=di.take_aks c.o n B bp.o t HN.o;rw[bs.o]at aS;have bu:=aS;have bo:=ba.tr a7 (dw c.o);clear aS a7;go_wp2;refine bodyPost_end (v:=.tuple #[]) (by simp[results,Tryz.results183,go_sem]) rfl ?_;exact⟨rfl,qC oj (k+15) (k+18),⟨_,bu⟩,bo⟩
end
section
def yx(s:dp)(m:dz):dz:=⟨11,0,m.fr,0,s.ls,0,s.mb,0,s.cm,m.nm,0,true⟩
def mC(fr:Int)(s:dp)(e:dj):Option dp:=if e.fr==fr then ip s e else some s
def pi(s:dp)(m:dz)(q:lr):dp:={s with ak:=s.ak++[⟨m.fr,m.nm,q.la+1⟩]}
def mN(s:dp)(m:dz)(L:List dj):Option dp:=
 if m.kd==6 then(if m.vw==s.ls then pW s m else some s)
 else if m.kd==7 then dt (mC m.fr) L s
 else if m.kd==10 then gu s (yx s m) s.L
 else if m.kd==8 then
  if decide (1<=m.fr/\m.fr<=7)then
   if(m.vw==s.ls)&&(dg s.mb m.fr&&decide (s.ak.length<64))then
    match s.q with
    |none=>none
    |some q=>if decide (q.la<=1000000)then some (pi s m q)else none
   else some s
  else none
 else some s
variable{w O:World} {o N:Ow} {k x G D:Nat} {A A':iS} {s s':dp}
theorem BL(aC:Cl w o)(hk:32<=k)(h:di w o k x G D A s){m:dz}{p:Option Addr}{cap:Nat}{L:List dj}(aU:fJ 7 w o p L.length cap (L.map dY))(hb:mN s m L=some s'):
  Calls Tryz.prog 160 #[de x,mK m p L.length cap] w fun e w'=>e=.returned (.tuple #[])/\∃o' A',di w' o' k x G D A' s'/\Fm (eh k) o o' w w':=by
 unfold mN at hb;have y:=hI hb;clear hb;obtain⟨k1,k2,k3,k4,k5,k6,k7,k8,R,g,P,Q⟩:=m;simp only at y;have A0:=db.alloc w (.cells (fE ⟨k1,k2,k3,k4,k5,k6,k7,k8,R,g,P,Q⟩ p L.length cap) 76);have c:=dq.loose aC (fE ⟨k1,k2,k3,k4,k5,k6,k7,k8,R,g,P,Q⟩ p L.length cap) (gt ⟨k1,k2,k3,k4,k5,k6,k7,k8,R,g,P,Q⟩ p L.length cap) 76 rfl;have H:=h.ext A0;have S:=aU.ext A0;have n:=Fm.ext (C:=eh k) aC A0;have l:=hI hk;clear aC h aU hk;go_enter Tryz.func160,Tryz.ntmps160;go_upto_region 1 with fail;change Code.wp _ _ _ _ (w.alloc (.cells (fE ⟨k1,k2,k3,k4,k5,k6,k7,k8,R,g,P,Q⟩ p L.length cap) 76));clear A0;generalize w.alloc (.cells (fE ⟨k1,k2,k3,k4,k5,k6,k7,k8,R,g,P,Q⟩ p L.length cap) 76)=w1 at*;generalize w.heap.size=t at*;have d0:=c.box.c 0 _ rfl;go_upto_region 2 with fail;clear d0;by_cases h6:k1=6
 .have e6:(k1==6)=true:=by simpa using h6
  go_upto_region 3 with fail;by_cases Z:k5=s.ls
  .have ev:(k5==s.ls)=true:=by simpa using Z
   have J:Hid (pW s ⟨k1,k2,k3,k4,k5,k6,k7,k8,R,g,P,Q⟩=some s'):=hI (by
    have:=y.o;simp only[e6,ev,if_true]at this
    exact this)
   clear y Z h6;obtain⟨z,r,f⟩:=eS w1;replace H:=H.ext f;replace S:=S.ext f;replace c:=c.ext f;have W:=H.g 11 _ rfl;have Y:=rg z (c.box.c 4 _ rfl);refine eA [0,1,2,3,4,5,6] [] ?_;rw[<-r];clear r;repeat((first|refine dC fun K a=>?_|refine dB fun K a=>?_);go_big_quiet_op;refine a _ ?_;clear a K)
   refine dh ?_;refine df ?_;have E:=n.tr (Fm.ext n.cl f) (dw l.o);clear f n W Y;obtain⟨d0,d1,d2,d3,d4,d5,d6,d7,d8,d9,bg,bh,bi⟩:=i9 c;go_wp2_with fail;refine(BD E.cl l.o H S J.o).mono ?_;rintro e w9 ⟨rfl,o9,A9,n9,f9⟩;have N9:=n9;have F9:=E.tr f9 (dw l.o);clear n9 f9;go_wp2;refine bodyPost_end (v:=.tuple #[]) (by simp[results,Tryz.results160,go_sem]) rfl ?_;exact⟨rfl,o9,A9,N9,F9⟩
  .have ev:(k5==s.ls)=false:=by simpa using Z
   have ax:Hid (s=s'):=hI (by
    have:=y.o;simp only[e6,ev,Bool.false_eq_true,if_false,if_true]at this
    exact Option.some.inj this)
   clear y Z h6;obtain⟨z,r,f⟩:=eS w1;replace H:=H.ext f;replace S:=S.ext f;replace c:=c.ext f;have W:=H.g 11 _ rfl;have Y:=rg z (c.box.c 4 _ rfl);refine eA [0,1,2,3,4,5,6] [] ?_;rw[<-r];clear r;repeat((first|refine dC fun K a=>?_|refine dB fun K a=>?_);go_big_quiet_op;refine a _ ?_;clear a K)
   refine dh ?_;refine df ?_;have E:=n.tr (Fm.ext n.cl f) (dw l.o);clear f n W Y;have B:=H;rw[ax.o]at B;go_wp2;refine bodyPost_end (v:=.tuple #[]) (by simp[results,Tryz.results160,go_sem]) rfl ?_;first|exact⟨rfl,o,A,B,E⟩|exact⟨rfl,o,⟨A,B⟩,E⟩
 .have e6:(k1==6)=false:=by simpa using h6
  have M:=y.o;rw[if_neg (by rw[e6];simp)]at M;replace y:=hI M;clear M h6;by_cases h7:k1=7
  .have e7:(k1==7)=true:=by simpa using h7
   have J:Hid (dt (mC k2) L s=some s'):=hI (by
    have:=y.o;simp only[e7,if_true]at this
    exact this)
   clear y h7;have d8:=c.box.c 8 _ rfl;have bl:L.length<=9223372036854775807:=Nat.le_trans S.sl.le S.sl.max;go_wp2;go_loopw [25] (fun i wr=>∃(j:Nat) (oj:Ow) (Aj:iS) (sj:dp),j<=L.length/\i=.int .i64 (j:Int)/\di wr oj k x G D Aj sj/\dq wr oj 0 t (gt ⟨k1,k2,k3,k4,k5,k6,k7,k8,R,g,P,Q⟩ p L.length cap)/\fJ 7 wr oj p L.length cap (L.map dY)/\dt (mC k2) (L.drop j) sj=some s'/\Fm (eh k) o oj w wr) (fun i _=>L.length-(intOf i).toNat);case atStart=>exact⟨0,o,A,s,by omega,rfl,H,c,S,J.o,n⟩
   case round=>
    obtain⟨j,oj,Aj,sj,hj,rfl,nj,xj,a0,fj,mj⟩:=hrel;have NJ:=nj;have XJ:=xj;have SJ:=a0;have FJ:=hI fj;have X:=mj;clear nj xj a0 fj mj H c S n J d8;by_cases aD:j<L.length
    .obtain⟨b,oo,e,hp,hx,c0,c1,aL,c3,c4,c5,c6⟩:=iE SJ.sl j aD;have aP:L.drop j=e::L.drop (j+1):=by rw[List.drop_eq_getElem_cons aD];congr 1;rw[List.getElem?_eq_getElem aD]at hx;exact Option.some.inj hx
     obtain⟨sk,aT,aS⟩:=dy (by rw[<-aP];exact FJ.o);have an:=hI aT;have aH:=hI aS;clear aT aS aP hx FJ;subst hp;obtain⟨V,f2,f3,f4,f5,f6,ad⟩:=e;simp only at c0 c1 aL c3 c4 c5 c6;go_upto_region 9 with fail;change Code.wp _ _ _ _ (wr.alloc (.cells (dZ ⟨V,f2,f3,f4,f5,f6,ad⟩) 71));have EB:=dq.loose X.cl (dZ ⟨V,f2,f3,f4,f5,f6,ad⟩) (dY ⟨V,f2,f3,f4,f5,f6,ad⟩) 71 rfl;have A1:=db.alloc wr (.cells (dZ ⟨V,f2,f3,f4,f5,f6,ad⟩) 71);replace NJ:=NJ.ext A1;replace XJ:=XJ.ext A1;replace SJ:=SJ.ext A1;replace X:=X.tr (Fm.ext X.cl A1) (dw l.o);clear A1 c0 c1 aL c3 c4 c5 c6;generalize wr.alloc (.cells (dZ ⟨V,f2,f3,f4,f5,f6,ad⟩) 71)=w5 at*;generalize wr.heap.size=eb at*;obtain⟨d0,d1,d2,d3,d4,d5,d6⟩:=pm EB;try simp only at d0 d1 d2 d3 d4 d5 d6
     have m1:=XJ.box.c 1 _ rfl;by_cases ar:V=k2
     .have ef:(V==k2)=true:=by simpa using ar
      have a2:Hid (ip sj ⟨V,f2,f3,f4,f5,f6,ad⟩=some sk):=hI (by
       have:=an.o;unfold mC at this;rw[if_pos ef]at this
       exact this)
      clear ar an;go_wp2_with fail;refine(vT (e:=⟨V,f2,f3,f4,f5,f6,ad⟩) X.cl l.o NJ a2.o).mono ?_;rintro e w6 ⟨rfl,o6,A6,n6,m6⟩;have N6:=n6;have X6:=XJ.fr m6 (by decide) (dw l.o);have S6:=SJ.fr m6 (dw l.o);have M6:=X.tr m6 (dw l.o);clear n6 m6;go_wp2;go_roundw;case rel=>exact⟨j+1,o6,A6,sk,by omega,by go_num,N6,X6,S6,aH.o,M6⟩
      case measure=>simp[intOf];omega
     .have ef:(V==k2)=false:=by simpa using ar
      have aw:Hid (sj=sk):=hI (by
       have:=an.o;unfold mC at this;rw[if_neg (by rw[ef];simp)]at this
       exact Option.some.inj this)
      clear ar an;go_wp2;go_roundw;case rel=>exact⟨j+1,oj,Aj,sj,by omega,by go_num,NJ,XJ,SJ,by rw[aw.o];exact aH.o,X⟩
      case measure=>simp[intOf];omega
    .have aw:Hid (sj=s'):=hI (by
      have:=FJ.o;rw[List.drop_of_length_le (by omega)]at this
      exact Option.some.inj this)
     go_wp2;refine bodyPost_end (v:=.tuple #[]) (by simp[results,Tryz.results160,go_sem]) rfl ?_;have N9:=NJ;rw[aw.o]at N9;first|exact⟨rfl,oj,Aj,N9,X⟩|exact⟨rfl,oj,⟨Aj,N9⟩,X⟩
  .have e7:(k1==7)=false:=by simpa using h7
   have M:=y.o;rw[if_neg (by rw[e7];simp)]at M;replace y:=hI M;clear M h7;by_cases aq:k1=10
   .have aA:(k1==10)=true:=by simpa using aq
    have a4:Hid (gu s (yx s ⟨k1,k2,k3,k4,k5,k6,k7,k8,R,g,P,Q⟩) s.L=some s'):=hI (by
     have:=y.o;simp only[aA,if_true]at this
     exact this)
    clear y aq;go_upto_region 13 with fail;obtain⟨W9,r,X9⟩:=eS w1;replace H:=H.ext X9;replace c:=c.ext X9;have g9:=H.g 9 _ rfl;have W:∀d T,(grow (redrawn W9 d) T).cell? ⟨x,11,none⟩=some (.int .i64 s.ls):=H.g 11 _ rfl;have ae:∀d T,(grow (redrawn W9 d) T).cell? ⟨x,12,none⟩=some (.int .i64 s.mb):=H.g 12 _ rfl;have bj:∀d T,(grow (redrawn W9 d) T).cell? ⟨x,10,none⟩=some (.int .i64 s.cm):=H.g 10 _ rfl;have af:=rg W9 (c.box.c 1 _ rfl);have bk:=rg W9 (c.box.c 10 _ rfl);refine eA [0,1,2,3,4,5,6,7,8,9,10,11,12,13,14,15,16,18,19,20,21,17,22] [23] ?_;rw[<-r];clear r;repeat((first|refine dC fun K a=>?_|refine dB fun K a=>?_);go_big_quiet_op;refine a _ ?_;clear a K)
    refine eF fun K a=>?_;go_simp;refine(ik (L:=s.L) H.q.lg).mono ?_;rintro e bo ⟨bn,bf,rfl,aW,au⟩;have a5:=fJ.fresh aW (n.cl.ext X9) (Nat.le_refl _);have aK:=X9.tr au;have a1:=H.ext au;refine a _ _ au ?_;clear a K aW au;repeat((first|refine dC fun K a=>?_|refine dB fun K a=>?_);go_big_quiet_op;refine a _ ?_;clear a K)
    refine eF fun K a=>?_;go_simp;refine a _ _ (db.rfl' _) ?_;clear a K;refine dh ?_;refine iD fun K a=>?_;go_simp;refine(gj (m:=yx s ⟨k1,k2,k3,k4,k5,k6,k7,k8,R,g,P,Q⟩) (n.cl.ext aK) l.o a1 a5 a4.o).mono ?_;rintro e bp ⟨rfl,aX,aF,aV,aO⟩;have N9:=aV;have F9:=(n.tr (Fm.ext n.cl aK) (dw l.o)).tr aO (dw l.o);clear aV aO;refine a _ _ ?_;clear a K;refine df ?_;go_wp2;refine bodyPost_end (v:=.tuple #[]) (by simp[results,Tryz.results160,go_sem]) rfl ?_;first|exact⟨rfl,aX,aF,N9,F9⟩|exact⟨rfl,aX,⟨aF,N9⟩,F9⟩
   .have aA:(k1==10)=false:=by simpa using aq
    have M:=y.o;rw[if_neg (by rw[aA];simp)]at M;replace y:=hI M;clear M aq;by_cases h8:k1=8
    .have e8:(k1==8)=true:=by simpa using h8
     have J:Hid ((if decide (1<=k2/\k2<=7)then if(k5==s.ls)&&(dg s.mb k2&&decide (s.ak.length<64))then match s.q with|none=>none|some q=>if decide (q.la<=1000000)then some (pi s ⟨k1,k2,k3,k4,k5,k6,k7,k8,R,g,P,Q⟩ q)else none else some s else none)=some s'):=hI (by
      have:=y.o;simp only[e8,if_true]at this
      exact this)
     clear y h8;go_upto_region 15 with fail
     have CC:Hid (1<=k2/\k2<=7):=hI (by
      have:=J.o;split at this;·rename_i h1;exact of_decide_eq_true h1
      .cases this)
     have F:=J.o;rw[if_pos (decide_eq_true CC.o)]at F;replace J:=hI F;clear F;by_cases Z:k5=s.ls
     .have ev:(k5==s.ls)=true:=by simpa using Z
      clear Z;cases hg:(dg s.mb k2&&decide (s.ak.length<64))
      .have HG:Hid ((k5==s.ls&&(dg s.mb k2&&decide (s.ak.length<64)))=false):=hI (by rw[hg];simp)
       have ho:dg s.mb k2=false\/(dg s.mb k2=true/\decide (s.ak.length<64)=false/\decide ((s.ak.length:Int)<64)=false):=by
        cases hh:dg s.mb k2;·exact .inl rfl
        .rw[hh,Bool.true_and]at hg;refine .inr ⟨rfl,hg,?_⟩;have:=of_decide_eq_false hg;exact decide_eq_false (by omega)
       clear hg;rcases ho with hh|⟨hh,a8,a9⟩
       all_goals
        obtain⟨z,r,f⟩:=eS w1;replace H:=H.ext f;replace c:=c.ext f;have W:=H.g 11 _ rfl;have ae:=H.g 12 _ rfl;have aj:∀d T,(grow (redrawn z d) T).cell? ⟨x,32,none⟩=some (.slice A.ap s.ak.length A.ac):=H.g 32 _ rfl;have af:=rg z (c.box.c 1 _ rfl);have Y:=rg z (c.box.c 4 _ rfl);refine eA [0,1,2,3,4,5,6,7,8,9,10,11,12,13,14,15,16,17,18,19,20,21,22,23] [] ?_;rw[<-r];clear r;repeat((first|refine dC fun K a=>?_|refine dB fun K a=>?_);go_big_quiet_op;refine a _ ?_;clear a K)
        refine eF fun K a=>?_;go_simp;refine(fT s.mb k2 H.ok.mb CC.o _).mono ?_;rw[hh];rintro e w3 ⟨rfl,rfl⟩;refine a _ _ (db.rfl' _) ?_;clear a K;repeat((first|refine dC fun K a=>?_|refine dB fun K a=>?_);go_big_quiet_op;refine a _ ?_;clear a K)
        refine dh ?_;refine df ?_;have E:=n.tr (Fm.ext n.cl f) (dw l.o);clear f n W ae aj af Y;have iK:s=s':=by have:=J.o;rw[HG.o]at this;exact Option.some.inj this
        have B:=H;rw[iK]at B;clear iK;go_wp2;refine bodyPost_end (v:=.tuple #[]) (by simp[results,Tryz.results160,go_sem]) rfl ?_;first|exact⟨rfl,o,A,B,E⟩|exact⟨rfl,o,⟨A,B⟩,E⟩
      .have F:=J.o;rw[if_pos (by rw[hg,ev];rfl)]at F;simp only[Bool.and_eq_true,decide_eq_true_eq]at hg;obtain⟨hh,aM⟩:=hg;have am:=hI aM;clear aM;cases hq:s.q with
       |none=>rw[hq]at F;cases F
       |some q=>
       rw[hq]at F;simp only at F;split at F;case isFalse=>cases F
       rename_i aQ;have ax:Hid (pi s ⟨k1,k2,k3,k4,k5,k6,k7,k8,R,g,P,Q⟩ q=s'):=hI (Option.some.inj F);have a3:=hI (of_decide_eq_true aQ);have HQ:=hI hq;clear J F aQ hq;have a8:decide (s.ak.length<64)=true:=decide_eq_true am.o;have a9:decide ((s.ak.length:Int)<64)=true:=decide_eq_true (by have:=am.o;omega);obtain⟨I,aR,aB⟩:∃I,A.q=some I/\ol w1 o (k+14) I q:=by have:=H.q.qu;rw[HQ.o]at this;exact this
       have QV:=aB;have ah:=hI aR;have bm:wrap64 (q.la+1)=q.la+1:=by have h1:=a3.o;have h2:=aB.ok.la;unfold wrap64;omega
       clear aB aR;obtain⟨z,r,f⟩:=eS w1;replace H:=H.ext f;replace c:=c.ext f;replace QV:=QV.ext f;have W:=H.g 11 _ rfl;have ae:=H.g 12 _ rfl;have aj:∀d T,(grow (redrawn z d) T).cell? ⟨x,32,none⟩=some (.slice A.ap s.ak.length A.ac):=H.g 32 _ rfl;have af:=rg z (c.box.c 1 _ rfl);have Y:=rg z (c.box.c 4 _ rfl);refine eA [0,1,2,3,4,5,6,7,8,9,10,11,12,13,14,15,16,17,18,19,20,21,22,23] [] ?_;rw[<-r];clear r;repeat((first|refine dC fun K a=>?_|refine dB fun K a=>?_);go_big_quiet_op;refine a _ ?_;clear a K)
       refine eF fun K a=>?_;go_simp;refine(fT s.mb k2 H.ok.mb CC.o _).mono ?_;rw[hh];rintro e w3 ⟨rfl,rfl⟩;refine a _ _ (db.rfl' _) ?_;clear a K;repeat((first|refine dC fun K a=>?_|refine dB fun K a=>?_);go_big_quiet_op;refine a _ ?_;clear a K)
       refine dh ?_;refine df ?_;have E:=n.tr (Fm.ext n.cl f) (dw l.o);clear f n W ae aj af Y;go_upto_region 16 with fail;obtain⟨W5,r,X5⟩:=eS z;replace H:=H.ext X5;replace c:=c.ext X5;replace QV:=QV.ext X5;have bb:=fun(U:dN (CL [(⟨x,32,none⟩,.slice A.ap s.ak.length A.ac),(⟨t,1,none⟩,.int .i64 k2),(⟨t,10,none⟩,.int .i64 g),(⟨x,21,none⟩,de I)]))=>(U.h.1:U.w.cell? ⟨x,32,none⟩=some (.slice A.ap s.ak.length A.ac));have bc:=fun(U:dN (CL [(⟨x,32,none⟩,.slice A.ap s.ak.length A.ac),(⟨t,1,none⟩,.int .i64 k2),(⟨t,10,none⟩,.int .i64 g),(⟨x,21,none⟩,de I)]))=>(U.h.2.1:U.w.cell? ⟨t,1,none⟩=some (.int .i64 k2));have bd:=fun(U:dN (CL [(⟨x,32,none⟩,.slice A.ap s.ak.length A.ac),(⟨t,1,none⟩,.int .i64 k2),(⟨t,10,none⟩,.int .i64 g),(⟨x,21,none⟩,de I)]))=>(U.h.2.2.1:U.w.cell? ⟨t,10,none⟩=some (.int .i64 g));have ba:=fun(U:dN (CL [(⟨x,32,none⟩,.slice A.ap s.ak.length A.ac),(⟨t,1,none⟩,.int .i64 k2),(⟨t,10,none⟩,.int .i64 g),(⟨x,21,none⟩,de I)]))=>(U.h.2.2.2.1:U.w.cell? ⟨x,21,none⟩=some (de I));refine Hn [0,1,2,3,4,5,6,7,8,9,10,11,12,13,14,15,16,17,18,19] 20 (CL [(⟨x,32,none⟩,.slice A.ap s.ak.length A.ac),(⟨t,1,none⟩,.int .i64 k2),(⟨t,10,none⟩,.int .i64 g),(⟨x,21,none⟩,de I)]) (by rw[<-r];exact⟨H.c 32 _ rfl,c.box.c 1 _ rfl,c.box.c 10 _ rfl,(by have:=H.c 21 _ rfl;rw[ah.o]at this;exact this),trivial⟩) (fun _=>?_);rw[<-r];clear r;repeat((first|refine lj fun K a=>?_;go_big_quiet_op|refine iK fun K a=>?_;go_big_quiet_op|refine lC fun K a=>?_;go_big_quiet_op);refine a _ ?_;clear a K)
       have M5:=E.tr (Fm.ext E.cl X5) (dw l.o);clear E X5;refine ki fun K a=>?_;go_simp;refine(BZ QV).mono ?_;rintro e w6 ⟨rfl,rfl⟩;refine a (CL [(⟨x,32,none⟩,.slice A.ap s.ak.length A.ac),(⟨t,1,none⟩,.int .i64 k2),(⟨t,10,none⟩,.int .i64 g),(⟨x,21,none⟩,de I)]) _ _ (fun _ h=>h) ⟨H.c 32 _ rfl,c.box.c 1 _ rfl,c.box.c 10 _ rfl,by have:=H.c 21 _ rfl;rw[ah.o]at this;exact this,trivial⟩ (fun _=>?_);clear a K;repeat((first|refine lj fun K a=>?_;go_big_quiet_op|refine iK fun K a=>?_;go_big_quiet_op|refine lC fun K a=>?_;go_big_quiet_op);refine a _ ?_;clear a K)
       refine ki fun K a=>?_;go_simp;refine a (CL [(⟨x,32,none⟩,.slice A.ap s.ak.length A.ac),(⟨t,1,none⟩,.int .i64 k2),(⟨t,10,none⟩,.int .i64 g),(⟨x,21,none⟩,de I)]) _ _ (fun _ h=>h) ⟨H.c 32 _ rfl,c.box.c 1 _ rfl,c.box.c 10 _ rfl,by have:=H.c 21 _ rfl;rw[ah.o]at this;exact this,trivial⟩ (fun _=>?_);clear a K;repeat((first|refine lj fun K a=>?_;go_big_quiet_op|refine iK fun K a=>?_;go_big_quiet_op|refine lC fun K a=>?_;go_big_quiet_op);refine a _ ?_;clear a K)
       refine ki fun K a=>?_;go_simp;have al:=db.alloc W5 (.cells #[.int .i64 k2,.int .i64 g,.int .i64 (q.la+1)] 200);replace H:=H.ext al;replace c:=c.ext al;replace M5:=M5.tr (Fm.ext M5.cl al) (dw l.o);refine a (CL [(⟨x,32,none⟩,.slice A.ap s.ak.length A.ac),(⟨t,1,none⟩,.int .i64 k2),(⟨t,10,none⟩,.int .i64 g),(⟨x,21,none⟩,de I)]) _ _ (fun _ h=>h) ⟨H.c 32 _ rfl,c.box.c 1 _ rfl,c.box.c 10 _ rfl,by have:=H.c 21 _ rfl;rw[ah.o]at this;exact this,trivial⟩ (fun _=>?_);clear a K;repeat((first|refine lj fun K a=>?_;go_big_quiet_op|refine iK fun K a=>?_;go_big_quiet_op|refine lC fun K a=>?_;go_big_quiet_op);refine a _ ?_;clear a K)
       have a':s.ak.length<=1000000:=by have:=am.o;omega
       refine ki fun K a=>?_;refine js (by rfl) _ _ _ (by rfl) 200 3 24 _ Tryz.underlying97 uA (by rfl) (by omega) M5.cl H.q.aks (by rfl) W5.heap.size 1 (Jq ⟨k2,g,q.la+1⟩) (by rfl) (by rfl) (fun j u hu=>gd (w:=W5) rfl j u hu) (by simp[Value.oneCell']) a' (by omega) (by have:=l.o;omega) (fun d=>d=k+15) rfl ?_;intro aE az aY be aZ ai;have ay:=c.fr ai (by decide) (by have:=l.o;omega);have ag:=H.box.fr ai (by have:=l.o;omega) (by omega);have a6:=ag.box.c 32 _ rfl;have a7:=ag.box.f 32;have ao:(s.ak++[(⟨k2,g,q.la+1⟩:kH)]).length=s.ak.length+1:=by simp
       obtain⟨aJ,aG⟩:=di.mod (A':={A with ap:=aE,ac:=az}) (s':={s with ak:=s.ak++[⟨k2,g,q.la+1⟩]}) l.o H ai (fun d hd=>by unfold eh;omega) (H.q.set_aks l.o (by rw[ao];have:=aZ;simpa using this) ai (fun d hd=> .inl hd)) 32 (.slice aE (s.ak.length+1) az) (by rw[<-ao];rfl) {H.ok with ak:=(by rw[ao];have:=am.o;omega)};have av:=aJ;have aI:=M5.tr aG (dw l.o);refine a (CL [(⟨x,32,none⟩,.slice A.ap s.ak.length A.ac),(⟨t,1,none⟩,.int .i64 k2),(⟨t,10,none⟩,.int .i64 g),(⟨x,21,none⟩,de I)]) _ _ (fun _ h=>h) ⟨ag.box.c 32 _ rfl,ay.box.c 1 _ rfl,ay.box.c 10 _ rfl,by have:=ag.box.c 21 _ rfl;rw[ah.o]at this;exact this,trivial⟩ (fun _=>?_);clear a K;go_simp;repeat((first|refine lj fun K a=>?_;go_big_quiet_op|refine iK fun K a=>?_;go_big_quiet_op|refine lC fun K a=>?_;go_big_quiet_op);refine a _ ?_;clear a K)
       refine sJ fun K a=>?_;go_simp;refine a _ _ ?_;clear a K a6 a7 ao aJ aG aZ ai H c M5 ay ag bb bc bd ba al;generalize be.setCell ⟨x,32,none⟩ (.slice aE (s.ak.length+1) az)=bq at*;have aN:({s with ak:=s.ak++[⟨k2,g,q.la+1⟩]}:dp)=s':=ax.o;rw[aN]at av;clear aN;go_wp2;refine bodyPost_end (v:=.tuple #[]) (by simp[results,Tryz.results160,go_sem]) rfl ?_;first|exact⟨rfl,aY,_,av,aI⟩|exact⟨rfl,aY,⟨_,av⟩,aI⟩
     .have ev:(k5==s.ls)=false:=by simpa using Z
      have HG:Hid ((k5==s.ls&&(dg s.mb k2&&decide (s.ak.length<64)))=false):=hI (by rw[ev];rfl);clear Z;obtain⟨z,r,f⟩:=eS w1;replace H:=H.ext f;replace c:=c.ext f;have W:=H.g 11 _ rfl;have ae:=H.g 12 _ rfl;have aj:∀d T,(grow (redrawn z d) T).cell? ⟨x,32,none⟩=some (.slice A.ap s.ak.length A.ac):=H.g 32 _ rfl;have af:=rg z (c.box.c 1 _ rfl);have Y:=rg z (c.box.c 4 _ rfl);refine eA [0,1,2,3,4,5,6,7,8,9,10,11,12,13,14,15,16,17,18,19,20,21,22,23] [] ?_;rw[<-r];clear r;repeat((first|refine dC fun K a=>?_|refine dB fun K a=>?_);go_big_quiet_op;refine a _ ?_;clear a K)
      refine dh ?_;refine df ?_;have E:=n.tr (Fm.ext n.cl f) (dw l.o);clear f n W ae aj af Y;have iK:s=s':=by have:=J.o;rw[HG.o]at this;exact Option.some.inj this
      have B:=H;rw[iK]at B;clear iK;go_wp2;refine bodyPost_end (v:=.tuple #[]) (by simp[results,Tryz.results160,go_sem]) rfl ?_;first|exact⟨rfl,o,A,B,E⟩|exact⟨rfl,o,⟨A,B⟩,E⟩
    .have e8:(k1==8)=false:=by simpa using h8
     have iK:s=s':=by have:=y.o;simp only[e8,Bool.false_eq_true,if_false]at this;exact Option.some.inj this
     have B:=H;rw[iK]at B;clear iK h8 y;go_wp2;refine bodyPost_end (v:=.tuple #[]) (by simp[results,Tryz.results160,go_sem]) rfl ?_;first|exact⟨rfl,o,A,B,n⟩|exact⟨rfl,o,⟨A,B⟩,n⟩
end
end Go.Proofs.YtjhbmbbmjaabcaaGreat
