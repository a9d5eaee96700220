/-
  Contracts. Conditions stand at each.
-/
import Derived.Test.YtjhbmbbmjaabcaaGreatS15
set_option linter.all false
set_option maxRecDepth 8000
set_option maxHeartbeats 8000000
namespace Go.Proofs.YtjhbmbbmjaabcaaGreat
open Go Go.Sort Go.RowKit
section
variable{C:Nat->Prop} {p:Option Addr} {L:List dj} {m:dz} {cap:Nat}
variable{w O:World} {o N:Ow} {k x G D:Nat} {A A':iS} {s s':dp}
theorem di.mod(h:32<=k)(H:di w o k x G D A s)(f:Fm C o N w O)(g:∀d,C d->eh k d/\d≠k)(l:ew O N k G D A' s')(i:Nat)(v:Value)(j:(CK G D A s).set i v=CK G D A' s')(ok:CT s'):
  di (O.setCell ⟨x,i,none⟩ v) N k x G D A' s'/\Fm (eh k) o N w (O.setCell ⟨x,i,none⟩ v):=by have b:=H.box.fr f (by omega) (fun e=>(g _ e).2 rfl);have F:=Fm.put (C:=one k) f.cl b (by omega) rfl i v;have c:=b.put i v;rw[j]at c;exact⟨⟨c,l.fr h F (by unfold one;omega) (fun d a=>by unfold one;omega),ok⟩,(f.mono (fun d a=>(g d a).1)).tr (F.mono (fun d a=>by unfold one at a;unfold eh;omega)) (dw h)⟩
theorem di.mod0(i:32<=k)(H:di w o k x G D A s)(f:Fm C o N w O)(b:∀d,C d->eh k d/\d≠k)(h:ew O N k G D A' s')(c:CK G D A s=CK G D A' s')(ok:CT s'):
  di O N k x G D A' s'/\Fm (eh k) o N w O:=by have a:=H.box.fr f (by omega) (fun e=>(b _ e).2 rfl);rw[c]at a;exact⟨⟨a,h,ok⟩,f.mono (fun d g=>(b d g).1)⟩
def dm(s:dp)(m:dz):dz:={m with fr:=s.id,bt:=s.bt}
def gW(s:dp)(m:dz)(L:List dj):dp:={s with out:=s.out++[(dm s m,L)]}
theorem zQ(m:dz)(p:Option Addr)(n cap:Nat):∀u∈gt m p n cap,u.oneCell'=true:=by simp[Value.oneCell']
theorem vK:(Tryz.prog.info? 76).map (fun i=>(i.zero,i.size,i.bytes))=some (some (mK dA none 0 0),13,120):=by kernel_rfl
theorem tK(ab:Cl w o)(U:32<=k)(h:di w o k x G D A s)(ad:lx (dm s m))(hs:fJ 7 w o p L.length cap (L.map dY))(hL:∀e∈L,eQ e)(hl:s.out.length<1000):
  Calls Tryz.prog 114 #[de x,mK m p L.length cap] w fun e w'=>e=.returned (.tuple #[])/\∃o' p' c',di w' o' k x G D {A with op:=p',oc:=c'} (gW s m L)/\Fm (eh k) o o' w w':=by
 have l:=hI U;have HL:=hI hL;obtain⟨k1,k2,k3,k4,k5,k6,k7,k8,i,b,f,g⟩:=m;have y:Fm (fun _=>False) o (gH o w.heap.size (k+20)) w (w.alloc (.cells (fE ⟨k1,k2,k3,k4,k5,k6,k7,k8,i,b,f,g⟩ p L.length cap) 76)):=Fm.made ab _ _;have r:=dq.made w o (k+20) (fE ⟨k1,k2,k3,k4,k5,k6,k7,k8,i,b,f,g⟩ p L.length cap) (gt ⟨k1,k2,k3,k4,k5,k6,k7,k8,i,b,f,g⟩ p L.length cap) 76 rfl;have H:=h.fr U y (fun e=>e) (fun d e=>e.elim);have S:=hs.fr y (fun e=>e);have Z:=hI hl;clear ab h hs hL hl U;go_enter Tryz.func114,Tryz.ntmps114;go_upto_region 1 with fail;change Code.wp _ _ _ _ (w.alloc (.cells (fE ⟨k1,k2,k3,k4,k5,k6,k7,k8,i,b,f,g⟩ p L.length cap) 76));generalize w.alloc (.cells (fE ⟨k1,k2,k3,k4,k5,k6,k7,k8,i,b,f,g⟩ p L.length cap) 76)=w1 at*;generalize w.heap.size=W at*;generalize gH o W (k+20)=o1 at*;have c0:=H.c 0 _ rfl;have c3:=H.c 3 _ rfl;have b1:=r.box.c 1 _ rfl;have b3:=r.box.c 3 _ rfl;have f1:=r.box.f 1;have f3:=r.box.f 3;have Q:=Fm.put (C:=one (k+20)) y.cl r (by have:=l.o;omega) rfl 1 (.int .i64 s.id);have F2:=Fm.put (C:=one (k+20)) Q.cl (r.put 1 (.int .i64 s.id)) (by have:=l.o;omega) rfl 3 (.int .i64 s.bt);have E:¬one (k+20) 0:=by unfold one;omega
 have I:=(Q.tr F2 E).tr (Fm.ext F2.cl (db.drew _)) E;have aa:=(((r.put 1 (.int .i64 s.id)).put 3 (.int .i64 s.bt))).ext (db.drew _);go_region;clear c0 c3 b1 b3 f1 f3 Q F2;generalize((w1.setCell ⟨W,1,none⟩ (.int .i64 s.id)).setCell ⟨W,3,none⟩ (.int .i64 s.bt)).drew=F at*;have t:=H.fr l.o I E (fun d a=>by unfold one at a;unfold rD;omega);have S2:=S.fr I E;have R:Fm (eh k) o o1 w F:=(y.mono (fun d e=>e.elim)).tr (I.mono (fun d a=>by unfold one at a;unfold eh;omega)) (dw l.o);clear H S y r I E;obtain⟨z,T,R0,ao⟩:=t.q.ou;have V:s.out.length=z.length:=by rw[<-T];simp
 have AO:=hI ao;have ac:=hI T;have Y:=hI V;clear ao T;obtain⟨M,hM⟩:∃M:dz,M=⟨k1,s.id,k3,s.bt,k5,k6,k7,k8,i,b,f,g⟩:=⟨_,rfl⟩;have ai:=hI hM;clear hM;obtain⟨d0,d1,d2,d3,d4,d5,d6,d7,d8,d9,am,an,ap⟩:=i9 aa;have P:=db.alloc F (.cells (fE ⟨k1,s.id,k3,s.bt,k5,k6,k7,k8,i,b,f,g⟩ p L.length cap) 76);have n:=P.tr (db.drew (F.alloc (.cells (fE ⟨k1,s.id,k3,s.bt,k5,k6,k7,k8,i,b,f,g⟩ p L.length cap) 76)));obtain⟨a0,a1,a2,a3,a4,a5,a6,a7,a8,a9,aj,ak,al⟩:=i9 (aa.ext P);have ag:=t.c 33 _ rfl;have af:=(t.ext P).c 33 _ rfl;rw[V]at ag af;have ah:z.length<=1000000:=by have:=Z.o;omega
 clear V;go_upto_region 2 with fail;go_region_law (refine iN (by rfl) _ _ _ (by rfl) 76 13 120 _ Tryz.underlying98 vK (by rfl) (by omega) (R.cl.ext n) (R0.ext n) (by rfl) F.heap.size 1 (gt ⟨k1,s.id,k3,s.bt,k5,k6,k7,k8,i,b,f,g⟩ p L.length cap) (by rfl) (by rfl) (fun j u hu=>gd (w:=F) rfl j u hu) (zQ _ _ _ _) (by simpa using ah) (by omega) (by have:=l.o;omega) (fun d=>d=k+16) rfl ?_;intro K J N O r4 B;have X:=(t.ext n).box.fr B (by have:=l.o;omega) (by omega);have b4:=X.box.c 33 _ rfl;have aq:=X.box.f 33)
 all_goals
  have ae:jV O N (k+16) K J (s.out++[(dm s ⟨k1,k2,k3,k4,k5,k6,k7,k8,i,b,f,g⟩,L)]):=⟨z++[⟨⟨k1,s.id,k3,s.bt,k5,k6,k7,k8,i,b,f,g⟩,p,cap,L⟩],by rw[<-ac.o];simp[Bq,dm],by have:=r4;simpa using this,fun d a=>by
   rcases List.mem_append.1 a with a|a;·exact((AO.o d a).ext n).fr B (by omega)
   .simp at a;subst a
    exact⟨ad,(S2.ext n).fr B (by omega),HL.o⟩⟩
  have e5:(gW s ⟨k1,k2,k3,k4,k5,k6,k7,k8,i,b,f,g⟩ L).out.length=z.length+1:=by simp[gW,Y.o]
  obtain⟨N6,M5⟩:=di.mod (A':={A with op:=K,oc:=J}) (s':=gW s ⟨k1,k2,k3,k4,k5,k6,k7,k8,i,b,f,g⟩ L) l.o (t.ext n) B (fun d a=>by unfold eh;omega) ((t.ext n).q.set_ou l.o ae B (fun d a=> .inl a)) 33 (.slice K (z.length+1) J) (by rw[<-e5];rfl) {t.ok with out:=(by have:=Z.o;rw[e5,<-Y.o];omega)};have M6:=(R.tr (Fm.ext R.cl n) (dw l.o)).tr M5 (dw l.o);refine bodyPost_end (v:=.tuple #[]) (by simp[results,Tryz.results114,go_sem]) rfl ?_;exact⟨rfl,N,K,J,N6,M6⟩
theorem EO(d:Cl w o)(f:32<=k)(h:di w o k x G D A s)(i:lx (dm s m))(j:fJ 7 w o p L.length cap (L.map dY))(c:∀e∈L,eQ e)(g:s.out.length<1000):
  Calls Tryz.prog 114 #[de x,mK m p L.length cap] w fun e b=>e=.returned (.tuple #[])/\∃a A',di b a k x G D A' (gW s m L)/\Fm (eh k) o a w b:=
 (tK d f h i j c g).mono (fun e b ⟨h1,a,p',c',h2,h3⟩=>⟨h1,a,_,h2,h3⟩)
end
section
variable{L:List dj} {p:Option Addr} {m:dz} {cap:Nat}
theorem iR{e:dj}(h:ec e=true):eQ e:=by unfold ec ig at h;simp only[Bool.and_eq_true,decide_eq_true_eq]at h;obtain⟨⟨a1,a2⟩,⟨b1,b2⟩,⟨a,b⟩,⟨c,d⟩,⟨f,i⟩,⟨j,l⟩,g⟩:=h;unfold eQ I64;refine⟨⟨?_,?_⟩,⟨?_,?_⟩,⟨?_,?_⟩,⟨?_,?_⟩,⟨?_,?_⟩,⟨?_,?_⟩,?_⟩<;>omega
theorem l9(h:eP m L=true):lx m/\∀e∈L,eQ e:=by obtain⟨h1,h2,h3,h4⟩:=gT.1 h;have h1:=(lb m).1 h1;have h2:=(su m).1 h2;refine⟨?_,fun e a=>iR (List.all_eq_true.1 h4 e a)⟩;unfold lx I64;refine⟨⟨?_,?_⟩,⟨?_,?_⟩,⟨?_,?_⟩,⟨?_,?_⟩,⟨?_,?_⟩,⟨?_,?_⟩,⟨?_,?_⟩,⟨?_,?_⟩,⟨?_,?_⟩,⟨?_,?_⟩,⟨?_,?_⟩⟩<;>omega
def BS(a:World)(x:Nat)(W:World):Prop:=∀i,W.cell? ⟨x,i,none⟩=a.cell? ⟨x,i,none⟩
theorem BS.fm{C:Nat->Prop}{d w a:World}{o f:Ow}{c g:Nat}{vs:List Value}(h:BS d g w)(b:dq w o c g vs)(k:Fm C o f w a)(h1:c≠1)(e:¬C c):BS d g a:=fun i=>
 (World.cell?_of_block (k.blk g b.box.hi (by rw[b.col];exact h1) (by rw[b.col];exact e))).trans (h i)
theorem BS.rfl'(w:World)(x:Nat):BS w x w:=fun _=>rfl
def CJ(a b:Nat)(x:Int):Bool:=Int.casesOn x (fun n=>cond (Nat.ble a n) (Nat.ble n b) false) (fun _=>false)
theorem J0(a b:Nat)(x:Int):CJ a b x=ig (a:Int) (b:Int) x:=by
 cases x with
 |ofNat n=>
  show cond (Nat.ble a n) (Nat.ble n b) false=(decide ((a:Int)<=Int.ofNat n)&&decide (Int.ofNat n<=(b:Int)));rw[Bool.cond_false_right,Bool.eq_iff_iff];simp only[Bool.and_eq_true,Nat.ble_eq,decide_eq_true_eq,Int.ofNat_eq_natCast,Int.ofNat_le]
 |negSucc n=>
  show false=(decide ((a:Int)<=Int.negSucc n)&&decide (Int.negSucc n<=(b:Int)));rw[decide_eq_false (by omega),Bool.false_and]
def uE(m:dz)(L:List dj):Bool:=cond (CJ 1 13 m.kd) (cond (CJ 1 7 m.fr) (cond (CJ 1 7 m.to) (cond (m.fr !=m.to) (cond (CJ 1 1099511627776 m.bt) (cond (CJ 0 1099511627776 m.vw) (cond (CJ 0 1099511627776 m.ls) (cond (CJ 0 1099511627776 m.nm) (cond (CJ 0 1099511627776 m.ck) (cond (CJ 0 127 m.mb) (cond (CJ 0 60 m.po) (cond (CJ 0 60 m.cm) (decide (L.length<=60)&&L.all ec) false) false) false) false) false) false) false) false) false) false) false) false
theorem kX(m:dz)(L:List dj):uE m L=eP m L:=by unfold uE eP iZ gw;simp only[J0,Bool.cond_false_right,List.all_cons,List.all_nil,Bool.and_true,Bool.and_assoc];rfl
def gu(s:dp)(m:dz)(L:List dj):Option dp:=if uE (dm s m) L&&decide (s.out.length<1000)then some (gW s m L)else none
variable{w N:World} {o G:Ow} {k x D u:Nat} {A A':iS} {s s':dp}
theorem gj(d:Cl w o)(f:32<=k)(h:di w o k x D u A s)(g:fJ 7 w o p L.length cap (L.map dY))(a:gu s m L=some s'):
  Calls Tryz.prog 114 #[de x,mK m p L.length cap] w fun e c=>e=.returned (.tuple #[])/\∃b A',di c b k x D u A' s'/\Fm (eh k) o b w c:=by
 unfold gu at a;split at a;case isFalse=>cases a
 rename_i h1;rw[Bool.and_eq_true,decide_eq_true_eq,kX]at h1;cases a;obtain⟨h2,h3⟩:=l9 h1.1;exact EO d f h h2 g h3 h1.2
theorem yh(f:Cl w o)(g:32<=k)(h:di w o k x D u A s)(i:fJ 7 w o p L.length cap (L.map dY))(a:gu s m L=some s'):
  Calls Tryz.prog 114 #[de x,mK m p L.length cap] w fun e c=>e=.returned (.tuple #[])/\∃b j d,di c b k x D u {A with op:=j,oc:=d} s'/\Fm (eh k) o b w c:=by
 unfold gu at a;split at a;case isFalse=>cases a
 rename_i h1;rw[Bool.and_eq_true,decide_eq_true_eq,kX]at h1;cases a;obtain⟨h2,h3⟩:=l9 h1.1;exact tK f g h h2 i h3 h1.2
def jW(s:dp)(a num:Int):dz:=⟨6,0,a,0,s.ls,0,0,s.L.length,0,num,0,false⟩
def pT(s:dp)(a num:Int):Option dp:=gu s (jW s a num) []
def fI(s:dp)(a:Int):dz:=⟨4,0,a,0,s.ls,0,s.mb,0,s.cm,0,0,false⟩
def nh(s:dp)(a:Int):Option dp:=gu s (fI s a) s.L
theorem rC(c:Cl w o)(i:32<=k)(h:di w o k x D u A s){b num:Int}(j:pT s b num=some s'):
  Calls Tryz.prog 155 #[de x,.int .i64 b,.int .i64 num] w fun e n=>e=.returned (.tuple #[])/\∃l A',di n l k x D u A' s'/\Fm (eh k) o l w n:=by
 have d:=hI i;have t:=hI j;have H:=h;clear i j h;go_enter Tryz.func155,Tryz.ntmps155;go_upto_region 0 with fail;obtain⟨B,g,X⟩:=eS w;replace H:=H.ext X;have C:=H.g 11 _ rfl;have E:=H.g 9 _ rfl;refine eA [0,1,2,3,4,5,6,7,8,9,11,10,12] [13] ?_;rw[<-g];clear g;repeat((first|refine dC fun K a=>?_|refine dB fun K a=>?_);go_big_quiet_op;refine a _ ?_;clear a K)
 refine eF fun K a=>?_;go_simp;refine(fP H.q.lg).mono ?_;rintro e F ⟨rfl,rfl⟩;refine a _ _ (db.rfl' _) ?_;clear a K;repeat((first|refine dC fun K a=>?_|refine dB fun K a=>?_);go_big_quiet_op;refine a _ ?_;clear a K)
 refine eF fun K a=>?_;go_simp;refine a _ _ (db.rfl' _) ?_;clear a K;refine dh ?_;refine iD fun K a=>?_;go_simp;refine(gj (m:=jW s b num) (c.ext X) d.o H (L:=[]) (fJ.empty 7 _ _) t.o).mono ?_;rintro e I ⟨rfl,z,q,y,f⟩;have r:=(Fm.ext c X).tr f (dw d.o);clear f;refine a _ _ ?_;clear a K;refine df ?_;refine bodyPost_end (v:=.tuple #[]) (by simp[results,Tryz.results155,go_sem]) rfl ?_;exact⟨rfl,z,q,y,r⟩
theorem rH(c:Cl w o)(l:32<=k)(h:di w o k x D u A s){d:Int}(n:nh s d=some s'):
  Calls Tryz.prog 145 #[de x,.int .i64 d] w fun e t=>e=.returned (.tuple #[])/\∃q A',di t q k x D u A' s'/\Fm (eh k) o q w t:=by
 have f:=hI l;have C:=hI n;have H:=h;clear l n h;go_enter Tryz.func145,Tryz.ntmps145;go_upto_region 0 with fail;obtain⟨J,j,X⟩:=eS w;replace H:=H.ext X;have P:=H.g 11 _ rfl;have Q:=H.g 12 _ rfl;have R:=H.g 9 _ rfl;have O:=H.g 10 _ rfl;refine eA [0,1,2,3,4,5,6,7,8,9,10,11,12,13,15,16,17,18,14,19] [20] ?_;rw[<-j];clear j;repeat((first|refine dC fun K a=>?_|refine dB fun K a=>?_);go_big_quiet_op;refine a _ ?_;clear a K)
 refine eF fun K a=>?_;go_simp;refine(ik H.q.lg).mono ?_;rintro e T ⟨S,M,rfl,r,b⟩;have F:=fJ.fresh r (c.ext X) (Nat.le_refl _);have g:=X.tr b;have B:=H.ext b;refine a _ _ b ?_;clear a K r b;repeat((first|refine dC fun K a=>?_|refine dB fun K a=>?_);go_big_quiet_op;refine a _ ?_;clear a K)
 refine eF fun K a=>?_;go_simp;refine a _ _ (db.rfl' _) ?_;clear a K;refine dh ?_;refine iD fun K a=>?_;go_simp;refine(gj (m:=fI s d) (c.ext g) f.o B F C.o).mono ?_;rintro e U ⟨rfl,I,y,E,i⟩;have z:=(Fm.ext c g).tr i (dw f.o);clear i;refine a _ _ ?_;clear a K;refine df ?_;refine bodyPost_end (v:=.tuple #[]) (by simp[results,Tryz.results145,go_sem]) rfl ?_;exact⟨rfl,I,y,E,z⟩
end
section
variable{D:Nat} {u:Int}
theorem fa{s s':dp}{m:dz}{L:List dj}(h:gu s m L=some s'):s'=gW s m L:=by
 unfold gu at h;split at h;·exact(Option.some.inj h).symm
 .cases h
theorem xZ{O G:Nat}{A:iS}{s:dp}{F:Nat}(h:F<8):(CK O G A s)[24+F]? =some (.int .i64 (s.er.at F)):=by rcases tB h with rfl|rfl|rfl|rfl|rfl|rfl|rfl|rfl<;>rfl
def gm(a u:Int):dz:=⟨1,0,u,0,a,0,0,0,0,0,0,false⟩
def tP(a:Int)(s:dp)(u:Int):Option dp:=gu s (gm a u) []
def tn(s:dp)(u:Int):Option dp:=
 match s.v with
 |none=>none
 |some v=>if dg (dr v.2) u then some s else gu s (gm v.1 u) []
def Cg(s:dp)(b:Bool)(i:Int):Option Bool:=some (b||decide (14<=s.ck-s.er.at i.toNat))
def kJ(s:dp)(b u a:Int):dz:=⟨5,0,u,0,s.ls,0,0,a,s.cm,b,s.ck,false⟩
def AT(a:Int)(s:dp)(u:Int):Option dp:=
 match s.q with
 |none=>none
 |some q=>if dg s.ac u then(if 0<=fy q u/\fy q u<=1000000 then gu s (kJ s a u (fy q u)) (s.L.drop (fy q u).toNat)else none)else nh s u
variable{w Y:World} {o X:Ow} {k x O G:Nat} {A A':iS} {s s':dp}
structure kj (w:World) (o:Ow) (k x O G D:Nat) (id n:Int) (s:dp):Prop where
 nd:∃A,di w o k x O G A s
 bx:dq w o 0 D [de x]
 id:s.id=id
 n:s.n=n
theorem kj.ext{a:World}{id n:Int}(h:kj w o k x O G D id n s)(e:db w a):kj a o k x O G D id n s:=by obtain⟨A,b⟩:=h.nd;exact⟨⟨A,b.ext e⟩,h.bx.ext e,h.id,h.n⟩
theorem kj.cells{id n:Int}(h:kj w o k x O G D id n s):w.cell? ⟨x,0,none⟩=some (.int .i64 id)/\w.cell? ⟨x,1,none⟩=some (.int .i64 n):=by obtain⟨A,a⟩:=h.nd;have h1:=a.c 0 _ rfl;have h2:=a.c 1 _ rfl;rw[h.id]at h1;rw[h.n]at h2;exact⟨h1,h2⟩
theorem BX{f:Nat}{id n a:Int}(h:32<=k)(r:Cl w o)(H:kj w o k x O G D id n s)(V:dq w o 0 f [.int .i64 a])(i:tP a s u=some s'):
  Calls Tryz.prog 151 #[.int .i64 u,de D,de f] w fun e g=>e=.returned (.tuple #[])/\∃d,(kj g d k x O G D id n s'/\dq g d 0 f [.int .i64 a])/\Fm (eh k) o d w g:=by have b:=hI h;have c:=hI i;have z:=H.bx.box.c 0 _ rfl;have B:=V.box.c 0 _ rfl;clear h i;obtain⟨A,N⟩:=H.nd;go_enter Tryz.func151,Tryz.ntmps151;go_wp2_with fail;refine(gj (m:=gm a u) r b.o N (L:=[]) (fJ.empty 7 _ _) c.o).mono ?_;rintro e y ⟨rfl,l,p,j,F2⟩;have q:kj y l k x O G D id n s':=⟨⟨p,j⟩,H.bx.fr F2 (by decide) (dw b.o),by rw[fa c.o];exact H.id,by rw[fa c.o];exact H.n⟩;have t:=V.fr F2 (by decide) (dw b.o);clear j;go_wp2;refine bodyPost_end (v:=.tuple #[]) (by simp[results,Tryz.results151,go_sem]) rfl ?_;exact⟨rfl,l,⟨q,t⟩,F2⟩
theorem Be{D:Nat}{id n:Int}(J:32<=k)(z:Cl w o)(h:kj w o k x O G D id n s){u:Int}(B:dE u)(b:tn s u=some s'):
  Calls Tryz.prog 137 #[.int .i64 u,de D] w fun e Q=>e=.returned (.tuple #[])/\∃P,kj Q P k x O G D id n s'/\Fm (eh k) o P w Q:=by
 obtain⟨A,N⟩:=h.nd
 unfold tn at b
 cases l:s.v with
 |none=>rw[l]at b;cases b
 |some v=>
 obtain⟨vw,vs⟩:=v
 rw[l]at b
 simp only at b
 obtain⟨g,y,VS⟩:∃g,A.v=some g/\sM w o (k+11) g vw s.n vs:=by
  have:=N.q.vt;rw[l]at this;exact this
 have i:=hI J
 have H:=h
 have V:=hI y
 have E:gS (dr vs):=by
  obtain⟨p,ab,ds,hp,rfl⟩:=VS;exact kC ds (fun d hd=>(hp.ok d hd).fr)
 have W:=h.bx.box.c 0 _ rfl
 have Z:w.cell? ⟨x,17,none⟩=some (de g):=by
  have:=N.c 17 _ rfl;rw[y]at this;exact this
 clear J h l y
 cases j:dg (dr vs) u
 .rw[j]at b;have q:Hid (gu s (gm vw u) []=some s'):=hI b;clear b;go_enter Tryz.func137,Tryz.ntmps137;go_wp2_with fail;refine(jt VS).mono ?_;rintro e R ⟨rfl,c⟩;go_wp2_with fail;refine(fT _ _ E B _).mono ?_;rw[j];rintro e w2 ⟨rfl,rfl⟩;go_upto_region 1 with fail;replace H:=H.ext c;replace N:=N.ext c;replace VS:=VS.ext c;have r:=Fm.ext (C:=eh k) z c;clear c W Z;obtain⟨F,I,f⟩:=eS R;replace H:=H.ext f;replace N:=N.ext f;replace VS:=VS.ext f;have gb:=rg F (H.bx.box.c 0 _ rfl);have ac:∀d os,(grow (redrawn F d) os).cell? ⟨x,17,none⟩=some (de g):=by have:=N.g 17 _ rfl;rw[V.o]at this;exact this
  refine eA [0,1,2,3,4,5,6,7] [8] ?_;rw[<-I];clear I;repeat((first|refine dC fun K a=>?_|refine dB fun K a=>?_);go_big_quiet_op;refine a _ ?_;clear a K)
  refine eF fun K a=>?_;go_simp;refine(ju VS).mono ?_;rintro e w3 ⟨rfl,rfl⟩;refine a _ _ (db.rfl' _) ?_;clear a K;repeat((first|refine dC fun K a=>?_|refine dB fun K a=>?_);go_big_quiet_op;refine a _ ?_;clear a K)
  refine eF fun K a=>?_;go_simp;refine a _ _ (db.rfl' _) ?_;clear a K;refine dh ?_;refine iD fun K a=>?_;go_simp;refine(gj (m:=gm vw u) (r.cl.ext f) i.o N (L:=[]) (fJ.empty 7 _ _) q.o).mono ?_;rintro e Y ⟨rfl,X,S,M,t⟩;have T:kj Y X k x O G D id n s':=⟨⟨S,M⟩,H.bx.fr t (by decide) (dw i.o),by rw[fa q.o];exact H.id,by rw[fa q.o];exact H.n⟩;have U:=(r.tr (Fm.ext r.cl f) (dw i.o)).tr t (dw i.o);clear M t;refine a _ _ ?_;clear a K;refine df ?_;refine bodyPost_end (v:=.tuple #[]) (by simp[results,Tryz.results137,go_sem]) rfl ?_;exact⟨rfl,X,T,U⟩
 .rw[j]at b;cases b;go_enter Tryz.func137,Tryz.ntmps137;go_wp2_with fail;refine(jt VS).mono ?_;rintro e R ⟨rfl,c⟩;go_wp2_with fail;refine(fT _ _ E B _).mono ?_;rw[j];rintro e w2 ⟨rfl,rfl⟩;go_wp2;refine bodyPost_end (v:=.tuple #[]) (by simp[results,Tryz.results137,go_sem]) rfl ?_;exact⟨rfl,o,H.ext c,Fm.ext z c⟩
theorem FE{a:Nat}{b n:Bool}(q:32<=k)(p:Cl w o)(h:di w o k x O G A s)(m:dq w o 0 D [de x])(c:dq w o (k+19) a [.bool b])(l:dE u)(y:Cg s b u=some n):
  Calls Tryz.prog 141 #[.int .i64 u,de a,de D] w fun e j=>e=.returned (.tuple #[])/\∃i,(di j i k x O G A s/\dq j i 0 D [de x]/\dq j i (k+19) a [.bool n])/\Fm (one (k+19)) o i w j:=by
 obtain⟨F,rfl⟩:∃F:Nat,u=(F:Int):=⟨u.toNat,by have:=l.1;omega⟩;have r:F<8:=by have:=l.2;omega
 cases y;have z:=h.ok.ck;have B:=h.ok.er F;have M:wrap64 (s.ck-s.er.at F)=s.ck-s.er.at F:=by unfold wrap64;omega
 have K:(0:Int)<=(F:Int):=by omega
 have L:(F:Int)<8:=by omega
 have g:∀v:Bool,Hid ((di (w.setCell ⟨a,0,none⟩ (.bool v)).drew o k x O G A s/\dq (w.setCell ⟨a,0,none⟩ (.bool v)).drew o 0 D [de x]/\dq (w.setCell ⟨a,0,none⟩ (.bool v)).drew o (k+19) a [.bool v])/\Fm (one (k+19)) o o w (w.setCell ⟨a,0,none⟩ (.bool v)).drew):=fun v=>hI (by
  have f:=Fm.put (C:=one (k+19)) p c (by omega) rfl 0 (.bool v)
  exact⟨⟨(h.fr q f (by unfold one;omega) (fun d t=>by unfold one at t;unfold rD;omega)).ext (db.drew _),(m.fr f (by decide) (by unfold one;omega)).ext (db.drew _),(c.put 0 (.bool v)).ext (db.drew _)⟩,f.tr (Fm.ext f.cl (db.drew _)) (by unfold one;omega)⟩)
 have E:=c.box.c 0 _ rfl;have H:=c.box.f 0;have N:=m.box.c 0 _ rfl;have I:=h.c 4 _ rfl;have J:=h.c (24+F) _ (xZ r);clear z B q p h m c l;cases b;·go_enter Tryz.func141,Tryz.ntmps141;go_region;refine bodyPost_end (v:=.tuple #[]) (by simp[results,Tryz.results141,go_sem]) rfl ?_;exact⟨rfl,o,(g (decide (14<=s.ck-s.er.at F))).out.1,(g (decide (14<=s.ck-s.er.at F))).out.2⟩
 .go_enter Tryz.func141,Tryz.ntmps141;go_region;refine bodyPost_end (v:=.tuple #[]) (by simp[results,Tryz.results141,go_sem]) rfl ?_;exact⟨rfl,o,(g true).out.1,(g true).out.2⟩
theorem Dp{D V:Nat}{id n z:Int}(hk:32<=k)(ab:Cl w o)(h:kj w o k x O G D id n s)(hp:dq w o 0 V [.int .i64 z]){u:Int}(ht:dE u)(c:AT z s u=some s'):
  Calls Tryz.prog 144 #[.int .i64 u,de D,de V] w fun e W=>e=.returned (.tuple #[])/\∃U,(kj W U k x O G D id n s'/\dq W U 0 V [.int .i64 z])/\Fm (eh k) o U w W:=by
 obtain⟨A,j⟩:=h.nd
 unfold AT at c
 cases E:s.q with
 |none=>rw[E]at c;cases c
 |some q=>
 rw[E]at c
 simp only at c
 obtain⟨F,T,hQ⟩:∃F,A.q=some F/\ol w o (k+14) F q:=by
  have:=j.q.qu;rw[E]at this;exact this
 have f:=hI hk
 have HC:=hI ab
 have H:=hI h
 have N:=hI j
 have i:=hI hp
 have QU:=hI hQ
 have ah:=hI T
 have P:=hI ht
 have b0:=h.bx.box.c 0 _ rfl
 have ag:=j.c 23 _ rfl
 have af:w.cell? ⟨x,21,none⟩=some (de F):=by
  have:=j.c 21 _ rfl;rw[T]at this;exact this
 have Z:=hI j.ok.ac
 clear hk ab h j hp E T hQ ht
 cases B:dg s.ac u
 .rw[B]at c;have g:Hid (nh s u=some s'):=hI c;clear c;go_enter Tryz.func144,Tryz.ntmps144;go_wp2_with fail;refine(fT _ _ Z.o P.o _).mono ?_;rw[B];rintro e w2 ⟨rfl,rfl⟩;go_wp2_with fail;refine(rH HC.o f.o N.o g.o).mono ?_;rintro e Y ⟨rfl,X,I,y,d⟩;have J:Hid (kj Y X k x O G D id n s'):=hI ⟨⟨I,y⟩,H.o.bx.fr d (by decide) (dw f.o),by rw[fa g.o];exact H.o.id,by rw[fa g.o];exact H.o.n⟩;have Q:=hI (i.o.fr d (by decide) (dw f.o));have L:=hI d;clear y d;go_wp2;refine bodyPost_ret (v:=.tuple #[]) (by simp[results,Tryz.results144,go_sem]) rfl ?_;exact⟨rfl,X,⟨J.o,Q.o⟩,L.o⟩
 .rw[B]at c;simp only[if_true]at c;split at c;case isFalse=>cases c
  rename_i hr;have g:=hI c;obtain⟨a,ha⟩:∃a:Nat,fy q u=(a:Int):=⟨(fy q u).toNat,by omega⟩;have HA:=hI ha;have ac:Hid (a<=1000000):=hI (by omega);have ad:Hid ((fy q u).toNat=a):=hI (by omega);clear c hr ha;go_enter Tryz.func144,Tryz.ntmps144;go_wp2_with fail;refine(fT _ _ Z.o P.o _).mono ?_;rw[B];rintro e w2 ⟨rfl,rfl⟩;go_wp2_with fail;refine(BY QU.o P.o).mono ?_;rw[HA.o];rintro e w3 ⟨rfl,rfl⟩;go_upto_region 3 with fail;clear b0 ag af;have aa:=HC;obtain⟨r,S⟩:∃r,r=w.drew:=⟨_,rfl⟩;have t:Hid (db w r):=hI (by rw[S];exact db.drew w);replace H:=hI (H.o.ext t.o);replace N:=hI (N.o.ext t.o);replace i:=hI (i.o.ext t.o);have gb:=rg r (H.o.bx.box.c 0 _ rfl);have gp:=rg r (i.o.box.c 0 _ rfl);have aj:=N.o.g 11 _ rfl;have g9:=N.o.g 9 _ rfl;have ai:=N.o.g 10 _ rfl;have g4:=N.o.g 4 _ rfl;refine eA [0,1,2,3,4,5,6,7,8,9,10,11,13,14,15,16,17,18,19,20,21,12,22] [23] ?_;rw[<-S];clear S;repeat((first|refine dC fun K b=>?_|refine dB fun K b=>?_);go_big_quiet_op;refine b _ ?_;clear b K)
  refine eF fun K b=>?_;go_simp;obtain⟨p,R⟩:∃p,p=s.L.drop a:=⟨_,rfl⟩;have M:=tz N.o.q.lg ac.o;rw[<-R]at M;refine M.mono ?_;clear M;rintro e w5 ⟨p5,c5,rfl,o5,l⟩;have S5:Hid (fJ 7 w5 o p5 p.length c5 (p.map dY)):=hI (fJ.fresh o5 (aa.o.ext t.o) (Nat.le_refl _));have ae:Hid (gu s (kJ s z u (a:Int)) p=some s'):=hI (by have:=g.o;rw[ad.o,HA.o,<-R]at this;exact this);clear R;have M5:=hI (Fm.ext (C:=eh k) aa.o (t.o.tr l));replace N:=hI (N.o.ext l);replace i:=hI (i.o.ext l);replace H:=hI (H.o.ext l);refine b _ _ l ?_;clear b K o5 l;repeat((first|refine dC fun K b=>?_|refine dB fun K b=>?_);go_big_quiet_op;refine b _ ?_;clear b K)
  refine eF fun K b=>?_;go_simp;refine b _ _ (db.rfl' _) ?_;clear b K;refine dh ?_;refine iD fun K b=>?_;go_simp;refine(gj (m:=kJ s z u (a:Int)) M5.o.cl f.o N.o S5.o ae.o).mono ?_;rintro e Y ⟨rfl,X,I,y,d⟩;have J:Hid (kj Y X k x O G D id n s'):=hI ⟨⟨I,y⟩,H.o.bx.fr d (by decide) (dw f.o),by rw[fa g.o];exact H.o.id,by rw[fa g.o];exact H.o.n⟩;have Q:=hI (i.o.fr d (by decide) (dw f.o));have L:=hI (M5.o.tr d (dw f.o));clear y d;refine b _ _ ?_;clear b K;refine df ?_;refine bodyPost_end (v:=.tuple #[]) (by simp[results,Tryz.results144,go_sem]) rfl ?_;exact⟨rfl,X,⟨J.o,Q.o⟩,L.o⟩
end
section
def CL:List (Addr×Value)->World->Prop
 |[],_=>True
 |p::l,W=>W.cell? p.1=some p.2/\CL l W
def iU(s:dp)(num:Int):dz:=⟨8,0,dJ s.ls s.n,0,s.ls,0,0,0,0,num,0,false⟩
def fA(s:dp):dz:=⟨7,0,dJ s.ls s.n,0,0,0,0,0,0,0,0,false⟩
def qE(s:dp):Option dp:=
 if decide (1<=s.ls)&&(decide (s.f.ask.length<=64)&&decide (s.f.nm<=1099511620000))then
  match gu {s with f:=ir s.f s.ck} (iU s (s.f.nm+1)) []with
  |none=>none
  |some a=>match s.P with
   |[]=>some a
   |e::l=>gu a (fA s) (e::l)
 else none
variable{w G:World} {o D:Ow} {k x N u:Nat} {A A':iS} {s s':dp}
theorem EF(R:Cl w o)(hk:32<=k)(h:di w o k x N u A s)(j:qE s=some s'):
  Calls Tryz.prog 110 #[de x] w fun e w'=>e=.returned (.tuple #[])/\∃o' A',di w' o' k x N u A' s'/\Fm (eh k) o o' w w':=by
 unfold qE at j;split at j;case isFalse=>cases j
 rename_i Z;simp only[Bool.and_eq_true,decide_eq_true_eq]at Z;obtain⟨h1,h2,h3⟩:=Z;have r:=hI (And.intro h1 (And.intro h2 h3));clear h1 h2 h3;split at j;case h_1=>cases j
 rename_i s2 ac;have S:=hI ac;have t:=hI j;clear j ac;have b:=hI hk;have H:=h;clear hk h;go_enter Tryz.func110,Tryz.ntmps110;go_upto_region 0 with fail;obtain⟨Ww,n,V⟩:=eS w;replace H:=H.ext V;have ah:=H.g 11 _ rfl;have g1:=H.g 1 _ rfl;refine eA [0,1,2,3,4,5,6,7,8,9] [] ?_;rw[<-n];clear n;repeat((first|refine dC fun K a=>?_|refine dB fun K a=>?_);go_big_quiet_op;refine a _ ?_;clear a K)
 refine eF fun K a=>?_;go_simp;refine(gn s.ls s.n ⟨r.o.1,by have:=H.ok.ls;omega⟩ H.ok.n _).mono ?_;rintro e w2 ⟨rfl,rfl⟩;refine a _ _ (db.rfl' _) ?_;clear a K;repeat((first|refine dC fun K a=>?_|refine dB fun K a=>?_);go_big_quiet_op;refine a _ ?_;clear a K)
 refine dh ?_;refine df ?_;have y:=Fm.ext (C:=eh k) R V;clear R;go_upto_region 1 with fail;obtain⟨W2,n,E⟩:=eS Ww;replace H:=H.ext E;have aj:=fun(q:dN (CL [(⟨x,11,none⟩,.int .i64 s.ls),(⟨x,16,none⟩,de A.f),(⟨x,4,none⟩,.int .i64 s.ck)]))=>(q.h.1:q.w.cell? ⟨x,11,none⟩=some (.int .i64 s.ls));have ak:=fun(q:dN (CL [(⟨x,11,none⟩,.int .i64 s.ls),(⟨x,16,none⟩,de A.f),(⟨x,4,none⟩,.int .i64 s.ck)]))=>(q.h.2.1:q.w.cell? ⟨x,16,none⟩=some (de A.f));have r4:=fun(q:dN (CL [(⟨x,11,none⟩,.int .i64 s.ls),(⟨x,16,none⟩,de A.f),(⟨x,4,none⟩,.int .i64 s.ck)]))=>(q.h.2.2.1:q.w.cell? ⟨x,4,none⟩=some (.int .i64 s.ck));refine zx [0,1,2,3,4,5,6,7,8,9,10,11,12,13,14,15,16] (CL [(⟨x,11,none⟩,.int .i64 s.ls),(⟨x,16,none⟩,de A.f),(⟨x,4,none⟩,.int .i64 s.ck)]) (by rw[<-n];exact⟨H.c 11 _ rfl,H.c 16 _ rfl,H.c 4 _ rfl,trivial⟩) (fun _=>?_);rw[<-n];clear n;repeat((first|refine kv fun K a=>?_|refine kt fun K a=>?_);go_big_quiet_op;refine a _ ?_;clear a K)
 refine l7 fun K a=>?_;go_simp;refine(v' (y.cl.ext E) H.q.pf (by have:=b.o;omega) ⟨H.ok.f.1,by have:=H.ok.f.2;omega⟩ r.o.2.1).mono ?_;rintro e w3 ⟨o3,rfl,ae,M⟩;obtain⟨g,F3⟩:=di.mod0 (A':=A) (s':={s with f:=ir s.f s.ck}) b.o H M (fun d I=>by unfold two at I;unfold eh;omega) (H.q.set_pf b.o ae M (fun d I=>by unfold two at I;omega)) rfl {H.ok with f:=(by have h1:=H.ok.f;have h2:=r.o.2.2;exact⟨show 0<=s.f.nm+1 by omega,show s.f.nm+1<=1099511626776 by omega⟩)};have T:=(y.tr (Fm.ext y.cl E) (dw b.o)).tr F3 (dw b.o);clear ae M F3;refine a (CL [(⟨x,11,none⟩,.int .i64 s.ls),(⟨x,16,none⟩,de A.f),(⟨x,4,none⟩,.int .i64 s.ck)]) _ _ (fun _ h=>h) ⟨g.c 11 _ rfl,g.c 16 _ rfl,g.c 4 _ rfl,trivial⟩ (fun _=>?_);clear a K;repeat((first|refine kv fun K a=>?_|refine kt fun K a=>?_);go_big_quiet_op;refine a _ ?_;clear a K)
 refine l7 fun K a=>?_;go_simp;refine a (CL [(⟨x,11,none⟩,.int .i64 s.ls),(⟨x,16,none⟩,de A.f),(⟨x,4,none⟩,.int .i64 s.ck)]) _ _ (fun _ h=>h) ⟨g.c 11 _ rfl,g.c 16 _ rfl,g.c 4 _ rfl,trivial⟩ (fun _=>?_);clear a K;repeat((first|refine kv fun K a=>?_|refine kt fun K a=>?_);go_big_quiet_op;refine a _ ?_;clear a K)
 refine l7 fun K a=>?_;go_simp;refine(yh (m:=iU s (s.f.nm+1)) T.cl b.o g (L:=[]) (fJ.empty 7 _ _) S.o).mono ?_;rintro e G ⟨rfl,D,p4,c4,i,X⟩;obtain rfl:=fa S.o;have z:=T.tr X (dw b.o);clear X;refine a (fun W=>W=G) _ _ (fun W h=>by rw[h];exact⟨i.c 11 _ rfl,i.c 16 _ rfl,i.c 4 _ rfl,trivial⟩) rfl (fun _=>?_);clear a K;refine gG ?_;obtain⟨p,J⟩:∃p,p=gW {s with f:=ir s.f s.ck} (iU s (s.f.nm+1)) []:=⟨_,rfl⟩;have P4:Hid (p.P=s.P):=hI (by rw[J];rfl);rw[<-J]at i t;clear J;have ag:=i.c 13 _ rfl;go_wp2_with fail;refine(rF i.q.pn).mono ?_;rintro e w5 ⟨p5,c5,rfl,O,P⟩;obtain⟨c,F⟩:∃c,c=s.P:=⟨_,rfl⟩;rw[P4.o,<-F]at O⊢;have S5:=fJ.fresh O z.cl (Nat.le_refl _);have Q:=i.ext P;have B:=z.tr (Fm.ext z.cl P) (dw b.o)
 have U:Hid ((c=[]/\s'=p)\/(c≠[]/\gu p (fA s) c=some s')):=hI (by
  have h1:=t.o
  rw[<-F]at h1
  cases c with
  |nil=>
   simp only at h1;exact .inl ⟨rfl,(Option.some.inj h1).symm⟩
  |cons e l=>exact .inr ⟨by simp,h1⟩)
 clear O P ag t F;rcases U.o with⟨rfl,rfl⟩|⟨ab,ad⟩;·go_wp2;refine bodyPost_end (v:=.tuple #[]) (by simp[results,Tryz.results110,go_sem]) rfl ?_;exact⟨rfl,D,_,Q,B⟩
 .have ai:decide (0<c.length)=true:=decide_eq_true (by
   cases c with
   |nil=>exact absurd rfl ab
   |cons e l=>simp)
  have af:=hI ad;clear ab ad U;go_wp2_with fail;refine(gj (m:=fA s) B.cl b.o Q S5 af.o).mono ?_;rintro e w9 ⟨rfl,o9,A9,N9,Y⟩;have F9:=B.tr Y (dw b.o);clear Y;go_wp2;refine bodyPost_end (v:=.tuple #[]) (by simp[results,Tryz.results110,go_sem]) rfl ?_;exact⟨rfl,o9,A9,N9,F9⟩
end
section
variable{f:dj->Bool} {L:List dj} {w:World} {k cap:Nat} {p:Option Addr} {x:List Value} {e:dj} {a:Value} {o:Ow}
theorem sG(n:Nat):(Builtin.zeroCells (dZ dx) n).toList.length=n*7:=by simp[Builtin.zeroCells]
theorem yW(n:Nat):∀v∈(Builtin.zeroCells (dZ dx) n).toList,v.oneCell'=true:=by
 intro v c
 simp only[Builtin.zeroCells,Array.toList_map,List.mem_map]at c
 obtain⟨i,-,rfl⟩:=c
 have b:i%7<7:=Nat.mod_lt _ (by decide)
 have e:(dZ dx).size=7:=rfl
 rw[e]
 generalize i%7=k at b
 match k,b with
 |0,_=>rfl
 |1,_=>rfl
 |2,_=>rfl
 |3,_=>rfl
 |4,_=>rfl
 |5,_=>rfl
 |6,_=>rfl
theorem uO(w:World)(l:TypeId)(b a n c:Nat)(r:0<n)(g:∀j,j<n*7->(w.cell? ⟨b,a+j,none⟩).isSome=true)(h:∀j,w.frozen? ⟨b,a+j,none⟩=false):
  (Builtin.clear_ #[43] l #[.slice (some ⟨b,a,none⟩) n c]).run Tryz.prog w=.ok (.tuple #[]) (w.setCells b a (Builtin.zeroCells (dZ dx) n).toList):=by
 have d:=run_storeCells_cells (P:=Tryz.prog) b a (Builtin.zeroCells (dZ dx) n).toList 0 w (by
  rw[sG];intro j i;have:=g j i
  simpa using this) (fun j _=>by simpa using h j) (yW n)
 obtain⟨m,rfl⟩:∃m,n=m+1:=⟨n-1,by omega⟩;simp only[Nat.add_zero]at d;simp[Builtin.clear_,run_underlying Tryz.underlying43];show((Sem.run _ (storeCells ⟨b,a,none⟩ (Builtin.zeroCells (dZ dx) (m+1)).toList) w).andThen fun a q=>Result.ok (Value.tuple #[]) q)=_;rw[d];rfl
theorem xM{n:Nat}(S:SlS 7 w p n cap (L.map dY))(Y:∀(m:Array Value) (w:World),(callFunc k m).run Tryz.prog w=.ok (.enter k m) w)(B:∀e d,db w d->Calls Tryz.prog k #[jT e,a] d fun r V=>r=.returned (.bool (f e))/\db d V):
  Calls Tryz.prog 165 #[.slice p n cap,.func (.func k) #[] #[a]] w fun e d=>(∃z:Int,e=.returned (.int .i64 z)/\((z= -1/\L.any f=false)\/∃i:Nat,z=(i:Int)/\(L.take i).any f=false/\∃x,L[i]? =some x/\f x=true))/\db w d:=by
 have hn:n<=9223372036854775807:=Nat.le_trans S.le S.max;have N:=hI (it S);have F:=hI B;clear B;go_enter Tryz.func165,Tryz.ntmps165;go_wp2;go_loopw [8] (fun i wr=>∃k:Nat,k<=n/\i=.int .i64 (k:Int)/\(L.take k).any f=false/\db w wr) (fun i _=>n-(intOf i).toNat);case atStart=>exact⟨0,by omega,rfl,rfl,db.rfl' _⟩
 case round=>
  obtain⟨k,Z,rfl,C,X⟩:=hrel;have T:=hI C;clear C;by_cases R:k<n
  .obtain⟨b,o,e,U,D,H,I,J,K,M,O,P⟩:=iE (S.ext X) k R;have l:=hI D;clear D;subst U;obtain⟨s,t,u,v,y,A,q⟩:=e;simp only at H I J K M O P;have h:=F.o ⟨s,t,u,v,y,A,q⟩ _ X;cases c:f ⟨s,t,u,v,y,A,q⟩
   .have G:Hid ((L.take (k+1)).any f=false):=hI (by
     rw[List.take_add_one,l.o,List.any_append,T.o]
     simp[c])
    rw[c]at h;clear c;go_wp2_with fail;refine h.mono ?_;rintro e W ⟨rfl,g⟩;have j:=X.tr g;clear g;go_wp2;go_roundw;case rel=>exact⟨k+1,by omega,by go_num,G.o,j⟩
    case measure=>simp[intOf];omega
   .have E:=hI c;rw[c]at h;clear c;go_wp2_with fail;refine h.mono ?_;rintro e W ⟨rfl,g⟩;have j:=X.tr g;clear g;go_wp2;go_ret;exact⟨⟨_,rfl,.inr ⟨k,rfl,T.o,_,l.o,E.o⟩⟩,j⟩
  .have Q:Hid (L.any f=false):=hI (by
    have h1:=T.o
    rwa[List.take_of_length_le (by rw[N.o];omega)]at h1)
   go_wp2;go_ret;exact⟨⟨_,rfl,.inl ⟨rfl,Q.out⟩⟩,X⟩
theorem FC{L:List (List Value)}{K i:Nat}(c:∀y∈L,y.length=K)(b:i<L.length)(d:x.length=K):xQ L.flatten (i*K) x=(L.set i x).flatten:=by
 have a1:(L.take i).flatten.length=i*K:=by rw[ee _ (fun y g=>c y (List.mem_of_mem_take g)),List.length_take,Nat.min_eq_left (Nat.le_of_lt b)]
 have a3:L[i].length=K:=c _ (List.getElem_mem b);rw[mY b,<-a1,lE _ _ _ (by rw[List.length_append];omega)];rw[List.set_eq_take_append_cons_drop,if_pos b,List.flatten_append,List.flatten_cons];rw[d,<-a3,List.drop_left,List.append_assoc]
theorem IL{E:TypeId}{K:Nat}{c n b i:Nat}{L:List (List Value)}(l:Cl w o)(h:dQ E K w o c (some ⟨b,0,none⟩) n cap L)(h1:c≠1)(s:i<n)(d:x.length=K):
  dQ E K (w.setCells b (i*K) x) o c (some ⟨b,0,none⟩) n cap (L.set i x)/\Fm (one c) o o w (w.setCells b (i*K) x):=by
 have q:=h.row.1;obtain⟨g,j⟩:=lL x (i*K) w _ h.row.2.2;rw[FC h.row.2.1 (by omega) d]at g;refine⟨⟨⟨by rw[List.length_set];exact q,fun y r=>?_,g⟩,h.col⟩,Fm.grown l j (fun k m=>by cases m;rw[h.col b rfl];exact⟨h1,rfl⟩)⟩;rcases List.mem_or_eq_of_mem_set r with h2|h2;·exact h.row.2.1 y h2
 .rw[h2];exact d
def lu(L:List dj)(f:dj->Bool)(k:Nat):List dj:=((L.take k).filter fun e=> !f e)++L.drop ((L.take k).filter fun e=> !f e).length
theorem J6(b:k<L.length):(lu L f k)[k]? =L[k]? :=by have h1:((L.take k).filter fun e=> !f e).length<=k:=Nat.le_trans (List.length_filter_le _ _) (by rw[List.length_take];omega);unfold lu;rw[List.getElem?_append_right h1,List.getElem?_drop];congr 1;omega
theorem jq(h:L[k]? =some e):((L.take (k+1)).filter fun e=> !f e)=((L.take k).filter fun e=> !f e)++(if f e then []else [e]):=by rw[List.take_add_one,h,List.filter_append];congr 1;cases b:f e<;>simp[b]
theorem Ii(h:L[k]? =some e)(b:f e=true):lu L f (k+1)=lu L f k:=by unfold lu;rw[jq h,b];simp
theorem J7(h:L[k]? =some e)(b:f e=false):lu L f (k+1)=(lu L f k).set ((L.take k).filter fun e=> !f e).length e:=by
 have c:k<L.length:=(List.getElem?_eq_some_iff.1 h).1;have h1:((L.take k).filter fun e=> !f e).length<=k:=Nat.le_trans (List.length_filter_le _ _) (by rw[List.length_take];omega);unfold lu;rw[jq h,b];generalize((L.take k).filter fun e=> !f e)=F at h1;have h2:(L.drop F.length).set 0 e=e::L.drop (F.length+1):=by rw[List.drop_eq_getElem_cons (show F.length<L.length by omega)];rfl
 rw[List.set_append_right _ _ (Nat.le_refl _),Nat.sub_self,h2];simp
theorem Cc{c b F:Nat}(s:Cl w o)(h:dQ 71 7 w o c (some ⟨b,0,none⟩) k cap ((lu L f k).map dY))(h1:c≠1)(u:L.length=k)(r:F<=k)(g:F=((L.take k).filter fun e=> !f e).length):
  dQ 71 7 (w.setCells b (F*7) (Builtin.zeroCells (dZ dx) (k-F)).toList) o c (some ⟨b,0,none⟩) F cap ((L.filter fun e=> !f e).map dY)/\Fm (one c) o o w (w.setCells b (F*7) (Builtin.zeroCells (dZ dx) (k-F)).toList):=by
 obtain⟨A,q⟩:=lL (Builtin.zeroCells (dZ dx) (k-F)).toList (F*7) w _ h.row.2.2;have i:=tN A r;have l:L.take k=L:=List.take_of_length_le (by omega);rw[l]at g;have m:lu L f k=(L.filter fun e=> !f e)++L.drop F:=by unfold lu;rw[l,<-g]
 have v:((L.filter fun e=> !f e).map dY).flatten.length=F*7:=by rw[ee (K:=7) _ (fun y d=>by obtain⟨e,-,rfl⟩:=List.mem_map.1 d;rfl),List.length_map,<-g]
 have z:((L.drop F).map dY).flatten.length=(k-F)*7:=by rw[ee (K:=7) _ (fun y d=>by obtain⟨e,-,rfl⟩:=List.mem_map.1 d;rfl),List.length_map,List.length_drop,u]
 rw[m,List.map_append,List.flatten_append]at i;have n:(xQ (((L.filter fun e=> !f e).map dY).flatten++((L.drop F).map dY).flatten) (F*7) (Builtin.zeroCells (dZ dx) (k-F)).toList).take (F*7)=((L.filter fun e=> !f e).map dY).flatten:=by rw[<-v,lE _ _ _ (by rw[sG,z];exact Nat.le_refl _),List.append_assoc,List.take_left]
 rw[n]at i;exact⟨⟨⟨by rw[List.length_map,<-g],(fun y d=>by obtain⟨e,-,rfl⟩:=List.mem_map.1 d;rfl),i⟩,h.col⟩,Fm.grown s q (fun j t=>by cases t;rw[h.col b rfl];exact⟨h1,rfl⟩)⟩
theorem vD{c n:Nat}(HC:Cl w o)(S:dQ 71 7 w o c p n cap (L.map dY))(h1:1<c)(av:∀(ag:Array Value) (w:World),(callFunc k ag).run Tryz.prog w=.ok (.enter k ag) w)(hF:∀e A,Fm (one c) o o w A->Calls Tryz.prog k #[jT e,a] A fun r w2=>r=.returned (.bool (f e))/\db A w2):
  Calls Tryz.prog 191 #[.slice p n cap,.func (.func k) #[] #[a]] w fun e A=>e=.returned (.slice p (L.filter fun e=> !f e).length cap)/\dQ 71 7 A o c p (L.filter fun e=> !f e).length cap ((L.filter fun e=> !f e).map dY)/\Fm (one c) o o w A:=by
 have hn:n<=9223372036854775807:=Nat.le_trans S.row.sl.le S.row.sl.max;have aC:=S.row.sl.le;have N:=hI (it S.row.sl);have HF:=hI hF;have C:=hI h1;clear hF h1;go_enter Tryz.func191,Tryz.ntmps191;go_wp2_with fail;refine(xM S.row.sl av (fun e A x=>HF.o e A (Fm.ext HC x))).mono ?_;rintro e w2 ⟨⟨z,rfl,hz⟩,K⟩;rcases hz with⟨rfl,ac⟩|⟨i,rfl,V,x,D,ab⟩
 .have ak:(L.filter fun e=> !f e)=L:=by rw[List.filter_eq_self];intro e h;rw[List.any_eq_false]at ac;simpa using ac e h
  have FA:=hI ak;clear ac ak;go_wp2;go_ret;refine⟨by rw[FA.o,N.o];rfl,?_,Fm.ext HC K⟩;rw[FA.o,N.o];exact S.ext K
 .have aE:i<n:=by have:=(List.getElem?_eq_some_iff.1 D).1;rw[N.o]at this;exact this
  obtain⟨b,hb⟩:∃b,p=some ⟨b,0,none⟩:=by
   rcases S.row.2.2.2 with⟨hv,hn⟩|⟨b,cc,ay,hv,-⟩;·injection hv with _ e _;omega
   .cases hv;exact⟨b,rfl⟩
  subst hb
  have ah:((L.take (i+1)).filter fun e=> !f e).length=i:=by
   rw[jq D,ab];have:((L.take i).filter fun e=> !f e)=L.take i:=by rw[List.filter_eq_self];intro e h;rw[List.any_eq_false]at V;simpa using V e h
   rw[this];simp;rw[N.o];omega
  have M0:Hid (lu L f (i+1)=L):=hI (by
   have e1:((L.take (i+1)).filter fun e=> !f e)=L.take i:=by
    rw[jq D,ab];have:((L.take i).filter fun e=> !f e)=L.take i:=by rw[List.filter_eq_self];intro e h;rw[List.any_eq_false]at V;simpa using V e h
    rw[this];simp
   unfold lu
   rw[e1,List.length_take,Nat.min_eq_left (by rw[N.o];omega),List.take_append_drop])
  have F0:=hI ah;have ae:Fm (one c) o o w w2:=Fm.ext HC K;have S2:=S.ext K;clear V D ab ah K;go_wp2;generalize Value.bool ((i:Int)== -1)=aF;go_loopw [5,6] (fun iv jv wr=>∃k F:Nat,k<=n/\F<k/\F=((L.take k).filter fun e=> !f e).length/\jv=.int .i64 (k:Int)/\iv=.int .i64 (F:Int)/\dQ 71 7 wr o c (some ⟨b,0,none⟩) n cap ((lu L f k).map dY)/\Fm (one c) o o w wr) (fun _ jv _=>n-(intOf jv).toNat);case atStart=>exact⟨i+1,i,by omega,by omega,F0.o.symm,by go_num,rfl,by rw[M0.o];exact S2,ae⟩
  case round=>
   obtain⟨k,F,hk,aB,aj,rfl,rfl,y,I⟩:=hrel;clear S2 ae M0 F0;have H:=hI aj;clear aj;by_cases al:k<n
   .obtain⟨b',oo,e,hp,D,M,O,P,Q,R,T,U⟩:=iE y.row.sl k al;have W:Hid (L[k]? =some e):=hI (by rw[<-J6 (f:=f) (by rw[N.o];exact al)];exact D);clear D;cases hp;obtain⟨q,s,t,u,v,d,m⟩:=e;simp only[Nat.zero_add]at M O P Q R T U;go_upto_region 8 with fail;change Code.wp _ _ _ _ (wr.alloc (.cells (dZ ⟨q,s,t,u,v,d,m⟩) 71));have Z:=eB.new wr ⟨q,s,t,u,v,d,m⟩ 71;have X3:=db.alloc wr (.cells (dZ ⟨q,s,t,u,v,d,m⟩) 71);have R3:=y.ext X3;have E:=I.tr (Fm.ext I.cl X3) (by unfold one;have:=C.o;omega);clear X3 y I M O P Q R T U;generalize wr.alloc (.cells (dZ ⟨q,s,t,u,v,d,m⟩) 71)=w3 at*;generalize wr.heap.size=eb at*;have⟨d0,d1,d2,d3,d4,d5,d6⟩:=Z;simp only at d0 d1 d2 d3 d4 d5 d6;have X:=HF.o ⟨q,s,t,u,v,d,m⟩ _ E;cases h:f ⟨q,s,t,u,v,d,m⟩
    .have NO:=hI h;rw[h]at X;clear h;go_wp2_with fail;refine X.mono ?_;rintro e Y ⟨rfl,B⟩;have ad:=Z.ext B;have G:=R3.ext B;have J:=E.tr (Fm.ext E.cl B) (by unfold one;have:=C.o;omega);clear B d0 d1 d2 d3 d4 d5 d6 Z R3 E;have⟨d0,d1,d2,d3,d4,d5,d6⟩:=ad;simp only at d0 d1 d2 d3 d4 d5 d6;obtain⟨b',oo,e',hp,-,M,O,P,Q,R,T,U⟩:=iE G.row.sl F (by omega);cases hp;simp only[Nat.zero_add]at M O P Q R T U;have l:=G.row.2.2.frozenAt;have am:=l (F*7);have an:=l (F*7+1);have ao:=l (F*7+2);have ap:=l (F*7+3);have aq:=l (F*7+4);have ar:=l (F*7+5);have au:=l (F*7+6);obtain⟨R5,m5⟩:=IL J.cl G (by have:=C.o;omega) (show F<n by omega) (show(dY ⟨q,s,t,u,v,d,m⟩).length=7 from rfl);have e5:((lu L f k).map dY).set F (dY ⟨q,s,t,u,v,d,m⟩)=(lu L f (k+1)).map dY:=by rw[J7 W.o NO.o,<-H.o,List.map_set]
     rw[e5]at R5;have M5:=J.tr m5 (by unfold one;have:=C.o;omega);have aa:Hid (F+1=((L.take (k+1)).filter fun e=> !f e).length):=hI (by rw[jq W.o,NO.o,List.length_append,<-H.o];rfl);clear m5 e5 l;go_upto_region 10 with fail;change Code.wp _ _ _ _ (Y.setCells b (F*7) (dY ⟨q,s,t,u,v,d,m⟩));clear M O P Q R T U d0 d1 d2 d3 d4 d5 d6 am an ao ap aq ar au ad G J;generalize Y.setCells b (F*7) (dY ⟨q,s,t,u,v,d,m⟩)=w5 at*;go_wp2;go_roundw;case rel=>exact⟨k+1,F+1,by omega,by omega,aa.o,by go_num,by go_num,R5,M5⟩
     case measure=>simp[intOf];omega
    .have af:=hI h;rw[h]at X;clear h;go_wp2_with fail;refine X.mono ?_;rintro e Y ⟨rfl,B⟩;have G:dQ 71 7 Y o c (some ⟨b,0,none⟩) n cap ((lu L f (k+1)).map dY):=by rw[Ii W.o af.o];exact R3.ext B
     have J:=E.tr (Fm.ext E.cl B) (by unfold one;have:=C.o;omega);have aa:Hid (F=((L.take (k+1)).filter fun e=> !f e).length):=hI (by rw[jq W.o,af.o,List.length_append,<-H.o];rfl);clear B;go_wp2;go_roundw;case rel=>exact⟨k+1,F,by omega,by omega,aa.o,by go_num,rfl,G,J⟩
     case measure=>simp[intOf];omega
   .have ax:k=n:=by omega
    subst ax;have ai:(L.filter fun e=> !f e).length=F:=by have:=H.o;rw[List.take_of_length_le (by rw[N.o];exact Nat.le_refl _)]at this;exact this.symm
    have l:=y.row.2.2.frozenAt
    have CC:Hid (∀j,j<(k-F)*7->(wr.cell? ⟨b,F*7+j,none⟩).isSome=true):=hI (fun j hj=>by
     have aw:((lu L f k).map dY).flatten.length=k*7:=by rw[ee _ y.row.2.1,y.row.1]
     have:=y.row.2.2.cells (g:=b) rfl (F*7+j) _ (List.getElem?_eq_getElem (by rw[aw];omega))
     rw[Addr.add_lit]at this
     simp only[Nat.zero_add]at this
     rw[this]
     rfl)
    have az:∀w:World,(Instr.slice 43 (.slice (some ⟨b,0,none⟩) k cap) (some (.int .i64 (F:Int))) none none).run Tryz.prog w=.ok (.slice (some ⟨b,F*7,none⟩) (k-F) (cap-F)) w:=fun w=>by
     have:=mX (some ⟨b,0,none⟩) k cap F (by omega) w;have e:gI 7 (some ⟨b,0,none⟩) cap F=some ⟨b,F*7,none⟩:=by unfold gI;rw[if_neg (by omega)];show some (Addr.add _ _)=_;rw[Addr.add_lit,Nat.zero_add]
     rw[e]at this;exact this
    have aA:=fun w=>jA (some ⟨b,0,none⟩) k cap F (by omega) w;have aD:=fun ty=>uO wr ty b (F*7) (k-F) (cap-F) (by omega) CC.o (fun j=>l _);obtain⟨R6,d⟩:=Cc I.cl y (by have:=C.o;omega) N.o (by omega) H.o;have F6:=I.tr d (by unfold one;have:=C.o;omega);have FL:=hI ai;clear d l ai;go_wp2;go_ret;rw[FL.o];refine⟨rfl,?_,F6⟩;exact R6
end
section
variable{p:Option Addr} {w:World}
theorem xt{g:Nat}{x e:dj}(h:eB w g e):
  Calls Tryz.prog 193 #[jT x,.pointer (some ⟨g,0,none⟩)] w fun r B=>r=.returned (.bool (dG x e))/\db w B:=by have o:=h.ext (db.alloc w (.cells (dZ x) 71));obtain⟨c,d,f,i,j,k,l⟩:=x;obtain⟨s,t,u,v,y,z,A⟩:=e;have n:=eB.new w ⟨c,d,f,i,j,k,l⟩ 71;clear h;have⟨c0,c1,c2,c3,c4,c5,c6⟩:=n;have⟨d0,d1,d2,d3,d4,d5,d6⟩:=o;simp only at c0 c1 c2 c3 c4 c5 c6 d0 d1 d2 d3 d4 d5 d6;go_enter Tryz.func193,Tryz.ntmps193;go_wp2_with fail;refine(rR (a:=⟨c,d,f,i,j,k,l⟩) (b:=⟨s,t,u,v,y,z,A⟩)).mono ?_;rintro r C ⟨rfl,m⟩;have q:=(db.alloc w (.cells (dZ ⟨c,d,f,i,j,k,l⟩) 71)).tr m;clear m;go_wp2;go_ret;exact⟨rfl,q⟩
theorem AW{m n cap:Nat}{S:List dj}{e:dj}(l:w.cell? ⟨m,0,none⟩=some (.slice p n cap))(h:SlS 7 w p n cap (S.map dY)):
  Calls Tryz.prog 192 #[jT e,.pointer (some ⟨m,0,none⟩)] w fun r o=>r=.returned (.bool (S.any fun x=>dG x e))/\db w o:=by have H:=h.ext (db.alloc w (.cells (dZ e) 71));clear h;obtain⟨a,b,c,d,g,i,j⟩:=e;have s:=eB.new w ⟨a,b,c,d,g,i,j⟩ 71;have u:=db.cell (db.alloc w (.cells (dZ ⟨a,b,c,d,g,i,j⟩) 71)) l;clear l;go_enter Tryz.func192,Tryz.ntmps192;go_wp2_with fail;refine(mI (f:=fun x=>dG x ⟨a,b,c,d,g,i,j⟩) H (iw Tryz.func193 (by kernel_rfl) (by kernel_rfl)) (fun x o k=>xt (s.ext k))).mono ?_;rintro r v ⟨rfl,q⟩;have t:=(db.alloc w (.cells (dZ ⟨a,b,c,d,g,i,j⟩) 71)).tr q;clear q;go_wp2;go_ret;exact⟨rfl,t⟩
def lA(L S:List dj):List dj:=L.filter fun e=> !(S.any fun x=>dG x e)
theorem BR{o:Ow}{c g n cap:Nat}{fr bt t:Int}{L S:List dj}(l:Cl w o)(h:sI w o c g fr bt t L)(h1:1<c)(A:fJ 7 w o p n cap (S.map dY)):
  Calls Tryz.prog 176 #[.pointer (some ⟨g,0,none⟩),.slice p n cap] w fun e b=>(∃z:Int,e=.returned (.int .i64 z))/\sI b o c g fr bt t (lA L S)/\Fm (two c) o o w b:=by have A0:=db.alloc w (.cells #[.slice p n cap] 43);have j:Hid ((w.alloc (.cells #[.slice p n cap] 43)).cell? ⟨w.heap.size,0,none⟩=some (.slice p n cap)/\w.heap.size<(w.alloc (.cells #[.slice p n cap] 43)).heap.size/\o w.heap.size=0):=hI ⟨World.cell?_alloc_mark ..,by simp,l _ (Nat.le_refl _)⟩;have H:=h.ext A0;have N:=A.ext A0;have E:=l.ext A0;have I:=Fm.ext (C:=two c) l A0;have a:=hI h1;clear h A l h1;go_enter Tryz.func176,Tryz.ntmps176;go_upto_region 1 with fail;change Code.wp _ _ _ _ (w.alloc (.cells #[.slice p n cap] 43));clear A0;generalize w.alloc (.cells #[.slice p n cap] 43)=R at*;generalize w.heap.size=B at*;go_wp2_with fail;refine(tI H).mono ?_;rintro e D ⟨rfl,rfl⟩;obtain⟨s,q,i⟩:=H;have y:=i.box.box.c 3 _ rfl;have O:=j.o.1;have G:Hid (∀e b,Fm (one (c+1)) o o R b->Calls Tryz.prog 192 #[jT e,.pointer (some ⟨B,0,none⟩)] b fun r D=>r=.returned (.bool (S.any fun x=>dG x e))/\db b D):=hI (fun e b k=>AW ((World.cell?_of_block (k.blk B j.o.2.1 (by rw[j.o.2.2];decide) (by rw[j.o.2.2];unfold one;omega))).trans j.o.1) (N.fr k (by unfold one;omega)).sl);have F:=hI (iw Tryz.func192 (by kernel_rfl) (by kernel_rfl));go_wp2_with fail;refine(vD (f:=fun e=>S.any fun x=>dG x e) E i.row (by have:=a.o;omega) F.o G.o).mono ?_;rintro e T ⟨rfl,M,m⟩;have d:=i.box.fr m (by have:=a.o;omega) (by unfold one;omega);have u:=m.cl;have J:=I.tr (m.mono (fun x Q=> .inr Q)) (by unfold two;have:=a.o;omega);clear m y O;have y:=d.box.c 3 _ rfl;have U:=d.box.f 3;have v:sI (T.setCell ⟨g,3,none⟩ (.slice s (lA L S).length q)) o c g fr bt t (lA L S):=⟨s,q,d.put 3 _,M.fr (Fm.put (C:=one c) u d (by have:=a.o;omega) rfl 3 _) (by have:=a.o;omega) (by unfold one;omega),(fun e P=>i.ok e (List.mem_filter.1 P).1),Nat.le_trans (List.length_filter_le _ _) i.le⟩;have K:=J.tr (Fm.put u d (by have:=a.o;omega) (.inl rfl) 3 (.slice s (lA L S).length q)) (by unfold two;have:=a.o;omega);go_wp2_with fail;refine(tI v).mono ?_;rintro e V ⟨rfl,rfl⟩;go_wp2;go_ret;exact⟨⟨_,rfl⟩,v,K⟩
end
section
def nW(m:Nat)(t:iB):Option Nat:=
 if t.e.od=1 then(if t.e.lv=0 then some m else if ec t.e&&decide (m<100000)then some (m+1)else none)else some m
def xF(s:dp):ua×List iB×List iB:=iF s.cm s.ck s.L.length 0 s.L (⟨true,true,true,true⟩,s.T,[])
def Af(s:dp)(m:Nat):dp:={s with P:=lA s.P (s.L.take s.cm.toNat),T:=(xF s).2.1,tm:=m}
def nV(s:dp):Option dp:=
 if decide ((xF s).2.1.length<=50000)then(dt nW (xF s).2.2 s.tm).map (Af s)else none
def un(s:dp):Option (List (dz×List dj)×dp):=(nV s).map fun s=>(s.out,{s with out:=[]})
theorem Ie{e:dj}(h:ec e=true):eQ e/\0<=e.st/\e.st<=1099511627776/\0<=e.od/\e.od<=2:=by unfold ec ig at h;simp only[Bool.and_eq_true,decide_eq_true_eq]at h;obtain⟨⟨a1,a2⟩,⟨b1,b2⟩,⟨a,b⟩,⟨c,d⟩,⟨f,i⟩,⟨j,l⟩,g⟩:=h;unfold eQ I64;refine⟨⟨⟨?_,?_⟩,⟨?_,?_⟩,⟨?_,?_⟩,⟨?_,?_⟩,⟨?_,?_⟩,⟨?_,?_⟩,?_⟩,?_,?_,?_,?_⟩<;>omega
variable{w:World} {o:Ow} {k x D u:Nat} {A:iS} {s s':dp}
theorem vX(HC:Cl w o)(hk:32<=k)(H:di w o k x D u A s)(hs:nV s=some s'):
  Calls Tryz.prog 152 #[de x] w fun e w'=>e=.returned (.tuple #[])/\∃o',di w' o' k x D u A s'/\Fm (eh k) o o' w w':=by
 unfold nV at hs;split at hs;case isFalse=>cases hs
 rename_i hT;rw[decide_eq_true_eq]at hT;obtain⟨m',aC,rfl⟩:=Option.map_eq_some_iff.1 hs;clear hs;obtain⟨c,hc⟩:∃c:Nat,s.cm=(c:Int):=⟨s.cm.toNat,by have:=H.ok.cm.1;omega⟩;have aA:s.cm.toNat=c:=by omega
 have g:=hI hk;have HT:=hI hT;have ap:=hI aC;have aJ:=hI hc;have aK:=hI aA;have c9:=H.c 9 _ rfl;clear hk hT aC aA;go_enter Tryz.func152,Tryz.ntmps152;go_wp2_with fail;refine(ik H.q.lg).mono ?_;rintro e w1 ⟨p1,c1,rfl,r,x1⟩;have R:fJ 7 w1 o p1 s.L.length c1 (s.L.map dY):=fJ.fresh r HC (Nat.le_refl _);have y:=H.ext x1;have M1:=Fm.ext (C:=eh k) HC x1;have C1:=HC.ext x1;clear r x1 H HC c9;go_upto_region 1 with fail;obtain⟨O,al⟩:∃O,O=min c s.L.length:=⟨_,rfl⟩;have KK:=hI al;have aQ:=uP (P:=Tryz.prog) c s.L.length O al;have aM:=jA p1 s.L.length c1 O (by have:=R.sl.le;omega);clear al;obtain⟨av,J,X1⟩:=eS w1;replace y:=y.ext X1;replace C1:=C1.ext X1;replace R:=R.ext X1;have aO:=y.g 13 _ rfl;have aN:∀d os,(grow (redrawn av d) os).cell? ⟨x,10,none⟩=some (.int .i64 (c:Int)):=by rw[<-aJ.o];exact y.g 10 _ rfl
 refine gV [0,1,2,3,4,5,6,7,8,9,10,11,12] [13] (by kernel_rfl) (by kernel_rfl) (fun _ _ d _ _ H=>by cases d<;>exact H) ?_;rw[<-J];clear J;repeat((first|refine dC fun K a=>?_|refine dB fun K a=>?_);go_big_quiet_op;refine a _ ?_;clear a K)
 refine dh ?_;refine iD fun K a=>?_;go_simp
 have SK:fJ 7 av o p1 O c1 ((s.L.take s.cm.toNat).map dY):=by
  have h1:=R.sl.take O (by have:=KK.o;omega);rw[<-List.map_take]at h1
  have e1:s.L.take O=s.L.take s.cm.toNat:=by
   rw[aK.o,KK.o];by_cases aP:c<=s.L.length;·rw[Nat.min_eq_left aP]
   .rw[Nat.min_eq_right (by omega),List.take_length,List.take_of_length_le (by omega)]
  rw[e1]at h1;exact⟨h1,R.lt⟩
 refine(BR C1 y.q.pn (by have:=g.o;omega) SK).mono ?_;rintro e w3 ⟨⟨z,rfl⟩,aH,m3⟩;obtain⟨l,F3⟩:=di.mod0 (A':=A) (s':={s with P:=lA s.P (s.L.take s.cm.toNat)}) g.o y m3 (fun d F=>by unfold two at F;unfold eh;omega) (y.q.set_pn g.o aH m3 (fun d F=>by unfold two at F;omega)) rfl {y.ok with P:=(fun e he=>y.ok.P e ((List.mem_filter.1 he).1))};have S3:=R.fr m3 (by unfold two;have:=g.o;omega);have M3:=(M1.tr (Fm.ext M1.cl X1) (dw g.o)).tr F3 (dw g.o);clear aH m3 F3 SK R y M1 C1 X1 aO aN aQ aM KK;refine a _ _ ?_;clear a K;refine df ?_;obtain⟨f,Z⟩:∃f,f={s with P:=lA s.P (s.L.take s.cm.toNat)}:=⟨_,rfl⟩;have ax:f.L=s.L:=by rw[Z]
 have ay:f.T=s.T:=by rw[Z]
 have az:f.cm=s.cm:=by rw[Z]
 have aD:f.ck=s.ck:=by rw[Z]
 have E3:=hI (And.intro ax (And.intro ay (And.intro az aD)));have au:=hI Z;rw[<-Z]at l;clear Z ax ay az aD;go_upto_region 2 with fail;replace S3:fJ 7 w3 o p1 s.L.length c1 (f.L.map dY):=by rw[E3.o.1];exact S3
 obtain⟨ad,J,X3⟩:=eS w3;replace l:=l.ext X3;replace S3:=S3.ext X3;have aS:=fun(q:dN (BS ad x))=>(q.h 14).trans (l.c 14 _ rfl);have aR:=fun(q:dN (BS ad x))=>(q.h 10).trans (l.c 10 _ rfl);have r4:=fun(q:dN (BS ad x))=>(q.h 4).trans (l.c 4 _ rfl);refine lP [0,1,2,3,4,5,6,7,8,9,10,11,12,15,13,14] (BS ad x) (by kernel_rfl) (by kernel_rfl) (fun _ _ d _ _ H=>by cases d<;>exact H) (by rw[<-J];exact fun _=>rfl) (fun _=>?_);rw[<-J];clear J;repeat((first|refine kv fun K a=>?_|refine kt fun K a=>?_);go_big_quiet_op;refine a _ ?_;clear a K)
 have LM:Hid (s.L.length<=60/\f.T.length+s.L.length<=100000):=hI (by
  have h1:=l.ok.T;have h2:=ge.max l.q.lg;rw[E3.o.1]at h2
  exact⟨h2,by omega⟩)
 have ag:Hid ((∀e∈f.L,eQ e/\0<=e.st/\e.st<=1099511627776/\0<=e.od/\e.od<=2)/\(0<=f.ck/\f.ck<=1099511627776)/\(0<=f.cm/\f.cm<=1000000)):=hI ⟨fun e he=>Ie (l.ok.L e he),by have:=l.ok.ck;omega,by have:=l.ok.cm;omega⟩;have GO:=IH (c:=k+6) (d:=k+18) (M3.cl.ext X3) l.q.rd (by have:=g.o;omega) S3 LM.o.1 LM.o.2 ag.o.1 ag.o.2.1 ag.o.2.2;refine l7 fun K a=>?_;go_simp;refine GO.mono ?_;rintro e w4 ⟨o4,po,co,rfl,Q,af,m4⟩;have N:iF f.cm f.ck s.L.length 0 f.L (⟨true,true,true,true⟩,f.T,[])=xF s:=by unfold xF;rw[E3.o.1,E3.o.2.1,E3.o.2.2.1,E3.o.2.2.2]
 rw[N]at Q af⊢;clear N;obtain⟨⟨sd,T',E⟩,N⟩:∃G,G=xF s:=⟨_,rfl⟩;rw[<-N]at Q af⊢;simp only at Q af⊢;have h4:∀d,oA (k+6) (k+18) d->eh k d/\d≠k:=fun d F=>by unfold oA at F;unfold eh;omega
 have B4:=(BS.rfl' ad x).fm l.box m4 (by have:=g.o;omega) (by unfold oA;omega);obtain⟨H4,F4⟩:=di.mod0 (A':=A) (s':={f with T:=T'}) g.o l m4 h4 (l.q.set_rd g.o af m4 (fun d F=>by unfold oA at F;omega)) rfl {l.ok with T:=(by have:=HT.o;rw[<-N]at this;exact this)};have M4:=(M3.tr (Fm.ext M3.cl X3) (dw g.o)).tr F4 (dw g.o);have ao:Hid (dt nW E s.tm=some m'):=hI (by have:=ap.o;rw[<-N]at this;exact this);have GT:Hid (T'=(xF s).2.1):=hI (by rw[<-N]);have aT:Hid (f.tm=s.tm):=hI (by rw[au.o]);clear af m4 h4 F4 N GO LM ag l S3 M3 X3 aS aR r4 ap HT;refine a (BS ad x) _ _ (fun _ H=>H) B4 (fun _=>?_);clear a K B4;repeat((first|refine kv fun K a=>?_|refine kt fun K a=>?_);go_big_quiet_op;refine a _ ?_;clear a K)
 refine gG ?_;have hO:E.length<=9223372036854775807:=Nat.le_trans Q.row.sl.le Q.row.sl.max;obtain⟨s5,ah⟩:∃s5,s5={f with T:=T'}:=⟨_,rfl⟩;rw[<-ah]at H4;have S5:=hI ah;have T5:Hid (s5.tm=s.tm):=hI (by rw[ah];exact aT.out);clear ah;go_wp2;go_loopw [39] (fun i wr=>∃(j:Nat) (r:Ow) (m:Nat),j<=E.length/\i=.int .i64 (j:Int)/\di wr r k x D u A {s5 with tm:=m}/\dQ 109 8 wr r (k+18) po E.length co (E.map r8)/\dt nW (E.drop j) m=some m'/\Fm (eh k) o r w wr) (fun i _=>E.length-(intOf i).toNat);case atStart=>exact⟨0,o4,s5.tm,by omega,rfl,H4,Q,by rw[T5.o];exact ao.o,M4⟩
 case round=>
  obtain⟨j,r,m,hj,rfl,n,L,fj,B⟩:=hrel;have FJ:=hI fj;clear fj H4 Q M4 ao;by_cases am:j<E.length
  .obtain⟨b,oo,t,hp,hx,c0,aw,c2,c3,c4,c5,c6,c7⟩:=jO L.row.sl j am;have aB:E.drop j=t::E.drop (j+1):=by rw[List.drop_eq_getElem_cons am];congr 1;rw[List.getElem?_eq_getElem am]at hx;exact Option.some.inj hx
   obtain⟨m2,aG,aF⟩:=dy (by rw[<-aB];exact FJ.o);have ak:=hI aG;have aj:=hI aF;clear aG aF aB hx FJ;subst hp;obtain⟨ae,⟨U,V,W,X,I,Y,M⟩⟩:=t;simp only at c0 aw c2 c3 c4 c5 c6 c7;go_upto_region 5 with fail;change Code.wp _ _ _ _ (wr.alloc (.cells (wY ⟨ae,⟨U,V,W,X,I,Y,M⟩⟩) 109));have p:=dq.loose B.cl (wY ⟨ae,⟨U,V,W,X,I,Y,M⟩⟩) (r8 ⟨ae,⟨U,V,W,X,I,Y,M⟩⟩) 109 rfl;have A1:=db.alloc wr (.cells (wY ⟨ae,⟨U,V,W,X,I,Y,M⟩⟩) 109);replace n:=n.ext A1;replace L:=L.ext A1;replace B:=B.tr (Fm.ext B.cl A1) (dw g.o);clear A1 c0 aw c2 c3 c4 c5 c6 c7;generalize wr.alloc (.cells (wY ⟨ae,⟨U,V,W,X,I,Y,M⟩⟩) 109)=w5 at*;generalize wr.heap.size=tb at*;have d4:=p.box.c 4 _ rfl;have d5:=p.box.c 5 _ rfl;simp only at d4 d5;by_cases h4:X=1
   .subst h4;by_cases h5:I=0
    .subst h5;have e2:m2=m:=by have:=ak.o;simp[nW]at this;exact this.symm
     subst e2;go_wp2;go_roundw;case rel=>exact⟨j+1,r,m2,by omega,by go_num,n,L,aj.o,B⟩
     case measure=>simp[intOf];omega
    .have h3:(ec ⟨U,V,W,1,I,Y,M⟩&&decide (m<100000))=true/\m2=m+1:=by
      have:=ak.o;simp only[nW,if_true,if_neg h5]at this;split at this;·rename_i h;exact⟨h,(Option.some.inj this).symm⟩
      .cases this
     obtain⟨h3,rfl⟩:=h3;simp only[Bool.and_eq_true,decide_eq_true_eq]at h3;obtain⟨an,aE⟩:=h3
     have aL:Hid (M.size<=1000):=hI (by
      have:=an
      unfold ec at this
      simp only[Bool.and_eq_true,decide_eq_true_eq]at this
      have aV:=this.2.2.2.2.2.2
      omega)
     have ar:=hI an;have aq:=hI aE;have aX:(I==0)=false:=by simpa using h5
     clear an aE h5;go_upto_region 6 with fail;clear d4 d5;have ai:=B.cl;obtain⟨S,J,X5⟩:=eS w5;replace n:=n.ext X5;replace L:=L.ext X5;replace ai:=ai.ext X5;replace p:=p.ext X5;have aU:=n.g 15 _ rfl;have q1:=rg S (p.box.c 1 _ rfl);have q2:=rg S (p.box.c 2 _ rfl);have q3:=rg S (p.box.c 3 _ rfl);have q4:=rg S (p.box.c 4 _ rfl);have q5:=rg S (p.box.c 5 _ rfl);have q6:=rg S (p.box.c 6 _ rfl);have q7:=rg S (p.box.c 7 _ rfl);simp only at q1 q2 q3 q4 q5 q6 q7;refine eA [0,1,2,3,4,5] [6] ?_;rw[<-J];clear J;repeat((first|refine dC fun K a=>?_|refine dB fun K a=>?_);go_big_quiet_op;refine a _ ?_;clear a K)
     refine dh ?_;refine iD fun K a=>?_;go_simp;refine(I6 (c:=k+8) (e:=⟨U,V,W,1,I,Y,M⟩) ai n.q.tb (by have:=g.o;omega) ar.o (iR ar.o) aL.o (show m<1000000 by have:=aq.o;omega)).mono ?_;rintro e w6 ⟨⟨kb,rfl⟩,aI,m6⟩;obtain⟨N7,F6⟩:=di.mod0 (A':=A) (s':={s5 with tm:=m+1}) g.o n m6 (fun d F=>by unfold eh;omega) (n.q.set_tb g.o aI m6 (fun d F=> .inl F)) rfl {n.ok with tm:=(show m+1<=100000 by have:=aq.o;omega)};have R7:=L.fr m6 (by have:=g.o;omega) (by omega);have M7:=(B.tr (Fm.ext B.cl X5) (dw g.o)).tr F6 (dw g.o);clear aI m6 F6;refine a _ _ ?_;clear a K;refine df ?_;go_wp2;go_roundw;case rel=>exact⟨j+1,r,m+1,by omega,by go_num,N7,R7,aj.o,M7⟩
     case measure=>simp[intOf];omega
   .have aW:(X==1)=false:=by simpa using h4
    have e2:m2=m:=by have:=ak.o;simp only[nW,if_neg h4]at this;exact(Option.some.inj this).symm
    subst e2;clear h4;go_wp2;go_roundw;case rel=>exact⟨j+1,r,m2,by omega,by go_num,n,L,aj.o,B⟩
    case measure=>simp[intOf];omega
  .have e2:m=m':=by have:=FJ.o;rw[List.drop_of_length_le (by omega)]at this;exact Option.some.inj this
   subst e2;go_wp2;refine bodyPost_end (v:=.tuple #[]) (by simp[results,Tryz.results152,go_sem]) rfl ?_;refine⟨rfl,r,?_,B⟩;have e3:({s5 with tm:=m}:dp)=Af s m:=by rw[S5.o,au.o,GT.o];rfl
   rw[<-e3];exact n
theorem nR(q:Cl w o)(g:32<=k)(h:di w o k x D u A s){ms:List (dz×List dj)}(i:un s=some (ms,s')):
  Calls Tryz.prog 111 #[de x] w fun e l=>∃j m p n,e=.returned (.slice p ms.length n)/\jV l j (k+16) p n ms/\di l j k x D u m s'/\Fm (eh k) o j w l:=by unfold un at i;obtain⟨s1,r,B⟩:=Option.map_eq_some_iff.1 i;cases B;clear i;have b:=hI g;have z:=vX q g h r;clear q g h r;go_enter Tryz.func111,Tryz.ntmps111;go_wp2_with fail;refine z.mono ?_;rintro e I ⟨rfl,E,a,f⟩;have F:=a.c 33 _ rfl;have G:=a.box.box.f 33;have v:=a.q.ou;obtain⟨t,F3⟩:=di.mod (C:=fun _=>False) (A':={A with op:=none,oc:=0}) (s':={s1 with out:=[]}) b.o a (Fm.refl f.cl) (fun d c=>c.elim) (a.q.set_ou (C:=fun _=>False) b.o ⟨[],rfl,dQ.nil _ _ _ _ _,fun d c=>by cases c⟩ (Fm.refl f.cl) (fun d c=>c.elim)) 33 (.slice none 0 0) rfl {a.ok with out:=(Nat.zero_le _)};have y:=v.fr (Fm.put (C:=one k) f.cl a.box (by have:=b.o;omega) rfl 33 (.slice none 0 0)) (by unfold one;have:=b.o;omega) (by have:=b.o;omega) (by unfold one;omega);have H:Hid (s1.out.length<=9223372036854775807):=hI (by have:=a.ok.out;omega);go_wp2;go_ret;exact⟨E,_,_,_,rfl,y,t,f.tr F3 (dw b.o)⟩
end
end Go.Proofs.YtjhbmbbmjaabcaaGreat
