/-
  Contracts. Conditions stand at each.
-/
import Derived.Laws.LoneSync
import Derived.Test.YtjhbmbbmjaabcaaGreatS22
set_option linter.all false
set_option maxRecDepth 8000
set_option maxHeartbeats 8000000
namespace Go.Proofs.YtjhbmbbmjaabcaaGreat
open Go Go.Sort Go.RowKit
section
variable{w N:World} {o G:Ow} {k x D u:Nat} {A A':iS} {s s':dp}
def pK(s:dp):Option (List (dz×List dj)×dp):=
 if decide (s.ck<1000000)then(if s.kn then vS {s with ck:=s.ck+1}else none).bind un else none
theorem yk(af:Cl w o)(hk:32<=k)(h:di w o k x D u A s){ms:List (dz×List dj)}{i:dp}(ah:s.kn=true)(aq:s.ck<1000000)(ai:vS {s with ck:=s.ck+1}=some i)(ag:un i=some (ms,s')):
  Calls Tryz.prog 84 #[de x] w fun e w'=>∃o' A' p ae,e=.returned (.slice p ms.length ae)/\jV w' o' (k+16) p ae ms/\di w' o' k x D u A' s'/\Fm (eh k) o o' w w':=by
 have c4:=h.c 4 _ rfl;have f4:=h.box.box.f 4;have au:wrap64 (s.ck+1)=s.ck+1:=by have:=h.ok.ck;unfold wrap64;omega
 have c:=hI hk;obtain⟨N1,F1⟩:=di.mod (C:=fun _=>False) (A':=A) (s':={s with ck:=s.ck+1}) hk h (Fm.refl af) (fun d hd=>hd.elim) {h.q with dk:=h.q.dk} 4 (.int .i64 (s.ck+1)) rfl {h.ok with ck:=⟨show 0<=s.ck+1 by have:=h.ok.ck;omega,show s.ck+1<=1000000 by omega⟩};have H:=N1;have F:=F1;have c8:(w.setCell ⟨x,4,none⟩ (.int .i64 (s.ck+1))).cell? ⟨x,8,none⟩=some (.bool true):=by have:=N1.c 8 _ rfl;rw[show({s with ck:=s.ck+1}:dp).kn=true from ah]at this;exact this
 have E:=hI ai;have HD:=hI ag;clear ah ai ag N1 F1 af h aq hk;go_enter Tryz.func84,Tryz.ntmps84;go_upto_region 6 with fail;clear c4 f4 c8 au;generalize w.setCell ⟨x,4,none⟩ (.int .i64 (s.ck+1))=w1 at*;obtain⟨s1,aj⟩:∃s1:dp,s1={s with ck:=s.ck+1}:=⟨_,rfl⟩;rw[<-aj]at H E;clear aj;cases l:s1.v
 case' none=>
  have r:Hid ((if eC s1&&s1.mi then um s1 else if ic s1 then kB s1 else if eC s1 then qE s1 else some s1)=some i):=hI (by
   have:=E.o;unfold vS at this;rw[l]at this
   exact this)
  have ap:Hid (A.v=none):=hI (by
   have:=H.q.vt;rw[l]at this
   exact this)
  clear l E;obtain⟨W6,R,t⟩:=eS w1;replace H:=H.ext t;have ac:∀d os,(grow (redrawn W6 d) os).cell? ⟨x,17,none⟩=some (.pointer none):=by have:=H.g 17 _ rfl;rw[ap.o]at this;exact this
  refine eA [0,1,2,3,4,5,6,7,8,9,11,12,13,14,10,15,16,17,18] [] ?_;rw[<-R];clear R;repeat((first|refine dC fun K b=>?_|refine dB fun K b=>?_);go_big_quiet_op;refine b _ ?_;clear b K)
  refine dh ?_;refine df ?_;have f:=H;have a:=F.tr (Fm.ext F.cl t) (dw c.o);clear H F t ac
 case' some v=>
  obtain⟨vw,vs⟩:=v;obtain⟨vg,ak⟩:∃vg,A.v=some vg:=by have:=H.q.vt;rw[l]at this;obtain⟨g,hg,-⟩:=this;exact⟨g,hg⟩
  have ad:=hI ak;have ao:=hI l;clear ak;by_cases S:vw=s1.dv
  case' pos=>
   have r:Hid (q9 s1=some i):=hI (by
    have:=E.o;unfold vS at this;rw[l]at this;simp only[decide_eq_true S,if_true]at this
    exact this)
   have ar:(vw==s1.dv)=true:=by simpa using S
  case' neg=>
   have r:Hid ((if eC s1&&s1.mi then um s1 else if ic s1 then kB s1 else if eC s1 then qE s1 else some s1)=some i):=hI (by
    have:=E.o;unfold vS at this;rw[l]at this;simp only[decide_eq_false S,Bool.false_eq_true,if_false]at this
    exact this)
   have ar:(vw==s1.dv)=false:=by simpa using S
  all_goals
   clear l E S;obtain⟨W6,R,t⟩:=eS w1;replace H:=H.ext t;have ac:∀d os,(grow (redrawn W6 d) os).cell? ⟨x,17,none⟩=some (de vg):=by have:=H.g 17 _ rfl;rw[ad.o]at this;exact this
   have g2:=H.g 2 _ rfl;refine eA [0,1,2,3,4,5,6,7,8,9,11,12,13,14,10,15,16,17,18] [] ?_;rw[<-R];clear R;repeat((first|refine dC fun K b=>?_|refine dB fun K b=>?_);go_big_quiet_op;refine b _ ?_;clear b K)
   refine eF fun K b=>?_;go_simp;refine(ju (H.vs ao.o ad.o)).mono ?_;rintro e w7 ⟨rfl,rfl⟩;refine b _ _ (db.rfl' _) ?_;clear b K;repeat((first|refine dC fun K b=>?_|refine dB fun K b=>?_);go_big_quiet_op;refine b _ ?_;clear b K)
   refine eF fun K b=>?_;go_simp;refine(ey H.q.dk).mono ?_;rintro e w8 ⟨rfl,rfl⟩;refine b _ _ (db.rfl' _) ?_;clear b K;repeat((first|refine dC fun K b=>?_|refine dB fun K b=>?_);go_big_quiet_op;refine b _ ?_;clear b K)
   refine dh ?_;refine df ?_;have f:=H;have a:=F.tr (Fm.ext F.cl t) (dw c.o);clear H F t ac g2
  case pos=>go_wp2_with fail;refine(Bz a.cl c.o f r.o).mono ?_;rintro e az ⟨rfl,av,an,U,T⟩;have I:=U;have j:=a.tr T (dw c.o);clear U T;go_wp2_with fail;refine(nR j.cl c.o I HD.o).mono ?_;rintro e am ⟨V,J,W,Q,rfl,q,n,m⟩;have P:=q;have O:=n;have M:=j.tr m (dw c.o);clear q n m;go_wp2;go_ret;exact⟨V,J,W,Q,rfl,P,O,M⟩
 all_goals
  go_wp2_with fail;refine(nQ f).mono ?_;cases Z:eC s1&&s1.mi;case' true=>rintro e aw ⟨rfl,y⟩;have L:Hid (um s1=some i):=hI (by have:=r.o;rw[Z]at this;exact this);replace f:=f.ext y;replace a:=a.tr (Fm.ext a.cl y) (dw c.o);clear y Z r;go_wp2_with fail;refine(EG a.cl c.o f L.o).mono ?_
  case' false=>
   rintro e aw ⟨rfl,y⟩;have X:Hid ((if ic s1 then kB s1 else if eC s1 then qE s1 else some s1)=some i):=hI (by have:=r.o;rw[Z]at this;exact this);replace f:=f.ext y;replace a:=a.tr (Fm.ext a.cl y) (dw c.o);clear y Z r;go_wp2_with fail;refine(oK f).mono ?_;cases ab:ic s1;case' true=>rintro e ax ⟨rfl,z⟩;have L:Hid (kB s1=some i):=hI (by have:=X.o;rw[ab]at this;exact this);replace f:=f.ext z;replace a:=a.tr (Fm.ext a.cl z) (dw c.o);clear z ab X;go_wp2_with fail;refine(mf a.cl c.o f L.o).mono ?_
   case' false=>
    rintro e ax ⟨rfl,z⟩;have Y:Hid ((if eC s1 then qE s1 else some s1)=some i):=hI (by have:=X.o;rw[ab]at this;exact this);replace f:=f.ext z;replace a:=a.tr (Fm.ext a.cl z) (dw c.o);clear z ab X;go_wp2_with fail;refine(fQ f).mono ?_;cases aa:eC s1
    case false=>
     rintro e ay ⟨rfl,B⟩;have al:s1=i:=by have:=Y.o;rw[aa]at this;exact Option.some.inj this
     have I:=f.ext B;rw[al]at I;have j:=a.tr (Fm.ext a.cl B) (dw c.o);clear B aa Y al;go_wp2_with fail;refine(nR j.cl c.o I HD.o).mono ?_;rintro e am ⟨V,J,W,Q,rfl,q,n,m⟩;have P:=q;have O:=n;have M:=j.tr m (dw c.o);clear q n m;go_wp2;go_ret;exact⟨V,J,W,Q,rfl,P,O,M⟩
    rintro e ay ⟨rfl,B⟩;have L:Hid (qE s1=some i):=hI (by have:=Y.o;rw[aa]at this;exact this);replace f:=f.ext B;replace a:=a.tr (Fm.ext a.cl B) (dw c.o);clear B aa Y;go_wp2_with fail;refine(EF a.cl c.o f L.o).mono ?_
  all_goals rintro e az ⟨rfl,av,an,U,T⟩;have I:=U;have j:=a.tr T (dw c.o);clear U T;go_wp2_with fail;refine(nR j.cl c.o I HD.o).mono ?_;rintro e am ⟨V,J,W,Q,rfl,q,n,m⟩;have P:=q;have O:=n;have M:=j.tr m (dw c.o);clear q n m;go_wp2;go_ret;exact⟨V,J,W,Q,rfl,P,O,M⟩
theorem tL(l:Cl w o)(n:32<=k)(h:di w o k x D u A s){ms:List (dz×List dj)}(b:pK s=some (ms,s')):
  Calls Tryz.prog 84 #[de x] w fun e f=>∃d A' p g,e=.returned (.slice p ms.length g)/\jV f d (k+16) p g ms/\di f d k x D u A' s'/\Fm (eh k) o d w f:=by
 unfold pK at b;split at b;case isFalse=>cases b
 rename_i i;have j:=of_decide_eq_true i;obtain⟨q,a,m⟩:=Option.bind_eq_some_iff.1 b;by_cases c:s.kn=true;·rw[if_pos c]at a;exact yk l n h c j a m
 .rw[if_neg c]at a;cases a
end
section
def nJ(s:dp):(dz×List dj)⊕Int->Option (List (dz×List dj)×dp)
 | .inr c=>if c==0 then none else some ([],s)
 | .inl (m,L)=>if decide (m.kd≠12)&&decide (1<=m.fr/\m.fr<=7)then(if s.kn then kT {s with bs:=s.bs.set m.fr.toNat m.bt} m L else none).bind un else none
variable{w N:World} {o G:Ow} {k x D u:Nat} {A A':iS} {s s':dp}
theorem tF(K:Cl w o)(hk:32<=k)(H:di w o k x D u A s){p:Option Addr}{n cap:Nat}{b:List UInt8}(hb:j' w p n cap b)(hn:n<=6000){R:(dz×List dj)⊕Int}(hR:ri s.id s.bs.at b=R){ms:List (dz×List dj)}(hs:nJ s R=some (ms,s')):
  Calls Tryz.prog 87 #[de x,.slice p n cap] w fun e X=>∃W A' p cap,e=.returned (.slice p ms.length cap)/\jV X W (k+16) p cap ms/\di X W k x D u A' s'/\Fm (eh k) o W w X:=by
 have M:=DV H.q.gr.box hb hn
 rw[hR]at M
 have a:=hI hk
 have O:=hI hs
 have c6:=H.c 6 _ rfl
 clear hk hs hR hb
 go_enter Tryz.func87,Tryz.ntmps87
 go_wp2_with fail
 refine M.mono ?_
 cases R with
 |inr c=>
  rintro e j ⟨rfl,b2,E⟩;have h:=Fm.grown (C:=one (k+1)) K E (fun g U=>by cases U;rw[H.q.gr.col];exact⟨by have:=a.o;omega,rfl⟩)
  have i:Hid (c≠0/\ms=[]/\s=s'):=hI (by
   have:=O.o;unfold nJ at this;simp only at this;split at this;·cases this
   .rename_i h1;cases this
    exact⟨fun e=>h1 (by simp[e]),rfl,rfl⟩)
  have av:(c !=0)=true:=by simpa using i.o.1
  have aw:(c==0)=false:=by simpa using i.o.1
  have H2:=(di.mod0 (A':=A) (s':=s) a.o H h (fun d f=>by unfold one at f;unfold eh;omega) (H.q.set_gr (xbs:=s.bs) a.o ⟨H.q.gr.col,b2⟩ h (fun d f=> .inl f)) rfl H.ok).1;clear b2 E c6 O M;go_wp2;go_ret;obtain⟨-,rfl,rfl⟩:=i.o;exact⟨o,A,none,0,rfl,jV.none _ _ _,H2.ext (db.alloc j _),(h.mono (fun d f=>by unfold one at f;unfold eh;omega)).tr (Fm.ext h.cl (db.alloc j _)) (dw a.o)⟩
 |inl mL=>
  obtain⟨m,L⟩:=mL;rintro e j ⟨F,B,rfl,ae,ao,ap,b2,E⟩;have h:=Fm.grown (C:=one (k+1)) K E (fun g U=>by cases U;rw[H.q.gr.col];exact⟨by have:=a.o;omega,rfl⟩);have l:=O.o;unfold nJ at l;simp only at l;split at l;case isFalse=>cases l
  rename_i ki;simp only[Bool.and_eq_true,decide_eq_true_eq]at ki;have Q:=hI ki;have i:=hI l;obtain⟨I,V⟩:∃I:dp,I={s with bs:=s.bs.set m.fr.toNat m.bt}:=⟨_,rfl⟩;have T:=fJ.fresh ae K (Nat.le_refl _);obtain⟨z,q⟩:=di.mod0 (A':=A) (s':={s with bs:=s.bs.set m.fr.toNat m.bt}) a.o H h (fun d f=>by unfold one at f;unfold eh;omega) (H.q.set_gr a.o ⟨H.q.gr.col,by rw[<-E8.upd s.bs (by have:=Q.o.2;omega)];exact b2⟩ h (fun d f=> .inl f)) rfl {H.ok with id:=H.ok.id};rw[<-V]at z i;have Y:Hid (s.kn=I.kn):=hI (by rw[V]);clear b2 E h ae ao ap O l ki V c6 M H K;obtain⟨s4,ac,ab⟩:=Option.bind_eq_some_iff.1 i.o;have S:=hI ac;have HD:=hI ab;clear ac ab i;obtain⟨k1,k2,k3,k4,k5,k6,k7,k8,y,r,t,v⟩:=m;simp only at Q;go_upto_region 7 with fail;change Code.wp _ _ _ _ (j.alloc (.cells (fE ⟨k1,k2,k3,k4,k5,k6,k7,k8,y,r,t,v⟩ F L.length B) 76));have J:=db.alloc j (.cells (fE ⟨k1,k2,k3,k4,k5,k6,k7,k8,y,r,t,v⟩ F L.length B) 76);have MB:=dq.loose q.cl (fE ⟨k1,k2,k3,k4,k5,k6,k7,k8,y,r,t,v⟩ F L.length B) (gt ⟨k1,k2,k3,k4,k5,k6,k7,k8,y,r,t,v⟩ F L.length B) 76 rfl;replace z:=z.ext J;replace T:=T.ext J;replace q:=q.tr (Fm.ext q.cl J) (dw a.o);clear J;generalize j.alloc (.cells (fE ⟨k1,k2,k3,k4,k5,k6,k7,k8,y,r,t,v⟩ F L.length B) 76)=w3 at*;generalize j.heap.size=mb at*;have au:(k1==12)=false:=by have:=Q.o.1;simpa using this
  have c8:=z.c 8 _ rfl;obtain⟨d0,d1,d2,d3,d4,d5,d6,d7,d8,d9,al,am,an⟩:=i9 MB;cases P:I.kn;·have:=S.o;rw[Y.o,P]at this;cases this
  .rw[P]at c8
   have ag:Hid (kT I ⟨k1,k2,k3,k4,k5,k6,k7,k8,y,r,t,v⟩ L=some s4):=hI (by
    have:=S.o;rw[Y.o,P]at this
    exact this)
   clear P S;go_wp2_with fail;refine(ya q.cl a.o z T ag.o).mono ?_;rintro e w5 ⟨rfl,o5,A5,NN,m5⟩;have Z:=q.tr m5 (dw a.o);clear m5 d0 d1 d2 d3 d4 d5 d6 d7 d8 d9 al am an c8;go_wp2_with fail;refine(nR Z.cl a.o NN HD.o).mono ?_;rintro e ax ⟨aq,af,ar,ak,rfl,aj,ai,ad⟩;have ah:=Z.tr ad (dw a.o);clear ad;go_wp2;go_ret;exact⟨aq,af,ar,ak,rfl,aj,ai,ah⟩
end
section
variable{n:Int}
def uG(id n bt dv:Int):dp:={id:=id,n:=n,bt:=bt,ck:=0,hd:=0,bs:=E8.all 0,kn:=bt==1,L:=[],cm:=0,ls:=0,mb:=0,sq:=0,P:=[],T:=[],tm:=0,f:=KQ (bt*1048576),v:=none,dn:=0,ag:=false,mi:=false,q:=none,st:=0,ac:=0,er:=E8.all 0,ak:=[],out:=[],dv:=dv,jp:=dv,jg:=false}
abbrev LI(id n bt:Int)(G u:Nat)(a:Bool)(g l p r t:Nat)(J F:Value):List Value:=[.int .i64 id,.int .i64 n,.pointer (some ⟨G,u,none⟩),.int .i64 bt,.int .i64 0,.int .i64 0,de g,J,.bool a,de l,.int .i64 0,.int .i64 0,.int .i64 0,de p,de r,de t,F,.pointer none,.int .i64 0,.bool false,.bool false,.pointer none,.int .i64 0,.int .i64 0,.int .i64 0,.int .i64 0,.int .i64 0,.int .i64 0,.int .i64 0,.int .i64 0,.int .i64 0,.int .i64 0,.slice none 0 0,.slice none 0 0]
abbrev K0(id n bt:Int)(G u:Nat)(a:Bool)(g l p r t:Nat)(J F:Value):Array Value:=#[.int .i64 id,.int .i64 n,.pointer (some ⟨G,u,none⟩),.int .i64 bt,.int .i64 0,.int .i64 0,de g,J,.bool a,de l,.int .i64 0,.int .i64 0,.int .i64 0,de p,de r,de t,F,.pointer none,.int .i64 0,.bool false,.bool false,.pointer none,.int .i64 0,.int .i64 0,.int .i64 0,.int .i64 0,.int .i64 0,.int .i64 0,.int .i64 0,.int .i64 0,.int .i64 0,.int .i64 0,.slice none 0 0,.slice none 0 0]
theorem E8.all_at(v:Int)(i:Nat):(E8.all v).at i=if i<8 then v else 0:=by
 by_cases h:i<8;·rw[if_pos h];rcases tB h with rfl|rfl|rfl|rfl|rfl|rfl|rfl|rfl<;>rfl
 .rw[if_neg h];obtain⟨m,rfl⟩:∃m,i=m+8:=⟨i-8,by omega⟩;rfl
theorem In{id bt dv:Int}(f:1<=id/\id<=n)(g:3<=n/\n<=7)(c:1<=bt/\bt<=1000)(d:0<=dv/\dv<=1000000000):CT (uG id n bt dv):=by
 have a:0<=(0:Int)/\(0:Int)<=1000000:=by omega
 exact⟨f,g,c,a,a,(by show 0<=(0:Int)/\(0:Int)<=60;omega),(by show 0<=(0:Int)/\(0:Int)<=1000000000;omega),(by show gS 0;unfold gS;omega),a,(by show 0<=(0:Int)/\(0:Int)<=1000000000;omega),(by show 0<=(0:Int)/\(0:Int)<=60;omega),(by show gS 0;unfold gS;omega),(fun i=>by show 0<=(E8.all 0).at i/\(E8.all 0).at i<=1000000;rw[E8.all_at];split<;>omega),d,(fun e b=>by cases b),(fun e b=>by cases b),(Nat.zero_le _),(Nat.zero_le _),(Nat.zero_le _),(Nat.zero_le _),(by show 0<=(bt*1048576:Int)/\(bt*1048576:Int)<=1099511626776;omega),a⟩
theorem Ea{z:Int}(h:1<=z/\z<=7):Ht z=true:=by simp[Ht,h]
theorem Jm(a:3<=n/\n<=7):dJ 1 n=1:=by
 have:n=3\/n=4\/n=5\/n=6\/n=7:=by omega
 rcases this with rfl|rfl|rfl|rfl|rfl<;>decide
variable{w N:World} {o O:Ow} {k x G u:Nat} {A A':iS} {s s':dp}
theorem BH(HC:Cl w o)(hk:32<=k){id bt dv:Int}(J:1<=id/\id<=n)(W:3<=n/\n<=7)(hb:0<=bt/\bt<1000)(aq:0<=dv/\dv<=1000000000)(D:ni w o (k+13) G u bt dv):
  Calls Tryz.prog 101 #[.int .i64 id,.int .i64 n,.pointer (some ⟨G,u,none⟩)] w fun e w'=>∃o' x A',e=.returned (.tuple #[de x,.int .i64 0])/\di w' o' k x G u A' (uG id n (bt+1) dv)/\Fm (eh k) o o' w w':=by
 have a:=hI hk;have h:=hI (And.intro J (And.intro W (And.intro hb aq)));have e1:(dJ 1 n==0)=false:=by rw[Jm W];rfl
 have e2:=dF (id<1);have e3:=dF (n<id);have e4:(bt+1==0)=false:=by simp;omega
 have IS:=Ea (z:=id) ⟨J.1,by omega⟩;have aw:dE id:=⟨J.1,by omega⟩;clear hk J W hb aq;go_enter Tryz.func101,Tryz.ntmps101;go_wp2_with fail;refine(gn 1 n (by omega) h.o.2.1 _).mono ?_;rintro e w0 ⟨rfl,rfl⟩;go_wp2_with fail;refine(xu HC D ⟨h.o.2.2.1.1,by have:=h.o.2.2.1.2;omega⟩).mono ?_;rintro e w1 ⟨rfl,X,m1⟩;have Q:=m1.mono (C':=eh k) (fun d D=>by unfold one at D;unfold eh;omega);clear m1 D HC;go_wp2_with fail;refine(DP id w1).mono ?_;rintro e w2 ⟨hg,-,x2⟩;obtain⟨rfl,I⟩:=hg IS;obtain⟨g,ar⟩:∃g,g=w1.heap.size:=⟨_,rfl⟩;rw[<-ar]at I⊢;have G2:dq w2 (gH o g (k+1)) (k+1) g (Bh id (E8.all 0).at zP):=⟨et _ _ _,I.base (Nat.zero_le _)⟩;have F2:=(Fm.ext (C:=fun _=>False) Q.cl x2).paint (k+1) (b:=g) (by omega) (by have:=I.hi;omega);have R:=Q.tr (F2.mono (C':=eh k) (fun d e=>e.elim)) (dw a.o);have D2:=X.fr F2 (fun e=>e);clear F2 ar I hg x2 Q X;generalize gH o g (k+1)=o2 at*;go_wp2_with fail;refine(nO (c:=k+2) (M:=[]) (L:=[]) R.cl (by have:=a.o;omega) (fJ.empty 7 _ _) (fun e he=>by cases he) rfl).mono ?_;rintro e w3 ⟨o3,l,rfl,L3,-,F3⟩;have S:=R.tr (F3.mono (C':=eh k) (fun d e=>by unfold two at e;unfold eh;omega)) (dw a.o);have D3:=D2.fr F3 (by unfold two;have:=a.o;omega);have G3:=G2.fr F3 (by have:=a.o;omega) (by unfold two;have:=a.o;omega);clear F3 R D2 G2;go_wp2_with fail;refine(BI S.cl (k+4) (fun _=>False) aw (by have:=h.o.2.2.1;omega)).mono ?_;rintro e N ⟨O,rfl,Q4,E⟩;generalize w3.heap.size=p at*;have T:=S.tr (E.mono (C':=eh k) (fun d e=>e.elim)) (dw a.o);have D4:=D3.fr E (fun e=>e);have G4:=G3.fr E (by have:=a.o;omega) (fun e=>e);have L4:=L3.fr E (by have:=a.o;omega) (fun e=>e) (fun e=>e);clear E S D3 G3 L3;go_wp2_with fail;refine(Fn T.cl (k+6) (fun _=>False)).mono ?_;rintro e w5 ⟨o5,rfl,R5,F5⟩;generalize N.heap.size=r at*;have U:=T.tr (F5.mono (C':=eh k) (fun d e=>e.elim)) (dw a.o);have D5:=D4.fr F5 (fun e=>e);have G5:=G4.fr F5 (by have:=a.o;omega) (fun e=>e);have L5:=L4.fr F5 (by have:=a.o;omega) (fun e=>e) (fun e=>e);have Q5:=Q4.fr' F5 (by have:=a.o;omega) (fun e=>e) (fun e=>e);clear F5 T D4 G4 L4 Q4;go_wp2_with fail;refine(Gd U.cl (k+8) (fun _=>False)).mono ?_;rintro e K ⟨o7,t,rfl,T7,B⟩;have M7:=U.tr (B.mono (C':=eh k) (fun d e=>e.elim)) (dw a.o);have D7:=D5.fr B (fun e=>e);have G7:=G5.fr B (by have:=a.o;omega) (fun e=>e);have L7:=L5.fr B (by have:=a.o;omega) (fun e=>e) (fun e=>e);have Q7:=Q5.fr' B (by have:=a.o;omega) (fun e=>e) (fun e=>e);have R7:=R5.fr B (by have:=a.o;omega) (fun e=>e) (fun e=>e);clear B U D5 G5 L5 Q5 R5;go_upto_region 7 with fail;change Code.wp _ _ _ _ (K.alloc (.cells (K0 id n (bt+1) G u (bt+1==1) g l p r t (.pointer none) (.pointer none)) 100));have y:=Fm.made (C:=fun _=>False) M7.cl (.cells (K0 id n (bt+1) G u (bt+1==1) g l p r t (.pointer none) (.pointer none)) 100) k;have X8:=dq.made K o7 k (K0 id n (bt+1) G u (bt+1==1) g l p r t (.pointer none) (.pointer none)) (LI id n (bt+1) G u (bt+1==1) g l p r t (.pointer none) (.pointer none)) 100 rfl;have M8:=M7.tr (y.mono (C':=eh k) (fun d e=>e.elim)) (dw a.o);have P:=D7.fr y (fun e=>e);have G8:=G7.fr y (by have:=a.o;omega) (fun e=>e);have L8:=L7.fr y (by have:=a.o;omega) (fun e=>e) (fun e=>e);have Q8:=Q7.fr' y (by have:=a.o;omega) (fun e=>e) (fun e=>e);have R8:=R7.fr y (by have:=a.o;omega) (fun e=>e) (fun e=>e);have T8:=T7.fr y (by have:=a.o;omega) (fun e=>e);clear D7 G7 L7 Q7 R7 T7;clear y;generalize K.alloc (.cells (K0 id n (bt+1) G u (bt+1==1) g l p r t (.pointer none) (.pointer none)) 100)=w8 at*;generalize K.heap.size=x at*;generalize gH o7 x k=o8 at*;go_wp2_with fail;refine(ey P).mono ?_;rintro e w9 ⟨rfl,rfl⟩;go_wp2_with fail;refine(Ec M8.cl (k+17) (fun _=>False) h.o.2.1 h.o.1 (by have:=h.o.2.2.1;omega) (by have:=h.o.2.2.2;omega)).mono ?_;rintro e w9 ⟨o9,rfl,J9,m⟩;generalize w8.heap.size=j at*;have V:=M8.tr (m.mono (C':=eh k) (fun d e=>e.elim)) (dw a.o);have D9:=P.fr m (fun e=>e);have G9:=G8.fr m (by have:=a.o;omega) (fun e=>e);have L9:=L8.fr m (by have:=a.o;omega) (fun e=>e) (fun e=>e);have Q9:=Q8.fr' m (by have:=a.o;omega) (fun e=>e) (fun e=>e);have R9:=R8.fr m (by have:=a.o;omega) (fun e=>e) (fun e=>e);have T9:=T8.fr m (by have:=a.o;omega) (fun e=>e);have F:=X8.fr m (by have:=a.o;omega) (fun e=>e);clear P G8 L8 Q8 R8 T8 X8;clear m;have c7:=F.box.c 7 _ rfl;have f7:=F.box.f 7;have q:=Fm.put (C:=one k) V.cl F (by have:=a.o;omega) rfl 7 (de j);have ap:=F.put 7 (de j);have aJ:¬one k 0:=by unfold one;have:=a.o;omega
 have Y:=D9.fr q (by unfold one;have:=a.o;omega);have aa:=G9.fr q (by have:=a.o;omega) (by unfold one;have:=a.o;omega);have ae:=L9.fr q (by have:=a.o;omega) (by unfold one;have:=a.o;omega) (by unfold one;have:=a.o;omega);have aj:=Q9.fr' q (by have:=a.o;omega) (by unfold one;have:=a.o;omega) (by unfold one;have:=a.o;omega);have al:=R9.fr q (by have:=a.o;omega) (by unfold one;have:=a.o;omega) (by unfold one;have:=a.o;omega);have an:=T9.fr q (by have:=a.o;omega) (by unfold one;have:=a.o;omega);have ac:=J9.fr q (by have:=a.o;omega) (by unfold one;have:=a.o;omega);clear D9 G9 L9 Q9 R9 T9 J9;have ag:=V.tr (q.mono (C':=eh k) (fun d D=>by unfold one at D;unfold eh;omega)) (dw a.o);go_upto_region 8 with fail;clear c7 f7 q F V;generalize w9.setCell ⟨x,7,none⟩ (de j)=aG at*;have aK:wrap64 ((bt+1)*1048576)=(bt+1)*1048576:=by have:=h.o.2.2.1;unfold wrap64;omega
 go_wp2_with fail;refine(E0 ag.cl (k+9) (fun _=>False) ((bt+1)*1048576)).mono ?_;rintro e aL ⟨aF,rfl,ai,i⟩;generalize aG.heap.size=f at*;have ah:=ag.tr (i.mono (C':=eh k) (fun d e=>e.elim)) (dw a.o);have Z:=Y.fr i (fun e=>e);have ab:=aa.fr i (by have:=a.o;omega) (fun e=>e);have af:=ae.fr i (by have:=a.o;omega) (fun e=>e) (fun e=>e);have ak:=aj.fr' i (by have:=a.o;omega) (fun e=>e) (fun e=>e);have am:=al.fr i (by have:=a.o;omega) (fun e=>e) (fun e=>e);have ao:=an.fr i (by have:=a.o;omega) (fun e=>e);have ad:=ac.fr i (by have:=a.o;omega) (fun e=>e);have H:=ap.fr i (by have:=a.o;omega) (fun e=>e);clear Y aa ae aj al an ac ap;clear i;have aH:=H.box.c 16 _ rfl;have aI:=H.box.f 16;have v:=Fm.put (C:=one k) ah.cl H (by have:=a.o;omega) rfl 16 (de f);have aE:=H.put 16 (de f);have au:=Z.fr v (by unfold one;have:=a.o;omega);have av:=ab.fr v (by have:=a.o;omega) (by unfold one;have:=a.o;omega);have ay:=af.fr v (by have:=a.o;omega) (by unfold one;have:=a.o;omega) (by unfold one;have:=a.o;omega);have aB:=ak.fr' v (by have:=a.o;omega) (by unfold one;have:=a.o;omega) (by unfold one;have:=a.o;omega);have aC:=am.fr v (by have:=a.o;omega) (by unfold one;have:=a.o;omega) (by unfold one;have:=a.o;omega);have aD:=ao.fr v (by have:=a.o;omega) (by unfold one;have:=a.o;omega);have ax:=ad.fr v (by have:=a.o;omega) (by unfold one;have:=a.o;omega);have aA:=ai.fr v (by have:=a.o;omega) (by unfold one;have:=a.o;omega) (by unfold one;have:=a.o;omega);clear Z ab af ak am ao ad ai;have az:=ah.tr (v.mono (C':=eh k) (fun d D=>by unfold one at D;unfold eh;omega)) (dw a.o);go_wp2;go_ret2;refine⟨aF,x,⟨g,j,l,p,r,t,f,none,none,none,0,none,0⟩,rfl,⟨aE,⟨au,av,ay,aB,aC,aD,aA,rfl,rfl,dQ.nil _ _ _ _ _,jV.none _ _ _,ax⟩,In h.o.1 h.o.2.1 (by have:=h.o.2.2.1;omega) h.o.2.2.2⟩,az⟩
end
section
variable{da:ByteArray}
def qF(s:dp)(od lv:Int)(da:ByteArray):Option dp:=
 if eC s&&(ec ⟨s.id,s.bt,s.sq+1,od,lv,0,da⟩&&(decide (s.P.length<4)&&decide (s.sq<1000000)))then some {s with sq:=s.sq+1,P:=s.P++[⟨s.id,s.bt,s.sq+1,od,lv,0,da⟩]}else none
variable{w D:World} {o N:Ow} {k x G u:Nat} {A A':iS} {s s':dp}
theorem Bx(n:Cl w o)(q:32<=k)(H:di w o k x G u A s){od lv:Int}(g:qF s od lv da=some s'):
  Calls Tryz.prog 118 #[de x,.int .i64 od,.int .i64 lv,.string da] w fun e v=>e=.returned (.int .i64 0)/\∃r A',di v r k x G u A' s'/\Fm (eh k) o r w v:=by
 unfold qF at g;split at g;case isFalse=>cases g
 rename_i ki;simp only[Bool.and_eq_true,decide_eq_true_eq]at ki;have b:=hI ki;have z:=hI (Option.some.inj g);have f:=hI q;clear q g ki;go_enter Tryz.func118,Tryz.ntmps118;go_wp2_with fail;refine(fQ H).mono ?_;rw[b.o.1];rintro e F ⟨rfl,l⟩;have a:=H.ext l;have h:=Fm.ext (C:=eh k) n l;clear l H n;have B:=a.c 13 _ rfl;go_wp2_with fail;refine(BP h.cl a.q.pn (by have:=f.o;omega) ⟨a.ok.sq.1,by have:=a.ok.sq.2;omega⟩ (iR b.o.2.1) b.o.2.1 b.o.2.2.1).mono ?_;rintro e y ⟨E,rfl,t,j⟩
 obtain⟨m,F3⟩:=di.mod0 (A':=A) (s':={s with sq:=s.sq+1,P:=s.P++[⟨s.id,s.bt,s.sq+1,od,lv,0,da⟩]}) f.o a j (fun d i=>by unfold two at i;unfold eh;omega) (a.q.set_pn f.o t j (fun d i=>by unfold two at i;omega)) rfl {a.ok with sq:=(by have h1:=b.o.2.2.2;have h2:=a.ok.sq;show 0<=s.sq+1/\s.sq+1<=1000000;omega),P:=(fun e c=>by
  rcases List.mem_append.1 c with c|c;·exact a.ok.P e c
  .simp at c;rw[c]
   exact b.o.2.1)}
 rw[z.o]at m;have p:=h.tr F3 (dw f.o);clear F3 t j B a h;go_wp2;go_ret;exact⟨rfl,E,A,m.ext (db.alloc y _),p.tr (Fm.ext p.cl (db.alloc y _)) (dw f.o)⟩
abbrev Lu(x:Nat)(y:Int):List Value:=de x:: .int .i64 0:: .int .i64 0:: .int .i64 y::List.replicate 14 (.int .i64 0)
def wT(w:World)(o:Ow)(c g x:Nat):Prop:=∃y,dq w o c g (Lu x y)
theorem wT.ext{c g:Nat}(h:wT w o c g x)(e:db w D):wT D o c g x:=h.imp fun y b=>b.ext e
theorem wT.fr{C:Nat->Prop}{c g:Nat}(h:wT w o c g x)(k:Fm C o N w D)(h1:c≠1)(a:¬C c):wT D N c g x:=h.imp fun y b=>b.fr k h1 a
theorem Dl(d:Cl w o)(c x:Nat):
  Calls Tryz.prog 102 #[de x] w fun e b=>∃g a,e=.returned (de g)/\wT b a c g x/\Fm (fun _=>False) o a w b:=by go_enter Tryz.func102,Tryz.ntmps102;go_wp2;go_ret;exact⟨w.heap.size,_,rfl,⟨0,dq.made w o c _ (Lu x 0) _ rfl⟩,Fm.made d _ c⟩
theorem s8{c g:Nat}(h:wT w o c g x):
  Calls Tryz.prog 117 #[de g] w fun e a=>e=.returned (de x)/\w=a:=by obtain⟨y,B⟩:=h;have b:=B.box.c 0 _ rfl;clear B;go_enter Tryz.func117,Tryz.ntmps117;go_wp2;go_ret;trivial
theorem AM{c g:Nat}(a:Cl w o)(d:32<=k)(b:wT w o c g x)(h:di w o k x G u A s){od lv:Int}(f:qF s od lv da=some s'):
  Calls Tryz.prog 88 #[de g,.int .i64 od,.int .i64 lv,.string da] w fun e j=>e=.returned (.int .i64 0)/\∃i A',di j i k x G u A' s'/\Fm (eh k) o i w j:=by have m:=Bx a d h f;have n:=s8 b;clear a d b h f;go_enter Tryz.func88,Tryz.ntmps88;go_wp2_with fail;refine n.mono ?_;rintro e t ⟨rfl,rfl⟩;go_wp2_with fail;refine m.mono ?_;rintro e t ⟨rfl,r,l,q,p⟩;go_wp2;go_ret;exact⟨rfl,r,l,q,p⟩
end
section
variable{C:Nat->Prop} {p q:Option Addr} {u:List gg} {k cap:Nat} {D:World}
def QF(w:World)(u a:List gg):Prop:=∀d∈a,∀i,d.q.map (·.block)=some i->(∃e∈u,e.q.map (·.block)=some i)\/w.heap.size<=i
theorem QF.add{w:World}{b:List gg}{d:gg}(h:QF w u b)(f:∀i,d.q.map (·.block)=some i->w.heap.size<=i):QF w u (b++[d]):=by
 intro e a i c;rcases List.mem_append.1 a with a|a;·exact h e a i c
 .simp at a;subst a;exact .inr (f i c)
theorem yi{w:World}{g cap:Nat}{p:Option Addr}{u:List gg}(N0:jh w g p cap u){q:Option Addr}{n c:Nat}{xs:List qx}
  (X:SlS 13 w q n c (xs.map Bv))(hx:∀x∈xs,KF w x)(S1:KX g p q)(s2:∀x∈xs,KX g p x.p):
  Calls Tryz.prog 83 #[.pointer (some ⟨g,0,none⟩),.slice q n c] w fun e D=>∃r F f,e=.returned (.int .i64 ((f.length:Int)-(u.length:Int)))/\jh D g r F f/\f.map tE=jd (u.map tE) xs/\Mv w D g p/\Fr w p r/\QF w u f:=by
 have Z:=N0.box.c 0 _ rfl;have X0:=hI hx;have S2:=hI s2;obtain⟨i0,ao,az,aA,aB⟩:=info_parts tw;have ak:Hid (xs.length=n):=hI (by have:=X.len;simpa using this);have au:=hI ao;have aH:n<=9223372036854775807:=Nat.le_trans X.le X.max;clear hx s2 ao;go_enter Tryz.func83,Tryz.ntmps83;go_wp2;clear Z;go_loopw [18] (fun i wr=>∃(k:Nat) (r:Option Addr) (F:Nat) (f:List gg),k<=n/\i=.int .i64 (k:Int)/\jh wr g r F f/\f.map tE=jd (u.map tE) (xs.take k)/\Mv w wr g p/\Fr w p r/\QF w u f) (fun i _=>n-(intOf i).toNat);case atStart=>exact⟨0,p,cap,u,by omega,rfl,N0,rfl,Mv.refl _ _ _,fun i A=> .inl A,fun d hd i A=> .inl ⟨d,hd,A⟩⟩
 case round=>
  obtain⟨k,r,F,f,hk,rfl,l,hm,s,P,Y⟩:=hrel;have Q:=hI hm;clear hm;by_cases ax:k<n
  .obtain⟨b,o,hp,hc⟩:=(X.mv s S1.1 S1.2).cells (by omega);have ae:k<xs.length:=by rw[ak.o];exact ax
   obtain⟨x,ad⟩:∃x,x=xs[k]:=⟨_,rfl⟩;have af:x∈xs:=by rw[ad];simp
   have ap:(xs.map Bv)[k]? =some (Bv x):=by rw[ad];simp[ae]
   have am:wr.rangeAt b (o+k*13) (Bv x):=fun j v hv=>by rw[Nat.add_assoc];exact hc k _ ap j v hv
   have HS:Hid (jd (u.map tE) (xs.take (k+1))=lR (jd (u.map tE) (xs.take k)) x):=hI (by rw[ad];exact yu ae);have T:=X0.o x af;have SX:=S2.o x af;clear hc ap ad af ae;subst hp;have aG:(k:Int)<(n:Int):=by omega
   obtain⟨a,z,y,h⟩:=x;go_upto_region 6 with fail;go_cut [7] (fun s7 wx=>s7=.pointer (some ⟨wr.heap.size,0,none⟩)/\wx=(wr.alloc (.cells (fE dA none 0 0) 76)).setCells wr.heap.size 0 (gt a z h.length y));case first=>have TH:(wr.alloc (.cells (fE dA none 0 0) 76)).there wr.heap.size 0 13:=Kc (dK.new wr wr.heap.size (fE dA none 0 0) (gt dA none 0 0) 76 wr.heap.size rfl (Nat.le_refl _) (by rfl));go_wp2_with (first|((with_reducible (refine wpList_load_mid (op:=⟨some 21,.load 76 (.tmp 20),_,_,_,_⟩) ?_ 76 (.tmp 20) ?_ b (o+k*13) ?_ (gt a z h.length y) _ ?_ Tryz.underlying76 ?_ ?_ ?_));(rfl);(rfl);(rfl);exact am;(rfl);exact rB)|((with_reducible (refine wpList_store_mid (op:=⟨none,.store 76 (.tmp 7) (.tmp 21),_,_,_,_⟩) ?_ 76 (.tmp 7) (.tmp 21) ?_ wr.heap.size 0 (fE a z h.length y) ?_ ?_ ?_ ?_ ?_ ?_));(rfl);(rfl);(rfl);(rfl);exact TH;exact rB;exact Ik _ _ _ _));go_meet;exact⟨rfl,rfl⟩
   case rest=>
   obtain⟨rfl,rfl⟩:=hcut;have S:dK ((wr.alloc (.cells (fE dA none 0 0) 76)).setCells wr.heap.size 0 (gt a z h.length y)) wr.heap.size wr.heap.size (gt a z h.length y):=by rw[EH];exact(dK.new wr wr.heap.size (fE dA none 0 0) (gt dA none 0 0) 76 wr.heap.size rfl (Nat.le_refl _) (by rfl)).fill (Nat.le_refl _)
   have AO:db wr ((wr.alloc (.cells (fE dA none 0 0) 76)).setCells wr.heap.size 0 (gt a z h.length y)):=by rw[EH];exact eL (db.alloc wr _) (Nat.le_refl _) _ 0
   replace l:=l.ext AO;replace s:=s.tr (Mv.ext AO g p);clear am;generalize(wr.alloc (.cells (fE dA none 0 0) 76)).setCells wr.heap.size 0 (gt a z h.length y)=w2 at*;generalize wr.heap.size=sg at*;clear AO;have al:w2.rangeAt sg 0 (gt a z h.length y):=fun j v hv=>by rw[Nat.zero_add];exact S.c j v hv
   go_wp2_with ((with_reducible (refine wpList_load_mid (op:=⟨some 22,.load 76 (.tmp 7),_,_,_,_⟩) ?_ 76 (.tmp 7) ?_ sg 0 ?_ (gt a z h.length y) _ ?_ Tryz.underlying76 ?_ ?_ ?_));(rfl);(rfl);(rfl);exact al;(rfl);exact rB);refine(lU (m:=a) (L:=h) T.ok (T.sl.mv s SX.1 SX.2) T.en).mono ?_;rintro e H ⟨p3,I,rfl,W,ac,X3⟩;have ar:Hid ((hY a h).length<=5294):=hI (Dw T.ok T.en);have ai:Hid (g<w2.heap.size):=hI l.box.hi;have av:Hid (∀i,r.map (·.block)=some i->i<w2.heap.size):=hI (fun i A=>(l.row.lt i A).2);have aw:Hid (w.heap.size<=w2.heap.size):=hI s.size;replace l:=l.ext X3;replace s:=s.tr (Mv.ext X3 g p);replace S:=S.ext X3;clear al;cases E:eP a h
   .have ay:=ac.2 E;have aD:=hI (zk E);have R:Hid (lR (jd (u.map tE) (xs.take k)) ⟨a,z,y,h⟩=jd (u.map tE) (xs.take k)):=hI (by simp[lR,E]);subst ay;clear ac E;go_wp2;go_roundw;case rel=>exact⟨k+1,r,F,f,by omega,by go_num,l,by rw[HS.o,R.o];exact Q.o,s,P,Y⟩
    case measure=>simp[intOf];omega
   .obtain⟨B,rfl⟩:∃B,p3=some B:=by
     cases p3 with
     |none=>exact absurd (ac.1 rfl) (by rw[E];decide)
     |some B=>exact⟨B,rfl⟩
    clear ac;have aj:Hid ((jd (u.map tE) (xs.take k)).length=f.length):=hI (by rw[<-Q.o];simp);have Z:=l.box.c 0 _ rfl;have cf:=l.box.f;by_cases ab:f.length<400
    .have d1:decide ((f.length:Int)<400)=true:=by simp;omega
     have m2:=S.c 2 _ rfl;try simp only at m2
     have R:Hid (lR (jd (u.map tE) (xs.take k)) ⟨a,z,y,h⟩=jd (u.map tE) (xs.take k)++[(a.to,hY a h)]):=hI (by simp[lR,E,aj.o,ab]);clear E;have O:=db.alloc H (.cells #[.int .i64 a.to,.slice (some B) (hY a h).length I] 119);have U:=O.tr (db.drew (H.alloc (.cells #[.int .i64 a.to,.slice (some B) (hY a h).length I] 119)));have ah:Hid (g+1<=(H.alloc (.cells #[.int .i64 a.to,.slice (some B) (hY a h).length I] 119)).drew.heap.size):=hI (by have:=l.box.hi;have:=U.size;omega);have ag:=l.box.ext U;have an:=((l.row.ext O).ext (db.drew _)).2.2;have aF:f.length+1<=400:=by omega
     have b0:=(l.box.ext O).c 0 _ rfl;have aq:=(S.ext O).c 2 _ rfl;try simp only at b0 aq
     go_wp2_with fail;go_region_law (refine step_append_lies _ (by rfl) _ _ _ (by rfl) (g+1) 119 i0 _ 2 32 Tryz.underlying110 au.o az aA aB rfl (by omega) (.slice r f.length F) f.length _ (by rfl) an ⟨H.heap.size,0,none⟩ 1 1 [.int .i64 a.to,.slice (some B) (hY a h).length I] (by rfl) (by rfl) (World.news_of_block (cs:=#[.int .i64 a.to,.slice (some B) (hY a h).length I]) (t:=119) (fr:=(0,0)) (heap_alloc_new H _)) (by simp[Value.oneCell']) (by omega) (by unfold maxLen;omega) (by omega) ah.o (H.heap.size+1) (by simp) ?_;intro K J G N aa M aC;have V:=ag.other aa (by rw[ea];exact l.pne);have b4:=V.c 0 _ rfl;have f4:=V.f 0)
     all_goals
      have M4:Mv H G g r:=(Mv.ext U g r).tr (Mv.row (by rw[ea]at aa;exact aa) g)
      have F4:Fr w p (some ⟨K,0,none⟩):=fun i A=>by
       cases A;rcases M with M|M;·rw[ea]at M;exact P _ M
       .have:=s.size;exact .inr (by simp only;omega)
      have MG:Mv H (G.setCell ⟨g,0,none⟩ (.slice (some ⟨K,0,none⟩) (f.length+1) J)) g r:=M4.tr (Mv.self (dP (dD G (some g)) 0 (.slice (some ⟨K,0,none⟩) (f.length+1) J)) r);have NV:jh (G.setCell ⟨g,0,none⟩ (.slice (some ⟨K,0,none⟩) (f.length+1) J)) g (some ⟨K,0,none⟩) J (f++[⟨a.to,some B,I,hY a h⟩]):=l.more (d:=⟨a.to,some B,I,hY a h⟩) ab ar.o (W.mono (by have:=ai.o;omega)) (fun e=>by have:=(W.lt g e).1;have:=ai.o;omega) (fun i A e=>by have:=(W.lt i e).1;have:=av.o i A;omega) (l.row.app rfl N) M4 V;clear N aa M aC V b4 f4 M4 O U ag an b0 aq Z cf m2 ab d1 ah;generalize G.setCell ⟨g,0,none⟩ (.slice (some ⟨K,0,none⟩) (f.length+1) J)=w5 at*;go_wp2;go_roundw;case rel=>exact⟨k+1,_,J,_,by omega,by go_num,NV,by rw[HS.o,R.o,<-Q.o];simp[tE],s.tr2 MG P,F4,Y.add (fun i A=>by have h1:=(W.lt i A).1;have h2:=aw.o;omega)⟩
      case measure=>simp[intOf];omega
    .have d1:decide ((f.length:Int)<400)=false:=by simp;omega
     have R:Hid (lR (jd (u.map tE) (xs.take k)) ⟨a,z,y,h⟩=jd (u.map tE) (xs.take k)):=hI (by simp[lR,E,aj.o,ab]);clear E cf;go_wp2;go_roundw;case rel=>exact⟨k+1,r,F,f,by omega,by go_num,l,by rw[HS.o,R.o];exact Q.o,s,P,Y⟩
     case measure=>simp[intOf];omega
  .obtain rfl:k=n:=by omega
   have Z:=l.box.c 0 _ rfl;have HT:Hid (xs.take k=xs):=hI (by rw[<-ak.o];exact List.take_length);have h4:=l.max;have aE:=N0.max;have e4:wrap64 ((f.length:Int)-(u.length:Int))=(f.length:Int)-(u.length:Int):=by unfold wrap64;omega
   go_wp2;go_ret;exact⟨r,F,f,rfl,l,by rw[Q.o,HT.o],s,P,Y⟩
def lI(d:Nat):Prop:=d=24\/d=25
structure xd (w:World) (o:Ow) (g:Nat) (p:Option Addr) (cap:Nat) (u:List gg):Prop where
 nv:jh w g p cap u
 cg:o g=24
 cp:∀i,p.map (·.block)=some i->o i=25
 cq:∀d∈u,∀i,d.q.map (·.block)=some i->o i=0
theorem gK.fr{w:World}{o d:Ow}{base n:Nat}{l:List UInt8}(h:gK w base q n cap l)(k:Fm C o d w D)(b:∀i,q.map (·.block)=some i->o i≠1/\¬C (o i)):gK D base q n cap l:=
 ⟨h.1,tO h.2 fun i c=>by
  have a:q.map (·.block)=some i:=by rwa[ea]at c
  exact k.blk i (h.lt i a).2 (b i a).1 (b i a).2⟩
theorem xd.fr{w:World}{o l:Ow}{g:Nat}(h:xd w o g p cap u)(k:Fm C o l w D)(f:¬C 0)(m:¬C 24)(j:¬C 25):xd D l g p cap u:=by
 have b:=(dq.fr (c:=24) ⟨h.cg,h.nv.box.base (Nat.zero_le _)⟩ k (by decide) m);refine⟨⟨⟨Nat.le_refl _,b.box.hi,b.box.c,b.box.f⟩,fY.fr h.nv.row k (fun i a=>by rw[h.cp i a];exact⟨by decide,j⟩),fun d e=>gK.fr (h.nv.own d e) k (fun i a=>by rw[h.cq d e i a];exact⟨by decide,f⟩),h.nv.max,h.nv.small⟩,b.col,fun i a=>?_,fun d e i a=>?_⟩;·exact(k.at (h.nv.row.lt i a).2 (by rw[h.cp i a];exact j)).trans (h.cp i a)
 .exact(k.at ((h.nv.own d e).lt i a).2 (by rw[h.cq d e i a];exact f)).trans (h.cq d e i a)
theorem xd.ext{w:World}{o:Ow}{g:Nat}(h:xd w o g p cap u)(k:db w D):xd D o g p cap u:=⟨h.nv.ext k,h.cg,h.cp,h.cq⟩
theorem Fm.mv{w:World}{o:Ow}{g:Nat}(f:Cl w o)(m:Mv w D g p)(b:o g=24)(c:∀i,p.map (·.block)=some i->o i=25):Fm lI o o w D:=
 ⟨m.os,m.tape,m.output,m.size,fun _ _=> .inl rfl,fun i a _ d=>m.block i a (fun e=>d (by rw[e,b];exact .inl rfl)) (fun e=>d (by rw[c i e];exact .inr rfl)),
  fun i j a h1 _=>World.cell?_of_block (m.block i a (fun e=>by rw[e,b]at h1;omega) (fun e=>by rw[c i e]at h1;omega)),
  fun i j a h1=>World.frozen?_of_block (m.block i a (fun e=>by rw[e,b]at h1;omega) (fun e=>by rw[c i e]at h1;omega)),fun i a=>f i (Nat.le_trans m.size a)⟩
def sO(x:dz×List dj):Int×List UInt8:=(x.1.to,hY x.1 x.2)
def jf(w:World)(o:Ow)(g:Nat)(ns:List (dz×List dj)):Prop:=∃p cap u,xd w o g p cap u/\u.map tE=ns.map sO/\∀x∈ns,eP x.1 x.2=true
theorem jf.fr{w:World}{o a:Ow}{g:Nat}{ns:List (dz×List dj)}(h:jf w o g ns)(k:Fm C o a w D)(b:¬C 0)(c:¬C 24)(d:¬C 25):jf D a g ns:=by obtain⟨p,cap,u,h,e⟩:=h;exact⟨p,cap,u,h.fr k b c d,e⟩
theorem jf.ext{w:World}{o:Ow}{g:Nat}{ns:List (dz×List dj)}(h:jf w o g ns)(k:db w D):jf D o g ns:=by obtain⟨p,cap,u,h,e⟩:=h;exact⟨p,cap,u,h.ext k,e⟩
def fd(ns ms:List (dz×List dj)):List (dz×List dj):=ms.foldl (fun l x=>if uE x.1 x.2&&decide (l.length<400)then l++[x]else l) ns
theorem oT:∀(ms ns:List (dz×List dj)),(∀x∈ns,eP x.1 x.2=true)->∀x∈fd ns ms,eP x.1 x.2=true
 |[],_,h=>h
 |y::ms,ns,h=>by
  refine oT ms _ ?_;show∀x∈(if uE y.1 y.2&&decide (ns.length<400)then ns++[y]else ns),eP x.1 x.2=true;split
  .rename_i b;rw[Bool.and_eq_true,kX]at b;intro x a;rcases List.mem_append.1 a with a|a;·exact h x a
   .simp at a;subst a;exact b.1
  .exact h
theorem Ae:∀(xs:List qx) (l:List (Int×List UInt8)) (ns:List (dz×List dj)),l=ns.map sO->jd l xs=(fd ns (xs.map Bq)).map sO
 |[],_,_,h=>h
 |x::xs,l,ns,h=>by
  show jd (lR l x) xs=(fd _ (xs.map Bq)).map sO;refine Ae xs _ _ ?_;subst h;unfold lR Bq;simp only[List.length_map,kX];split;·simp[sO]
  .rfl
variable{w G:World} {o N:Ow} {g:Nat} {ns:List (dz×List dj)}
theorem mw(B:Cl w o)(h:jf w o g ns){c v:Nat}{ms:List (dz×List dj)}(V:jV w o c q v ms)(hc:32<=c):
  Calls Tryz.prog 83 #[de g,.slice q ms.length v] w fun e D=>∃L z,e=.returned (.int .i64 z)/\jf D L g (fd ns ms)/\Fm lI o L w D:=by
 obtain⟨p,cap,u,a,U,I⟩:=h;obtain⟨t,H,hr,n⟩:=V;have S:ms.length=t.length:=by rw[<-H];simp
 have Z:KX g p q:=⟨fun e=>by have:=hr.col g e;rw[a.cg]at this;omega,fun i b e=>by have:=hr.col i e;rw[a.cp i b]at this;omega⟩;have aa:∀x∈t,KX g p x.p:=fun x m=>⟨fun e=>by have:=((n x m).sl.lt g e).2;rw[a.cg]at this;omega,fun i b e=>by have:=((n x m).sl.lt i e).2;rw[a.cp i b]at this;omega⟩;have W:SlS 13 w q ms.length v (t.map Bv):=by rw[S];exact hr.row.sl
 refine(yi a.nv W (fun x m=>⟨(n x m).ok,(n x m).sl.sl,(n x m).en⟩) Z aa).mono ?_;rintro e D ⟨y,A,s,rfl,r,l,X,M,Y⟩;have F:=Fm.mv B X a.cg a.cp;have J:s.map tE=(fd ns ms).map sO:=by rw[l,Ae t _ _ U,H]
 have K:∀d∈s,∀i,d.q.map (·.block)=some i->o i=0:=fun d l i b=>by
  rcases Y d l i b with⟨e,O,P⟩|h2;·exact a.cq e O i P
  .exact B i h2
 by_cases E:∃i,y.map (·.block)=some i/\w.heap.size<=i
 .obtain⟨i,b,Q⟩:=E;have T:=(r.row.lt i b).2;have R:g≠i:=fun e=>r.pne (by rw[e];exact b);refine⟨gH o i 25,_,rfl,⟨y,A,s,⟨r,(dS R).trans a.cg,fun j f=>?_,fun d l j f=>?_⟩,J,oT ms ns I⟩,F.paint 25 Q T⟩;·rw[b]at f;cases f;exact et _ _ _
  .rw[dS (fun e=>r.qp l i b (by rw[<-e];exact f))];exact K d l j f
 .refine⟨o,_,rfl,⟨y,A,s,⟨r,a.cg,fun j f=>?_,K⟩,J,oT ms ns I⟩,F⟩;rcases M j f with h1|h1;·exact a.cp j h1
  .exact absurd ⟨j,f,h1⟩ E
theorem Gn(h:jf w o g ns):
  Calls Tryz.prog 39 #[de g] w fun e D=>e=.returned (.int .i64 (ns.length:Int))/\w=D:=by
 obtain⟨p,cap,u,a,c,-⟩:=h;have b:ns.length=u.length:=by have:=congrArg List.length c;simp at this;omega
 rw[b];exact vV a.nv
theorem Cz(h:jf w o g ns)(r:k<ns.length):
  Calls Tryz.prog 47 #[de g,.int .i64 (k:Int)] w fun e D=>∃c n a,e=.returned (.tuple #[.slice c n a,.bool true])/\gK D w.heap.size c n a (hY ns[k].1 ns[k].2)/\n<=6000/\db w D:=by
 obtain⟨p,cap,u,i,j,-⟩:=h;have t:ns.length=u.length:=by have:=congrArg List.length j;simp at this;omega
 have b:k<u.length:=by omega
 have f:=xJ b
 have m:lG u (k:Int)=hY ns[k].1 ns[k].2:=by
  unfold lG;rw[if_pos f];have d:(u.map tE)[k]? =(ns.map sO)[k]? :=by rw[j]
  rw[List.getElem?_map,List.getElem?_map,List.getElem?_eq_getElem b,List.getElem?_eq_getElem r]at d;simp[tE,sO]at d;simp[List.getElem?_eq_getElem b,d.2]
 have s:(lG u (k:Int)).length<=6000:=by unfold lG;rw[if_pos f];have:=i.nv.small u[k] (by simp);simp[List.getElem?_eq_getElem b];omega
 refine(oM i.nv (k:Int)).mono ?_;rintro e D ⟨c,a,rfl,l,x⟩;rw[f];refine⟨c,_,a,rfl,?_,s,x⟩;rw[m]at l⊢;exact l
theorem Jc(h:jf w o g ns)(j:k<ns.length):
  Calls Tryz.prog 85 #[de g,.int .i64 (k:Int)] w fun e D=>e=.returned (.int .i64 ns[k].1.to)/\w=D:=by
 obtain⟨p,cap,u,d,c,-⟩:=h;have l:ns.length=u.length:=by have:=congrArg List.length c;simp at this;omega
 have b:k<u.length:=by omega
 have i:=xJ b
 have f:Kq u (k:Int)=ns[k].1.to:=by
  unfold Kq;rw[if_pos i];have a:(u.map tE)[k]? =(ns.map sO)[k]? :=by rw[c]
  rw[List.getElem?_map,List.getElem?_map,List.getElem?_eq_getElem b,List.getElem?_eq_getElem j]at a;simp[tE,sO]at a;simp[List.getElem?_eq_getElem b,a.1]
 rw[<-f];exact Ip d.nv (k:Int)
theorem Cx(l:Cl w o)(h:jf w o g ns)(v:k<ns.length):
  Calls Tryz.prog 86 #[de g,.int .i64 (k:Int)] w fun e D=>e=.returned (.bool true)/\jf D o g (ns.eraseIdx k)/\Fm lI o o w D:=by
 obtain⟨p,cap,u,a,f,r⟩:=h;have y:ns.length=u.length:=by have:=congrArg List.length f;simp at this;omega
 have n:k<u.length:=by omega
 have c:=xJ n;have b:qK u (k:Int)=u.eraseIdx k:=by unfold qK;rw[if_pos c];rfl
 refine(By a.nv (k:Int)).mono ?_;rintro e D ⟨rfl,j,t⟩;rw[b]at j;rw[c];exact⟨rfl,⟨p,cap,u.eraseIdx k,⟨j,a.cg,a.cp,fun d b i m=>a.cq d (List.mem_of_mem_eraseIdx b) i m⟩,by rw[l0,l0,f],fun x s=>r x (List.mem_of_mem_eraseIdx s)⟩,Fm.mv l t a.cg a.cp⟩
theorem Gq(c:Cl w o):
  Calls Tryz.prog 81 #[] w fun e D=>∃b,e=.returned (de w.heap.size)/\jf D b w.heap.size []/\Fm (fun _=>False) o b w D:=by refine(EJ w).mono ?_;rintro e D ⟨rfl,a,x⟩;refine⟨gH o w.heap.size 24,rfl,⟨none,0,[],⟨a,et _ _ _,fun i h=>by simp at h,fun d f=>by cases f⟩,rfl,fun x j=>by cases j⟩,(Fm.ext c x).paint 24 (Nat.le_refl _) a.box.hi⟩
end
section
variable{w:World} {x:Int} {b:Nat}
theorem Cr{j:Nat}:
  Calls Tryz.prog 162 #[.pointer (some ⟨b,j,none⟩),.int .i64 1] w fun e a=>e=.returned (.bool true)/\w=a:=by go_enter Tryz.func162,Tryz.ntmps162;go_wp2;go_ret;trivial
theorem C0{j:Nat}(a:w.cell? ⟨b,j,none⟩=some (.int .i64 x))(c:w.frozen? ⟨b,j,none⟩=false):
  Calls Tryz.prog 163 #[.pointer (some ⟨b,j,none⟩),.int .i64 1] w fun e d=>e=.returned (.int .i64 (wrap64 (x+1)))/\d=w.setCell ⟨b,j,none⟩ (.int .i64 (wrap64 (x+1))):=by have f:=run_call_add (P:=Tryz.prog) Tryz.func185 (by kernel_rfl) (by kernel_rfl) (by kernel_rfl) .i64 (by kernel_rfl) (y:=1) (s:=wrap64 (x+1)) a c (by simp[go_sem,wrap64,IntKind.wrap_i64]);clear a c;go_enter Tryz.func163,Tryz.ntmps163;go_wp2;go_ret;exact⟨rfl,rfl⟩
theorem Cq(a:w.cell? ⟨b,3,none⟩=some (.int .i64 x))(c:w.frozen? ⟨b,3,none⟩=false):
  Calls Tryz.prog 119 #[.pointer (some ⟨b,2,none⟩),.int .i64 1] w fun e f=>(∃z:Int,e=.returned (.int .i64 z))/\∃y:Int,f=w.setCell ⟨b,3,none⟩ (.int .i64 y):=by have d:=hI (C0 a c);clear a c;go_enter Tryz.func119,Tryz.ntmps119;go_wp2_with fail;refine Cr.mono ?_;rintro e g ⟨rfl,rfl⟩;go_wp2_with fail;refine d.o.mono ?_;rintro e g ⟨rfl,rfl⟩;go_wp2;go_ret;exact⟨⟨_,rfl⟩,_,rfl⟩
end
end Go.Proofs.YtjhbmbbmjaabcaaGreat
