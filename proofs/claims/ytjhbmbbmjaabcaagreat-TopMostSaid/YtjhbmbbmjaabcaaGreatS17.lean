/-
  Contracts. Conditions stand at each.
-/
import Derived.Test.YtjhbmbbmjaabcaaGreatS16
set_option linter.all false
set_option maxRecDepth 8000
set_option maxHeartbeats 8000000
namespace Go.Proofs.YtjhbmbbmjaabcaaGreat
open Go Go.Sort Go.RowKit
section
def jZ(w:World)(a:Addr):Int:=match w.cell? a with
 |some (.int _ v)=>v
 |_=>0
def jC(id n:Int):Nat->Int->Option Int
 |0,_=>none
 |k+1,v=>if dJ v n=id then some v else jC id n k (v+1)
theorem nB{id n:Int}:∀(k:Nat) (v r:Int),jC id n k v=some r->v<=r/\r<v+k
 |0,_,_,h=>by cases h
 |k+1,v,r,h=>by
  unfold jC at h;split at h;·cases h;omega
  .have:=nB k (v+1) r h;omega
def no(n:Int):Int:=2^n.toNat-1
theorem iT:∀(M L R:List dj),fw L M=some R->R=L++M/\∀e∈M,ec e=true
 |[],L,R,h=>by
  cases h;exact⟨by simp,fun e b=>by cases b⟩
 |e::M,L,R,h=>by
  obtain⟨c,h1,h2⟩:=om h;obtain⟨h3,-,-,-,rfl⟩:=kl h1;obtain⟨h4,h5⟩:=iT M _ R h2;refine⟨by rw[h4];simp,fun y a=>?_⟩;rcases List.mem_cons.1 a with rfl|a;·exact h3
  .exact h5 y a
def pF(s:dp)(a:Int):dp:={s with dv:=a,v:=some (a,[⟨s.id,s.ls,s.L,s.cm⟩]),hd:=s.ck,ag:=false,f:=qM s.f}
def kB(s:dp):Option dp:=
 match jC s.id s.n 8 (ep s.dv s.dn+1)with
 |none=>none
 |some a=>if(decide (a<=1000000000)&&decide (s.ls<a))&&((fw [] s.L).isSome&&decide (s.cm<=(s.L.length:Int)))then
  dt (eE (tP a) s.id s.n) (ek.filter (dg (no s.n))) (pF s a)else none
variable{w N:World} {o G:Ow} {k x D u:Nat} {A A':iS} {s s':dp}
theorem mf(ak:Cl w o)(hk:32<=k)(h:di w o k x D u A s)(hs:kB s=some s'):
  Calls Tryz.prog 109 #[de x] w fun e w'=>e=.returned (.tuple #[])/\∃o' A',di w' o' k x D u A' s'/\Fm (eh k) o o' w w':=by
 unfold kB at hs;split at hs;case h_1=>cases hs
 rename_i az bq;split at hs;case isFalse=>cases hs
 rename_i hc;simp only[Bool.and_eq_true,decide_eq_true_eq]at hc;have a4:=hI bq;have aa:=hI hc;have HS:=hI hs;have b:=hI hk;have HC:=hI ak;have A0:=hI (db.alloc w (.cells #[de x] 37));have XB:=hI (dq.loose ak #[de x] [de x] 37 rfl);have H:=hI (h.ext A0.o);have M1:=hI (Fm.ext (C:=eh k) ak A0.o);clear hk ak h hs bq hc HC;go_enter Tryz.func109,Tryz.ntmps109;go_upto_region 1 with fail;change Code.wp _ _ _ _ (w.alloc (.cells #[de x] 37));clear A0;generalize w.alloc (.cells #[de x] 37)=Y at*;generalize w.heap.size=U at*;obtain⟨m,y⟩:∃m,m=Y.drew:=⟨_,rfl⟩;have X2:Hid (db Y m):=hI (by rw[y];exact db.drew Y);replace H:=hI (H.o.ext X2.o);replace XB:=hI (XB.o.ext X2.o);replace M1:=hI (M1.o.tr (Fm.ext M1.o.cl X2.o) (dw b.o));have rb:=fun(q:dN (db m))=>db.cell q.h (XB.o.box.c 0 _ rfl);have r2:=fun(q:dN (db m))=>db.cell q.h (H.o.c 2 _ rfl);have bY:=fun(q:dN (db m))=>db.cell q.h (H.o.c 18 _ rfl);obtain⟨O,ad⟩:∃O,O=ep s.dv s.dn+1:=⟨_,rfl⟩;rw[<-ad]at a4;have an:Hid (1<=O/\s.dv<O/\O<=1000000001):=hI (by have h1:=H.o.ok.dv;have h2:=H.o.ok.dn;unfold ep at ad;split at ad<;>omega);have br:wrap64 ((if s.dv<s.dn then s.dn else s.dv)+1)=O:=by have h1:=H.o.ok.dv;have h2:=H.o.ok.dn;rw[ad];unfold ep wrap64;split<;>omega
 clear ad;obtain⟨z,aw⟩:∃z,z=m.heap.size:=⟨_,rfl⟩;obtain⟨W5,av⟩:∃W5,W5=(m.alloc (.cells #[.int .i64 0] 2)).setCell ⟨z,0,none⟩ (.int .i64 O):=⟨_,rfl⟩;obtain⟨Q,aV⟩:∃Q,Q=gH o z (k+20):=⟨_,rfl⟩;have F0:Hid (Fm (fun _=>False) o Q m (m.alloc (.cells #[.int .i64 0] 2))):=hI (by rw[aV,aw];exact Fm.made M1.o.cl _ _);have V0:Hid (dq (m.alloc (.cells #[.int .i64 0] 2)) Q (k+20) z [.int .i64 0]):=hI (by rw[aV,aw];exact dq.made m o (k+20) #[.int .i64 0] [.int .i64 0] 2 rfl);have F1:Hid (Fm (one (k+20)) Q Q (m.alloc (.cells #[.int .i64 0] 2)) W5):=hI (by rw[av];exact Fm.put (C:=one (k+20)) F0.o.cl V0.o (by have:=b.o;omega) rfl 0 (.int .i64 O));have bg:Hid (dq W5 Q (k+20) z [.int .i64 O]):=hI (by rw[av];exact V0.o.put 0 (.int .i64 O));have H5:=hI ((H.o.fr b.o F0.o (fun e=>e) (fun d e=>e.elim)).fr b.o F1.o (by unfold one;omega) (fun d l=>by unfold one at l;unfold rD;omega));have bk:=hI ((XB.o.fr F0.o (by decide) (fun e=>e)).fr F1.o (by decide) (by unfold one;omega));have M5:=hI ((M1.o.tr (F0.o.mono (fun d e=>e.elim)) (dw b.o)).tr (F1.o.mono (fun d l=>by unfold one at l;unfold eh;omega)) (dw b.o));have PF:Hid (db m W5):=hI (by rw[av];exact db.grown (dP (gY (db.alloc m _) (some z)) 0 (.int .i64 O)) (fun k hk=>by cases hk;rw[aw];exact Nat.le_refl _));have aA:=hI aw;have aB:=hI av;have z0:=V0.o.box.c 0 _ rfl;have zf:=V0.o.box.f 0;clear F0 V0 F1 aV aw av;refine Lv (.one 0 (.one 1 (.one 2 (.one 3 (.one 5 (.one 6 (.one 7 (.one 8 (.two 4 (.one 9 (.one 10 (.one 11 (.one 12 .fin)))) 11 (.one 4 (.one 9 (.one 10 (.one 12 .fin))))))))))))) (db m) (by rw[<-y];exact db.rfl' _) (fun _=>?_);rw[<-y];clear y;repeat((first|refine DG fun K a=>?_|refine DF fun K a=>?_);go_big_quiet_op;refine a _ ?_;clear a K)
 clear rb r2 bY;refine yq rfl rfl (by rfl) (by rfl) (fun K a=>?a1) (fun K a=>?b1)
 case' a1=>
  go_simp;refine(ey H.o.q.dk).mono ?_;rintro e w9 ⟨rfl,rfl⟩;refine a (db m) _ _ (fun _ h=>h) (db.rfl' m) (fun _=>?_);clear a K;repeat((first|refine DG fun K a=>?_|refine DF fun K a=>?_);go_big_quiet_op;refine a _ ?_;clear a K)
  refine DE fun K a=>?_;go_simp;refine a (db m) _ _ (fun _ h=>h) (db.alloc m (.cells #[.int .i64 0] 2)) (fun _=>?_);clear a K;change RF _ _ _ _ _ _ (m.alloc (.cells #[.int .i64 0] 2));rw[<-aA.o];refine DE fun K a=>?_;go_simp;rw[<-aB.o];refine a (db m) _ W5 (fun _ h=>h) PF.o (fun _=>?_);clear a K PF;refine rO ?_;clear br H XB M1 aB aA z0 zf
 case' b1=>
  go_simp;refine a (db m) _ _ (fun _ h=>h) (db.alloc m (.cells #[.int .i64 0] 2)) (fun _=>?_);clear a K;change RF _ _ _ _ _ _ (m.alloc (.cells #[.int .i64 0] 2));rw[<-aA.o];refine DE fun K a=>?_;go_simp;refine(ey (H.o.q.dk.ext (db.alloc m _))).mono ?_;rintro e w9 ⟨rfl,rfl⟩;refine a (db m) _ _ (fun _ h=>h) (db.alloc m _) (fun _=>?_);clear a K;repeat((first|refine DG fun K a=>?_|refine DF fun K a=>?_);go_big_quiet_op;refine a _ ?_;clear a K)
  refine DE fun K a=>?_;go_simp;rw[<-aB.o];refine a (db m) _ W5 (fun _ h=>h) PF.o (fun _=>?_);clear a K PF;refine rO ?_;clear br H XB M1 aB aA z0 zf
 all_goals
  generalize(if s.dv<s.dn then s.dn else s.dv)=mx at*;go_wp2;go_loopw [] (fun wr=>∃(j:Nat) (v:Int),jC s.id s.n j v=some az/\O<=v/\dq wr Q (k+20) z [.int .i64 v]/\di wr Q k x D u A s/\dq wr Q 0 U [de x]/\Fm (eh k) o Q w wr) (fun wr=>(az-jZ wr ⟨z,0,none⟩).toNat);case atStart=>exact⟨8,O,a4.o,Int.le_refl _,bg.o,H5.o,bk.o,M5.o⟩
  case round=>
   obtain⟨j,v,fv,ad,bC,nd,bF,mm⟩:=hrel
   have bu:=nB j v az fv
   have M:=hI bC
   have B:=hI nd
   have X:=hI bF
   have MM:=hI mm
   have ai:=hI ad
   have a6:=hI bu
   have FV:=hI fv
   clear bC nd bF mm fv bg H5 bk M5 ad bu
   have bo:jZ wr ⟨z,0,none⟩=v:=by
    unfold jZ;rw[M.o.box.c 0 _ rfl]
   have bH:=hI bo
   clear bo
   have b8:wrap64 (v+1)=v+1:=by have:=a6.o;have:=aa.o.1.1;have:=ai.o;have:=an.o;unfold wrap64;omega
   obtain⟨dd,bp⟩:∃dd,dd=dJ v s.n:=⟨_,rfl⟩
   have aJ:=hI bp
   clear bp
   go_upto_region 2 with fail
   obtain⟨WR,y⟩:∃WR,WR=wr.drew:=⟨_,rfl⟩
   have XR:Hid (db wr WR):=hI (by rw[y];exact db.drew wr)
   replace B:=hI (B.o.ext XR.o)
   replace M:=hI (M.o.ext XR.o)
   replace X:=hI (X.o.ext XR.o)
   have gb:=fun d E=>db.cell (db.reg WR d E) (X.o.box.c 0 _ rfl)
   have gv:=fun d E=>db.cell (db.reg WR d E) (M.o.box.c 0 _ rfl)
   have g1:=B.o.g 1 _ rfl
   have g0:=B.o.g 0 _ rfl
   refine eA [0,1,2,3,4,6,7,8,9,5,10] [] ?_
   rw[<-y]
   clear y
   repeat((first|refine dC fun K a=>?_|refine dB fun K a=>?_);go_big_quiet_op;refine a _ ?_;clear a K)
   refine eF fun K a=>?_
   go_simp
   refine(gn v s.n ⟨by have:=ai.o;have:=an.o;omega,by have:=a6.o;have:=aa.o.1.1;omega⟩ B.o.ok.n _).mono ?_
   rw[<-aJ.o]
   rintro e w7 ⟨rfl,rfl⟩
   refine a _ _ (db.rfl' _) ?_;clear a K
   repeat((first|refine dC fun K a=>?_|refine dB fun K a=>?_);go_big_quiet_op;refine a _ ?_;clear a K)
   refine dh ?_
   refine df ?_
   clear gb gv g1 g0
   have MR:=hI (MM.o.tr (Fm.ext MM.o.cl XR.o) (dw b.o))
   clear MM XR
   cases j with
   |zero=>exact absurd FV.o (by simp[jC])
   |succ j=>
   by_cases l:dd=s.id
   .have e1:(dd==s.id)=true:=by simpa using l
    have e2:v=az:=by have:=FV.o;unfold jC at this;rw[if_pos (by rw[<-aJ.o];exact l)]at this;exact Option.some.inj this
    subst e2;clear l;go_upto_region 4 with fail;obtain⟨W4,y⟩:∃W4,W4=WR.drew:=⟨_,rfl⟩;have X4:Hid (db WR W4):=hI (by rw[y];exact db.drew WR);replace B:=hI (B.o.ext X4.o);replace M:=hI (M.o.ext X4.o);replace X:=hI (X.o.ext X4.o);have gb:=fun d E=>db.cell (db.reg W4 d E) (X.o.box.c 0 _ rfl);have gv:=fun d E=>db.cell (db.reg W4 d E) (M.o.box.c 0 _ rfl);have g2:=B.o.g 2 _ rfl;refine eA [0,1,2,3,4] [5,6] ?_;rw[<-y];clear y;repeat((first|refine dC fun K a=>?_|refine dB fun K a=>?_);go_big_quiet_op;refine a _ ?_;clear a K)
    clear gb gv g2;refine dh ?_;refine iD fun K a=>?_;go_simp;have M4:=hI (MR.o.tr (Fm.ext MR.o.cl X4.o) (dw b.o));refine(kO M4.o.cl B.o.q.dk ⟨by have:=an.o;have:=ai.o;omega,by have:=aa.o.1.1;omega⟩).mono ?_;rintro e w6 ⟨rfl,bl,m6⟩;obtain⟨N6,F6⟩:=di.mod0 (A':=A) (s':={s with dv:=v}) b.o B.o m6 (fun d l=>by unfold one at l;unfold eh;omega) (B.o.q.set_dk b.o bl m6 (fun d l=> .inl l)) rfl {B.o.ok with dv:=⟨show 0<=v by have:=an.o;have:=ai.o;have:=B.o.ok.dv;omega,aa.o.1.1⟩};have H6:=hI N6;have V6:=hI (M.o.fr m6 (by have:=b.o;omega) (by unfold one;omega));have au:=hI (X.o.fr m6 (by decide) (by unfold one;omega));have M6:=hI (M4.o.tr F6 (dw b.o));clear bl m6 N6 F6 B M X M4 MR X4;refine a _ _ ?_;clear a K;refine iD fun K a=>?_;go_simp;refine a _ _ ?_;clear a K;refine df ?_;go_upto_region 5 with fail;obtain⟨W7,y⟩:∃W7,W7=w6.drew:=⟨_,rfl⟩;have X7:Hid (db w6 W7):=hI (by rw[y];exact db.drew w6);replace H6:=hI (H6.o.ext X7.o);replace V6:=hI (V6.o.ext X7.o);replace au:=hI (au.o.ext X7.o);have rb:=fun(qq:dN (CL [(⟨U,0,none⟩,de x),(⟨z,0,none⟩,.int .i64 v),(⟨x,1,none⟩,.int .i64 s.n)]))=>(qq.h.1:qq.w.cell? ⟨U,0,none⟩=some (de x));have rv:=fun(qq:dN (CL [(⟨U,0,none⟩,de x),(⟨z,0,none⟩,.int .i64 v),(⟨x,1,none⟩,.int .i64 s.n)]))=>(qq.h.2.1:qq.w.cell? ⟨z,0,none⟩=some (.int .i64 v));have r1:=fun(qq:dN (CL [(⟨U,0,none⟩,de x),(⟨z,0,none⟩,.int .i64 v),(⟨x,1,none⟩,.int .i64 s.n)]))=>(qq.h.2.2.1:qq.w.cell? ⟨x,1,none⟩=some (.int .i64 s.n));refine zx [0,1,2,3,4,5,6,7,8,9] (CL [(⟨U,0,none⟩,de x),(⟨z,0,none⟩,.int .i64 v),(⟨x,1,none⟩,.int .i64 s.n)]) (by rw[<-y];exact⟨au.o.box.c 0 _ rfl,V6.o.box.c 0 _ rfl,H6.o.c 1 _ rfl,trivial⟩) (fun _=>?_);rw[<-y];clear y;repeat((first|refine kv fun K a=>?_|refine kt fun K a=>?_);go_big_quiet_op;refine a _ ?_;clear a K)
    obtain⟨I,bt⟩:∃I,I=W7.heap.size:=⟨_,rfl⟩;have M7:=hI (M6.o.tr (Fm.ext M6.o.cl X7.o) (dw b.o));have VN:=Gi M7.o.cl (k+11) (fun _=>False) (vw:=v) (n:=s.n) ⟨by have:=an.o;have:=ai.o;omega,by have:=aa.o.1.1;omega⟩ H6.o.ok.n;rw[<-bt]at VN;have a5:=hI VN;clear VN bt;refine l7 fun K a=>?_;go_simp;refine a5.o.mono ?_;rintro e w8 ⟨o8,rfl,bE,m8⟩;have V:=hI (H6.o.fr b.o m8 (fun e=>e) (fun d e=>e.elim));have V8:=hI (V6.o.fr m8 (by have:=b.o;omega) (fun e=>e));have aS:=hI (au.o.fr m8 (by decide) (fun e=>e));have bi:=hI bE;have M8:=hI (M7.o.tr (m8.mono (fun d e=>e.elim)) (dw b.o));clear bE m8 a5;refine a (CL [(⟨U,0,none⟩,de x),(⟨z,0,none⟩,.int .i64 v),(⟨x,1,none⟩,.int .i64 s.n)]) _ _ (fun _ h=>h) ⟨aS.o.box.c 0 _ rfl,V8.o.box.c 0 _ rfl,V.o.c 1 _ rfl,trivial⟩ (fun _=>?_);clear a K;repeat((first|refine kv fun K a=>?_|refine kt fun K a=>?_);go_big_quiet_op;refine a _ ?_;clear a K)
    have bO:=V.o.c 17 _ rfl;have bQ:=V.o.box.box.f 17;have P9:=hI (Fm.put (C:=one k) M8.o.cl V.o.box (by have:=b.o;omega) rfl 17 (de I));obtain⟨N9,F9⟩:=di.mod (C:=fun _=>False) (A':={A with v:=some I}) (s':={s with dv:=v,v:=some (v,[])}) b.o V.o (Fm.refl M8.o.cl) (fun d e=>e.elim) (V.o.q.set_vt (C:=fun _=>False) b.o ⟨I,rfl,bi.o⟩ (Fm.refl M8.o.cl) (fun d e=>e.elim)) 17 (de I) rfl {V.o.ok with id:=V.o.ok.id};have r:=hI N9;have V9:=hI (V8.o.fr P9.o (by have:=b.o;omega) (by unfold one;omega));have ac:=hI (aS.o.fr P9.o (by decide) (by unfold one;have:=b.o;omega));have M9:=hI (M8.o.tr F9 (dw b.o));refine l7 fun K a=>?_;go_simp;refine a (fun W=>W=w8.setCell ⟨x,17,none⟩ (de I)) _ _ (fun W h=>by rw[h];exact⟨ac.o.box.c 0 _ rfl,V9.o.box.c 0 _ rfl,r.o.c 1 _ rfl,trivial⟩) rfl (fun _=>?_);clear a K bO bQ P9 N9 F9 V V8 aS bi M8 H6 V6 au M6 M7 X7 rb rv r1;refine gG ?_;generalize w8.setCell ⟨x,17,none⟩ (de I)=w9 at*;obtain⟨p,aF⟩:∃p:dp,p={s with dv:=v,v:=some (v,[])}:=⟨_,rfl⟩;obtain⟨Z,aU⟩:∃Z:iS,Z={A with v:=some I}:=⟨_,rfl⟩;rw[<-aF,<-aU]at r;have E9:Hid (p.id=s.id/\p.ls=s.ls/\p.L=s.L/\p.cm=s.cm/\p.n=s.n/\p.ck=s.ck/\p.v=some (v,[])):=hI (by rw[aF];exact⟨rfl,rfl,rfl,rfl,rfl,rfl,rfl⟩);have bK:=hI aF;have aP:Hid (Z.v=some I):=hI (by rw[aU]);clear aF aU;go_upto_region 6 with fail;obtain⟨ao,y⟩:∃ao,ao=w9.drew:=⟨_,rfl⟩;have ap:Hid (db w9 ao):=hI (by rw[y];exact db.drew w9);replace r:=hI (r.o.ext ap.o);replace V9:=hI (V9.o.ext ap.o);replace ac:=hI (ac.o.ext ap.o);have gb:=fun d E=>db.cell (db.reg ao d E) (ac.o.box.c 0 _ rfl);have bU:∀d E,(grow (redrawn ao d) E).cell? ⟨x,17,none⟩=some (de I):=by have:=r.o.g 17 _ rfl;rw[aP.o]at this;exact this
    have g0:=r.o.g 0 _ rfl;have bT:=r.o.g 11 _ rfl;have g9:=r.o.g 9 _ rfl;have bS:=r.o.g 10 _ rfl;refine eA [0,1,2,3,4,5,6,7,8,9,10,11,12,13,14,15,17,18,19,20,16,21] [22] ?_;rw[<-y];clear y;repeat((first|refine dC fun K a=>?_|refine dB fun K a=>?_);go_big_quiet_op;refine a _ ?_;clear a K)
    have aC:=hI (M9.o.tr (Fm.ext M9.o.cl ap.o) (dw b.o));refine eF fun K a=>?_;go_simp;refine(ik r.o.q.lg).mono ?_;rintro e bZ ⟨b9,b2,rfl,bA,am⟩;have bb:=hI (fJ.fresh bA aC.o.cl (Nat.le_refl _));have aK:=hI (aC.o.tr (Fm.ext aC.o.cl am) (dw b.o));replace r:=hI (r.o.ext am);replace V9:=hI (V9.o.ext am);replace ac:=hI (ac.o.ext am);refine a _ _ am ?_;clear a K bA am aC M9;repeat((first|refine dC fun K a=>?_|refine dB fun K a=>?_);go_big_quiet_op;refine a _ ?_;clear a K)
    refine eF fun K a=>?_;go_simp;refine a _ _ (db.rfl' _) ?_;clear a K;refine dh ?_;refine iD fun K a=>?_;go_simp
    have bh:Hid (sM bZ o8 (k+11) I v p.n []):=hI (by
     have h1:=r.o.q.vt;rw[E9.o.2.2.2.2.2.2,aP.o]at h1;obtain⟨g',bW,h2⟩:=h1;cases bW
     exact h2)
    have AD:Hid (fw [] p.L=some p.L):=hI (by
     rw[E9.o.2.2.1]
     obtain⟨R,hR⟩:=Option.isSome_iff_exists.1 aa.o.2.1
     have:=(iT _ _ _ hR).1
     rw[hR,this]
     rfl)
    have T0:Hid (dg (dr []) p.id=false):=hI (by simp[dr,dg]);refine(wJ (c:=k+11) (g:=I) (vw:=v) (n:=p.n) (vs:=[]) (fr:=p.id) (ls:=p.ls) (cm:=p.cm) (L:=p.L) aK.o.cl bh.o (by have:=b.o;omega) ⟨⟨r.o.ok.id.1,by have h1:=r.o.ok.id.2;have h2:=r.o.ok.n.2;omega⟩,r.o.ok.id.2⟩ T0.o ⟨r.o.ok.ls.1,by rw[E9.o.2.1];exact aa.o.1.2⟩ bb.o (fun e he=>iR (r.o.ok.L e he)) AD.o ⟨r.o.ok.cm.1,by rw[E9.o.2.2.2.1,E9.o.2.2.1];exact aa.o.2.2⟩ (ge.max r.o.q.lg) (by decide)).mono ?_;rintro e b0 ⟨aG,rfl,bD,ax⟩;obtain⟨a8,a0⟩:=di.mod0 (A':=Z) (s':={p with v:=some (v,[⟨p.id,p.ls,p.L,p.cm⟩])}) b.o r.o ax (fun d l=>by unfold two at l;unfold eh;omega) (r.o.q.set_vt b.o ⟨I,aP.o,bD⟩ ax (fun d l=>by unfold two at l;omega)) rfl {r.o.ok with id:=r.o.ok.id};have J:=hI a8;have bd:=hI (V9.o.fr ax (by have:=b.o;omega) (by unfold two;omega));have aQ:=hI (ac.o.fr ax (by decide) (by unfold two;have:=b.o;omega));have aD:=hI (aK.o.tr a0 (dw b.o));clear bD ax a8 a0 bh AD T0 bb r V9 ac aK gb bU g0 bT g9 bS ap;refine a _ _ ?_;clear a K;refine df ?_;go_upto_region 7 with fail;obtain⟨S,aW⟩:∃S:dp,S={p with v:=some (v,[⟨p.id,p.ls,p.L,p.cm⟩])}:=⟨_,rfl⟩;rw[<-aW]at J;have bI:=hI aW;clear aW;have aZ:=aQ.o.box.c 0 _ rfl;have c4:=J.o.c 4 _ rfl;have c5:=J.o.c 5 _ rfl;have f5:=J.o.box.box.f 5;have bP:=J.o.c 19 _ rfl;have bR:=J.o.box.box.f 19;have P5:=hI (Fm.put (C:=one k) aD.o.cl J.o.box (by have:=b.o;omega) rfl 5 (.int .i64 S.ck));obtain⟨a9,a2⟩:=di.mod (C:=fun _=>False) (A':=Z) (s':={S with hd:=S.ck}) b.o J.o (Fm.refl aD.o.cl) (fun d l=>l.elim) {J.o.q with dk:=J.o.q.dk} 5 (.int .i64 S.ck) rfl {J.o.ok with hd:=J.o.ok.ck};have ae:=hI a9;have aE:=hI (aD.o.tr a2 (dw b.o));have aO:=hI (Fm.put (C:=one k) aE.o.cl ae.o.box (by have:=b.o;omega) rfl 19 (.bool false));obtain⟨a',aH⟩:=di.mod (C:=fun _=>False) (A':=Z) (s':={S with hd:=S.ck,ag:=false}) b.o ae.o (Fm.refl aE.o.cl) (fun d l=>l.elim) {ae.o.q with dk:=ae.o.q.dk} 19 (.bool false) rfl {ae.o.ok with id:=ae.o.ok.id};have aT:¬one k 0:=by unfold one;have:=b.o;omega
    have af:=hI (a'.ext (db.drew _));have aL:=hI ((aE.o.tr aH (dw b.o)).tr (Fm.ext aH.cl (db.drew _)) (dw b.o));have be:=hI (((bd.o.fr P5.o (by have:=b.o;omega) (by unfold one;omega)).fr aO.o (by have:=b.o;omega) (by unfold one;omega)).ext (db.drew _));have aR:=hI (((aQ.o.fr P5.o (by decide) aT).fr aO.o (by decide) aT).ext (db.drew _));clear a9 a2 a' aH ae aE P5 aO aT;go_region;clear aZ c4 c5 f5 bP bR J aD bd aQ;generalize((b0.setCell ⟨x,5,none⟩ (.int .i64 S.ck)).setCell ⟨x,19,none⟩ (.bool false)).drew=ca at*;obtain⟨al,aX⟩:∃al:dp,al={S with hd:=S.ck,ag:=false}:=⟨_,rfl⟩;have bJ:=hI aX;rw[<-aX]at af;clear aX;have aZ:=aR.o.box.c 0 _ rfl;have bN:=af.o.c 16 _ rfl;go_wp2_with fail;refine(oO aL.o.cl af.o.q.pf (by have:=b.o;omega)).mono ?_;rintro e aY ⟨rfl,bB,ay⟩;obtain⟨ba,a3⟩:=di.mod0 (A':=Z) (s':={al with f:=qM al.f}) b.o af.o ay (fun d l=>by unfold two at l;unfold eh;omega) (af.o.q.set_pf b.o bB ay (fun d l=>by unfold two at l;omega)) rfl {af.o.ok with bc:=(show 0<=(0:Int)/\(0:Int)<=1000000 by decide)};have ah:=hI ba;have aj:=hI (be.o.fr ay (by have:=b.o;omega) (by unfold two;omega));have ar:=hI (aR.o.fr ay (by decide) (by unfold two;have:=b.o;omega));have aM:=hI (aL.o.tr a3 (dw b.o));clear bB ay ba a3 af aL be aR aZ bN;have bm:({al with f:=qM al.f}:dp)=pF s v:=by rw[bJ.o,bI.o,bK.o];rfl
    rw[bm]at ah;clear bm;go_upto_region 9 with fail;obtain⟨T,y⟩:∃T,T=aY.drew:=⟨_,rfl⟩;have aq:Hid (db aY T):=hI (by rw[y];exact db.drew aY);replace ah:=hI (ah.o.ext aq.o);replace aj:=hI (aj.o.ext aq.o);replace ar:=hI (ar.o.ext aq.o);have gb:=fun d E=>db.cell (db.reg T d E) (ar.o.box.c 0 _ rfl);have g1:∀d E,(grow (redrawn T d) E).cell? ⟨x,1,none⟩=some (.int .i64 s.n):=ah.o.g 1 _ rfl;refine eA [0,1,2,3,4,5,6,7] [8] ?_;rw[<-y];clear y;repeat((first|refine dC fun K a=>?_|refine dB fun K a=>?_);go_big_quiet_op;refine a _ ?_;clear a K)
    have aN:=hI (aM.o.tr (Fm.ext aM.o.cl aq.o) (dw b.o));have FR:Hid (Fm (one (k+20)) aG (gH aG z 0) T T):=hI ((Fm.refl aN.o.cl).free (by rw[aj.o.col];have:=b.o;omega) (by rw[aj.o.col];rfl));have aI:=hI (ah.o.fr b.o FR.o (by unfold one;omega) (fun d l=>by unfold one at l;unfold rD;omega));have bj:=hI (ar.o.fr FR.o (by decide) (by unfold one;omega));have bf:Hid (dq T (gH aG z 0) 0 z [.int .i64 v]):=hI ⟨et _ _ _,aj.o.box⟩;have a7:=hI (aN.o.tr (FR.o.mono (fun d l=>by unfold one at l;unfold eh;omega)) (dw b.o));have bs:s.n=3\/s.n=4\/s.n=5\/s.n=6\/s.n=7:=by have h1:3<=s.n/\s.n<=7:=aI.o.ok.n;omega
    have TT:Hid (gS (no s.n)):=hI (by rcases bs with h|h|h|h|h<;>(rw[h];exact⟨by decide,by decide⟩))
    have OT:Hid (∀t,t=no s.n->Calls Tryz.prog 136 #[de x,.int .i64 t,.func (.func 151) #[] #[de U,de z]] T fun e w'=>e=.returned (.tuple #[])/\∃o',(kj w' o' k x D u U s.id s.n s'/\dq w' o' 0 z [.int .i64 v])/\Fm (eh k) (gH aG z 0) o' T w'):=hI (fun t ht=>by
     subst ht
     exact uL (R:=fun s1 Y o1=>kj Y o1 k x D u U s.id s.n s1/\dq Y o1 0 z [.int .i64 v]) (F:=tP v) (C:=eh k) (dw b.o) TT.o (iw Tryz.func151 (by kernel_rfl) (by kernel_rfl)) (fun s1 Y o1 h=>h.1.cells) (fun s1 Y w2 o1 h e=>⟨h.1.ext e,h.2.ext e⟩) (fun s1 s2 Y o1 i hi b7 b6 b5 hR ak bV=>BX b.o ak hR.1 hR.2 bV) a7.o.cl ⟨⟨⟨Z,aI.o⟩,bj.o,rfl,rfl⟩,bf.o⟩ HS.o)
    clear FR ah ar aj aM aN aq aI bj bf;rcases bs with hn|hn|hn|hn|hn
    all_goals
     have HN:=hI hn;rw[hn]at g1⊢;clear hn;repeat((first|refine dC fun K a=>?_|refine dB fun K a=>?_);go_big_quiet_op;refine a _ ?_;clear a K)
     refine eF fun K a=>?_;go_simp;refine a _ _ (db.rfl' _) ?_;clear a K;refine dh ?_;refine iD fun K a=>?_;go_simp;refine(OT.o _ (by rw[HN.o];rfl)).mono ?_;rintro e cb ⟨rfl,bX,⟨bn,bx⟩,bw⟩;obtain⟨bG,bz⟩:=bn.nd;have bM:=hI bz;have bL:=hI (a7.o.tr bw (dw b.o));clear bn bx bw bz;refine a _ _ ?_;clear a K;refine df ?_;refine bodyPost_end (v:=.tuple #[]) (by simp[results,Tryz.results109,go_sem]) rfl ?_;exact⟨rfl,bX,bG,bM.o,bL.o⟩
   .have e1:(dd==s.id)=false:=by simpa using l
    have e2:jC s.id s.n j (v+1)=some az:=by have:=FV.o;unfold jC at this;rwa[if_neg (by rw[<-aJ.o];exact l)]at this
    have E2:=hI e2;clear l e2;have b':=M.o.box.c 0 _ rfl;have b3:=M.o.box.f 0;go_wp2;have P:=hI (Fm.put (C:=one (k+20)) MR.o.cl M.o (by have:=b.o;omega) rfl 0 (.int .i64 (v+1)));have VP:=hI (M.o.put 0 (.int .i64 (v+1)));go_roundw;case rel=>exact⟨j,v+1,E2.o,by have:=ai.o;omega,VP.o,B.o.fr b.o P.o (by unfold one;omega) (fun d l=>by unfold one at l;unfold rD;omega),X.o.fr P.o (by decide) (by unfold one;omega),MR.o.tr (P.o.mono (fun d l=>by unfold one at l;unfold eh;omega)) (dw b.o)⟩
    case measure=>have h1:=VP.o.box.c 0 _ rfl;have h2:=nB _ _ _ E2.o;have h4:=bH.o;unfold jZ at h4;simp only[jZ,h1];rw[h4];omega
end
end Go.Proofs.YtjhbmbbmjaabcaaGreat
