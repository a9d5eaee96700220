/-
  Contracts. Conditions stand at each.
-/
import Derived.Test.YtjhbmbbmjaabcaaGreatS19
set_option linter.all false
set_option maxRecDepth 8000
set_option maxHeartbeats 8000000
namespace Go.Proofs.YtjhbmbbmjaabcaaGreat
open Go Go.Sort Go.RowKit
section
def lF(s:dp):dp:={s with v:=none,mi:=false,f:=qM s.f}
def mZ(s:dp)(m:dz)(L:List dj):Option dp:=
 if rP s m L then
  if decide (s.dv<=m.vw)&&decide (s.ls<m.vw)then(if tW m L then pT (lF (mP s m L)) m.fr 0 else none)
  else if(m.vw==s.ls)&&(m.vw==s.dv)then pT {s with hd:=s.ck} m.fr 0
  else some s
 else none
variable{w u:World} {o N:Ow} {k x G D:Nat} {A A':iS} {s s':dp}
theorem yb(af:Cl w o)(hk:32<=k)(h:di w o k x G D A s){m:dz}{p:Option Addr}{cap:Nat}{L:List dj}(ak:fJ 7 w o p L.length cap (L.map dY))(hb:mZ s m L=some s'):
  Calls Tryz.prog 157 #[de x,mK m p L.length cap] w fun e w'=>e=.returned (.tuple #[])/\∃o' A',di w' o' k x G D A' s'/\Fm (eh k) o o' w w':=by
 unfold mZ at hb;split at hb;case isFalse=>cases hb
 rename_i hr;have HR:=hI hr;have U:=hI hb;clear hr hb;obtain⟨k1,k2,k3,k4,k5,k6,k7,k8,F,z,B,E⟩:=m;have A0:=db.alloc w (.cells (fE ⟨k1,k2,k3,k4,k5,k6,k7,k8,F,z,B,E⟩ p L.length cap) 76);have c:=dq.loose af (fE ⟨k1,k2,k3,k4,k5,k6,k7,k8,F,z,B,E⟩ p L.length cap) (gt ⟨k1,k2,k3,k4,k5,k6,k7,k8,F,z,B,E⟩ p L.length cap) 76 rfl;have H:=h.ext A0;have S:=ak.ext A0;have M1:=Fm.ext (C:=eh k) af A0;have b:=hI hk;clear af h ak hk;go_enter Tryz.func157,Tryz.ntmps157;go_upto_region 1 with fail;change Code.wp _ _ _ _ (w.alloc (.cells (fE ⟨k1,k2,k3,k4,k5,k6,k7,k8,F,z,B,E⟩ p L.length cap) 76));clear A0;generalize w.alloc (.cells (fE ⟨k1,k2,k3,k4,k5,k6,k7,k8,F,z,B,E⟩ p L.length cap) 76)=w1 at*;generalize w.heap.size=mb at*;obtain⟨d0,X,d2,d3,d4,d5,d6,d7,d8,d9,ac,ad,ae⟩:=i9 c;go_wp2_with fail;refine(yg M1.cl b.o H S HR.o).mono ?_;rintro e w2 ⟨rfl,x2⟩;replace H:=H.ext x2;replace S:=S.ext x2;replace c:=c.ext x2;have M:=M1.tr (Fm.ext M1.cl x2) (dw b.o);clear d0 X d2 d3 d4 d5 d6 d7 d8 d9 ac ad ae;clear x2 M1 HR;go_upto_region 2 with fail;by_cases W:s.dv<=k5
 case' neg=>
  have Q:=dF (s.dv<=k5) W
  have J:Hid ((if(k5==s.ls)&&(k5==s.dv)then pT {s with hd:=s.ck} k2 0 else some s)=some s'):=hI (by
   have:=U.o;simp only[Q,Bool.false_and,Bool.false_eq_true,if_false]at this
   exact this)
  clear U W;obtain⟨P,i,g⟩:=eS w2;replace H:=H.ext g;replace S:=S.ext g;replace c:=c.ext g;have t:=H.g 2 _ rfl;have r:=H.g 11 _ rfl;have y:=rg P (c.box.c 4 _ rfl);refine eA [0,1,2,3,4,5,6,7,8,9,10,11,12,13,14,15,16,17] [] ?_;rw[<-i];clear i;repeat((first|refine dC fun K a=>?_|refine dB fun K a=>?_);go_big_quiet_op;refine a _ ?_;clear a K)
  refine eF fun K a=>?_;go_simp;refine(ey H.q.dk).mono ?_;rintro e u ⟨rfl,rfl⟩;refine a _ _ (db.rfl' _) ?_;clear a K;repeat((first|refine dC fun K a=>?_|refine dB fun K a=>?_);go_big_quiet_op;refine a _ ?_;clear a K)
  refine dh ?_;refine df ?_;have l:=M.tr (Fm.ext M.cl g) (dw b.o);clear M g t r y;clear Q
 case' pos=>
  by_cases hc:s.ls<k5
  case pos=>
   have Q:=dT (s.dv<=k5) W;have Y:=dT (s.ls<k5) hc
   have J:Hid ((if tW ⟨k1,k2,k3,k4,k5,k6,k7,k8,F,z,B,E⟩ L then pT (lF (mP s ⟨k1,k2,k3,k4,k5,k6,k7,k8,F,z,B,E⟩ L)) k2 0 else none)=some s'):=hI (by
    have:=U.o;simp only[Q,Y,Bool.and_true,if_true]at this
    exact this)
   clear U W hc;obtain⟨P,i,g⟩:=eS w2;replace H:=H.ext g;replace S:=S.ext g;replace c:=c.ext g;have t:=H.g 2 _ rfl;have r:=H.g 11 _ rfl;have y:=rg P (c.box.c 4 _ rfl);refine eA [0,1,2,3,4,5,6,7,8,9,10,11,12,13,14,15,16,17] [] ?_;rw[<-i];clear i;repeat((first|refine dC fun K a=>?_|refine dB fun K a=>?_);go_big_quiet_op;refine a _ ?_;clear a K)
   refine eF fun K a=>?_;go_simp;refine(ey H.q.dk).mono ?_;rintro e u ⟨rfl,rfl⟩;refine a _ _ (db.rfl' _) ?_;clear a K;repeat((first|refine dC fun K a=>?_|refine dB fun K a=>?_);go_big_quiet_op;refine a _ ?_;clear a K)
   refine dh ?_;refine df ?_;have l:=M.tr (Fm.ext M.cl g) (dw b.o);clear M g t r y
   have ab:Hid (tW ⟨k1,k2,k3,k4,k5,k6,k7,k8,F,z,B,E⟩ L=true):=hI (by
    have:=J.o;split at this;·assumption
    .cases this)
   have aa:Hid (pT (lF (mP s ⟨k1,k2,k3,k4,k5,k6,k7,k8,F,z,B,E⟩ L)) k2 0=some s'):=hI (by
    have:=J.o;rw[ab.o]at this
    exact this)
   clear J Q Y;obtain⟨d0,X,d2,d3,d4,d5,d6,d7,d8,d9,ac,ad,ae⟩:=i9 c;go_wp2_with fail;refine(yj l.cl b.o H S ab.o).mono ?_;rintro e u ⟨rfl,N,A4,n4,m4⟩;have I:=n4;have M4:=l.tr m4 (dw b.o);have ag:=c.fr m4 (by decide) (dw b.o);clear d0 X d2 d3 d4 d5 d6 d7 d8 d9 ac ad ae;clear n4 m4 H S c l;obtain⟨s4,aj⟩:∃s4,s4=mP s ⟨k1,k2,k3,k4,k5,k6,k7,k8,F,z,B,E⟩ L:=⟨_,rfl⟩;rw[<-aj]at I aa;clear aj ab;have ap:=I.c 17 _ rfl;have aq:=I.c 20 _ rfl;have fx:=I.box.box.f;obtain⟨N5,F5⟩:=di.mod (C:=fun _=>False) (A':={A4 with v:=none}) (s':={s4 with v:=none}) b.o I (Fm.refl M4.cl) (fun d j=>j.elim) (I.q.set_vt (C:=fun _=>False) b.o (show yZ _ _ _ none _ none from rfl) (Fm.refl M4.cl) (fun d j=>j.elim)) 17 (.pointer none) rfl {I.ok with id:=I.ok.id};have T:=N5;have M5:=M4.tr F5 (dw b.o);have ah:=ag.fr F5 (by decide) (dw b.o);obtain⟨N6,F6⟩:=di.mod (C:=fun _=>False) (A':={A4 with v:=none}) (s':={s4 with v:=none,mi:=false}) b.o T (Fm.refl M5.cl) (fun d j=>j.elim) {T.q with dk:=T.q.dk} 20 (.bool false) rfl {T.ok with id:=T.ok.id};have R:=N6;have M6:=M5.tr F6 (dw b.o);have ai:=ah.fr F6 (by decide) (dw b.o);go_upto_region 5 with fail;clear N5 F5 N6 F6 I T M4 M5 ag ah ap aq fx;generalize(u.setCell ⟨x,17,none⟩ (.pointer none)).setCell ⟨x,20,none⟩ (.bool false)=w6 at*;have ao:=R.c 16 _ rfl;go_wp2_with fail;refine(oO M6.cl R.q.pf (by have:=b.o;omega)).mono ?_;rintro e w7 ⟨rfl,al,m7⟩;obtain⟨N7,F7⟩:=di.mod0 (A':={A4 with v:=none}) (s':=lF s4) b.o R m7 (fun d j=>by unfold two at j;unfold eh;omega) (R.q.set_pf b.o al m7 (fun d j=>by unfold two at j;omega)) rfl {R.ok with f:=(by have h:=R.ok.f;exact h),bc:=(by show 0<=(0:Int)/\(0:Int)<=1000000;omega)};have NN:=N7;have q:=M6.tr F7 (dw b.o);have am:=ai.fr F7 (by decide) (dw b.o);have X:=am.box.c 1 _ rfl;clear N7 F7 al m7 R M6 ai ao;go_wp2_with fail;refine(rC q.cl b.o NN aa.o).mono ?_;rintro e w9 ⟨rfl,o9,A9,n9,Z⟩;have O:=n9;have F9:=q.tr Z (dw b.o);clear n9 Z;go_wp2;refine bodyPost_end (v:=.tuple #[]) (by simp[results,Tryz.results157,go_sem]) rfl ?_;exact⟨rfl,o9,A9,O,F9⟩
  have Q:=dT (s.dv<=k5) W;have Y:=dF (s.ls<k5) hc
  have J:Hid ((if(k5==s.ls)&&(k5==s.dv)then pT {s with hd:=s.ck} k2 0 else some s)=some s'):=hI (by
   have:=U.o;simp only[Q,Y,Bool.and_false,Bool.false_eq_true,if_false]at this
   exact this)
  clear U W hc;obtain⟨P,i,g⟩:=eS w2;replace H:=H.ext g;replace S:=S.ext g;replace c:=c.ext g;have t:=H.g 2 _ rfl;have r:=H.g 11 _ rfl;have y:=rg P (c.box.c 4 _ rfl);refine eA [0,1,2,3,4,5,6,7,8,9,10,11,12,13,14,15,16,17] [] ?_;rw[<-i];clear i;repeat((first|refine dC fun K a=>?_|refine dB fun K a=>?_);go_big_quiet_op;refine a _ ?_;clear a K)
  refine eF fun K a=>?_;go_simp;refine(ey H.q.dk).mono ?_;rintro e u ⟨rfl,rfl⟩;refine a _ _ (db.rfl' _) ?_;clear a K;repeat((first|refine dC fun K a=>?_|refine dB fun K a=>?_);go_big_quiet_op;refine a _ ?_;clear a K)
  refine dh ?_;refine df ?_;have l:=M.tr (Fm.ext M.cl g) (dw b.o);clear M g t r y;clear Q Y
 all_goals
  go_upto_region 7 with fail;by_cases hp:k5=s.ls
  .have e4:(k5==s.ls)=true:=by simpa using hp
   by_cases hq:k5=s.dv
   .have e5:(k5==s.dv)=true:=by simpa using hq
    clear hp hq;obtain⟨V,i,n⟩:=eS P;replace H:=H.ext n;replace c:=c.ext n;have t:=H.g 2 _ rfl;have r:=H.g 11 _ rfl;have y:=rg V (c.box.c 4 _ rfl);refine eA [0,1,2,3,4,5,6,7,8,9,10,11,12,13,14,15,16,17] [] ?_;rw[<-i];clear i;repeat((first|refine dC fun K a=>?_|refine dB fun K a=>?_);go_big_quiet_op;refine a _ ?_;clear a K)
    refine eF fun K a=>?_;go_simp;refine(ey H.q.dk).mono ?_;rintro e w6 ⟨rfl,rfl⟩;refine a _ _ (db.rfl' _) ?_;clear a K;repeat((first|refine dC fun K a=>?_|refine dB fun K a=>?_);go_big_quiet_op;refine a _ ?_;clear a K)
    refine dh ?_;refine df ?_;have q:=l.tr (Fm.ext l.cl n) (dw b.o);clear l n t r y
    have aa:Hid (pT {s with hd:=s.ck} k2 0=some s'):=hI (by
     have:=J.o;simp only[e4,e5,Bool.and_true,if_true]at this
     exact this)
    clear J;have c4:=H.c 4 _ rfl;have c5:=H.c 5 _ rfl;have fx:=H.box.box.f;obtain⟨N8,F8⟩:=di.mod (C:=fun _=>False) (A':=A) (s':={s with hd:=s.ck}) b.o H (Fm.refl q.cl) (fun d j=>j.elim) {H.q with dk:=H.q.dk} 5 (.int .i64 s.ck) rfl {H.ok with hd:=H.ok.ck};have NN:=N8;have an:=c.fr F8 (by decide) (dw b.o);replace q:=q.tr F8 (dw b.o);go_upto_region 9 with fail;clear N8 F8 c4 c5 fx H c;generalize V.setCell ⟨x,5,none⟩ (.int .i64 s.ck)=w8 at*;have X:=an.box.c 1 _ rfl;go_wp2_with fail;refine(rC q.cl b.o NN aa.o).mono ?_;rintro e w9 ⟨rfl,o9,A9,n9,Z⟩;have O:=n9;have F9:=q.tr Z (dw b.o);clear n9 Z;go_wp2;refine bodyPost_end (v:=.tuple #[]) (by simp[results,Tryz.results157,go_sem]) rfl ?_;exact⟨rfl,o9,A9,O,F9⟩
   .have e5:(k5==s.dv)=false:=by simpa using hq
    clear hp hq;obtain⟨V,i,n⟩:=eS P;replace H:=H.ext n;replace c:=c.ext n;have t:=H.g 2 _ rfl;have r:=H.g 11 _ rfl;have y:=rg V (c.box.c 4 _ rfl);refine eA [0,1,2,3,4,5,6,7,8,9,10,11,12,13,14,15,16,17] [] ?_;rw[<-i];clear i;repeat((first|refine dC fun K a=>?_|refine dB fun K a=>?_);go_big_quiet_op;refine a _ ?_;clear a K)
    refine eF fun K a=>?_;go_simp;refine(ey H.q.dk).mono ?_;rintro e w6 ⟨rfl,rfl⟩;refine a _ _ (db.rfl' _) ?_;clear a K;repeat((first|refine dC fun K a=>?_|refine dB fun K a=>?_);go_big_quiet_op;refine a _ ?_;clear a K)
    refine dh ?_;refine df ?_;have q:=l.tr (Fm.ext l.cl n) (dw b.o);clear l n t r y;have iK:s=s':=by have:=J.o;simp only[e5,Bool.and_false,Bool.false_eq_true,if_false]at this;exact Option.some.inj this
    have O:=H;rw[iK]at O;clear iK;go_wp2;refine bodyPost_end (v:=.tuple #[]) (by simp[results,Tryz.results157,go_sem]) rfl ?_;exact⟨rfl,_,_,O,q⟩
  .have e4:(k5==s.ls)=false:=by simpa using hp
   clear hp;obtain⟨V,i,n⟩:=eS P;replace H:=H.ext n;replace c:=c.ext n;have t:=H.g 2 _ rfl;have r:=H.g 11 _ rfl;have y:=rg V (c.box.c 4 _ rfl);refine eA [0,1,2,3,4,5,6,7,8,9,10,11,12,13,14,15,16,17] [] ?_;rw[<-i];clear i;repeat((first|refine dC fun K a=>?_|refine dB fun K a=>?_);go_big_quiet_op;refine a _ ?_;clear a K)
   refine dh ?_;refine df ?_;have q:=l.tr (Fm.ext l.cl n) (dw b.o);clear l n t r y;have iK:s=s':=by have:=J.o;simp only[e4,Bool.false_and,Bool.false_eq_true,if_false]at this;exact Option.some.inj this
   have O:=H;rw[iK]at O;clear iK;go_wp2;refine bodyPost_end (v:=.tuple #[]) (by simp[results,Tryz.results157,go_sem]) rfl ?_;exact⟨rfl,_,_,O,q⟩
end
section
def kE(s:dp)(m:dz):dz:=⟨3,0,m.fr,0,m.vw,s.ls,0,0,s.cm,0,0,false⟩
def gP(s:dp)(m:dz):dz:=⟨2,0,m.fr,0,s.dv,0,0,0,0,0,0,false⟩
def pA(s:dp)(m:dz):dp:={s with dv:=m.vw,v:=none,ag:=false,hd:=s.ck,f:=qM s.f}
def ng(s:dp)(m:dz):Option dp:=
 if decide (1<=m.vw/\m.vw<=1000000000)then
  if m.fr==dJ m.vw s.n then
   if decide (s.dv<m.vw)then gu (pA s m) (kE s m) s.L
   else if decide (m.vw<s.dv)||decide (m.vw<=s.ls)then gu s (gP s m) []
   else gu s (kE s m) s.L
  else some s
 else none
variable{w N:World} {o G:Ow} {k x D u:Nat} {A A':iS} {s s':dp}
theorem yf(aj:Cl w o)(hk:32<=k)(h:di w o k x D u A s){m:dz}{p:Option Addr}{cap:Nat}{L:List dj}(aq:fJ 7 w o p L.length cap (L.map dY))(hb:ng s m=some s'):
  Calls Tryz.prog 156 #[de x,mK m p L.length cap] w fun e w'=>e=.returned (.tuple #[])/\∃o' A',di w' o' k x D u A' s'/\Fm (eh k) o o' w w':=by
 unfold ng at hb;split at hb;case isFalse=>cases hb
 rename_i hr;have V:=hI (of_decide_eq_true hr);have HB:=hI hb;clear hr hb;obtain⟨k1,k2,k3,k4,k5,k6,k7,k8,n,i,j,l⟩:=m;simp only at V HB;have A0:=db.alloc w (.cells (fE ⟨k1,k2,k3,k4,k5,k6,k7,k8,n,i,j,l⟩ p L.length cap) 76);have c:=dq.loose aj (fE ⟨k1,k2,k3,k4,k5,k6,k7,k8,n,i,j,l⟩ p L.length cap) (gt ⟨k1,k2,k3,k4,k5,k6,k7,k8,n,i,j,l⟩ p L.length cap) 76 rfl;have H:=h.ext A0;have S:=aq.ext A0;have M1:=Fm.ext (C:=eh k) aj A0;have b:=hI hk;clear aj h aq hk;go_enter Tryz.func156,Tryz.ntmps156;go_upto_region 1 with fail;change Code.wp _ _ _ _ (w.alloc (.cells (fE ⟨k1,k2,k3,k4,k5,k6,k7,k8,n,i,j,l⟩ p L.length cap) 76));clear A0;generalize w.alloc (.cells (fE ⟨k1,k2,k3,k4,k5,k6,k7,k8,n,i,j,l⟩ p L.length cap) 76)=w1 at*;generalize w.heap.size=mb at*;have c2:=H.c 2 _ rfl;go_wp2_with fail;refine(ey H.q.dk).mono ?_;rintro e w2 ⟨rfl,rfl⟩;clear c2;go_upto_region 2 with fail;by_cases hf:k2=dJ k5 s.n
 .have e1:(k2 !=dJ k5 s.n)=false:=by simpa using hf
  have R:Hid ((if decide (s.dv<k5)then gu (pA s ⟨k1,k2,k3,k4,k5,k6,k7,k8,n,i,j,l⟩) (kE s ⟨k1,k2,k3,k4,k5,k6,k7,k8,n,i,j,l⟩) s.L else if decide (k5<s.dv)||decide (k5<=s.ls)then gu s (gP s ⟨k1,k2,k3,k4,k5,k6,k7,k8,n,i,j,l⟩) []else gu s (kE s ⟨k1,k2,k3,k4,k5,k6,k7,k8,n,i,j,l⟩) s.L)=some s'):=hI (by
   have:=HB.o;simp only[show(k2==dJ k5 s.n)=true by simpa using hf,if_true]at this
   exact this)
  clear HB hf;obtain⟨M,f,z⟩:=eS w1;replace H:=H.ext z;replace S:=S.ext z;replace c:=c.ext z;have g1:=H.g 1 _ rfl;have ai:=rg M (c.box.c 1 _ rfl);have E:=rg M (c.box.c 4 _ rfl);refine eA [0,1,2,3,4,5,6,7,8,9,10] [] ?_;rw[<-f];clear f;repeat((first|refine dC fun K a=>?_|refine dB fun K a=>?_);go_big_quiet_op;refine a _ ?_;clear a K)
  refine eF fun K a=>?_;go_simp;refine(gn k5 s.n ⟨V.o.1,by have:=V.o.2;omega⟩ H.ok.n _).mono ?_;rintro e w3 ⟨rfl,rfl⟩;refine a _ _ (db.rfl' _) ?_;clear a K;repeat((first|refine dC fun K a=>?_|refine dB fun K a=>?_);go_big_quiet_op;refine a _ ?_;clear a K)
  refine dh ?_;refine df ?_;have g:=M1.tr (Fm.ext M1.cl z) (dw b.o);clear M1 z;go_upto_region 3 with fail;have d4:=c.box.c 4 _ rfl;by_cases ab:s.dv<k5
  .have e2:=dT (s.dv<k5) ab
   have U:Hid (gu (pA s ⟨k1,k2,k3,k4,k5,k6,k7,k8,n,i,j,l⟩) (kE s ⟨k1,k2,k3,k4,k5,k6,k7,k8,n,i,j,l⟩) s.L=some s'):=hI (by
    have:=R.o;simp only[e2,if_true]at this
    exact this)
   have au:=hI ab;clear R ab;go_upto_region 4 with fail;clear d4;obtain⟨W4,f,X4⟩:=eS M;replace H:=H.ext X4;replace S:=S.ext X4;replace c:=c.ext X4;have g2:=H.g 2 _ rfl;have E:=rg W4 (c.box.c 4 _ rfl);refine eA [0,1,2,3,4,5] [6,7] ?_;rw[<-f];clear f;repeat((first|refine dC fun K a=>?_|refine dB fun K a=>?_);go_big_quiet_op;refine a _ ?_;clear a K)
   refine dh ?_;refine iD fun K a=>?_;go_simp;refine(kO (g.cl.ext X4) H.q.dk ⟨au.o,by have:=V.o.2;omega⟩).mono ?_;rintro e w5 ⟨rfl,ap,m5⟩;obtain⟨N5,F5⟩:=di.mod0 (A':=A) (s':={s with dv:=k5}) b.o H m5 (fun d r=>by unfold one at r;unfold eh;omega) (H.q.set_dk b.o ap m5 (fun d r=> .inl r)) rfl {H.ok with dv:=(by have:=V.o;show 0<=k5/\k5<=1000000000;omega)};have I:=N5;have al:=c.fr F5 (by decide) (dw b.o);have M5:=(g.tr (Fm.ext g.cl X4) (dw b.o)).tr F5 (dw b.o);clear N5 F5 ap m5 H S c g X4 g2 E;refine a _ _ ?_;clear a K;refine iD fun K a=>?_;go_simp;refine a _ _ ?_;clear a K;refine df ?_;have c4:=I.c 4 _ rfl;have ax:=I.c 17 _ rfl;have ay:=I.c 19 _ rfl;have c5:=I.c 5 _ rfl;have fx:=I.box.box.f;obtain⟨N6,F6⟩:=di.mod (C:=fun _=>False) (A':={A with v:=none}) (s':={s with dv:=k5,v:=none}) b.o I (Fm.refl M5.cl) (fun d r=>r.elim) (I.q.set_vt (C:=fun _=>False) b.o (show yZ _ _ _ none _ none from rfl) (Fm.refl M5.cl) (fun d r=>r.elim)) 17 (.pointer none) rfl {I.ok with id:=I.ok.id};have Z:=N6;have M6:=M5.tr F6 (dw b.o);have am:=al.fr F6 (by decide) (dw b.o);obtain⟨N7,F7⟩:=di.mod (C:=fun _=>False) (A':={A with v:=none}) (s':={s with dv:=k5,v:=none,ag:=false}) b.o Z (Fm.refl M6.cl) (fun d r=>r.elim) {Z.q with dk:=Z.q.dk} 19 (.bool false) rfl {Z.ok with id:=Z.ok.id};have H7:=N7;have t:=M6.tr F7 (dw b.o);have an:=am.fr F7 (by decide) (dw b.o);obtain⟨N8,F8⟩:=di.mod (C:=fun _=>False) (A':={A with v:=none}) (s':={s with dv:=k5,v:=none,ag:=false,hd:=s.ck}) b.o H7 (Fm.refl t.cl) (fun d r=>r.elim) {H7.q with dk:=H7.q.dk} 5 (.int .i64 s.ck) rfl {H7.ok with hd:=H7.ok.ck};have H8:=N8;have M8:=t.tr F8 (dw b.o);have ao:=an.fr F8 (by decide) (dw b.o);clear N6 F6 N7 F7 N8 F8;go_upto_region 6 with fail;clear I Z H7 M5 M6 t al am an c4 ax ay c5 fx;generalize((w5.setCell ⟨x,17,none⟩ (.pointer none)).setCell ⟨x,19,none⟩ (.bool false)).setCell ⟨x,5,none⟩ (.int .i64 s.ck)=w8 at*;have aw:=H8.c 16 _ rfl;go_wp2_with fail;refine(oO M8.cl H8.q.pf (by have:=b.o;omega)).mono ?_;rintro e w9 ⟨rfl,ar,m9⟩;obtain⟨J,y⟩:=di.mod0 (A':={A with v:=none}) (s':=pA s ⟨k1,k2,k3,k4,k5,k6,k7,k8,n,i,j,l⟩) b.o H8 m9 (fun d r=>by unfold two at r;unfold eh;omega) (H8.q.set_pf b.o ar m9 (fun d r=>by unfold two at r;omega)) rfl {H8.ok with bc:=(by show 0<=(0:Int)/\(0:Int)<=1000000;omega)};replace H:=J;replace c:=ao.fr y (by decide) (dw b.o);replace g:=M8.tr y (dw b.o);clear J y ar m9 H8 M8 ao aw;go_upto_region 9 with fail;obtain⟨O,f,P⟩:=eS w9;replace H:=H.ext P;replace c:=c.ext P;have W:∀d Y,(grow (redrawn O d) Y).cell? ⟨x,11,none⟩=some (.int .i64 s.ls):=H.g 11 _ rfl;have g9:=H.g 9 _ rfl;have az:∀d Y,(grow (redrawn O d) Y).cell? ⟨x,10,none⟩=some (.int .i64 s.cm):=H.g 10 _ rfl;have ai:=rg O (c.box.c 1 _ rfl);have E:=rg O (c.box.c 4 _ rfl);refine eA [0,1,2,3,4,5,6,7,8,9,10,11,12,14,15,16,17,13,18] [19] ?_;rw[<-f];clear f;repeat((first|refine dC fun K a=>?_|refine dB fun K a=>?_);go_big_quiet_op;refine a _ ?_;clear a K)
   refine eF fun K a=>?_;go_simp;refine(ik (L:=s.L) H.q.lg).mono ?_;rintro e aB ⟨aA,av,rfl,ac,Q⟩;have ah:=fJ.fresh ac (g.cl.ext P) (Nat.le_refl _);have aa:=P.tr Q;have af:=H.ext Q;refine a _ _ Q ?_;clear a K ac Q;repeat((first|refine dC fun K a=>?_|refine dB fun K a=>?_);go_big_quiet_op;refine a _ ?_;clear a K)
   refine eF fun K a=>?_;go_simp;refine a _ _ (db.rfl' _) ?_;clear a K;refine dh ?_;refine iD fun K a=>?_;go_simp;refine(gj (m:=kE s ⟨k1,k2,k3,k4,k5,k6,k7,k8,n,i,j,l⟩) (g.cl.ext aa) b.o af ah U.o).mono ?_;rintro e ak ⟨rfl,X,T,F,B⟩;have J:=F;have y:=(g.tr (Fm.ext g.cl aa) (dw b.o)).tr B (dw b.o);clear F B;refine a _ _ ?_;clear a K;refine df ?_;refine bodyPost_end (v:=.tuple #[]) (by simp[results,Tryz.results156,go_sem]) rfl ?_;exact⟨rfl,X,T,J,y⟩
  .have e2:=dF (s.dv<k5) ab;clear ab;go_upto_region 7 with fail;clear d4;by_cases ad:k5<s.dv
   .have e3:=dT (k5<s.dv) ad
    have U:Hid (gu s (gP s ⟨k1,k2,k3,k4,k5,k6,k7,k8,n,i,j,l⟩) []=some s'):=hI (by
     have:=R.o;simp only[e2,e3,Bool.true_or,Bool.false_eq_true,if_false,if_true]at this
     exact this)
    clear R ad;obtain⟨W7,f,q⟩:=eS M;replace H:=H.ext q;replace S:=S.ext q;replace c:=c.ext q;have W:=H.g 11 _ rfl;have E:=rg W7 (c.box.c 4 _ rfl);refine eA [0,1,2,3,4,5,6,7,8,9,10,11,12,13] [] ?_;rw[<-f];clear f;repeat((first|refine dC fun K a=>?_|refine dB fun K a=>?_);go_big_quiet_op;refine a _ ?_;clear a K)
    refine dh ?_;refine df ?_;have t:=g.tr (Fm.ext g.cl q) (dw b.o);clear g q W E;have d1:=c.box.c 1 _ rfl;go_wp2_with fail;refine(gj (m:=gP s ⟨k1,k2,k3,k4,k5,k6,k7,k8,n,i,j,l⟩) t.cl b.o H (L:=[]) (fJ.empty 7 _ _) U.o).mono ?_;rintro e ak ⟨rfl,X,T,F,B⟩;have J:=F;have y:=t.tr B (dw b.o);clear F B;go_wp2;refine bodyPost_ret (v:=.tuple #[]) (by simp[results,Tryz.results156,go_sem]) rfl ?_;exact⟨rfl,X,T,J,y⟩
   .have e3:=dF (k5<s.dv) ad;clear ad;by_cases ae:k5<=s.ls
    .have e4:=dT (k5<=s.ls) ae
     have U:Hid (gu s (gP s ⟨k1,k2,k3,k4,k5,k6,k7,k8,n,i,j,l⟩) []=some s'):=hI (by
      have:=R.o;simp only[e2,e3,e4,Bool.false_or,Bool.false_eq_true,if_false,if_true]at this
      exact this)
     clear R ae;obtain⟨W7,f,q⟩:=eS M;replace H:=H.ext q;replace S:=S.ext q;replace c:=c.ext q;have W:=H.g 11 _ rfl;have E:=rg W7 (c.box.c 4 _ rfl);refine eA [0,1,2,3,4,5,6,7,8,9,10,11,12,13] [] ?_;rw[<-f];clear f;repeat((first|refine dC fun K a=>?_|refine dB fun K a=>?_);go_big_quiet_op;refine a _ ?_;clear a K)
     refine dh ?_;refine df ?_;have t:=g.tr (Fm.ext g.cl q) (dw b.o);clear g q W E;have d1:=c.box.c 1 _ rfl;go_wp2_with fail;refine(gj (m:=gP s ⟨k1,k2,k3,k4,k5,k6,k7,k8,n,i,j,l⟩) t.cl b.o H (L:=[]) (fJ.empty 7 _ _) U.o).mono ?_;rintro e ak ⟨rfl,X,T,F,B⟩;have J:=F;have y:=t.tr B (dw b.o);clear F B;go_wp2;refine bodyPost_ret (v:=.tuple #[]) (by simp[results,Tryz.results156,go_sem]) rfl ?_;exact⟨rfl,X,T,J,y⟩
    .have e4:=dF (k5<=s.ls) ae
     have U:Hid (gu s (kE s ⟨k1,k2,k3,k4,k5,k6,k7,k8,n,i,j,l⟩) s.L=some s'):=hI (by
      have:=R.o;simp only[e2,e3,e4,Bool.false_or,Bool.false_eq_true,if_false]at this
      exact this)
     clear R ae;obtain⟨W7,f,q⟩:=eS M;replace H:=H.ext q;replace S:=S.ext q;replace c:=c.ext q;have W:=H.g 11 _ rfl;have E:=rg W7 (c.box.c 4 _ rfl);refine eA [0,1,2,3,4,5,6,7,8,9,10,11,12,13] [] ?_;rw[<-f];clear f;repeat((first|refine dC fun K a=>?_|refine dB fun K a=>?_);go_big_quiet_op;refine a _ ?_;clear a K)
     refine dh ?_;refine df ?_;have t:=g.tr (Fm.ext g.cl q) (dw b.o);clear g q W E;go_upto_region 9 with fail;obtain⟨O,f,P⟩:=eS W7;replace H:=H.ext P;replace c:=c.ext P;have W:∀d Y,(grow (redrawn O d) Y).cell? ⟨x,11,none⟩=some (.int .i64 s.ls):=H.g 11 _ rfl;have g9:=H.g 9 _ rfl;have az:∀d Y,(grow (redrawn O d) Y).cell? ⟨x,10,none⟩=some (.int .i64 s.cm):=H.g 10 _ rfl;have ai:=rg O (c.box.c 1 _ rfl);have E:=rg O (c.box.c 4 _ rfl);refine eA [0,1,2,3,4,5,6,7,8,9,10,11,12,14,15,16,17,13,18] [19] ?_;rw[<-f];clear f;repeat((first|refine dC fun K a=>?_|refine dB fun K a=>?_);go_big_quiet_op;refine a _ ?_;clear a K)
     refine eF fun K a=>?_;go_simp;refine(ik (L:=s.L) H.q.lg).mono ?_;rintro e aB ⟨aA,av,rfl,ac,Q⟩;have ah:=fJ.fresh ac (t.cl.ext P) (Nat.le_refl _);have aa:=P.tr Q;have af:=H.ext Q;refine a _ _ Q ?_;clear a K ac Q;repeat((first|refine dC fun K a=>?_|refine dB fun K a=>?_);go_big_quiet_op;refine a _ ?_;clear a K)
     refine eF fun K a=>?_;go_simp;refine a _ _ (db.rfl' _) ?_;clear a K;refine dh ?_;refine iD fun K a=>?_;go_simp;refine(gj (m:=kE s ⟨k1,k2,k3,k4,k5,k6,k7,k8,n,i,j,l⟩) (t.cl.ext aa) b.o af ah U.o).mono ?_;rintro e ak ⟨rfl,X,T,F,B⟩;have J:=F;have y:=(t.tr (Fm.ext t.cl aa) (dw b.o)).tr B (dw b.o);clear F B;refine a _ _ ?_;clear a K;refine df ?_;refine bodyPost_end (v:=.tuple #[]) (by simp[results,Tryz.results156,go_sem]) rfl ?_;exact⟨rfl,X,T,J,y⟩
 .have e1:(k2 !=dJ k5 s.n)=true:=by simpa using hf
  have iK:s=s':=by have:=HB.o;simp only[show(k2==dJ k5 s.n)=false by simpa using hf,Bool.false_eq_true,if_false]at this;exact Option.some.inj this
  have H9:=H;rw[iK]at H9;clear HB hf iK;obtain⟨M,f,z⟩:=eS w1;replace H:=H.ext z;replace S:=S.ext z;replace c:=c.ext z;have g1:=H.g 1 _ rfl;have ai:=rg M (c.box.c 1 _ rfl);have E:=rg M (c.box.c 4 _ rfl);refine eA [0,1,2,3,4,5,6,7,8,9,10] [] ?_;rw[<-f];clear f;repeat((first|refine dC fun K a=>?_|refine dB fun K a=>?_);go_big_quiet_op;refine a _ ?_;clear a K)
  refine eF fun K a=>?_;go_simp;refine(gn k5 s.n ⟨V.o.1,by have:=V.o.2;omega⟩ H.ok.n _).mono ?_;rintro e w3 ⟨rfl,rfl⟩;refine a _ _ (db.rfl' _) ?_;clear a K;repeat((first|refine dC fun K a=>?_|refine dB fun K a=>?_);go_big_quiet_op;refine a _ ?_;clear a K)
  refine dh ?_;refine df ?_;have g:=M1.tr (Fm.ext M1.cl z) (dw b.o);go_wp2;refine bodyPost_ret (v:=.tuple #[]) (by simp[results,Tryz.results156,go_sem]) rfl ?_;exact⟨rfl,o,⟨A,H9.ext z⟩,g⟩
end
section
def wX(n a m:Nat):Nat:=min (n-a) m
def E7(L M:List dj)(po cm:Int):Bool:=
 (decide (0<=po/\po<=(L.length:Int))&&M.all ec)&&(ut ((L.drop po.toNat).take (wX L.length po.toNat M.length)) (M.take (wX L.length po.toNat M.length))&&(decide (M.length<=60)&&decide (0<=cm/\cm<=60)))
def pU(s:dp)(cm:Int)(L':List dj):dp:={s with L:=L',cm:=ep s.cm (iz cm (L'.length:Int)),hd:=s.ck}
def xh(s:dp)(m:dz)(M:List dj):Option dp:=
 if eC s then
  if m.vw==s.ls then
   if m.fr==dJ s.ls s.n then
    if E7 s.L M m.po m.cm then
     match fw s.L (M.drop (wX s.L.length m.po.toNat M.length))with
     |some a=>pT (pU s m.cm a) m.fr m.nm
     |none=>none
    else none
   else some s
  else some s
 else some s
variable{w D:World} {o N:Ow} {k x G u:Nat} {A A':iS} {s s':dp}
theorem DZ(h:eC s=true):1<=s.ls:=by unfold eC at h;simp only[Bool.and_eq_true,decide_eq_true_eq]at h;omega
theorem Bw(ag:Cl w o)(hk:32<=k)(h:di w o k x G u A s){m:dz}{p:Option Addr}{cap:Nat}{L:List dj}(an:fJ 7 w o p L.length cap (L.map dY))(hb:xh s m L=some s'):
  Calls Tryz.prog 158 #[de x,mK m p L.length cap] w fun e w'=>e=.returned (.tuple #[])/\∃o' A',di w' o' k x G u A' s'/\Fm (eh k) o o' w w':=by
 unfold xh at hb;have T:=hI hb;clear hb;obtain⟨k1,k2,k3,k4,k5,k6,k7,k8,t,R,aa,ab⟩:=m;simp only at T;have A0:=db.alloc w (.cells (fE ⟨k1,k2,k3,k4,k5,k6,k7,k8,t,R,aa,ab⟩ p L.length cap) 76);have i:=dq.loose ag (fE ⟨k1,k2,k3,k4,k5,k6,k7,k8,t,R,aa,ab⟩ p L.length cap) (gt ⟨k1,k2,k3,k4,k5,k6,k7,k8,t,R,aa,ab⟩ p L.length cap) 76 rfl;have H:=h.ext A0;have S:=an.ext A0;have z:=Fm.ext (C:=eh k) ag A0;have l:=hI hk;clear ag h an hk;go_enter Tryz.func158,Tryz.ntmps158;go_upto_region 1 with fail;change Code.wp _ _ _ _ (w.alloc (.cells (fE ⟨k1,k2,k3,k4,k5,k6,k7,k8,t,R,aa,ab⟩ p L.length cap) 76));clear A0;generalize w.alloc (.cells (fE ⟨k1,k2,k3,k4,k5,k6,k7,k8,t,R,aa,ab⟩ p L.length cap) 76)=w1 at*;generalize w.heap.size=mb at*;cases J:eC s
 .obtain⟨W2,q,g⟩:=eS w1;refine eA [0,1,2,3,4,5,6,7,8,9,10,11,12,13,14,15,16,17,18,19,20,21,22,23,24,25] [] ?_;rw[<-q];clear q;repeat((first|refine dC fun K b=>?_|refine dB fun K b=>?_);go_big_quiet_op;refine b _ ?_;clear b K)
  refine eF fun K b=>?_;go_simp;refine(fQ (H.ext g)).mono ?_;rw[J];rintro e j ⟨rfl,f⟩;replace H:=(H.ext g).ext f;replace S:=(S.ext g).ext f;replace i:=(i.ext g).ext f;have B:=z.tr (Fm.ext z.cl (g.tr f)) (dw l.o);have ac:∀d r,(grow (redrawn j d) r).cell? ⟨x,11,none⟩=some (.int .i64 s.ls):=H.g 11 _ rfl;have g1:∀d r,(grow (redrawn j d) r).cell? ⟨x,1,none⟩=some (.int .i64 s.n):=H.g 1 _ rfl;have ad:=rg j (i.box.c 1 _ rfl);have ae:=rg j (i.box.c 4 _ rfl);refine b _ _ f ?_;clear b K f z;repeat((first|refine dC fun K b=>?_|refine dB fun K b=>?_);go_big_quiet_op;refine b _ ?_;clear b K)
  refine dh ?_;refine df ?_;have iK:s=s':=by have:=T.o;simp only[J,Bool.false_eq_true,if_false]at this;exact Option.some.inj this
  have O:=H;rw[iK]at O;clear iK;go_wp2;refine bodyPost_ret (v:=.tuple #[]) (by simp[results,Tryz.results158,go_sem]) rfl ?_;exact⟨rfl,o,⟨A,O⟩,B⟩
 .have ai:=hI (DZ J);by_cases M:k5=s.ls
  .by_cases W:k2=dJ s.ls s.n
   .have e1:(k5 !=s.ls)=false:=by simpa using M
    have e2:(k2 !=dJ s.ls s.n)=false:=by simpa using W
    have V:(k5==s.ls)=true:=by simpa using M
    have f2:(k2==dJ s.ls s.n)=true:=by simpa using W
    have HX:Hid ((if E7 s.L L k8 t then(match fw s.L (L.drop (wX s.L.length k8.toNat L.length))with|some n=>pT (pU s t n) k2 R|none=>none)else none)=some s'):=hI (by
     have:=T.o;simp only[J,V,f2,if_true]at this
     exact this)
    clear T M W V f2;obtain⟨W2,q,g⟩:=eS w1;refine eA [0,1,2,3,4,5,6,7,8,9,10,11,12,13,14,15,16,17,18,19,20,21,22,23,24,25] [] ?_;rw[<-q];clear q;repeat((first|refine dC fun K b=>?_|refine dB fun K b=>?_);go_big_quiet_op;refine b _ ?_;clear b K)
    refine eF fun K b=>?_;go_simp;refine(fQ (H.ext g)).mono ?_;rw[J];rintro e j ⟨rfl,f⟩;replace H:=(H.ext g).ext f;replace S:=(S.ext g).ext f;replace i:=(i.ext g).ext f;have B:=z.tr (Fm.ext z.cl (g.tr f)) (dw l.o);have ac:∀d r,(grow (redrawn j d) r).cell? ⟨x,11,none⟩=some (.int .i64 s.ls):=H.g 11 _ rfl;have g1:∀d r,(grow (redrawn j d) r).cell? ⟨x,1,none⟩=some (.int .i64 s.n):=H.g 1 _ rfl;have ad:=rg j (i.box.c 1 _ rfl);have ae:=rg j (i.box.c 4 _ rfl);refine b _ _ f ?_;clear b K f z;repeat((first|refine dC fun K b=>?_|refine dB fun K b=>?_);go_big_quiet_op;refine b _ ?_;clear b K)
    refine eF fun K b=>?_;go_simp;refine(gn s.ls s.n ⟨ai.o,by have:=H.ok.ls;omega⟩ H.ok.n _).mono ?_;rintro e D ⟨rfl,rfl⟩;refine b _ _ (db.rfl' _) ?_;clear b K;repeat((first|refine dC fun K b=>?_|refine dB fun K b=>?_);go_big_quiet_op;refine b _ ?_;clear b K)
    refine dh ?_;refine df ?_;clear ac g1 ad ae e1 e2 g
    have PB:Hid (E7 s.L L k8 t=true):=hI (by
     have:=HX.o;split at this;·assumption
     .cases this)
    obtain⟨n,al,am⟩:∃n,fw s.L (L.drop (wX s.L.length k8.toNat L.length))=some n/\pT (pU s t n) k2 R=some s':=by
     have:=HX.o;rw[PB.o]at this;simp only[if_true]at this;split at this;·rename_i n h1;exact⟨n,h1,this⟩
     .cases this
    have HA:=hI al;have ah:=hI am;clear al am HX
    have Q:Hid ((0<=k8/\k8<=(s.L.length:Int))/\(∀e∈L,ec e=true)/\ut ((s.L.drop k8.toNat).take (wX s.L.length k8.toNat L.length)) (L.take (wX s.L.length k8.toNat L.length))=true/\L.length<=60/\0<=t/\t<=60):=hI (by
     have:=PB.o;unfold E7 at this;simp only[Bool.and_eq_true,decide_eq_true_eq,List.all_eq_true]at this
     exact⟨this.1.1,this.1.2,this.2.1,this.2.2.1,this.2.2.2⟩)
    clear PB;go_upto_region 2 with fail;obtain⟨W4,q,U⟩:=eS j;replace H:=H.ext U;replace S:=S.ext U;replace i:=i.ext U;have g9:=H.g 9 _ rfl;have ax:=rg W4 (i.box.c 7 _ rfl);have ay:=rg W4 (i.box.c 8 _ rfl);refine eA [0,1,2,3,4,5,6,7] [8] ?_;rw[<-q];clear q;repeat((first|refine dC fun K b=>?_|refine dB fun K b=>?_);go_big_quiet_op;refine b _ ?_;clear b K)
    refine dh ?_;refine iD fun K b=>?_;go_simp;have af:=Em (c:=k+2) (a:=k8.toNat) (B.cl.ext U) H.q.lg (by have:=l.o;omega) (by have:=Q.o.1.2;have:=Q.o.1.1;omega) S (fun e P=>iR (Q.o.2.1 e P)) rfl Q.o.2.2.1 HA.o (by have:=Q.o.2.2.2.1;omega);rw[show((k8.toNat:Nat):Int)=k8 by have:=Q.o.1.1;omega]at af;refine af.mono ?_;clear af;rintro e w5 ⟨o5,rfl,ao,m5⟩
    have ar:Hid (∀e∈n,ec e=true):=hI (by
     obtain⟨q1,q2⟩:=iT _ _ _ HA.o;intro e P;rw[q1]at P;rcases List.mem_append.1 P with P|P;·exact H.ok.L e P
     .exact q2 e P)
    obtain⟨N5,F5⟩:=di.mod0 (A':=A) (s':={s with L:=n}) l.o H m5 (fun d E=>by unfold two at E;unfold eh;omega) (H.q.set_lg l.o ao m5 (fun d E=>by unfold two at E;omega)) rfl {H.ok with L:=ar.o};have y:=N5;have X:=i.fr F5 (by decide) (dw l.o);have M5:=(B.tr (Fm.ext B.cl U) (dw l.o)).tr F5 (dw l.o);clear N5 F5 ao m5 H S i B U g9 ax ay;refine b _ _ ?_;clear b K;refine df ?_;go_upto_region 3 with fail;obtain⟨W6,q,Y⟩:=eS w5;replace y:=y.ext Y;replace X:=X.ext Y;have g9:=y.g 9 _ rfl;have aw:∀d r,(grow (redrawn W6 d) r).cell? ⟨x,10,none⟩=some (.int .i64 s.cm):=y.g 10 _ rfl;have az:=rg W6 (X.box.c 9 _ rfl);refine eA [0,1,2,3,4,5,6,7,8,9,10,11,12,13,14,15] [16] ?_;rw[<-q];clear q;repeat((first|refine dC fun K b=>?_|refine dB fun K b=>?_);go_big_quiet_op;refine b _ ?_;clear b K)
    refine eF fun K b=>?_;go_simp;refine(fP y.q.lg).mono ?_;rintro e w7 ⟨rfl,rfl⟩;refine b _ _ (db.rfl' _) ?_;clear b K;repeat((first|refine dC fun K b=>?_|refine dB fun K b=>?_);go_big_quiet_op;refine b _ ?_;clear b K)
    refine dh ?_;have au:W6.cell? ⟨x,10,none⟩=some (.int .i64 s.cm):=y.c 10 _ rfl;have av:=y.box.box.f 10;refine iD fun K b=>?_;go_simp;obtain⟨F,Z⟩:∃F:Int,F=ep s.cm (iz t (n.length:Int)):=⟨_,rfl⟩
    have ap:Hid (0<=F/\F<=60):=hI (by
     have h1:=y.ok.cm;have h2:=Q.o.2.2.2.2;have h3:n.length<=60:=ge.max y.q.lg;simp only at h1;rw[Z];unfold ep iz
     split<;>(try split)<;>omega)
    have aq:=hI Z;unfold ep iz at Z;rw[<-Z];clear Z;generalize(if(n.length:Int)<t then(n.length:Int)else t)=aB at*;obtain⟨N7,F7⟩:=di.mod (C:=fun _=>False) (A':=A) (s':={s with L:=n,cm:=F}) l.o y (Fm.refl (M5.cl.ext Y)) (fun d E=>E.elim) {y.q with dk:=y.q.dk} 10 (.int .i64 F) rfl {y.ok with cm:=ap.o};have I:=N7;have M7:=(M5.tr (Fm.ext M5.cl Y) (dw l.o)).tr F7 (dw l.o);have aj:=X.fr F7 (by decide) (dw l.o);clear N7 F7 au av g9 aw az y X M5 Y;refine b _ _ ?_;clear b K;refine df ?_;generalize W6.setCell ⟨x,10,none⟩ (.int .i64 F)=w7 at*;go_upto_region 4 with fail;have c4:w7.cell? ⟨x,4,none⟩=some (.int .i64 s.ck):=I.c 4 _ rfl;have c5:=I.c 5 _ rfl;have fx:=I.box.box.f;obtain⟨N8,F8⟩:=di.mod (C:=fun _=>False) (A':=A) (s':={s with L:=n,cm:=F,hd:=s.ck}) l.o I (Fm.refl M7.cl) (fun d E=>E.elim) {I.q with dk:=I.q.dk} 5 (.int .i64 s.ck) rfl {I.ok with hd:=I.ok.ck};have H8:=N8;have M8:=M7.tr F8 (dw l.o);have ak:=aj.fr F8 (by decide) (dw l.o);go_upto_region 5 with fail;clear N8 F8 c4 c5 fx I M7 aj;generalize w7.setCell ⟨x,5,none⟩ (.int .i64 s.ck)=w8 at*;have d1:=ak.box.c 1 _ rfl;have aA:=ak.box.c 10 _ rfl;rw[show pU s t n={s with L:=n,cm:=F,hd:=s.ck} by rw[aq.o];rfl]at ah;go_wp2_with fail;refine(rC M8.cl l.o H8 ah.o).mono ?_;rintro e w9 ⟨rfl,o9,A9,n9,f9⟩;have N9:=n9;have F9:=M8.tr f9 (dw l.o);clear n9 f9;go_wp2;refine bodyPost_end (v:=.tuple #[]) (by simp[results,Tryz.results158,go_sem]) rfl ?_;exact⟨rfl,o9,A9,N9,F9⟩
   .have e1:(k5 !=s.ls)=false:=by simpa using M
    have e2:(k2 !=dJ s.ls s.n)=true:=by simpa using W
    have V:(k5==s.ls)=true:=by simpa using M
    have f2:(k2==dJ s.ls s.n)=false:=by simpa using W
    clear M W;obtain⟨W2,q,g⟩:=eS w1;refine eA [0,1,2,3,4,5,6,7,8,9,10,11,12,13,14,15,16,17,18,19,20,21,22,23,24,25] [] ?_;rw[<-q];clear q;repeat((first|refine dC fun K b=>?_|refine dB fun K b=>?_);go_big_quiet_op;refine b _ ?_;clear b K)
    refine eF fun K b=>?_;go_simp;refine(fQ (H.ext g)).mono ?_;rw[J];rintro e j ⟨rfl,f⟩;replace H:=(H.ext g).ext f;replace S:=(S.ext g).ext f;replace i:=(i.ext g).ext f;have B:=z.tr (Fm.ext z.cl (g.tr f)) (dw l.o);have ac:∀d r,(grow (redrawn j d) r).cell? ⟨x,11,none⟩=some (.int .i64 s.ls):=H.g 11 _ rfl;have g1:∀d r,(grow (redrawn j d) r).cell? ⟨x,1,none⟩=some (.int .i64 s.n):=H.g 1 _ rfl;have ad:=rg j (i.box.c 1 _ rfl);have ae:=rg j (i.box.c 4 _ rfl);refine b _ _ f ?_;clear b K f z;repeat((first|refine dC fun K b=>?_|refine dB fun K b=>?_);go_big_quiet_op;refine b _ ?_;clear b K)
    refine eF fun K b=>?_;go_simp;refine(gn s.ls s.n ⟨ai.o,by have:=H.ok.ls;omega⟩ H.ok.n _).mono ?_;rintro e D ⟨rfl,rfl⟩;refine b _ _ (db.rfl' _) ?_;clear b K;repeat((first|refine dC fun K b=>?_|refine dB fun K b=>?_);go_big_quiet_op;refine b _ ?_;clear b K)
    refine dh ?_;refine df ?_;have iK:s=s':=by have:=T.o;simp only[J,V,f2,Bool.false_eq_true,if_false,if_true]at this;exact Option.some.inj this
    have O:=H;rw[iK]at O;clear iK;go_wp2;refine bodyPost_ret (v:=.tuple #[]) (by simp[results,Tryz.results158,go_sem]) rfl ?_;exact⟨rfl,o,⟨A,O⟩,B⟩
  .have e1:(k5 !=s.ls)=true:=by simpa using M
   have V:(k5==s.ls)=false:=by simpa using M
   clear M;obtain⟨W2,q,g⟩:=eS w1;refine eA [0,1,2,3,4,5,6,7,8,9,10,11,12,13,14,15,16,17,18,19,20,21,22,23,24,25] [] ?_;rw[<-q];clear q;repeat((first|refine dC fun K b=>?_|refine dB fun K b=>?_);go_big_quiet_op;refine b _ ?_;clear b K)
   refine eF fun K b=>?_;go_simp;refine(fQ (H.ext g)).mono ?_;rw[J];rintro e j ⟨rfl,f⟩;replace H:=(H.ext g).ext f;replace S:=(S.ext g).ext f;replace i:=(i.ext g).ext f;have B:=z.tr (Fm.ext z.cl (g.tr f)) (dw l.o);have ac:∀d r,(grow (redrawn j d) r).cell? ⟨x,11,none⟩=some (.int .i64 s.ls):=H.g 11 _ rfl;have g1:∀d r,(grow (redrawn j d) r).cell? ⟨x,1,none⟩=some (.int .i64 s.n):=H.g 1 _ rfl;have ad:=rg j (i.box.c 1 _ rfl);have ae:=rg j (i.box.c 4 _ rfl);refine b _ _ f ?_;clear b K f z;repeat((first|refine dC fun K b=>?_|refine dB fun K b=>?_);go_big_quiet_op;refine b _ ?_;clear b K)
   refine dh ?_;refine df ?_;have iK:s=s':=by have:=T.o;simp only[J,V,Bool.false_eq_true,if_false,if_true]at this;exact Option.some.inj this
   have O:=H;rw[iK]at O;clear iK;go_wp2;refine bodyPost_ret (v:=.tuple #[]) (by simp[results,Tryz.results158,go_sem]) rfl ?_;exact⟨rfl,o,⟨A,O⟩,B⟩
end
section
variable{L:List (List Value)} {K d:Nat} {E:TypeId} {N:World} {G:Ow}
def Rc(X:Nat->Prop)(o u:Ow):Prop:=∀i,¬X (o i)->u i=o i
variable{X:Nat->Prop} {w:World} {o u:Ow} {k x V O c g n cap:Nat} {p:Option Addr} {A A':iS} {s s':dp}
theorem dq.rc{vs:List Value}(h:dq w o c g vs)(r:Rc X o u)(a:¬X c):dq w u c g vs:=⟨(r g (by rw[h.col];exact a)).trans h.col,h.box⟩
theorem dQ.rc(h:dQ E K w o c p n cap L)(r:Rc X o u)(b:¬X c):dQ E K w u c p n cap L:=
 ⟨h.row,fun j a=>(r j (by rw[h.col j a];exact b)).trans (h.col j a)⟩
theorem fJ.rc(h:fJ K w o p n cap L)(r:Rc X o u)(b:¬X 0):fJ K w u p n cap L:=
 ⟨h.sl,fun j a=>⟨(h.lt j a).1,(r j (by rw[(h.lt j a).2];exact b)).trans (h.lt j a).2⟩⟩
theorem ni.rc{b j:Nat}{bt vw:Int}(h:ni w o c b j bt vw)(r:Rc X o u)(a:¬X 1):ni w u c b j bt vw:=
 ⟨(r b (by rw[h.col];exact a)).trans h.col,h.lt,h.d0,h.d1,h.c0,h.c1,h.f0,h.f1⟩
theorem ge.rc{L:List dj}(h:ge w o c g L)(r:Rc X o u)(a:¬X c)(b:¬X (c+1)):ge w u c g L:=by obtain⟨p,cap,h⟩:=h;exact⟨p,cap,h.box.rc r a,h.row.rc r b,h.max,h.ok⟩
theorem sI.rc{fr bt a:Int}{L:List dj}(h:sI w o c g fr bt a L)(r:Rc X o u)(b:¬X c)(e:¬X (c+1)):sI w u c g fr bt a L:=by obtain⟨p,cap,h⟩:=h;exact⟨p,cap,h.box.rc r b,h.row.rc r e,h.ok,h.le⟩
theorem sU.rc{L:List iB}(h:sU w o c g L)(r:Rc X o u)(a:¬X c)(b:¬X (c+1)):sU w u c g L:=by obtain⟨p,cap,h⟩:=h;exact⟨p,cap,h.box.rc r a,h.row.rc r b,h.max⟩
theorem wV.rc{m:Nat}(h:wV w o c g m)(r:Rc X o u)(a:¬X c):wV w u c g m:=by obtain⟨b,D,f,e,i⟩:=h;exact⟨b,D,f.rc r a,(r b (by rw[e];exact a)).trans e,i⟩
theorem iC.rc(h:iC K w o c p n cap L)(r:Rc X o u)(a:¬X c):iC K w u c p n cap L:=
 h.blk (fun b f e=>⟨rfl,(r b (by rw[e];exact a)).trans e⟩) (Nat.le_refl _)
theorem sL.rc{y:mz}(h:sL w o c g y)(r:Rc X o u)(a:¬X c)(b:¬X (c+1)):sL w u c g y:=by obtain⟨p,cap,h⟩:=h;exact⟨p,cap,h.box.rc r a,h.row.rc r b⟩
theorem yZ.rc{a:Option Nat}{n:Int}{v:Option (Int×List iq)}(h:yZ w o c a n v)(r:Rc X o u)(j:¬X 0)(l:¬X c)(m:¬X (c+1)):yZ w u c a n v:=by
 cases v with
 |none=>exact h
 |some v=>
  obtain⟨g,e,p,cap,f,h,i⟩:=h;exact⟨g,e,p,cap,f,⟨h.box.rc r l,h.row.rc r m,fun d b=>⟨(h.ok d b).fr,(h.ok d b).sl.rc r j,(h.ok d b).en,(h.ok d b).le,(h.ok d b).cm⟩,h.n,h.vw,h.le⟩,i⟩
theorem CW.rc{a:Option Nat}{q:Option lr}(h:CW w o c a q)(r:Rc X o u)(b:¬X c):CW w u c a q:=by
 cases q with
 |none=>exact h
 |some q=>
  obtain⟨g,e,h⟩:=h;exact⟨g,e,h.box.rc r b,h.ok⟩
theorem jV.rc{ms:List (dz×List dj)}(h:jV w o c p cap ms)(r:Rc X o u)(i:¬X 0)(j:¬X c):jV w u c p cap ms:=by obtain⟨f,e,rw,a⟩:=h;exact⟨f,e,rw.rc r j,fun d b=>⟨(a d b).ok,(a d b).sl.rc r i,(a d b).en⟩⟩
theorem CS.rc{me n bt b:Int}{a:Bool}(h:CS w o c g me n bt b a)(r:Rc X o u)(e:¬X c):CS w u c g me n bt b a:=by obtain⟨m,p,z,cap,h⟩:=h;exact⟨m,p,z,cap,h.rc r e⟩
def Gm(o:Ow)(d:Nat):Ow:=fun i=>if o i=d then 0 else o i
theorem Cy(o:Ow)(h:d≠0)(i:Nat):Gm o d i≠d:=by
 unfold Gm;split;·omega
 .assumption
theorem Fm.wipe(h:Cl w o)(h1:d≠1):Fm (one d) o (Gm o d) w w:=
 ⟨rfl,rfl,rfl,Nat.le_refl _,fun i _=>by
  unfold Go.Proofs.YtjhbmbbmjaabcaaGreat.Gm;by_cases e:o i=d;·rw[if_pos e];exact .inr ⟨by omega,e,rfl⟩
  .rw[if_neg e];exact .inl rfl,fun _ _ _ _=>rfl,fun _ _ _ _ _=>rfl,fun _ _ _ _=>rfl,fun i a=>by
  unfold Go.Proofs.YtjhbmbbmjaabcaaGreat.Gm;split;·rfl
  .exact h i a⟩
def qC(o:Ow)(c d:Nat):Ow:=fun i=>if o i=c then 0 else if o i=d then c else o i
theorem C5(o:Ow)(c d:Nat):Rc (fun e=>e=c\/e=d) o (qC o c d):=by intro i a;unfold qC;rw[if_neg (fun e=>a (.inl e)),if_neg (fun e=>a (.inr e))]
theorem Fm.adopt{C:Nat->Prop}(h:Fm C G o N w)(j:C c)(h1:1<c/\1<d)(l:∀i,i<N.heap.size->G i≠d):Fm C G (qC o c d) N w:=
 ⟨h.os,h.tape,h.output,h.size,fun i a=>by
  have q:=h.col i a;have f:=l i a;unfold Go.Proofs.YtjhbmbbmjaabcaaGreat.qC;by_cases e:o i=c
  .rw[if_pos e];rcases q with q|⟨m,r,t⟩;·exact .inr ⟨by omega,by rw[<-q,e];exact j,rfl⟩
   .omega
  .rw[if_neg e];by_cases b:o i=d;·rcases q with q|⟨m,r,t⟩<;>omega
   .rw[if_neg b];exact q,h.blk,h.cel,h.frz,fun i a=>by
  have:=h.cl i a;unfold Go.Proofs.YtjhbmbbmjaabcaaGreat.qC;rw[if_neg (by omega),if_neg (by omega)]
  exact this⟩
theorem dQ.adopt(h:dQ E K w o d p n cap L)(b:c≠d):dQ E K w (qC o c d) c p n cap L:=
 ⟨h.row,fun j a=>by
  have:=h.col j a;unfold Go.Proofs.YtjhbmbbmjaabcaaGreat.qC
  rw[if_neg (by omega),if_pos this]⟩
theorem di.take_aks(f:32<=k)(H:di w o k x V O A s){L:List kH}(row:dQ 200 3 w o (k+18) p L.length cap (L.map Jq))(m:L.length<=1000)(F:Fm (eh k) G o N w)(t:∀i,i<N.heap.size->G i≠k+18):
  di (w.setCell ⟨x,32,none⟩ (.slice p L.length cap)) (qC o (k+15) (k+18)) k x V O {A with ap:=p,ac:=cap} {s with ak:=L}/\Fm (eh k) G (qC o (k+15) (k+18)) N (w.setCell ⟨x,32,none⟩ (.slice p L.length cap)):=by
 have b:=Fm.adopt F (c:=k+15) (d:=k+18) (by unfold eh;omega) ⟨by omega,by omega⟩ t;have r:=C5 o (k+15) (k+18);have a:=H.box.rc r (by omega);have q:=H.q;have v:=dQ.adopt row (c:=k+15) (by omega);have F2:=Fm.put (C:=one k) b.cl a (by omega) rfl 32 (.slice p L.length cap);have h:=a.put 32 (.slice p L.length cap)
 have j:ew w (Go.Proofs.YtjhbmbbmjaabcaaGreat.qC o (k+15) (k+18)) k V O {A with ap:=p,ac:=cap} {s with ak:=L}:=
  ⟨q.dk.rc r (by omega),q.gr.rc r (by omega),q.lg.rc r (by omega) (by omega),q.pn.rc r (by omega) (by omega),q.rd.rc r (by omega) (by omega),q.tb.rc r (by omega),q.pf.rc r (by omega) (by omega),q.vt.rc r (by omega) (by omega) (by omega),q.qu.rc r (by omega),v,q.ou.rc r (by omega) (by omega),q.jn.rc r (by omega)⟩
 have l:¬one k 0:=by unfold one;omega
 exact⟨⟨h,j.fr f F2 l (fun d e=>by unfold one;omega),{H.ok with ak:=m}⟩,b.tr (F2.mono (fun d e=>by unfold one at e;unfold eh;omega)) (dw f)⟩
end
end Go.Proofs.YtjhbmbbmjaabcaaGreat
