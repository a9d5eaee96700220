/-
  Contracts. Conditions stand at each.
-/
import Derived.Test.YtjhbmbbmjaabcaaGreatS21
set_option linter.all false
set_option maxRecDepth 8000
set_option maxHeartbeats 8000000
namespace Go.Proofs.YtjhbmbbmjaabcaaGreat
open Go Go.Sort Go.RowKit
section
def qJ(s:dp)(m:dz):Option dp:=
 match s.v with
 |none=>some s
 |some _=>if decide (s.dv<m.vw)then(if decide (m.vw<=1000000000)then some {s with dn:=ep s.dn m.vw,ag:=true}else none)else some s
def Ar(s:dp)(v:Int×List iq)(m:dz)(L:List dj):Bool:=
 (decide (1<=m.fr/\m.fr<=s.n)&& !(dg (dr v.2) m.fr))&&((decide (0<=m.ls/\m.ls<v.1)&&(fw [] L).isSome)&&(decide (0<=m.cm/\m.cm<=(L.length:Int))&&(decide (L.length<=60)&&decide (v.2.length<=90))))
def sr(s:dp)(m:dz)(L:List dj):Option dp:=
 match s.v with
 |none=>some s
 |some v=>if(m.vw==v.1)&&(m.vw==s.dv)then(if dg (dr v.2) m.fr&&decide (1<=m.fr/\m.fr<=s.n)then some s else if Ar s v m L then some {s with v:=some (v.1,v.2++[⟨m.fr,m.ls,L,m.cm⟩])}else none)else some s
def oB(s:dp)(m:dz):Option dp:=
 if eC s then
  if m.vw==s.ls then
   if m.fr==dJ s.ls s.n then nE s m.nm m.cm else some s
  else some s
 else some s
def kT(s:dp)(m:dz)(L:List dj):Option dp:=
 if m.kd==1 then ng s m
 else if m.kd==2 then qJ s m
 else if m.kd==3 then sr s m L
 else if m.kd==4 then mZ s m L
 else if m.kd==5 then xh s m L
 else if m.kd==9 then oB s m
 else if eC s&&s.mi then mN s m L
 else some s
theorem BA{w:World}{o:Ow}{k x D u:Nat}{A:iS}{s s':dp}(b:Cl w o)(c:32<=k)(h:di w o k x D u A s){num cm:Int}(d:nE s num cm=some s'):
  Calls Tryz.prog 159 #[de A.f,.int .i64 num,.int .i64 cm] w fun e a=>CY e/\di a o k x D u A s'/\Fm (eh k) o o w a:=
 (tH b c h d (dQ.nil _ _ _ _ _)).mono (fun e a ⟨h1,h2,_,h3⟩=>⟨h1,h2,h3⟩)
variable{w G:World} {o N:Ow} {k x D u:Nat} {A A':iS} {s s':dp}
theorem ya(ar:Cl w o)(hk:32<=k)(h:di w o k x D u A s){m:dz}{p:Option Addr}{cap:Nat}{L:List dj}(aw:fJ 7 w o p L.length cap (L.map dY))(hb:kT s m L=some s'):
  Calls Tryz.prog 116 #[de x,mK m p L.length cap] w fun e w'=>e=.returned (.tuple #[])/\∃o' A',di w' o' k x D u A' s'/\Fm (eh k) o o' w w':=by
 unfold kT at hb;have y:=hI hb;clear hb;obtain⟨k1,k2,k3,k4,k5,k6,k7,k8,k9,aj,ak,al⟩:=m;simp only at y;have A0:=db.alloc w (.cells (fE ⟨k1,k2,k3,k4,k5,k6,k7,k8,k9,aj,ak,al⟩ p L.length cap) 76);have i:=dq.loose ar (fE ⟨k1,k2,k3,k4,k5,k6,k7,k8,k9,aj,ak,al⟩ p L.length cap) (gt ⟨k1,k2,k3,k4,k5,k6,k7,k8,k9,aj,ak,al⟩ p L.length cap) 76 rfl;have H:=h.ext A0;have S:=aw.ext A0;have c:=Fm.ext (C:=eh k) ar A0;have q:=hI hk;clear ar h aw hk;go_enter Tryz.func116,Tryz.ntmps116;go_upto_region 1 with fail;change Code.wp _ _ _ _ (w.alloc (.cells (fE ⟨k1,k2,k3,k4,k5,k6,k7,k8,k9,aj,ak,al⟩ p L.length cap) 76));clear A0;generalize w.alloc (.cells (fE ⟨k1,k2,k3,k4,k5,k6,k7,k8,k9,aj,ak,al⟩ p L.length cap) 76)=w1 at*;generalize w.heap.size=mb at*;have d0:=i.box.c 0 _ rfl;go_upto_region 4 with fail;clear d0;by_cases h1:k1=1
 .have e1:(k1==1)=true:=by simpa using h1
  have l:=y.o;rw[if_pos e1]at l;have j:=hI l;clear y l h1;obtain⟨d0,d1,d2,d3,d4,d5,d6,d7,d8,d9,ao,ap,aq⟩:=i9 i;go_wp2_with fail;refine(yf c.cl q.o H S j.o).mono ?_;rintro e w9 ⟨rfl,o9,R,Z,X⟩;have V:=Z;have T:=c.tr X (dw q.o);clear Z X;go_wp2;refine bodyPost_end (v:=.tuple #[]) (by simp[results,Tryz.results116,go_sem]) rfl ?_;first|exact⟨rfl,o9,R,V,T⟩|exact⟨rfl,o9,⟨R,V⟩,T⟩
 .have e1:(k1==1)=false:=by simpa using h1
  have l:=y.o;rw[if_neg (by rw[e1];simp)]at l;replace y:=hI l;clear l h1;by_cases h2:k1=2
  .have e2:(k1==2)=true:=by simpa using h2
   have l:=y.o;rw[if_pos e2]at l;have j:=hI l;clear y l h2;go_upto_region 7 with fail;cases J:s.v with
   |none=>
    have an:Hid (A.v=none):=hI (by
     have:=H.q.vt;rw[J]at this
     exact this)
    have b:=j.o;unfold qJ at b;rw[J]at b;simp only at b;replace j:=hI b;clear b J;obtain⟨B,n,f⟩:=eS w1;replace H:=H.ext f;replace S:=S.ext f;replace i:=i.ext f;have M:∀d t,(grow (redrawn B d) t).cell? ⟨x,17,none⟩=some (.pointer none):=by have:=H.g 17 _ rfl;rw[an.o]at this;exact this
    have Q:=H.g 2 _ rfl;have I:=rg B (i.box.c 4 _ rfl);refine eA [0,1,2,3,4,5,6,7,8,9,10,11,12,13,14] [] ?_;rw[<-n];clear n;repeat((first|refine dC fun K a=>?_|refine dB fun K a=>?_);go_big_quiet_op;refine a _ ?_;clear a K)
    refine dh ?_;refine df ?_;replace c:=c.tr (Fm.ext c.cl f) (dw q.o);clear f M Q I;have F:Hid (s=s'):=hI (by exact Option.some.inj j.o)
    have r:=H;rw[F.o]at r;go_wp2;refine bodyPost_end (v:=.tuple #[]) (by simp[results,Tryz.results116,go_sem]) rfl ?_;first|exact⟨rfl,o,A,r,c⟩|exact⟨rfl,o,⟨A,r⟩,c⟩
   |some v=>
    obtain⟨O,ai⟩:∃O,A.v=some O:=by have:=H.q.vt;rw[J]at this;obtain⟨g,hg,-⟩:=this;exact⟨g,hg⟩
    have P:=hI ai;have ac:=hI J;have b:=j.o;unfold qJ at b;rw[J]at b;simp only at b;replace j:=hI b;clear b J ai;by_cases ah:s.dv<k5
    .have W:=dT (s.dv<k5) ah;have b:=j.o;rw[if_pos W]at b;split at b;case isFalse=>cases b
     rename_i av;have aA:=hI (And.intro ah (of_decide_eq_true av));have F:=hI (Option.some.inj b);clear j b av ah;obtain⟨B,n,f⟩:=eS w1;replace H:=H.ext f;replace S:=S.ext f;replace i:=i.ext f;have M:∀d t,(grow (redrawn B d) t).cell? ⟨x,17,none⟩=some (de O):=by have:=H.g 17 _ rfl;rw[P.o]at this;exact this
     have Q:=H.g 2 _ rfl;have I:=rg B (i.box.c 4 _ rfl);refine eA [0,1,2,3,4,5,6,7,8,9,10,11,12,13,14] [] ?_;rw[<-n];clear n;repeat((first|refine dC fun K a=>?_|refine dB fun K a=>?_);go_big_quiet_op;refine a _ ?_;clear a K)
     refine eF fun K a=>?_;go_simp;refine(ey H.q.dk).mono ?_;rintro e E ⟨rfl,rfl⟩;refine a _ _ (db.rfl' _) ?_;clear a K;repeat((first|refine dC fun K a=>?_|refine dB fun K a=>?_);go_big_quiet_op;refine a _ ?_;clear a K)
     refine dh ?_;refine df ?_;replace c:=c.tr (Fm.ext c.cl f) (dw q.o);clear f M Q I;go_upto_region 8 with fail;have aC:=H.c 18 _ rfl;have aD:=H.c 19 _ rfl;have aE:=H.box.box.f 18;have aF:=H.box.box.f 19;have d4:=i.box.c 4 _ rfl;obtain⟨DN,af⟩:∃DN,DN=ep s.dn k5:=⟨_,rfl⟩
     have az:Hid (0<=DN/\DN<=1000000000):=hI (by
      have h1:=H.ok.dn;have h2:=aA.o;have h3:=H.ok.dv;rw[af];unfold ep
      split<;>omega)
     have aB:=hI af;obtain⟨N4,F4⟩:=di.mod (C:=fun _=>False) (A':=A) (s':={s with dn:=DN}) q.o H (Fm.refl c.cl) (fun d hd=>hd.elim) {H.q with dk:=H.q.dk} 18 (.int .i64 DN) rfl {H.ok with dn:=az.o};have H4:=N4;have M4:=c.tr F4 (dw q.o);obtain⟨N5,F5⟩:=di.mod (C:=fun _=>False) (A':=A) (s':={s with dn:=DN,ag:=true}) q.o H4 (Fm.refl M4.cl) (fun d hd=>hd.elim) {H4.q with dk:=H4.q.dk} 19 (.bool true) rfl {H4.ok with id:=H4.ok.id};have U:=N5.ext (db.drew _);have M5:=(M4.tr F5 (dw q.o)).tr (Fm.ext F5.cl (db.drew _)) (dw q.o);clear N4 F4 N5 F5;unfold ep at af;go_region;rw[<-af];clear af aC aD aE aF d4 H c H4 M4;generalize((B.setCell ⟨x,18,none⟩ (.int .i64 DN)).setCell ⟨x,19,none⟩ (.bool true)).drew=w5 at*;generalize(if s.dn<k5 then k5 else s.dn)=aL at*;rw[show({s with dn:=DN,ag:=true}:dp)=s' by rw[<-F.o,aB.o,<-ac.o]]at U;go_wp2;refine bodyPost_end (v:=.tuple #[]) (by simp[results,Tryz.results116,go_sem]) rfl ?_;first|exact⟨rfl,o,A,U,M5⟩|exact⟨rfl,o,⟨A,U⟩,M5⟩
    .have W:=dF (s.dv<k5) ah;have b:=j.o;rw[if_neg (by rw[W];simp)]at b;replace j:=hI b;clear b ah;obtain⟨B,n,f⟩:=eS w1;replace H:=H.ext f;replace S:=S.ext f;replace i:=i.ext f;have M:∀d t,(grow (redrawn B d) t).cell? ⟨x,17,none⟩=some (de O):=by have:=H.g 17 _ rfl;rw[P.o]at this;exact this
     have Q:=H.g 2 _ rfl;have I:=rg B (i.box.c 4 _ rfl);refine eA [0,1,2,3,4,5,6,7,8,9,10,11,12,13,14] [] ?_;rw[<-n];clear n;repeat((first|refine dC fun K a=>?_|refine dB fun K a=>?_);go_big_quiet_op;refine a _ ?_;clear a K)
     refine eF fun K a=>?_;go_simp;refine(ey H.q.dk).mono ?_;rintro e E ⟨rfl,rfl⟩;refine a _ _ (db.rfl' _) ?_;clear a K;repeat((first|refine dC fun K a=>?_|refine dB fun K a=>?_);go_big_quiet_op;refine a _ ?_;clear a K)
     refine dh ?_;refine df ?_;replace c:=c.tr (Fm.ext c.cl f) (dw q.o);clear f M Q I;have F:Hid (s=s'):=hI (by exact Option.some.inj j.o)
     have r:=H;rw[F.o]at r;go_wp2;refine bodyPost_end (v:=.tuple #[]) (by simp[results,Tryz.results116,go_sem]) rfl ?_;first|exact⟨rfl,o,A,r,c⟩|exact⟨rfl,o,⟨A,r⟩,c⟩
  .have e2:(k1==2)=false:=by simpa using h2
   have l:=y.o;rw[if_neg (by rw[e2];simp)]at l;replace y:=hI l;clear l h2;by_cases h3:k1=3
   .have e3:(k1==3)=true:=by simpa using h3
    have l:=y.o;rw[if_pos e3]at l;have j:=hI l;clear y l h3;go_upto_region 10 with fail;cases J:s.v with
    |none=>
     have an:Hid (A.v=none):=hI (by
      have:=H.q.vt;rw[J]at this
      exact this)
     have b:=j.o;unfold sr at b;rw[J]at b;simp only at b;replace j:=hI b;clear b J;obtain⟨B,n,f⟩:=eS w1;replace H:=H.ext f;replace S:=S.ext f;replace i:=i.ext f;have M:∀d t,(grow (redrawn B d) t).cell? ⟨x,17,none⟩=some (.pointer none):=by have:=H.g 17 _ rfl;rw[an.o]at this;exact this
     have Q:=H.g 2 _ rfl;have I:=rg B (i.box.c 4 _ rfl);refine eA [0,1,2,3,4,5,6,7,8,9,10,11,12,13,14,15,16,17,18,19,20,21,22,23,24] [] ?_;rw[<-n];clear n;repeat((first|refine dC fun K a=>?_|refine dB fun K a=>?_);go_big_quiet_op;refine a _ ?_;clear a K)
     refine dh ?_;refine df ?_;replace c:=c.tr (Fm.ext c.cl f) (dw q.o);clear f M Q I;have F:Hid (s=s'):=hI (by exact Option.some.inj j.o)
     have r:=H;rw[F.o]at r;go_wp2;refine bodyPost_end (v:=.tuple #[]) (by simp[results,Tryz.results116,go_sem]) rfl ?_;first|exact⟨rfl,o,A,r,c⟩|exact⟨rfl,o,⟨A,r⟩,c⟩
    |some v=>
     obtain⟨O,ai⟩:∃O,A.v=some O:=by have:=H.q.vt;rw[J]at this;obtain⟨g,hg,-⟩:=this;exact⟨g,hg⟩
     have P:=hI ai;have ac:=hI J;have b:=j.o;unfold sr at b;rw[J]at b;simp only at b;replace j:=hI b;clear b J ai;obtain⟨vw,vs⟩:=v;simp only at j;by_cases Y:k5=vw
     .have W:(k5==vw)=true:=by simpa using Y
      by_cases hq:k5=s.dv
      .have f2:(k5==s.dv)=true:=by simpa using hq
       have b:=j.o;rw[if_pos (by rw[W,f2];rfl)]at b;replace j:=hI b;clear b Y hq;obtain⟨B,n,f⟩:=eS w1;replace H:=H.ext f;replace S:=S.ext f;replace i:=i.ext f;have M:∀d t,(grow (redrawn B d) t).cell? ⟨x,17,none⟩=some (de O):=by have:=H.g 17 _ rfl;rw[P.o]at this;exact this
       have Q:=H.g 2 _ rfl;have I:=rg B (i.box.c 4 _ rfl);refine eA [0,1,2,3,4,5,6,7,8,9,10,11,12,13,14,15,16,17,18,19,20,21,22,23,24] [] ?_;rw[<-n];clear n;repeat((first|refine dC fun K a=>?_|refine dB fun K a=>?_);go_big_quiet_op;refine a _ ?_;clear a K)
       refine eF fun K a=>?_;go_simp;refine(ju (H.vs ac.o P.o)).mono ?_;rintro e w7 ⟨rfl,rfl⟩;refine a _ _ (db.rfl' _) ?_;clear a K;repeat((first|refine dC fun K a=>?_|refine dB fun K a=>?_);go_big_quiet_op;refine a _ ?_;clear a K)
       refine eF fun K a=>?_;go_simp;refine(ey H.q.dk).mono ?_;rintro e E ⟨rfl,rfl⟩;refine a _ _ (db.rfl' _) ?_;clear a K;repeat((first|refine dC fun K a=>?_|refine dB fun K a=>?_);go_big_quiet_op;refine a _ ?_;clear a K)
       refine dh ?_;refine df ?_;replace c:=c.tr (Fm.ext c.cl f) (dw q.o);clear f M Q I;go_upto_region 11 with fail;obtain⟨W4,n,X4⟩:=eS B;replace H:=H.ext X4;replace S:=S.ext X4;replace i:=i.ext X4;have M:∀d t,(grow (redrawn W4 d) t).cell? ⟨x,17,none⟩=some (de O):=by have:=H.g 17 _ rfl;rw[P.o]at this;exact this
       have ab:=rg W4 (i.box.c 1 _ rfl);have aJ:=rg W4 (i.box.c 5 _ rfl);have aK:=rg W4 (i.box.c 8 _ rfl);have aG:=rg W4 (i.box.c 9 _ rfl);refine eA [0,1,2,3,4,5,6,7,8,9,10,11,12] [13] ?_;rw[<-n];clear n;repeat((first|refine dC fun K a=>?_|refine dB fun K a=>?_);go_big_quiet_op;refine a _ ?_;clear a K)
       refine eF fun K a=>?_;go_simp;refine a _ _ (db.rfl' _) ?_;clear a K;refine dh ?_;refine iD fun K a=>?_;go_simp;have b:=j.o;split at b;·rename_i hc;simp only[Bool.and_eq_true,decide_eq_true_eq]at hc;refine(I' (H.vs ac.o P.o) ⟨⟨hc.2.1,by have h1:=hc.2.2;have h2:=H.ok.n.2;omega⟩,hc.2.2⟩ hc.1).mono ?_;rintro e w5 ⟨rfl,x5⟩;have U:=H.ext x5;have M5:=(c.tr (Fm.ext c.cl X4) (dw q.o)).tr (Fm.ext (c.cl.ext X4) x5) (dw q.o);rw[Option.some.inj b]at U;clear x5 hc;refine a _ _ ?_;clear a K;refine df ?_;go_wp2;refine bodyPost_end (v:=.tuple #[]) (by simp[results,Tryz.results116,go_sem]) rfl ?_;first|exact⟨rfl,o,A,U,M5⟩|exact⟨rfl,o,⟨A,U⟩,M5⟩
       split at b;case isFalse=>cases b
       rename_i ax;have F:=hI (Option.some.inj b)
       have VB:Hid (((1<=k2/\k2<=s.n)/\dg (dr vs) k2=false)/\((0<=k6/\k6<vw)/\(fw [] L).isSome=true)/\(0<=k9/\k9<=(L.length:Int))/\L.length<=60/\vs.length<=90):=hI (by
        have:=ax;unfold Ar at this;simp only[Bool.and_eq_true,decide_eq_true_eq,Bool.not_eq_true']at this
        exact this)
       clear j b ax;have AS:=mR VB.o.2.1.2;refine(wJ (c.cl.ext X4) (H.vs ac.o P.o) (by have:=q.o;omega) ⟨⟨VB.o.1.1.1,by have h1:=VB.o.1.1.2;have h2:=H.ok.n.2;omega⟩,VB.o.1.1.2⟩ VB.o.1.2 VB.o.2.1.1 S (fun e he=>iR (AS.2 e he)) AS.1 VB.o.2.2.1 VB.o.2.2.2.1 VB.o.2.2.2.2).mono ?_;clear AS;rintro e w5 ⟨o5,rfl,ay,m5⟩
       obtain⟨N5,F5⟩:=di.mod0 (A':=A) (s':={s with v:=some (vw,vs++[⟨k2,k6,L,k9⟩])}) q.o H m5 (fun d hd=>by unfold two at hd;unfold eh;omega) (by
        have:=H.q.set_vt (yv:=some O) (xv:=some (vw,vs++[⟨k2,k6,L,k9⟩])) q.o ⟨O,rfl,ay⟩ m5 (fun d hd=>by unfold two at hd;omega);rw[show({A with v:=some O}:iS)=A by rw[<-P.o]]at this
        exact this) rfl {H.ok with id:=H.ok.id}
       have U:=N5;have M5:=(c.tr (Fm.ext c.cl X4) (dw q.o)).tr F5 (dw q.o);rw[F.o]at U;clear N5 F5 ay m5;refine a _ _ ?_;clear a K;refine df ?_;go_wp2;refine bodyPost_end (v:=.tuple #[]) (by simp[results,Tryz.results116,go_sem]) rfl ?_;first|exact⟨rfl,o5,A,U,M5⟩|exact⟨rfl,o5,⟨A,U⟩,M5⟩
      .have f2:(k5==s.dv)=false:=by simpa using hq
       have b:=j.o;rw[if_neg (by rw[f2];simp)]at b;replace j:=hI b;clear b Y hq;obtain⟨B,n,f⟩:=eS w1;replace H:=H.ext f;replace S:=S.ext f;replace i:=i.ext f;have M:∀d t,(grow (redrawn B d) t).cell? ⟨x,17,none⟩=some (de O):=by have:=H.g 17 _ rfl;rw[P.o]at this;exact this
       have Q:=H.g 2 _ rfl;have I:=rg B (i.box.c 4 _ rfl);refine eA [0,1,2,3,4,5,6,7,8,9,10,11,12,13,14,15,16,17,18,19,20,21,22,23,24] [] ?_;rw[<-n];clear n;repeat((first|refine dC fun K a=>?_|refine dB fun K a=>?_);go_big_quiet_op;refine a _ ?_;clear a K)
       refine eF fun K a=>?_;go_simp;refine(ju (H.vs ac.o P.o)).mono ?_;rintro e w7 ⟨rfl,rfl⟩;refine a _ _ (db.rfl' _) ?_;clear a K;repeat((first|refine dC fun K a=>?_|refine dB fun K a=>?_);go_big_quiet_op;refine a _ ?_;clear a K)
       refine eF fun K a=>?_;go_simp;refine(ey H.q.dk).mono ?_;rintro e E ⟨rfl,rfl⟩;refine a _ _ (db.rfl' _) ?_;clear a K;repeat((first|refine dC fun K a=>?_|refine dB fun K a=>?_);go_big_quiet_op;refine a _ ?_;clear a K)
       refine dh ?_;refine df ?_;replace c:=c.tr (Fm.ext c.cl f) (dw q.o);clear f M Q I;have F:Hid (s=s'):=hI (by exact Option.some.inj j.o)
       have r:=H;rw[F.o]at r;go_wp2;refine bodyPost_end (v:=.tuple #[]) (by simp[results,Tryz.results116,go_sem]) rfl ?_;first|exact⟨rfl,o,A,r,c⟩|exact⟨rfl,o,⟨A,r⟩,c⟩
     .have W:(k5==vw)=false:=by simpa using Y
      have b:=j.o;rw[if_neg (by rw[W];simp)]at b;replace j:=hI b;clear b Y;obtain⟨B,n,f⟩:=eS w1;replace H:=H.ext f;replace S:=S.ext f;replace i:=i.ext f;have M:∀d t,(grow (redrawn B d) t).cell? ⟨x,17,none⟩=some (de O):=by have:=H.g 17 _ rfl;rw[P.o]at this;exact this
      have Q:=H.g 2 _ rfl;have I:=rg B (i.box.c 4 _ rfl);refine eA [0,1,2,3,4,5,6,7,8,9,10,11,12,13,14,15,16,17,18,19,20,21,22,23,24] [] ?_;rw[<-n];clear n;repeat((first|refine dC fun K a=>?_|refine dB fun K a=>?_);go_big_quiet_op;refine a _ ?_;clear a K)
      refine eF fun K a=>?_;go_simp;refine(ju (H.vs ac.o P.o)).mono ?_;rintro e w7 ⟨rfl,rfl⟩;refine a _ _ (db.rfl' _) ?_;clear a K;repeat((first|refine dC fun K a=>?_|refine dB fun K a=>?_);go_big_quiet_op;refine a _ ?_;clear a K)
      refine dh ?_;refine df ?_;replace c:=c.tr (Fm.ext c.cl f) (dw q.o);clear f M Q I;have F:Hid (s=s'):=hI (by exact Option.some.inj j.o)
      have r:=H;rw[F.o]at r;go_wp2;refine bodyPost_end (v:=.tuple #[]) (by simp[results,Tryz.results116,go_sem]) rfl ?_;first|exact⟨rfl,o,A,r,c⟩|exact⟨rfl,o,⟨A,r⟩,c⟩
   .have e3:(k1==3)=false:=by simpa using h3
    have l:=y.o;rw[if_neg (by rw[e3];simp)]at l;replace y:=hI l;clear l h3;by_cases h4:k1=4
    .have e4:(k1==4)=true:=by simpa using h4
     have l:=y.o;rw[if_pos e4]at l;have j:=hI l;clear y l h4;obtain⟨d0,d1,d2,d3,d4,d5,d6,d7,d8,d9,ao,ap,aq⟩:=i9 i;go_wp2_with fail;refine(yb c.cl q.o H S j.o).mono ?_;rintro e w9 ⟨rfl,o9,R,Z,X⟩;have V:=Z;have T:=c.tr X (dw q.o);clear Z X;go_wp2;refine bodyPost_end (v:=.tuple #[]) (by simp[results,Tryz.results116,go_sem]) rfl ?_;first|exact⟨rfl,o9,R,V,T⟩|exact⟨rfl,o9,⟨R,V⟩,T⟩
    .have e4:(k1==4)=false:=by simpa using h4
     have l:=y.o;rw[if_neg (by rw[e4];simp)]at l;replace y:=hI l;clear l h4;by_cases h5:k1=5
     .have e5:(k1==5)=true:=by simpa using h5
      have l:=y.o;rw[if_pos e5]at l;have j:=hI l;clear y l h5;obtain⟨d0,d1,d2,d3,d4,d5,d6,d7,d8,d9,ao,ap,aq⟩:=i9 i;go_wp2_with fail;refine(Bw c.cl q.o H S j.o).mono ?_;rintro e w9 ⟨rfl,o9,R,Z,X⟩;have V:=Z;have T:=c.tr X (dw q.o);clear Z X;go_wp2;refine bodyPost_end (v:=.tuple #[]) (by simp[results,Tryz.results116,go_sem]) rfl ?_;first|exact⟨rfl,o9,R,V,T⟩|exact⟨rfl,o9,⟨R,V⟩,T⟩
     .have e5:(k1==5)=false:=by simpa using h5
      have l:=y.o;rw[if_neg (by rw[e5];simp)]at l;replace y:=hI l;clear l h5;by_cases h9:k1=9
      .have e9:(k1==9)=true:=by simpa using h9
       have l:=y.o;rw[if_pos e9]at l;have j:=hI l;clear y l h9;go_upto_region 17 with fail;have b:=j.o;unfold oB at b;cases ae:eC s
       .rw[if_neg (by rw[ae];simp)]at b;replace j:=hI b;clear b;obtain⟨B,n,f⟩:=eS w1;refine eA [0,1,2,3,4,5,6,7,8,9,10,11,12,13,14,15,16,17,18,19,20,21,22,23,24] [] ?_;rw[<-n];clear n;repeat((first|refine dC fun K a=>?_|refine dB fun K a=>?_);go_big_quiet_op;refine a _ ?_;clear a K)
        refine eF fun K a=>?_;go_simp;refine(fQ (H.ext f)).mono ?_;rw[ae];rintro e E ⟨rfl,z⟩;replace H:=(H.ext f).ext z;replace S:=(S.ext f).ext z;replace i:=(i.ext f).ext z;replace c:=c.tr (Fm.ext c.cl (f.tr z)) (dw q.o);have ad:∀d t,(grow (redrawn E d) t).cell? ⟨x,11,none⟩=some (.int .i64 s.ls):=H.g 11 _ rfl;have g1:∀d t,(grow (redrawn E d) t).cell? ⟨x,1,none⟩=some (.int .i64 s.n):=H.g 1 _ rfl;have ab:=rg E (i.box.c 1 _ rfl);have I:=rg E (i.box.c 4 _ rfl);refine a _ _ z ?_;clear a K z f;repeat((first|refine dC fun K a=>?_|refine dB fun K a=>?_);go_big_quiet_op;refine a _ ?_;clear a K)
        refine dh ?_;refine df ?_;clear ad g1 ab I;have F:Hid (s=s'):=hI (by exact Option.some.inj j.o)
        have r:=H;rw[F.o]at r;go_wp2;refine bodyPost_end (v:=.tuple #[]) (by simp[results,Tryz.results116,go_sem]) rfl ?_;first|exact⟨rfl,o,A,r,c⟩|exact⟨rfl,o,⟨A,r⟩,c⟩
       .rw[if_pos ae]at b;have au:=hI (DZ ae);simp only at b;by_cases Y:k5=s.ls
        .have W:(k5==s.ls)=true:=by simpa using Y
         rw[if_pos W]at b;by_cases hq:k2=dJ s.ls s.n
         .have f2:(k2==dJ s.ls s.n)=true:=by simpa using hq
          rw[if_pos f2]at b;replace j:=hI b;clear b Y hq;obtain⟨B,n,f⟩:=eS w1;refine eA [0,1,2,3,4,5,6,7,8,9,10,11,12,13,14,15,16,17,18,19,20,21,22,23,24] [] ?_;rw[<-n];clear n;repeat((first|refine dC fun K a=>?_|refine dB fun K a=>?_);go_big_quiet_op;refine a _ ?_;clear a K)
          refine eF fun K a=>?_;go_simp;refine(fQ (H.ext f)).mono ?_;rw[ae];rintro e E ⟨rfl,z⟩;replace H:=(H.ext f).ext z;replace S:=(S.ext f).ext z;replace i:=(i.ext f).ext z;replace c:=c.tr (Fm.ext c.cl (f.tr z)) (dw q.o);have ad:∀d t,(grow (redrawn E d) t).cell? ⟨x,11,none⟩=some (.int .i64 s.ls):=H.g 11 _ rfl;have g1:∀d t,(grow (redrawn E d) t).cell? ⟨x,1,none⟩=some (.int .i64 s.n):=H.g 1 _ rfl;have ab:=rg E (i.box.c 1 _ rfl);have I:=rg E (i.box.c 4 _ rfl);refine a _ _ z ?_;clear a K z f;repeat((first|refine dC fun K a=>?_|refine dB fun K a=>?_);go_big_quiet_op;refine a _ ?_;clear a K)
          refine eF fun K a=>?_;go_simp;refine(gn s.ls s.n ⟨au.o,by have:=H.ok.ls;omega⟩ H.ok.n _).mono ?_;rintro e G ⟨rfl,rfl⟩;refine a _ _ (db.rfl' _) ?_;clear a K;repeat((first|refine dC fun K a=>?_|refine dB fun K a=>?_);go_big_quiet_op;refine a _ ?_;clear a K)
          refine dh ?_;refine df ?_;clear ad g1 ab I;go_upto_region 18 with fail;obtain⟨W5,n,X5⟩:=eS E;replace H:=H.ext X5;replace S:=S.ext X5;replace i:=i.ext X5;have aH:=H.g 16 _ rfl;have aI:=rg W5 (i.box.c 10 _ rfl);have aG:=rg W5 (i.box.c 9 _ rfl);refine eA [0,1,2,3,4,5,6,7] [8] ?_;rw[<-n];clear n;repeat((first|refine dC fun K a=>?_|refine dB fun K a=>?_);go_big_quiet_op;refine a _ ?_;clear a K)
          refine dh ?_;refine iD fun K a=>?_;go_simp;refine(BA (c.cl.ext X5) q.o H j.o).mono ?_;rintro e w6 ⟨⟨bb,rfl⟩,n6,m6⟩;have N6:=n6;have M6:=(c.tr (Fm.ext c.cl X5) (dw q.o)).tr m6 (dw q.o);clear n6 m6;refine a _ _ ?_;clear a K;refine df ?_;go_wp2;refine bodyPost_end (v:=.tuple #[]) (by simp[results,Tryz.results116,go_sem]) rfl ?_;first|exact⟨rfl,o,A,N6,M6⟩|exact⟨rfl,o,⟨A,N6⟩,M6⟩
         .have f2:(k2==dJ s.ls s.n)=false:=by simpa using hq
          rw[if_neg (by rw[f2];simp)]at b;replace j:=hI b;clear b Y hq;obtain⟨B,n,f⟩:=eS w1;refine eA [0,1,2,3,4,5,6,7,8,9,10,11,12,13,14,15,16,17,18,19,20,21,22,23,24] [] ?_;rw[<-n];clear n;repeat((first|refine dC fun K a=>?_|refine dB fun K a=>?_);go_big_quiet_op;refine a _ ?_;clear a K)
          refine eF fun K a=>?_;go_simp;refine(fQ (H.ext f)).mono ?_;rw[ae];rintro e E ⟨rfl,z⟩;replace H:=(H.ext f).ext z;replace S:=(S.ext f).ext z;replace i:=(i.ext f).ext z;replace c:=c.tr (Fm.ext c.cl (f.tr z)) (dw q.o);have ad:∀d t,(grow (redrawn E d) t).cell? ⟨x,11,none⟩=some (.int .i64 s.ls):=H.g 11 _ rfl;have g1:∀d t,(grow (redrawn E d) t).cell? ⟨x,1,none⟩=some (.int .i64 s.n):=H.g 1 _ rfl;have ab:=rg E (i.box.c 1 _ rfl);have I:=rg E (i.box.c 4 _ rfl);refine a _ _ z ?_;clear a K z f;repeat((first|refine dC fun K a=>?_|refine dB fun K a=>?_);go_big_quiet_op;refine a _ ?_;clear a K)
          refine eF fun K a=>?_;go_simp;refine(gn s.ls s.n ⟨au.o,by have:=H.ok.ls;omega⟩ H.ok.n _).mono ?_;rintro e G ⟨rfl,rfl⟩;refine a _ _ (db.rfl' _) ?_;clear a K;repeat((first|refine dC fun K a=>?_|refine dB fun K a=>?_);go_big_quiet_op;refine a _ ?_;clear a K)
          refine dh ?_;refine df ?_;clear ad g1 ab I;have F:Hid (s=s'):=hI (by exact Option.some.inj j.o)
          have r:=H;rw[F.o]at r;go_wp2;refine bodyPost_end (v:=.tuple #[]) (by simp[results,Tryz.results116,go_sem]) rfl ?_;first|exact⟨rfl,o,A,r,c⟩|exact⟨rfl,o,⟨A,r⟩,c⟩
        .have W:(k5==s.ls)=false:=by simpa using Y
         rw[if_neg (by rw[W];simp)]at b;replace j:=hI b;clear b Y;obtain⟨B,n,f⟩:=eS w1;refine eA [0,1,2,3,4,5,6,7,8,9,10,11,12,13,14,15,16,17,18,19,20,21,22,23,24] [] ?_;rw[<-n];clear n;repeat((first|refine dC fun K a=>?_|refine dB fun K a=>?_);go_big_quiet_op;refine a _ ?_;clear a K)
         refine eF fun K a=>?_;go_simp;refine(fQ (H.ext f)).mono ?_;rw[ae];rintro e E ⟨rfl,z⟩;replace H:=(H.ext f).ext z;replace S:=(S.ext f).ext z;replace i:=(i.ext f).ext z;replace c:=c.tr (Fm.ext c.cl (f.tr z)) (dw q.o);have ad:∀d t,(grow (redrawn E d) t).cell? ⟨x,11,none⟩=some (.int .i64 s.ls):=H.g 11 _ rfl;have g1:∀d t,(grow (redrawn E d) t).cell? ⟨x,1,none⟩=some (.int .i64 s.n):=H.g 1 _ rfl;have ab:=rg E (i.box.c 1 _ rfl);have I:=rg E (i.box.c 4 _ rfl);refine a _ _ z ?_;clear a K z f;repeat((first|refine dC fun K a=>?_|refine dB fun K a=>?_);go_big_quiet_op;refine a _ ?_;clear a K)
         refine dh ?_;refine df ?_;clear ad g1 ab I;have F:Hid (s=s'):=hI (by exact Option.some.inj j.o)
         have r:=H;rw[F.o]at r;go_wp2;refine bodyPost_end (v:=.tuple #[]) (by simp[results,Tryz.results116,go_sem]) rfl ?_;first|exact⟨rfl,o,A,r,c⟩|exact⟨rfl,o,⟨A,r⟩,c⟩
      .have e9:(k1==9)=false:=by simpa using h9
       have l:=y.o;rw[if_neg (by rw[e9];simp)]at l;replace y:=hI l;clear l h9;have j:=y;clear y;go_wp2_with fail;refine(nQ H).mono ?_;cases am:eC s&&s.mi
       .rintro e w2 ⟨rfl,x2⟩;replace H:=H.ext x2;replace c:=c.tr (Fm.ext c.cl x2) (dw q.o);have b:=j.o;rw[if_neg (by rw[am];simp)]at b;replace j:=hI b;clear b x2 am;have F:Hid (s=s'):=hI (by exact Option.some.inj j.o)
        have r:=H;rw[F.o]at r;go_wp2;refine bodyPost_end (v:=.tuple #[]) (by simp[results,Tryz.results116,go_sem]) rfl ?_;first|exact⟨rfl,o,A,r,c⟩|exact⟨rfl,o,⟨A,r⟩,c⟩
       .rintro e w2 ⟨rfl,x2⟩;replace H:=H.ext x2;replace S:=S.ext x2;replace i:=i.ext x2;replace c:=c.tr (Fm.ext c.cl x2) (dw q.o);have b:=j.o;rw[if_pos am]at b;replace j:=hI b;clear b x2 am;obtain⟨d0,d1,d2,d3,d4,d5,d6,d7,d8,d9,ao,ap,aq⟩:=i9 i;go_wp2_with fail;refine(BL c.cl q.o H S j.o).mono ?_;rintro e w9 ⟨rfl,o9,R,Z,X⟩;have V:=Z;have T:=c.tr X (dw q.o);clear Z X;go_wp2;refine bodyPost_end (v:=.tuple #[]) (by simp[results,Tryz.results116,go_sem]) rfl ?_;first|exact⟨rfl,o9,R,V,T⟩|exact⟨rfl,o9,⟨R,V⟩,T⟩
end
end Go.Proofs.YtjhbmbbmjaabcaaGreat
