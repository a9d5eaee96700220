/-
  Contracts. Conditions stand at each.
-/
import Derived.Test.YtjhbmbbmjaabcaaGreatS14
set_option linter.all false
set_option maxRecDepth 8000
set_option maxHeartbeats 8000000
namespace Go.Proofs.YtjhbmbbmjaabcaaGreat
open Go Go.Sort Go.RowKit
section
theorem di.g{w:World}{o:Ow}{k x D u:Nat}{A:iS}{s:dp}(h:di w o k x D u A s)(i:Nat)(v:Value)(a:(CK D u A s)[i]? =some v):∀d b,(grow (redrawn w d) b).cell? ⟨x,i,none⟩=some v:=
 rg w (h.box.box.c i v a)
theorem di.c{w:World}{o:Ow}{k x D u:Nat}{A:iS}{s:dp}(h:di w o k x D u A s)(i:Nat)(v:Value)(a:(CK D u A s)[i]? =some v):w.cell? ⟨x,i,none⟩=some v:=h.box.box.c i v a
def eC(s:dp):Bool:=s.kn&&(decide (0<s.ls)&&(decide (s.ls=s.dv)&&dg s.mb s.id))
def ic(s:dp):Bool:=decide (8+2*s.id<=s.ck-s.hd)
def jH(s:dp):Bool:=eC s&&ts s.f s.ck s.cm
theorem ik{w:World}{o:Ow}{c g:Nat}{L:List dj}(h:ge w o c g L):
  Calls Tryz.prog 78 #[.pointer (some ⟨g,0,none⟩),.int .i64 0] w fun e f=>∃d b,e=.returned (.slice d L.length b)/\fY 71 7 f w.heap.size d L.length b (L.map dY)/\db w f:=
 tz (a:=0) h (by omega)
variable{w:World} {o:Ow} {k x D u:Nat} {A:iS} {s:dp}
theorem fQ(H:di w o k x D u A s):
  Calls Tryz.prog 50 #[de x] w fun e v=>e=.returned (.bool (eC s))/\db w v:=by
 have p:dE s.id:=⟨H.ok.id.1,by have:=H.ok.id.2;have:=H.ok.n.2;omega⟩;have q:=H.ok.mb;obtain⟨W,g,i⟩:=eS w;have b:=H.ext i;cases c:s.kn
 .have f:eC s=false:=by unfold eC;rw[c];rfl
  rw[f];clear f;have j:∀d h,(grow (redrawn W d) h).cell? ⟨x,8,none⟩=some (.bool false):=by rw[<-c];exact b.g 8 _ rfl
  clear c;go_enter Tryz.func50,Tryz.ntmps50;go_upto_region 1 with fail;refine gV [0,1,2,3,4,5,6,7,8,9,10,11,12,13,14,15,16,17,18,19,20,21,22,23,24,25,26,27,28,29,30,31,32,33,34,35,36,37,38] [] (by kernel_rfl) (by kernel_rfl) (fun _ _ d _ _ H=>by cases d<;>exact H) ?_;rw[<-g];clear g;repeat((first|refine dC fun K a=>?_|refine dB fun K a=>?_);go_big_quiet_op;refine a _ ?_;clear a K)
  refine dh ?_;refine df ?_;go_wp2;go_ret;exact⟨rfl,i⟩
 .by_cases h2:0<s.ls
  .by_cases h3:s.ls=s.dv
   .have f:eC s=dg s.mb s.id:=by unfold eC;rw[c,decide_eq_true h2,decide_eq_true h3];rfl
    rw[f];clear f;have l:=dT (0<s.ls) h2;have r:(s.ls==s.dv)=true:=by simpa using h3
    have j:∀d h,(grow (redrawn W d) h).cell? ⟨x,8,none⟩=some (.bool true):=by rw[<-c];exact b.g 8 _ rfl
    have m:=b.g 11 _ rfl;have t:=b.g 2 _ rfl;have y:=b.g 12 _ rfl;have g0:=b.g 0 _ rfl;clear h2 h3;clear c;go_enter Tryz.func50,Tryz.ntmps50;go_upto_region 1 with fail;refine gV [0,1,2,3,4,5,6,7,8,9,10,11,12,13,14,15,16,17,18,19,20,21,22,23,24,25,26,27,28,29,30,31,32,33,34,35,36,37,38] [] (by kernel_rfl) (by kernel_rfl) (fun _ _ d _ _ H=>by cases d<;>exact H) ?_;rw[<-g];clear g;repeat((first|refine dC fun K a=>?_|refine dB fun K a=>?_);go_big_quiet_op;refine a _ ?_;clear a K)
    refine eF fun K a=>?_;go_simp;refine(ey b.q.dk).mono ?_;rintro e n ⟨rfl,rfl⟩;refine a _ _ (db.rfl' _) ?_;clear a K;repeat((first|refine dC fun K a=>?_|refine dB fun K a=>?_);go_big_quiet_op;refine a _ ?_;clear a K)
    refine eF fun K a=>?_;go_simp;refine(fT _ _ q p _).mono ?_;rintro e n ⟨rfl,rfl⟩;refine a _ _ (db.rfl' _) ?_;clear a K;repeat((first|refine dC fun K a=>?_|refine dB fun K a=>?_);go_big_quiet_op;refine a _ ?_;clear a K)
    refine dh ?_;refine df ?_;go_wp2;go_ret;exact⟨rfl,i⟩
   .have f:eC s=false:=by unfold eC;rw[c,decide_eq_true h2,decide_eq_false h3];rfl
    rw[f];clear f;have l:=dT (0<s.ls) h2;have r:(s.ls==s.dv)=false:=by simpa using h3
    have j:∀d h,(grow (redrawn W d) h).cell? ⟨x,8,none⟩=some (.bool true):=by rw[<-c];exact b.g 8 _ rfl
    have m:=b.g 11 _ rfl;have t:=b.g 2 _ rfl;clear h2 h3;clear c;go_enter Tryz.func50,Tryz.ntmps50;go_upto_region 1 with fail;refine gV [0,1,2,3,4,5,6,7,8,9,10,11,12,13,14,15,16,17,18,19,20,21,22,23,24,25,26,27,28,29,30,31,32,33,34,35,36,37,38] [] (by kernel_rfl) (by kernel_rfl) (fun _ _ d _ _ H=>by cases d<;>exact H) ?_;rw[<-g];clear g;repeat((first|refine dC fun K a=>?_|refine dB fun K a=>?_);go_big_quiet_op;refine a _ ?_;clear a K)
    refine eF fun K a=>?_;go_simp;refine(ey b.q.dk).mono ?_;rintro e n ⟨rfl,rfl⟩;refine a _ _ (db.rfl' _) ?_;clear a K;repeat((first|refine dC fun K a=>?_|refine dB fun K a=>?_);go_big_quiet_op;refine a _ ?_;clear a K)
    refine dh ?_;refine df ?_;go_wp2;go_ret;exact⟨rfl,i⟩
  .have f:eC s=false:=by unfold eC;rw[c,decide_eq_false h2];rfl
   rw[f];clear f;have l:=dF (0<s.ls) h2;have j:∀d h,(grow (redrawn W d) h).cell? ⟨x,8,none⟩=some (.bool true):=by rw[<-c];exact b.g 8 _ rfl
   have m:=b.g 11 _ rfl;clear h2;clear c;go_enter Tryz.func50,Tryz.ntmps50;go_upto_region 1 with fail;refine gV [0,1,2,3,4,5,6,7,8,9,10,11,12,13,14,15,16,17,18,19,20,21,22,23,24,25,26,27,28,29,30,31,32,33,34,35,36,37,38] [] (by kernel_rfl) (by kernel_rfl) (fun _ _ d _ _ H=>by cases d<;>exact H) ?_;rw[<-g];clear g;repeat((first|refine dC fun K a=>?_|refine dB fun K a=>?_);go_big_quiet_op;refine a _ ?_;clear a K)
   refine dh ?_;refine df ?_;go_wp2;go_ret;exact⟨rfl,i⟩
theorem oK(h:di w o k x D u A s):
  Calls Tryz.prog 108 #[de x] w fun e l=>e=.returned (.bool (ic s))/\db w l:=by
 have f:=h.ok.ck;have g:=h.ok.hd;have i:=h.ok.id;have j:=h.ok.n;obtain⟨W,d,c⟩:=eS w;have a:=h.ext c;clear h;have p:wrap64 (s.ck-s.hd)=s.ck-s.hd:=by unfold wrap64;omega
 have q:wrap64 (2*s.id)=2*s.id:=by unfold wrap64;omega
 have r:wrap64 (8+2*s.id)=8+2*s.id:=by unfold wrap64;omega
 clear f g i j;have m:=a.g 4 _ rfl;have n:=a.g 5 _ rfl;have g0:=a.g 0 _ rfl;go_enter Tryz.func108,Tryz.ntmps108;go_upto_region 1 with fail;refine eA [0,1,2,3,4,5,6,7,8,9,10,11,12,13,14,15,16] [] ?_;rw[<-d];clear d;repeat((first|refine dC fun K b=>?_|refine dB fun K b=>?_);go_big_quiet_op;refine b _ ?_;clear b K)
 refine dh ?_;refine df ?_;go_wp2;go_ret;exact⟨rfl,c⟩
theorem nQ(H:di w o k x D u A s):
  Calls Tryz.prog 106 #[de x] w fun e b=>e=.returned (.bool (eC s&&s.mi))/\db w b:=by
 cases a:eC s;·go_enter Tryz.func106,Tryz.ntmps106;go_wp2_with fail;refine(fQ H).mono ?_;rw[a];rintro e d ⟨rfl,X⟩;go_wp2;go_ret;exact⟨rfl,X⟩
 .go_enter Tryz.func106,Tryz.ntmps106;go_wp2_with fail;refine(fQ H).mono ?_;rw[a];rintro e d ⟨rfl,X⟩;have f:=(H.ext X).c 20 _ rfl;go_wp2;go_ret;exact⟨by simp,X⟩
theorem mg(H:di w o k x D u A s):
  Calls Tryz.prog 36 #[de x] w fun e j=>e=.returned (.tuple #[.int .i64 (if eC s then s.ls else 0),.int .i64 (if eC s then s.mb else 0),.bool (eC s)])/\db w j:=by
 cases h:eC s;·go_enter Tryz.func36,Tryz.ntmps36;go_wp2_with fail;refine(fQ H).mono ?_;rw[h];rintro e c ⟨rfl,X⟩;go_wp2;go_ret3;exact⟨rfl,X⟩
 .go_enter Tryz.func36,Tryz.ntmps36;go_wp2_with fail;refine(fQ H).mono ?_;rw[h];rintro e c ⟨rfl,i⟩;obtain⟨W,b⟩:∃W,W=c.drew:=⟨_,rfl⟩;have g:db w W:=by rw[b];exact i.tr (db.drew c)
  have f:=H.ext g;have l:=f.g 11 _ rfl;have m:=f.g 12 _ rfl;clear i;go_upto_region 3 with fail;refine gV [0,1,2,3,4,5,6,7,8,9,10] [] (by kernel_rfl) (by kernel_rfl) (fun _ _ d _ _ H=>by cases d<;>exact H) ?_;rw[<-b];clear b;repeat((first|refine dC fun K a=>?_|refine dB fun K a=>?_);go_big_quiet_op;refine a _ ?_;clear a K)
  refine dh ?_;refine df ?_;go_wp2;go_ret3;exact⟨rfl,g⟩
theorem mc(h:di w o k x D u A s):
  Calls Tryz.prog 21 #[de x] w fun e n=>e=.returned (.bool (jH s))/\db w n:=by
 have H:=h;have K:=hI (And.intro h.ok.ck h.ok.bc);obtain⟨W,g,m⟩:=eS w;have j:=h.ext m;clear h;cases i:eC s
 .have c:jH s=false:=by unfold jH;rw[i];rfl
  rw[c];clear c;go_enter Tryz.func21,Tryz.ntmps21;go_upto_region 1 with fail;refine eA [0,1,2,3,4,5,6,7,8,9,10,11,12,13,14,15,16,17] [] ?_;rw[<-g];clear g;repeat((first|refine dC fun K a=>?_|refine dB fun K a=>?_);go_big_quiet_op;refine a _ ?_;clear a K)
  refine eF fun K a=>?_;go_simp;refine(fQ j).mono ?_;rw[i];rintro e p ⟨rfl,b⟩;have l:=m.tr b;refine a _ _ b ?_;clear a K b;repeat((first|refine dC fun K a=>?_|refine dB fun K a=>?_);go_big_quiet_op;refine a _ ?_;clear a K)
  refine dh ?_;refine df ?_;go_wp2;go_ret;exact⟨rfl,l⟩
 .have c:jH s=ts s.f s.ck s.cm:=by unfold jH;rw[i];rfl
  rw[c];clear c;have f:=K;go_enter Tryz.func21,Tryz.ntmps21;go_upto_region 1 with fail;refine eA [0,1,2,3,4,5,6,7,8,9,10,11,12,13,14,15,16,17] [] ?_;rw[<-g];clear g;repeat((first|refine dC fun K a=>?_|refine dB fun K a=>?_);go_big_quiet_op;refine a _ ?_;clear a K)
  refine eF fun K a=>?_;go_simp;refine(fQ j).mono ?_;rw[i];rintro e p ⟨rfl,b⟩;have l:=m.tr b;have d:=j.ext b;refine a _ _ b ?_;clear a K b;have r:=d.g 16 _ rfl;have t:=d.g 4 _ rfl;have q:=d.g 10 _ rfl;repeat((first|refine dC fun K a=>?_|refine dB fun K a=>?_);go_big_quiet_op;refine a _ ?_;clear a K)
  refine eF fun K a=>?_;go_simp;refine(BU d.q.pf ⟨f.o.1.1,by have:=f.o.1.2;omega⟩ ⟨f.o.2.1,by have:=f.o.2.2;omega⟩).mono ?_;rintro e v ⟨rfl,rfl⟩;refine a _ _ (db.rfl' _) ?_;clear a K;repeat((first|refine dC fun K a=>?_|refine dB fun K a=>?_);go_big_quiet_op;refine a _ ?_;clear a K)
  refine dh ?_;refine df ?_;go_wp2;go_ret;exact⟨rfl,l⟩
theorem pD(h:di w o k x D u A s):
  Calls Tryz.prog 55 #[de x] w fun e a=>e=.returned (.int .i64 s.cm)/\w=a:=by have b:=h.c 10 _ rfl;clear h;go_enter Tryz.func55,Tryz.ntmps55;go_wp2;go_ret;exact⟨rfl,rfl⟩
theorem oI(h:di w o k x D u A s):
  Calls Tryz.prog 34 #[de x] w fun e a=>e=.returned (.int .i64 s.bt)/\w=a:=by have b:=h.c 3 _ rfl;clear h;go_enter Tryz.func34,Tryz.ntmps34;go_wp2;go_ret;exact⟨rfl,rfl⟩
theorem yc(h:di w o k x D u A s):
  Calls Tryz.prog 33 #[de x] w fun e a=>e=.returned (.bool s.kn)/\w=a:=by have b:=h.c 8 _ rfl;clear h;go_enter Tryz.func33,Tryz.ntmps33;go_wp2;go_ret;exact⟨rfl,rfl⟩
theorem oN(H:di w o k x D u A s):
  Calls Tryz.prog 28 #[de x] w fun e c=>∃b a,e=.returned (.slice b s.T.length a)/\fY 109 8 c w.heap.size b s.T.length a (s.T.map r8)/\db w c:=by have g:=H.c 14 _ rfl;go_enter Tryz.func28,Tryz.ntmps28;go_wp2_with fail;refine(Cd H.q.rd).mono ?_;rintro e j ⟨i,h,rfl,d,f⟩;go_wp2;go_ret;exact⟨_,_,rfl,d,f⟩
theorem vW(H:di w o k x D u A s):
  Calls Tryz.prog 56 #[de x] w fun e c=>∃b a,e=.returned (.slice b s.L.length a)/\fY 71 7 c w.heap.size b s.L.length a (s.L.map dY)/\db w c:=by have h:=H.c 9 _ rfl;go_enter Tryz.func56,Tryz.ntmps56;go_wp2_with fail;refine(ik H.q.lg).mono ?_;rintro e j ⟨i,g,rfl,d,f⟩;go_wp2;go_ret;exact⟨_,_,rfl,d,f⟩
end
section
variable{σ:Type} {a:Value}
def dt{σ α:Type}(F:σ->α->Option σ):List α->σ->Option σ
 |[],s=>some s
 |i::l,s=>match F s i with
  |none=>none
  |some b=>dt F l b
theorem dy{σ α:Type}{F:σ->α->Option σ}{i:α}{l:List α}{s r:σ}(h:dt F (i::l) s=some r):∃b,F s i=some b/\dt F l b=some r:=by
 unfold dt at h
 cases e:F s i with
 |none=>rw[e]at h;cases h
 |some b=>rw[e]at h;exact⟨b,rfl,h⟩
def eE(F:σ->Int->Option σ)(id n:Int)(s:σ)(i:Int):Option σ:=if i=id then some s else if i<=n then F s i else some s
theorem xI{t i:Int}(h:i∈ek.filter (dg t)):dE i/\dg t i=true:=by rw[List.mem_filter]at h;refine⟨?_,h.2⟩;have:=h.1;simp[ek]at this;unfold dE;omega
variable{w:World} {o:Ow}
theorem Iu{x kf:Nat}{id n t:Int}(R:σ->World->Ow->Prop)(F:σ->Int->Option σ)(C:Nat->Prop)(Z:¬C 0)(ht:gS t)
  (ag:∀(W:Array Value) (w:World),(callFunc kf W).run Tryz.prog w=.ok (.enter kf W) w)
  (D:∀s w o,R s w o->w.cell? ⟨x,0,none⟩=some (.int .i64 id)/\w.cell? ⟨x,1,none⟩=some (.int .i64 n))
  (hE:∀s w g o,R s w o->db w g->R s g o)
  (hF:∀s s' w o i,dE i->dg t i=true->i≠id->i<=n->R s w o->Cl w o->F s i=some s'->Calls Tryz.prog kf #[.int .i64 i,a] w fun e g=>e=.returned (.tuple #[])/\∃z,R s' g z/\Fm C o z w g)
  {s s':σ}(G:Cl w o)(h:R s w o)(hf:dt (eE F id n) (ek.filter (dg t)) s=some s'):
  Calls Tryz.prog 136 #[de x,.int .i64 t,.func (.func kf) #[] #[a]] w fun e g=>e=.returned (.tuple #[])/\∃z,R s' g z/\Fm C o z w g:=by
 have T:=hI h;have HF:=hI hF;have HE:=hI hE;have Q:=hI D;have P:=hI Z;have H:=hI hf;clear h hF hE D Z hf;go_enter Tryz.func136,Tryz.ntmps136;go_wp2_with fail;refine(oZ t ht w).mono ?_;rintro e w2 ⟨p,X,rfl,o2,N⟩;have y:fJ 1 w2 o p (ek.filter (dg t)).length X ((ek.filter (dg t)).map jl):=fJ.fresh o2 G (Nat.le_refl _);have V:=hI (HE.o _ _ _ _ T.o N);have U:=Fm.ext (C:=C) G N;clear o2 N T G;obtain⟨c,sJ⟩:∃c,c=ek.filter (dg t):=⟨_,rfl⟩;have HI:Hid (∀i∈c,dE i/\dg t i=true):=hI (fun i j=>xI (by rw[<-sJ];exact j));rw[<-sJ]at y H⊢;clear sJ;have ah:c.length<=9223372036854775807:=Nat.le_trans y.sl.le y.sl.max;go_wp2;go_loopw [11] (fun i wr=>∃(k:Nat) (f:Ow) (s1:σ),k<=c.length/\i=.int .i64 (k:Int)/\R s1 wr f/\dt (eE F id n) (c.drop k) s1=some s'/\fJ 1 wr f p c.length X (c.map jl)/\Fm C o f w wr) (fun i _=>c.length-(intOf i).toNat);case atStart=>exact⟨0,o,s,by omega,rfl,V.o,H.o,y,U⟩
 case round=>
  obtain⟨k,f,s1,hk,rfl,r1,Y,B,u⟩:=hrel;have m:=hI r1;have O:=hI Y;clear r1 Y V y U H;by_cases E:k<c.length
  .obtain⟨i,j⟩:∃i,c[k]? =some i:=⟨_,List.getElem?_eq_getElem E⟩;obtain⟨b,A,L,cc⟩:∃b A,p=some ⟨b,A,none⟩/\wr.cell? ⟨b,A+k,none⟩=some (.int .i64 i):=by obtain⟨b,A,r,L,hr,-,D⟩:=B.sl.at k E;rw[List.getElem?_map,j]at hr;cases hr;have:=D 0 (.int .i64 i) rfl;exact⟨b,A,L,by simpa using this⟩
   obtain⟨ab,ac⟩:=HI.o i (List.mem_of_getElem? j);have S:=hI (And.intro ab ac);have aa:c.drop k=i::c.drop (k+1):=by rw[List.drop_eq_getElem_cons E];congr 1;rw[List.getElem?_eq_getElem E]at j;exact Option.some.inj j
   obtain⟨l,ae,ad⟩:=dy (by rw[<-aa];exact O.o);have J:=hI ae;have I:=hI ad;clear ae ad aa j ab ac;subst L;have c0:=(Q.o _ _ _ m.o).1;have c1:=(Q.o _ _ _ m.o).2;by_cases q:i=id
   .have d:l=s1:=by have:=J.o;unfold eE at this;rw[if_pos q]at this;exact(Option.some.inj this).symm
    have d1:(i==id)=true:=by simpa using q
    subst d;subst q;go_wp2;go_roundw;case rel=>exact⟨k+1,f,l,by omega,by go_num,m.o,I.o,B,u⟩
    case measure=>simp[intOf];omega
   .by_cases K:i<=n
    .have d:F s1 i=some l:=by have:=J.o;unfold eE at this;rwa[if_neg q,if_pos K]at this
     have af:=HF.o s1 l wr f i S.o.1 S.o.2 q K m.o u.cl d;clear d;go_wp2_with fail;refine af.mono ?_;rintro e w4 ⟨rfl,o4,r4,M⟩;have R4:=hI r4;have S4:=B.fr M P.o;have M4:=u.tr M P.o;clear r4 M;go_wp2;go_roundw;case rel=>exact⟨k+1,o4,l,by omega,by go_num,R4.o,I.o,S4,M4⟩
     case measure=>simp[intOf];omega
    .have d:l=s1:=by have:=J.o;unfold eE at this;rw[if_neg q,if_neg K]at this;exact(Option.some.inj this).symm
     subst d;go_wp2;go_roundw;case rel=>exact⟨k+1,f,l,by omega,by go_num,m.o,I.o,B,u⟩
     case measure=>simp[intOf];omega
  .have d:s1=s':=by have:=O.o;rw[List.drop_of_length_le (by omega)]at this;exact Option.some.inj this
   subst d;go_wp2;refine bodyPost_end (v:=.tuple #[]) (by simp[results,Tryz.results136,go_sem]) rfl ?_;exact⟨rfl,f,m.o,u⟩
theorem uL{x kf:Nat}{id n t:Int}{b:Value}(R:σ->World->Ow->Prop)(F:σ->Int->Option σ)(C:Nat->Prop)(Z:¬C 0)(ht:gS t)
  (ag:∀(W:Array Value) (w:World),(callFunc kf W).run Tryz.prog w=.ok (.enter kf W) w)
  (D:∀s w o,R s w o->w.cell? ⟨x,0,none⟩=some (.int .i64 id)/\w.cell? ⟨x,1,none⟩=some (.int .i64 n))
  (hE:∀s w g o,R s w o->db w g->R s g o)
  (hF:∀s s' w o i,dE i->dg t i=true->i≠id->i<=n->R s w o->Cl w o->F s i=some s'->Calls Tryz.prog kf #[.int .i64 i,a,b] w fun e g=>e=.returned (.tuple #[])/\∃z,R s' g z/\Fm C o z w g)
  {s s':σ}(G:Cl w o)(h:R s w o)(hf:dt (eE F id n) (ek.filter (dg t)) s=some s'):
  Calls Tryz.prog 136 #[de x,.int .i64 t,.func (.func kf) #[] #[a,b]] w fun e g=>e=.returned (.tuple #[])/\∃z,R s' g z/\Fm C o z w g:=by
 have T:=hI h;have HF:=hI hF;have HE:=hI hE;have Q:=hI D;have P:=hI Z;have H:=hI hf;clear h hF hE D Z hf;go_enter Tryz.func136,Tryz.ntmps136;go_wp2_with fail;refine(oZ t ht w).mono ?_;rintro e w2 ⟨p,X,rfl,o2,N⟩;have y:fJ 1 w2 o p (ek.filter (dg t)).length X ((ek.filter (dg t)).map jl):=fJ.fresh o2 G (Nat.le_refl _);have V:=hI (HE.o _ _ _ _ T.o N);have U:=Fm.ext (C:=C) G N;clear o2 N T G;obtain⟨c,sJ⟩:∃c,c=ek.filter (dg t):=⟨_,rfl⟩;have HI:Hid (∀i∈c,dE i/\dg t i=true):=hI (fun i j=>xI (by rw[<-sJ];exact j));rw[<-sJ]at y H⊢;clear sJ;have ah:c.length<=9223372036854775807:=Nat.le_trans y.sl.le y.sl.max;go_wp2;go_loopw [11] (fun i wr=>∃(k:Nat) (f:Ow) (s1:σ),k<=c.length/\i=.int .i64 (k:Int)/\R s1 wr f/\dt (eE F id n) (c.drop k) s1=some s'/\fJ 1 wr f p c.length X (c.map jl)/\Fm C o f w wr) (fun i _=>c.length-(intOf i).toNat);case atStart=>exact⟨0,o,s,by omega,rfl,V.o,H.o,y,U⟩
 case round=>
  obtain⟨k,f,s1,hk,rfl,r1,Y,B,u⟩:=hrel;have m:=hI r1;have O:=hI Y;clear r1 Y V y U H;by_cases E:k<c.length
  .obtain⟨i,j⟩:∃i,c[k]? =some i:=⟨_,List.getElem?_eq_getElem E⟩;obtain⟨b,A,L,cc⟩:∃b A,p=some ⟨b,A,none⟩/\wr.cell? ⟨b,A+k,none⟩=some (.int .i64 i):=by obtain⟨b,A,r,L,hr,-,D⟩:=B.sl.at k E;rw[List.getElem?_map,j]at hr;cases hr;have:=D 0 (.int .i64 i) rfl;exact⟨b,A,L,by simpa using this⟩
   obtain⟨ab,ac⟩:=HI.o i (List.mem_of_getElem? j);have S:=hI (And.intro ab ac);have aa:c.drop k=i::c.drop (k+1):=by rw[List.drop_eq_getElem_cons E];congr 1;rw[List.getElem?_eq_getElem E]at j;exact Option.some.inj j
   obtain⟨l,ae,ad⟩:=dy (by rw[<-aa];exact O.o);have J:=hI ae;have I:=hI ad;clear ae ad aa j ab ac;subst L;have c0:=(Q.o _ _ _ m.o).1;have c1:=(Q.o _ _ _ m.o).2;by_cases q:i=id
   .have d:l=s1:=by have:=J.o;unfold eE at this;rw[if_pos q]at this;exact(Option.some.inj this).symm
    have d1:(i==id)=true:=by simpa using q
    subst d;subst q;go_wp2;go_roundw;case rel=>exact⟨k+1,f,l,by omega,by go_num,m.o,I.o,B,u⟩
    case measure=>simp[intOf];omega
   .by_cases K:i<=n
    .have d:F s1 i=some l:=by have:=J.o;unfold eE at this;rwa[if_neg q,if_pos K]at this
     have af:=HF.o s1 l wr f i S.o.1 S.o.2 q K m.o u.cl d;clear d;go_wp2_with fail;refine af.mono ?_;rintro e w4 ⟨rfl,o4,r4,M⟩;have R4:=hI r4;have S4:=B.fr M P.o;have M4:=u.tr M P.o;clear r4 M;go_wp2;go_roundw;case rel=>exact⟨k+1,o4,l,by omega,by go_num,R4.o,I.o,S4,M4⟩
     case measure=>simp[intOf];omega
    .have d:l=s1:=by have:=J.o;unfold eE at this;rw[if_neg q,if_neg K]at this;exact(Option.some.inj this).symm
     subst d;go_wp2;go_roundw;case rel=>exact⟨k+1,f,l,by omega,by go_num,m.o,I.o,B,u⟩
     case measure=>simp[intOf];omega
  .have d:s1=s':=by have:=O.o;rw[List.drop_of_length_le (by omega)]at this;exact Option.some.inj this
   subst d;go_wp2;refine bodyPost_end (v:=.tuple #[]) (by simp[results,Tryz.results136,go_sem]) rfl ?_;exact⟨rfl,f,m.o,u⟩
theorem Iv{x kf:Nat}{id n t:Int}(R:σ->World->Ow->Prop)(F:σ->Int->Option σ)(C:Nat->Prop)(Z:¬C 0)(ht:gS t)
  (ag:∀(W:Array Value) (w:World),(callFunc kf W).run Tryz.prog w=.ok (.enter kf W) w)
  (D:∀s w o,R s w o->w.cell? ⟨x,0,none⟩=some (.int .i64 id)/\w.cell? ⟨x,1,none⟩=some (.int .i64 n))
  (hE:∀s w g o,R s w o->db w g->R s g o)
  (hF:∀s s' w o i,dE i->dg t i=true->i≠id->i<=n->R s w o->Cl w o->F s i=some s'->Calls Tryz.prog kf #[a,.int .i64 i] w fun e g=>e=.returned (.tuple #[])/\∃z,R s' g z/\Fm C o z w g)
  {s s':σ}(G:Cl w o)(h:R s w o)(hf:dt (eE F id n) (ek.filter (dg t)) s=some s'):
  Calls Tryz.prog 136 #[de x,.int .i64 t,.func (.func kf) #[a] #[]] w fun e g=>e=.returned (.tuple #[])/\∃z,R s' g z/\Fm C o z w g:=by
 have T:=hI h;have HF:=hI hF;have HE:=hI hE;have Q:=hI D;have P:=hI Z;have H:=hI hf;clear h hF hE D Z hf;go_enter Tryz.func136,Tryz.ntmps136;go_wp2_with fail;refine(oZ t ht w).mono ?_;rintro e w2 ⟨p,X,rfl,o2,N⟩;have y:fJ 1 w2 o p (ek.filter (dg t)).length X ((ek.filter (dg t)).map jl):=fJ.fresh o2 G (Nat.le_refl _);have V:=hI (HE.o _ _ _ _ T.o N);have U:=Fm.ext (C:=C) G N;clear o2 N T G;obtain⟨c,sJ⟩:∃c,c=ek.filter (dg t):=⟨_,rfl⟩;have HI:Hid (∀i∈c,dE i/\dg t i=true):=hI (fun i j=>xI (by rw[<-sJ];exact j));rw[<-sJ]at y H⊢;clear sJ;have ah:c.length<=9223372036854775807:=Nat.le_trans y.sl.le y.sl.max;go_wp2;go_loopw [11] (fun i wr=>∃(k:Nat) (f:Ow) (s1:σ),k<=c.length/\i=.int .i64 (k:Int)/\R s1 wr f/\dt (eE F id n) (c.drop k) s1=some s'/\fJ 1 wr f p c.length X (c.map jl)/\Fm C o f w wr) (fun i _=>c.length-(intOf i).toNat);case atStart=>exact⟨0,o,s,by omega,rfl,V.o,H.o,y,U⟩
 case round=>
  obtain⟨k,f,s1,hk,rfl,r1,Y,B,u⟩:=hrel;have m:=hI r1;have O:=hI Y;clear r1 Y V y U H;by_cases E:k<c.length
  .obtain⟨i,j⟩:∃i,c[k]? =some i:=⟨_,List.getElem?_eq_getElem E⟩;obtain⟨b,A,L,cc⟩:∃b A,p=some ⟨b,A,none⟩/\wr.cell? ⟨b,A+k,none⟩=some (.int .i64 i):=by obtain⟨b,A,r,L,hr,-,D⟩:=B.sl.at k E;rw[List.getElem?_map,j]at hr;cases hr;have:=D 0 (.int .i64 i) rfl;exact⟨b,A,L,by simpa using this⟩
   obtain⟨ab,ac⟩:=HI.o i (List.mem_of_getElem? j);have S:=hI (And.intro ab ac);have aa:c.drop k=i::c.drop (k+1):=by rw[List.drop_eq_getElem_cons E];congr 1;rw[List.getElem?_eq_getElem E]at j;exact Option.some.inj j
   obtain⟨l,ae,ad⟩:=dy (by rw[<-aa];exact O.o);have J:=hI ae;have I:=hI ad;clear ae ad aa j ab ac;subst L;have c0:=(Q.o _ _ _ m.o).1;have c1:=(Q.o _ _ _ m.o).2;by_cases q:i=id
   .have d:l=s1:=by have:=J.o;unfold eE at this;rw[if_pos q]at this;exact(Option.some.inj this).symm
    have d1:(i==id)=true:=by simpa using q
    subst d;subst q;go_wp2;go_roundw;case rel=>exact⟨k+1,f,l,by omega,by go_num,m.o,I.o,B,u⟩
    case measure=>simp[intOf];omega
   .by_cases K:i<=n
    .have d:F s1 i=some l:=by have:=J.o;unfold eE at this;rwa[if_neg q,if_pos K]at this
     have af:=HF.o s1 l wr f i S.o.1 S.o.2 q K m.o u.cl d;clear d;go_wp2_with fail;refine af.mono ?_;rintro e w4 ⟨rfl,o4,r4,M⟩;have R4:=hI r4;have S4:=B.fr M P.o;have M4:=u.tr M P.o;clear r4 M;go_wp2;go_roundw;case rel=>exact⟨k+1,o4,l,by omega,by go_num,R4.o,I.o,S4,M4⟩
     case measure=>simp[intOf];omega
    .have d:l=s1:=by have:=J.o;unfold eE at this;rw[if_neg q,if_neg K]at this;exact(Option.some.inj this).symm
     subst d;go_wp2;go_roundw;case rel=>exact⟨k+1,f,l,by omega,by go_num,m.o,I.o,B,u⟩
     case measure=>simp[intOf];omega
  .have d:s1=s':=by have:=O.o;rw[List.drop_of_length_le (by omega)]at this;exact Option.some.inj this
   subst d;go_wp2;refine bodyPost_end (v:=.tuple #[]) (by simp[results,Tryz.results136,go_sem]) rfl ?_;exact⟨rfl,f,m.o,u⟩
end
end Go.Proofs.YtjhbmbbmjaabcaaGreat
