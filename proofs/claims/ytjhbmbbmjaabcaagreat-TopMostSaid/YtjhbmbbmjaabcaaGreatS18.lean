/-
  Contracts. Conditions stand at each.
-/
import Derived.Test.YtjhbmbbmjaabcaaGreatS16
set_option linter.all false
set_option maxRecDepth 8000
set_option maxHeartbeats 8000000
namespace Go.Proofs.YtjhbmbbmjaabcaaGreat
open Go Go.Sort Go.RowKit
section
def hA(s:dp)(e:dj):dj:={e with st:=if s.L.isEmpty then s.ck else ep s.ck (ib s.L).st}
def ip(s:dp)(e:dj):Option dp:=
 match kI s.L (hA s e)with
 |some a=>match s.q with
  |none=>none
  |some q=>if dg q.mb s.id then some {s with L:=a,q:=some (gM q s.id a.length 0)}else none
 |none=>if ec (hA s e)&&s.L.any (fun x=>dG x (hA s e))then some s else none
variable{w N:World} {o G:Ow} {k x D u:Nat} {A A':iS} {s s':dp}
theorem Ev{L L':List dj}{e:dj}(h:∀y∈L,ec y=true)(b:kI L e=some L'):∀y∈L',ec y=true:=by
 obtain⟨h1,-,-,-,rfl⟩:=kl b;intro y a;rcases List.mem_append.1 a with a|a;·exact h y a
 .simp at a;subst a;exact h1
theorem vT(ah:Cl w o)(hk:32<=k)(h:di w o k x D u A s){e:dj}(hs:ip s e=some s'):
  Calls Tryz.prog 140 #[de x,jT e] w fun r w'=>r=.returned (.tuple #[])/\∃o' A',di w' o' k x D u A' s'/\Fm (eh k) o o' w w':=by
 have HS:=hI hs;have i:=hI hk;obtain⟨O,P,Q,R,S,f6,T⟩:=e;have M0:Hid (Fm (fun _=>False) o (gH o w.heap.size (k+20)) w (w.alloc (.cells (dZ ⟨O,P,Q,R,S,f6,T⟩) 71))):=hI (Fm.made ah _ _);have EB:=hI (dq.made w o (k+20) (dZ ⟨O,P,Q,R,S,f6,T⟩) (dY ⟨O,P,Q,R,S,f6,T⟩) 71 rfl);have H:=hI (h.fr hk M0.o (fun e=>e) (fun d e=>e.elim));have M1:Hid (Fm (eh k) o (gH o w.heap.size (k+20)) w (w.alloc (.cells (dZ ⟨O,P,Q,R,S,f6,T⟩) 71))):=hI (M0.o.mono (fun d e=>e.elim));clear ah hk h hs M0;go_enter Tryz.func140,Tryz.ntmps140;go_upto_region 1 with fail;change Code.wp _ _ _ _ (w.alloc (.cells (dZ ⟨O,P,Q,R,S,f6,T⟩) 71));generalize w.alloc (.cells (dZ ⟨O,P,Q,R,S,f6,T⟩) 71)=w1 at*;generalize w.heap.size=eb at*;generalize gH o eb (k+20)=o1 at*;have c4:=H.o.c 4 _ rfl;have d5:=EB.o.box.c 5 _ rfl;have e5:=EB.o.box.f 5;go_upto_region 2 with fail;have F1:=hI (Fm.put (C:=one (k+20)) M1.o.cl EB.o (by have:=i.o;omega) rfl 5 (.int .i64 s.ck));have ab:Hid (dq (w1.setCell ⟨eb,5,none⟩ (.int .i64 s.ck)) o1 (k+20) eb (dY ⟨O,P,Q,R,S,s.ck,T⟩)):=hI (EB.o.put 5 (.int .i64 s.ck));replace H:=hI (H.o.fr i.o F1.o (by unfold one;omega) (fun d I=>by unfold one at I;unfold rD;omega));replace M1:=hI (M1.o.tr (F1.o.mono (fun d I=>by unfold one at I;unfold eh;omega)) (dw i.o));clear c4 d5 e5 F1 EB;generalize w1.setCell ⟨eb,5,none⟩ (.int .i64 s.ck)=w2 at*;obtain⟨f,U⟩:∃f,f=w2.drew:=⟨_,rfl⟩;have X2:Hid (db w2 f):=hI (by rw[U];exact db.drew w2);replace H:=hI (H.o.ext X2.o);replace ab:=hI (ab.o.ext X2.o);replace M1:=hI (M1.o.tr (Fm.ext M1.o.cl X2.o) (dw i.o));have r9:=fun(q:dN (db f))=>db.cell q.h (H.o.c 9 _ rfl);refine Lv (.one 0 (.one 1 (.one 2 (.one 3 (.one 4 (.one 5 (.one 6 (.one 7 (.two 8 (.two 9 (.one 10 (.one 11 (.one 12 (.one 13 (.one 14 (.one 15 .fin)))))) 13 (.one 9 (.one 10 (.one 11 (.one 12 (.one 14 (.one 15 .fin))))))) 13 (.one 8 (.one 9 (.one 10 (.one 11 (.one 12 (.one 14 (.one 15 .fin)))))))))))))))) (db f) (by rw[<-U];exact db.rfl' _) (fun _=>?_);rw[<-U];clear U X2;repeat((first|refine DG fun K a=>?_|refine DF fun K a=>?_);go_big_quiet_op;refine a _ ?_;clear a K)
 clear r9;have E:=hI (db.rfl' f);refine yq rfl rfl (by rfl) (by rfl) (fun K a=>?a1) (fun K a=>?b1)
 case' a1=>
  go_simp;refine(fP (H.o.ext E.o).q.lg).mono ?_;rintro r w9 ⟨rfl,rfl⟩;refine a (db f) _ _ (fun _ h=>h) E.o (fun _=>?_);clear a K;refine yq rfl rfl (by rfl) (by rfl) (fun K a=>?a2) (fun K a=>?b2)
  case' a2=>
   go_simp;refine(ql (H.o.ext E.o).q.lg).mono ?_;rintro r v6 ⟨rfl,x9⟩;replace E:=hI (E.o.tr x9);refine a (db f) _ _ (fun _ h=>h) E.o (fun _=>?_);clear a K x9;repeat((first|refine DG fun K a=>?_|refine DF fun K a=>?_);go_big_quiet_op;refine a _ ?_;clear a K)
   repeat((first|refine DG fun K a=>?_|refine DF fun K a=>?_);go_big_quiet_op;refine a _ ?_;clear a K)
   refine DE fun K a=>?_;go_simp;have V:=hI (db.alloc v6 (.cells (dZ dx) 71));obtain⟨j,M⟩:∃j,j=v6.heap.size:=⟨_,rfl⟩;have b:=hI (dK.new v6 f.heap.size (dZ dx) (dY dx) 71 j M (by rw[M];exact E.o.size) rfl);refine a (db f) _ _ (fun _ h=>h) (E.o.tr V.o) (fun _=>?_);clear a K;change RF _ _ _ _ _ _ (v6.alloc (.cells (dZ dx) 71));replace E:=hI (E.o.tr V.o);rw[<-M];clear V M;generalize v6.alloc (.cells (dZ dx) 71)=Z at*;have b0:=b.o.c 0 _ rfl;have b1:=b.o.c 1 _ rfl;have b2:=b.o.c 2 _ rfl;have b3:=b.o.c 3 _ rfl;have b4:=b.o.c 4 _ rfl;have b5:=b.o.c 5 _ rfl;have b6:=b.o.c 6 _ rfl;have bf:=b.o.f;obtain⟨⟨n,p,t,z,B,g,F⟩,Y⟩:∃le,le=ib s.L:=⟨_,rfl⟩;rw[<-Y];have LE:=hI Y;clear Y;refine DE fun K a=>?_;go_simp;have FX:Hid (db f (dL Z j 0 (dY ⟨n,p,t,z,B,g,F⟩))):=hI (eL E.o b.o.lo (dY ⟨n,p,t,z,B,g,F⟩) 0);have FB:=hI (b.o.fill (vs:=dY ⟨n,p,t,z,B,g,F⟩) (Nat.le_refl _));refine a (db f) _ (dL Z j 0 (dY ⟨n,p,t,z,B,g,F⟩)) (fun _ h=>h) FX.o (fun _=>?_);clear a K bf b0 b1 b2 b3 b4 b5 b6 E b;generalize dL Z j 0 (dY ⟨n,p,t,z,B,g,F⟩)=v9 at*;repeat((first|refine DG fun K a=>?_|refine DF fun K a=>?_);go_big_quiet_op;refine a _ ?_;clear a K)
   refine rO ?_
  case' b2=>
   go_simp;have V:=hI (db.alloc f (.cells (dZ dx) 71));obtain⟨j,M⟩:∃j,j=f.heap.size:=⟨_,rfl⟩;have b:=hI (dK.new f f.heap.size (dZ dx) (dY dx) 71 j M (by rw[M];exact E.o.size) rfl);refine a (db f) _ _ (fun _ h=>h) (E.o.tr V.o) (fun _=>?_);clear a K;change RF _ _ _ _ _ _ (f.alloc (.cells (dZ dx) 71));replace E:=hI (E.o.tr V.o);rw[<-M];clear V M;generalize f.alloc (.cells (dZ dx) 71)=v6 at*;refine DE fun K a=>?_;go_simp;refine(ql (H.o.ext E.o).q.lg).mono ?_;rintro r Z ⟨rfl,x9⟩;replace b:=hI (b.o.ext x9);replace E:=hI (E.o.tr x9);refine a (db f) _ _ (fun _ h=>h) E.o (fun _=>?_);clear a K x9;repeat((first|refine DG fun K a=>?_|refine DF fun K a=>?_);go_big_quiet_op;refine a _ ?_;clear a K)
   have b0:=b.o.c 0 _ rfl;have b1:=b.o.c 1 _ rfl;have b2:=b.o.c 2 _ rfl;have b3:=b.o.c 3 _ rfl;have b4:=b.o.c 4 _ rfl;have b5:=b.o.c 5 _ rfl;have b6:=b.o.c 6 _ rfl;have bf:=b.o.f;obtain⟨⟨n,p,t,z,B,g,F⟩,Y⟩:∃le,le=ib s.L:=⟨_,rfl⟩;rw[<-Y];have LE:=hI Y;clear Y;refine DE fun K a=>?_;go_simp;have FX:Hid (db f (dL Z j 0 (dY ⟨n,p,t,z,B,g,F⟩))):=hI (eL E.o b.o.lo (dY ⟨n,p,t,z,B,g,F⟩) 0);have FB:=hI (b.o.fill (vs:=dY ⟨n,p,t,z,B,g,F⟩) (Nat.le_refl _));refine a (db f) _ (dL Z j 0 (dY ⟨n,p,t,z,B,g,F⟩)) (fun _ h=>h) FX.o (fun _=>?_);clear a K bf b0 b1 b2 b3 b4 b5 b6 E b;generalize dL Z j 0 (dY ⟨n,p,t,z,B,g,F⟩)=v9 at*;repeat((first|refine DG fun K a=>?_|refine DF fun K a=>?_);go_big_quiet_op;refine a _ ?_;clear a K)
   refine rO ?_
 case' b1=>
  go_simp;have V:=hI (db.alloc f (.cells (dZ dx) 71));obtain⟨j,M⟩:∃j,j=f.heap.size:=⟨_,rfl⟩;have b:=hI (dK.new f f.heap.size (dZ dx) (dY dx) 71 j M (by rw[M];exact E.o.size) rfl);refine a (db f) _ _ (fun _ h=>h) (E.o.tr V.o) (fun _=>?_);clear a K;change RF _ _ _ _ _ _ (f.alloc (.cells (dZ dx) 71));replace E:=hI (E.o.tr V.o);rw[<-M];clear V M;generalize f.alloc (.cells (dZ dx) 71)=v5 at*;refine DE fun K a=>?_;go_simp;refine(fP (H.o.ext E.o).q.lg).mono ?_;rintro r w9 ⟨rfl,rfl⟩;refine a (db f) _ _ (fun _ h=>h) E.o (fun _=>?_);clear a K;refine DE fun K a=>?_;go_simp;refine(ql (H.o.ext E.o).q.lg).mono ?_;rintro r Z ⟨rfl,x9⟩;replace b:=hI (b.o.ext x9);replace E:=hI (E.o.tr x9);refine a (db f) _ _ (fun _ h=>h) E.o (fun _=>?_);clear a K x9;repeat((first|refine DG fun K a=>?_|refine DF fun K a=>?_);go_big_quiet_op;refine a _ ?_;clear a K)
  have b0:=b.o.c 0 _ rfl;have b1:=b.o.c 1 _ rfl;have b2:=b.o.c 2 _ rfl;have b3:=b.o.c 3 _ rfl;have b4:=b.o.c 4 _ rfl;have b5:=b.o.c 5 _ rfl;have b6:=b.o.c 6 _ rfl;have bf:=b.o.f;obtain⟨⟨n,p,t,z,B,g,F⟩,Y⟩:∃le,le=ib s.L:=⟨_,rfl⟩;rw[<-Y];have LE:=hI Y;clear Y;refine DE fun K a=>?_;go_simp;have FX:Hid (db f (dL Z j 0 (dY ⟨n,p,t,z,B,g,F⟩))):=hI (eL E.o b.o.lo (dY ⟨n,p,t,z,B,g,F⟩) 0);have FB:=hI (b.o.fill (vs:=dY ⟨n,p,t,z,B,g,F⟩) (Nat.le_refl _));refine a (db f) _ (dL Z j 0 (dY ⟨n,p,t,z,B,g,F⟩)) (fun _ h=>h) FX.o (fun _=>?_);clear a K bf b0 b1 b2 b3 b4 b5 b6 E b;generalize dL Z j 0 (dY ⟨n,p,t,z,B,g,F⟩)=v9 at*;repeat((first|refine DG fun K a=>?_|refine DF fun K a=>?_);go_big_quiet_op;refine a _ ?_;clear a K)
  refine rO ?_
 all_goals
  have H9:=hI (H.o.ext FX.o);have E9:=hI (ab.o.ext FX.o);have M9:=hI (M1.o.tr (Fm.ext M1.o.cl FX.o) (dw i.o));have t5:=FB.o.c 5 _ rfl;have d5:=E9.o.box.c 5 _ rfl;have ag:=E9.o.box.f 5;clear FX H ab M1 FB;cases hL:s.L.isEmpty
  case' false=>
   have ae:Hid (hA s ⟨O,P,Q,R,S,f6,T⟩=⟨O,P,Q,R,S,if s.ck<g then g else s.ck,T⟩):=hI (by
    unfold hA ep
    rw[hL,<-LE.o]
    rfl)
   go_upto_region 5 with fail;have P9:=hI (Fm.put (C:=one (k+20)) M9.o.cl E9.o (by have:=i.o;omega) rfl 5 (.int .i64 (if s.ck<g then g else s.ck)));have W:Hid (dq (v9.setCell ⟨eb,5,none⟩ (.int .i64 (if s.ck<g then g else s.ck))) o1 (k+20) eb (dY ⟨O,P,Q,R,S,if s.ck<g then g else s.ck,T⟩)):=hI (E9.o.put 5 (.int .i64 (if s.ck<g then g else s.ck)));have X:=hI (H9.o.fr i.o P9.o (by unfold one;omega) (fun d I=>by unfold one at I;unfold rD;omega));have MU:=hI (M9.o.tr (P9.o.mono (fun d I=>by unfold one at I;unfold eh;omega)) (dw i.o));clear P9 E9 H9 M9 t5 d5 ag hL;generalize(if s.ck<g then g else s.ck)=st at*;generalize v9.setCell ⟨eb,5,none⟩ (.int .i64 st)=u9 at*
  case' true=>
   have ae:Hid (hA s ⟨O,P,Q,R,S,f6,T⟩=⟨O,P,Q,R,S,s.ck,T⟩):=hI (by
    unfold hA
    rw[hL]
    rfl)
   have W:=E9;have X:=H9;have MU:=M9;clear E9 H9 M9 t5 d5 ag hL;obtain⟨u9,hu⟩:∃u9,u9=v9:=⟨_,rfl⟩;subst hu;generalize s.ck=st at ae W⊢
  all_goals
   go_upto_region 5 with fail
   obtain⟨WU,U⟩:∃WU,WU=u9.drew:=⟨_,rfl⟩
   have XU:Hid (db u9 WU):=hI (by rw[U];exact db.drew u9)
   replace X:=hI (X.o.ext XU.o)
   replace W:=hI (W.o.ext XU.o)
   have g9:=X.o.g 9 _ rfl
   have q0:=fun d J=>db.cell (db.reg WU d J) (W.o.box.c 0 _ rfl)
   have q1:=fun d J=>db.cell (db.reg WU d J) (W.o.box.c 1 _ rfl)
   have q2:=fun d J=>db.cell (db.reg WU d J) (W.o.box.c 2 _ rfl)
   have q3:=fun d J=>db.cell (db.reg WU d J) (W.o.box.c 3 _ rfl)
   have q4:=fun d J=>db.cell (db.reg WU d J) (W.o.box.c 4 _ rfl)
   have q5:=fun d J=>db.cell (db.reg WU d J) (W.o.box.c 5 _ rfl)
   have q6:=fun d J=>db.cell (db.reg WU d J) (W.o.box.c 6 _ rfl)
   refine eA [0,1,2,3,4] [5] ?_
   rw[<-U]
   clear U
   repeat((first|refine dC fun K a=>?_|refine dB fun K a=>?_);go_big_quiet_op;refine a _ ?_;clear a K)
   clear g9 q0 q1 q2 q3 q4 q5 q6
   refine dh ?_
   refine iD fun K a=>?_
   go_simp
   have m:=HS.o
   unfold ip at m
   rw[ae.o]at m
   have CU:=hI (MU.o.cl.ext XU.o)
   cases aa:kI s.L (⟨O,P,Q,R,S,st,T⟩)with
   |some L'=>
    rw[aa]at m
    simp only at m
    cases hq:s.q with
    |none=>rw[hq]at m;cases m
    |some q=>
    rw[hq]at m
    simp only at m
    split at m
    case isFalse=>cases m
    rename_i ai
    obtain rfl:=Option.some.inj m
    have HQ:=hI hq
    have am:=hI ai
    have ad:=hI aa
    clear m hq ai aa
    refine(rm (c:=k+2) CU.o X.o.q.lg (by have:=i.o;omega) (iR (kl ad.o).1) ad.o).mono ?_
    rintro r w6 ⟨o6,rfl,ak,m6⟩
    obtain⟨N6,F6⟩:=di.mod0 (A':=A) (s':={s with L:=L'}) i.o X.o m6 (fun d I=>by unfold two at I;unfold eh;omega) (X.o.q.set_lg i.o ak m6 (fun d I=>by unfold two at I;omega)) rfl {X.o.ok with L:=(fun y hy=>Ev X.o.ok.L ad.o y hy)}
    have l:=hI N6
    have M6:=hI ((MU.o.tr (Fm.ext MU.o.cl XU.o) (dw i.o)).tr F6 (dw i.o))
    clear ak m6 N6 F6 CU
    refine a _ _ ?_
    clear a K
    refine df ?_
    obtain⟨qg,aj,hQ⟩:∃qg,A.q=some qg/\ol w6 o6 (k+14) qg q:=by
     have:=l.o.q.qu;rw[show({s with L:=L'}:dp).q=some q from HQ.o]at this;exact this
    have QU:=hI hQ
    have af:=hI aj
    clear hQ aj
    go_upto_region 6 with fail
    obtain⟨ac,U⟩:∃ac,ac=w6.drew:=⟨_,rfl⟩
    have X6:Hid (db w6 ac):=hI (by rw[U];exact db.drew w6)
    replace l:=hI (l.o.ext X6.o)
    replace QU:=hI (QU.o.ext X6.o)
    have g0:=l.o.g 0 _ rfl
    have g9:=l.o.g 9 _ rfl
    have an:∀d J,(grow (redrawn ac d) J).cell? ⟨x,21,none⟩=some (de qg):=by
     have:=l.o.g 21 _ rfl;rw[af.o]at this;exact this
    refine eA [0,1,2,3,4,5,6,7,8,9,10,11,12] [13] ?_
    rw[<-U]
    clear U
    repeat((first|refine dC fun K a=>?_|refine dB fun K a=>?_);go_big_quiet_op;refine a _ ?_;clear a K)
    refine eF fun K a=>?_
    go_simp
    refine(fP l.o.q.lg).mono ?_
    rintro r w7 ⟨rfl,rfl⟩
    refine a _ _ (db.rfl' _) ?_;clear a K
    repeat((first|refine dC fun K a=>?_|refine dB fun K a=>?_);go_big_quiet_op;refine a _ ?_;clear a K)
    refine dh ?_
    refine iD fun K a=>?_
    go_simp
    refine(rL (M6.o.cl.ext X6.o) QU.o (by have:=i.o;omega) ⟨l.o.ok.id.1,by have h1:=l.o.ok.id.2;have h2:=l.o.ok.n.2;omega⟩ (by have h1:L'.length<=60:=ge.max l.o.q.lg;omega) am.o).mono ?_
    rintro r w8 ⟨rfl,al,m8⟩
    obtain⟨N8,F8⟩:=di.mod0 (A':=A) (s':={s with L:=L',q:=some (gM q s.id L'.length 0)}) i.o l.o m8 (fun d I=>by unfold one at I;unfold eh;omega) (l.o.q.set_qu i.o ⟨qg,af.o,al⟩ m8 (fun d I=> .inl I)) rfl {l.o.ok with id:=l.o.ok.id}
    have H8:=hI N8
    have M8:=hI ((M6.o.tr (Fm.ext M6.o.cl X6.o) (dw i.o)).tr F8 (dw i.o))
    clear al m8 N8 F8
    refine a _ _ ?_
    clear a K
    refine df ?_
    go_wp2
    refine bodyPost_end (v:=.tuple #[]) (by simp[results,Tryz.results140,go_sem]) rfl ?_
    first|exact⟨rfl,_,_,H8.o,M8.o⟩|exact⟨rfl,_,⟨_,H8.o⟩,M8.o⟩
   |none=>
    rw[aa]at m;simp only at m;split at m;case isFalse=>cases m
    rename_i hm;obtain rfl:=Option.some.inj m;rw[Bool.and_eq_true]at hm;have HM:=hI hm;clear m hm aa;refine(Hw X.o.q.lg (iR HM.o.1) HM.o.1 HM.o.2).mono ?_;rintro r w6 ⟨rfl,x6⟩;have l:=hI (X.o.ext x6);have M6:=hI ((MU.o.tr (Fm.ext MU.o.cl XU.o) (dw i.o)).tr (Fm.ext CU.o x6) (dw i.o));clear x6;refine a _ _ ?_;clear a K;refine df ?_;go_wp2;refine bodyPost_end (v:=.tuple #[]) (by simp[results,Tryz.results140,go_sem]) rfl ?_;first|exact⟨rfl,_,_,l.o,M6.o⟩|exact⟨rfl,_,⟨_,l.o⟩,M6.o⟩
end
end Go.Proofs.YtjhbmbbmjaabcaaGreat
