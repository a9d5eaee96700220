/-
  Contracts. Conditions stand at each.
-/
import Derived.Test.YtjhbmbbmjaabcaaGreatS30
import Derived.Test.YtjhbmbbmjaabcaaGreatS32
import Derived.Test.YtjhbmbbmjaabcaaGreatS33
set_option linter.all false
set_option maxRecDepth 8000
set_option maxHeartbeats 8000000
namespace Go.Proofs.YtjhbmbbmjaabcaaGreat
open Go Go.Sort Go.RowKit
section
def nZ(d:Nat):Prop:=iy d\/d=400
theorem jP:¬nZ 0:=by unfold nZ iy fF;omega
theorem kW:∀d,iy d->nZ d:=fun d h=> .inl h
abbrev KV(u:Nat):List Value:=[de u,.bool true]
structure mA (w:World) (o:Ow) (D u:Nat) (A:my) (L:dU):Prop where
 box:dq w o 400 D (KV u)
 lv:gJ w o u A L
variable{w G:World} {o N:Ow} {D u:Nat} {A A':my} {L L':dU}
theorem mA.ext(h:mA w o D u A L)(k:db w G):mA G o D u A L:=⟨h.box.ext k,h.lv.ext k⟩
theorem mA.go(h:mA w o D u A L)(k:Fm iy o N w G)(a:gJ G N u A' L'):mA G N D u A' L':=
 ⟨h.box.fr k (by decide) (by unfold iy fF;omega),a⟩
theorem Cs(h:Cl w o){n:Nat}(i:3<=n/\n<=7)(j:uF n=some L'):
  Calls Tryz.prog 15 #[.int .i64 (n:Int)] w fun e m=>∃D u k A',e=.returned (de D)/\mA m k D u A' L'/\Fm nZ o k w m:=by have g:=hI (tA h i j);clear h i j;go_enter Tryz.func15,Tryz.ntmps15;go_wp2_with fail;refine g.o.mono ?_;rintro e c ⟨u,l,f,rfl,h1,a⟩;have F:=Fm.made (C:=nZ) a.cl (.cells #[de u,.bool true] 33) 400;have B:=hI (dq.made c l 400 #[de u,.bool true] (KV u) 33 rfl);have b:=Fm.made (C:=fun _=>False) a.cl (.cells #[de u,.bool true] 33) 400;have p:Hid (gJ (c.alloc (.cells #[de u,.bool true] 33)) (gH l c.heap.size 400) u f L'):=hI ⟨h1.box.fr b (by decide) (fun e=>e),h1.q.fr b (fun d e=>e.elim)⟩;have q:=hI ((a.mono kW).tr F jP);clear h1 a F b g;go_wp2;go_ret;exact⟨_,u,_,f,rfl,⟨B.o,p.o⟩,q.o⟩
theorem zT:∀(l:List Nat) (L L':dU),dt pE l L=some L'->L'.W=L.W/\L'.n=L.n
 |[],L,L',h=>by cases h;exact⟨rfl,rfl⟩
 |t::l,L,L',h=>by
  obtain⟨V,h1,h2⟩:=dy h;obtain⟨a,b⟩:=zT l V L' h2;unfold pE at h1;split at h1;·cases h1
  .split at h1;·cases h1;exact⟨a,b⟩
   .cases h1
def rJ(s:Int)(L:dU)(v:Int)(i:Nat):Option Int:=if dg s (i:Int)then match L.W.sl[i-1]? with
  |some (.up x)=>if jH x&&(eC x&&(decide (x.mb=s)&&(decide (v=0)||decide (x.ls=v))))then some x.ls else none
  |_=>none
 else some v
def ES(s:Int)(L:dU):Bool:=(dt (rJ s L) (List.range' 1 L.n) 0).isSome&&(gB L&&(v8 L).isSome)
theorem Ge(ah:Cl w o)(h:mA w o D u A L){s:Int}(ak:gS s)(U:ES s L=true):
  Calls Tryz.prog 18 #[de D,.int .i64 s] w fun e w'=>e=.returned (.bool true)/\∃o' A' O,mA w' o' D u A' O/\v8 L=some O/\Fm nZ o o' w w':=by
 unfold ES at U;rw[Bool.and_eq_true,Bool.and_eq_true,Option.isSome_iff_exists,Option.isSome_iff_exists]at U;obtain⟨⟨v1,al⟩,ho,O,af⟩:=U;have H:=hI h;have HC:=hI ah;have HT:=hI ak;have HV:=hI al;have HO:=hI ho;have aa:=hI af;have ar:=h.lv.n7;clear ah h ak al ho af;go_enter Tryz.func18,Tryz.ntmps18;go_wp2;go_loopw [5,6] (fun v i wx=>∃(a:Nat) (d:Int),1<=a/\a<=L.n+1/\i=.int .i64 (a:Int)/\v=.int .i64 d/\dt (rJ s L) (List.range' a (L.n+1-a)) d=some v1/\db w wx) (fun _ i _=>L.n+1-(intOf i).toNat);case atStart=>exact⟨1,0,by omega,by omega,rfl,rfl,by rw[Nat.add_sub_cancel];exact HV.o,db.rfl' _⟩
 case round=>
  obtain⟨a,d,ag,aq,rfl,rfl,hf,t⟩:=hrel;have Z:=hI hf;have X:=hI t;have b:=hI (H.o.ext t);clear hf t HV;have p:=b.o.box.box.c 0 _ rfl;have q:=b.o.box.box.c 1 _ rfl;have J:=b.o.lv.box.box.c 1 _ rfl;have I:=b.o.lv.box.box.c 0 _ rfl;by_cases K:a<=L.n
  .have e5:decide ((a:Int)<=(L.n:Int))=true:=decide_eq_true (by omega);have ap:decide (a<=L.n)=true:=decide_eq_true K;have hr:=Z.o;rw[show L.n+1-a=(L.n+1-(a+1))+1 by omega,List.range'_succ]at hr;obtain⟨r,ht,ai⟩:=dy hr;have F:=hI ht;have E:=hI ai;have l:Hid (1<=a/\a<=L.W.n):=hI ⟨ag,by rw[b.o.lv.q.nn];exact K⟩;obtain⟨sd,aj,-⟩:=b.o.lv.q.wr.sl a l.o.1 l.o.2;have m:=hI aj;have RH:=hI (fun w=>mr s (a:Int) HT.o ⟨by omega,by omega⟩ w);clear hr ht ai Z aj;go_wp2_with fail;cases f:dg s (a:Int)
   .rw[f]at RH
    have j:Hid (d=r):=hI (by
     have:=F.o;unfold rJ at this;rw[f]at this
     simpa using this)
    clear f;cases sd with
    |dn bt dv=>
     refine(jR b.o.lv.q.wr l.o m.o).mono ?_;rintro e w9 ⟨rfl,rfl⟩;go_wp2_with fail;refine(RH.o _).mono ?_;rintro e an ⟨rfl,c⟩;have k:=hI (X.o.tr c);clear c p q I J;go_wp2;go_roundw;case rel=>exact⟨a+1,r,by omega,by omega,by go_num,by rw[j.o],E.o,k.o⟩
     case measure=>simp[intOf];omega
    |up x=>
     refine(eu b.o.lv.q.wr l.o m.o).mono ?_;rintro e w9 ⟨t,cc,AA,rfl,-,-,-,-,-,-,rfl⟩;go_wp2_with fail;refine(RH.o _).mono ?_;rintro e an ⟨rfl,c⟩;have k:=hI (X.o.tr c);clear c p q I J;go_wp2;go_roundw;case rel=>exact⟨a+1,r,by omega,by omega,by go_num,by rw[j.o],E.o,k.o⟩
     case measure=>simp[intOf];omega
   .rw[f]at RH;cases sd with
    |dn bt dv=>
     have:=F.o;unfold rJ at this;rw[f,m.o]at this;cases this
    |up x=>
     have g:=F.o;unfold rJ at g;rw[f,m.o]at g;simp only[if_true]at g;split at g;case isFalse=>cases g
     rename_i T;rw[Bool.and_eq_true,Bool.and_eq_true,Bool.and_eq_true,Bool.or_eq_true,decide_eq_true_eq,decide_eq_true_eq,decide_eq_true_eq]at T;have B:=hI T;have j:=hI (Option.some.inj g);clear g T f F;refine(eu b.o.lv.q.wr l.o m.o).mono ?_;rintro e w9 ⟨t,cc,AA,rfl,-,-,nd,-,-,-,rfl⟩;have ND:=hI nd;clear nd;go_wp2_with fail;refine(RH.o _).mono ?_;rintro e an ⟨rfl,c⟩;have Q:=hI (ND.o.ext c);have k:=hI (X.o.tr c);have M:=hI (mc Q.o);rw[B.o.1]at M;clear c ND X b p q I J;go_wp2_with fail;refine M.o.mono ?_;rintro e au ⟨rfl,V⟩;have ac:=hI (Q.o.ext V);have ad:=hI (k.o.tr V);have R:=hI (mg ac.o);rw[B.o.2.1,B.o.2.2.1]at R;clear V Q k M;go_wp2_with fail;refine R.o.mono ?_;rintro e av ⟨rfl,ao⟩;have ae:=hI (ad.o.tr ao);have q0:(s !=s)=false:=by simp
     clear ao ac ad R;simp only[if_true];obtain⟨xl,am⟩:∃z,x.ls=z:=⟨_,rfl⟩;have Y:=hI B.o.2.2.2;rw[am]at Y j⊢;clear am;by_cases n:d=0
     .have q1:(d !=0)=false:=by simpa using n
      clear n;go_wp2;go_roundw;case rel=>exact⟨a+1,r,by omega,by omega,by go_num,by rw[<-j.o],E.o,ae.o⟩
      case measure=>simp[intOf];omega
     .have q1:(d !=0)=true:=by simpa using n
      have q2:(xl !=d)=false:=by
       have h1:=Y.o;rcases h1 with h1|h1;·exact absurd h1 n
       .simpa using h1
      clear n;go_wp2;go_roundw;case rel=>exact⟨a+1,r,by omega,by omega,by go_num,by rw[<-j.o],E.o,ae.o⟩
      case measure=>simp[intOf];omega
  .have e5:decide ((a:Int)<=(L.n:Int))=false:=decide_eq_false (by omega);have ap:decide (a<=L.n)=false:=decide_eq_false K;have P:=hI (Fm.ext (C:=nZ) HC.o X.o);clear K ag aq;go_wp2_with fail;refine(El b.o.lv HO.o).mono ?_;rintro e w2 ⟨rfl,W⟩;have y:=hI (b.o.ext W);have M2:=hI (P.o.tr (Fm.ext P.o.cl W) jP);clear W b X p q P I J;have p:=y.o.box.box.c 0 _ rfl;have q:=y.o.box.box.c 1 _ rfl;go_wp2_with fail;refine(Bt M2.o.cl y.o.lv aa.o).mono ?_;rintro e w3 ⟨rfl,o3,A3,h3,S⟩;have H3:=hI (y.o.go S h3);have M3:=hI (M2.o.tr (S.mono kW) jP);clear S h3;go_wp2;go_ret;exact⟨rfl,o3,A3,_,H3.o,aa.o,M3.o⟩
end
section
theorem wG:∀(l:List Nat) (L L':dU),dt mQ l L=some L'->L'.n=L.n
 |[],L,L',h=>by cases h;rfl
 |t::l,L,L',h=>by
  obtain⟨V,h1,h2⟩:=dy h;exact(wG l V L' h2).trans (Ap h1)
variable{w N:World} {o D:Ow} {G u:Nat} {A A':my} {L L':dU}
end
theorem Jb{L L':dU}{W:Option eW}(h:(og L W).bind gE=some L'):L'.n=L.n:=by obtain⟨c,b,a⟩:=Option.bind_eq_some_iff.1 h;obtain⟨d,-,-,rfl⟩:=il b;exact(rs a).2
theorem IY{b:Bool}{k:Nat}{L L':dU}(h:ln b k L=some L'):L'.n=L.n:=Jb h
theorem IZ{L L':dU}(h:nX L=some L'):L'.n=L.n:=by
 unfold nX at h;split at h;·exact(rs h).2
 .cases h
end Go.Proofs.YtjhbmbbmjaabcaaGreat
