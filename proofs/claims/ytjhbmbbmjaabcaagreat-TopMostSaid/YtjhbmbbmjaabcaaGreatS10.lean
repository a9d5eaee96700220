/-
  Contracts. Conditions stand at each.
-/
import Derived.Maps.OwnSet
import Derived.Lib.Bytealg
import Derived.Deep.DeepCutAuto
import Derived.Test.YtjhbmbbmjaabcaaGreatS9
set_option linter.all false
set_option maxRecDepth 8000
set_option maxHeartbeats 8000000
namespace Go.Proofs.YtjhbmbbmjaabcaaGreat
open Go Go.Sort Go.RowKit
structure ua where
 all:Bool
 o0:Bool
 o1:Bool
 o2:Bool
def Ln(s:ua):List Value:=[.bool s.all,.bool s.o0,.bool s.o1,.bool s.o2]
abbrev Fv(s:ua):Array Value:=#[.bool s.all,.bool s.o0,.bool s.o1,.bool s.o2]
abbrev LJ(s:ua):Value:=.agg (Fv s)
def sP(s:ua)(e:dj)(k cm now:Int):Bool:=
 if e.lv≠0/\cm<k then false
 else if e.lv=2/\s.all=false then false
 else if e.od=1 then s.o1
 else if e.od=2 then s.o2&&(decide (e.st<now)&&decide (3<=now-e.st))
 else true
theorem wm{w:World}{s:ua}{e:dj}{k cm now:Int}(A:0<=now/\now<=1099511627776)(B:0<=e.st/\e.st<=1099511627776):
  Calls Tryz.prog 196 #[LJ s,jT e,.int .i64 k,.int .i64 cm,.int .i64 now] w fun r C=>r=.returned (.bool (sP s e k cm now))/\db w C:=by
 obtain⟨E,F⟩:=A;obtain⟨G,H⟩:=B;obtain⟨a,b,c,d,f,g,h⟩:=e;obtain⟨s1,i,j,l⟩:=s;simp only at*;have o:=hI (db.alloc w (.cells (Fv ⟨s1,i,j,l⟩) 243));have p:=hI (o.o.tr (db.alloc _ (.cells (dZ ⟨a,b,c,d,f,g,h⟩) 71)));have m:=hI ((dK.new w 0 (Fv ⟨s1,i,j,l⟩) (Ln ⟨s1,i,j,l⟩) 243 _ rfl (Nat.zero_le _) rfl).ext (db.alloc _ (.cells (dZ ⟨a,b,c,d,f,g,h⟩) 71)));have n:=hI (dK.new (w.alloc (.cells (Fv ⟨s1,i,j,l⟩) 243)) 0 (dZ ⟨a,b,c,d,f,g,h⟩) (dY ⟨a,b,c,d,f,g,h⟩) 71 (w.heap.size+1) (by simp) (Nat.zero_le _) rfl);go_enter Tryz.func196,Tryz.ntmps196;go_upto_region 1 with fail;change Code.wp _ _ _ _ ((w.alloc (.cells (Fv ⟨s1,i,j,l⟩) 243)).alloc (.cells (dZ ⟨a,b,c,d,f,g,h⟩) 71));generalize(w.alloc (.cells (Fv ⟨s1,i,j,l⟩) 243)).alloc (.cells (dZ ⟨a,b,c,d,f,g,h⟩) 71)=I at*;generalize w.heap.size+1=b1 at*;generalize w.heap.size=D at*;have q:=m.o.c 0 _ rfl;have t:=m.o.c 1 _ rfl;have u:=m.o.c 2 _ rfl;have v:=m.o.c 3 _ rfl;have x:=n.o.c 3 _ rfl;have y:=n.o.c 4 _ rfl;have z:=n.o.c 5 _ rfl;simp only at q t u v x y z;clear m n o;go_wp2_with fail
 all_goals
  go_ret;refine⟨?_,p.o⟩;clear q t u v x y z p;simp only[sP];try subst_vars
  try simp_all
  try omega
section
variable{u:Bool} {o:Ow} {w:World}
abbrev LH(me n bt a:Int)(m:dz)(p:Option Addr)(z cap:Nat)(u:Bool):List Value:=.int .i64 me:: .int .i64 n:: .int .i64 bt:: .int .i64 a::(gt m p z cap++[.bool u])
def CS(w:World)(o:Ow)(c g:Nat)(me n bt b:Int)(u:Bool):Prop:=∃m p z a,dq w o c g (LH me n bt b m p z a u)
theorem CS.fr{C:Nat->Prop}{d:World}{a:Ow}{c g:Nat}{me n bt b:Int}(h:CS w o c g me n bt b u)(k:Fm C o a w d)(h1:1<c)(f:¬C c):CS d a c g me n bt b u:=by obtain⟨m,p,z,e,h⟩:=h;exact⟨m,p,z,e,h.fr k (by omega) f⟩
theorem CS.ext{b:World}{c g:Nat}{me n bt a:Int}(h:CS w o c g me n bt a u)(k:db w b):CS b o c g me n bt a u:=by obtain⟨m,p,z,d,h⟩:=h;exact⟨m,p,z,d,h.ext k⟩
theorem Ec(H:Cl w o)(c:Nat)(C:Nat->Prop){me n bt a:Int}(b:3<=n/\n<=7)(j:1<=me/\me<=n)(h:1<=bt/\bt<=1099511627776)(k:0<=a/\a<=1099511627776):
  Calls Tryz.prog 132 #[.int .i64 me,.int .i64 n,.int .i64 bt,.int .i64 a] w fun e f=>∃d,e=.returned (.pointer (some ⟨w.heap.size,0,none⟩))/\CS f d c w.heap.size me n bt a false/\Fm C o d w f:=by
 have T:=gn 1 n (by omega) b w;have i:¬dJ 1 n=0:=by simp[dJ]
 have g:=hI i;obtain⟨z,A⟩:=b;obtain⟨x,y⟩:=j;obtain⟨b1,b2⟩:=h;obtain⟨B,D⟩:=k;have m:=dF (me<1);have p:=dF (n<me);have q:=dF (bt<1);have r:=dF (1099511627776<bt);have s:=dF (a<0);have t:=dF (1099511627776<a);go_enter Tryz.func132,Tryz.ntmps132;go_wp2_with fail;refine T.mono ?_;clear T;rintro e E ⟨rfl,rfl⟩;generalize dJ 1 n=l at*;have v:=g.o;go_wp2;go_ret;exact⟨_,rfl,⟨dA,none,0,0,dq.made w o c _ _ _ rfl⟩,Fm.made H _ c⟩
end
section
structure lr where
 n:Int
 mb:Int
 me:Int
 hv:List Int
 pr:List Int
 la:Int
variable{x:lr} {w:World} {o:Ow} {i c g:Nat} {v:Int}
def ia(l:List Int):List Value:=l.map (Value.int .i64)
def u7(x:lr):List Value:=[.int .i64 x.n,.int .i64 x.mb,.int .i64 x.me]++(ia x.hv++(ia x.pr++[.int .i64 x.la]))
structure vd (x:lr):Prop where
 n:3<=x.n/\x.n<=7
 mb:gS x.mb
 me:dE x.me
 hl:x.hv.length=8
 pl:x.pr.length=8
 la:0<=x.la/\x.la<=1099511627776
structure ol (w:World) (o:Ow) (c g:Nat) (x:lr):Prop where
 box:dq w o c g (u7 x)
 ok:vd x
theorem ol.fr{C:Nat->Prop}{b:World}{a:Ow}(h:ol w o c g x)(k:Fm C o a w b)(h1:1<c)(d:¬C c):ol b a c g x:=⟨h.box.fr k (by omega) d,h.ok⟩
theorem ol.ext{a:World}(h:ol w o c g x)(k:db w a):ol a o c g x:=⟨h.box.ext k,h.ok⟩
def one(c:Nat):Nat->Prop:=fun d=>d=c
theorem fN(l:List Int):(ia l).length=l.length:=by simp[ia]
theorem iQ{l:List Int}(h:l[i]? =some v):(ia l)[i]? =some (.int .i64 v):=by unfold ia;rw[List.getElem?_map,h];rfl
theorem jM(h:x.hv[i]? =some v):(u7 x)[3+i]? =some (.int .i64 v):=by have a:i<x.hv.length:=(List.getElem?_eq_some_iff.1 h).1;unfold u7;rw[List.getElem?_append_right (by simp),List.getElem?_append_left (by simp[fN];omega)];simp only[List.length_cons,List.length_nil];rw[show 3+i-(0+1+1+1)=i by omega];exact iQ h
theorem i'(ok:vd x)(h:x.pr[i]? =some v):(u7 x)[11+i]? =some (.int .i64 v):=by have a:i<x.pr.length:=(List.getElem?_eq_some_iff.1 h).1;have:=ok.hl;unfold u7;rw[List.getElem?_append_right (by simp;omega),List.getElem?_append_right (by simp[fN];omega),List.getElem?_append_left (by simp[fN];omega)];simp only[List.length_cons,List.length_nil,fN];rw[show 11+i-(0+1+1+1)-x.hv.length=i by omega];exact iQ h
theorem rM(ok:vd x):(u7 x)[19]? =some (.int .i64 x.la):=by have:=ok.hl;have:=ok.pl;unfold u7;rw[List.getElem?_append_right (by simp),List.getElem?_append_right (by simp[fN];omega),List.getElem?_append_right (by simp[fN];omega)];simp only[List.length_cons,List.length_nil,fN];rw[show 19-(0+1+1+1)-x.hv.length-x.pr.length=0 by omega];rfl
theorem nL(l:List Int)(i:Nat)(v:Int):ia (l.set i v)=(ia l).set i (.int .i64 v):=by unfold ia;rw[List.map_set]
theorem Fd(v:Int)(a:i<x.hv.length):(u7 x).set (3+i) (.int .i64 v)=u7 {x with hv:=x.hv.set i v}:=by unfold u7;rw[List.set_append_right _ _ (by simp),List.set_append_left _ _ (by simp[fN];omega)];simp only[List.length_cons,List.length_nil];rw[show 3+i-(0+1+1+1)=i by omega,nL]
theorem wl(v:Int)(ok:vd x)(a:i<x.pr.length):(u7 x).set (11+i) (.int .i64 v)=u7 {x with pr:=x.pr.set i v}:=by have:=ok.hl;unfold u7;rw[List.set_append_right _ _ (by simp;omega),List.set_append_right _ _ (by simp[fN];omega),List.set_append_left _ _ (by simp[fN];omega)];simp only[List.length_cons,List.length_nil,fN];rw[show 11+i-(0+1+1+1)-x.hv.length=i by omega,nL]
theorem Fe(v:Int)(ok:vd x):(u7 x).set 19 (.int .i64 v)=u7 {x with la:=v}:=by have:=ok.hl;have:=ok.pl;unfold u7;rw[List.set_append_right _ _ (by simp),List.set_append_right _ _ (by simp[fN];omega),List.set_append_right _ _ (by simp[fN];omega)];simp only[List.length_cons,List.length_nil,fN];rw[show 19-(0+1+1+1)-x.hv.length-x.pr.length=0 by omega];rfl
def nc(n mb me:Int):lr:=⟨n,mb,me,List.replicate 8 0,List.replicate 8 0,0⟩
theorem Fc(H:Cl w o)(c:Nat)(C:Nat->Prop){n mb me:Int}(f:3<=n/\n<=7)(a:gS mb)(d:dE me)(j:dX mb n=true)(h:dg mb me=true):
  Calls Tryz.prog 170 #[.int .i64 n,.int .i64 mb,.int .i64 me] w fun e b=>∃k,e=.returned (.pointer (some ⟨w.heap.size,0,none⟩))/\ol b k c w.heap.size (nc n mb me)/\Fm C o k w b:=by have A:=pa mb n a f w;have B:=fT mb me a d w;rw[j]at A;rw[h]at B;have l:vd (nc n mb me):=⟨f,a,d,rfl,rfl,by simp[nc]⟩;clear f a d j h;go_enter Tryz.func170,Tryz.ntmps170;go_wp2_with fail;refine A.mono ?_;rintro e b ⟨rfl,rfl⟩;go_wp2_with fail;refine B.mono ?_;rintro e b ⟨rfl,rfl⟩;go_wp2;go_ret;exact⟨_,rfl,⟨dq.made w o c _ _ _ rfl,l⟩,Fm.made H _ c⟩
theorem wk{i:Int}(h:ol w o c g x)(a:dE i):
  Calls Tryz.prog 175 #[.pointer (some ⟨g,0,none⟩),.int .i64 i] w fun e b=>e=.returned (.bool (dg x.mb i))/\w=b:=by have B:=fT x.mb i h.ok.mb a w;have d:w.cell? ⟨g,1,none⟩=some (.int .i64 x.mb):=h.box.box.c 1 _ rfl;clear h a;go_enter Tryz.func175,Tryz.ntmps175;go_wp2_with fail;refine B.mono ?_;rintro e b ⟨rfl,rfl⟩;go_wp2;go_ret;exact⟨rfl,rfl⟩
theorem BZ(h:ol w o c g x):
  Calls Tryz.prog 184 #[.pointer (some ⟨g,0,none⟩)] w fun e a=>e=.returned (.int .i64 x.la)/\w=a:=by have b:w.cell? ⟨g,19,none⟩=some (.int .i64 x.la):=h.box.box.c 19 _ (rM h.ok);clear h;go_enter Tryz.func184,Tryz.ntmps184;go_wp2;go_ret;exact⟨rfl,rfl⟩
def fy(x:lr)(i:Int):Int:=if dg x.mb i then x.hv.getD i.toNat 0 else 0
theorem BY{i:Int}(h:ol w o c g x)(f:dE i):
  Calls Tryz.prog 146 #[.pointer (some ⟨g,0,none⟩),.int .i64 i] w fun e d=>e=.returned (.int .i64 (fy x i))/\w=d:=by
 have A:=wk h f;have j:=h.ok.hl;obtain⟨m,n⟩:=f;obtain⟨k,rfl⟩:∃k:Nat,i=(k:Int):=⟨i.toNat,by omega⟩;obtain⟨v,b⟩:∃v,x.hv[k]? =some v:=⟨x.hv[k]'(by omega),List.getElem?_eq_getElem _⟩;have l:w.cell? ⟨g,3+k,none⟩=some (.int .i64 v):=h.box.box.c _ _ (jM b);have e:fy x (k:Int)=if dg x.mb (k:Int)then v else 0:=by unfold fy;rw[Int.toNat_natCast,List.getD_eq_getElem?_getD,b];rfl
 rw[e];have k8:(k:Int)<8:=by omega
 have p:k<8:=by omega
 clear h e b j;cases a:dg x.mb (k:Int);·rw[a]at A;clear a;go_enter Tryz.func146,Tryz.ntmps146;go_wp2_with fail;refine A.mono ?_;rintro e d ⟨rfl,rfl⟩;go_wp2;go_ret;exact⟨rfl,rfl⟩
 .rw[a]at A;clear a;go_enter Tryz.func146,Tryz.ntmps146;go_wp2_with fail;refine A.mono ?_;rintro e d ⟨rfl,rfl⟩;go_wp2;go_ret;exact⟨rfl,rfl⟩
def ep(a b:Int):Int:=if a<b then b else a
def gM(x:lr)(i b a:Int):lr:=
 {x with hv:=x.hv.set i.toNat (ep (x.hv.getD i.toNat 0) b),pr:=if a<=x.la then x.pr.set i.toNat (ep (x.pr.getD i.toNat 0) a)else x.pr}
theorem rL{i a b:Int}(I:Cl w o)(H:ol w o c g x)(h1:1<c)(M:dE i)(R:0<=a/\a<=60)(N:dg x.mb i=true):
  Calls Tryz.prog 171 #[.pointer (some ⟨g,0,none⟩),.int .i64 i,.int .i64 a,.int .i64 b] w fun e E=>e=.returned (.bool true)/\ol E o c g (gM x i a b)/\Fm (one c) o o w E:=by
 have A:=wk H M;rw[N]at A;have d:=H.ok;obtain⟨Y,Z⟩:=M;obtain⟨a1,a2⟩:=R;obtain⟨k,rfl⟩:∃k:Nat,i=(k:Int):=⟨i.toNat,by omega⟩;have k8:(k:Int)<8:=by omega
 have aa:k<8:=by omega
 have l:=hI h1;obtain⟨v,j⟩:∃v,x.hv[k]? =some v:=⟨x.hv[k]'(by have:=d.hl;omega),List.getElem?_eq_getElem _⟩;obtain⟨u,D⟩:∃u,x.pr[k]? =some u:=⟨x.pr[k]'(by have:=d.pl;omega),List.getElem?_eq_getElem _⟩;have f:=H.box.box.f;have P:w.cell? ⟨g,3+k,none⟩=some (.int .i64 v):=H.box.box.c _ _ (jM j);have Q:w.drew.cell? ⟨g,3+k,none⟩=some (.int .i64 v):=(H.box.ext (db.drew w)).box.c _ _ (jM j);obtain⟨V,B⟩:∃V,V=ep v a:=⟨_,rfl⟩;obtain⟨U,z⟩:∃U,U=ep u b:=⟨_,rfl⟩;have J:=hI D;have S:=hI j;obtain⟨m,y⟩:∃m,m=(if b<=x.la then x.pr.set k U else x.pr):=⟨_,rfl⟩
 have K:Hid (gM x (k:Int) a b={x with hv:=x.hv.set k V,pr:=m}):=hI (by
  unfold gM
  rw[Int.toNat_natCast,List.getD_eq_getElem?_getD,j,List.getD_eq_getElem?_getD,D,y,B,z]
  rfl)
 rw[K.o];have G:Hid (V=ep v a):=hI B;have F:Hid (U=ep u b):=hI z;have r:=hI y;clear h1 N j D B z K y;go_enter Tryz.func171,Tryz.ntmps171;go_wp2_with fail;refine A.mono ?_;rintro e E ⟨rfl,rfl⟩;clear A;go_upto_region 3 with fail;go_cut [] (fun O=>Hid (ol O o c g {x with hv:=x.hv.set k V})/\Hid (Fm (one c) o o w O))
 case first=>
  have h:Hid (ol (w.setCell ⟨g,3+k,none⟩ (.int .i64 V)) o c g {x with hv:=x.hv.set k V}/\Fm (one c) o o w (w.setCell ⟨g,3+k,none⟩ (.int .i64 V))):=hI ⟨⟨by
   have:=H.box.put (3+k) (.int .i64 V)
   rwa[Fd V (by rw[d.hl];omega)]at this,⟨d.n,d.mb,d.me,by simp[d.hl],d.pl,d.la⟩⟩,Fm.put (C:=one c) I H.box (by have:=l.o;omega) rfl _ _⟩
  by_cases q:v<a
  .have e:V=a:=by rw[G.o];unfold ep;rw[if_pos q]
   subst e;go_wp2_with fail;go_region;go_wp2_with fail;go_meet;exact⟨hI (h.o.1.ext (db.drew _)),hI (h.o.2.tr (Fm.drew h.o.2.cl) (by unfold one;have:=l.o;omega))⟩
  .have e:V=v:=by rw[G.o];unfold ep;rw[if_neg q]
   subst e;go_wp2_with fail;go_region;go_wp2_with fail;go_meet;exact⟨hI (h.o.1.ext (db.drew _)),hI (h.o.2.tr (Fm.drew h.o.2.cl) (by unfold one;have:=l.o;omega))⟩
 case rest=>
 obtain⟨h,s⟩:=hcut;clear f P Q H I;have t:=h.o.ok;have f:=h.o.box.box.f;have X:wc.cell? ⟨g,19,none⟩=some (.int .i64 x.la):=h.o.box.box.c 19 _ (rM t);have T:wc.cell? ⟨g,11+k,none⟩=some (.int .i64 u):=h.o.box.box.c _ _ (i' t J.o);have W:wc.drew.cell? ⟨g,11+k,none⟩=some (.int .i64 u):=(h.o.box.ext (db.drew wc)).box.c _ _ (i' t J.o);by_cases L:b<=x.la
 .have p:Hid (m=x.pr.set k U):=hI (by rw[r.o,if_pos L])
  have n:Hid (ol (wc.setCell ⟨g,11+k,none⟩ (.int .i64 U)) o c g {x with hv:=x.hv.set k V,pr:=m}/\Fm (one c) o o wc (wc.setCell ⟨g,11+k,none⟩ (.int .i64 U))):=hI ⟨⟨by
   have:=h.o.box.put (11+k) (.int .i64 U);rw[wl U t (by rw[d.pl];omega)]at this;rw[p.o]
   exact this,⟨d.n,d.mb,d.me,by simp[d.hl],by rw[p.o];simp[d.pl],d.la⟩⟩,Fm.put (C:=one c) s.o.cl h.o.box (by have:=l.o;omega) rfl _ _⟩
  clear r p;by_cases q:u<b
  .have e:U=b:=by rw[F.o];unfold ep;rw[if_pos q]
   subst e;go_wp2_with fail;go_region;go_wp2;go_ret;exact⟨rfl,n.o.1.ext (db.drew _),(s.o.tr n.o.2 (by unfold one;have:=l.o;omega)).tr (Fm.drew n.o.2.cl) (by unfold one;have:=l.o;omega)⟩
  .have e:U=u:=by rw[F.o];unfold ep;rw[if_neg q]
   subst e;go_wp2_with fail;go_region;go_wp2;go_ret;exact⟨rfl,n.o.1.ext (db.drew _),(s.o.tr n.o.2 (by unfold one;have:=l.o;omega)).tr (Fm.drew n.o.2.cl) (by unfold one;have:=l.o;omega)⟩
 .have p:Hid (m=x.pr):=hI (by rw[r.o,if_neg L]);clear r;go_wp2;go_ret;exact⟨rfl,by rw[p.o];exact h.o,s.o⟩
def eV(x:lr):lr:={x with la:=x.la+1,pr:=x.pr.set x.me.toNat (x.la+1)}
theorem Ca(F:Cl w o)(H:ol w o c g x)(h1:1<c)(K:x.la<=1000000):
  Calls Tryz.prog 142 #[.pointer (some ⟨g,0,none⟩)] w fun e E=>e=.returned (.int .i64 (x.la+1))/\ol E o c g (eV x)/\Fm (one c) o o w E:=by
 have h:=H.ok;obtain⟨n,r,D,q,l,a⟩:=x;simp only at K;obtain⟨A,B⟩:=h.me;obtain⟨k,rfl⟩:∃k:Nat,D=(k:Int):=⟨D.toNat,by simp only at A;omega⟩;have k8:(k:Int)<8:=by simp only at B;omega
 have L:k<8:=by omega
 have M:0<=a:=h.la.1;have s:=hI h1;have f:=H.box.box.f;have p:w.cell? ⟨g,19,none⟩=some (.int .i64 a):=H.box.box.c 19 _ (rM H.ok);have b:vd ⟨n,r,(k:Int),q,l,a+1⟩:=⟨h.n,h.mb,h.me,h.hl,h.pl,by simp only;omega⟩
 have d:Hid (dq (w.setCell ⟨g,19,none⟩ (.int .i64 (a+1))) o c g (u7 ⟨n,r,(k:Int),q,l,a+1⟩)/\Fm (one c) o o w (w.setCell ⟨g,19,none⟩ (.int .i64 (a+1)))):=hI ⟨by
  have:=H.box.put 19 (.int .i64 (a+1))
  rwa[Fe (a+1) H.ok]at this,Fm.put (C:=one c) F H.box (by omega) rfl _ _⟩
 clear h1 A B;go_enter Tryz.func142,Tryz.ntmps142;go_upto_region 4 with fail;clear f p H;generalize w.setCell ⟨g,19,none⟩ (.int .i64 (a+1))=j at*;have f:=d.o.1.box.f;obtain⟨u,t⟩:∃u,l[k]? =some u:=⟨l[k]'(by have:=h.pl;simp only at this;omega),List.getElem?_eq_getElem _⟩;have p:j.cell? ⟨g,19,none⟩=some (.int .i64 (a+1)):=d.o.1.box.c 19 _ (rM b);have J:j.cell? ⟨g,2,none⟩=some (.int .i64 (k:Int)):=d.o.1.box.c 2 _ rfl;have G:j.cell? ⟨g,11+k,none⟩=some (.int .i64 u):=d.o.1.box.c _ _ (i' b t);have I:j.drew.cell? ⟨g,11+k,none⟩=some (.int .i64 u):=(d.o.1.ext (db.drew j)).box.c _ _ (i' b t);have z:vd ⟨n,r,(k:Int),q,l.set k (a+1),a+1⟩:=⟨b.n,b.mb,b.me,b.hl,by simp only[List.length_set];exact b.pl,b.la⟩
 have m:Hid (dq (j.setCell ⟨g,11+k,none⟩ (.int .i64 (a+1))) o c g (u7 ⟨n,r,(k:Int),q,l.set k (a+1),a+1⟩)/\Fm (one c) o o j (j.setCell ⟨g,11+k,none⟩ (.int .i64 (a+1)))):=hI ⟨by
  have:=d.o.1.put (11+k) (.int .i64 (a+1))
  rwa[wl (a+1) b (by have:=h.pl;simp only at this;rw[this];omega)]at this,Fm.put (C:=one c) d.o.2.cl d.o.1 (by have:=s.o;omega) rfl _ _⟩
 clear t;go_region;clear f p J G I;generalize j.setCell ⟨g,11+k,none⟩ (.int .i64 (a+1))=y at*;have p:y.drew.cell? ⟨g,19,none⟩=some (.int .i64 (a+1)):=(m.o.1.ext (db.drew y)).box.c 19 _ (rM z);go_wp2;go_ret;exact⟨rfl,⟨m.o.1.ext (db.drew y),z⟩,(d.o.2.tr m.o.2 (by unfold one;have:=s.o;omega)).tr (Fm.drew m.o.2.cl) (by unfold one;have:=s.o;omega)⟩
end
section
variable{w:World} {o:Ow} {C:Nat->Prop} {bt vw:Int} {b c j:Nat}
structure ni (w:World) (o:Ow) (c b j:Nat) (bt vw:Int):Prop where
 col:o b=1
 lt:b<w.heap.size
 d0:ox j=c
 d1:ox (j+1)=c
 c0:w.cell? ⟨b,j,none⟩=some (.int .i64 bt)
 c1:w.cell? ⟨b,j+1,none⟩=some (.int .i64 vw)
 f0:w.frozen? ⟨b,j,none⟩=false
 f1:w.frozen? ⟨b,j+1,none⟩=false
theorem Fm.at1{a:Ow}{g:World}(k:Fm C o a w g)(f:b<w.heap.size)(h:o b=1):a b=1:=by
 rcases k.col b f with e|⟨d,-,-⟩;·exact e.trans h
 .exact absurd h d
theorem ni.fr{e:World}{d:Ow}(h:ni w o c b j bt vw)(k:Fm C o d w e)(a:¬C c):ni e d c b j bt vw:=
 ⟨k.at1 h.lt h.col,Nat.lt_of_lt_of_le h.lt k.size,h.d0,h.d1,(k.cel b j h.lt h.col (by rw[h.d0];exact a)).trans h.c0,(k.cel b (j+1) h.lt h.col (by rw[h.d1];exact a)).trans h.c1,(k.frz b j h.lt h.col).trans h.f0,(k.frz b (j+1) h.lt h.col).trans h.f1⟩
theorem ni.ext{d:World}(h:ni w o c b j bt vw)(k:db w d):ni d o c b j bt vw:=by have a:=k.block b h.lt;exact⟨h.col,Nat.lt_of_lt_of_le h.lt k.size,h.d0,h.d1,(World.cell?_of_block a).trans h.c0,(World.cell?_of_block a).trans h.c1,(World.frozen?_of_block a).trans h.f0,(World.frozen?_of_block a).trans h.f1⟩
theorem ni.put0(a:Cl w o)(h:ni w o c b j bt vw)(v:Int):ni (w.setCell ⟨b,j,none⟩ (.int .i64 v)) o c b j v vw/\Fm (one c) o o w (w.setCell ⟨b,j,none⟩ (.int .i64 v)):=by
 have K:=Fm.cell1 (C:=one c) a (.int .i64 v) h.col (show one c (ox j)from h.d0);refine⟨⟨h.col,Nat.lt_of_lt_of_le h.lt K.size,h.d0,h.d1,?_,?_,(K.frz b j h.lt h.col).trans h.f0,(K.frz b (j+1) h.lt h.col).trans h.f1⟩,K⟩;·exact World.cell?_setCell_same (h:=h.c0) ..
 .exact(World.cell?_setCell_other (h:=by simp) ..).trans h.c1
theorem ni.put1(a:Cl w o)(h:ni w o c b j bt vw)(v:Int):ni (w.setCell ⟨b,j+1,none⟩ (.int .i64 v)) o c b j bt v/\Fm (one c) o o w (w.setCell ⟨b,j+1,none⟩ (.int .i64 v)):=by
 have K:=Fm.cell1 (C:=one c) a (.int .i64 v) h.col (show one c (ox (j+1))from h.d1);refine⟨⟨h.col,Nat.lt_of_lt_of_le h.lt K.size,h.d0,h.d1,?_,?_,(K.frz b j h.lt h.col).trans h.f0,(K.frz b (j+1) h.lt h.col).trans h.f1⟩,K⟩;·exact(World.cell?_setCell_other (h:=by simp) ..).trans h.c0
 .exact World.cell?_setCell_same (h:=h.c1) ..
theorem ta(h:ni w o c b j bt vw):
  Calls Tryz.prog 58 #[.pointer (some ⟨b,j,none⟩)] w fun e a=>e=.returned (.int .i64 bt)/\w=a:=by have d:=h.c0;clear h;go_enter Tryz.func58,Tryz.ntmps58;go_wp2;go_ret;exact⟨rfl,rfl⟩
theorem ey(h:ni w o c b j bt vw):
  Calls Tryz.prog 59 #[.pointer (some ⟨b,j,none⟩)] w fun e a=>e=.returned (.int .i64 vw)/\w=a:=by have d:=h.c1;clear h;go_enter Tryz.func59,Tryz.ntmps59;go_wp2;go_ret;exact⟨rfl,rfl⟩
theorem xu(a:Cl w o)(H:ni w o c b j bt vw)(l:0<=bt/\bt<1099511627776):
  Calls Tryz.prog 126 #[.pointer (some ⟨b,j,none⟩)] w fun e d=>e=.returned (.int .i64 (bt+1))/\ni d o c b j (bt+1) vw/\Fm (one c) o o w d:=by
 have f:=H.c0;have h:=H.c1;have i:=H.f0;have k:=H.f1;have g:=(H.put0 a (bt+1)).1.c0;have m:=dF (1099511627776<=bt);have n:wrap64 (bt+1)=bt+1:=by unfold wrap64;omega
 go_enter Tryz.func126,Tryz.ntmps126;go_wp2;go_ret;exact⟨rfl,(H.put0 a _).1,(H.put0 a _).2⟩
theorem kO{v:Int}(a:Cl w o)(H:ni w o c b j bt vw)(m:vw<v/\v<=1099511627776):
  Calls Tryz.prog 147 #[.pointer (some ⟨b,j,none⟩),.int .i64 v] w fun e d=>e=.returned (.bool true)/\ni d o c b j bt v/\Fm (one c) o o w d:=by have f:=H.c0;have g:=H.c1;have h:=H.f0;have i:=H.f1;have k:=dF (v<=vw);have l:=dF (1099511627776<v);go_enter Tryz.func147,Tryz.ntmps147;go_wp2;go_ret;exact⟨rfl,(H.put1 a _).1,(H.put1 a _).2⟩
theorem vE{v:Int}(h:ni w o c b j bt vw)(a:v<=vw):
  Calls Tryz.prog 147 #[.pointer (some ⟨b,j,none⟩),.int .i64 v] w fun e d=>e=.returned (.bool false)/\w=d:=by have f:=h.c1;have g:=dT (v<=vw) a;clear h;go_enter Tryz.func147,Tryz.ntmps147;go_wp2;go_ret;exact⟨rfl,rfl⟩
end
section
variable{R:Value->Option (DataW Unit×List MemPlace)} {s:ByteArray} {C:Nat->Prop} {w:World} {o:Ow}
open Go Go.Sort Go.RowKit Go.Maps Go.WideMaps Go.ChangeMaps
def wV(w:World)(o:Ow)(c g m:Nat):Prop:=∃(b:Nat) (D:DataW Unit),dq w o c g [.map (some b)]/\o b=c/\w.ownsMap Tryz.prog 9 (plainElem Tryz.prog 9) b m D
theorem ym{c:World}{m:Ow}{b n:Nat}{D:DataW Unit}{P:Program}{a:TypeId}(h:w.ownsMap P a R b n D)(k:Fm C o m w c)(h1:o b≠1)(i:¬C (o b)):c.ownsMap P a R b n D:=by have j:=h.lt;obtain⟨e,d,g,F,l,f⟩:=h;exact⟨e,d,(k.blk b j h1 i).trans g,F,l,f⟩
theorem wV.fr{i:World}{f:Ow}{c g m:Nat}(h:wV w o c g m)(k:Fm C o f w i)(h1:1<c)(d:¬C c):wV i f c g m:=by obtain⟨b,D,j,a,e⟩:=h;exact⟨b,D,j.fr k (by omega) d,(k.at e.lt (by rw[a];exact d)).trans a,ym e k (by rw[a];omega) (by rw[a];exact d)⟩
theorem wV.ext{d:World}{c g m:Nat}(h:wV w o c g m)(k:db w d):wV d o c g m:=by obtain⟨b,D,j,l,a⟩:=h;have n:=a.lt;obtain⟨f,e,h1,F,p,i⟩:=a;exact⟨b,D,j.ext k,l,f,e,(k.block b n).trans h1,F,p,i⟩
theorem Gd(H:Cl w o)(c:Nat)(C:Nat->Prop):
  Calls Tryz.prog 131 #[] w fun e b=>∃a g,e=.returned (.pointer (some ⟨g,0,none⟩))/\wV b a c g 0/\Fm C o a w b:=by
 have i:= @run_makeMap Tryz.prog;go_enter Tryz.func131,Tryz.ntmps131;go_wp2;go_ret;refine⟨gH (gH o w.heap.size c) (w.heap.size+1) c,w.heap.size+1,rfl,⟨w.heap.size,.map [],?_,?_,?_⟩,?_⟩;·have:=dq.made (w.alloc (.map #[] 0)) (gH o w.heap.size c) c #[.map (some w.heap.size)] [.map (some w.heap.size)] 221 rfl;rw[show(w.alloc (.map #[] 0)).heap.size=w.heap.size+1 by simp]at this;exact this
 .rw[dS (by omega)];exact et _ _ _
 .exact(World.ownsMap_made w _ _ _).alloc _
 .have d:=Fm.made (C:=C) H (.map #[] 0) c;have h:=(d.cl.ext (db.alloc _ (.cells #[.map (some w.heap.size)] 221)));have f:db w ((w.alloc (.map #[] 0)).alloc (.cells #[.map (some w.heap.size)] 221)):=(db.alloc w _).tr (db.alloc _ _);exact((Fm.ext H f).paint c (Nat.le_refl _) (by simp;omega)).paint c (by omega) (by simp)
theorem Hu(s:ByteArray)(c:Int)(w:World):
  Calls Tryz.prog 215 #[.string s,.int .u8 c] w fun e a=>e=.returned (.int .i64 (Lib.indexByte s.data.toList c.toNat.toUInt8))/\w=a:=by go_enter Tryz.func215,Tryz.ntmps215;go_wp2_with fail;rw[run_callFunc_extern Tryz.func230 (by kernel_rfl) (by kernel_rfl) (by kernel_rfl) (e:=Extern.BytealgIndexByte.indexByte) (by kernel_rfl),Lib.run_indexByteString];simp only[Result.andThen];rw[Oper.upon_value];go_wp2;go_ret;exact⟨rfl,rfl⟩
theorem Eb:∀(l:List UInt8) (c:UInt8),Lib.indexByte l c<(l.length:Int)
 |[],c=>by simp[Lib.indexByte]
 |b::l,c=>by
  have:=Eb l c;unfold Lib.indexByte;rw[List.length_cons];split;·omega
  .split<;>omega
theorem Hv(s:ByteArray)(w:World):
  Calls Tryz.prog 212 #[.string s,.string ⟨#[61]⟩] w fun e d=>e=.returned (.int .i64 (Lib.indexByte s.data.toList 61))/\w=d:=by
 have a:=Hu s 61 w;cases c:([61]==s.toList);·go_enter Tryz.func212,Tryz.ntmps212;go_wp2_with fail;refine a.mono ?_;rintro e f ⟨rfl,rfl⟩;go_wp2;go_ret;exact⟨rfl,rfl⟩
 .have b:Lib.indexByte s.data.toList 61=0:=by rw[<-Lib.toList_data,<-eq_of_beq c];rfl
  rw[b];clear b a;go_enter Tryz.func212,Tryz.ntmps212;go_wp2;go_ret;exact⟨rfl,rfl⟩
theorem Fu(f:s.size<=1000)(w:World):
  Calls Tryz.prog 209 #[.string s,.string ⟨#[61]⟩] w fun e h=>∃(a b:ByteArray) (k:Bool),e=.returned (.tuple #[.string a,.string b,.bool k])/\a.size<=1000/\b.size<=1000/\db w h:=by
 have H:=hI f;have I:=Hv s w;have c:Hid (-1<=Lib.indexByte s.data.toList 61/\Lib.indexByte s.data.toList 61<s.size):=hI ⟨Lib.indexByte_ge _ _,by rw[Lib.size_eq];exact Eb _ _⟩;generalize Lib.indexByte s.data.toList 61=z at*;clear f;by_cases g:0<=z
 .obtain⟨i,rfl⟩:∃i:Nat,z=(i:Int):=⟨z.toNat,by omega⟩;have l:(0:Int)<=(i:Int):=by omega
  have m:(i:Int)<=(s.size:Int):=by have:=c.o;omega
  have n:(0:Int)<=(i:Int)+1:=by omega
  have p:(i:Int)+1<=(s.size:Int):=by have:=c.o;omega
  have q:wrap64 ((i:Int)+1)=(i:Int)+1:=by have:=c.o;have:=H.o;unfold wrap64;omega
  clear g;go_enter Tryz.func209,Tryz.ntmps209;go_wp2_with fail;refine I.mono ?_;rintro e j ⟨rfl,rfl⟩;go_wp2;refine eA [0,1,2,3,4,5,6,7,8,9,10,11] [] ?_;repeat((first|refine dC fun K d=>?_|refine dB fun K d=>?_);go_big_quiet_op;refine d _ ?_;clear d K)
  refine dh ?_;refine df ?_;go_wp2;go_ret3;exact⟨_,_,_,rfl,by rw[ByteArray.size_extract];have:=H.o;omega,by rw[ByteArray.size_extract];have:=H.o;omega,db.drew _⟩
 .obtain rfl:z= -1:=by have:=c.o;omega
  clear g;go_enter Tryz.func209,Tryz.ntmps209;go_wp2_with fail;refine I.mono ?_;rintro e j ⟨rfl,rfl⟩;go_wp2;go_ret3;exact⟨_,_,_,rfl,H.o,Nat.zero_le _,db.rfl' _⟩
theorem Cj(c:s.size<=1000)(w:World):
  Calls Tryz.prog 206 #[.string s,.string ⟨#[61]⟩] w fun e g=>∃(a b:ByteArray) (k:Bool),e=.returned (.tuple #[.string a,.string b,.bool k])/\a.size<=1000/\b.size<=1000/\db w g:=by have H:=hI c;clear c;go_enter Tryz.func206,Tryz.ntmps206;go_wp2_with fail;refine(Fu H.o w).mono ?_;rintro e h ⟨a,b,k,rfl,h1,h2,X⟩;have d:=hI h1;have f:=hI h2;clear h1 h2;go_wp2;go_ret3;exact⟨_,_,_,rfl,d.o,f.o,X⟩
theorem Cu(c:s.size<=1000)(w:World):
  Calls Tryz.prog 197 #[.string s] w fun e g=>∃(a b:ByteArray) (k:Bool),e=.returned (.tuple #[.string a,.string b,.bool k])/\a.size<=1000/\b.size<=1000/\db w g:=by
 have H:=hI c;clear c;go_enter Tryz.func197,Tryz.ntmps197;go_wp2_with fail;refine(Cj H.o w).mono ?_;rintro e i ⟨a,b,k,rfl,h1,h2,X⟩;have d:=hI h1;have f:=hI h2;clear h1 h2;cases k;·go_wp2;go_ret3;exact⟨_,_,_,rfl,Nat.zero_le _,Nat.zero_le _,X⟩
 .cases h:a.toList.isEmpty;·go_wp2;go_ret3;exact⟨_,_,_,rfl,d.o,f.o,X⟩
  .go_wp2;go_ret3;exact⟨_,_,_,rfl,Nat.zero_le _,Nat.zero_le _,X⟩
theorem tV:Keyed Tryz.prog 9:=string_keyed Tryz.underlying9
theorem ux{a:World}{b:Nat}(h:w.mapTurned a b):w.grownBy a (some b):=by obtain⟨j,f,k,g,c,rfl⟩:=h;exact⟨rfl,rfl,rfl,by simp[setBlock],fun i _ d=>heap_setBlock_other c _ (fun e=>d (by rw[e]))⟩
theorem I6{c g m:Nat}{e:dj}(L:Cl w o)(h:wV w o c g m)(h1:1<c)(T:ec e=true)(HE:eQ e)(V:e.da.size<=1000)(U:m<1000000):
  Calls Tryz.prog 178 #[.pointer (some ⟨g,0,none⟩),jT e] w fun r w'=>(∃k:Bool,r=.returned (.bool k))/\wV w' o c g (m+1)/\Fm (fun d=>d=c) o o w w':=by
 have A0:=db.alloc w (.cells (dZ e) 71);have H:=h.ext A0;have f:=L.ext A0;have i:=Fm.ext (C:=fun d=>d=c) L A0;have p:=hI h1;have HN:=hI V;have HM:=hI T;have aa:=hI U;clear h L h1 V T U;obtain⟨t,u,v,x,y,z,A⟩:=e;have E:=eB.new w ⟨t,u,v,x,y,z,A⟩ 71;go_enter Tryz.func178,Tryz.ntmps178;go_upto_region 1 with fail;change Code.wp _ _ _ _ (w.alloc (.cells (dZ ⟨t,u,v,x,y,z,A⟩) 71));clear A0;generalize w.alloc (.cells (dZ ⟨t,u,v,x,y,z,A⟩) 71)=w0 at*;generalize w.heap.size=eb at*;have P:=E.c6;simp only at P;go_wp2_with fail;refine(Cu HN.o w0).mono ?_;rintro r w1 ⟨Y,M,k,rfl,W,X,q⟩;have N1:=hI W;have N2:=hI X;have B1:=E.ext q;replace H:=H.ext q;replace i:=i.tr (Fm.ext f q) (by have:=p.o;omega);replace f:=f.ext q;clear q W X E P;have O:Hid (∀{w:World},wV w o c g m->wV w o c g (m+1)):=hI fun⟨b,D,hb,l,ho⟩=>⟨b,D,hb,l,ho.mono (Nat.le_succ m)⟩;cases k;·go_wp2;go_ret;exact⟨⟨_,rfl⟩,O.o H,i⟩
 have⟨d0,d1,d2,d3,d4,d5,d6⟩:=B1;simp only at d0 d1 d2 d3 d4 d5 d6;go_wp2_with fail;refine(kY (e:=⟨t,u,v,x,y,z,A⟩) HE).mono ?_;rw[HM.o];rintro r w2 ⟨rfl,B⟩;obtain⟨b,D,j,l,I⟩:=H.ext B;have G:=hI l;replace i:=i.tr (Fm.ext f B) (by have:=p.o;omega);replace f:=f.ext B;have c0:=j.box.c 0 _ rfl;clear B l d0 d1 d2 d3 d4 d5 d6 H;have S:keyOf Tryz.prog 9 (.string Y)=some (.string Y.data.toList):=keyOf_string_mk Tryz.underlying9 (by have:=N1.o;unfold maxLen;omega)
 have Q:Hid (g≠b):=hI (fun e=>by
  have h1:=j.box.c 0 _ rfl;obtain⟨es,ad,h2,-⟩:=I;rw[e]at h1
  simp[World.cell?,h2]at h1)
 have N:Hid (∀{w n},Cl w o->w.grownBy n (some b)->Fm (fun d=>d=c) o o w n):=hI (fun l a=>Fm.grown l a (fun k hk=>by cases hk;rw[G.o];exact⟨by have:=p.o;omega,rfl⟩));cases he:M.toList.isEmpty
 .have ac:plainElem (H:=Unit) Tryz.prog 9 (.string M)=some (.lit (.string M.data.toList),[]):=plainElem_string Tryz.underlying9 (by have:=N2.o;unfold maxLen;omega);have ab:m<maxLen:=by have:=aa.o;unfold maxLen;omega
  go_wp2_with (first|(at_mapUpdate;refine wpList_mapUpdate_own _ rfl _ _ _ 219 rfl 9 9 tV Tryz.underlying219 _ b m D rfl I ab _ _ _ rfl rfl S _ [] ac ?_)|go_in);intro n K a;have F:dq n o c g [.map (some b)]:=⟨j.col,j.box.other a (fun e=>Q.out (by cases e;rfl))⟩;have J:=i.tr (N.o f a) (by have:=p.o;omega);clear a;go_wp2;go_ret;exact⟨⟨_,rfl⟩,⟨b,_,F,G.o,K⟩,J⟩
 .go_wp2_with (first|(at_delete;refine wpList_delete_own _ rfl _ _ 219 9 rfl 9 tV Tryz.underlying219 _ b m D rfl I _ _ rfl S ?_)|go_in);intro n K Z;have a:=ux Z;have F:dq n o c g [.map (some b)]:=⟨j.col,j.box.other a (fun e=>Q.out (by cases e;rfl))⟩;have J:=i.tr (N.o f a) (by have:=p.o;omega);clear Z a;go_wp2;go_ret;exact⟨⟨_,rfl⟩,O.o ⟨b,_,F,G.o,K⟩,J⟩
end
section
variable{l:List Int} {w:World}
theorem Il(x:Int)(w:World):Calls Tryz.prog 237 #[.int .i64 x] w fun e a=>e=.returned (.bool false)/\w=a:=by go_enter Tryz.func237,Tryz.ntmps237;go_wp2;go_ret;simp
theorem Eh(x y:Int)(w:World):Calls Tryz.prog 225 #[.int .i64 x,.int .i64 y] w fun e a=>e=.returned (.bool (decide (x<y)))/\w=a:=by go_enter Tryz.func225,Tryz.ntmps225;go_wp2_with fail;refine(Il x w).mono ?_;rintro e a ⟨rfl,rfl⟩;go_wp2;go_ret;exact⟨rfl,rfl⟩
def je(l:List Int)(m:Nat):List Int:=(l.set (m+1) (l.getD m 0)).set m (l.getD (m+1) 0)
def ie:List Int->Nat->List Int
 |l,0=>l
 |l,m+1=>if l.getD (m+1) 0<l.getD m 0 then ie (je l m) m else l
def eM(l:List Int):List Int:=(List.range' 1 (l.length-1)).foldl ie l
theorem oX(l:List Int)(m:Nat):(je l m).length=l.length:=by simp[je]
theorem oV:∀(m:Nat) (l:List Int),(ie l m).length=l.length
 |0,l=>rfl
 |m+1,l=>by
  unfold ie;split;·rw[oV m,oX]
  .rfl
theorem Dj{b m:Nat}{x y:Int}(h:dK w 0 b (ia l))(c:l[m]? =some y)(a:l[m+1]? =some x):dK ((w.setCell ⟨b,m+1,none⟩ (.int .i64 y)).setCell ⟨b,m,none⟩ (.int .i64 x)) 0 b (ia (je l m)):=by have:=(h.put (m+1) (.int .i64 y)).put m (.int .i64 x);rw[<-nL,<-nL]at this;unfold je;rw[List.getD_eq_getElem?_getD,List.getD_eq_getElem?_getD,c,a];exact this
theorem xN{w:World}{b n cap:Nat}{l:List Int}(H:dK w 0 b (ia l))(N:l.length=n)(hn:n<=12)(af:n<=cap):
  Calls Tryz.prog 219 #[.slice (some ⟨b,0,none⟩) n cap,.int .i64 0,.int .i64 (n:Int)] w fun e S=>e=.returned (.tuple #[])/\dK S 0 b (ia (eM l))/\w.grownBy S (some b):=by
 have A:=hI N;clear N;go_enter Tryz.func219,Tryz.ntmps219;go_wp2_with fail;go_loopw [6] (fun i wr=>∃(k:Nat) (o:List Int),1<=k/\i=.int .i64 (k:Int)/\k<=13/\Hid (dK wr 0 b (ia o))/\Hid (o.length=n)/\Hid ((List.range' k (n-k)).foldl ie o=eM l)/\Hid (w.grownBy wr (some b))) (fun i _=>13-(intOf i).toNat);case atStart=>exact⟨1,l,by omega,rfl,by omega,H,A,hI (by unfold eM;rw[A.o]),hI (dD _ _)⟩
 clear H A
 case round=>
  obtain⟨k,o,ad,rfl,ae,B,CL,C,G⟩:=hrel;by_cases ac:k<n
  .have b1:(k:Int)<(n:Int):=by omega
   have J:=hI (show k<n from ac);go_wp2_with fail;go_loopw [7] (fun j wr2=>∃(m:Nat) (a:List Int),m<=k/\j=.int .i64 (m:Int)/\Hid (dK wr2 0 b (ia a))/\Hid (a.length=n)/\Hid (ie a m=ie o k)/\Hid (w.grownBy wr2 (some b))) (fun j _=>(intOf j).toNat);case atStart=>exact⟨k,o,by omega,rfl,B,CL,hI rfl,G⟩
   clear B CL G
   case round=>
    obtain⟨m,a,hm,rfl,B,CL,q,G⟩:=hrel
    cases m with
    |zero=>
     have s:Hid (a=ie o k):=hI (by have:=q.o;rw[<-this];rfl);obtain⟨h,p⟩:∃h,h=wr.drew:=⟨_,rfl⟩;replace B:dK h 0 b (ia a):=by rw[p];exact B.ext (db.drew wr)
     replace G:w.grownBy h (some b):=by rw[p];exact jI G (gY (db.drew wr) _)
     go_upto_region 4 with fail;refine gV [0,1,2,3,4,5,6,7,8,9,10,11,12,13,14] [] (by kernel_rfl) (by kernel_rfl) (fun _ _ d _ _ H=>by cases d<;>exact H) ?_;rw[<-p];clear p q;repeat((first|refine dC fun K g=>?_|refine dB fun K g=>?_);go_big_quiet_op;refine g _ ?_;clear g K)
     refine dh ?_;refine df ?_;go_wp2;go_roundw
     case rel=>exact⟨k+1,a,by omega,by go_num,by omega,B,CL,hI (by
      have h1:=C.o;rw[show n-k=(n-(k+1))+1 by have:=J.o;omega,List.range'_succ,List.foldl_cons,<-s.o]at h1
      exact h1),G⟩
     case measure=>simp[intOf];omega
    |succ m=>
     obtain⟨x,F⟩:∃x,a[m+1]? =some x:=⟨a[m+1]'(by have:=CL.o;omega),List.getElem?_eq_getElem _⟩;obtain⟨y,I⟩:∃y,a[m]? =some y:=⟨a[m]'(by have:=CL.o;omega),List.getElem?_eq_getElem _⟩;have t:=hI F;have u:=hI I
     have z:Hid (ie a (m+1)=if x<y then ie (je a m) m else a):=hI (by
      rw[ie,List.getD_eq_getElem?_getD,List.getD_eq_getElem?_getD,F,I]
      rfl)
     clear F I;obtain⟨h,p⟩:∃h,h=wr.drew:=⟨_,rfl⟩;replace B:dK h 0 b (ia a):=by rw[p];exact B.ext (db.drew wr)
     replace G:w.grownBy h (some b):=by rw[p];exact jI G (gY (db.drew wr) _)
     have r1:=rg h (B.c (m+1) _ (iQ t.o));have r0:=rg h (B.c m _ (iQ u.o));have L:IntKind.i64.wrap (((m+1:Nat):Int)-1)=(m:Int):=by rw[IntWalk.i64_in _ (by omega)];omega
     have M:IntKind.i64.wrap ((m:Int)+1-1)=(m:Int):=by rw[IntWalk.i64_in _ (by omega)];omega
     have O:((m:Int)+1)<(n:Int):=by omega
     have P:m+1<n:=by omega
     have Q:(m:Int)<(n:Int):=by omega
     have R:m<n:=by omega
     go_upto_region 4 with fail;refine gV [0,1,2,3,4,5,6,7,8,9,10,11,12,13,14] [] (by kernel_rfl) (by kernel_rfl) (fun _ _ d _ _ H=>by cases d<;>exact H) ?_;rw[<-p];clear p;repeat((first|refine dC fun K g=>?_|refine dB fun K g=>?_);go_big_quiet_op;refine g _ ?_;clear g K)
     refine eF fun K g=>?_;go_simp;refine(Eh x y _).mono ?_;rintro e w5 ⟨rfl,rfl⟩;refine g _ _ (db.rfl' _) ?_;clear g K r0 r1;by_cases r:x<y
     .have E:=dT (x<y) r;repeat((first|refine dC fun K g=>?_|refine dB fun K g=>?_);go_big_quiet_op;refine g _ ?_;clear g K)
      refine dh ?_;refine df ?_;have X:Hid (ie (je a m) m=ie o k):=hI (by rw[<-q.o,z.o,if_pos r]);have c1:=B.c (m+1) _ (iQ t.o);have Y:=B.c m _ (iQ u.o);have ab:=(B.ext (db.drew h)).c (m+1) _ (iQ t.o);have Z:=(B.ext (db.drew h)).c m _ (iQ u.o);have f:=B.f;have D:Hid (dK ((h.setCell ⟨b,m+1,none⟩ (.int .i64 y)).setCell ⟨b,m,none⟩ (.int .i64 x)) 0 b (ia (je a m))/\w.grownBy ((h.setCell ⟨b,m+1,none⟩ (.int .i64 y)).setCell ⟨b,m,none⟩ (.int .i64 x)) (some b)):=hI ⟨Dj B u.o t.o,dP (dP G _ _) _ _⟩;clear r z q;go_wp2_with fail;go_region;clear c1 Y ab Z f;generalize(h.setCell ⟨b,m+1,none⟩ (.int .i64 y)).setCell ⟨b,m,none⟩ (.int .i64 x)=T at*;have U:=D.o.1.ext (db.drew T);have W:=jI D.o.2 (gY (db.drew T) (some b));have V:Hid ((je a m).length=n):=hI (by rw[oX];exact CL.o);clear D B G L M O P Q R E;go_wp2;go_roundw;case rel=>exact⟨m,je a m,by omega,by go_num,U,V,X,W⟩
      case measure=>simp[intOf]
     .have E:=dF (x<y) r;repeat((first|refine dC fun K g=>?_|refine dB fun K g=>?_);go_big_quiet_op;refine g _ ?_;clear g K)
      refine dh ?_;refine df ?_;have s:Hid (a=ie o k):=hI (by rw[<-q.o,z.o,if_neg r]);clear r z q L M O P Q R E t u;go_wp2;go_roundw
      case rel=>exact⟨k+1,a,by omega,by go_num,by omega,B,CL,hI (by
       have h1:=C.o;rw[show n-k=(n-(k+1))+1 by have:=J.o;omega,List.range'_succ,List.foldl_cons,<-s.o]at h1
       exact h1),G⟩
      case measure=>simp[intOf];omega
  .have s:Hid (o=eM l):=hI (by
    have h1:=C.o;rw[show n-k=0 by omega]at h1
    exact h1)
   go_wp2;refine bodyPost_end (v:=.tuple #[]) (by simp[results,Tryz.results219,go_sem]) rfl ?_;exact⟨rfl,by rw[<-s.o];exact B,G⟩
def Jh(w:World)(e:Ending)(a:World):Prop:=(∃z:Int,e=.returned (.int .i64 z))/\w=a
theorem Br(x:Int)(h:1<=x/\x<=7)(w:World):Calls Tryz.prog 229 #[.int .u64 x] w (Jh w):=by
 have a:x=1\/x=2\/x=3\/x=4\/x=5\/x=6\/x=7:=by omega
 clear h;rcases a with rfl|rfl|rfl|rfl|rfl|rfl|rfl;all_goals go_enter Tryz.func229,Tryz.ntmps229;go_wp2;go_ret;exact⟨⟨_,rfl⟩,rfl⟩
theorem Hz(x:Int)(h:1<=x/\x<=7)(w:World):Calls Tryz.prog 214 #[.int .u64 x] w (Jh w):=by have A:=Br x h w;go_enter Tryz.func214,Tryz.ntmps214;go_wp2_with fail;refine A.mono ?_;rintro e a ⟨⟨z,rfl⟩,rfl⟩;go_wp2;go_ret;exact⟨⟨_,rfl⟩,rfl⟩
theorem Iw{b n cap:Nat}{z:Int}(h:dK w 0 b (ia l))(d:l.length=n)(j:n<=12)(k:n<=cap):
  Calls Tryz.prog 213 #[.slice (some ⟨b,0,none⟩) n cap,.int .i64 0,.int .i64 (n:Int),.int .i64 z] w fun e c=>e=.returned (.tuple #[])/\dK c 0 b (ia (eM l))/\w.grownBy c (some b):=by
 have A:=xN h d j k;have o:(n:Int)<=12:=by omega
 clear h d;go_enter Tryz.func213,Tryz.ntmps213;go_wp2_with fail;go_loopw [1,2,3] (fun a i m wr=>a=.int .i64 0/\i=.int .i64 (n:Int)/\wr=w) (fun _ _ _ _=>0);case atStart=>exact⟨rfl,rfl,rfl⟩
 case round=>
 obtain⟨rfl,rfl,rfl⟩:=hrel;go_wp2_with fail;refine A.mono ?_;rintro e c ⟨rfl,f,g⟩;clear A;go_wp2;refine bodyPost_ret (v:=.tuple #[]) (by simp[results,Tryz.results213,go_sem]) rfl ?_;exact⟨rfl,f,g⟩
theorem FH{b n cap:Nat}(h:dK w 0 b (ia l))(c:l.length=n)(i:1<=n/\n<=7)(g:n<=cap):
  Calls Tryz.prog 211 #[.slice (some ⟨b,0,none⟩) n cap] w fun e a=>e=.returned (.tuple #[])/\dK a 0 b (ia (eM l))/\w.grownBy a (some b):=by have A:=Hz (n:Int) (by omega) w;have B:=fun z=>Iw (z:=z) h c (by omega) g;clear h c;go_enter Tryz.func211,Tryz.ntmps211;go_wp2_with fail;refine A.mono ?_;rintro e a ⟨⟨z,rfl⟩,rfl⟩;go_wp2_with fail;refine(B z).mono ?_;rintro e a ⟨rfl,d,f⟩;clear A B;go_wp2;refine bodyPost_end (v:=.tuple #[]) (by simp[results,Tryz.results211,go_sem]) rfl ?_;exact⟨rfl,d,f⟩
end
section
variable{w:World} {x:lr} {o:Ow}
theorem D6:(Tryz.prog.info? 2).map (fun i=>(i.zero,i.size,i.bytes))=some (some (.int .i64 0),1,8):=by kernel_rfl
theorem Hq(L:List Int):∀r∈L.map jl,∀u∈r,u.oneCell'=true:=by intro r hr u a;obtain⟨e,-,rfl⟩:=List.mem_map.1 hr;simp[jl]at a;rw[a];rfl
theorem Fa:∀(w:World) (a:Option Addr) (n c d b:Nat),(binOp .eql 215 (.slice a n c) (.slice none d b)).run Tryz.prog w=.ok (.bool a.isNone) w:=fun w a n c d b=>Lib.run_eql_slice_nil w _ _ a n c d b Tryz.underlying215
theorem xH{w:World}{p:Option Addr}{n cap:Nat}{L:List (List Value)}(H:SlS 1 w p n cap L)(f:∀r∈L,∀u∈r,u.oneCell'=true)(K:n<=1000000):
  Calls Tryz.prog 210 #[.slice p n cap] w fun e l=>∃c b,e=.returned (.slice c n b)/\fY 2 1 l w.heap.size c n b L/\db w l:=by
 have M:=Fa
 obtain⟨I,h,E,F,G⟩:=iX D6
 have q:=hI h
 clear h
 cases p with
 |none=>
  have z:=H.nil rfl;have B:=H.le;have i:=H.len;obtain rfl:cap=0:=z;obtain rfl:n=0:=by omega
  obtain rfl:L=[]:=List.eq_nil_of_length_eq_zero i;clear H i B f;go_enter Tryz.func210,Tryz.ntmps210;go_wp2;go_ret;exact⟨_,_,rfl,fY.nil _ _ _ _,db.rfl' _⟩
 |some a=>
  have s:=hI f;clear f;have d:=db.alloc w (.cells #[] 2);have v:fY 2 1 (w.alloc (.cells #[] 2)) w.heap.size (some ⟨w.heap.size,0,none⟩) 0 0 []:=fY.made w w.heap.size 0 #[] [] (Nat.le_refl _) rfl (fun x D=>by cases D) rfl (by omega);have g:w.heap.size<=(w.alloc (.cells #[] 2)).heap.size:=d.size;have y:(0+n)*8<=140737488355328:=by omega
  have C:0+n<=140737488355328:=by omega
  go_enter Tryz.func210,Tryz.ntmps210;go_wp2_with (at_builtin;refine io rfl _ _ 215 rfl w.heap.size Tryz.underlying215 I _ 8 q.o E F G rfl (by decide) (some ⟨w.heap.size,0,none⟩) 0 0 [] rfl v (some a) n cap L rfl (H.ext d) s.o y C g ?_);intro c b J j m;have t:fY 2 1 J w.heap.size c n b L:=by simpa using j
  clear j;try simp only[Nat.zero_add]
  go_wp2;go_ret;exact⟨_,_,rfl,t,Below.grown d m g (fun k A=>by simp at A;omega)⟩
theorem Bn(L:List Int):(L.map jl).flatten=ia L:=by
 induction L with
 |nil=>rfl
 |cons a L b=>
  rw[List.map_cons,List.flatten_cons,b];rfl
theorem Ki{base n cap:Nat}{p:Option Addr}{L:List Int}(h:fY 2 1 w base p n cap (L.map jl))(t:0<n):∃b,p=some ⟨b,0,none⟩/\base<=b/\dK w 0 b (ia L)/\n<=cap:=by
 have r:=h.1;rcases h.2.2.2 with⟨f,q⟩|⟨g,c,i,f,k,d,m,s,u,e⟩;·omega
 .cases f;have l:g<w.heap.size:=(h.lt g rfl).2;refine⟨g,rfl,k,⟨Nat.zero_le _,l,fun j v a=>?_,fun j=>?_⟩,m⟩
  .rw[Bn]at e
   have:i.toList[j]? =some v:=by
    rw[<-e,List.getElem?_take]at a;split at a;·exact a
    .cases a
   simp[World.cell?,d];rw[<-Array.getElem?_toList];exact this
  .simp[World.frozen?,d]
theorem G0(a n:Nat)(f:n<=7)(w:World):(Instr.sliceAt 44 (.pointer (some ⟨a,0,none⟩)) (some (.int .i64 1)) (some (.int .i64 ((n:Int)+1))) none).run Tryz.prog w=.ok (.slice (some ⟨a,1,none⟩) n 7) w:=by
 have b:Tryz.prog.arrayLen 44=8:=by kernel_rfl
 have c:Tryz.prog.elem 44=2:=by kernel_rfl
 have e:Tryz.prog.underlying 44=some (.array (Tryz.prog.arrayLen 44) (Tryz.prog.elem 44)):=by rw[b,c];exact Tryz.underlying44
 have h:=run_sliceAt_array_lh (P:=Tryz.prog) w 44 ⟨a,0,none⟩ e .i64 .i64 1 ((n:Int)+1) (by omega) (by omega) (by rw[b];omega);have d:(sizeOf 2).run Tryz.prog w=.ok 1 w:=by kernel_rfl
 rw[h,c,d,b];simp only[Result.andThen_ok,slicedAt];rw[show((n:Int)+1).toNat=n+1 by omega,show((1:Int)).toNat=1 by rfl];simp[Addr.add_lit]
theorem JK{w:World}{c n:Nat}{l:List Int}(h:dK w 0 c (ia l))(f:n+1<=l.length)(d:n<=7):SlS 1 w (some ⟨c,1,none⟩) n 7 (((l.drop 1).take n).map jl):=by
 refine⟨by simp;omega,d,by decide,(fun e=>by cases e),fun r hr=>?_,fun _=>⟨c,1,rfl,fun i r hr j v a=>?_⟩⟩;·obtain⟨e,-,rfl⟩:=List.mem_map.1 hr;rfl
 .rw[List.getElem?_map]at hr;obtain⟨e,b,rfl⟩:=Option.map_eq_some_iff.1 hr;rw[List.getElem?_take]at b;split at b
  .rw[List.getElem?_drop]at b
   match j,a with
   |0,a=>
    simp[jl]at a;rw[<-a];have:=h.c (1+i) _ (iQ b);simpa using this
   |j+1,a=>simp[jl]at a
  .cases b
def eZ(l:List Int)(n:Int):Int:=(eM ((l.drop 1).take n.toNat)).getD ((n.toNat-1)/2) 0
theorem Ch(l:List Int):(eM l).length=l.length:=by
 unfold eM
 generalize List.range' 1 (l.length-1)=r
 induction r generalizing l with
 |nil=>rfl
 |cons a r b=>rw[List.foldl_cons,b,oV]
theorem tQ{c g:Nat}{l:List Int}(H:ol w o c g x)(F:l.length=8):
  Calls Tryz.prog 207 #[.pointer (some ⟨g,0,none⟩),.agg (ia l).toArray] w fun e Y=>e=.returned (.int .i64 (eZ l x.n))/\db w Y:=by
 obtain⟨R,d⟩:∃R,R=eZ l x.n:=⟨_,rfl⟩
 rw[<-d]
 obtain⟨W,X⟩:=H.ok.n
 obtain⟨n,m⟩:∃n:Nat,x.n=(n:Int):=⟨x.n.toNat,by omega⟩
 rw[m]at d W X
 have a:w.cell? ⟨g,0,none⟩=some (.int .i64 (n:Int)):=by rw[<-m];exact H.box.box.c 0 _ rfl
 have A0:=db.alloc w (.cells (ia l).toArray 44)
 have q:dK (w.alloc (.cells (ia l).toArray 44)) 0 w.heap.size (ia l):=dK.new w 0 _ _ _ _ rfl (Nat.zero_le _) rfl
 have t:=hI d
 have s:=hI F
 have e1:wrap64 ((n:Int)+1)=(n:Int)+1:=by unfold wrap64;omega
 have r:Hid (w.cell? ⟨g,0,none⟩=some (.int .i64 (n:Int))):=hI a
 clear m d F a
 go_enter Tryz.func207,Tryz.ntmps207
 go_upto_region 1 with fail
 change Code.wp _ _ _ _ (w.alloc (.cells (ia l).toArray 44))
 have a:(w.alloc (.cells (ia l).toArray 44)).cell? ⟨g,0,none⟩=some (.int .i64 (n:Int)):=db.cell A0 r.o
 generalize w.alloc (.cells (ia l).toArray 44)=h at*
 generalize w.heap.size=B at*
 have P:=G0 B n (by omega) h
 have z:SlS 1 h (some ⟨B,1,none⟩) n 7 (((l.drop 1).take n).map jl):=JK q (by have:=s.o;omega) (by omega)
 have U:n<=1000000:=by omega
 go_wp2_with fail
 refine(xH z (Hq _) U).mono ?_
 rintro e I ⟨p2,c2,rfl,G,p⟩
 obtain⟨b,rfl,E,i,V⟩:=Ki G (by omega)
 have j:=A0.tr p
 have M:Hid (w.heap.size<=b):=hI (Nat.le_trans A0.size E)
 have N:Hid (w.heap.size<=I.heap.size):=hI j.size
 have C:=db.cell p a
 have u:Hid (((l.drop 1).take n).length=n):=hI (by rw[List.length_take,List.length_drop,s.o];omega)
 have y:Hid (R=(eM ((l.drop 1).take n)).getD ((n-1)/2) 0):=hI (by rw[t.o];unfold eZ;rw[Int.toNat_natCast])
 clear G p P z a q A0 t E
 rename Hid (dK I 0 b _)=>i
 have a:=C
 clear C
 have Z:Hid (h.heap.size<=h.heap.size):=hI (Nat.le_refl _)
 generalize(l.drop 1).take n=L at*
 go_wp2_with fail
 refine(FH i u.o (by omega) V).mono ?_
 rintro e J ⟨rfl,K,D⟩
 have A:db w J:=Below.grown j D N.o (fun k Q=>by cases Q;exact M.o)
 have gc:J.cell? ⟨g,0,none⟩=some (.int .i64 (n:Int)):=db.cell A r.o
 have S:(eM L).length=n:=by rw[Ch];exact u.o
 have aa:(n-1)/2<n:=by omega
 obtain⟨v,f⟩:∃v,(eM L)[(n-1)/2]? =some v:=⟨(eM L)[(n-1)/2]'(by omega),List.getElem?_eq_getElem _⟩
 have cv:=K.c _ _ (iQ f)
 have O:Hid (R=v):=hI (by rw[y.o,List.getD_eq_getElem?_getD,f];rfl)
 have e3:wrap64 ((n:Int)-1)=(n:Int)-1:=by unfold wrap64;omega
 have HV:=hI f
 clear D i j S f a y
 have T:n=3\/n=4\/n=5\/n=6\/n=7:=by omega
 rcases T with rfl|rfl|rfl|rfl|rfl
 all_goals
  go_wp2;go_ret;exact⟨by rw[O.o];rfl,A⟩
theorem Ei{l:List Int}(h:l.length=8):∃a b c d e f g i,l=[a,b,c,d,e,f,g,i]:=by
 match l,h with
 |[a,b,c,d,e,f,g,i],_=>exact⟨a,b,c,d,e,f,g,i,rfl⟩
theorem wj{c g:Nat}(h:ol w o c g x):
  Calls Tryz.prog 200 #[.pointer (some ⟨g,0,none⟩)] w fun e u=>e=.returned (.int .i64 (eZ x.hv x.n))/\db w u:=by have T:=tQ h h.ok.hl;obtain⟨R,b⟩:∃R,R=eZ x.hv x.n:=⟨_,rfl⟩;rw[<-b]at T⊢;obtain⟨f,a1,a2,a3,a4,a5,j,k,a⟩:=Ei h.ok.hl;have l:w.cell? ⟨g,3,none⟩=some (.int .i64 f):=h.box.box.c 3 _ (jM (i:=0) (by rw[a];rfl));have m:w.cell? ⟨g,4,none⟩=some (.int .i64 a1):=h.box.box.c 4 _ (jM (i:=1) (by rw[a];rfl));have n:w.cell? ⟨g,5,none⟩=some (.int .i64 a2):=h.box.box.c 5 _ (jM (i:=2) (by rw[a];rfl));have p:w.cell? ⟨g,6,none⟩=some (.int .i64 a3):=h.box.box.c 6 _ (jM (i:=3) (by rw[a];rfl));have q:w.cell? ⟨g,7,none⟩=some (.int .i64 a4):=h.box.box.c 7 _ (jM (i:=4) (by rw[a];rfl));have r:w.cell? ⟨g,8,none⟩=some (.int .i64 a5):=h.box.box.c 8 _ (jM (i:=5) (by rw[a];rfl));have s:w.cell? ⟨g,9,none⟩=some (.int .i64 j):=h.box.box.c 9 _ (jM (i:=6) (by rw[a];rfl));have t:w.cell? ⟨g,10,none⟩=some (.int .i64 k):=h.box.box.c 10 _ (jM (i:=7) (by rw[a];rfl));rw[a]at T;clear h a b;go_enter Tryz.func200,Tryz.ntmps200;go_wp2_with fail;refine T.mono ?_;rintro e v ⟨rfl,d⟩;clear T l m n p q r s t;go_wp2;go_ret;exact⟨rfl,d⟩
theorem yp{c g:Nat}(h:ol w o c g x):
  Calls Tryz.prog 201 #[.pointer (some ⟨g,0,none⟩)] w fun e u=>e=.returned (.int .i64 (eZ x.pr x.n))/\db w u:=by have T:=tQ h h.ok.pl;obtain⟨R,b⟩:∃R,R=eZ x.pr x.n:=⟨_,rfl⟩;rw[<-b]at T⊢;obtain⟨f,a1,a2,a3,a4,a5,j,k,a⟩:=Ei h.ok.pl;have l:w.cell? ⟨g,11,none⟩=some (.int .i64 f):=h.box.box.c 11 _ (i' (i:=0) h.ok (by rw[a];rfl));have m:w.cell? ⟨g,12,none⟩=some (.int .i64 a1):=h.box.box.c 12 _ (i' (i:=1) h.ok (by rw[a];rfl));have n:w.cell? ⟨g,13,none⟩=some (.int .i64 a2):=h.box.box.c 13 _ (i' (i:=2) h.ok (by rw[a];rfl));have p:w.cell? ⟨g,14,none⟩=some (.int .i64 a3):=h.box.box.c 14 _ (i' (i:=3) h.ok (by rw[a];rfl));have q:w.cell? ⟨g,15,none⟩=some (.int .i64 a4):=h.box.box.c 15 _ (i' (i:=4) h.ok (by rw[a];rfl));have r:w.cell? ⟨g,16,none⟩=some (.int .i64 a5):=h.box.box.c 16 _ (i' (i:=5) h.ok (by rw[a];rfl));have s:w.cell? ⟨g,17,none⟩=some (.int .i64 j):=h.box.box.c 17 _ (i' (i:=6) h.ok (by rw[a];rfl));have t:w.cell? ⟨g,18,none⟩=some (.int .i64 k):=h.box.box.c 18 _ (i' (i:=7) h.ok (by rw[a];rfl));rw[a]at T;clear h a b;go_enter Tryz.func201,Tryz.ntmps201;go_wp2_with fail;refine T.mono ?_;rintro e v ⟨rfl,d⟩;clear T l m n p q r s t;go_wp2;go_ret;exact⟨rfl,d⟩
end
section
structure GP where
 fr:Int
 ls:Int
 q:Option Addr
 cap:Nat
 L:List dj
 cm:Int
structure iq where
 fr:Int
 ls:Int
 L:List dj
 cm:Int
variable{C:Nat->Prop} {w D:World} {vs:List iq} {p:Option Addr} {o:Ow} {u:List GP} {vw n:Int} {v:GP} {c g cap:Nat}
def g8(v:GP):iq:=⟨v.fr,v.ls,v.L,v.cm⟩
abbrev K4(v:GP):List Value:=[.int .i64 v.fr,.int .i64 v.ls,.slice v.q v.L.length v.cap,.int .i64 v.cm]
structure xf (w:World) (o:Ow) (v:GP):Prop where
 fr:dE v.fr
 sl:fJ 7 w o v.q v.L.length v.cap (v.L.map dY)
 en:∀e∈v.L,eQ e
 le:v.L.length<=60
 cm:0<=v.cm/\v.cm<=60
theorem xf.fr'{a:Ow}(h:xf w o v)(k:Fm C o a w D)(b:¬C 0):xf D a v:=⟨h.fr,h.sl.fr k b,h.en,h.le,h.cm⟩
theorem xf.ext(h:xf w o v)(k:db w D):xf D o v:=⟨h.fr,h.sl.ext k,h.en,h.le,h.cm⟩
structure Jz (w:World) (o:Ow) (c g:Nat) (p:Option Addr) (cap:Nat) (vw n:Int) (u:List GP):Prop where
 box:dq w o c g [.int .i64 vw,.int .i64 n,.slice p u.length cap]
 row:dQ 205 4 w o (c+1) p u.length cap (u.map K4)
 ok:∀d∈u,xf w o d
 n:3<=n/\n<=7
 vw:1<=vw/\vw<=1099511627776
 le:u.length<=100
def sM(w:World)(o:Ow)(c g:Nat)(vw n:Int)(vs:List iq):Prop:=∃p cap u,Jz w o c g p cap vw n u/\u.map g8=vs
theorem Jz.fr{a:Ow}(h:Jz w o c g p cap vw n u)(k:Fm C o a w D)(b:¬C 0)(h1:1<c)(e:¬C c)(f:¬C (c+1)):Jz D a c g p cap vw n u:=
 ⟨h.box.fr k (by omega) e,h.row.fr k (by omega) f,fun d i=>(h.ok d i).fr' k b,h.n,h.vw,h.le⟩
theorem sM.fr{a:Ow}(h:sM w o c g vw n vs)(k:Fm C o a w D)(b:¬C 0)(h1:1<c)(d:¬C c)(f:¬C (c+1)):sM D a c g vw n vs:=by obtain⟨p,cap,u,h,e⟩:=h;exact⟨p,cap,u,h.fr k b h1 d f,e⟩
theorem Jz.ext(h:Jz w o c g p cap vw n u)(k:db w D):Jz D o c g p cap vw n u:=
 ⟨h.box.ext k,h.row.ext k,fun d a=>(h.ok d a).ext k,h.n,h.vw,h.le⟩
theorem sM.ext(h:sM w o c g vw n vs)(k:db w D):sM D o c g vw n vs:=by obtain⟨p,cap,u,h,e⟩:=h;exact⟨p,cap,u,h.ext k,e⟩
theorem Gi(h:Cl w o)(c:Nat)(C:Nat->Prop)(f:1<=vw/\vw<=1099511627776)(b:3<=n/\n<=7):
  Calls Tryz.prog 148 #[.int .i64 vw,.int .i64 n] w fun e D=>∃i,e=.returned (.pointer (some ⟨w.heap.size,0,none⟩))/\sM D i c w.heap.size vw n []/\Fm C o i w D:=by
 have A:=gn vw n f b w;have a:1<=dJ vw n:=by have:=Int.tmod_nonneg n (show 0<=vw-1 by omega);unfold dJ;omega
 have m:¬dJ vw n=0:=by omega
 have H:=hI h;have k:=hI f;have j:=hI b;generalize dJ vw n=l at*;clear h f b a;go_enter Tryz.func148,Tryz.ntmps148;go_wp2_with fail;refine A.mono ?_;rintro e D ⟨rfl,rfl⟩;clear A;go_wp2;go_ret;exact⟨_,rfl,⟨none,0,[],⟨dq.made w o c _ _ _ rfl,dQ.nil _ _ _ _ _,(fun d a=>by cases a),j.o,k.o,by decide⟩,rfl⟩,Fm.made H.o _ c⟩
theorem ju(h:sM w o c g vw n vs):
  Calls Tryz.prog 104 #[.pointer (some ⟨g,0,none⟩)] w fun e D=>e=.returned (.int .i64 vw)/\w=D:=by obtain⟨p,cap,u,h,-⟩:=h;have a:=h.box.box.c 0 _ rfl;clear h;go_enter Tryz.func104,Tryz.ntmps104;go_wp2;go_ret;exact⟨rfl,rfl⟩
def dr(vs:List iq):Int:=vs.foldl (fun t v=>fC t v.fr) 0
theorem yE(vs:List iq)(v:iq):dr (vs++[v])=fC (dr vs) v.fr:=by simp[dr]
theorem Gj{n:Nat}(h:SlS 4 w p n cap (u.map K4))(k:Nat)(j:k<n):
  ∃b a d,p=some ⟨b,a,none⟩/\u[k]? =some d/\w.cell? ⟨b,a+k*4,none⟩=some (.int .i64 d.fr)/\w.cell? ⟨b,a+k*4+1,none⟩=some (.int .i64 d.ls)/\w.cell? ⟨b,a+k*4+2,none⟩=some (.slice d.q d.L.length d.cap)/\w.cell? ⟨b,a+k*4+3,none⟩=some (.int .i64 d.cm):=by obtain⟨b,a,x,l,f,-,e⟩:=h.at k j;rw[List.getElem?_map]at f;obtain⟨d,i,rfl⟩:=Option.map_eq_some_iff.1 f;exact⟨b,a,d,l,i,e 0 _ rfl,e 1 _ rfl,e 2 _ rfl,e 3 _ rfl⟩
theorem wD:∀(u:List GP) (t:Int),gS t->(∀d∈u,dE d.fr)->gS ((u.map g8).foldl (fun t v=>fC t v.fr) t)
 |[],t,h,_=>h
 |d::u,t,h,a=>wD u _ (oe h (a d (by simp))) (fun x b=>a x (by simp[b]))
theorem kC(u:List GP)(h:∀d∈u,dE d.fr):gS (dr (u.map g8)):=wD u 0 ⟨by decide,by decide⟩ h
theorem jt(h:sM w o c g vw n vs):
  Calls Tryz.prog 138 #[.pointer (some ⟨g,0,none⟩)] w fun e D=>e=.returned (.int .i64 (dr vs))/\db w D:=by
 obtain⟨p,cap,u,h,rfl⟩:=h;have f:=h.box.box.c 2 _ rfl;have P:=h.le;have H:=hI h;clear h;go_enter Tryz.func138,Tryz.ntmps138;go_wp2_with fail;clear f;go_loopw [3,13] (fun t i wr=>∃(k:Nat),k<=u.length/\i=.int .i64 (k:Int)/\t=.int .i64 (dr ((u.take k).map g8))/\Hid (db w wr)) (fun _ i _=>u.length-(intOf i).toNat);case atStart=>exact⟨0,by omega,rfl,rfl,hI (db.rfl' _)⟩
 case round=>
  obtain⟨k,O,rfl,rfl,X⟩:=hrel;by_cases K:k<u.length
  .obtain⟨b,Q,d,L,s,A,B,f,E⟩:=Gj (H.o.row.row.sl.ext X.o) k K;have G:=hI (H.o.ok d (List.mem_of_getElem? s));have J:Hid (gS (dr ((u.take k).map g8))):=hI (kC _ (fun x M=>(H.o.ok x (List.mem_of_mem_take M)).fr))
   have I:Hid (dr ((u.take (k+1)).map g8)=fC (dr ((u.take k).map g8)) d.fr):=hI (by
    rw[List.take_add_one,s,List.map_append]
    exact yE _ _)
   clear s;subst L;obtain⟨a,q,r,l,j,m⟩:=d;simp only at A B f E;have z:=fun w=>tZ _ a J.o G.o.fr w;have y:=hI I.o;simp only at y;generalize dr ((u.take k).map g8)=T at*;go_upto_region 6 with fail;change Code.wp _ _ _ _ (wr.alloc (.cells #[.int .i64 a,.int .i64 q,.slice r j.length l,.int .i64 m] 205));have F:=hI (X.o.tr (db.alloc wr (.cells #[.int .i64 a,.int .i64 q,.slice r j.length l,.int .i64 m] 205)));have N:=(dK.new wr 0 #[.int .i64 a,.int .i64 q,.slice r j.length l,.int .i64 m] _ 205 _ rfl (Nat.zero_le _) rfl).c 0 _ rfl;clear A B f E;generalize wr.alloc (.cells #[.int .i64 a,.int .i64 q,.slice r j.length l,.int .i64 m] 205)=R at*;go_wp2_with fail;refine(z _).mono ?_;rintro e D ⟨rfl,rfl⟩;clear z;go_wp2;go_roundw;case rel=>exact⟨k+1,by omega,by go_num,by rw[y.o],F⟩
   case measure=>simp[intOf];omega
  .have e:u.take k=u:=List.take_of_length_le (by omega);rw[e];clear e;go_wp2;go_ret;exact⟨rfl,X.o⟩
end
end Go.Proofs.YtjhbmbbmjaabcaaGreat
