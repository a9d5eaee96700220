/-
  Contracts. Conditions stand at each.
-/
import Derived.Deep.RegionLaw
import Derived.Deep.CutBlock
import Derived.Deep.DeepCutAuto
import Derived.Test.YtjhbmbbmjaabcaaGreatRows
import Derived.Test.YtjhbmbbmjaabcaaGreatS3
import Derived.Test.YtjhbmbbmjaabcaaGreatS4
set_option linter.all false
set_option maxRecDepth 8000
set_option maxHeartbeats 8000000
namespace Go.Proofs.YtjhbmbbmjaabcaaGreat
open Go Go.Sort Go.RowKit
section
variable{L:List dj} {p:Option Addr} {w:World} {C:Nat->Prop} {f:dj->Bool} {o:Ow} {g cap c:Nat} {a:Value}
theorem iw{P:Program}{k:FuncId}{b:Func}(i:P.funcs[k]? =some b)(j:(b.name== "runtime.NumGoroutine")=false)(h:b.body.isNone=false):∀(d:Array Value) (w:World),(callFunc k d).run P w=.ok (.enter k d) w:=by
 intro d w;have h1:¬b.name= "runtime.NumGoroutine" :=by simpa using j
 have h2:¬b.body=none:=by intro e;rw[e]at h;simp at h
 simp[callFunc,i,h1,h2]
structure qw (w:World) (o:Ow) (c g:Nat) (p:Option Addr) (cap:Nat) (L:List dj):Prop where
 box:dq w o c g [.slice p L.length cap]
 row:dQ 71 7 w o (c+1) p L.length cap (L.map dY)
 max:L.length<=60
 ok:∀e∈L,eQ e
def ge(w:World)(o:Ow)(c g:Nat)(L:List dj):Prop:=∃p cap,qw w o c g p cap L
theorem qw.fr{d:World}{b:Ow}(h:qw w o c g p cap L)(k:Fm C o b w d)(h1:1<c)(e:¬C c)(i:¬C (c+1)):qw d b c g p cap L:=
 ⟨h.box.fr k (by omega) e,h.row.fr k (by omega) i,h.max,h.ok⟩
theorem qw.ext{b:World}(h:qw w o c g p cap L)(k:db w b):qw b o c g p cap L:=⟨h.box.ext k,h.row.ext k,h.max,h.ok⟩
theorem ge.fr{d:World}{b:Ow}(h:ge w o c g L)(k:Fm C o b w d)(h1:1<c)(e:¬C c)(i:¬C (c+1)):ge d b c g L:=by obtain⟨p,cap,h⟩:=h;exact⟨p,cap,h.fr k h1 e i⟩
theorem ge.ext{b:World}(h:ge w o c g L)(k:db w b):ge b o c g L:=by obtain⟨p,cap,h⟩:=h;exact⟨p,cap,h.ext k⟩
theorem fP(h:ge w o c g L):
  Calls Tryz.prog 99 #[.pointer (some ⟨g,0,none⟩)] w fun e b=>e=.returned (.int .i64 (L.length:Int))/\w=b:=by obtain⟨p,cap,h⟩:=h;have d:=h.box.box.c 0 _ rfl;clear h;go_enter Tryz.func99,Tryz.ntmps99;go_wp2;go_ret;exact⟨rfl,rfl⟩
theorem Bs{x e:dj}(h:eB w g e):
  Calls Tryz.prog 202 #[jT x,.pointer (some ⟨g,0,none⟩)] w fun r F=>r=.returned (.bool (dG x e))/\db w F:=by have t:=h.ext (db.alloc w (.cells (dZ x) 71));obtain⟨d,i,j,k,l,m,n⟩:=x;obtain⟨v,y,z,A,B,D,E⟩:=e;have s:=eB.new w ⟨d,i,j,k,l,m,n⟩ 71;clear h;have⟨c0,c1,c2,c3,c4,c5,c6⟩:=s;have⟨d0,d1,d2,d3,d4,d5,d6⟩:=t;simp only at c0 c1 c2 c3 c4 c5 c6 d0 d1 d2 d3 d4 d5 d6;go_enter Tryz.func202,Tryz.ntmps202;go_wp2_with fail;refine(rR (a:=⟨d,i,j,k,l,m,n⟩) (b:=⟨v,y,z,A,B,D,E⟩)).mono ?_;rintro r G ⟨rfl,q⟩;have u:=(db.alloc w (.cells (dZ ⟨d,i,j,k,l,m,n⟩) 71)).tr q;clear q;go_wp2;go_ret;exact⟨rfl,u⟩
theorem xK{n k:Nat}(S:SlS 7 w p n cap (L.map dY))(Z:∀(t:Array Value) (w:World),(callFunc k t).run Tryz.prog w=.ok (.enter k t) w)(E:∀e h,db w h->Calls Tryz.prog k #[jT e,a] h fun r W=>r=.returned (.bool (f e))/\db h W):
  Calls Tryz.prog 165 #[.slice p n cap,.func (.func k) #[] #[a]] w fun e h=>(∃z:Int,e=.returned (.int .i64 z)/\(decide (0<=z))=L.any f)/\db w h:=by
 have hn:n<=9223372036854775807:=Nat.le_trans S.le S.max;have N:=hI (it S);have H:=hI E;clear E;go_enter Tryz.func165,Tryz.ntmps165;go_wp2;go_loopw [8] (fun i wr=>∃k:Nat,k<=n/\i=.int .i64 (k:Int)/\(L.take k).any f=false/\db w wr) (fun i _=>n-(intOf i).toNat);case atStart=>exact⟨0,by omega,rfl,rfl,db.rfl' _⟩
 case round=>
  obtain⟨k,hk,rfl,F,X⟩:=hrel;have T:=hI F;clear F;by_cases U:k<n
  .obtain⟨b,o,e,V,G,J,K,M,O,P,Q,R⟩:=iE (S.ext X) k U;have s:=hI G;clear G;subst V;obtain⟨v,x,y,A,B,D,u⟩:=e;simp only at J K M O P Q R;have l:=H.o ⟨v,x,y,A,B,D,u⟩ _ X;cases d:f ⟨v,x,y,A,B,D,u⟩
   .have I:Hid ((L.take (k+1)).any f=false):=hI (by
     rw[List.take_add_one,s.o,List.any_append,T.o]
     simp[d])
    rw[d]at l;clear d;go_wp2_with fail;refine l.mono ?_;rintro e Y ⟨rfl,j⟩;have m:=X.tr j;clear j;go_wp2;go_roundw;case rel=>exact⟨k+1,by omega,by go_num,I.o,m⟩
    case measure=>simp[intOf];omega
   .have q:Hid (L.any f=true):=hI (by
     rw[List.any_eq_true]
     exact⟨_,List.mem_of_getElem? s.o,d⟩)
    rw[d]at l;clear d;go_wp2_with fail;refine l.mono ?_;rintro e Y ⟨rfl,j⟩;have m:=X.tr j;clear j;go_wp2;go_ret;exact⟨⟨_,rfl,by rw[q.out,decide_eq_true (by omega)]⟩,m⟩
  .have q:Hid (L.any f=false):=hI (by
    have h1:=T.o
    rwa[List.take_of_length_le (by rw[N.o];omega)]at h1)
   go_wp2;go_ret;exact⟨⟨_,rfl,by rw[q.out];rfl⟩,X⟩
theorem mI{n k:Nat}(S:SlS 7 w p n cap (L.map dY))(s:∀(d:Array Value) (w:World),(callFunc k d).run Tryz.prog w=.ok (.enter k d) w)(h:∀e b,db w b->Calls Tryz.prog k #[jT e,a] b fun r j=>r=.returned (.bool (f e))/\db b j):
  Calls Tryz.prog 124 #[.slice p n cap,.func (.func k) #[] #[a]] w fun e b=>e=.returned (.bool (L.any f))/\db w b:=by have l:=hI h;clear h;go_enter Tryz.func124,Tryz.ntmps124;go_wp2_with fail;refine(xK S s l.o).mono ?_;rintro e j ⟨⟨z,rfl,i⟩,q⟩;have m:=hI i;clear i;go_wp2;go_ret;exact⟨by rw[<-m.o];rfl,q⟩
theorem vO{e:dj}(h:ge w o c g L):
  Calls Tryz.prog 186 #[.pointer (some ⟨g,0,none⟩),jT e] w fun r q=>r=.returned (.bool (L.any fun x=>dG x e))/\db w q:=by obtain⟨p,cap,h⟩:=h;have H:=h.ext (db.alloc w (.cells (dZ e) 71));clear h;obtain⟨b,d,i,j,l,m,n⟩:=e;have t:=eB.new w ⟨b,d,i,j,l,m,n⟩ 71;have v:=H.box.box.c 0 _ rfl;go_enter Tryz.func186,Tryz.ntmps186;go_wp2_with fail;refine(mI (f:=fun x=>dG x ⟨b,d,i,j,l,m,n⟩) H.row.row.sl (iw Tryz.func202 (by kernel_rfl) (by kernel_rfl)) (fun x q k=>Bs (t.ext k))).mono ?_;rintro r y ⟨rfl,s⟩;have u:=(db.alloc w (.cells (dZ ⟨b,d,i,j,l,m,n⟩) 71)).tr s;clear s;go_wp2;go_ret;exact⟨rfl,u⟩
end
section
structure mz where
 nm:Int
 ask:List (Int×Int)
 has:Bool
 bn:Int
 bc:Int
 cm:Int
variable{w:World} {x:mz} {o:Ow} {C:Nat->Prop} {p:Option Addr} {D:Int} {c g:Nat}
abbrev EX(x:mz)(p:Option Addr)(cap:Nat):List Value:=[.int .i64 x.nm,.slice p x.ask.length cap,.bool x.has,.int .i64 x.bn,.int .i64 x.bc,.int .i64 x.cm]
def qL(q:Int×Int):List Value:=[.int .i64 q.1,.int .i64 q.2]
def two(c:Nat):Nat->Prop:=fun d=>d=c\/d=c+1
structure Jx (w:World) (o:Ow) (c g:Nat) (p:Option Addr) (cap:Nat) (x:mz):Prop where
 box:dq w o c g (EX x p cap)
 row:iC 2 w o (c+1) p x.ask.length cap (x.ask.map qL)
def sL(w:World)(o:Ow)(c g:Nat)(x:mz):Prop:=∃p a,Jx w o c g p a x
theorem Jx.fr{b:World}{a:Ow}{cap:Nat}(h:Jx w o c g p cap x)(k:Fm C o a w b)(h1:1<c)(d:¬C c)(e:¬C (c+1)):Jx b a c g p cap x:=
 ⟨h.box.fr k (by omega) d,h.row.fr k (by omega) e⟩
theorem sL.fr{b:World}{a:Ow}(h:sL w o c g x)(k:Fm C o a w b)(h1:1<c)(e:¬C c)(f:¬C (c+1)):sL b a c g x:=by obtain⟨p,d,h⟩:=h;exact⟨p,d,h.fr k h1 e f⟩
theorem Jx.ext{a:World}{cap:Nat}(h:Jx w o c g p cap x)(k:db w a):Jx a o c g p cap x:=⟨h.box.ext k,h.row.ext k⟩
def ir(x:mz)(D:Int):mz:={x with nm:=x.nm+1,ask:=(x.ask++[(x.nm+1,D)]).drop (x.ask.length+1-64)}
def qM(x:mz):mz:=⟨x.nm,[],false,0,0,0⟩
def KQ(b:Int):mz:=⟨b,[],false,0,0,0⟩
def rn(x:mz)(D cm:Int):Int:=if x.has=false\/cm<x.cm\/D<x.bc\/12<=D-x.bc then 0 else 12-(D-x.bc)
def ts(x:mz)(D cm:Int):Bool:=decide (0<rn x D cm)
theorem J2:(Tryz.prog.info? 153).map (fun i=>(i.zero,i.size,i.bytes))=some (some (.agg #[.int .i64 0,.int .i64 0]),2,16):=by kernel_rfl
theorem E0(H:Cl w o)(c:Nat)(C:Nat->Prop)(b:Int):
  Calls Tryz.prog 133 #[.int .i64 b] w fun e d=>∃a,e=.returned (.pointer (some ⟨w.heap.size,0,none⟩))/\sL d a c w.heap.size (KQ b)/\Fm C o a w d:=by go_enter Tryz.func133,Tryz.ntmps133;go_wp2;go_ret;exact⟨_,rfl,⟨none,0,dq.made w o c _ _ _ rfl,iC.nil _ _ _ _⟩,Fm.made H _ c⟩
theorem v'(ab:Cl w o)(h:sL w o c g x)(h1:1<c)(hm:0<=x.nm/\x.nm<=1099511627776)(hl:x.ask.length<=64):
  Calls Tryz.prog 143 #[.pointer (some ⟨g,0,none⟩),.int .i64 D] w fun e w'=>∃o',e=.returned (.int .i64 (x.nm+1))/\sL w' o' c g (ir x D)/\Fm (two c) o o' w w':=by
 obtain⟨p,ad,h⟩:=h;obtain⟨a,ask,has,l,k,n⟩:=x;simp only at hm hl;obtain⟨m1,m2⟩:=hm;have H:=h;have Y:=ab;have G:=h.box.box.c 0 _ rfl;have f0:=h.box.box.f 0;have b:=hI h1;clear h ab h1;simp only at G;go_enter Tryz.func143,Tryz.ntmps143;go_upto_region 4 with fail;have Z:Fm (two c) o o w (w.setCell ⟨g,0,none⟩ (.int .i64 (a+1))):=Fm.put Y H.box (by have:=b.o;omega) (.inl rfl) 0 _;have z:dq (w.setCell ⟨g,0,none⟩ (.int .i64 (a+1))) o c g (EX ⟨a+1,ask,has,l,k,n⟩ p ad):=H.box.put 0 (.int .i64 (a+1));have T:Fm (fun d=>d=c) o o w (w.setCell ⟨g,0,none⟩ (.int .i64 (a+1))):=Fm.put (C:=fun d=>d=c) Y H.box (by have:=b.o;omega) rfl 0 _;have R1:=H.row.fr T (by have:=b.o;omega) (by omega);have R:=T.cl;generalize w.setCell ⟨g,0,none⟩ (.int .i64 (a+1))=Q at*;clear G f0 T H;have M:=db.alloc Q (.cells #[.int .i64 (a+1),.int .i64 D] 153);have J:=M.tr (db.drew (Q.alloc (.cells #[.int .i64 (a+1),.int .i64 D] 153)));have F:=(z.ext M).box.c 0 _ rfl;have b1:=(z.ext M).box.c 1 _ rfl;have d0:=z.box.c 0 _ rfl;have d1:=z.box.c 1 _ rfl;simp only at F b1 d0 d1;have af:ask.length<=1000000:=by omega
 go_region_law (refine Ck (by rfl) _ _ _ (by rfl) 153 2 16 _ Tryz.underlying151 J2 (by rfl) (by omega) (R.ext J) (R1.ext J) (by rfl) Q.heap.size 1 [.int .i64 (a+1),.int .i64 D] (by rfl) (by rfl) (fun j u hu=>gd (w:=Q) rfl j u hu) (by simp[Value.oneCell']) af (by omega) (by have:=b.o;omega) (fun d=>d=c+1) rfl ?_;intro i f s L r4 U;have B:=(z.ext J).fr U (by have:=b.o;omega) (by omega);have b4:=B.box.c 1 _ rfl;have ae:=B.box.f 1)
 all_goals
  have N:Fm (two c) o s w L:=(Z.tr (Fm.ext R J) (by unfold two;have:=b.o;omega)).tr (U.mono (fun d hd=> .inr hd)) (by unfold two;have:=b.o;omega);have v:Fm (two c) o s w (L.setCell ⟨g,1,none⟩ (.slice i (ask.length+1) f)):=N.tr (Fm.put N.cl B (by have:=b.o;omega) (.inl rfl) 1 _) (by unfold two;have:=b.o;omega);have r:dq (L.setCell ⟨g,1,none⟩ (.slice i (ask.length+1) f)) s c g (EX ⟨a+1,ask++[(a+1,D)],has,l,k,n⟩ i f):=by have:=B.put 1 (.slice i (ask.length+1) f);simpa [EX]using this
  have P:iC 2 (L.setCell ⟨g,1,none⟩ (.slice i (ask.length+1) f)) s (c+1) i (ask.length+1) f ((ask++[(a+1,D)]).map qL):=by have:=r4.fr (Fm.put (C:=fun d=>d=c) N.cl B (by have:=b.o;omega) rfl 1 (.slice i (ask.length+1) f)) (by have:=b.o;omega) (by omega);simpa [qL]using this
  clear r4 U B b4 ae F b1 d0 d1 M J N R1 z Z R;generalize L.setCell ⟨g,1,none⟩ (.slice i (ask.length+1) f)=I at*;have F:=r.box.c 0 _ rfl;have b1:=r.box.c 1 _ rfl;have f1:=r.box.f 1;try simp only at F b1
  have W:(ask++[(a+1,D)]).length=ask.length+1:=by simp
  rw[W]at b1;have ac:=hI W;clear W;by_cases ag:ask.length+1<=64
  .have e1:wrap64 (((ask.length+1:Nat):Int)-64)=((ask.length+1:Nat):Int)-64:=by unfold wrap64;omega
   have e2:¬0<((ask.length+1:Nat):Int)-64:=by omega
   have e3:((ask.length+1:Nat):Int)-64<=0:=by omega
   have y:Hid (ir ⟨a,ask,has,l,k,n⟩ D=⟨a+1,ask++[(a+1,D)],has,l,k,n⟩):=hI (by
    unfold ir
    simp only[show ask.length+1-64=0 by omega,List.drop_zero])
   go_wp2_with fail;go_region;have A:dq (I.setCell ⟨g,1,none⟩ (.slice i (ask.length+1) f)) s c g (EX ⟨a+1,ask++[(a+1,D)],has,l,k,n⟩ i f):=by have:=r.put 1 (.slice i (ask.length+1) f);simpa [EX]using this
   have K:Fm (two c) o s w (I.setCell ⟨g,1,none⟩ (.slice i (ask.length+1) f)):=v.tr (Fm.put v.cl r (by have:=b.o;omega) (.inl rfl) 1 _) (by unfold two;have:=b.o;omega);have E:=P.fr (Fm.put (C:=fun d=>d=c) v.cl r (by have:=b.o;omega) rfl 1 (.slice i (ask.length+1) f)) (by have:=b.o;omega) (by omega);clear F b1 f1 v r P;generalize I.setCell ⟨g,1,none⟩ (.slice i (ask.length+1) f)=t at*;have O:=K.tr (Fm.drew K.cl) (by unfold two;have:=b.o;omega);have G:=(A.ext (db.drew t)).box.c 0 _ rfl;simp only at G;go_wp2;go_ret;exact⟨s,rfl,⟨i,f,by rw[y.o];exact A.ext (db.drew t),by rw[y.o];rw[show(⟨a+1,ask++[(a+1,D)],has,l,k,n⟩:mz).ask.length=ask.length+1 from ac.o];exact E.ext (db.drew t)⟩,O⟩
  .have e1:wrap64 (((ask.length+1:Nat):Int)-64)=1:=by unfold wrap64;omega
   have y:Hid (ir ⟨a,ask,has,l,k,n⟩ D=⟨a+1,(ask++[(a+1,D)]).drop 1,has,l,k,n⟩):=hI (by
    unfold ir
    simp only[show ask.length+1-64=1 by omega])
   have S:Hid (((ask++[(a+1,D)]).drop 1).length=ask.length):=hI (by simp);have E:=P.drop 1 (by omega);rw[Nat.add_sub_cancel,<-List.map_drop]at E;obtain⟨q,X⟩:∃q,gI 2 i f 1=q:=⟨_,rfl⟩;obtain⟨m,V⟩:∃m,f-1=m:=⟨_,rfl⟩;rw[X,V]at E
   have HV:Hid (Value.slice (if f=ask.length-63 then i else Option.map (fun x=>x.add ((ask.length-63)*2)) i) (ask.length+1-(ask.length-63)) (f-(ask.length-63))=.slice q ask.length m):=hI (by
    rw[show ask.length-63=1 by omega,Nat.add_sub_cancel,<-X,<-V]
    rfl)
   clear X V;go_wp2_with fail;go_region;rw[HV.o]
   have A:dq (I.setCell ⟨g,1,none⟩ (.slice q ask.length m)) s c g (EX ⟨a+1,(ask++[(a+1,D)]).drop 1,has,l,k,n⟩ q m):=by
    have:=r.put 1 (.slice q ask.length m);have e:(EX ⟨a+1,ask++[(a+1,D)],has,l,k,n⟩ i f).set 1 (.slice q ask.length m)=EX ⟨a+1,(ask++[(a+1,D)]).drop 1,has,l,k,n⟩ q m:=by unfold EX;simp only[S.o];rfl
    rw[e]at this;exact this
   have K:Fm (two c) o s w (I.setCell ⟨g,1,none⟩ (.slice q ask.length m)):=v.tr (Fm.put v.cl r (by have:=b.o;omega) (.inl rfl) 1 _) (by unfold two;have:=b.o;omega);have R7:=E.fr (Fm.put (C:=fun d=>d=c) v.cl r (by have:=b.o;omega) rfl 1 (.slice q ask.length m)) (by have:=b.o;omega) (by omega);clear F b1 f1 v r P E;generalize I.setCell ⟨g,1,none⟩ (.slice q ask.length m)=t at*;have O:=K.tr (Fm.drew K.cl) (by unfold two;have:=b.o;omega);have G:=(A.ext (db.drew t)).box.c 0 _ rfl;simp only at G;go_wp2;all_goals go_ret;first|exact⟨s,rfl,⟨q,m,by rw[y.o];exact A.ext (db.drew t),by rw[y.o];rw[show(⟨a+1,(ask++[(a+1,D)]).drop 1,has,l,k,n⟩:mz).ask.length=ask.length from S.o];exact R7.ext (db.drew t)⟩,O⟩|exact⟨rfl,s,⟨q,m,by rw[y.o];exact A.ext (db.drew t),by rw[y.o];rw[show(⟨a+1,(ask++[(a+1,D)]).drop 1,has,l,k,n⟩:mz).ask.length=ask.length from S.o];exact R7.ext (db.drew t)⟩,O⟩
theorem oO(b:Cl w o)(h:sL w o c g x)(h1:1<c):
  Calls Tryz.prog 150 #[.pointer (some ⟨g,0,none⟩)] w fun e d=>e=.returned (.tuple #[])/\sL d o c g (qM x)/\Fm (two c) o o w d:=by obtain⟨p,u,h⟩:=h;obtain⟨a,ask,has,t,s,y⟩:=x;have H:=h;have j:=b;obtain⟨k,l,m,n,q,r⟩:=nx h.box;have f:=h.box.box.f;have i:=hI h1;clear h b h1;simp only at k l m n q r;go_enter Tryz.func150,Tryz.ntmps150;go_wp2;refine bodyPost_end (v:=.tuple #[]) (by simp[results,Tryz.results150,go_sem]) rfl ?_;have M:=Fm.fill (us:=[.int .i64 a,.slice none 0 0,.bool false,.int .i64 0,.int .i64 0,.int .i64 0]) (C:=two c) j H.box (by have:=i.o;omega) (.inl rfl);have B:=H.box.fill (vs:=[.int .i64 a,.slice none 0 0,.bool false,.int .i64 0,.int .i64 0,.int .i64 0]) (by simp);refine⟨rfl,?_⟩;change sL (dL w g 0 [.int .i64 a,.slice none 0 0,.bool false,.int .i64 0,.int .i64 0,.int .i64 0]) o c g _/\Fm _ _ _ _ (dL w g 0 [.int .i64 a,.slice none 0 0,.bool false,.int .i64 0,.int .i64 0,.int .i64 0]);generalize dL w g 0 [.int .i64 a,.slice none 0 0,.bool false,.int .i64 0,.int .i64 0,.int .i64 0]=z at*;exact⟨⟨none,0,B,iC.nil _ _ _ _⟩,M⟩
theorem BW{cm:Int}(h:sL w o c g x)(m:0<=D/\D<=1099511627776)(d:0<=x.bc/\x.bc<=1099511627776):
  Calls Tryz.prog 76 #[.pointer (some ⟨g,0,none⟩),.int .i64 D,.int .i64 cm] w fun e q=>e=.returned (.int .i64 (rn x D cm))/\w=q:=by
 obtain⟨p,r,h⟩:=h;obtain⟨n,ask,has,i,b,f⟩:=x;simp only at d;obtain⟨k1,k2⟩:=m;obtain⟨b1,b2⟩:=d;have j:=h.box.box.c 2 _ rfl;have k:=h.box.box.c 4 _ rfl;have l:=h.box.box.c 5 _ rfl;clear h;simp only at j k l;obtain⟨R,a⟩:∃R,R=rn ⟨n,ask,has,i,b,f⟩ D cm:=⟨_,rfl⟩;rw[<-a];unfold rn at a;simp only at a;cases has;·rw[if_pos (.inl rfl)]at a;subst a;go_enter Tryz.func76,Tryz.ntmps76;go_wp2;go_ret;exact⟨rfl,rfl⟩
 .by_cases h1:cm<f;·rw[if_pos (.inr (.inl h1))]at a;subst a;go_enter Tryz.func76,Tryz.ntmps76;go_wp2;go_ret;exact⟨rfl,rfl⟩
  .by_cases h2:D<b;·rw[if_pos (.inr (.inr (.inl h2)))]at a;subst a;go_enter Tryz.func76,Tryz.ntmps76;go_wp2;go_ret;exact⟨rfl,rfl⟩
   .by_cases h3:12<=D-b;·rw[if_pos (.inr (.inr (.inr h3)))]at a;subst a;go_enter Tryz.func76,Tryz.ntmps76;go_wp2;go_ret;exact⟨rfl,rfl⟩
    .have h4:0<=D-b:=by omega
     rw[if_neg (by simp;omega)]at a;subst a;go_enter Tryz.func76,Tryz.ntmps76;go_wp2;go_ret;exact⟨rfl,rfl⟩
theorem BU{cm:Int}(h:sL w o c g x)(b:0<=D/\D<=1099511627776)(a:0<=x.bc/\x.bc<=1099511627776):
  Calls Tryz.prog 51 #[.pointer (some ⟨g,0,none⟩),.int .i64 D,.int .i64 cm] w fun e d=>e=.returned (.bool (ts x D cm))/\w=d:=by have T:=BW (cm:=cm) h b a;unfold ts;generalize rn x D cm=l at*;clear h b a;go_enter Tryz.func51,Tryz.ntmps51;go_wp2_with fail;refine T.mono ?_;rintro e d ⟨rfl,rfl⟩;go_wp2;go_ret;exact⟨rfl,rfl⟩
end
section
variable{L:List dj} {w:World} {o:Ow}
theorem nN:(Tryz.prog.info? 71).map (fun i=>(i.zero,i.size,i.bytes))=some (some (jT dx),7,64):=by kernel_rfl
theorem kP(L:List dj):∀r∈L.map dY,∀u∈r,u.oneCell'=true:=by intro r hr u a;obtain⟨e,-,rfl⟩:=List.mem_map.1 hr;simp[dY]at a;rcases a with rfl|rfl|rfl|rfl|rfl|rfl|rfl<;>rfl
theorem E':∀(w:World) (a:Option Addr) (n c d b:Nat),(binOp .eql 43 (.slice a n c) (.slice none d b)).run Tryz.prog w=.ok (.bool a.isNone) w:=fun w a n c d b=>Lib.run_eql_slice_nil w _ _ a n c d b Tryz.underlying43
theorem jz{w:World}{p:Option Addr}{n cap:Nat}{L:List (List Value)}(h:SlS 7 w p n cap L)(f:∀r∈L,∀u∈r,u.oneCell'=true)(N:n<=1000000):
  Calls Tryz.prog 100 #[.slice p n cap] w fun e q=>∃c b,e=.returned (.slice c n b)/\fY 71 7 q w.heap.size c n b L/\db w q:=by
 have O:=E'
 obtain⟨K,j,G,I,J⟩:=iX nN
 have t:=hI j
 clear j
 cases p with
 |none=>
  have B:=h.nil rfl;have D:=h.le;have l:=h.len;obtain rfl:cap=0:=B;obtain rfl:n=0:=by omega
  obtain rfl:L=[]:=List.eq_nil_of_length_eq_zero l;clear h l D f;go_enter Tryz.func100,Tryz.ntmps100;go_wp2;go_ret;exact⟨_,_,rfl,fY.nil _ _ _ _,db.rfl' _⟩
 |some a=>
  have H:=hI h;have v:=hI f;clear h f;have d:=hI (db.alloc w (.cells #[] 71));have z:Hid (fY 71 7 (w.alloc (.cells #[] 71)) w.heap.size (some ⟨w.heap.size,0,none⟩) 0 0 []):=hI (fY.made w w.heap.size 0 #[] [] (Nat.le_refl _) rfl (fun x F=>by cases F) rfl (by omega));have g:w.heap.size<=(w.alloc (.cells #[] 71)).heap.size:=d.o.size;have A:(0+n)*64<=140737488355328:=by omega
  have E:0+n<=140737488355328:=by omega
  go_enter Tryz.func100,Tryz.ntmps100;go_wp2_with (at_builtin;refine io rfl _ _ 43 rfl w.heap.size Tryz.underlying43 K _ 64 t.o G I J rfl (by decide) (some ⟨w.heap.size,0,none⟩) 0 0 [] rfl z.o (some a) n cap L rfl (H.o.ext d.o) v.o A E g ?_);intro c b M m i;have y:Hid (fY 71 7 M w.heap.size c n b L):=hI (by simpa using m);have s:=hI i;clear m i;try simp only[Nat.zero_add]
  go_wp2;go_ret;exact⟨_,_,rfl,y.o,Below.grown d.o s.o g (fun k C=>by simp at C;omega)⟩
theorem ge.max{c g:Nat}(h:ge w o c g L):L.length<=60:=by obtain⟨p,a,h⟩:=h;exact h.max
theorem mX(p:Option Addr)(n cap k:Nat)(a:k<=n)(w:World):(Instr.slice 43 (.slice p n cap) (some (.int .i64 (k:Int))) none none).run Tryz.prog w=.ok (.slice (gI 7 p cap k) (n-k) (cap-k)) w:=
 sS 7 43 71 Tryz.underlying43 (fun w=>by kernel_rfl) p n cap k a w
theorem tz{c g a:Nat}(h:ge w o c g L)(A:a<=1000000):
  Calls Tryz.prog 78 #[.pointer (some ⟨g,0,none⟩),.int .i64 (a:Int)] w fun e m=>∃l j,e=.returned (.slice l (L.drop a).length j)/\fY 71 7 m w.heap.size l (L.drop a).length j ((L.drop a).map dY)/\db w m:=by
 have T:=fP h;obtain⟨p,b,h⟩:=h;have B:=h.max;have H:=hI h;have i:=h.box.box.c 0 _ rfl;clear h;by_cases f:L.length<=a
 .have e:L.drop a=[]:=List.drop_of_length_le f;rw[e];have u:(L.length:Int)<=(a:Int):=by omega
  clear e f i;go_enter Tryz.func78,Tryz.ntmps78;go_wp2_with fail;refine T.mono ?_;rintro e x ⟨rfl,rfl⟩;go_wp2;go_ret;exact⟨_,_,rfl,fY.nil _ _ _ _,db.rfl' _⟩
 .have u:¬(L.length:Int)<=(a:Int):=by omega
  have d:(L.drop a).length=L.length-a:=by simp
  have y:=hI d;rw[d];have t:=mX p L.length b a (by omega)
  have r:Hid (SlS 7 w (gI 7 p b a) (L.length-a) (b-a) ((L.drop a).map dY)):=hI (by
   have:=H.o.row.row.sl.drop a (by omega)
   rwa[<-List.map_drop]at this)
  have v:L.length-a<=1000000:=by omega
  clear d f;go_enter Tryz.func78,Tryz.ntmps78;go_wp2_with fail;refine T.mono ?_;rintro e x ⟨rfl,rfl⟩;go_wp2_with fail;refine(jz r.o (kP _) v).mono ?_;rintro e D ⟨C,z,rfl,k,n⟩;have q:=hI k;have s:=hI n;clear k n T t i;go_wp2;go_ret;exact⟨_,_,rfl,q.o,s.o⟩
end
def ib(L:List dj):dj:=L.getLast?.getD dx
theorem ql{w:World}{o:Ow}{c g:Nat}{L:List dj}(h:ge w o c g L):
  Calls Tryz.prog 174 #[.pointer (some ⟨g,0,none⟩),.int .i64 (L.length:Int)] w fun r N=>r=.returned (.tuple #[jT (ib L),.bool (!L.isEmpty)])/\db w N:=by
 have O:=fun N (k:db w N)=>fP (h.ext k);obtain⟨p,ac,h⟩:=h;have hm:=h.max;have F:=db.alloc w (.cells (dZ dx) 71);have T:=O _ F;have H:=h.ext F;have a:=jX.new w dx 71 _ rfl;clear h O;have G:=a.f;rcases List.eq_nil_or_concat L with rfl|⟨M,e,C⟩;·clear G;go_enter Tryz.func174,Tryz.ntmps174;go_upto_region 1 with fail;change Code.wp _ _ _ _ (w.alloc (.cells (dZ dx) 71));clear H T;generalize w.alloc (.cells (dZ dx) 71)=D at*;obtain⟨b0,b1,b2,b3,b4,b5,b6⟩:=a.box;have G:=a.f;go_wp2;obtain⟨E,I⟩:∃E,E=kr D w.heap.size dx:=⟨_,rfl⟩;change bodyPost _ _ _ Exit.ret _ (kr D w.heap.size dx);have d:=a.fill dx;have f:=jB F (Nat.le_refl _) dx;rw[<-I]at d f⊢;obtain⟨i,j,l,m,n,q,s⟩:=d;simp only[dx]at i j l m n q s;exact bodyPost_ret (v:=.tuple #[jT dx,.bool false]) (by simp[results,Tryz.results174,go_sem,i,j,l,m,n,q,s,dx]) rfl ⟨rfl,f⟩
 .have hk:L.length=M.length+1:=by rw[C];simp
  have Y:L[M.length]? =some e:=by rw[C];simp
  have ab:ib L=e:=by unfold ib;rw[C];simp
  have aa:L.isEmpty=false:=by rw[C];cases M<;>rfl
  rw[ab,aa];obtain⟨b,oo,e',hp,Z,P,Q,R,S,U,V,W⟩:=iE H.row.row.sl M.length (by omega);rw[Y]at Z;cases Z;have J:((L.length:Nat):Int)=(M.length:Int)+1:=by omega
  rw[J]at T⊢;have d0:=H.box.box.c 0 _ rfl;obtain⟨K,X⟩:∃K,K=M.length:=⟨_,rfl⟩;rw[<-X]at P Q R S U V W T J⊢;have b1:K<L.length:=by omega
  have b2:(K:Int)<(L.length:Int):=by omega
  clear C Y ab aa hk X J M;subst hp;obtain⟨t,u,x,y,z,A,B⟩:=e;simp only at P Q R S U V W;clear G;go_enter Tryz.func174,Tryz.ntmps174;go_upto_region 1 with fail;change Code.wp _ _ _ _ (w.alloc (.cells (dZ dx) 71));clear H;generalize w.alloc (.cells (dZ dx) 71)=D at*;obtain⟨z0,z1,z2,z3,z4,z5,z6⟩:=a.box;have G:=a.f;go_wp2_with fail;refine T.mono ?_;rintro e w2 ⟨rfl,rfl⟩;go_wp2;obtain⟨E,I⟩:∃E,E=kr D w.heap.size ⟨t,u,x,y,z,A,B⟩:=⟨_,rfl⟩;change bodyPost _ _ _ Exit.ret _ (kr D w.heap.size ⟨t,u,x,y,z,A,B⟩);have d:=a.fill ⟨t,u,x,y,z,A,B⟩;have f:=jB F (Nat.le_refl _) ⟨t,u,x,y,z,A,B⟩;rw[<-I]at d f⊢;obtain⟨i,j,l,m,n,q,s⟩:=d;simp only at i j l m n q s;exact bodyPost_ret (v:=.tuple #[jT ⟨t,u,x,y,z,A,B⟩,.bool true]) (by simp[results,Tryz.results174,go_sem,i,j,l,m,n,q,s]) rfl ⟨rfl,f⟩
end Go.Proofs.YtjhbmbbmjaabcaaGreat
