/-
  Contracts. Conditions stand at each.
-/
import Derived.Test.YtjhbmbbmjaabcaaGreatS8
set_option linter.all false
set_option maxRecDepth 8000
set_option maxHeartbeats 8000000
namespace Go.Proofs.YtjhbmbbmjaabcaaGreat
open Go Go.Sort Go.RowKit
section
variable{L:List dj} {w:World} {o:Ow} {C:Nat->Prop} {p:Option Addr} {fr bt u:Int} {c g:Nat}
structure yY (w:World) (o:Ow) (c g:Nat) (p:Option Addr) (cap:Nat) (fr bt u:Int) (L:List dj):Prop where
 box:dq w o c g [.int .i64 fr,.int .i64 bt,.int .i64 u,.slice p L.length cap]
 row:dQ 71 7 w o (c+1) p L.length cap (L.map dY)
 ok:∀e∈L,eQ e
 le:L.length<=60
def sI(w:World)(o:Ow)(c g:Nat)(fr bt u:Int)(L:List dj):Prop:=∃p a,yY w o c g p a fr bt u L
theorem yY.fr'{b:World}{a:Ow}{cap:Nat}(h:yY w o c g p cap fr bt u L)(k:Fm C o a w b)(h1:1<c)(d:¬C c)(e:¬C (c+1)):yY b a c g p cap fr bt u L:=
 ⟨h.box.fr k (by omega) d,h.row.fr k (by omega) e,h.ok,h.le⟩
theorem sI.fr'{b:World}{a:Ow}(h:sI w o c g fr bt u L)(k:Fm C o a w b)(h1:1<c)(e:¬C c)(f:¬C (c+1)):sI b a c g fr bt u L:=by obtain⟨p,d,h⟩:=h;exact⟨p,d,h.fr' k h1 e f⟩
theorem yY.ext{a:World}{cap:Nat}(h:yY w o c g p cap fr bt u L)(k:db w a):yY a o c g p cap fr bt u L:=⟨h.box.ext k,h.row.ext k,h.ok,h.le⟩
theorem sI.ext{a:World}(h:sI w o c g fr bt u L)(k:db w a):sI a o c g fr bt u L:=by obtain⟨p,b,h⟩:=h;exact⟨p,b,h.ext k⟩
theorem BI(h:Cl w o)(c:Nat)(C:Nat->Prop)(i:dE fr)(d:1<=bt/\bt<=1099511627776):
  Calls Tryz.prog 129 #[.int .i64 fr,.int .i64 bt] w fun e b=>∃a,e=.returned (.pointer (some ⟨w.heap.size,0,none⟩))/\sI b a c w.heap.size fr bt 0 []/\Fm C o a w b:=by have H:=hI h;obtain⟨j,k⟩:=i;obtain⟨b1,b2⟩:=d;clear h;go_enter Tryz.func129,Tryz.ntmps129;go_wp2;go_ret;exact⟨_,rfl,⟨none,0,dq.made w o c _ _ _ rfl,dQ.nil _ _ _ _ _,(fun e f=>by cases f),by decide⟩,Fm.made H.o _ c⟩
theorem tI(h:sI w o c g fr bt u L):
  Calls Tryz.prog 190 #[.pointer (some ⟨g,0,none⟩)] w fun e a=>e=.returned (.int .i64 (L.length:Int))/\w=a:=by obtain⟨p,d,h⟩:=h;have b:=h.box.box.c 3 _ rfl;clear h;go_enter Tryz.func190,Tryz.ntmps190;go_wp2;go_ret;exact⟨rfl,rfl⟩
theorem rF(h:sI w o c g fr bt u L):
  Calls Tryz.prog 139 #[.pointer (some ⟨g,0,none⟩)] w fun e f=>∃d a,e=.returned (.slice d L.length a)/\fY 71 7 f w.heap.size d L.length a (L.map dY)/\db w f:=by
 obtain⟨p,q,h⟩:=h;have l:=h.box.box.c 3 _ rfl;have r:=h.le;have m:L.length<=1000000:=by omega
 have H:=hI h;clear h;go_enter Tryz.func139,Tryz.ntmps139;go_wp2_with fail;refine(jz H.o.row.row.sl (kP _) m).mono ?_;rintro e t ⟨s,n,rfl,b,i⟩;have j:=hI b;have k:=hI i;clear b i l;go_wp2;go_ret;exact⟨_,_,rfl,j.o,k.o⟩
end
section
structure iB where
 at':Int
 e:dj
variable{L:List iB} {p:Option Addr} {w:World} {o:Ow} {C:Nat->Prop} {f:iB->Bool} {cap g c:Nat} {a:Value} {e:dj}
def r8(x:iB):List Value:=.int .i64 x.at'::dY x.e
abbrev wY(x:iB):Array Value:=#[.int .i64 x.at',.int .i64 x.e.fr,.int .i64 x.e.bt,.int .i64 x.e.sq,.int .i64 x.e.od,.int .i64 x.e.lv,.int .i64 x.e.st,.string x.e.da]
abbrev K2(x:iB):Value:=.agg (wY x)
theorem yD(L:List iB):∀r∈L.map r8,∀u∈r,u.oneCell'=true:=by intro r hr u b;obtain⟨e,-,rfl⟩:=List.mem_map.1 hr;simp[r8,dY]at b;rcases b with rfl|rfl|rfl|rfl|rfl|rfl|rfl|rfl<;>rfl
theorem jO{n:Nat}(h:SlS 8 w p n cap (L.map r8))(k:Nat)(l:k<n):
  ∃b o x,p=some ⟨b,o,none⟩/\L[k]? =some x/\w.cell? ⟨b,o+k*8,none⟩=some (.int .i64 x.at')/\w.cell? ⟨b,o+k*8+1,none⟩=some (.int .i64 x.e.fr)/\w.cell? ⟨b,o+k*8+2,none⟩=some (.int .i64 x.e.bt)/\w.cell? ⟨b,o+k*8+3,none⟩=some (.int .i64 x.e.sq)/\
   w.cell? ⟨b,o+k*8+4,none⟩=some (.int .i64 x.e.od)/\w.cell? ⟨b,o+k*8+5,none⟩=some (.int .i64 x.e.lv)/\w.cell? ⟨b,o+k*8+6,none⟩=some (.int .i64 x.e.st)/\w.cell? ⟨b,o+k*8+7,none⟩=some (.string x.e.da):=by
 obtain⟨b,o,x,m,i,-,d⟩:=h.at k l
 rw[List.getElem?_map]at i
 obtain⟨e,j,rfl⟩:=Option.map_eq_some_iff.1 i
 exact⟨b,o,e,m,j,d 0 _ rfl,d 1 _ rfl,d 2 _ rfl,d 3 _ rfl,d 4 _ rfl,d 5 _ rfl,d 6 _ rfl,d 7 _ rfl⟩
theorem Ko{n:Nat}(h:SlS 8 w p n cap (L.map r8)):L.length=n:=by have:=h.len;simpa using this
theorem uB:(Tryz.prog.info? 109).map (fun i=>(i.zero,i.size,i.bytes))=some (some (K2 ⟨0,dx⟩),8,72):=by kernel_rfl
theorem Fb:∀(w:World) (a:Option Addr) (n c d b:Nat),(binOp .eql 55 (.slice a n c) (.slice none d b)).run Tryz.prog w=.ok (.bool a.isNone) w:=fun w a n c d b=>Lib.run_eql_slice_nil w _ _ a n c d b Tryz.underlying55
theorem yC{w:World}{p:Option Addr}{n cap:Nat}{L:List (List Value)}(H:SlS 8 w p n cap L)(i:∀r∈L,∀u∈r,u.oneCell'=true)(P:n<=1000000):
  Calls Tryz.prog 77 #[.slice p n cap] w fun e s=>∃d b,e=.returned (.slice d n b)/\fY 109 8 s w.heap.size d n b L/\db w s:=by
 have Q:=Fb
 obtain⟨N,l,J,K,M⟩:=iX uB
 have v:=hI l
 clear l
 cases p with
 |none=>
  have D:=H.nil rfl;have F:=H.le;have m:=H.len;obtain rfl:cap=0:=D;obtain rfl:n=0:=by omega
  obtain rfl:L=[]:=List.eq_nil_of_length_eq_zero m;clear H m F i;go_enter Tryz.func77,Tryz.ntmps77;go_wp2;go_ret;exact⟨_,_,rfl,fY.nil _ _ _ _,db.rfl' _⟩
 |some a=>
  have y:=hI i;clear i;have h:=db.alloc w (.cells #[] 109);have A:fY 109 8 (w.alloc (.cells #[] 109)) w.heap.size (some ⟨w.heap.size,0,none⟩) 0 0 []:=fY.made w w.heap.size 0 #[] [] (Nat.le_refl _) rfl (fun x I=>by cases I) rfl (by omega);have j:w.heap.size<=(w.alloc (.cells #[] 109)).heap.size:=h.size;have B:(0+n)*72<=140737488355328:=by omega
  have G:0+n<=140737488355328:=by omega
  go_enter Tryz.func77,Tryz.ntmps77;go_wp2_with (at_builtin;refine io rfl _ _ 55 rfl w.heap.size Tryz.underlying55 N _ 72 v.o J K M rfl (by decide) (some ⟨w.heap.size,0,none⟩) 0 0 [] rfl A (some a) n cap L rfl (H.ext h) y.o B G j ?_);intro d b O q t;have z:fY 109 8 O w.heap.size d n b L:=by simpa using q
  clear q;try simp only[Nat.zero_add]
  go_wp2;go_ret;exact⟨_,_,rfl,z,Below.grown h t j (fun k E=>by simp at E;omega)⟩
structure Jy (w:World) (o:Ow) (c g:Nat) (p:Option Addr) (cap:Nat) (L:List iB):Prop where
 box:dq w o c g [.slice p L.length cap]
 row:dQ 109 8 w o (c+1) p L.length cap (L.map r8)
 max:L.length<=100000
def sU(w:World)(o:Ow)(c g:Nat)(L:List iB):Prop:=∃p cap,Jy w o c g p cap L
theorem Jy.fr{d:World}{b:Ow}(h:Jy w o c g p cap L)(k:Fm C o b w d)(h1:1<c)(i:¬C c)(j:¬C (c+1)):Jy d b c g p cap L:=
 ⟨h.box.fr k (by omega) i,h.row.fr k (by omega) j,h.max⟩
theorem Jy.ext{b:World}(h:Jy w o c g p cap L)(k:db w b):Jy b o c g p cap L:=⟨h.box.ext k,h.row.ext k,h.max⟩
theorem sU.fr{d:World}{b:Ow}(h:sU w o c g L)(k:Fm C o b w d)(h1:1<c)(i:¬C c)(j:¬C (c+1)):sU d b c g L:=by obtain⟨p,cap,h⟩:=h;exact⟨p,cap,h.fr k h1 i j⟩
theorem sU.ext{b:World}(h:sU w o c g L)(k:db w b):sU b o c g L:=by obtain⟨p,cap,h⟩:=h;exact⟨p,cap,h.ext k⟩
theorem Fn(H:Cl w o)(c:Nat)(C:Nat->Prop):
  Calls Tryz.prog 130 #[] w fun e d=>∃b,e=.returned (.pointer (some ⟨w.heap.size,0,none⟩))/\sU d b c w.heap.size []/\Fm C o b w d:=by go_enter Tryz.func130,Tryz.ntmps130;go_wp2;go_ret;exact⟨_,rfl,⟨none,0,dq.made w o c _ _ _ rfl,dQ.nil _ _ _ _ _,by decide⟩,Fm.made H _ c⟩
theorem Cd(h:sU w o c g L):
  Calls Tryz.prog 52 #[.pointer (some ⟨g,0,none⟩)] w fun e j=>∃i b,e=.returned (.slice i L.length b)/\fY 109 8 j w.heap.size i L.length b (L.map r8)/\db w j:=by
 obtain⟨p,cap,h⟩:=h;have n:=h.box.box.c 0 _ rfl;have s:=h.max;have q:L.length<=1000000:=by omega
 have H:=h;clear h;go_enter Tryz.func52,Tryz.ntmps52;go_wp2_with fail;refine(yC H.row.row.sl (yD _) q).mono ?_;rintro e u ⟨t,r,rfl,d,k⟩;have l:=d;have m:=k;clear d k n;go_wp2;go_ret;exact⟨_,_,rfl,l,m⟩
theorem Cb{x:iB}(h:eB w g e):
  Calls Tryz.prog 205 #[K2 x,.pointer (some ⟨g,0,none⟩)] w fun r O=>r=.returned (.bool (dG x.e e))/\db w O:=by have u:=h.ext (db.alloc w (.cells (wY x) 109));obtain⟨s,⟨i,j,k,l,m,n,q⟩⟩:=x;obtain⟨G,H,I,J,K,M,N⟩:=e;have d:=dK.new w 0 (wY ⟨s,⟨i,j,k,l,m,n,q⟩⟩) (r8 ⟨s,⟨i,j,k,l,m,n,q⟩⟩) 109 _ rfl (Nat.zero_le _) rfl;clear h;have⟨d0,d1,d2,d3,d4,d5,d6⟩:=u;have y:=d.c 1 _ rfl;have z:=d.c 2 _ rfl;have A:=d.c 3 _ rfl;have B:=d.c 4 _ rfl;have D:=d.c 5 _ rfl;have E:=d.c 6 _ rfl;have F:=d.c 7 _ rfl;simp only at y z A B D E F d0 d1 d2 d3 d4 d5 d6;go_enter Tryz.func205,Tryz.ntmps205;go_wp2_with fail;refine(rR (a:=⟨i,j,k,l,m,n,q⟩) (b:=⟨G,H,I,J,K,M,N⟩)).mono ?_;rintro r P ⟨rfl,t⟩;have v:=(db.alloc w (.cells (wY ⟨s,⟨i,j,k,l,m,n,q⟩⟩) 109)).tr t;clear t;go_wp2;go_ret;exact⟨rfl,v⟩
theorem xL{n k:Nat}(S:SlS 8 w p n cap (L.map r8))(ab:∀(t:Array Value) (w:World),(callFunc k t).run Tryz.prog w=.ok (.enter k t) w)(E:∀e h,db w h->Calls Tryz.prog k #[K2 e,a] h fun r Z=>r=.returned (.bool (f e))/\db h Z):
  Calls Tryz.prog 208 #[.slice p n cap,.func (.func k) #[] #[a]] w fun e h=>(∃z:Int,e=.returned (.int .i64 z)/\(decide (0<=z))=L.any f)/\db w h:=by
 have hn:n<=9223372036854775807:=Nat.le_trans S.le S.max;have N:=hI (Ko S);have I:=hI E;clear E;go_enter Tryz.func208,Tryz.ntmps208;go_wp2;go_loopw [8] (fun i wr=>∃k:Nat,k<=n/\i=.int .i64 (k:Int)/\(L.take k).any f=false/\db w wr) (fun i _=>n-(intOf i).toNat);case atStart=>exact⟨0,by omega,rfl,rfl,db.rfl' _⟩
 case round=>
  obtain⟨k,hk,rfl,F,X⟩:=hrel;have T:=hI F;clear F;by_cases W:k<n
  .obtain⟨b,o,e,Y,G,K,M,O,P,Q,R,U,V⟩:=jO (S.ext X) k W;have s:=hI G;clear G;subst Y;obtain⟨H,⟨v,x,y,A,B,D,u⟩⟩:=e;simp only at K M O P Q R U V;have l:=I.o ⟨H,⟨v,x,y,A,B,D,u⟩⟩ _ X;cases d:f ⟨H,⟨v,x,y,A,B,D,u⟩⟩
   .have J:Hid ((L.take (k+1)).any f=false):=hI (by
     rw[List.take_add_one,s.o,List.any_append,T.o]
     simp[d])
    rw[d]at l;clear d;go_wp2_with fail;refine l.mono ?_;rintro e w4 ⟨rfl,j⟩;have m:=X.tr j;clear j;go_wp2;go_roundw;case rel=>exact⟨k+1,by omega,by go_num,J.o,m⟩
    case measure=>simp[intOf];omega
   .have q:Hid (L.any f=true):=hI (by
     rw[List.any_eq_true]
     exact⟨_,List.mem_of_getElem? s.o,d⟩)
    rw[d]at l;clear d;go_wp2_with fail;refine l.mono ?_;rintro e w4 ⟨rfl,j⟩;have m:=X.tr j;clear j;go_wp2;go_ret;exact⟨⟨_,rfl,by rw[q.out,decide_eq_true (by omega)]⟩,m⟩
  .have q:Hid (L.any f=false):=hI (by
    have h1:=T.o
    rwa[List.take_of_length_le (by rw[N.o];omega)]at h1)
   go_wp2;go_ret;exact⟨⟨_,rfl,by rw[q.out];rfl⟩,X⟩
theorem sN{n k:Nat}(S:SlS 8 w p n cap (L.map r8))(s:∀(d:Array Value) (w:World),(callFunc k d).run Tryz.prog w=.ok (.enter k d) w)(h:∀e b,db w b->Calls Tryz.prog k #[K2 e,a] b fun r j=>r=.returned (.bool (f e))/\db b j):
  Calls Tryz.prog 204 #[.slice p n cap,.func (.func k) #[] #[a]] w fun e b=>e=.returned (.bool (L.any f))/\db w b:=by have l:=hI h;clear h;go_enter Tryz.func204,Tryz.ntmps204;go_wp2_with fail;refine(xL S s l.o).mono ?_;rintro e j ⟨⟨z,rfl,i⟩,q⟩;have m:=hI i;clear i;go_wp2;go_ret;exact⟨by rw[<-m.o];rfl,q⟩
theorem nT(h:sU w o c g L):
  Calls Tryz.prog 195 #[.pointer (some ⟨g,0,none⟩),jT e] w fun r q=>r=.returned (.bool (L.any fun x=>dG x.e e))/\db w q:=by obtain⟨p,cap,h⟩:=h;have H:=h.ext (db.alloc w (.cells (dZ e) 71));clear h;obtain⟨b,d,i,j,l,m,n⟩:=e;have t:=eB.new w ⟨b,d,i,j,l,m,n⟩ 71;have v:=H.box.box.c 0 _ rfl;go_enter Tryz.func195,Tryz.ntmps195;go_wp2_with fail;refine(sN (f:=fun x=>dG x.e ⟨b,d,i,j,l,m,n⟩) H.row.row.sl (iw Tryz.func205 (by kernel_rfl) (by kernel_rfl)) (fun x q k=>Cb (t.ext k))).mono ?_;rintro r y ⟨rfl,s⟩;have u:=(db.alloc w (.cells (dZ ⟨b,d,i,j,l,m,n⟩) 71)).tr s;clear s;go_wp2;go_ret;exact⟨rfl,u⟩
end
section
variable{w:World} {L:List dj} {o:Ow}
theorem yY.paint{c g cap:Nat}{p:Option Addr}{fr bt f:Int}(h:yY w o c g p cap fr bt f L){b d:Nat}(a:o b=0)(h1:1<c):yY w (gH o b d) c g p cap fr bt f L:=
 ⟨h.box.paint (fun e=>by have:=h.box.col;rw[e,a]at this;omega),h.row.paint (fun e=>by have:=h.row.col b e;rw[a]at this;omega),h.ok,h.le⟩
theorem dq.loose(c:Cl w o)(a:Array Value)(vs:List Value)(t:TypeId)(b:a.toList=vs):dq (w.alloc (.cells a t)) o 0 w.heap.size vs:=
 ⟨c _ (Nat.le_refl _),dK.new w 0 a vs t _ rfl (Nat.zero_le _) b⟩
theorem BP{c g:Nat}{fr bt a:Int}{od lv:Int}{da:ByteArray}(P:Cl w o)(h:sI w o c g fr bt a L)(h1:1<c)(hs:0<=a/\a<1099511627776)(HE:eQ ⟨fr,bt,a+1,od,lv,0,da⟩)(hm:ec ⟨fr,bt,a+1,od,lv,0,da⟩=true)(hl:L.length<4):
  Calls Tryz.prog 161 #[.pointer (some ⟨g,0,none⟩),.int .i64 od,.int .i64 lv,.string da] w fun e w'=>∃o',e=.returned (.tuple #[jT ⟨fr,bt,a+1,od,lv,0,da⟩,.int .i64 0])/\sI w' o' c g fr bt (a+1) (L++[⟨fr,bt,a+1,od,lv,0,da⟩])/\Fm (two c) o o' w w':=by
 obtain⟨p,ag,h⟩:=h;obtain⟨s1,s2⟩:=hs;have HM:=hI hm;have b:=hI h1;have sw:wrap64 (a+1)=a+1:=by unfold wrap64;omega
 have A0:=db.alloc w (.cells (dZ dx) 71);have m:=dq.loose P (dZ dx) (dY dx) 71 rfl;have i:=P.ext A0;have t:Fm (two c) o o w (w.alloc (.cells (dZ dx) 71)):=Fm.ext P A0;have H:=h.ext A0;have RN:Hid (w.heap.size<=w.heap.size/\o w.heap.size=0):=hI ⟨Nat.le_refl _,P _ (Nat.le_refl _)⟩;clear h P h1 hm;go_enter Tryz.func161,Tryz.ntmps161;go_upto_region 1 with fail;change Code.wp _ _ _ _ (w.alloc (.cells (dZ dx) 71));clear A0;generalize w.alloc (.cells (dZ dx) 71)=q at*;obtain⟨f,ac⟩:∃f,f=w.heap.size:=⟨_,rfl⟩;rw[<-ac]at m RN⊢;have ae:=hI ac;clear ac;obtain⟨E,F,G,I⟩:=Jl H.box;have A3:=db.alloc q (.cells #[.int .i64 0,.int .i64 0,.int .i64 0,.int .i64 0,.int .i64 0,.int .i64 0,.string ⟨#[]⟩] 71);obtain⟨e0,e1,e2⟩:=Dn (H.box.ext A3);go_wp2_with fail;go_region;change Exit.then _ _ _ _ ((q.alloc (.cells (dZ ⟨fr,bt,a+1,od,lv,0,da⟩) 71)).drew);have O:db q ((q.alloc (.cells (dZ ⟨fr,bt,a+1,od,lv,0,da⟩) 71)).drew):=(db.alloc q _).tr (db.drew _);have l:dq ((q.alloc (.cells (dZ ⟨fr,bt,a+1,od,lv,0,da⟩) 71)).drew) o 0 q.heap.size (dY ⟨fr,bt,a+1,od,lv,0,da⟩):=(dq.loose i (dZ ⟨fr,bt,a+1,od,lv,0,da⟩) (dY ⟨fr,bt,a+1,od,lv,0,da⟩) 71 rfl).ext (db.drew _);generalize(q.alloc (.cells (dZ ⟨fr,bt,a+1,od,lv,0,da⟩) 71)).drew=w1 at*;clear E F G I e0 e1 e2 A3;generalize q.heap.size=eb at*;replace H:=H.ext O;replace m:=m.ext O;replace t:=t.tr (Fm.ext i O) (by unfold two;have:=b.o;omega);replace i:=i.ext O;clear O;obtain⟨E,F,G,I,U,V,W⟩:=pm l;go_wp2_with fail;refine(kY (e:=⟨fr,bt,a+1,od,lv,0,da⟩) HE).mono ?_;rw[HM.o];rintro x X ⟨rfl,N⟩;replace H:=H.ext N;replace l:=l.ext N;replace m:=m.ext N;replace t:=t.tr (Fm.ext i N) (by unfold two;have:=b.o;omega);replace i:=i.ext N;clear N E F G I U V W;have c2:=H.box.box.c 2 _ rfl;have f2:=H.box.box.f 2;have c3:=H.box.box.c 3 _ rfl;have ai:¬(4:Int)<=(L.length:Int):=by omega
 go_upto_region 9 with fail;clear c2 f2 c3 ai;have B:Fm (fun d=>d=c) o o X (X.setCell ⟨g,2,none⟩ (.int .i64 (a+1))):=Fm.put (C:=fun d=>d=c) i H.box (by have:=b.o;omega) rfl 2 _;have R:dq (X.setCell ⟨g,2,none⟩ (.int .i64 (a+1))) o c g [.int .i64 fr,.int .i64 bt,.int .i64 (a+1),.slice p L.length ag]:=H.box.put 2 (.int .i64 (a+1));have RW:=H.row.fr B (by have:=b.o;omega) (by omega);have af:=hI (And.intro H.ok H.le);replace l:=l.fr B (by omega) (by have:=b.o;omega);replace m:=m.fr B (by omega) (by have:=b.o;omega);replace t:=t.tr (B.mono (fun d hd=>Or.inl hd)) (by unfold two;have:=b.o;omega);replace i:=B.cl;clear B H;generalize X.setCell ⟨g,2,none⟩ (.int .i64 (a+1))=Y at*;obtain⟨E,F,G,I,U,V,W⟩:=pm l;have Q:=db.alloc Y (.cells (dZ ⟨fr,bt,a+1,od,lv,0,da⟩) 71);have y:=Q.tr (db.drew (Y.alloc (.cells (dZ ⟨fr,bt,a+1,od,lv,0,da⟩) 71)));obtain⟨a0,a1,a2,a3,a4,a5,a6⟩:=pm (l.ext Q);have c0:=R.box.c 3 _ rfl;have b0:=(R.ext Q).box.c 3 _ rfl;have aj:L.length<=1000000:=by omega
 go_region_law (refine iN (by rfl) _ _ _ (by rfl) 71 7 64 _ Tryz.underlying43 nN (by rfl) (by omega) (i.ext y) (RW.ext y) (by rfl) Y.heap.size 1 (dY ⟨fr,bt,a+1,od,lv,0,da⟩) (by rfl) (by rfl) (fun j u hu=>gd (w:=Y) rfl j u hu) (kP [⟨fr,bt,a+1,od,lv,0,da⟩] (dY ⟨fr,bt,a+1,od,lv,0,da⟩) (by simp)) (by simpa using aj) (by omega) (by have:=b.o;omega) (fun d=>d=c+1) rfl ?_;intro M D K w4 r4 n;have A:=(R.ext y).fr n (by have:=b.o;omega) (by omega);have b4:=A.box.c 3 _ rfl;have ah:=A.box.f 3)
 all_goals
  obtain⟨Z,R6,M6⟩:=ly (C:=two c) (j:=3) (by unfold two;have:=b.o;omega) (t.tr (Fm.ext i y) (by unfold two;have:=b.o;omega)) A n r4 (by have:=b.o;omega) (by have:=b.o;omega) (.inl rfl) (.inr rfl) (by omega) (.slice M (L.length+1) D);have ad:=((l.ext y).fr n (by omega) (by omega)).fr (Fm.put (C:=fun d=>d=c) n.cl A (by have:=b.o;omega) rfl 3 (.slice M (L.length+1) D)) (by omega) (by have:=b.o;omega);have S:=((m.ext y).fr n (by omega) (by omega)).fr (Fm.put (C:=fun d=>d=c) n.cl A (by have:=b.o;omega) rfl 3 (.slice M (L.length+1) D)) (by omega) (by have:=b.o;omega);clear r4 n A b4 ah Q y E F G I U V W a0 a1 a2 a3 a4 a5 a6 c0 b0;generalize w4.setCell ⟨g,3,none⟩ (.slice M (L.length+1) D)=r at*;have NC:Hid (K f=0):=hI S.col;have MP:Fm (two c) o (gH K f c) w r:=M6.paint c (Nat.le_of_eq ae.o.symm) S.box.hi;have T:dq r (gH K f c) c f (dY dx):=⟨et _ _ _,S.box⟩
  have z:yY r (gH K f c) c g M D fr bt (a+1) (L++[⟨fr,bt,a+1,od,lv,0,da⟩]):=yY.paint ⟨by have:=Z;simpa using this,by have:=R6;simpa using this,fun x J=>by
   rcases List.mem_append.1 J with J|J;·exact af.o.1 x J
   .simp at J;subst J
    exact HE,by simp;omega⟩ NC.o b.o
  have NE:Hid (g≠f):=hI (fun e=>by
   have h1:=Z.col
   have h2:=NC.o
   have h3:=b.o
   rw[e]at h1
   omega)
  obtain⟨E,F,G,I,U,V,W⟩:=pm ad;obtain⟨r0,r1,r2,r3,r4,r5,r6⟩:=pm T;have rf:=T.box.f;clear ad S Z R6 M6 l m R RW t i;go_wp2;obtain⟨w9,ak⟩:∃w9,w9=dL r f 0 (dY ⟨fr,bt,a+1,od,lv,0,da⟩):=⟨_,rfl⟩;change bodyPost _ _ _ Exit.ret _ (dL r f 0 (dY ⟨fr,bt,a+1,od,lv,0,da⟩));have s:=T.box.fill (vs:=dY ⟨fr,bt,a+1,od,lv,0,da⟩) (by simp[dY]);have FX:Fm (two c) o (gH K f c) w (dL r f 0 (dY ⟨fr,bt,a+1,od,lv,0,da⟩)):=MP.tr (Fm.fill MP.cl T (by have:=b.o;omega) (.inl rfl)) (by unfold two;have:=b.o;omega);have GR:=eU f (dY ⟨fr,bt,a+1,od,lv,0,da⟩) 0 r r (dD r (some f));rw[<-ak]at s FX GR⊢;have f0:=s.c 0 _ rfl;have f1:=s.c 1 _ rfl;have f2:=s.c 2 _ rfl;have f3:=s.c 3 _ rfl;have n:=s.c 4 _ rfl;have f5:=s.c 5 _ rfl;have f6:=s.c 6 _ rfl
  exact bodyPost_ret (v:=.tuple #[jT ⟨fr,bt,a+1,od,lv,0,da⟩,.int .i64 0]) (by simp[results,Tryz.results161,go_sem,f0,f1,f2,f3,n,f5,f6]) rfl ⟨rfl,gH K f c,⟨M,D,⟨⟨z.box.col,z.box.box.other GR (fun e=>NE.o (by cases e;rfl))⟩,⟨z.row.row.kept GR (fun k hk e=>by
   have h1:=z.row.col k e
   cases hk
   rw[et]at h1
   omega),z.row.col⟩,z.ok,z.le⟩⟩,FX⟩
end
end Go.Proofs.YtjhbmbbmjaabcaaGreat
