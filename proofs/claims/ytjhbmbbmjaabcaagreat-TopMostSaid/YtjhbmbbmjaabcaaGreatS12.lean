/-
  Contracts. Conditions stand at each.
-/
import Derived.Test.YtjhbmbbmjaabcaaGreatS10
set_option linter.all false
set_option maxRecDepth 8000
set_option maxHeartbeats 8000000
namespace Go.Proofs.YtjhbmbbmjaabcaaGreat
open Go Go.Sort Go.RowKit
section
variable{w:World} {vs:List iq} {q:Option Addr} {o:Ow} {cap:Nat}
theorem lT{c g:Nat}{vw n:Int}(h:sM w o c g vw n vs):
  Calls Tryz.prog 134 #[.pointer (some ⟨g,0,none⟩)] w fun e t=>e=.returned (.bool (dX (dr vs) n))/\db w t:=by
 have k:Hid (gS (dr vs)/\3<=n/\n<=7):=hI (by
  obtain⟨p,cap,l,h,rfl⟩:=h
  exact⟨kC l (fun d r=>(h.ok d r).fr),h.n⟩)
 obtain⟨b,f⟩:∃b,b=w.drew:=⟨_,rfl⟩;have H:sM b o c g vw n vs:=by rw[f];exact h.ext (db.drew w)
 have X:db w b:=by rw[f];exact db.drew w
 have s:∀d i,(grow (redrawn b d) i).cell? ⟨g,1,none⟩=some (.int .i64 n):=fun d i=>by obtain⟨p,cap,l,h,-⟩:=H;exact db.cell (db.reg b d i) (h.box.box.c 1 _ rfl)
 clear h;go_enter Tryz.func134,Tryz.ntmps134;go_upto_region 1 with fail;refine eA [0,1,2,3,5,6,7,8,4,9,10,11] [] ?_;rw[<-f];clear f;repeat((first|refine dC fun K a=>?_|refine dB fun K a=>?_);go_big_quiet_op;refine a _ ?_;clear a K)
 clear s;refine eF fun K a=>?_;go_simp;refine(jt H).mono ?_;rintro e u ⟨rfl,j⟩;refine a _ _ j ?_;clear a K;have m:=X.tr j;clear j H X;repeat((first|refine dC fun K a=>?_|refine dB fun K a=>?_);go_big_quiet_op;refine a _ ?_;clear a K)
 refine eF fun K a=>?_;go_simp;refine(pa _ n k.o.1 k.o.2 _).mono ?_;rintro e v ⟨rfl,rfl⟩;refine a _ _ (db.rfl' _) ?_;clear a K;repeat((first|refine dC fun K a=>?_|refine dB fun K a=>?_);go_big_quiet_op;refine a _ ?_;clear a K)
 refine dh ?_;refine df ?_;go_wp2;go_ret;exact⟨rfl,m⟩
theorem vP{p:Option Addr}{n:Nat}{M L:List dj}(j:SlS 7 w p n cap (M.map dY))(f:∀k,p.map (·.block)=some k->k<w.heap.size)(c:∀e∈M,eQ e)(d:fw [] M=some L):
  Calls Tryz.prog 128 #[.slice p n cap] w fun r b=>∃a g,r=.returned (.pointer (some ⟨g,0,none⟩))/\ge b a 2 g L/\db w b:=
 (nO (o:=fun _=>0) (fun _ _=>rfl) 2 (by decide) ⟨j,fun k i=>⟨f k i,rfl⟩⟩ c d).mono fun r b h=>by
  obtain⟨a,g,h1,h2,-,h3⟩:=h;exact⟨a,g,h1,h2,h3.all (by unfold two;decide)⟩
theorem Bk:(Tryz.prog.info? 205).map (fun i=>(i.zero,i.size,i.bytes))=some (some (.agg #[.int .i64 0,.int .i64 0,.slice none 0 0,.int .i64 0]),4,48):=by kernel_rfl
theorem I'{c g:Nat}{vw n:Int}{fr ls cm:Int}{m:Nat}(h:sM w o c g vw n vs)(E:dE fr/\fr<=n)(v:dg (dr vs) fr=true):
  Calls Tryz.prog 149 #[.pointer (some ⟨g,0,none⟩),.agg #[.int .i64 fr,.int .i64 ls,.slice q m cap,.int .i64 cm]] w fun e F=>e=.returned (.bool false)/\db w F:=by
 have y:Hid (gS (dr vs)/\3<=n/\n<=7):=hI (by
  obtain⟨p,cap,j,h,rfl⟩:=h
  exact⟨kC j (fun d D=>(h.ok d D).fr),h.n⟩)
 obtain⟨⟨z,A⟩,J⟩:=E;have H:=dF (fr<1);have I:=dF (n<fr);have i:=h;have x:=hI v;have u:=db.alloc w (.cells #[.int .i64 fr,.int .i64 ls,.slice q m cap,.int .i64 cm] 205);have t:=dK.new w w.heap.size #[.int .i64 fr,.int .i64 ls,.slice q m cap,.int .i64 cm] [.int .i64 fr,.int .i64 ls,.slice q m cap,.int .i64 cm] 205 _ rfl (Nat.le_refl _) rfl;have G:Hid (w.heap.size<=w.heap.size):=hI (Nat.le_refl _);clear h v;go_enter Tryz.func149,Tryz.ntmps149;go_upto_region 1 with fail;change Code.wp _ _ _ _ (w.alloc (.cells #[.int .i64 fr,.int .i64 ls,.slice q m cap,.int .i64 cm] 205));obtain⟨f,k⟩:∃f,f=(w.alloc (.cells #[.int .i64 fr,.int .i64 ls,.slice q m cap,.int .i64 cm] 205)).drew:=⟨_,rfl⟩;have X:db w f:=by rw[k];exact u.tr (db.drew _)
 have B:dK f w.heap.size w.heap.size [.int .i64 fr,.int .i64 ls,.slice q m cap,.int .i64 cm]:=by rw[k];exact t.ext (db.drew _)
 have s:=rg f (B.c 0 _ rfl);have b1:=rg f (B.c 1 _ rfl);have C:∀d b,(grow (redrawn f d) b).cell? ⟨g,1,none⟩=some (.int .i64 n):=fun d b=>by obtain⟨p,cap,j,h,-⟩:=i;exact db.cell (db.reg f d b) (db.cell X (h.box.box.c 1 _ rfl))
 have g0:∀d b,(grow (redrawn f d) b).cell? ⟨g,0,none⟩=some (.int .i64 vw):=fun d b=>by obtain⟨p,cap,j,h,-⟩:=i;exact db.cell (db.reg f d b) (db.cell X (h.box.box.c 0 _ rfl))
 clear u t;refine eA [0,1,2,3,4,5,6,7,8,9,10,11,12,13,14,15,16,17,19,20,18,21,22,23,24,25,26,27,28,29,30,31,32,33,34,35,36] [] ?_;rw[<-k];clear k;repeat((first|refine dC fun K a=>?_|refine dB fun K a=>?_);go_big_quiet_op;refine a _ ?_;clear a K)
 clear s b1 C g0;refine eF fun K a=>?_;go_simp;refine(jt (i.ext X)).mono ?_;rintro e l ⟨rfl,r⟩;refine a _ _ r ?_;clear a K;replace X:=X.tr r;replace B:=B.ext r;clear r;have s:=rg l (B.c 0 _ rfl);have b1:=rg l (B.c 1 _ rfl);have g0:∀d b,(grow (redrawn l d) b).cell? ⟨g,0,none⟩=some (.int .i64 vw):=fun d b=>by obtain⟨p,cap,j,h,-⟩:=i;exact db.cell (db.reg l d b) (db.cell X (h.box.box.c 0 _ rfl))
 repeat((first|refine dC fun K a=>?_|refine dB fun K a=>?_);go_big_quiet_op;refine a _ ?_;clear a K)
 refine eF fun K a=>?_;go_simp;refine(fT _ fr y.o.1 ⟨z,A⟩ _).mono ?_;rw[x.o];rintro e L ⟨rfl,rfl⟩;refine a _ _ (db.rfl' _) ?_;clear a K;repeat((first|refine dC fun K a=>?_|refine dB fun K a=>?_);go_big_quiet_op;refine a _ ?_;clear a K)
 refine dh ?_;refine df ?_;clear s b1 g0;go_wp2;go_ret;exact⟨rfl,X⟩
theorem wJ{c g:Nat}{vw n:Int}{fr ls cm:Int}{L:List dj}(ad:Cl w o)(h:sM w o c g vw n vs)(h1:1<c)(hf:dE fr/\fr<=n)(ae:dg (dr vs) fr=false)(aq:0<=ls/\ls<vw)(hs:fJ 7 w o q L.length cap (L.map dY))(hL:∀e∈L,eQ e)(ha:fw [] L=some L)(al:0<=cm/\cm<=(L.length:Int))(ap:L.length<=60)(av:vs.length<=90):
  Calls Tryz.prog 149 #[.pointer (some ⟨g,0,none⟩),.agg #[.int .i64 fr,.int .i64 ls,.slice q L.length cap,.int .i64 cm]] w fun e w'=>∃o',e=.returned (.bool true)/\sM w' o' c g vw n (vs++[⟨fr,ls,L,cm⟩])/\Fm (two c) o o' w w':=by
 have TT:Hid (gS (dr vs)/\3<=n/\n<=7):=hI (by
  obtain⟨p,cap,l,h,rfl⟩:=h
  exact⟨kC l (fun d x=>(h.ok d x).fr),h.n⟩)
 obtain⟨⟨f1,f2⟩,f3⟩:=hf;obtain⟨l1,l2⟩:=aq;obtain⟨m1,m2⟩:=al;have d1:=dF (fr<1);have d2:=dF (n<fr);have d3:=dF (ls<0);have d4:=dF (vw<=ls);have d5:=dF (cm<0);have d6:=dF ((L.length:Int)<cm);have G:=h;have V:=hs;have O:=ad;have r:=hI h1;have ag:=hI ae;have HA:=hI ha;have HL:=hI hL;have X0:=db.alloc w (.cells #[.int .i64 fr,.int .i64 ls,.slice q L.length cap,.int .i64 cm] 205);have BB:=dK.new w w.heap.size #[.int .i64 fr,.int .i64 ls,.slice q L.length cap,.int .i64 cm] [.int .i64 fr,.int .i64 ls,.slice q L.length cap,.int .i64 cm] 205 _ rfl (Nat.le_refl _) rfl;have HW:Hid (w.heap.size<=w.heap.size):=hI (Nat.le_refl _);clear h hs ad h1 ae ha hL;go_enter Tryz.func149,Tryz.ntmps149;go_upto_region 1 with fail;change Code.wp _ _ _ _ (w.alloc (.cells #[.int .i64 fr,.int .i64 ls,.slice q L.length cap,.int .i64 cm] 205));obtain⟨b,t⟩:∃b,b=(w.alloc (.cells #[.int .i64 fr,.int .i64 ls,.slice q L.length cap,.int .i64 cm] 205)).drew:=⟨_,rfl⟩;have X:db w b:=by rw[t];exact X0.tr (db.drew _)
 have B:dK b w.heap.size w.heap.size [.int .i64 fr,.int .i64 ls,.slice q L.length cap,.int .i64 cm]:=by rw[t];exact BB.ext (db.drew _)
 have H:=rg b (B.c 0 _ rfl);have b1:=rg b (B.c 1 _ rfl);have g1:∀d m,(grow (redrawn b d) m).cell? ⟨g,1,none⟩=some (.int .i64 n):=fun d m=>by obtain⟨p,cap,l,h,-⟩:=G;exact db.cell (db.reg b d m) (db.cell X (h.box.box.c 1 _ rfl))
 have g0:∀d m,(grow (redrawn b d) m).cell? ⟨g,0,none⟩=some (.int .i64 vw):=fun d m=>by obtain⟨p,cap,l,h,-⟩:=G;exact db.cell (db.reg b d m) (db.cell X (h.box.box.c 0 _ rfl))
 clear X0 BB;refine eA [0,1,2,3,4,5,6,7,8,9,10,11,12,13,14,15,16,17,19,20,18,21,22,23,24,25,26,27,28,29,30,31,32,33,34,35,36] [] ?_;rw[<-t];clear t;repeat((first|refine dC fun K a=>?_|refine dB fun K a=>?_);go_big_quiet_op;refine a _ ?_;clear a K)
 clear H b1 g1 g0;refine eF fun K a=>?_;go_simp;refine(jt (G.ext X)).mono ?_;rintro e M ⟨rfl,R⟩;refine a _ _ R ?_;clear a K;replace X:=X.tr R;replace B:=B.ext R;clear R;have H:=rg M (B.c 0 _ rfl);have b1:=rg M (B.c 1 _ rfl);have g0:∀d m,(grow (redrawn M d) m).cell? ⟨g,0,none⟩=some (.int .i64 vw):=fun d m=>by obtain⟨p,cap,l,h,-⟩:=G;exact db.cell (db.reg M d m) (db.cell X (h.box.box.c 0 _ rfl))
 repeat((first|refine dC fun K a=>?_|refine dB fun K a=>?_);go_big_quiet_op;refine a _ ?_;clear a K)
 refine eF fun K a=>?_;go_simp;refine(fT _ fr TT.o.1 ⟨f1,f2⟩ _).mono ?_;rw[ag.o];rintro e w3 ⟨rfl,rfl⟩;refine a _ _ (db.rfl' _) ?_;clear a K;repeat((first|refine dC fun K a=>?_|refine dB fun K a=>?_);go_big_quiet_op;refine a _ ?_;clear a K)
 refine dh ?_;refine df ?_;clear H b1 g0;go_upto_region 3 with fail;obtain⟨b,t⟩:∃b,b=M.drew:=⟨_,rfl⟩;replace X:db w b:=by rw[t];exact X.tr (db.drew _)
 replace B:dK b w.heap.size w.heap.size [.int .i64 fr,.int .i64 ls,.slice q L.length cap,.int .i64 cm]:=by rw[t];exact B.ext (db.drew _)
 have b2:=rg b (B.c 2 _ rfl);have b3:=rg b (B.c 3 _ rfl);refine eA [0,1,4,5,6,2,3,7,8,9,10,11,12,13,14,15,16,17,18,19,20] [] ?_;rw[<-t];clear t;repeat((first|refine dC fun K a=>?_|refine dB fun K a=>?_);go_big_quiet_op;refine a _ ?_;clear a K)
 clear b2 b3;refine eF fun K a=>?_;go_simp;refine(vP (V.ext X).sl (fun k s=>((V.ext X).lt k s).1) HL.o HA.o).mono ?_;rintro e E ⟨W,gl,rfl,lv,S⟩;refine a _ _ S ?_;clear a K;have LV:=lv;replace X:=X.tr S;replace B:=B.ext S;clear S lv;repeat((first|refine dC fun K a=>?_|refine dB fun K a=>?_);go_big_quiet_op;refine a _ ?_;clear a K)
 refine eF fun K a=>?_;go_simp;refine(fP LV).mono ?_;rintro e w5 ⟨rfl,rfl⟩;refine a _ _ (db.rfl' _) ?_;clear a K;have b2:=rg E (B.c 2 _ rfl);have b3:=rg E (B.c 3 _ rfl);repeat((first|refine dC fun K a=>?_|refine dB fun K a=>?_);go_big_quiet_op;refine a _ ?_;clear a K)
 refine dh ?_;refine df ?_;clear b2 b3 LV;have b2:=B.c 2 _ rfl;have an:L.length<=1000000:=by omega
 go_wp2_with fail;refine(jz (V.ext X).sl (kP _) an).mono ?_;rintro e N ⟨f,i,rfl,o6,T⟩;have U:=o6;have X4:=hI X.size;have ai:Hid (w.heap.size<E.heap.size):=hI B.hi;replace X:=X.tr T;replace B:=B.ext T;have ah:=hI T.size;have bf:=B.f;have ac:=B.c 2 _ rfl;have b2:=ac;clear o6 T
 have ab:Hid (∀k,f.map (·.block)=some k->w.heap.size≠k):=hI (fun k s e=>by
  have h1:=(U.lt k s).1
  have h2:=ai.o
  omega)
 go_upto_region 6 with fail;have P:db w (N.setCell ⟨w.heap.size,2,none⟩ (.slice f L.length i)):=X.setCell (Nat.le_refl _) _;have v:dK (N.setCell ⟨w.heap.size,2,none⟩ (.slice f L.length i)) w.heap.size w.heap.size [.int .i64 fr,.int .i64 ls,.slice f L.length i,.int .i64 cm]:=B.put 2 (.slice f L.length i);have S7:fJ 7 (N.setCell ⟨w.heap.size,2,none⟩ (.slice f L.length i)) o f L.length i (L.map dY):=fJ.fresh (U.kept (dP (dD N (some w.heap.size)) 2 (.slice f L.length i)) (fun k s e=>by cases s;exact ab.o _ e rfl)) O X4.o;clear b2 ac bf B X U ab ah;generalize N.setCell ⟨w.heap.size,2,none⟩ (.slice f L.length i)=y at*;obtain⟨p,ar,l,hp,s⟩:=G;have A:=hp.ext P;have af:=hI s;have au:l.length<=90:=by have:=congrArg List.length s;simp at this;omega
 have ao:l.length<=1000000:=by omega
 have am:cm<=60:=by omega
 clear hp s;have z:=db.alloc y (.cells #[.int .i64 fr,.int .i64 ls,.slice f L.length i,.int .i64 cm] 205);have D:=z.tr (db.drew (y.alloc (.cells #[.int .i64 fr,.int .i64 ls,.slice f L.length i,.int .i64 cm] 205)));have MX:Fm (two c) o o y (y.alloc (.cells #[.int .i64 fr,.int .i64 ls,.slice f L.length i,.int .i64 cm] 205)).drew:=Fm.ext (O.ext P) D;have MW:Fm (two c) o o w (y.alloc (.cells #[.int .i64 fr,.int .i64 ls,.slice f L.length i,.int .i64 cm] 205)).drew:=Fm.ext O (P.tr D);have g2:=A.box.box.c 2 _ rfl;have ak:=(A.box.ext z).box.c 2 _ rfl;have H:=v.c 0 _ rfl;have b1:=v.c 1 _ rfl;have b2:=v.c 2 _ rfl;have b3:=v.c 3 _ rfl;have a0:=(v.ext z).c 0 _ rfl;have a1:=(v.ext z).c 1 _ rfl;have a2:=(v.ext z).c 2 _ rfl;have a3:=(v.ext z).c 3 _ rfl;go_region_law (refine iN (by rfl) _ _ _ (by rfl) 205 4 48 _ Tryz.underlying192 Bk (by rfl) (by omega) ((O.ext P).ext D) (A.row.ext D) (by rfl) y.heap.size 1 (K4 ⟨fr,ls,f,i,L,cm⟩) (by rfl) (by rfl) (fun j u hu=>gd (w:=y) rfl j u hu) (by simp[Value.oneCell']) ao (by omega) (by have:=r.o;omega) (fun d=>d=c+1) rfl ?_;intro J I W E Y Q;have F:=(A.box.ext D).fr Q (by have:=r.o;omega) (by omega);have b4:=F.box.c 2 _ rfl;have aj:=F.box.f 2)
 all_goals
  obtain⟨Z,R5,M5⟩:=ly (C:=two c) (j:=2) (by unfold two;have:=r.o;omega) MW F Q Y (by have:=r.o;omega) (by have:=r.o;omega) (.inl rfl) (.inr rfl) (by omega) (.slice J (l.length+1) I);have B6:=Z;have R6:=R5;have M6:=M5;have MN:Fm (two c) o W y (E.setCell ⟨g,2,none⟩ (.slice J (l.length+1) I)):=(ly (C:=two c) (j:=2) (by unfold two;have:=r.o;omega) MX F Q Y (by have:=r.o;omega) (by have:=r.o;omega) (.inl rfl) (.inr rfl) (by omega) (.slice J (l.length+1) I)).2.2;clear Y Q F b4 aj Z R5 M5 z D H b1 b2 b3 a0 a1 a2 a3 g2 ak MX MW;generalize E.setCell ⟨g,2,none⟩ (.slice J (l.length+1) I)=w5 at*;go_wp2;go_ret;refine⟨W,rfl,⟨J,I,l++[⟨fr,ls,f,i,L,cm⟩],⟨?_,?_,?_,A.n,A.vw,by simp;omega⟩,?_⟩,M6⟩;·have:=B6;simpa using this
  .have:=R6;simpa using this
  .intro d x;rcases List.mem_append.1 x with x|x;·exact(A.ok d x).fr' MN (by unfold two;have:=r.o;omega)
   .simp at x;subst x;exact⟨⟨f1,f2⟩,S7.fr MN (by unfold two;have:=r.o;omega),HL.o,ap,m1,am⟩
  .rw[List.map_append,af.o];rfl
end
def kK(a:Int)(b:Nat)(e c:Int)(d:Nat)(f:Int):Bool:=if a=c then(if b=d then decide (e<f)else decide (d<b))else decide (c<a)
theorem xi{w:World}{f b i k g m:Int}{j n:Option Addr}{a h c l:Nat}:
  Calls Tryz.prog 189 #[.agg #[.int .i64 f,.int .i64 b,.slice j a h,.int .i64 i],.agg #[.int .i64 k,.int .i64 g,.slice n c l,.int .i64 m]] w fun e v=>e=.returned (.bool (kK b a f g c k))/\db w v:=by
 have r:=db.alloc w (.cells #[.int .i64 f,.int .i64 b,.slice j a h,.int .i64 i] 205);have s:=(dK.new w 0 #[.int .i64 f,.int .i64 b,.slice j a h,.int .i64 i] _ 205 _ rfl (Nat.zero_le _) rfl);have o:=db.alloc (w.alloc (.cells #[.int .i64 f,.int .i64 b,.slice j a h,.int .i64 i] 205)) (.cells #[.int .i64 k,.int .i64 g,.slice n c l,.int .i64 m] 205);have t:=(dK.new (w.alloc (.cells #[.int .i64 f,.int .i64 b,.slice j a h,.int .i64 i] 205)) 0 #[.int .i64 k,.int .i64 g,.slice n c l,.int .i64 m] _ 205 (w.heap.size+1) (by simp) (Nat.zero_le _) rfl);have X:=hI (r.tr o);have p:=hI (s.ext o);have q:=hI t;clear r s o t;obtain⟨R,d⟩:∃R,R=kK b a f g c k:=⟨_,rfl⟩;rw[<-d];unfold kK at d;go_enter Tryz.func189,Tryz.ntmps189;go_upto_region 1 with fail;change Code.wp _ _ _ _ ((w.alloc (.cells #[.int .i64 f,.int .i64 b,.slice j a h,.int .i64 i] 205)).alloc (.cells #[.int .i64 k,.int .i64 g,.slice n c l,.int .i64 m] 205));generalize(w.alloc (.cells #[.int .i64 f,.int .i64 b,.slice j a h,.int .i64 i] 205)).alloc (.cells #[.int .i64 k,.int .i64 g,.slice n c l,.int .i64 m] 205)=z at*;have x:=p.o.c 0 _ rfl;have a1:=p.o.c 1 _ rfl;have a2:=p.o.c 2 _ rfl;have y:=q.o.c 0 _ rfl;have b1:=q.o.c 1 _ rfl;have b2:=q.o.c 2 _ rfl;by_cases h1:b=g
 .subst h1;rw[if_pos rfl]at d;by_cases h2:a=c;·subst h2;rw[if_pos rfl]at d;subst d;go_wp2;go_ret;exact⟨rfl,X.o⟩
  .rw[if_neg h2]at d;have h3:¬(a:Int)=(c:Int):=by omega
   have u:Hid (R=decide ((c:Int)<(a:Int))):=hI (by rw[d];simp);clear d;go_wp2;go_ret;exact⟨by rw[u.o];simp,X.o⟩
 .rw[if_neg h1]at d;subst d;go_wp2;go_ret;exact⟨rfl,X.o⟩
def lX(a b:iq):Bool:=kK a.ls a.L.length a.fr b.ls b.L.length b.fr
def fg(b:iq×Int)(v:iq):iq×Int:=(if lX v b.1 then v else b.1,ep b.2 v.cm)
def J8(a b:Int):Int:=if a<b then a else b
def dH(vs:List iq):iq:=
 let r:=vs.foldl fg (vs.headD ⟨0,0,[],0⟩,0)
 {r.1 with cm:=J8 r.2 (r.1.L.length:Int)}
theorem Cv{w:World}{o:Ow}{c g:Nat}{vw n:Int}{vs:List iq}(h:sM w o c g vw n vs)(hm:dX (dr vs) n=true)(aF:vs≠[]):
  Calls Tryz.prog 169 #[.pointer (some ⟨g,0,none⟩)] w fun e w'=>∃q ap,e=.returned (.tuple #[.agg #[.int .i64 (dH vs).fr,.int .i64 (dH vs).ls,.slice q (dH vs).L.length ap,.int .i64 (dH vs).cm],.bool true])/\fY 71 7 w' w.heap.size q (dH vs).L.length ap ((dH vs).L.map dY)/\(∀e∈(dH vs).L,eQ e)/\db w w':=by
 have X0:=db.alloc w (.cells #[.int .i64 0,.int .i64 0,.slice none 0 0,.int .i64 0] 205);have B0:=dK.new w w.heap.size #[.int .i64 0,.int .i64 0,.slice none 0 0,.int .i64 0] _ 205 _ rfl (Nat.le_refl _) rfl;have T:=lT (h.ext X0);rw[hm]at T;obtain⟨p,ap,s,h,rfl⟩:=h;obtain⟨BV,ax⟩:∃BV,BV=dH (s.map g8):=⟨_,rfl⟩;rw[<-ax];have aI:=hI ax;clear ax;have H:=h;have aO:=h.le
 have aG:0<s.length:=by
  cases s with
  |nil=>exact absurd rfl aF
  |cons a l=>simp
 obtain⟨U,an⟩:∃d,s[0]? =some d:=⟨s[0],List.getElem?_eq_getElem aG⟩
 have aC:Hid ((s.map g8).headD ⟨0,0,[],0⟩=g8 U/\U∈s):=hI ⟨by
  cases s with
  |nil=>cases an
  |cons a l=>simp at an;subst an;rfl,List.mem_of_getElem? an⟩
 clear h hm aF;obtain⟨b,oo,d,hp,hd,c0,c1,r,c3⟩:=Gj H.row.row.sl 0 aG;rw[an]at hd;cases hd;have CC:Hid (w.cell? ⟨b,oo+0*4,none⟩=some (.int .i64 U.fr)/\w.cell? ⟨b,oo+0*4+1,none⟩=some (.int .i64 U.ls)/\w.cell? ⟨b,oo+0*4+2,none⟩=some (.slice U.q U.L.length U.cap)/\w.cell? ⟨b,oo+0*4+3,none⟩=some (.int .i64 U.cm)):=hI ⟨c0,c1,r,c3⟩;clear an c0 c1 r c3;go_enter Tryz.func169,Tryz.ntmps169;go_upto_region 1 with fail;change Code.wp _ _ _ _ (w.alloc (.cells #[.int .i64 0,.int .i64 0,.slice none 0 0,.int .i64 0] 205));generalize w.alloc (.cells #[.int .i64 0,.int .i64 0,.slice none 0 0,.int .i64 0] 205)=w0 at*;go_wp2_with fail;refine T.mono ?_;rintro e V ⟨rfl,x1⟩;have X:=X0.tr x1;have B:=B0.ext x1;clear T x1 X0 B0;have g2:V.cell? ⟨g,2,none⟩=some (.slice p s.length ap):=db.cell X (H.box.box.c 2 _ rfl);subst hp;obtain⟨af,al,aq,ac,aL,am⟩:=U;have c0:=db.cell X CC.o.1;have c1:=db.cell X CC.o.2.1;have r:=db.cell X CC.o.2.2.1;have c3:=db.cell X CC.o.2.2.2;simp only[Nat.zero_mul,Nat.add_zero]at c0 c1 r c3;clear CC;have aP:(0:Int)<(s.length:Int):=by omega
 go_upto_region 4 with fail;change Code.wp _ _ _ _ (V.alloc (.cells #[.int .i64 af,.int .i64 al,.slice aq aL.length ac,.int .i64 am] 205));have X2:=db.alloc V (.cells #[.int .i64 af,.int .i64 al,.slice aq aL.length ac,.int .i64 am] 205);have B4:=dK.new V V.heap.size #[.int .i64 af,.int .i64 al,.slice aq aL.length ac,.int .i64 am] _ 205 _ rfl (Nat.le_refl _) rfl;have Z:Hid (w.heap.size<V.heap.size):=hI B.hi;clear g2 c0 c1 r c3;generalize V.alloc (.cells #[.int .i64 af,.int .i64 al,.slice aq aL.length ac,.int .i64 am] 205)=w2 at*;replace X:=X.tr X2;replace B:=B.ext X2;clear X2;have az:dK w2 w.heap.size V.heap.size [.int .i64 af,.int .i64 al,.slice aq aL.length ac,.int .i64 am]:=B4.base (by have:=Z.o;omega);clear B4;generalize V.heap.size=b4 at*;have g2:w2.cell? ⟨g,2,none⟩=some (.slice (some ⟨b,oo,none⟩) s.length ap):=db.cell X (H.box.box.c 2 _ rfl);go_wp2_with fail;clear g2;go_loopw [5,23] (fun cc i wr=>∃(k:Nat) (z:GP),k<=s.length/\i=.int .i64 (k:Int)/\Hid (z∈s)/\Hid (((s.take k).map g8).foldl fg ((s.map g8).headD ⟨0,0,[],0⟩,0)=(g8 z,(((s.take k).map g8).foldl fg ((s.map g8).headD ⟨0,0,[],0⟩,0)).2))/\cc=.int .i64 (((s.take k).map g8).foldl fg ((s.map g8).headD ⟨0,0,[],0⟩,0)).2/\Hid (dK wr w.heap.size b4 (K4 z))/\Hid (dK wr w.heap.size w.heap.size [.int .i64 0,.int .i64 0,.slice none 0 0,.int .i64 0])/\Hid (db w wr)) (fun _ i _=>s.length-(intOf i).toNat);case atStart=>exact⟨0,⟨af,al,aq,ac,aL,am⟩,by omega,rfl,hI aC.o.2,hI (by rw[aC.o.1];rfl),rfl,az,B,X⟩
 clear az B X
 case round=>
  obtain⟨k,z,hk,rfl,ZM,FO,rfl,j,B,X⟩:=hrel;generalize hF:((s.take k).map g8).foldl fg ((s.map g8).headD ⟨0,0,[],0⟩,0)=F at*;obtain⟨F1,F2⟩:=F;have HF:=hI hF;have aB:Hid (F1=g8 z):=hI (by have:=FO.o;simp at this;exact this);clear hF FO;simp only;obtain⟨t,u,Q,P,f,K⟩:=z;by_cases aM:k<s.length
  .obtain⟨b',aQ,d,hp,hd,c0,c1,r,c3⟩:=Gj (H.row.row.sl.ext X) k aM;cases hp
   have SN:Hid (((s.take (k+1)).map g8).foldl fg ((s.map g8).headD ⟨0,0,[],0⟩,0)=fg (g8 ⟨t,u,Q,P,f,K⟩,F2) (g8 d)):=hI (by
    rw[List.take_add_one,hd,List.map_append,List.foldl_append,HF.o,aB.o]
    rfl)
   have DM:=hI (List.mem_of_getElem? hd);clear hd;obtain⟨y,A,D,C,x,m⟩:=d;simp only at c0 c1 r c3;obtain⟨z0,z1,O,R⟩:wr.cell? ⟨b4,0,none⟩=some (.int .i64 t)/\wr.cell? ⟨b4,1,none⟩=some (.int .i64 u)/\wr.cell? ⟨b4,2,none⟩=some (.slice Q f.length P)/\wr.cell? ⟨b4,3,none⟩=some (.int .i64 K):=⟨j.c 0 _ rfl,j.c 1 _ rfl,j.c 2 _ rfl,j.c 3 _ rfl⟩;clear z0 z1 O R;go_upto_region 7 with fail;change Code.wp _ _ _ _ (wr.alloc (.cells #[.int .i64 y,.int .i64 A,.slice D x.length C,.int .i64 m] 205));have X3:=db.alloc wr (.cells #[.int .i64 y,.int .i64 A,.slice D x.length C,.int .i64 m] 205);have N:=dK.new wr 0 #[.int .i64 y,.int .i64 A,.slice D x.length C,.int .i64 m] _ 205 _ rfl (Nat.zero_le _) rfl;have aH:Hid (b4≠wr.heap.size):=hI (by have:=j.hi;omega);clear c0 c1 r c3;generalize wr.alloc (.cells #[.int .i64 y,.int .i64 A,.slice D x.length C,.int .i64 m] 205)=w3 at*;replace X:=X.tr X3;replace B:=B.ext X3;replace j:=j.ext X3;clear X3;generalize wr.heap.size=b7 at*;obtain⟨z0,z1,O,R⟩:w3.cell? ⟨b4,0,none⟩=some (.int .i64 t)/\w3.cell? ⟨b4,1,none⟩=some (.int .i64 u)/\w3.cell? ⟨b4,2,none⟩=some (.slice Q f.length P)/\w3.cell? ⟨b4,3,none⟩=some (.int .i64 K):=⟨j.c 0 _ rfl,j.c 1 _ rfl,j.c 2 _ rfl,j.c 3 _ rfl⟩;obtain⟨y0,y1,y2,y3⟩:w3.cell? ⟨b7,0,none⟩=some (.int .i64 y)/\w3.cell? ⟨b7,1,none⟩=some (.int .i64 A)/\w3.cell? ⟨b7,2,none⟩=some (.slice D x.length C)/\w3.cell? ⟨b7,3,none⟩=some (.int .i64 m):=⟨N.c 0 _ rfl,N.c 1 _ rfl,N.c 2 _ rfl,N.c 3 _ rfl⟩;go_wp2_with fail;refine xi.mono ?_;rintro e I ⟨rfl,x5⟩;replace X:=X.tr x5;replace B:=B.ext x5;replace j:=j.ext x5;replace N:=N.ext x5;clear x5 z0 z1 O R y0 y1 y2 y3;have y3:=N.c 3 _ rfl;obtain⟨BT,aw⟩:∃BT,BT=kK A x.length y u f.length t:=⟨_,rfl⟩;rw[<-aw];have au:Hid (lX (g8 ⟨y,A,D,C,x,m⟩) (g8 ⟨t,u,Q,P,f,K⟩)=BT):=hI aw.symm;clear aw;cases BT
   .have S:Hid (fg (g8 ⟨t,u,Q,P,f,K⟩,F2) (g8 ⟨y,A,D,C,x,m⟩)=(g8 ⟨t,u,Q,P,f,K⟩,ep F2 m)):=hI (by unfold fg;simp only;rw[au.o];rfl);clear au;by_cases ar:F2<m
    .have EC:Hid (ep F2 m=m):=hI (by unfold ep;rw[if_pos ar]);go_wp2;go_roundw;case rel=>exact⟨k+1,⟨t,u,Q,P,f,K⟩,by omega,by go_num,ZM,hI (by rw[SN.o,S.o]),by rw[SN.o,S.o];exact congrArg (Value.int .i64) EC.o.symm,j,B,X⟩
     case measure=>simp[intOf];omega
    .have EC:Hid (ep F2 m=F2):=hI (by unfold ep;rw[if_neg ar]);go_wp2;go_roundw;case rel=>exact⟨k+1,⟨t,u,Q,P,f,K⟩,by omega,by go_num,ZM,hI (by rw[SN.o,S.o]),by rw[SN.o,S.o];exact congrArg (Value.int .i64) EC.o.symm,j,B,X⟩
     case measure=>simp[intOf];omega
   .have S:Hid (fg (g8 ⟨t,u,Q,P,f,K⟩,F2) (g8 ⟨y,A,D,C,x,m⟩)=(g8 ⟨y,A,D,C,x,m⟩,ep F2 m)):=hI (by unfold fg;simp only;rw[au.o];rfl);clear au;obtain⟨y0,y1,y2⟩:I.cell? ⟨b7,0,none⟩=some (.int .i64 y)/\I.cell? ⟨b7,1,none⟩=some (.int .i64 A)/\I.cell? ⟨b7,2,none⟩=some (.slice D x.length C):=⟨N.c 0 _ rfl,N.c 1 _ rfl,N.c 2 _ rfl⟩;obtain⟨z0,z1,O,R⟩:I.cell? ⟨b4,0,none⟩=some (.int .i64 t)/\I.cell? ⟨b4,1,none⟩=some (.int .i64 u)/\I.cell? ⟨b4,2,none⟩=some (.slice Q f.length P)/\I.cell? ⟨b4,3,none⟩=some (.int .i64 K):=⟨j.c 0 _ rfl,j.c 1 _ rfl,j.c 2 _ rfl,j.c 3 _ rfl⟩;have aj:=j.f;have FG:=eU b4 [.int .i64 y,.int .i64 A,.slice D x.length C,.int .i64 m] 0 I I (dD _ _);have FZ:dK (dL I b4 0 [.int .i64 y,.int .i64 A,.slice D x.length C,.int .i64 m]) w.heap.size b4 [.int .i64 y,.int .i64 A,.slice D x.length C,.int .i64 m]:=j.fill (Nat.le_refl _);have FB:dK (dL I b4 0 [.int .i64 y,.int .i64 A,.slice D x.length C,.int .i64 m]) w.heap.size w.heap.size [.int .i64 0,.int .i64 0,.slice none 0 0,.int .i64 0]:=B.other FG (by intro e;cases e;have:=Z.o;omega);have FD:=N.other FG (by intro e;cases e;exact aH.o rfl);have FX:=eL X (show w.heap.size<=b4 by have:=Z.o;omega) [.int .i64 y,.int .i64 A,.slice D x.length C,.int .i64 m] 0;go_upto_region 9 with fail;change Code.wp _ _ _ _ (dL I b4 0 [.int .i64 y,.int .i64 A,.slice D x.length C,.int .i64 m]);clear y0 y1 y2 y3 z0 z1 O R aj B j X N FG;generalize dL I b4 0 [.int .i64 y,.int .i64 A,.slice D x.length C,.int .i64 m]=W at*;have y3:=FD.c 3 _ rfl;have j:=FZ;have B:=FB;have X:=FX;clear FZ FB FX;by_cases ar:F2<m
    .have EC:Hid (ep F2 m=m):=hI (by unfold ep;rw[if_pos ar]);go_wp2;go_roundw;case rel=>exact⟨k+1,⟨y,A,D,C,x,m⟩,by omega,by go_num,DM,hI (by rw[SN.o,S.o]),by rw[SN.o,S.o];exact congrArg (Value.int .i64) EC.o.symm,j,B,X⟩
     case measure=>simp[intOf];omega
    .have EC:Hid (ep F2 m=F2):=hI (by unfold ep;rw[if_neg ar]);go_wp2;go_roundw;case rel=>exact⟨k+1,⟨y,A,D,C,x,m⟩,by omega,by go_num,DM,hI (by rw[SN.o,S.o]),by rw[SN.o,S.o];exact congrArg (Value.int .i64) EC.o.symm,j,B,X⟩
     case measure=>simp[intOf];omega
  .have lC:k=s.length:=by omega
   have FV:Hid (BV=⟨t,u,f,J8 F2 (f.length:Int)⟩):=hI (by
    rw[aI.o]
    have h1:=HF.o
    rw[lC,List.take_length]at h1
    unfold dH
    rw[h1,aB.o]
    rfl)
   have SZ:=(H.ok _ ZM.o).sl.ext X;have EZ:=hI (H.ok _ ZM.o).en;have aN:f.length<=1000000:=by have h1:f.length<=60:=(H.ok _ ZM.o).le;omega
   have aj:=j.f;have O:wr.cell? ⟨b4,2,none⟩=some (.slice Q f.length P):=j.c 2 _ rfl;obtain⟨G,ay⟩:∃M,M=J8 F2 (f.length:Int):=⟨_,rfl⟩;rw[<-ay]at FV;have aD:=hI ay;clear ay lC;go_wp2_with fail;refine(jz SZ.sl (kP _) aN).mono ?_;rintro e W ⟨E,r,rfl,o6,x6⟩;have O6:=o6;replace B:=B.ext x6;have ao:=j.ext x6
   have av:Hid (∀i,E.map (·.block)=some i->b4≠i/\w.heap.size≠i):=hI (fun i hi=>by
    have h1:=(O6.lt i hi).1
    have h2:=j.hi
    have h3:=Z.o
    omega)
   have OB:Hid (w.heap.size<=wr.heap.size):=hI X.size;replace X:=X.tr x6;clear o6 x6 O aj j;have aj:=ao.f;obtain⟨O,R⟩:W.cell? ⟨b4,2,none⟩=some (.slice Q f.length P)/\W.cell? ⟨b4,3,none⟩=some (.int .i64 K):=⟨ao.c 2 _ rfl,ao.c 3 _ rfl⟩;go_upto_region 12 with fail;have B7:dK (W.setCell ⟨b4,2,none⟩ (.slice E f.length r)) w.heap.size b4 [.int .i64 t,.int .i64 u,.slice E f.length r,.int .i64 K]:=ao.put 2 _;have aA:dK (W.setCell ⟨b4,2,none⟩ (.slice E f.length r)) w.heap.size w.heap.size [.int .i64 0,.int .i64 0,.slice none 0 0,.int .i64 0]:=B.other (dP (dD W (some b4)) 2 _) (by intro e;cases e;have:=Z.o;omega);have O7:=O6.kept (dP (dD W (some b4)) 2 (.slice E f.length r)) (fun k hk e=>by cases hk;exact(av.o _ e).1 rfl);have X7:db w (W.setCell ⟨b4,2,none⟩ (.slice E f.length r)):=X.setCell (by have:=Z.o;simp only;omega) _;clear O R aj B ao O6 X;generalize W.setCell ⟨b4,2,none⟩ (.slice E f.length r)=Y at*;have aj:=B7.f;obtain⟨O,R⟩:Y.cell? ⟨b4,2,none⟩=some (.slice E f.length r)/\Y.cell? ⟨b4,3,none⟩=some (.int .i64 K):=⟨B7.c 2 _ rfl,B7.c 3 _ rfl⟩;go_cut [] (fun wx=>wx=Y.setCell ⟨b4,3,none⟩ (.int .i64 G))
   case first=>
    by_cases aE:F2<(f.length:Int)
    .have e:G=F2:=by rw[aD.o];unfold J8;rw[if_pos aE]
     subst e;go_wp2;go_meet;rfl
    .have e:G=(f.length:Int):=by rw[aD.o];unfold J8;rw[if_neg aE]
     by_cases aK:F2=(f.length:Int);·subst e;subst aK;go_wp2;go_meet;rfl
     .have h3:(f.length:Int)<F2:=by omega
      have aJ:=hI e;clear e;go_wp2;go_meet;rw[aJ.o]
   case rest=>
   subst hcut;have B8:dK (Y.setCell ⟨b4,3,none⟩ (.int .i64 G)) w.heap.size b4 [.int .i64 t,.int .i64 u,.slice E f.length r,.int .i64 G]:=B7.put 3 _;have ak:dK (Y.setCell ⟨b4,3,none⟩ (.int .i64 G)) w.heap.size w.heap.size [.int .i64 0,.int .i64 0,.slice none 0 0,.int .i64 0]:=aA.other (dP (dD Y (some b4)) 3 _) (by intro e;cases e;have:=Z.o;omega);have O8:=O7.kept (dP (dD Y (some b4)) 3 (.int .i64 G)) (fun k hk e=>by cases hk;exact(av.o _ e).1 rfl);have X8:db w (Y.setCell ⟨b4,3,none⟩ (.int .i64 G)):=X7.setCell (by have:=Z.o;simp only;omega) _;clear O R aj B7 aA O7 X7;generalize Y.setCell ⟨b4,3,none⟩ (.int .i64 G)=J at*;obtain⟨z0,z1,O,R⟩:J.cell? ⟨b4,0,none⟩=some (.int .i64 t)/\J.cell? ⟨b4,1,none⟩=some (.int .i64 u)/\J.cell? ⟨b4,2,none⟩=some (.slice E f.length r)/\J.cell? ⟨b4,3,none⟩=some (.int .i64 G):=⟨B8.c 0 _ rfl,B8.c 1 _ rfl,B8.c 2 _ rfl,B8.c 3 _ rfl⟩;obtain⟨t0,t1,t2,t3⟩:J.cell? ⟨w.heap.size,0,none⟩=some (.int .i64 0)/\J.cell? ⟨w.heap.size,1,none⟩=some (.int .i64 0)/\J.cell? ⟨w.heap.size,2,none⟩=some (.slice none 0 0)/\J.cell? ⟨w.heap.size,3,none⟩=some (.int .i64 0):=⟨ak.c 0 _ rfl,ak.c 1 _ rfl,ak.c 2 _ rfl,ak.c 3 _ rfl⟩;have tf:=ak.f;go_wp2;change bodyPost _ _ _ Exit.ret _ (dL J w.heap.size 0 [.int .i64 t,.int .i64 u,.slice E f.length r,.int .i64 G]);have FB:dK (dL J w.heap.size 0 [.int .i64 t,.int .i64 u,.slice E f.length r,.int .i64 G]) w.heap.size w.heap.size [.int .i64 t,.int .i64 u,.slice E f.length r,.int .i64 G]:=ak.fill (Nat.le_refl _);have O9:=O8.kept (eU w.heap.size [.int .i64 t,.int .i64 u,.slice E f.length r,.int .i64 G] 0 J J (dD _ _)) (fun k hk e=>by cases hk;exact(av.o _ e).2 rfl);have X9:=eL X8 (Nat.le_refl _) [.int .i64 t,.int .i64 u,.slice E f.length r,.int .i64 G] 0;generalize dL J w.heap.size 0 [.int .i64 t,.int .i64 u,.slice E f.length r,.int .i64 G]=w9 at*;obtain⟨f0,f1,f2,f3⟩:w9.cell? ⟨w.heap.size,0,none⟩=some (.int .i64 t)/\w9.cell? ⟨w.heap.size,1,none⟩=some (.int .i64 u)/\w9.cell? ⟨w.heap.size,2,none⟩=some (.slice E f.length r)/\w9.cell? ⟨w.heap.size,3,none⟩=some (.int .i64 G):=⟨FB.c 0 _ rfl,FB.c 1 _ rfl,FB.c 2 _ rfl,FB.c 3 _ rfl⟩;exact bodyPost_ret (v:=.tuple #[.agg #[.int .i64 t,.int .i64 u,.slice E f.length r,.int .i64 G],.bool true]) (by simp[results,Tryz.results169,go_sem,f0,f1,f2,f3]) rfl ⟨E,r,by rw[FV.o],by rw[FV.o];exact O9.mono OB.o,by rw[FV.o];exact EZ.o,X9⟩
end Go.Proofs.YtjhbmbbmjaabcaaGreat
