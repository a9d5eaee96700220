/-
  Contracts. Conditions stand at each.
-/
import Derived.Deep.DeepCutAuto
import Derived.ChangeKeysEq
import Derived.Test.YtjhbmbbmjaabcaaGreatS6
import Derived.Test.YtjhbmbbmjaabcaaGreatS7
set_option linter.all false
set_option maxRecDepth 8000
set_option maxHeartbeats 8000000
namespace Go.Proofs.YtjhbmbbmjaabcaaGreat
open Go Go.Sort Go.RowKit
theorem Ed{w:World}{o:Ow}{c g:Nat}{L:List dj}{e:dj}(ae:Cl w o)(h:ge w o c g L)(h1:1<c)(he:eQ e)(hm:ec e=true)(hn:(L.any fun x=>dG x e)=false)(hl:L.length<=59)(U:(ib L).st<=e.st):
  Calls Tryz.prog 167 #[.pointer (some ⟨g,0,none⟩),jT e] w fun r w'=>∃o',r=.returned (.bool true)/\ge w' o' c g (L++[e])/\Fm (two c) o o' w w':=by
 obtain⟨i,k,l,m,n,b,q⟩:=e;obtain⟨le,af⟩:∃le,le=ib L:=⟨_,rfl⟩;obtain⟨V,W,X,Y,Z,N,ld⟩:=le;rw[<-af]at U;simp only at U;have ah:=hI af;have HE:=hI he;have HM:=hI hm;have HN:=hI hn;have HS:=hI U;have s:=hI h1;have A0:=hI (db.alloc w (.cells (dZ ⟨i,k,l,m,n,b,q⟩) 71));have f:=hI (eB.new w ⟨i,k,l,m,n,b,q⟩ 71);have a:=hI (ae.ext A0.o);have t:Hid (Fm (two c) o o w (w.alloc (.cells (dZ ⟨i,k,l,m,n,b,q⟩) 71))):=hI (Fm.ext ae A0.o);have H:=hI (h.ext A0.o);clear h ae af he hm hn U h1;go_enter Tryz.func167,Tryz.ntmps167;go_upto_region 1 with fail;change Code.wp _ _ _ _ (w.alloc (.cells (dZ ⟨i,k,l,m,n,b,q⟩) 71));clear A0;generalize w.alloc (.cells (dZ ⟨i,k,l,m,n,b,q⟩) 71)=w0 at*;generalize w.heap.size=bb at*;obtain⟨v,y,z,A,D,E,F⟩:=f.o;simp only at v y z A D E F;go_wp2_with fail;refine(kY (e:=⟨i,k,l,m,n,b,q⟩) HE.o).mono ?_;rw[HM.o];rintro x w2 ⟨rfl,O⟩;replace H:=hI (H.o.ext O);replace f:=hI (f.o.ext O);replace t:=hI (t.o.tr (Fm.ext a.o O) (by unfold two;have:=s.o;omega));replace a:=hI (a.o.ext O);clear O v y z A D E F;obtain⟨v,y,z,A,D,E,F⟩:=f.o;simp only at v y z A D E F;go_wp2_with fail;refine(vO (e:=⟨i,k,l,m,n,b,q⟩) H.o).mono ?_;rw[HN.o];rintro x w3 ⟨rfl,P⟩;replace H:=hI (H.o.ext P);replace f:=hI (f.o.ext P);replace t:=hI (t.o.tr (Fm.ext a.o P) (by unfold two;have:=s.o;omega));replace a:=hI (a.o.ext P);clear P v y z A D E F;obtain⟨p,ai,h⟩:=H.o;have c0:=h.box.box.c 0 _ rfl;clear h;have al:¬(60:Int)<=(L.length:Int):=by omega
 go_wp2_with fail;have T:=ql H.o;obtain⟨BE,ag⟩:∃B,B= !L.isEmpty:=⟨_,rfl⟩;rw[<-ah.o,<-ag]at T;clear ag;refine T.mono ?_;clear T;rintro x I ⟨rfl,Q⟩;replace H:=hI (H.o.ext Q);replace f:=hI (f.o.ext Q);replace t:=hI (t.o.tr (Fm.ext a.o Q) (by unfold two;have:=s.o;omega));replace a:=hI (a.o.ext Q);clear Q c0;go_upto_region 4 with fail;change Code.wp _ _ _ _ (I.alloc (.cells (dZ ⟨V,W,X,Y,Z,N,ld⟩) 71));have K:=hI (db.alloc I (.cells (dZ ⟨V,W,X,Y,Z,N,ld⟩) 71));have EL:=hI (eB.new I ⟨V,W,X,Y,Z,N,ld⟩ 71);generalize I.alloc (.cells (dZ ⟨V,W,X,Y,Z,N,ld⟩) 71)=w5 at*;replace H:=hI (H.o.ext K.o);replace f:=hI (f.o.ext K.o);replace t:=hI (t.o.tr (Fm.ext a.o K.o) (by unfold two;have:=s.o;omega));replace a:=hI (a.o.ext K.o);clear K;generalize I.heap.size=b5 at*;have m5:=EL.o.c5;simp only at m5;have h6:¬b<N:=by have:=HS.o;omega
 obtain⟨p,ai,h⟩:=H.o;have M:=hI h;clear h;have ak:L.length<=1000000:=by omega
 obtain⟨v,y,z,A,D,E,F⟩:=f.o;have R:=hI (db.alloc w5 (.cells (dZ ⟨i,k,l,m,n,b,q⟩) 71));have J:=hI (R.o.tr (db.drew (w5.alloc (.cells (dZ ⟨i,k,l,m,n,b,q⟩) 71))));obtain⟨a0,a1,a2,a3,a4,a5,a6⟩:=f.o.ext R.o;simp only at v y z A D E F a0 a1 a2 a3 a4 a5 a6;have c0:=M.o.box.box.c 0 _ rfl;have b0:=(M.o.box.ext R.o).box.c 0 _ rfl;go_wp2_with fail
 all_goals
  clear m5 h6;go_region_law (refine iN (by rfl) _ _ _ (by rfl) 71 7 64 _ Tryz.underlying43 nN (by rfl) (by omega) (a.o.ext J.o) (M.o.row.ext J.o) (by rfl) w5.heap.size 1 (dY ⟨i,k,l,m,n,b,q⟩) (by rfl) (by rfl) (fun j u hu=>gd (w:=w5) rfl j u hu) (kP [⟨i,k,l,m,n,b,q⟩] (dY ⟨i,k,l,m,n,b,q⟩) (by simp)) ak (by omega) (by have:=s.o;omega) (fun d=>d=c+1) rfl ?_;intro p4 c4 o4 I r4 f4;have S:=hI ((M.o.box.ext J.o).fr f4 (by have:=s.o;omega) (by omega));have b4:=S.o.box.c 0 _ rfl;have aj:=S.o.box.f 0)
  all_goals
   obtain⟨B5,R5,M5⟩:=ly (C:=two c) (j:=0) (by unfold two;have:=s.o;omega) (t.o.tr (Fm.ext a.o J.o) (by unfold two;have:=s.o;omega)) S.o f4 r4 (by have:=s.o;omega) (by have:=s.o;omega) (.inl rfl) (.inr rfl) (by omega) (.slice p4 (L.length+1) c4);have B6:=hI B5;have R6:=hI R5;have M6:=hI M5;clear r4 f4 S b4 aj B5 R5 M5 R J v y z A D E F a0 a1 a2 a3 a4 a5 a6 c0 b0;go_wp2;go_ret;refine⟨o4,rfl,⟨p4,c4,⟨?_,?_,?_,?_⟩⟩,?_⟩;·have:=B6.o;simpa using this
   .have:=R6.o;simpa using this
   .simp;omega
   .intro x G;rcases List.mem_append.1 G with G|G;·exact M.o.ok x G
    .simp at G;subst G;exact HE.o
   .exact M6.o
theorem xy{w:World}{p q:Option Addr}{n m cap v:Nat}{L M:List dj}(h:SlS 7 w p n cap (L.map dY))(h2:SlS 7 w q m v (M.map dY)):
  Calls Tryz.prog 198 #[.slice p n cap,.slice q m v,.func (.func 199) #[] #[]] w fun e w'=>e=.returned (.bool (ut L M))/\db w w':=by
 have hn:n<=9223372036854775807:=Nat.le_trans h.le h.max;have N:=hI (it h);have Q:=hI (it h2);have S:=hI h;have Z:=hI h2;clear h h2;obtain⟨B,H⟩:∃B,B=ut L M:=⟨_,rfl⟩;rw[<-H];have x:=hI H;clear H;by_cases K:n=m
 .subst K;go_enter Tryz.func198,Tryz.ntmps198;go_wp2;go_loopw [17] (fun i wr=>∃k:Nat,k<=n/\i=.int .i64 (k:Int)/\L.take k=M.take k/\db w wr) (fun i _=>n-(intOf i).toNat);case atStart=>exact⟨0,by omega,rfl,rfl,db.rfl' _⟩
  case round=>
   obtain⟨k,hk,rfl,U,Y⟩:=hrel;have T:=hI U;have X:=hI Y;clear U Y;by_cases R:k<n
   .obtain⟨b,o,e,hp,V,c0,c1,v,c3,c4,c5,c6⟩:=iE (S.o.ext X.o) k R;have O:=hI V;clear V;subst hp;obtain⟨f,g,j,l,r,s,d⟩:=e;simp only at c0 c1 v c3 c4 c5 c6;obtain⟨b',o',e',ac,W,d0,d1,d2,d3,d4,d5,d6⟩:=iE (Z.o.ext (X.o.tr (db.alloc wr (.cells (dZ ⟨f,g,j,l,r,s,d⟩) 71)))) k R;have P:=hI W;clear W;subst ac;obtain⟨z,A,C,D,E,F,G⟩:=e';simp only at d0 d1 d2 d3 d4 d5 d6;have u:=hI (fun w=>JR (a:=⟨f,g,j,l,r,s,d⟩) (b:=⟨z,A,C,D,E,F,G⟩) (w:=w));replace X:=hI ((X.o.tr (db.alloc wr (.cells (dZ ⟨f,g,j,l,r,s,d⟩) 71))).tr (db.alloc (wr.alloc (.cells (dZ ⟨f,g,j,l,r,s,d⟩) 71)) (.cells (dZ ⟨z,A,C,D,E,F,G⟩) 71)));cases c:Ba ⟨f,g,j,l,r,s,d⟩ ⟨z,A,C,D,E,F,G⟩
    .have I:B=false:=by rw[x.o];refine uu fun J=>?_;have h1:=O.o;rw[J,P.o]at h1;injection h1 with h1;exact Dz c h1.symm
     subst I;rw[c]at u;clear c;go_wp2_with fail;refine(u.o _).mono ?_;rintro e w4 ⟨rfl,t⟩;have y:=hI (X.o.tr t);clear t;go_wp2;go_ret;exact⟨rfl,y.o⟩
    .have T2:Hid (L.take (k+1)=M.take (k+1)):=hI (by rw[List.take_add_one,List.take_add_one,O.o,P.o,T.o,(qe _ _).1 c])
     rw[c]at u;clear c;go_wp2_with fail;refine(u.o _).mono ?_;rintro e w4 ⟨rfl,t⟩;have y:=hI (X.o.tr t);clear t;go_wp2;go_roundw;case rel=>exact⟨k+1,by omega,by go_num,T2.o,y.o⟩
     case measure=>simp[intOf];omega
   .have ab:B=true:=by rw[x.o];refine(kQ L M).2 ?_;have h1:=T.o;rwa[List.take_of_length_le (by rw[N.o];omega),List.take_of_length_le (by rw[Q.o];omega)]at h1
    subst ab;go_wp2;go_ret;exact⟨rfl,X.o⟩
 .have I:B=false:=by rw[x.o];refine uu fun J=>K ?_;rw[<-N.o,J,Q.o]
  subst I;have h1:((n:Int) !=(m:Int))=true:=bne_iff_ne.2 (by omega);have h2:((n:Int)==(m:Int))=false:=beq_eq_false_iff_ne.2 (by omega);clear K;go_enter Tryz.func198,Tryz.ntmps198;go_wp2;go_ret;exact⟨rfl,db.rfl' _⟩
section
variable{w:World} {e:dj} {o:Ow} {L:List dj}
theorem Hw{c g:Nat}(h:ge w o c g L)(y:eQ e)(z:ec e=true)(A:(L.any fun x=>dG x e)=true):
  Calls Tryz.prog 167 #[.pointer (some ⟨g,0,none⟩),jT e] w fun r F=>r=.returned (.bool false)/\db w F:=by obtain⟨a,b,d,f,i,j,k⟩:=e;have C:=hI y;have D:=hI z;have E:=hI A;have A0:=hI (db.alloc w (.cells (dZ ⟨a,b,d,f,i,j,k⟩) 71));have u:=hI (eB.new w ⟨a,b,d,f,i,j,k⟩ 71);have H:=hI (h.ext A0.o);clear h y z A;go_enter Tryz.func167,Tryz.ntmps167;go_upto_region 1 with fail;change Code.wp _ _ _ _ (w.alloc (.cells (dZ ⟨a,b,d,f,i,j,k⟩) 71));generalize w.alloc (.cells (dZ ⟨a,b,d,f,i,j,k⟩) 71)=G at*;obtain⟨l,m,n,p,q,s,t⟩:=u.o;simp only at l m n p q s t;go_wp2_with fail;refine(kY (e:=⟨a,b,d,f,i,j,k⟩) C.o).mono ?_;rw[D.o];rintro x I ⟨rfl,v⟩;replace H:=hI (H.o.ext v);replace u:=hI (u.o.ext v);replace A0:=hI (A0.o.tr v);clear v l m n p q s t;obtain⟨l,m,n,p,q,s,t⟩:=u.o;simp only at l m n p q s t;go_wp2_with fail;refine(vO (e:=⟨a,b,d,f,i,j,k⟩) H.o).mono ?_;rw[E.o];rintro x J ⟨rfl,B⟩;replace A0:=hI (A0.o.tr B);clear B l m n p q s t;go_wp2;go_ret;exact⟨rfl,A0.o⟩
def kI(L:List dj)(e:dj):Option (List dj):=if ec e&& !(L.any fun x=>dG x e)&&decide (L.length<60)&&decide ((ib L).st<=e.st)then some (L++[e])else none
def fw(L:List dj)(M:List dj):Option (List dj):=M.foldl (fun o e=>o.bind fun L=>kI L e) (some L)
theorem AE(M:List dj):M.foldl (fun o e=>o.bind fun L=>kI L e) (none:Option (List dj))=none:=by
 induction M with
 |nil=>rfl
 |cons e M a=>exact a
theorem om{L M R:List dj}{e:dj}(h:fw L (e::M)=some R):∃a,kI L e=some a/\fw a M=some R:=by
 unfold fw at h
 rw[List.foldl_cons]at h
 cases b:kI L e with
 |none=>
  simp only[Option.bind_some,b]at h;rw[AE]at h;cases h
 |some a=>
  simp only[Option.bind_some,b]at h;exact⟨a,rfl,h⟩
theorem kl{L':List dj}(h:kI L e=some L'):ec e=true/\(L.any fun x=>dG x e)=false/\L.length<=59/\(ib L).st<=e.st/\L'=L++[e]:=by
 unfold kI at h;split at h;·rename_i a;simp only[Bool.and_eq_true,Bool.not_eq_true',decide_eq_true_eq]at a;obtain⟨⟨⟨h1,h2⟩,h3⟩,h4⟩:=a;cases h;exact⟨h1,h2,by omega,h4,rfl⟩
 .cases h
theorem rm{c g:Nat}{L':List dj}(l:Cl w o)(h:ge w o c g L)(h1:1<c)(m:eQ e)(k:kI L e=some L'):
  Calls Tryz.prog 167 #[.pointer (some ⟨g,0,none⟩),jT e] w fun r j=>∃i,r=.returned (.bool true)/\ge j i c g L'/\Fm (two c) o i w j:=by obtain⟨a,b,d,f,rfl⟩:=kl k;exact Ed l h h1 m a b d f
theorem nO{p:Option Addr}{n cap:Nat}{M:List dj}(ad:Cl w o)(c:Nat)(h1:1<c)(u:fJ 7 w o p n cap (M.map dY))(Z:∀e∈M,eQ e)(ha:fw [] M=some L):
  Calls Tryz.prog 128 #[.slice p n cap] w fun r w'=>∃d g,r=.returned (.pointer (some ⟨g,0,none⟩))/\ge w' d c g L/\w.heap.size<=g/\Fm (two c) o d w w':=by
 have hn:n<=9223372036854775807:=Nat.le_trans u.sl.le u.sl.max;have N:=hI (it u.sl);have HM:=hI Z;have F:=hI ha;have v:=hI h1;have a:Hid (Fm (two c) o (gH o w.heap.size c) w (w.alloc (.cells #[.slice none 0 0] 158))):=hI (Fm.made ad _ c);have z:Hid (ge (w.alloc (.cells #[.slice none 0 0] 158)) (gH o w.heap.size c) c w.heap.size []):=hI ⟨none,0,dq.made w o c _ _ _ rfl,dQ.nil _ _ _ _ _,by decide,fun e he=>by cases he⟩;have S:=hI (u.fr a.o (by unfold two;omega));clear u Z ha h1 ad;go_enter Tryz.func128,Tryz.ntmps128;go_upto_region 2 with fail;change Code.wp _ _ _ _ (w.alloc (.cells #[.slice none 0 0] 158));generalize w.alloc (.cells #[.slice none 0 0] 158)=w1 at*;generalize gH o w.heap.size c=o1 at*;obtain⟨g,hg⟩:∃g,g=w.heap.size:=⟨_,rfl⟩;rw[<-hg]at z⊢;have ai:Hid (w.heap.size<=g):=hI (by omega);clear hg;go_wp2_with fail;go_loopw [10] (fun i wr=>∃(k:Nat) (d:Ow) (x:List dj),k<=n/\i=.int .i64 (k:Int)/\Hid (ge wr d c g x)/\Hid (fw x (M.drop k)=some L)/\Hid (fJ 7 wr d p n cap (M.map dY))/\Hid (Fm (two c) o d w wr)) (fun i _=>n-(intOf i).toNat);case atStart=>exact⟨0,o1,[],by omega,rfl,z,hI (by rw[List.drop_zero];exact F.o),S,a⟩
 clear z S a F
 case round=>
  obtain⟨k,d,x,hk,rfl,LV,y,S,a⟩:=hrel;by_cases al:k<n
  .obtain⟨b,oo,e,hp,B,H,I,J,K,O,P,Q⟩:=iE S.o.sl k al;have G:=hI B;have ae:M.drop k=e::M.drop (k+1):=by obtain⟨aj,rfl⟩:=List.getElem?_eq_some_iff.1 B;exact List.drop_eq_getElem_cons aj
   have A:=y.o;rw[ae]at A;obtain⟨L2,ab,ac⟩:=om A;have af:=hI ab;have ag:=hI ac;clear B A ab ac ae y;subst hp;have ah:=hI (HM.o _ (List.mem_of_getElem? G.o));clear G;obtain⟨h,j,l,m,q,s,t⟩:=e;simp only at H I J K O P Q;go_upto_region 5 with fail;change Code.wp _ _ _ _ (wr.alloc (.cells (dZ ⟨h,j,l,m,q,s,t⟩) 71));clear H I J K O P Q;have f:=hI (db.alloc wr (.cells (dZ ⟨h,j,l,m,q,s,t⟩) 71));have E:=hI (eB.new wr ⟨h,j,l,m,q,s,t⟩ 71);generalize wr.alloc (.cells (dZ ⟨h,j,l,m,q,s,t⟩) 71)=w2 at*;replace LV:=hI (LV.o.ext f.o);replace S:=hI (S.o.ext f.o);have D:=hI (a.o.cl.ext f.o);replace a:=hI (a.o.tr (Fm.ext a.o.cl f.o) (by unfold two;have:=v.o;omega));clear f;generalize wr.heap.size=bb at*;obtain⟨R,T,U,V,W,X,Y⟩:=E.o;simp only at R T U V W X Y;go_wp2_with fail;refine(rm (e:=⟨h,j,l,m,q,s,t⟩) D.o LV.o v.o ah.o af.o).mono ?_;rintro r w3 ⟨o3,rfl,l3,C⟩;have L3:=hI l3;replace S:=hI (S.o.fr C (by unfold two;have:=v.o;omega));replace a:=hI (a.o.tr C (by unfold two;have:=v.o;omega));clear l3 C R T U V W X Y E LV D;go_wp2;go_roundw;case rel=>exact⟨k+1,o3,L2,by omega,by go_num,L3,ag,S,a⟩
   case measure=>simp[intOf];omega
  .have ak:k=n:=by omega
   have HL:Hid (x=L):=hI (by
    have:=y.o;rw[List.drop_of_length_le (by rw[N.o];omega)]at this
    simpa [fw]using this)
   clear ak;go_wp2;go_ret;exact⟨d,g,rfl,by rw[<-HL.o];exact LV.o,ai.o,a.o⟩
end
theorem AZ(p:Option Addr)(n cap i j:Nat)(c:i<=j)(d:j<=cap)(w:World):(Instr.slice 43 (.slice p n cap) (some (.int .i64 (i:Int))) (some (.int .i64 (j:Int))) none).run Tryz.prog w=.ok (.slice (gI 7 p cap i) (j-i) (cap-i)) w:=by
 have a:Tryz.prog.elem 43=71:=by simp[Program.elem,Tryz.underlying43]
 have h:=run_slice_lh (P:=Tryz.prog) w 43 p n cap (by rw[a];exact Tryz.underlying43) .i64 .i64 (i:Int) (j:Int) (by omega) (by omega) (by omega);have b:(sizeOf 71).run Tryz.prog w=.ok 7 w:=by kernel_rfl
 rw[h,a,b];simp only[Result.andThen_ok,sliced,Int.toNat_natCast];rfl
theorem jA(p:Option Addr)(n cap k:Nat)(a:k<=cap)(w:World):(Instr.slice 43 (.slice p n cap) none (some (.int .i64 (k:Int))) none).run Tryz.prog w=.ok (.slice p k cap) w:=
 pH 7 43 71 Tryz.underlying43 (fun w=>by kernel_rfl) p n cap k a w
theorem Ej{w a:World}{o:Ow}{c g f:Nat}{p d:Option Addr}{cap:Nat}{L:List dj}(H:Cl w o)(h:qw w o c g p cap L)(h1:1<c)(x:db w a)(D:fY 71 7 a w.heap.size d L.length f (L.map dY)):
  ∃t,qw (a.alloc (.cells #[.slice d L.length f] 158)) t c a.heap.size d f L/\dq (a.alloc (.cells #[.slice d L.length f] 158)) t 0 g [.slice p L.length cap]/\Fm (two c) o t w (a.alloc (.cells #[.slice d L.length f] 158)):=by
 have F:¬two c 0:=by unfold two;omega
 have K:=x.size
 have N:=h.box.box.hi
 have v:Fm (two c) o (gH o g 0) w a:=(Fm.ext H x).free (by rw[h.box.col];omega) (by rw[h.box.col];exact .inl rfl)
 obtain⟨l,y,C,O⟩:∃l,Fm (two c) o l w a/\l g=0/\∀i,i≠g->p.map (·.block)≠some i->l i=o i:=by
  cases J:p.map (·.block)with
  |none=>exact⟨_,v,et _ _ _,fun i r _=>dS r⟩
  |some b=>
   have n:o b=c+1:=h.row.col b J;have q:b≠g:=fun e=>by rw[e,h.box.col]at n;omega
   refine⟨gH (gH o g 0) b 0,v.free (by rw[dS q,n];omega) (by rw[dS q,n];exact .inr rfl),?_,fun i r I=>?_⟩;·rw[dS (fun e=>q e.symm)];exact et _ _ _
   .rw[dS (fun e=>I (by rw[e])),dS r]
 have E:Fm (two c) o l w (a.alloc (.cells #[.slice d L.length f] 158)):=y.tr (Fm.ext y.cl (db.alloc a _)) F
 have z:=E.paint (b:=a.heap.size) c K (by simp)
 have B:=x.tr (db.alloc a (.cells #[.slice d L.length f] 158))
 have u:dK (a.alloc (.cells #[.slice d L.length f] 158)) 0 a.heap.size [.slice d L.length f]:=dK.new a 0 _ _ _ _ rfl (Nat.zero_le _) rfl
 have A:fY 71 7 (a.alloc (.cells #[.slice d L.length f] 158)) 0 d L.length f (L.map dY):=(D.ext (db.alloc a _)).mono (Nat.zero_le _)
 cases s:d.map (·.block)with
 |none=>
  refine⟨_,⟨⟨et _ _ _,u⟩,⟨A,fun k j=>by rw[s]at j;cases j⟩,h.max,h.ok⟩,⟨?_,h.box.box.ext B⟩,z⟩;rw[dS (by omega)];exact C
 |some m=>
  obtain⟨M,P⟩:=D.lt m s;have G:m≠a.heap.size:=by omega
  refine⟨_,⟨⟨?_,u⟩,⟨A,fun k j=>?_⟩,h.max,h.ok⟩,⟨?_,h.box.box.ext B⟩,z.paint (b:=m) (c+1) M (by simp;omega)⟩;·rw[dS (fun e=>G e.symm)];exact et _ _ _
  .rw[s]at j;cases j;exact et _ _ _
  .rw[dS (by omega),dS (by omega)];exact C
theorem Ek{w j:World}{o q:Ow}{c g l a:Nat}{f:Option Addr}{vs:List Value}{L:List dj}(h1:1<c)(z:g<w.heap.size)(y:o g=c)(B:vs.length=1)(h:qw j q c l f a L)(b:dq j q 0 g vs)(m:Fm (two c) o q w j):
  ∃r,ge (j.setCell ⟨g,0,none⟩ (.slice f L.length a)) r c g L/\Fm (two c) o r w (j.setCell ⟨g,0,none⟩ (.slice f L.length a)):=by
 have D:l≠g:=fun e=>by have:=h.box.col;rw[e,b.col]at this;omega
 have s:=m.free (b:=l) (by rw[h.box.col];omega) (by rw[h.box.col];exact .inl rfl);have t:=s.back z y (by omega) (.inl rfl) 0 (.slice f L.length a);refine⟨_,⟨f,a,⟨⟨et _ _ _,?_⟩,⟨?_,fun k A=>?_⟩,h.max,h.ok⟩⟩,t⟩
 .have:=b.box.put 0 (.slice f L.length a)
  match vs,B with
  |[v],_=>exact this
 .have k:=Fm.grown (C:=fun d=>d=0) m.cl (dP (dD j (some g)) 0 (.slice f L.length a)) (fun i n=>by cases n;rw[b.col];exact⟨by decide,rfl⟩);exact h.row.row.fr k (fun i n=>by rw[h.row.col i n];omega)
 .have p:=h.row.col k A;have u:k≠g:=fun e=>by rw[e,b.col]at p;omega
  have x:k≠l:=fun e=>by rw[e,h.box.col]at p;omega
  rw[dS u,dS x];exact p
theorem Em{w:World}{o:Ow}{c g a d:Nat}{L L' M:List dj}{q:Option Addr}{n l:Nat}(ai:Cl w o)(h:ge w o c g L)(h1:1<c)(ha:a<=L.length)(hs:fJ 7 w o q n l (M.map dY))(hM:∀e∈M,eQ e)
  (Z:d=min (L.length-a) M.length)(Y:ut ((L.drop a).take d) (M.take d)=true)(E:fw L (M.drop d)=some L')(aC:n<=1000000):
  Calls Tryz.prog 182 #[.pointer (some ⟨g,0,none⟩),.int .i64 (a:Int),.slice q n l] w fun r w'=>∃z,r=.returned (.bool true)/\ge w' z c g L'/\Fm (two c) o z w w':=by
 obtain⟨p,v,h⟩:=h;have N:=it hs.sl;have hm:=h.max;have aB:=h.row.row.sl.le;have aA:=hs.sl.le;have al:d<=L.length-a:=by rw[Z];exact Nat.min_le_left _ _
 have ab:d<=n:=by rw[Z,<-N];exact Nat.min_le_right _ _
 have U:Hid (d=min (L.length-a) n):=hI (by rw[Z,N]);have f:=hI h;have S:=hI hs;have ad:=hI Y;have ac:=hI E;have HM:=hI hM;have j:=hI h1;have HC:=hI ai;have HN:=hI N;have D:=h.box.box.c 0 _ rfl;have ar:=(h.box.ext (db.drew w)).box.c 0 _ rfl;clear h hs Y E hM h1 ai Z N;have a1:¬(L.length:Int)<(a:Int):=by omega
 have x:wrap64 ((L.length:Int)-(a:Int))=(L.length:Int)-(a:Int):=by unfold wrap64;omega
 go_enter Tryz.func182,Tryz.ntmps182;go_upto_region 3 with fail;go_cut [7] (fun s7 wx=>s7=.int .i64 (d:Int)/\wx=w)
 case first=>
  by_cases ak:L.length-a<n
  .have b1:(L.length:Int)-(a:Int)<(n:Int):=by omega
   have b2:¬(n:Int)<(L.length:Int)-(a:Int):=by omega
   have b3:(L.length:Int)-(a:Int)<=(n:Int):=by omega
   go_wp2;go_meet;exact⟨by rw[U.o,Nat.min_eq_left (by omega)];congr 1;omega,rfl⟩
  .have b1:¬(L.length:Int)-(a:Int)<(n:Int):=by omega
   by_cases Y:L.length-a=n
   .have b2:(L.length:Int)-(a:Int)=(n:Int):=by omega
    rw[b2]at x;go_wp2;go_meet;exact⟨by rw[U.o,Y,Nat.min_self],rfl⟩
   .have b2:(n:Int)<(L.length:Int)-(a:Int):=by omega
    have b3:¬(L.length:Int)-(a:Int)<=(n:Int):=by omega
    go_wp2;go_meet;exact⟨by rw[U.o,Nat.min_eq_right (by omega)],rfl⟩
 case rest=>
 obtain⟨rfl,rfl⟩:=hcut;have HG:=hI (And.intro f.o.box.box.hi f.o.box.col);have u:Hid (Fm (two c) o o wc wc.drew):=hI (Fm.drew HC.o);have au:∀w,(Instr.slice 43 (.slice p L.length v) (some (.int .i64 (a:Int))) (some (.int .i64 ((a:Int)+(d:Int)))) none).run Tryz.prog w=.ok (.slice (gI 7 p v a) d (v-a)) w:=fun w=>by have:=AZ p L.length v a (a+d) (by omega) (by omega) w;rw[show a+d-a=d by omega]at this;simpa using this
 have av:=fun w=>jA q n l d (by omega) w;have B:IntKind.i64.wrap ((a:Int)+(d:Int))=(a:Int)+(d:Int):=IntWalk.i64_in _ (by omega);obtain⟨A,O⟩:∃A,A=wc.drew:=⟨_,rfl⟩;replace f:Hid (qw A o c g p v L):=hI (by rw[O];exact f.o.ext (db.drew wc));replace S:Hid (fJ 7 A o q n l (M.map dY)):=hI (by rw[O];exact S.o.ext (db.drew wc));replace u:Hid (Fm (two c) o o wc A):=hI (by rw[O];exact u.o);clear D ar a1 x HC;have r0:=rg A (f.o.box.box.c 0 _ rfl)
 have SA:Hid (SlS 7 A (gI 7 p v a) d (v-a) (((L.drop a).take d).map dY)):=hI (by
  have:=(f.o.row.row.sl.drop a ha).take d al
  rwa[<-List.map_drop,<-List.map_take]at this)
 have SB:Hid (SlS 7 A q d l ((M.take d).map dY)):=hI (by
  have:=S.o.sl.take d ab
  rwa[<-List.map_take]at this)
 go_upto_region 4 with fail;refine eA [0,1,2,3,4,5,6,7,8,9,10,11,12,13] [] ?_;rw[<-O];clear O;repeat((first|refine dC fun K m=>?_|refine dB fun K m=>?_);go_big_quiet_op;refine m _ ?_;clear m K)
 clear r0 au av B;refine eF fun K m=>?_;go_simp;refine(xy SA.o SB.o).mono ?_;rw[ad.o];rintro e w5 ⟨rfl,x5⟩;have X:=hI x5;refine m _ _ x5 ?_;clear m K x5 SA SB;replace f:=hI (f.o.ext X.o);replace S:=hI (S.o.ext X.o);replace u:=hI (u.o.tr (Fm.ext u.o.cl X.o) (by unfold two;have:=j.o;omega));clear X;repeat((first|refine dC fun K m=>?_|refine dB fun K m=>?_);go_big_quiet_op;refine m _ ?_;clear m K)
 refine dh ?_;refine df ?_;have D:=f.o.box.box.c 0 _ rfl;have az:L.length<=1000000:=by omega
 go_wp2_with fail;refine(jz f.o.row.row.sl (kP _) az).mono ?_;rintro e T ⟨p6,c6,rfl,o6,x6⟩;go_upto_region 7 with fail;change Code.wp _ _ _ _ (T.alloc (.cells #[.slice p6 L.length c6] 158));obtain⟨o3,P,b3,y⟩:=Ej u.o.cl f.o j.o x6 o6;have W:Hid (ge (T.alloc (.cells #[.slice p6 L.length c6] 158)) o3 c T.heap.size L):=hI ⟨_,_,P⟩;have B3:=hI b3;replace S:=hI (S.o.fr y (by unfold two;have:=j.o;omega));have M3:=hI (u.o.tr y (by unfold two;have:=j.o;omega));clear P b3 y o6 x6 u f D;generalize T.alloc (.cells #[.slice p6 L.length c6] 158)=w7 at*;generalize T.heap.size=gx at*;have aw:=mX q n l d ab
 have ST:Hid (fJ 7 w7 o3 (gI 7 q l d) (n-d) (l-d) ((M.drop d).map dY)):=hI (by
  have:=S.o.drop d ab
  rwa[<-List.map_drop]at this)
 have ap:Hid ((M.drop d).length=n-d):=hI (by rw[List.length_drop,HN.o]);have aq:Hid (∀e∈M.drop d,eQ e):=hI (fun e he=>HM.o e (List.mem_of_mem_drop he));have aD:n-d<=1000000:=by omega
 go_wp2_with fail;clear aw S HM HN ad U al ab;generalize M.drop d=R at*;generalize gI 7 q l d=qt at*;generalize n-d=Q at*;generalize l-d=ct at*;go_loopw [61] (fun i wr=>∃(k:Nat) (z:Ow) (V:List dj),k<=Q/\i=.int .i64 (k:Int)/\Hid (ge wr z c gx V)/\Hid (dq wr z 0 g [.slice p L.length v])/\Hid (fw V (R.drop k)=some L')/\Hid (fJ 7 wr z qt Q ct (R.map dY))/\Hid (Fm (two c) o z wc wr)) (fun i _=>Q-(intOf i).toNat);case atStart=>exact⟨0,o3,L,by omega,rfl,W,B3,hI (by rw[List.drop_zero];exact ac.o),ST,M3⟩
 clear W ST M3 ac B3
 case round=>
  obtain⟨k,z,V,hk,rfl,LV,s,AD,S,t⟩:=hrel;by_cases ak:k<Q
  .obtain⟨b,oo,e,hp,hx,D,c1,ae,c3,c4,c5,af⟩:=iE S.o.sl k ak;have HX:=hI hx;have aj:R.drop k=e::R.drop (k+1):=by obtain⟨ax,rfl⟩:=List.getElem?_eq_some_iff.1 hx;exact List.drop_eq_getElem_cons ax
   have E:=AD.o;rw[aj]at E;obtain⟨L4,ag,ah⟩:=om E;have am:=hI ag;have an:=hI ah;clear hx E ag ah aj AD;subst hp;have ao:=hI (aq.o _ (List.mem_of_getElem? HX.o));clear HX;obtain⟨x,B,F,G,H,I,J⟩:=e;simp only at D c1 ae c3 c4 c5 af;go_upto_region 10 with fail;change Code.wp _ _ _ _ (wr.alloc (.cells (dZ ⟨x,B,F,G,H,I,J⟩) 71));clear D c1 ae c3 c4 c5 af;have C:=hI (db.alloc wr (.cells (dZ ⟨x,B,F,G,H,I,J⟩) 71));have EB:=hI (eB.new wr ⟨x,B,F,G,H,I,J⟩ 71);generalize wr.alloc (.cells (dZ ⟨x,B,F,G,H,I,J⟩) 71)=w2 at*;replace LV:=hI (LV.o.ext C.o);replace s:=hI (s.o.ext C.o);replace S:=hI (S.o.ext C.o);have C2:=hI (t.o.cl.ext C.o);replace t:=hI (t.o.tr (Fm.ext t.o.cl C.o) (by unfold two;have:=j.o;omega));clear C;generalize wr.heap.size=bb at*;obtain⟨d0,d1,d2,d3,d4,d5,d6⟩:=EB.o;simp only at d0 d1 d2 d3 d4 d5 d6;go_wp2_with fail;refine(rm (e:=⟨x,B,F,G,H,I,J⟩) C2.o LV.o j.o ao.o am.o).mono ?_;rintro r w3 ⟨o4,rfl,P,y⟩;have W:=hI P;replace S:=hI (S.o.fr y (by unfold two;have:=j.o;omega));replace s:=hI (s.o.fr y (by omega) (by unfold two;have:=j.o;omega));replace t:=hI (t.o.tr y (by unfold two;have:=j.o;omega));clear P y d0 d1 d2 d3 d4 d5 d6 EB LV C2;go_wp2;go_roundw;case rel=>exact⟨k+1,o4,L4,by omega,by go_num,W,s,an,S,t⟩
   case measure=>simp[intOf];omega
  .have ay:k=Q:=by omega
   have HL:Hid (V=L'):=hI (by
    have:=AD.o;rw[List.drop_of_length_le (by rw[ap.o];omega)]at this
    simpa [fw]using this)
   clear ay;obtain⟨px,cx,lp⟩:=LV.o;have LP:=hI lp;have d0:=lp.box.box.c 0 _ rfl;have g0:=s.o.box.c 0 _ rfl;have gf:=s.o.box.f 0;clear lp;go_wp2;go_ret;obtain⟨o5,l5,m5⟩:=Ek j.o HG.o.1 HG.o.2 rfl LP.o s.o t.o;exact⟨o5,rfl,by rw[<-HL.o];exact l5,m5⟩
end Go.Proofs.YtjhbmbbmjaabcaaGreat
