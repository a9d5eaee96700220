/-
  Contracts. Conditions stand at each.
-/
import Derived.Lib.AppendStr
import Derived.Deep.AppendLies
import Derived.Test.YtjhbmbbmjaabcaaGreatS1
set_option linter.all false
set_option maxRecDepth 8000
set_option maxHeartbeats 8000000
namespace Go.Proofs.YtjhbmbbmjaabcaaGreat
open Go Go.Sort Go.RowKit
section
variable{p:Option Addr} {l:List UInt8} {w:World}
theorem Hc(p:Option Addr)(n cap i j:Nat)(c:i<=j)(d:j<=cap)(w:World):
  (Instr.slice 72 (.slice p n cap) (some (.int .i64 (i:Int))) (some (.int .i64 (j:Int))) none).run Tryz.prog w=.ok (.slice (mO p cap i) (j-i) (cap-i)) w:=by
 have b:Tryz.prog.underlying 72=some (.slice 5):=Tryz.underlying72;have a:Tryz.prog.elem 72=5:=by simp[Program.elem,b]
 have h:=run_slice_lh (P:=Tryz.prog) w 72 p n cap (by rw[a];exact b) .i64 .i64 (i:Int) (j:Int) (by omega) (by omega) (by omega);rw[h,a,Kz];simp only[Result.andThen_ok,sliced,Int.toNat_natCast,Nat.mul_one,mO]
theorem wQ{w:World}{ops:Array Oper}{rest:List Oper}{o:Oper}{a:Act}{Q:Exit->Act->World->Prop}(y:o.guard=none)(s x:Operand)
  (A:o.op=.call {callee:=.builtin .append,args:=#[s,x],argTypes:=#[72,9]})
  (base:Nat)(p:Option Addr)(n cap:Nat)(l:List UInt8)(B:a.eval s=.slice p n cap)(m:gK w base p n cap l)
  (k:ByteArray)(C:a.eval x=.string k)(u:n+k.size<=140737488355328)(t:base<=w.heap.size)
  (h:∀q f b,gK b base q (n+k.size) f (l++k.data.toList)->w.grownBy b (p.map (·.block))->wpList Tryz.prog ops Q rest (a.put o.dst (.slice q (n+k.size) f)) b):wpList Tryz.prog ops Q (o::rest) a w:=by
 obtain⟨G,z,D,E,F⟩:=info_parts pz;refine Lib.wpList_append_own_string w y s x 72 9 A base 5 G Tryz.underlying72 Tryz.underlying9 z D E F _ n (l.map bv) B m.2 k C (by unfold maxLen;omega) u t ?_;intro J b c d _;have i:(l++k.data.toList).length=n+k.size:=by rw[List.length_append,m.1];simp
 have v:l.map bv++Lib.strCells k=(l++k.data.toList).map bv:=by rw[List.map_append];rfl
 rw[v]at c;rw[ea]at d;rcases c.2 with⟨e,j⟩|⟨g,H,I,e,r⟩;·subst e;have:=h none 0 b ⟨i,by rw[j]at*;exact c⟩ d;rw[j]at this;exact this
 .subst e;exact h _ _ b ⟨i,c⟩ d
theorem wh{base:Nat}{n cap:Nat}{s:ByteArray}(H:gK w base p n cap l)(A:base<=w.heap.size)(C:n<=1099511627776)(I:s.size<=1099511627776):
  Calls Tryz.prog 122 #[.slice p n cap,.string s] w fun e q=>∃o i,e=.returned (.slice o (n+(u' s.data.toList).length) i)/\gK q base o (n+(u' s.data.toList).length) i (l++u' s.data.toList)/\Below base w q:=by
 have d:s.data.toList.length=s.size:=by simp
 obtain⟨L,b⟩:∃L,L=l++u' s.data.toList:=⟨_,rfl⟩;obtain⟨N,c⟩:∃N,N=n+(u' s.data.toList).length:=⟨_,rfl⟩;rw[<-b,<-c];obtain⟨E,a⟩:∃E,E=kF (mG (s.size:Int)):=⟨_,rfl⟩;have j:L=l++E++s.data.toList:=by rw[b,u',d,a,List.append_assoc]
 have m:N=n+E.length+s.size:=by rw[c,u',List.length_append,d,a];omega
 have G:E.length<=10:=by rw[a];exact qc (pg (by omega) (by omega))
 have v:=hI j;have g:=hI m;have u:=hI a;clear b c j m a d;go_enter Tryz.func122,Tryz.ntmps122;go_wp2_with fail;refine(Ab H A C (x:=(s.size:Int)) (by omega) (by omega)).mono ?_;rw[<-u.o];rintro e J ⟨D,y,rfl,f,h⟩;have M:=h.size;go_wp2_with (at_builtin;refine wQ rfl _ _ rfl base D (n+E.length) y (l++E) rfl f s rfl (by omega) (by omega) ?_);intro F z K t r;go_wp2;go_ret;refine⟨F,z,by rw[g.o];rfl,by rw[v.o,g.o,List.append_assoc];exact t,?_⟩;exact Below.grown h r (by omega) (fun k B=>(f.lt k B).1)
theorem F'{l:List UInt8}(h:(eO l).2.2≠0):fX l=([],0,(eO l).2.2):=by unfold fX;rw[if_pos h]
theorem Co{l:List UInt8}(h:(eO l).2.2=0)(h2:(eO l).1<0\/65536<(eO l).1):fX l=([],0,1):=by unfold fX;rw[if_neg (by simpa using h),if_pos h2]
theorem Cp{l:List UInt8}(h:(eO l).2.2=0)(h2:¬((eO l).1<0\/65536<(eO l).1))(h3:((l.length-(eO l).2.1:Nat):Int)<(eO l).1):fX l=([],0,2):=by unfold fX;rw[if_neg (by simpa using h),if_neg h2,if_pos h3]
theorem I9{l:List UInt8}(h:(eO l).2.2=0)(h2:¬((eO l).1<0\/65536<(eO l).1))(h3:¬((l.length-(eO l).2.1:Nat):Int)<(eO l).1):
  fX l=((l.drop (eO l).2.1).take (eO l).1.toNat,(eO l).2.1+(eO l).1.toNat,0):=by unfold fX;rw[if_neg (by simpa using h),if_neg h2,if_neg h3]
theorem pu{n cap:Nat}(H:j' w p n cap l)(z:n<=70368744177664):
  Calls Tryz.prog 120 #[.slice p n cap] w fun e B=>e=.returned (.tuple #[.string ⟨(fX l).1.toArray⟩,.int .i64 ((fX l).2.1:Int),.int .i64 (fX l).2.2])/\w=B:=by
 have F:=H.le;have y:=H.len;have q:=nD l;have d:= @F' l;have a:= @Co l;have b:= @Cp l;have c:= @I9 l;have C:=nF H z;obtain⟨t,s⟩:∃t,t=fX l:=⟨_,rfl⟩;rw[<-s]at d a b c⊢;clear s;generalize eO l=g at*;obtain⟨h,f,E⟩:=g;simp only at q d a b c C;rcases q with⟨rfl,k1,k2,k3,k4,k5⟩|⟨rfl,rfl,x⟩
 .clear d;by_cases u:h<0;·have:=a rfl (.inl u);subst this;clear a b c;go_enter Tryz.func120,Tryz.ntmps120;go_wp2_with fail;refine C.mono ?_;rintro e i ⟨rfl,rfl⟩;go_wp2;go_ret3;exact⟨rfl,rfl⟩
  by_cases v:65536<h;·have:=a rfl (.inr v);subst this;clear a b c;go_enter Tryz.func120,Tryz.ntmps120;go_wp2_with fail;refine C.mono ?_;rintro e i ⟨rfl,rfl⟩;go_wp2;go_ret3;exact⟨rfl,rfl⟩
  have k:¬(h<0\/65536<h):=by omega
  obtain⟨m,rfl⟩:=Int.eq_ofNat_of_zero_le (show 0<=h by omega);rw[Int.toNat_natCast,y]at*;clear a;by_cases D:n-f<m;·have:=b rfl k (by omega);subst this;clear b c;go_enter Tryz.func120,Tryz.ntmps120;go_wp2_with fail;refine C.mono ?_;rintro e i ⟨rfl,rfl⟩;go_wp2;go_ret3;exact⟨rfl,rfl⟩
  .have:=c rfl k (by omega);have hcut:=Hc p n cap f (f+m) (by omega) (by omega) w;rw[Nat.add_sub_cancel_left,Int.natCast_add]at hcut;have r:=((H.drop f (by omega)).take m (by omega));have A:=yy r;clear b c r;obtain⟨j,o⟩:∃j,j=(l.drop f).take m:=⟨_,rfl⟩;rw[<-o]at this A;subst this;clear o;go_enter Tryz.func120,Tryz.ntmps120;go_wp2_with fail;refine C.mono ?_;rintro e i ⟨rfl,rfl⟩;go_wp2;go_ret3;exact⟨rfl,rfl⟩
 .have:=d (by omega);subst this;clear d a b c;rcases x with rfl|rfl;all_goals go_enter Tryz.func120,Tryz.ntmps120;go_wp2_with fail;refine C.mono ?_;rintro e i ⟨rfl,rfl⟩;go_wp2;go_ret3;exact⟨rfl,rfl⟩
end
section
def I64(a:Int):Prop:= -9223372036854775808<=a/\a<=9223372036854775807
theorem JZ{x:Int}(h:I64 x):(Lit.int .i64 x).wf=true:=WalkArith.wf_i64 h
structure dj where
 fr:Int
 bt:Int
 sq:Int
 od:Int
 lv:Int
 st:Int
 da:ByteArray
variable{p:Option Addr} {w:World} {zs:List Int} {e:dj}
def eQ(e:dj):Prop:=I64 e.fr/\I64 e.bt/\I64 e.sq/\I64 e.od/\I64 e.lv/\I64 e.st/\e.da.size<=9223372036854775807
def dY(e:dj):List Value:=[.int .i64 e.fr,.int .i64 e.bt,.int .i64 e.sq,.int .i64 e.od,.int .i64 e.lv,.int .i64 e.st,.string e.da]
abbrev dZ(e:dj):Array Value:=#[.int .i64 e.fr,.int .i64 e.bt,.int .i64 e.sq,.int .i64 e.od,.int .i64 e.lv,.int .i64 e.st,.string e.da]
abbrev jT(e:dj):Value:=.agg (dZ e)
def ig(a b x:Int):Bool:=decide (a<=x)&&decide (x<=b)
def ec(e:dj):Bool:=ig 1 7 e.fr&&(ig 1 1099511627776 e.bt&&(ig 1 1099511627776 e.sq&&(ig 0 2 e.od&&(ig 0 2 e.lv&&(ig 0 1099511627776 e.st&&decide (e.da.size<=16))))))
def dG(a b:dj):Bool:=decide (a.fr=b.fr)&&(decide (a.bt=b.bt)&&decide (a.sq=b.sq))
def Ba(a b:dj):Bool:=dG a b&&(decide (a.od=b.od)&&(decide (a.lv=b.lv)&&(decide (a.st=b.st)&&decide (a.da=b.da))))
theorem J1{n cap:Nat}(a b:Int)(H:jw .i64 w p n cap zs):
  Calls Tryz.prog 164 #[.int .i64 a,.int .i64 b,.slice p n cap] w fun e t=>e=.returned (.bool (zs.all (ig a b)))/\w=t:=by
 have B:n<=9223372036854775807:=Nat.le_trans H.le H.max;go_enter Tryz.func164,Tryz.ntmps164;go_wp2;go_loop [11] (fun i=>∃k:Nat,k<=n/\(zs.take k).all (ig a b)=true/\i=.int .i64 k) (fun i=>n-(intOf i).toNat);case atStart=>exact⟨0,by omega,rfl,rfl⟩
 case round=>
  obtain⟨k,A,l,rfl⟩:=hrel;have f:=hI l;clear l;by_cases r:k<n
  .obtain⟨u,o,x,rfl,m,z,s⟩:=H.at k r;have h:=hI m;clear m s;cases c:ig a b x
   .have d:zs.all (ig a b)=false:=by rw[List.all_eq_false];exact⟨x,List.mem_of_getElem? h.o,by rw[c];decide⟩
    have g:=hI d
    have j:x<a\/b<x:=by
     have:¬(ig a b x=true):=by rw[c];decide
     simp only[ig,Bool.and_eq_true,decide_eq_true_eq]at this;omega
    clear d c;by_cases v:x<a;·go_wp2;go_ret;exact⟨by rw[g.o];rfl,rfl⟩
    .have y:b<x:=by omega
     go_wp2;go_ret;exact⟨by rw[g.o];rfl,rfl⟩
   .have d:(zs.take (k+1)).all (ig a b)=true:=by rw[List.take_add_one,h.o,List.all_append,f.o];simp[c]
    have q:=hI d;have j:a<=x/\x<=b:=by simpa [ig]using c
    obtain⟨C,D⟩:=j;have E:¬x<a:=by omega
    have F:¬b<x:=by omega
    clear d c;go_wp2;go_round;case rel=>exact⟨k+1,by omega,q.o,by go_num⟩
    case measure=>simp[intOf];omega
  .have e:zs.take k=zs:=List.take_of_length_le (by rw[H.len];omega);rw[e]at f;clear e;go_wp2;go_ret;exact⟨by rw[f.o];rfl,rfl⟩
theorem gD{n cap:Nat}(a b:Int)(h:jw .i64 w p n cap zs):
  Calls Tryz.prog 164 #[.int .i64 a,.int .i64 b,.slice p n cap] w fun e c=>e=.returned (.bool (zs.all (ig a b)))/\db w c:=
 (J1 a b h).mono fun e c ⟨h1,h2⟩=>⟨h1,by rw[h2];exact db.rfl' _⟩
structure eB (w:World) (g:Nat) (e:dj):Prop where
 c0:w.cell? ⟨g,0,none⟩=some (.int .i64 e.fr)
 c1:w.cell? ⟨g,1,none⟩=some (.int .i64 e.bt)
 c2:w.cell? ⟨g,2,none⟩=some (.int .i64 e.sq)
 c3:w.cell? ⟨g,3,none⟩=some (.int .i64 e.od)
 c4:w.cell? ⟨g,4,none⟩=some (.int .i64 e.lv)
 c5:w.cell? ⟨g,5,none⟩=some (.int .i64 e.st)
 c6:w.cell? ⟨g,6,none⟩=some (.string e.da)
theorem eB.ext{a:World}{g:Nat}(h:eB w g e)(k:db w a):eB a g e:=
 ⟨db.cell k h.c0,db.cell k h.c1,db.cell k h.c2,db.cell k h.c3,db.cell k h.c4,db.cell k h.c5,db.cell k h.c6⟩
theorem eB.new(w:World)(e:dj)(t:TypeId):eB (w.alloc (.cells (dZ e) t)) w.heap.size e:=
 ⟨World.cell?_alloc_mark ..,World.cell?_alloc_mark ..,World.cell?_alloc_mark ..,World.cell?_alloc_mark ..,World.cell?_alloc_mark ..,World.cell?_alloc_mark ..,World.cell?_alloc_mark ..⟩
theorem jw.lit'(e:TypeId)(w:World)(g n:Nat)(a:Array Value)(zs:List Int)(c:g=w.heap.size)(d:zs.length=n)(b:a.toList=zs.map (Value.int .i64))(i:n<=1000)(f:∀x∈zs,I64 x):
  jw .i64 (w.alloc (.cells a e)) (some ⟨g,0,none⟩) n n zs:=by subst c;exact jw.lit .i64 e w n a (0,0) zs d b (by omega) (fun x h=>JZ (f x h))
theorem kY(he:eQ e):Calls Tryz.prog 121 #[jT e] w fun x w'=>x=.returned (.bool (ec e))/\db w w':=by
 obtain⟨j,k,l,m,n,q,F⟩:=e;obtain⟨U,V,W,X,Y,Z,i7⟩:=he;simp only at U V W X Y Z i7;obtain⟨B,T⟩:∃B,B=ec ⟨j,k,l,m,n,q,F⟩:=⟨_,rfl⟩;rw[<-T];have D:Hid (∀x∈[j],I64 x):=hI (by simpa using U);have M:Hid (∀x∈[k,l],I64 x):=hI (by simp;exact⟨V,W⟩);have Q:Hid (∀x∈[m,n],I64 x):=hI (by simp;exact⟨X,Y⟩);have S:Hid (∀x∈[q],I64 x):=hI (by simpa using Z);have o:B=([j].all (ig 1 7)&&([k,l].all (ig 1 1099511627776)&&([m,n].all (ig 0 2)&&([q].all (ig 0 1099511627776)&&decide (F.size<=16))))):=by rw[T];simp[ec,Bool.and_assoc]
 clear T U V W X Y Z;have E:=hI (db.alloc w (.cells (dZ ⟨j,k,l,m,n,q,F⟩) 71));have A:=hI (eB.new w ⟨j,k,l,m,n,q,F⟩ 71);cases G:[j].all (ig 1 7);·rw[G]at o;simp only[Bool.false_and]at o;subst o;have y:=hI G;clear G;go_enter Tryz.func121,Tryz.ntmps121;go_wp2_with fail;refine(gD 1 7 (jw.lit' 2 _ _ 1 #[.int .i64 j] [j] (by simp) rfl rfl (by omega) D.o)).mono ?_;rw[y.o];rintro x O ⟨rfl,a⟩;have t:=hI (E.o.tr ((db.alloc _ (.cells #[.int .i64 j] 2)).tr a));have r:=hI (A.o.ext ((db.alloc _ (.cells #[.int .i64 j] 2)).tr a));clear a;obtain⟨b,c,d,f,g,h,i⟩:=r.o;simp only at b c d f g h i;go_wp2;go_ret;exact⟨rfl,t.o⟩
 rw[G]at o;have y:=hI G;clear G;cases H:[k,l].all (ig 1 1099511627776);·rw[H]at o;simp only[Bool.true_and,Bool.false_and]at o;subst o;have C:=hI H;clear H;go_enter Tryz.func121,Tryz.ntmps121;go_wp2_with fail;refine(gD 1 7 (jw.lit' 2 _ _ 1 #[.int .i64 j] [j] (by simp) rfl rfl (by omega) D.o)).mono ?_;rw[y.o];rintro x O ⟨rfl,a⟩;have t:=hI (E.o.tr ((db.alloc _ (.cells #[.int .i64 j] 2)).tr a));have r:=hI (A.o.ext ((db.alloc _ (.cells #[.int .i64 j] 2)).tr a));clear a;obtain⟨b,c,d,f,g,h,i⟩:=r.o;simp only at b c d f g h i;go_wp2_with fail;clear b c d f g h i;refine(gD 1 1099511627776 (jw.lit' 2 _ _ 2 #[.int .i64 k,.int .i64 l] [k,l] (by simp) rfl rfl (by omega) M.o)).mono ?_;rw[C.o];rintro x R ⟨rfl,a⟩;have v:=hI (t.o.tr ((db.alloc _ (.cells #[.int .i64 k,.int .i64 l] 2)).tr a));have s:=hI (r.o.ext ((db.alloc _ (.cells #[.int .i64 k,.int .i64 l] 2)).tr a));clear a;obtain⟨b,c,d,f,g,h,i⟩:=s.o;simp only at b c d f g h i;go_wp2;go_ret;exact⟨rfl,v.o⟩
 rw[H]at o;have C:=hI H;clear H;cases I:[m,n].all (ig 0 2);·rw[I]at o;simp only[Bool.true_and,Bool.false_and]at o;subst o;have L:=hI I;clear I;go_enter Tryz.func121,Tryz.ntmps121;go_wp2_with fail;refine(gD 1 7 (jw.lit' 2 _ _ 1 #[.int .i64 j] [j] (by simp) rfl rfl (by omega) D.o)).mono ?_;rw[y.o];rintro x O ⟨rfl,a⟩;have t:=hI (E.o.tr ((db.alloc _ (.cells #[.int .i64 j] 2)).tr a));have r:=hI (A.o.ext ((db.alloc _ (.cells #[.int .i64 j] 2)).tr a));clear a;obtain⟨b,c,d,f,g,h,i⟩:=r.o;simp only at b c d f g h i;go_wp2_with fail;clear b c d f g h i;refine(gD 1 1099511627776 (jw.lit' 2 _ _ 2 #[.int .i64 k,.int .i64 l] [k,l] (by simp) rfl rfl (by omega) M.o)).mono ?_;rw[C.o];rintro x R ⟨rfl,a⟩;have v:=hI (t.o.tr ((db.alloc _ (.cells #[.int .i64 k,.int .i64 l] 2)).tr a));have s:=hI (r.o.ext ((db.alloc _ (.cells #[.int .i64 k,.int .i64 l] 2)).tr a));clear a;obtain⟨b,c,d,f,g,h,i⟩:=s.o;simp only at b c d f g h i;go_wp2_with fail;clear b c d f g h i;refine(gD 0 2 (jw.lit' 2 _ _ 2 #[.int .i64 m,.int .i64 n] [m,n] (by simp) rfl rfl (by omega) Q.o)).mono ?_;rw[L.o];rintro x w4 ⟨rfl,a⟩;have z:=hI (v.o.tr ((db.alloc _ (.cells #[.int .i64 m,.int .i64 n] 2)).tr a));have u:=hI (s.o.ext ((db.alloc _ (.cells #[.int .i64 m,.int .i64 n] 2)).tr a));clear a;obtain⟨b,c,d,f,g,h,i⟩:=u.o;simp only at b c d f g h i;go_wp2;go_ret;exact⟨rfl,z.o⟩
 rw[I]at o;have L:=hI I;clear I;cases J:[q].all (ig 0 1099511627776);·rw[J]at o;simp only[Bool.true_and,Bool.false_and]at o;subst o;have P:=hI J;clear J;go_enter Tryz.func121,Tryz.ntmps121;go_wp2_with fail;refine(gD 1 7 (jw.lit' 2 _ _ 1 #[.int .i64 j] [j] (by simp) rfl rfl (by omega) D.o)).mono ?_;rw[y.o];rintro x O ⟨rfl,a⟩;have t:=hI (E.o.tr ((db.alloc _ (.cells #[.int .i64 j] 2)).tr a));have r:=hI (A.o.ext ((db.alloc _ (.cells #[.int .i64 j] 2)).tr a));clear a;obtain⟨b,c,d,f,g,h,i⟩:=r.o;simp only at b c d f g h i;go_wp2_with fail;clear b c d f g h i;refine(gD 1 1099511627776 (jw.lit' 2 _ _ 2 #[.int .i64 k,.int .i64 l] [k,l] (by simp) rfl rfl (by omega) M.o)).mono ?_;rw[C.o];rintro x R ⟨rfl,a⟩;have v:=hI (t.o.tr ((db.alloc _ (.cells #[.int .i64 k,.int .i64 l] 2)).tr a));have s:=hI (r.o.ext ((db.alloc _ (.cells #[.int .i64 k,.int .i64 l] 2)).tr a));clear a;obtain⟨b,c,d,f,g,h,i⟩:=s.o;simp only at b c d f g h i;go_wp2_with fail;clear b c d f g h i;refine(gD 0 2 (jw.lit' 2 _ _ 2 #[.int .i64 m,.int .i64 n] [m,n] (by simp) rfl rfl (by omega) Q.o)).mono ?_;rw[L.o];rintro x w4 ⟨rfl,a⟩;have z:=hI (v.o.tr ((db.alloc _ (.cells #[.int .i64 m,.int .i64 n] 2)).tr a));have u:=hI (s.o.ext ((db.alloc _ (.cells #[.int .i64 m,.int .i64 n] 2)).tr a));clear a;obtain⟨b,c,d,f,g,h,i⟩:=u.o;simp only at b c d f g h i;go_wp2_with fail;clear b c d f g h i;refine(gD 0 1099511627776 (jw.lit' 2 _ _ 1 #[.int .i64 q] [q] (by simp) rfl rfl (by omega) S.o)).mono ?_;rw[P.o];rintro x w5 ⟨rfl,a⟩;have N:=hI (z.o.tr ((db.alloc _ (.cells #[.int .i64 q] 2)).tr a));have K:=hI (u.o.ext ((db.alloc _ (.cells #[.int .i64 q] 2)).tr a));clear a;obtain⟨b,c,d,f,g,h,i⟩:=K.o;simp only at b c d f g h i;go_wp2;go_ret;exact⟨rfl,N.o⟩
 rw[J]at o;have P:=hI J;clear J;rw[Bool.true_and,Bool.true_and,Bool.true_and,Bool.true_and]at o;by_cases hd:(F.size:Int)<=16;·rw[decide_eq_true (by omega)]at o;subst o;go_enter Tryz.func121,Tryz.ntmps121;go_wp2_with fail;refine(gD 1 7 (jw.lit' 2 _ _ 1 #[.int .i64 j] [j] (by simp) rfl rfl (by omega) D.o)).mono ?_;rw[y.o];rintro x O ⟨rfl,a⟩;have t:=hI (E.o.tr ((db.alloc _ (.cells #[.int .i64 j] 2)).tr a));have r:=hI (A.o.ext ((db.alloc _ (.cells #[.int .i64 j] 2)).tr a));clear a;obtain⟨b,c,d,f,g,h,i⟩:=r.o;simp only at b c d f g h i;go_wp2_with fail;clear b c d f g h i;refine(gD 1 1099511627776 (jw.lit' 2 _ _ 2 #[.int .i64 k,.int .i64 l] [k,l] (by simp) rfl rfl (by omega) M.o)).mono ?_;rw[C.o];rintro x R ⟨rfl,a⟩;have v:=hI (t.o.tr ((db.alloc _ (.cells #[.int .i64 k,.int .i64 l] 2)).tr a));have s:=hI (r.o.ext ((db.alloc _ (.cells #[.int .i64 k,.int .i64 l] 2)).tr a));clear a;obtain⟨b,c,d,f,g,h,i⟩:=s.o;simp only at b c d f g h i;go_wp2_with fail;clear b c d f g h i;refine(gD 0 2 (jw.lit' 2 _ _ 2 #[.int .i64 m,.int .i64 n] [m,n] (by simp) rfl rfl (by omega) Q.o)).mono ?_;rw[L.o];rintro x w4 ⟨rfl,a⟩;have z:=hI (v.o.tr ((db.alloc _ (.cells #[.int .i64 m,.int .i64 n] 2)).tr a));have u:=hI (s.o.ext ((db.alloc _ (.cells #[.int .i64 m,.int .i64 n] 2)).tr a));clear a;obtain⟨b,c,d,f,g,h,i⟩:=u.o;simp only at b c d f g h i;go_wp2_with fail;clear b c d f g h i;refine(gD 0 1099511627776 (jw.lit' 2 _ _ 1 #[.int .i64 q] [q] (by simp) rfl rfl (by omega) S.o)).mono ?_;rw[P.o];rintro x w5 ⟨rfl,a⟩;have N:=hI (z.o.tr ((db.alloc _ (.cells #[.int .i64 q] 2)).tr a));have K:=hI (u.o.ext ((db.alloc _ (.cells #[.int .i64 q] 2)).tr a));clear a;obtain⟨b,c,d,f,g,h,i⟩:=K.o;simp only at b c d f g h i;go_wp2;go_ret;exact⟨rfl,N.o⟩
 .rw[decide_eq_false (by omega)]at o;subst o;have aa:=dF ((F.size:Int)<=16) hd;go_enter Tryz.func121,Tryz.ntmps121;go_wp2_with fail;refine(gD 1 7 (jw.lit' 2 _ _ 1 #[.int .i64 j] [j] (by simp) rfl rfl (by omega) D.o)).mono ?_;rw[y.o];rintro x O ⟨rfl,a⟩;have t:=hI (E.o.tr ((db.alloc _ (.cells #[.int .i64 j] 2)).tr a));have r:=hI (A.o.ext ((db.alloc _ (.cells #[.int .i64 j] 2)).tr a));clear a;obtain⟨b,c,d,f,g,h,i⟩:=r.o;simp only at b c d f g h i;go_wp2_with fail;clear b c d f g h i;refine(gD 1 1099511627776 (jw.lit' 2 _ _ 2 #[.int .i64 k,.int .i64 l] [k,l] (by simp) rfl rfl (by omega) M.o)).mono ?_;rw[C.o];rintro x R ⟨rfl,a⟩;have v:=hI (t.o.tr ((db.alloc _ (.cells #[.int .i64 k,.int .i64 l] 2)).tr a));have s:=hI (r.o.ext ((db.alloc _ (.cells #[.int .i64 k,.int .i64 l] 2)).tr a));clear a;obtain⟨b,c,d,f,g,h,i⟩:=s.o;simp only at b c d f g h i;go_wp2_with fail;clear b c d f g h i;refine(gD 0 2 (jw.lit' 2 _ _ 2 #[.int .i64 m,.int .i64 n] [m,n] (by simp) rfl rfl (by omega) Q.o)).mono ?_;rw[L.o];rintro x w4 ⟨rfl,a⟩;have z:=hI (v.o.tr ((db.alloc _ (.cells #[.int .i64 m,.int .i64 n] 2)).tr a));have u:=hI (s.o.ext ((db.alloc _ (.cells #[.int .i64 m,.int .i64 n] 2)).tr a));clear a;obtain⟨b,c,d,f,g,h,i⟩:=u.o;simp only at b c d f g h i;go_wp2_with fail;clear b c d f g h i;refine(gD 0 1099511627776 (jw.lit' 2 _ _ 1 #[.int .i64 q] [q] (by simp) rfl rfl (by omega) S.o)).mono ?_;rw[P.o];rintro x w5 ⟨rfl,a⟩;have N:=hI (z.o.tr ((db.alloc _ (.cells #[.int .i64 q] 2)).tr a));have K:=hI (u.o.ext ((db.alloc _ (.cells #[.int .i64 q] 2)).tr a));clear a;obtain⟨b,c,d,f,g,h,i⟩:=K.o;simp only at b c d f g h i;go_wp2;go_ret;exact⟨rfl,N.o⟩
end
section
variable{w:World} {a b:dj}
theorem QZ{a b:ByteArray}(h:¬a=b):(a.toList==b.toList)=false:=by refine beq_eq_false_iff_ne.2 fun e=>h ?_;rw[ByteArray.toList_eq,ByteArray.toList_eq]at e;exact Go.WideShapes.bytes_inj e
theorem eB.new'(w:World)(e:dj)(t:TypeId)(g:Nat)(c:g=w.heap.size):eB (w.alloc (.cells (dZ e) t)) g e:=by subst c;exact eB.new w e t
theorem rS:Calls Tryz.prog 194 #[jT a,jT b] w (fun x n=>x=.returned (.bool (dG a b))/\db w n)/\Calls Tryz.prog 60 #[jT a,jT b] w fun x n=>x=.returned (.bool (dG a b))/\db w n:=by
 obtain⟨h,i,j,p,q,r,o⟩:=a;obtain⟨k,l,m,s,t,u,v⟩:=b;obtain⟨B,c⟩:∃B,B=dG ⟨h,i,j,p,q,r,o⟩ ⟨k,l,m,s,t,u,v⟩:=⟨_,rfl⟩;rw[<-c];have d:=hI ((db.alloc w (.cells (dZ ⟨h,i,j,p,q,r,o⟩) 71)).tr (db.alloc _ (.cells (dZ ⟨k,l,m,s,t,u,v⟩) 71)));unfold dG at c;simp only at c;by_cases e:h=k
 .subst e;rw[decide_eq_true rfl]at c;by_cases f:i=l
  .subst f;rw[decide_eq_true rfl]at c;by_cases g:j=m
   .subst g;rw[decide_eq_true rfl]at c;simp only[Bool.true_and]at c;subst c;constructor
    all_goals
     first|(go_at_call 194;go_enter Tryz.func194,Tryz.ntmps194)|go_enter Tryz.func60,Tryz.ntmps60
     go_wp2;go_ret;exact⟨rfl,d.o⟩
   .rw[decide_eq_false g]at c;simp only[Bool.true_and]at c;subst c;have A:(j==m)=false:=beq_eq_false_iff_ne.2 g;clear g;constructor
    all_goals
     first|(go_at_call 194;go_enter Tryz.func194,Tryz.ntmps194)|go_enter Tryz.func60,Tryz.ntmps60
     go_wp2;go_ret;exact⟨rfl,d.o⟩
  .rw[decide_eq_false f]at c;simp only[Bool.true_and,Bool.false_and]at c;subst c;have z:(i==l)=false:=beq_eq_false_iff_ne.2 f;clear f;constructor
   all_goals
    first|(go_at_call 194;go_enter Tryz.func194,Tryz.ntmps194)|go_enter Tryz.func60,Tryz.ntmps60
    go_wp2;go_ret;exact⟨rfl,d.o⟩
 .rw[decide_eq_false e]at c;simp only[Bool.false_and]at c;subst c;have y:(h==k)=false:=beq_eq_false_iff_ne.2 e;clear e;constructor
  all_goals
   first|(go_at_call 194;go_enter Tryz.func194,Tryz.ntmps194)|go_enter Tryz.func60,Tryz.ntmps60
   go_wp2;go_ret;exact⟨rfl,d.o⟩
theorem rR:Calls Tryz.prog 194 #[jT a,jT b] w fun x c=>x=.returned (.bool (dG a b))/\db w c:=rS.1
theorem ws:Calls Tryz.prog 60 #[jT a,jT b] w fun x c=>x=.returned (.bool (dG a b))/\db w c:=rS.2
theorem DB:Calls Tryz.prog 199 #[jT a,jT b] w (fun x U=>x=.returned (.bool (Ba a b))/\db w U)/\Calls Tryz.prog 61 #[jT a,jT b] w fun x U=>x=.returned (.bool (Ba a b))/\db w U:=by
 obtain⟨i,j,k,d,e,g,h⟩:=a;obtain⟨l,m,n,M,r,p,o⟩:=b;obtain⟨B,f⟩:∃B,B=Ba ⟨i,j,k,d,e,g,h⟩ ⟨l,m,n,M,r,p,o⟩:=⟨_,rfl⟩;rw[<-f];have N:=hI ((db.alloc w (.cells (dZ ⟨i,j,k,d,e,g,h⟩) 71)).tr (db.alloc _ (.cells (dZ ⟨l,m,n,M,r,p,o⟩) 71)));have q:=hI (fun w=>rS (a:=⟨i,j,k,d,e,g,h⟩) (b:=⟨l,m,n,M,r,p,o⟩) (w:=w));unfold Ba at f;simp only at f;generalize dG ⟨i,j,k,d,e,g,h⟩ ⟨l,m,n,M,r,p,o⟩=S at*;cases S
 .simp only[Bool.false_and]at f;subst f;constructor
  all_goals
   first|(go_at_call 199;go_enter Tryz.func199,Tryz.ntmps199)|go_enter Tryz.func61,Tryz.ntmps61
   go_wp2_with fail;first|(go_at_call 194;refine(q.o _).1.mono ?_)|refine(q.o _).2.mono ?_
   rintro x O ⟨rfl,c⟩;have u:=hI (N.o.tr c);have s:=(((eB.new w ⟨i,j,k,d,e,g,h⟩ 71).ext (db.alloc _ (.cells (dZ ⟨l,m,n,M,r,p,o⟩) 71))).ext c);have t:=(eB.new' (w.alloc (.cells (dZ ⟨i,j,k,d,e,g,h⟩) 71)) ⟨l,m,n,M,r,p,o⟩ 71 (w.heap.size+1) (by simp)).ext c;obtain⟨v,y,z,A,C,D,E⟩:=s;obtain⟨F,G,H,I,J,K,L⟩:=t;simp only at v y z A C D E F G H I J K L;clear c;go_wp2;go_ret;exact⟨rfl,u.o⟩
 by_cases P:d=M
 .subst P;rw[decide_eq_true rfl]at f;by_cases Q:e=r
  .subst Q;rw[decide_eq_true rfl]at f;by_cases R:g=p
   .subst R;rw[decide_eq_true rfl]at f;by_cases T:h=o
    .subst T;rw[decide_eq_true rfl]at f;simp only[Bool.true_and]at f;subst f;constructor
     all_goals
      first|(go_at_call 199;go_enter Tryz.func199,Tryz.ntmps199)|go_enter Tryz.func61,Tryz.ntmps61
      go_wp2_with fail;first|(go_at_call 194;refine(q.o _).1.mono ?_)|refine(q.o _).2.mono ?_
      rintro x O ⟨rfl,c⟩;have u:=hI (N.o.tr c);have s:=(((eB.new w ⟨i,j,k,d,e,g,h⟩ 71).ext (db.alloc _ (.cells (dZ ⟨l,m,n,d,e,g,h⟩) 71))).ext c);have t:=(eB.new' (w.alloc (.cells (dZ ⟨i,j,k,d,e,g,h⟩) 71)) ⟨l,m,n,d,e,g,h⟩ 71 (w.heap.size+1) (by simp)).ext c;obtain⟨v,y,z,A,C,D,E⟩:=s;obtain⟨F,G,H,I,J,K,L⟩:=t;simp only at v y z A C D E F G H I J K L;clear c;go_wp2;go_ret;exact⟨rfl,u.o⟩
    .rw[decide_eq_false T]at f;simp only[Bool.true_and]at f;subst f;have Y:(h.toList==o.toList)=false:=QZ T;constructor
     all_goals
      first|(go_at_call 199;go_enter Tryz.func199,Tryz.ntmps199)|go_enter Tryz.func61,Tryz.ntmps61
      go_wp2_with fail;first|(go_at_call 194;refine(q.o _).1.mono ?_)|refine(q.o _).2.mono ?_
      rintro x O ⟨rfl,c⟩;have u:=hI (N.o.tr c);have s:=(((eB.new w ⟨i,j,k,d,e,g,h⟩ 71).ext (db.alloc _ (.cells (dZ ⟨l,m,n,d,e,g,o⟩) 71))).ext c);have t:=(eB.new' (w.alloc (.cells (dZ ⟨i,j,k,d,e,g,h⟩) 71)) ⟨l,m,n,d,e,g,o⟩ 71 (w.heap.size+1) (by simp)).ext c;obtain⟨v,y,z,A,C,D,E⟩:=s;obtain⟨F,G,H,I,J,K,L⟩:=t;simp only at v y z A C D E F G H I J K L;clear c;go_wp2;go_ret;exact⟨rfl,u.o⟩
   .rw[decide_eq_false R]at f;simp only[Bool.true_and,Bool.false_and]at f;subst f;have X:(g==p)=false:=beq_eq_false_iff_ne.2 R;clear R;constructor
    all_goals
     first|(go_at_call 199;go_enter Tryz.func199,Tryz.ntmps199)|go_enter Tryz.func61,Tryz.ntmps61
     go_wp2_with fail;first|(go_at_call 194;refine(q.o _).1.mono ?_)|refine(q.o _).2.mono ?_
     rintro x O ⟨rfl,c⟩;have u:=hI (N.o.tr c);have s:=(((eB.new w ⟨i,j,k,d,e,g,h⟩ 71).ext (db.alloc _ (.cells (dZ ⟨l,m,n,d,e,p,o⟩) 71))).ext c);have t:=(eB.new' (w.alloc (.cells (dZ ⟨i,j,k,d,e,g,h⟩) 71)) ⟨l,m,n,d,e,p,o⟩ 71 (w.heap.size+1) (by simp)).ext c;obtain⟨v,y,z,A,C,D,E⟩:=s;obtain⟨F,G,H,I,J,K,L⟩:=t;simp only at v y z A C D E F G H I J K L;clear c;go_wp2;go_ret;exact⟨rfl,u.o⟩
  .rw[decide_eq_false Q]at f;simp only[Bool.true_and,Bool.false_and]at f;subst f;have W:(e==r)=false:=beq_eq_false_iff_ne.2 Q;clear Q;constructor
   all_goals
    first|(go_at_call 199;go_enter Tryz.func199,Tryz.ntmps199)|go_enter Tryz.func61,Tryz.ntmps61
    go_wp2_with fail;first|(go_at_call 194;refine(q.o _).1.mono ?_)|refine(q.o _).2.mono ?_
    rintro x O ⟨rfl,c⟩;have u:=hI (N.o.tr c);have s:=(((eB.new w ⟨i,j,k,d,e,g,h⟩ 71).ext (db.alloc _ (.cells (dZ ⟨l,m,n,d,r,p,o⟩) 71))).ext c);have t:=(eB.new' (w.alloc (.cells (dZ ⟨i,j,k,d,e,g,h⟩) 71)) ⟨l,m,n,d,r,p,o⟩ 71 (w.heap.size+1) (by simp)).ext c;obtain⟨v,y,z,A,C,D,E⟩:=s;obtain⟨F,G,H,I,J,K,L⟩:=t;simp only at v y z A C D E F G H I J K L;clear c;go_wp2;go_ret;exact⟨rfl,u.o⟩
 .rw[decide_eq_false P]at f;simp only[Bool.true_and,Bool.false_and]at f;subst f;have V:(d==M)=false:=beq_eq_false_iff_ne.2 P;clear P;constructor
  all_goals
   first|(go_at_call 199;go_enter Tryz.func199,Tryz.ntmps199)|go_enter Tryz.func61,Tryz.ntmps61
   go_wp2_with fail;first|(go_at_call 194;refine(q.o _).1.mono ?_)|refine(q.o _).2.mono ?_
   rintro x O ⟨rfl,c⟩;have u:=hI (N.o.tr c);have s:=(((eB.new w ⟨i,j,k,d,e,g,h⟩ 71).ext (db.alloc _ (.cells (dZ ⟨l,m,n,M,r,p,o⟩) 71))).ext c);have t:=(eB.new' (w.alloc (.cells (dZ ⟨i,j,k,d,e,g,h⟩) 71)) ⟨l,m,n,M,r,p,o⟩ 71 (w.heap.size+1) (by simp)).ext c;obtain⟨v,y,z,A,C,D,E⟩:=s;obtain⟨F,G,H,I,J,K,L⟩:=t;simp only at v y z A C D E F G H I J K L;clear c;go_wp2;go_ret;exact⟨rfl,u.o⟩
theorem JR:Calls Tryz.prog 199 #[jT a,jT b] w fun x c=>x=.returned (.bool (Ba a b))/\db w c:=DB.1
theorem JS:Calls Tryz.prog 61 #[jT a,jT b] w fun x c=>x=.returned (.bool (Ba a b))/\db w c:=DB.2
end
section
variable{row:Option Nat} {p:Option Addr} {w:World}
def K7(H:Nat)(row:Option Nat)(a:Option Addr):Prop:=a.map (·.block)=row\/∀k,a.map (·.block)=some k->H<=k
def Gr(w b:World)(row:Option Nat)(a:Option Addr):Prop:=w.grownBy b row/\(a.map (·.block)=row\/∀k,a.map (·.block)=some k->w.heap.size<=k)
theorem Gr.refl(w:World)(p:Option Addr):Gr w w (p.map (·.block)) p:=⟨World.grownBy.refl _ _,.inl rfl⟩
theorem Gr.step{wr d o:World}{c n:Option Addr}(h:Gr w wr row c)(a:db wr d)(g:d.grownBy o (c.map (·.block)))(l:K7 d.heap.size (c.map (·.block)) n):Gr w o row n:=by
 obtain⟨h1,h2⟩:=h;refine⟨⟨g.os.trans (a.os.trans h1.os),g.tape.trans (a.tape.trans h1.tape),g.output.trans (a.output.trans h1.output),Nat.le_trans h1.size (Nat.le_trans a.size g.size),fun i f m=>?_⟩,?_⟩
 .have j:=Nat.lt_of_lt_of_le f h1.size;refine(g.block i (Nat.lt_of_lt_of_le j a.size) ?_).trans ((a.block i j).trans (h1.block i f m));intro e;rcases h2 with h2|h2;·exact m (e.trans h2)
  .have:=h2 i e.symm;omega
 .rcases l with l|l
  .rcases h2 with h2|h2;·exact .inl (l.trans h2)
   .exact .inr fun k b=>h2 k (l ▸ b)
  .exact .inr fun k b=>Nat.le_trans h1.size (Nat.le_trans a.size (l k b))
theorem Gr.step'{wr b d:World}{a c:Option Addr}{H:Nat}(h:Gr w wr row a)(f:db wr b)(g:b.grownBy d (a.map (·.block)))(e:b.heap.size=H)(l:K7 H (a.map (·.block)) c):Gr w d row c:=
 h.step f g (by rw[e];exact l)
theorem Gr.tr{a b c:World}{q:Option Addr}(h:Gr a b row p)(k:Gr b c (p.map (·.block)) q):Gr a c row q:=h.step (db.rfl' _) k.1 (by
 rcases k.2 with k|k;·exact .inl k
 .exact .inr k)
theorem Gr.cell{b:World}(h:Gr w b row p){a:Addr}{v:Value}(c:w.cell? a=some v)(d:some a.block≠row):b.cell? a=some v:=h.1.cell c d
theorem pO{P:Program}{w:World}{ops:Array Oper}{rest:List Oper}{o:Oper}{a:Act}{Q:Exit->Act->World->Prop}(F:o.guard=none)(s x:Operand)(t:TypeId)
  (J:o.op=.call {callee:=.builtin .append,args:=#[s,x],argTypes:=#[t,t]})
  (base:Nat)(N:P.underlying t=some (.slice 5))(v:(P.info? 5).map (fun i=>(i.zero,i.size,i.bytes))=some (some (.int .u8 0),1,1))
  (p:Option Addr)(n cap:Nat)(l:List UInt8)(M:a.eval s=.slice p n cap)(C:gK w base p n cap l)
  (r:Addr)(m c:Nat)(k:List UInt8)(R:a.eval x=.slice (some r) m c)(q:j' w (some r) m c k)(I:0<m)
  (W:n+m<=140737488355328)(E:base<=w.heap.size)
  (h:∀z f e,gK e base z (n+m) f (l++k)->w.grownBy e (p.map (·.block))->K7 w.heap.size (p.map (·.block)) z->wpList P ops Q rest (a.put o.dst (.slice z (n+m) f)) e):wpList P ops Q (o::rest) a w:=by
 obtain⟨V,v,S,T,U⟩:=info_parts v;refine wpList_append_lies w F s x t J base 5 V (.int .u8 0) 1 1 N v S T U rfl (by decide) _ n (l.map bv) M C.2 r m c (k.map bv) R (by simp[q.len]) ?_ ?_ I (by unfold maxLen;omega) (by omega) E w.heap.size rfl ?_;·intro j u B;rw[List.getElem?_map]at B;obtain⟨y,D,rfl⟩:=Option.map_eq_some_iff.1 B;have X:j<k.length:=(List.getElem?_eq_some_iff.1 D).1;obtain⟨b,Z,L,G⟩:=q.cells (by have:=q.len;omega);cases L;rw[Addr.add_lit];exact G j y D
 .intro u O;obtain⟨y,_,rfl⟩:=List.mem_map.1 O;rfl
 .intro g f e K A d Y;rw[ea]at A d;refine h (some ⟨g,0,none⟩) f e ⟨by rw[List.length_append,C.1,q.len],by rw[List.map_append];exact K⟩ A ?_;rcases d with d|d;·exact .inl (by simpa using d.symm)
  .exact .inr fun k H=>by simp at H;omega
theorem Kk{base:Nat}{n cap:Nat}{l:List UInt8}{x:Int}(H:gK w base p n cap l)(Y:base<=w.heap.size)(hn:n<=1099511627776)(h1: -9223372036854775808<=x)(h2:x<=9223372036854775807):
  Calls Tryz.prog 95 #[.slice p n cap,.int .i64 x] w fun e K=>∃a B,e=.returned (.slice a (n+(kF (mG x)).length) B)/\gK K base a (n+(kF (mG x)).length) B (l++kF (mG x))/\Gr w K (p.map (·.block)) a:=by
 have aa:IntKind.u64.signed=false:=rfl;have Z:IntKind.u64.max=18446744073709551615:=rfl;have R:=H.1;have F:=pg h1 h2;have U:=qc F;obtain⟨L,f⟩:∃L,L=l++kF (mG x):=⟨_,rfl⟩;obtain⟨N,m⟩:∃N,N=n+(kF (mG x)).length:=⟨_,rfl⟩;rw[<-f,<-m];have M:=hI f;have D:L.length=N:=by rw[f,m,List.length_append,R]
 have O:=hI D;have X:N<=1099511627786:=by omega
 clear f D U m;by_cases T:x<0
 all_goals
  have y:=hI T;go_enter Tryz.func95,Tryz.ntmps95;go_wp2;go_loopw [0,5] (fun b u wr=>∃a I z G v,b=.slice a I z/\u=.int .u64 ((v:Nat):Int)/\v<18446744073709551616/\gK wr base a I z G/\G++kF v=L/\Gr w wr (p.map (·.block)) a) (fun _ u _=>(intOf u).toNat);case atStart=>refine⟨_,_,_,_,mG x,rfl,?_,F,H,M.o.symm,Gr.refl _ _⟩;first|rw[wS h1 y.o]|rw[Ax (by have:=y.o;omega)]
  case round=>
   obtain⟨J,g,A,r,v,rfl,rfl,hv,j,o,i⟩:=hrel;have t:=hI o;have S:g+(kF v).length=N:=by rw[<-O.o,<-o,List.length_append,j.1]
   have ab:=i.1.size;have hp:=ur v;clear o;by_cases q:v<128
   .go_wp2_with (at_builtin;refine pO rfl _ _ 72 rfl base Tryz.underlying72 pz J g A r rfl (j.alloc _) ⟨_,0,none⟩ 1 1 [UInt8.ofNat v] rfl (uK _ _ _ _ ?hone) (by omega) (by omega) (by simp;omega) ?_);case hone=>rw[n0];omega
    intro V P W d h k;go_wp2;go_ret;have C:g+1=N:=by rw[<-S,iu q];rfl
    have Q:r++[UInt8.ofNat v]=L:=by rw[<-t.o,iu q]
    rw[C,Q]at d;refine⟨_,_,by rw[C];rfl,d,?_⟩;exact i.step' (db.alloc _ _) h (by simp) k
   .obtain⟨c,E⟩:∃c,c=UInt8.ofNat (v%128+128):=⟨_,rfl⟩;have s:=hI E;clear E;go_wp2_with (at_builtin;refine pO rfl _ _ 72 rfl base Tryz.underlying72 pz J g A r rfl (j.alloc _) ⟨_,0,none⟩ 1 1 [c] rfl (uK _ _ _ _ ?hone) (by omega) (by omega) (by simp;omega) ?_);case hone=>rw[s.o];exact zX v
    intro V P W d h k;go_wp2;go_round
    case rel=>
     refine⟨_,_,_,_,v/128,rfl,by go_num,by omega,d,?_,?_⟩;·rw[<-t.o,lB q,List.append_assoc,s.o];rfl
     .exact i.step' (db.alloc _ _) h (by simp) k
    case measure=>simp[intOf];omega
end
end Go.Proofs.YtjhbmbbmjaabcaaGreat
