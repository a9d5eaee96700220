/-
  Contracts. Conditions stand at each.
-/
import Derived.Maps.AppendAt
import Derived.Deep.MidRow
import Derived.Deep.CutBlock
import Derived.Deep.DeepCutAuto
import Derived.Test.YtjhbmbbmjaabcaaGreatS11
import Derived.Test.YtjhbmbbmjaabcaaGreatS12
import Derived.Test.YtjhbmbbmjaabcaaGreatS13
set_option linter.all false
set_option maxRecDepth 8000
set_option maxHeartbeats 8000000
namespace Go.Proofs.YtjhbmbbmjaabcaaGreat
open Go Go.Sort Go.RowKit
section
variable{w:World} {g:Nat}
theorem EH(g:Nat):∀(vs:List Value) (j:Nat) (w:World),w.setCells g j vs=dL w g j vs
 |[],_,_=>rfl
 |v::vs,j,w=>EH g vs (j+1) _
theorem Kc{base:Nat}{vs:List Value}(h:dK w base g vs):w.there g 0 vs.length:=fun j a=>⟨by rw[Nat.zero_add,h.c j _ (List.getElem?_eq_getElem a)];rfl,by rw[Nat.zero_add];exact h.f j⟩
theorem SlS.mv{K n cap:Nat}{p q:Option Addr}{L:List (List Value)}{a:World}(h:SlS K w q n cap L)(k:Mv w a g p)(f:q.map (·.block)≠some g)(m:∀i,p.map (·.block)=some i->q.map (·.block)≠some i):SlS K a q n cap L:=
 ⟨h.len,h.le,h.max,h.nil,h.wid,fun l=>by
  obtain⟨b,o,rfl,d⟩:=h.cells l;refine⟨b,o,rfl,fun i x s j v r=>?_⟩;have h1:=d i x s j v r;have c:=k.block b (World.block_lt_of_cell? w _ h1) (fun e=>f (by rw[e];rfl)) (fun e=>m b e rfl)
  exact(World.cell?_of_block c).trans h1⟩
structure qx where
 m:dz
 p:Option Addr
 cap:Nat
 L:List dj
abbrev Bv(x:qx):List Value:=gt x.m x.p x.L.length x.cap
structure KF (w:World) (x:qx):Prop where
 ok:lx x.m
 sl:SlS 7 w x.p x.L.length x.cap (x.L.map dY)
 en:∀e∈x.L,eQ e
def KX(g:Nat)(p q:Option Addr):Prop:=q.map (·.block)≠some g/\∀i,p.map (·.block)=some i->q.map (·.block)≠some i
def tE(d:gg):Int×List UInt8:=(d.to,d.b)
def lR(l:List (Int×List UInt8))(x:qx):List (Int×List UInt8):=if eP x.m x.L&&decide (l.length<400)then l++[(x.m.to,hY x.m x.L)]else l
def jd(l:List (Int×List UInt8))(xs:List qx):List (Int×List UInt8):=xs.foldl lR l
theorem yu{l:List (Int×List UInt8)}{xs:List qx}{k:Nat}(h:k<xs.length):jd l (xs.take (k+1))=lR (jd l (xs.take k)) xs[k]:=by unfold jd;rw[List.take_succ_eq_append_getElem h,List.foldl_append];rfl
theorem rB:(Tryz.prog.info? 76).map (·.size)=some 13:=by kernel_rfl
theorem Ik(m:dz)(p:Option Addr)(n cap:Nat):(fE m p n cap).all (·.oneCell')=true:=by simp[Value.oneCell']
theorem Mv.tr2{a b c:World}{p q:Option Addr}(h:Mv a b g p)(k:Mv b c g q)(l:∀i,q.map (·.block)=some i->p.map (·.block)=some i\/a.heap.size<=i):Mv a c g p:=
 ⟨k.os.trans h.os,k.tape.trans h.tape,k.output.trans h.output,Nat.le_trans h.size k.size,fun i f d j=>(k.block i (Nat.lt_of_lt_of_le f h.size) d (by
  intro e;rcases l i e with h1|h1;·exact j h1
  .omega)).trans (h.block i f d j)⟩
theorem jh.more{c:World}{cap f:Nat}{p j:Option Addr}{b:List gg}{d:gg}(h:jh w g p cap b)(v:b.length<400)(u:d.b.length<=5294)(r:gK w (g+1) d.q d.b.length d.cap d.b)(s:d.q.map (·.block)≠some g)(t:∀i,p.map (·.block)=some i->d.q.map (·.block)≠some i)
  (m:fY 119 2 c (g+1) j (b.length+1) f (b.map pC++[pC d]))(n:Mv w c g p)(o:dK c g g [.slice p b.length cap]):
  jh (c.setCell ⟨g,0,none⟩ (.slice j (b.length+1) f)) g j f (b++[d]):=by
 have G:=dP (dD c (some g)) 0 (.slice j (b.length+1) f);have M:=n.tr (Mv.self G p);have l:(b++[d]).length=b.length+1:=by simp
 refine⟨by rw[l];exact o.put 0 _,by rw[l,List.map_append];exact m.kept G (fun k q=>by cases q;exact fun e=>by have:=(m.lt g e).1;omega),fun e a=>?_,by omega,fun e a=>?_⟩
 .rcases List.mem_append.1 a with a|a;·exact(h.own e a).mv M (h.qne a) (h.qp a)
  .simp at a;subst a;exact r.mv M s t
 .rcases List.mem_append.1 a with a|a;·exact h.small e a
  .simp at a;subst a;exact u
def Fr(w:World)(p q:Option Addr):Prop:=∀i,q.map (·.block)=some i->p.map (·.block)=some i\/w.heap.size<=i
end
theorem py{a:World}{t:Nat}{row:Option Nat}(c:a.heap.size<=t):∀(vs:List Value) (j:Nat) (w:World),a.grownBy w row->a.grownBy (dL w t j vs) row
 |[],_,_,h=>h
 |v::vs,j,w,h=>py c vs (j+1) _ ⟨h.os,h.tape,h.output,by simpa [World.setCell]using h.size,fun i b d=>(Below.heap_setCell w ⟨t,j,none⟩ v i (by rintro rfl;exact absurd b (Nat.not_lt.2 c))).trans (h.block i b d)⟩
theorem kS{a w:World}{t:Nat}{row:Option Nat}(h:a.grownBy w row)(b:a.heap.size<=t)(vs:List Value)(j:Nat):a.grownBy (dL w t j vs) row:=py b vs j w h
def ri(me:Int)(bs:Nat->Int)(b:List UInt8):(dz×List dj)⊕Int:=
 match mE b with
 |none=> .inr 1
 |some (m,L)=>if m.to=me then(if m.bt<bs m.fr.toNat then .inr 7 else .inl (m,L))else .inr 1
def CO(w:World)(base g:Nat)(me:Int)(bs:Nat->Int)(ps:Nat->Int×Int×Bool)(R:(dz×List dj)⊕Int)(e:Ending)(a:World):Prop:=
 match R with
 | .inr c=>e=.returned (.tuple #[mK dA none 0 0,.int .i64 c])/\dK a base g (Bh me bs ps)/\w.grownBy a (some g)
 | .inl (m,L)=>∃p b,e=.returned (.tuple #[mK m p L.length b,.int .i64 0])/\fY 71 7 a w.heap.size p L.length b (L.map dY)/\(∀x∈L,eQ x)/\lx m/\dK a base g (Bh me (Gg bs m.fr.toNat m.bt) ps)/\w.grownBy a (some g)
theorem Ew{m:dz}{L:List dj}(h:eP m L=true):1<=m.fr/\m.fr<=7:=by have:=(lb m).1 (gT.1 h).1;omega
theorem DV{w:World}{base g:Nat}{me:Int}{bs:Nat->Int}{ps:Nat->Int×Int×Bool}(h:dK w base g (Bh me bs ps)){p:Option Addr}{n cap:Nat}{b:List UInt8}(hb:j' w p n cap b)(hn:n<=6000):
  Calls Tryz.prog 113 #[.pointer (some ⟨g,0,none⟩),.slice p n cap] w fun e w'=>CO w base g me bs ps (ri me bs b) e w':=by
 obtain⟨w0,ai⟩:∃w0,w0=w.alloc (.cells (fE dA none 0 0) 76):=⟨_,rfl⟩
 have D:dK w0 base g (Bh me bs ps):=by rw[ai];exact h.ext (db.alloc w _)
 have T:dK w0 w.heap.size w.heap.size (gt dA none 0 0):=by rw[ai];exact dK.new w w.heap.size (fE dA none 0 0) (gt dA none 0 0) 76 _ rfl (Nat.le_refl _) rfl
 have X:db w w0:=by rw[ai];exact db.alloc w _
 have S:=hb.ext X
 have HG:=hI h.hi
 have aj:Hid ((some w.heap.size:Option Nat)≠some g):=hI (by intro hh;injection hh with hh;have:=HG.o;omega)
 have DC:=hI (fun(w:World) (h:j' w p n cap b)=>pM h hn)
 obtain⟨R,hR⟩:∃R,R=ri me bs b:=⟨_,rfl⟩
 rw[<-hR]
 have HR:=hI hR
 clear h hb hR
 cases hd:mE b with
 |none=>
  obtain rfl:R=.inr 1:=by rw[HR.o];unfold ri;rw[hd]
  rw[hd]at DC;clear hd HR;go_enter Tryz.func113,Tryz.ntmps113;go_wp2_with fail;change Calls _ _ _ (w.alloc (.cells (fE dA none 0 0) 76)) _;rw[<-ai];clear ai;refine(DC.o _ S).mono ?_;rintro e w2 ⟨rfl,x2⟩;have A2:=x2.tr (db.alloc w2 (.cells (fE dA none 0 0) 76));clear x2;simp only[dA];go_wp2_with fail;change Code.wp _ _ _ _ (w2.alloc (.cells (fE dA none 0 0) 76));generalize w2.alloc (.cells (fE dA none 0 0) 76)=j at*;refine zx [0,1,2,3,4,5,6,7,8,9,10,11] (db j.drew) (db.rfl' _) (fun _=>?_);repeat((first|refine kv fun K d=>?_|refine kt fun K d=>?_);go_big_quiet_op;refine d _ ?_;clear d K)
  refine gG ?_;replace D:=D.ext (A2.tr (db.drew j));replace T:=T.ext (A2.tr (db.drew j));replace X:=X.tr (A2.tr (db.drew j));clear A2;generalize j.drew=f at*;have b0:=T.c 0 _ rfl;have b1:=T.c 1 _ rfl;have b2:=T.c 2 _ rfl;have b3:=T.c 3 _ rfl;have b4:=T.c 4 _ rfl;have b5:=T.c 5 _ rfl;have b6:=T.c 6 _ rfl;have b7:=T.c 7 _ rfl;have b8:=T.c 8 _ rfl;have b9:=T.c 9 _ rfl;have af:=T.c 10 _ rfl;have ag:=T.c 11 _ rfl;have ah:=T.c 12 _ rfl;try simp only at b0 b1 b2 b3 b4 b5 b6 b7 b8 b9 af ag ah
  have bf:=T.f;go_wp2;change bodyPost _ _ _ Exit.ret _ (dL f w.heap.size 0 (gt dA none 0 0));have a:=T.fill (vs:=gt dA none 0 0) (Nat.le_refl _);have FG:=kS (gY X (some g)) (Nat.le_refl _) (gt dA none 0 0) 0;have FD:=D.other (eU w.heap.size (gt dA none 0 0) 0 f f (dD _ _)) aj.o;generalize dL f w.heap.size 0 (gt dA none 0 0)=w9 at*;have r:=a.c 0 _ rfl;have l:=a.c 1 _ rfl;have o:=a.c 2 _ rfl;have z:=a.c 3 _ rfl;have A:=a.c 4 _ rfl;have B:=a.c 5 _ rfl;have C:=a.c 6 _ rfl;have E:=a.c 7 _ rfl;have H:=a.c 8 _ rfl;have I:=a.c 9 _ rfl;have s:=a.c 10 _ rfl;have t:=a.c 11 _ rfl;have u:=a.c 12 _ rfl;try simp only at r l o z A B C E H I s t u
  simp only[dA]at r l o z A B C E H I s t u;exact bodyPost_ret (v:=.tuple #[mK dA none 0 0,.int .i64 1]) (by simp[results,Tryz.results113,go_sem,r,l,o,z,A,B,C,E,H,I,s,t,u,dA]) rfl ⟨rfl,FD,FG⟩
 |some Q=>
  obtain⟨m,L⟩:=Q;have HF:=hI (Ew (AV hd).2.1);rw[hd]at DC;have ak:Hid (R=if m.to=me then(if m.bt<bs m.fr.toNat then .inr 7 else .inl (m,L))else .inr 1):=hI (by rw[HR.o];unfold ri;rw[hd]);clear hd HR;obtain⟨U,fr,i,bt,vw,V,W,po,P,Z,N,ye⟩:=m;simp only at ak HF;obtain⟨F,rfl⟩:∃F:Nat,fr=(F:Int):=⟨fr.toNat,by have:=HF.o;omega⟩;have hF:F<8:=by have:=HF.o;omega
  have FT:Hid ((F:Int).toNat=F):=hI (by omega);rw[FT.o]at ak;go_enter Tryz.func113,Tryz.ntmps113;go_wp2_with fail;change Calls _ _ _ (w.alloc (.cells (fE dA none 0 0) 76)) _;rw[<-ai];clear ai;refine(DC.o _ S).mono ?_;rintro e w2 ⟨J,k2,rfl,o2,an,ar,x2⟩;have A2:=x2.tr (db.alloc w2 (.cells (fE ⟨U,F,i,bt,vw,V,W,po,P,Z,N,ye⟩ J L.length k2) 76));have O:=(o2.ext (db.alloc w2 (.cells (fE ⟨U,F,i,bt,vw,V,W,po,P,Z,N,ye⟩ J L.length k2) 76))).mono X.size;have Y:=dK.new w2 w.heap.size (fE ⟨U,F,i,bt,vw,V,W,po,P,Z,N,ye⟩ J L.length k2) (gt ⟨U,F,i,bt,vw,V,W,po,P,Z,N,ye⟩ J L.length k2) 76 w2.heap.size rfl (Nat.le_trans X.size x2.size) rfl
  have ao:Hid (J.map (·.block)≠some w.heap.size):=hI (by
   intro hc
   have h1:=o2.lt _ hc
   have h2:=T.hi
   omega)
  have HY:Hid (g<w2.heap.size/\w.heap.size<w2.heap.size):=hI ⟨Nat.lt_of_lt_of_le D.hi x2.size,Nat.lt_of_lt_of_le T.hi x2.size⟩;have aq:=hI an;clear x2 o2 an;go_wp2_with fail;change Code.wp _ _ _ _ (w2.alloc (.cells (fE ⟨U,F,i,bt,vw,V,W,po,P,Z,N,ye⟩ J L.length k2) 76));generalize hy:w2.heap.size=y at*;generalize w2.alloc (.cells (fE ⟨U,F,i,bt,vw,V,W,po,P,Z,N,ye⟩ J L.length k2) 76)=j at*;clear hy;replace D:=D.ext (A2.tr (db.drew j));replace T:=T.ext (A2.tr (db.drew j));replace Y:=Y.ext (db.drew j);replace O:=O.ext (db.drew j);replace X:=X.tr (A2.tr (db.drew j));clear A2;have s2:=fun(q:dN (db j.drew))=>db.cell q.h (Y.c 2 _ rfl);have r0:=fun(q:dN (db j.drew))=>db.cell q.h (D.c 0 _ rfl);try simp only at s2 r0
  by_cases ht:i=me
  .subst ht;refine zx [0,1,2,3,4,5,6,7,8,9,10,11] (db j.drew) (db.rfl' _) (fun _=>?_);repeat((first|refine kv fun K d=>?_|refine kt fun K d=>?_);go_big_quiet_op;refine d _ ?_;clear d K)
   refine gG ?_;clear s2 r0;generalize j.drew=f at*;go_wp2_with fail;replace D:=D.ext (db.drew f);replace T:=T.ext (db.drew f);replace Y:=Y.ext (db.drew f);replace O:=O.ext (db.drew f);replace X:=X.tr (db.drew f);have s1:=fun(q:dN (db f.drew))=>db.cell q.h (Y.c 1 _ rfl);have s3:=fun(q:dN (db f.drew))=>db.cell q.h (Y.c 3 _ rfl);have r1:=fun(q:dN (db f.drew))=>db.cell q.h (D.c _ _ (vI (me:=i) (bs:=bs) (ps:=ps) hF));try simp only at s1 s3
   by_cases am:bt<bs F
   .obtain rfl:R=.inr 7:=by rw[ak.o,if_pos trivial,if_pos am]
    refine zx [0,1,2,3,4,5,6,7,8,9,10] (db f.drew) (db.rfl' _) (fun _=>?_);repeat((first|refine kv fun K d=>?_|refine kt fun K d=>?_);go_big_quiet_op;refine d _ ?_;clear d K)
    refine gG ?_;clear s1 s3 r1;generalize f.drew=M at*;have b0:=T.c 0 _ rfl;have b1:=T.c 1 _ rfl;have b2:=T.c 2 _ rfl;have b3:=T.c 3 _ rfl;have b4:=T.c 4 _ rfl;have b5:=T.c 5 _ rfl;have b6:=T.c 6 _ rfl;have b7:=T.c 7 _ rfl;have b8:=T.c 8 _ rfl;have b9:=T.c 9 _ rfl;have af:=T.c 10 _ rfl;have ag:=T.c 11 _ rfl;have ah:=T.c 12 _ rfl;try simp only at b0 b1 b2 b3 b4 b5 b6 b7 b8 b9 af ag ah
    have bf:=T.f;go_wp2;change bodyPost _ _ _ Exit.ret _ (dL M w.heap.size 0 (gt dA none 0 0));have a:=T.fill (vs:=gt dA none 0 0) (Nat.le_refl _);have FG:=kS (gY X (some g)) (Nat.le_refl _) (gt dA none 0 0) 0;have FD:=D.other (eU w.heap.size (gt dA none 0 0) 0 M M (dD _ _)) aj.o;generalize dL M w.heap.size 0 (gt dA none 0 0)=w9 at*;have r:=a.c 0 _ rfl;have l:=a.c 1 _ rfl;have o:=a.c 2 _ rfl;have z:=a.c 3 _ rfl;have A:=a.c 4 _ rfl;have B:=a.c 5 _ rfl;have C:=a.c 6 _ rfl;have E:=a.c 7 _ rfl;have H:=a.c 8 _ rfl;have I:=a.c 9 _ rfl;have s:=a.c 10 _ rfl;have t:=a.c 11 _ rfl;have u:=a.c 12 _ rfl;try simp only at r l o z A B C E H I s t u
    simp only[dA]at r l o z A B C E H I s t u;exact bodyPost_ret (v:=.tuple #[mK dA none 0 0,.int .i64 7]) (by simp[results,Tryz.results113,go_sem,r,l,o,z,A,B,C,E,H,I,s,t,u,dA]) rfl ⟨rfl,FD,FG⟩
   .obtain rfl:R=.inl (⟨U,F,i,bt,vw,V,W,po,P,Z,N,ye⟩,L):=by rw[ak.o,if_pos trivial,if_neg am]
    refine zx [0,1,2,3,4,5,6,7,8,9,10] (db f.drew) (db.rfl' _) (fun _=>?_);repeat((first|refine kv fun K d=>?_|refine kt fun K d=>?_);go_big_quiet_op;refine d _ ?_;clear d K)
    refine gG ?_;clear s1 s3 r1;generalize f.drew=M at*;go_wp2_with fail;replace D:=D.ext (db.drew M);replace T:=T.ext (db.drew M);replace Y:=Y.ext (db.drew M);replace O:=O.ext (db.drew M);replace X:=X.tr (db.drew M);have al:Hid ((some g:Option Nat)≠some y):=hI (by intro hh;injection hh with hh;have:=HY.o;omega);have ap:Hid ((some g:Option Nat)≠some w.heap.size):=hI (Ne.symm aj.o);have s1:=fun(q:dN (fun x=>M.drew.grownBy x (some g)))=>(Y.other q.h al.o).c 1 _ rfl;have s3:=fun(q:dN (fun x=>M.drew.grownBy x (some g)))=>(Y.other q.h al.o).c 3 _ rfl;try simp only at s1 s3
    refine zx [0,1,2,3,4,5,6,7,8] (fun x=>M.drew.grownBy x (some g)) (dD _ _) (fun _=>?_);generalize M.drew=wd at*;repeat((first|refine kv fun K d=>?_|refine kt fun K d=>?_);go_big_quiet_op;refine d _ ?_;clear d K)
    clear s1 s3;have cb:=D.c _ _ (vI (me:=i) (bs:=bs) (ps:=ps) hF);have cf:=D.f;refine l7 fun K d=>?_;go_simp;have G:=dP (dD wd (some g)) (1+F) (.int .i64 bt);have D2:dK (wd.setCell ⟨g,1+F,none⟩ (.int .i64 bt)) base g (Bh i (Gg bs F bt) ps):=by rw[<-DR hF];exact D.put _ _
    refine d _ _ _ (fun _ h=>h) G (fun _=>?_);clear d K cb cf;refine gG ?_;replace T:=T.other G ap.o;replace Y:=Y.other G al.o
    replace O:=O.kept G (fun k hk=>by
     cases hk
     intro hc
     have h1:=O.lt _ hc
     have h2:=HG.o
     omega)
    have XG:=jI (gY X (some g)) G;clear D X G;generalize wd.setCell ⟨g,1+F,none⟩ (.int .i64 bt)=w6 at*;have b0:=T.c 0 _ rfl;have b1:=T.c 1 _ rfl;have b2:=T.c 2 _ rfl;have b3:=T.c 3 _ rfl;have b4:=T.c 4 _ rfl;have b5:=T.c 5 _ rfl;have b6:=T.c 6 _ rfl;have b7:=T.c 7 _ rfl;have b8:=T.c 8 _ rfl;have b9:=T.c 9 _ rfl;have af:=T.c 10 _ rfl;have ag:=T.c 11 _ rfl;have ah:=T.c 12 _ rfl;try simp only at b0 b1 b2 b3 b4 b5 b6 b7 b8 b9 af ag ah
    have bf:=T.f;have c0:=Y.c 0 _ rfl;have c1:=Y.c 1 _ rfl;have c2:=Y.c 2 _ rfl;have c3:=Y.c 3 _ rfl;have c4:=Y.c 4 _ rfl;have c5:=Y.c 5 _ rfl;have c6:=Y.c 6 _ rfl;have c7:=Y.c 7 _ rfl;have c8:=Y.c 8 _ rfl;have c9:=Y.c 9 _ rfl;have au:=Y.c 10 _ rfl;have av:=Y.c 11 _ rfl;have aw:=Y.c 12 _ rfl;try simp only at c0 c1 c2 c3 c4 c5 c6 c7 c8 c9 au av aw
    go_wp2;change bodyPost _ _ _ Exit.ret _ (dL w6 w.heap.size 0 (gt ⟨U,F,i,bt,vw,V,W,po,P,Z,N,ye⟩ J L.length k2));have a:=T.fill (vs:=gt ⟨U,F,i,bt,vw,V,W,po,P,Z,N,ye⟩ J L.length k2) (Nat.le_refl _);have FG:=kS XG (Nat.le_refl _) (gt ⟨U,F,i,bt,vw,V,W,po,P,Z,N,ye⟩ J L.length k2) 0;have FW:=eU w.heap.size (gt ⟨U,F,i,bt,vw,V,W,po,P,Z,N,ye⟩ J L.length k2) 0 w6 w6 (dD _ _);have FD:=D2.other FW aj.o
    have FO:=O.kept FW (fun k hk=>by
     cases hk;intro hc
     exact absurd hc ao.o)
    generalize dL w6 w.heap.size 0 (gt ⟨U,F,i,bt,vw,V,W,po,P,Z,N,ye⟩ J L.length k2)=w9 at*;have r:=a.c 0 _ rfl;have l:=a.c 1 _ rfl;have o:=a.c 2 _ rfl;have z:=a.c 3 _ rfl;have A:=a.c 4 _ rfl;have B:=a.c 5 _ rfl;have C:=a.c 6 _ rfl;have E:=a.c 7 _ rfl;have H:=a.c 8 _ rfl;have I:=a.c 9 _ rfl;have s:=a.c 10 _ rfl;have t:=a.c 11 _ rfl;have u:=a.c 12 _ rfl;try simp only at r l o z A B C E H I s t u
    exact bodyPost_ret (v:=.tuple #[mK ⟨U,F,i,bt,vw,V,W,po,P,Z,N,ye⟩ J L.length k2,.int .i64 0]) (by simp[results,Tryz.results113,go_sem,r,l,o,z,A,B,C,E,H,I,s,t,u]) rfl ⟨J,k2,rfl,FO,aq.o,ar,by simp only[FT.o];exact FD,FG⟩
  .obtain rfl:R=.inr 1:=by rw[ak.o,if_neg ht]
   have l:(i==me)=false:=beq_eq_false_iff_ne.2 ht;have o:(i !=me)=true:=bne_iff_ne.2 ht;refine zx [0,1,2,3,4,5,6,7,8,9,10,11] (db j.drew) (db.rfl' _) (fun _=>?_);repeat((first|refine kv fun K d=>?_|refine kt fun K d=>?_);go_big_quiet_op;refine d _ ?_;clear d K)
   refine gG ?_;clear s2 r0;generalize j.drew=f at*;have b0:=T.c 0 _ rfl;have b1:=T.c 1 _ rfl;have b2:=T.c 2 _ rfl;have b3:=T.c 3 _ rfl;have b4:=T.c 4 _ rfl;have b5:=T.c 5 _ rfl;have b6:=T.c 6 _ rfl;have b7:=T.c 7 _ rfl;have b8:=T.c 8 _ rfl;have b9:=T.c 9 _ rfl;have af:=T.c 10 _ rfl;have ag:=T.c 11 _ rfl;have ah:=T.c 12 _ rfl;try simp only at b0 b1 b2 b3 b4 b5 b6 b7 b8 b9 af ag ah
   have bf:=T.f;go_wp2;change bodyPost _ _ _ Exit.ret _ (dL f w.heap.size 0 (gt dA none 0 0));have a:=T.fill (vs:=gt dA none 0 0) (Nat.le_refl _);have FG:=kS (gY X (some g)) (Nat.le_refl _) (gt dA none 0 0) 0;have FD:=D.other (eU w.heap.size (gt dA none 0 0) 0 f f (dD _ _)) aj.o;generalize dL f w.heap.size 0 (gt dA none 0 0)=w9 at*;have r:=a.c 0 _ rfl;have l:=a.c 1 _ rfl;have o:=a.c 2 _ rfl;have z:=a.c 3 _ rfl;have A:=a.c 4 _ rfl;have B:=a.c 5 _ rfl;have C:=a.c 6 _ rfl;have E:=a.c 7 _ rfl;have H:=a.c 8 _ rfl;have I:=a.c 9 _ rfl;have s:=a.c 10 _ rfl;have t:=a.c 11 _ rfl;have u:=a.c 12 _ rfl;try simp only at r l o z A B C E H I s t u
   simp only[dA]at r l o z A B C E H I s t u;exact bodyPost_ret (v:=.tuple #[mK dA none 0 0,.int .i64 1]) (by simp[results,Tryz.results113,go_sem,r,l,o,z,A,B,C,E,H,I,s,t,u,dA]) rfl ⟨rfl,FD,FG⟩
section
variable{w:World}
def gR(x:mz)(num cm:Int):mz:=
 if x.has=true/\num<=x.bn then x else
 match x.ask.find? (fun q=>q.1==num)with
 |some q=>{x with has:=true,bn:=q.1,bc:=q.2,cm:=cm}
 |none=>x
def CY(e:Ending):Prop:=∃b:Bool,e=.returned (.bool b)
theorem Lm{p:Option Addr}{n cap:Nat}{L:List (Int×Int)}(h:SlS 2 w p n cap (L.map qL))(k:Nat)(e:k<n):
  ∃b a q,p=some ⟨b,a,none⟩/\L[k]? =some q/\w.cell? ⟨b,a+k*2,none⟩=some (.int .i64 q.1)/\w.cell? ⟨b,a+k*2+1,none⟩=some (.int .i64 q.2):=by obtain⟨b,a,x,f,d,-,c⟩:=h.at k e;rw[List.getElem?_map]at d;obtain⟨q,g,rfl⟩:=Option.map_eq_some_iff.1 d;exact⟨b,a,q,f,g,c 0 _ rfl,c 1 _ rfl⟩
theorem EY{o:Ow}{c g:Nat}{x:mz}{num cm:Int}(Z:Cl w o)(h:sL w o c g x)(h1:1<c):
  Calls Tryz.prog 159 #[.pointer (some ⟨g,0,none⟩),.int .i64 num,.int .i64 cm] w fun e w'=>CY e/\sL w' o c g (gR x num cm)/\Fm (two c) o o w w':=by
 obtain⟨p,u,h⟩:=h;have af:x.ask.length<=9223372036854775807:=Nat.le_trans h.row.sl.le h.row.sl.max;obtain⟨n,ask,has,r,D,M⟩:=x;simp only at af;obtain⟨G,R⟩:∃G,G=gR ⟨n,ask,has,r,D,M⟩ num cm:=⟨_,rfl⟩;rw[<-R];have Q:=hI R;have H:=hI h;have z:=hI Z;have y:=hI h1;have V:=h.box.box.c 1 _ rfl;have W:=h.box.box.c 2 _ rfl;have Y:=h.box.box.c 3 _ rfl;clear h Z h1 R;simp only at V W Y;by_cases F:has=true/\num<=r;·obtain⟨rfl,E⟩:=F;have t:Hid (G=⟨n,ask,true,r,D,M⟩):=hI (by rw[Q.o];unfold gR;rw[if_pos ⟨rfl,E⟩]);go_enter Tryz.func159,Tryz.ntmps159;go_wp2;go_ret;exact⟨⟨false,rfl⟩,by rw[t.o];exact⟨p,u,H.o⟩,Fm.refl z.o⟩
 .have t:Hid (G=match ask.find? (fun q=>q.1==num)with|some q=>⟨n,ask,true,q.1,q.2,cm⟩|none=>⟨n,ask,has,r,D,M⟩):=hI (by rw[Q.o];unfold gR;rw[if_neg F])
  have ag:has=false\/(has=true/\¬num<=r):=by
   cases has;·exact .inl rfl
   .exact .inr ⟨rfl,fun E=>F ⟨rfl,E⟩⟩
  clear F Q;rcases ag with rfl|⟨rfl,E⟩
  all_goals
   go_enter Tryz.func159,Tryz.ntmps159;go_wp2_with fail;clear V W Y;go_loopw [31] (fun i wr=>∃(k:Nat),k<=ask.length/\i=.int .i64 (k:Int)/\Hid ((ask.take k).find? (fun q=>q.1==num)=none)/\Hid (db w wr)) (fun i _=>ask.length-(intOf i).toNat);case atStart=>exact⟨0,by omega,rfl,hI rfl,hI (db.rfl' _)⟩
   case round=>
    obtain⟨k,hk,rfl,A,X⟩:=hrel;by_cases ae:k<ask.length
    .obtain⟨b,oo,q,hp,hq,N,O⟩:=Lm (H.o.row.sl.ext X.o) k ae;have U:=hI hq;subst hp;clear hq;obtain⟨a,j⟩:=q;simp only at N O;go_upto_region 6 with fail;change Code.wp _ _ _ _ (wr.alloc (.cells #[.int .i64 a,.int .i64 j] 153));clear N O;have s:=hI (X.o.tr (db.alloc wr (.cells #[.int .i64 a,.int .i64 j] 153)));have S:=hI (dK.new wr 0 #[.int .i64 a,.int .i64 j] _ 153 _ rfl (Nat.zero_le _) rfl);have ah:Hid (wr.heap.size≠g):=hI (by have:=H.o.box.box.hi;have:=X.o.size;omega);generalize wr.alloc (.cells #[.int .i64 a,.int .i64 j] 153)=m at*;generalize wr.heap.size=bq at*;have N:=S.o.c 0 _ rfl;have O:=S.o.c 1 _ rfl;by_cases hn:a=num
     .subst hn
      have P:Hid (G=⟨n,ask,true,a,j,cm⟩):=hI (by
       rw[t.o]
       have:ask.find? (fun q=>q.1==a)=some (a,j):=by
        obtain⟨ai,ad⟩:=List.getElem?_eq_some_iff.1 U.o;have e:ask=ask.take k++(a,j)::ask.drop (k+1):=by rw[<-ad];simp
        rw[e,List.find?_append,A.o];simp
       rw[this])
      clear t A;have l:=hI (H.o.box.ext s.o);have RX:=hI (H.o.row.ext s.o);have CX:=hI (z.o.ext s.o);have f:=l.o.box.f;obtain⟨I,J,K,L⟩:(∃v,m.cell? ⟨g,2,none⟩=some v)/\(∃v,m.cell? ⟨g,3,none⟩=some v)/\(∃v,m.cell? ⟨g,4,none⟩=some v)/\(∃v,m.cell? ⟨g,5,none⟩=some v):=⟨⟨_,l.o.box.c 2 _ rfl⟩,⟨_,l.o.box.c 3 _ rfl⟩,⟨_,l.o.box.c 4 _ rfl⟩,⟨_,l.o.box.c 5 _ rfl⟩⟩;clear I J K L;have I:=l.o.box.c 2 _ rfl;have J:=l.o.box.c 3 _ rfl;have K:=l.o.box.c 4 _ rfl;have L:=l.o.box.c 5 _ rfl;simp only at I J K L
      have B:Hid (dq ((((m.setCell ⟨g,2,none⟩ (.bool true)).setCell ⟨g,3,none⟩ (.int .i64 a)).setCell ⟨g,4,none⟩ (.int .i64 j)).setCell ⟨g,5,none⟩ (.int .i64 cm)) o c g (EX ⟨n,ask,true,a,j,cm⟩ (some ⟨b,oo,none⟩) u)/\iC 2 ((((m.setCell ⟨g,2,none⟩ (.bool true)).setCell ⟨g,3,none⟩ (.int .i64 a)).setCell ⟨g,4,none⟩ (.int .i64 j)).setCell ⟨g,5,none⟩ (.int .i64 cm)) o (c+1) (some ⟨b,oo,none⟩) ask.length u (ask.map qL)/\Fm (two c) o o w ((((m.setCell ⟨g,2,none⟩ (.bool true)).setCell ⟨g,3,none⟩ (.int .i64 a)).setCell ⟨g,4,none⟩ (.int .i64 j)).setCell ⟨g,5,none⟩ (.int .i64 cm))):=hI (by
       have GR:=dP (dP (dP (dP (dD m (some g)) 2 (.bool true)) 3 (.int .i64 a)) 4 (.int .i64 j)) 5 (.int .i64 cm);have hr:∀k,some g=some k->o k≠1/\(fun d=>d=c) (o k):=fun k hk=>by cases hk;rw[l.o.col];exact⟨by have:=y.o;omega,rfl⟩
       have T:=Fm.grown (C:=fun d=>d=c) CX.o GR hr
       exact⟨(((l.o.put 2 _).put 3 _).put 4 _).put 5 _,RX.o.fr T (by have:=y.o;omega) (by omega),(Fm.ext z.o s.o).tr (T.mono (fun d hd=> .inl hd)) (by unfold two;have:=y.o;omega)⟩)
      go_wp2_with fail;go_region;clear N O I J K L f;generalize(((m.setCell ⟨g,2,none⟩ (.bool true)).setCell ⟨g,3,none⟩ (.int .i64 a)).setCell ⟨g,4,none⟩ (.int .i64 j)).setCell ⟨g,5,none⟩ (.int .i64 cm)=w9 at*;go_wp2;go_ret;exact⟨⟨true,rfl⟩,by rw[P.o];exact⟨_,u,B.o.1.ext (db.drew w9),B.o.2.1.ext (db.drew w9)⟩,B.o.2.2.tr (Fm.drew B.o.2.2.cl) (by unfold two;have:=y.o;omega)⟩
     .have ac:Hid ((ask.take (k+1)).find? (fun q=>q.1==num)=none):=hI (by
       rw[List.take_add_one,U.o,List.find?_append,A.o]
       simp[hn])
      go_wp2;go_roundw;case rel=>exact⟨k+1,by omega,by go_num,ac,s⟩
      case measure=>simp[intOf];omega
    .have P:Hid (G=⟨n,ask,_,r,D,M⟩):=hI (by
      rw[t.o];have h1:=A.o;rw[List.take_of_length_le (by omega)]at h1
      rw[h1])
     go_wp2;go_ret;exact⟨⟨false,rfl⟩,by rw[P.o];exact⟨p,u,H.o.ext X.o⟩,Fm.ext z.o X.o⟩
end
section
variable{C:Nat->Prop} {u w:World} {o D:Ow} {ms:List (dz×List dj)} {N G k:Nat} {p:Option Addr} {d:qx}
structure E8 where
 e0:Int
 e1:Int
 e2:Int
 e3:Int
 e4:Int
 e5:Int
 e6:Int
 e7:Int
def E8.at(x:E8):Nat->Int
 |0=>x.e0
 |1=>x.e1
 |2=>x.e2
 |3=>x.e3
 |4=>x.e4
 |5=>x.e5
 |6=>x.e6
 |7=>x.e7
 |_=>0
def E8.set(x:E8)(k:Nat)(v:Int):E8:=
 match k with
 |0=>{x with e0:=v}
 |1=>{x with e1:=v}
 |2=>{x with e2:=v}
 |3=>{x with e3:=v}
 |4=>{x with e4:=v}
 |5=>{x with e5:=v}
 |6=>{x with e6:=v}
 |7=>{x with e7:=v}
 |_=>x
def E8.all(v:Int):E8:=⟨v,v,v,v,v,v,v,v⟩
theorem E8.upd(x:E8)(a:k<8)(v:Int):Gg x.at k v=(x.set k v).at:=by funext i;rcases tB a with rfl|rfl|rfl|rfl|rfl|rfl|rfl|rfl<;>(unfold Gg E8.set E8.at;split<;>first|(subst_vars;rfl)|(split<;>first|rfl|(simp_all)))
structure kH where
 who:Int
 num:Int
 pr:Int
abbrev Jq(x:kH):List Value:=[.int .i64 x.who,.int .i64 x.num,.int .i64 x.pr]
def yZ(w:World)(o:Ow)(c:Nat)(a:Option Nat)(n:Int):Option (Int×List iq)->Prop
 |none=>a=none
 |some v=>∃g,a=some g/\sM w o c g v.1 n v.2
theorem yZ.fr{C:Nat->Prop}{w u:World}{o D:Ow}{c:Nat}{a:Option Nat}{n:Int}{v:Option (Int×List iq)}(h:yZ w o c a n v)(k:Fm C o D w u)(b:¬C 0)(h1:1<c)(f:¬C c)(i:¬C (c+1)):yZ u D c a n v:=by
 cases v with
 |none=>exact h
 |some v=>
  obtain⟨g,e,h⟩:=h;exact⟨g,e,h.fr k b h1 f i⟩
theorem yZ.ext{w u:World}{o:Ow}{c:Nat}{a:Option Nat}{n:Int}{v:Option (Int×List iq)}(h:yZ w o c a n v)(k:db w u):yZ u o c a n v:=by
 cases v with
 |none=>exact h
 |some v=>
  obtain⟨g,e,h⟩:=h;exact⟨g,e,h.ext k⟩
theorem sL.ext{c g:Nat}{x:mz}(h:sL w o c g x)(k:db w u):sL u o c g x:=by obtain⟨p,a,h⟩:=h;exact⟨p,a,h.ext k⟩
def CW(w:World)(o:Ow)(c:Nat)(a:Option Nat):Option lr->Prop
 |none=>a=none
 |some q=>∃g,a=some g/\ol w o c g q
theorem CW.fr{C:Nat->Prop}{w u:World}{o D:Ow}{c:Nat}{a:Option Nat}{q:Option lr}(h:CW w o c a q)(k:Fm C o D w u)(h1:1<c)(b:¬C c):CW u D c a q:=by
 cases q with
 |none=>exact h
 |some q=>
  obtain⟨g,e,h⟩:=h;exact⟨g,e,h.fr k h1 b⟩
theorem CW.ext{w u:World}{o:Ow}{c:Nat}{a:Option Nat}{q:Option lr}(h:CW w o c a q)(k:db w u):CW u o c a q:=by
 cases q with
 |none=>exact h
 |some q=>
  obtain⟨g,e,h⟩:=h;exact⟨g,e,h.ext k⟩
structure xe (w:World) (o:Ow) (d:qx):Prop where
 ok:lx d.m
 sl:fJ 7 w o d.p d.L.length d.cap (d.L.map dY)
 en:∀e∈d.L,eQ e
def Bq(d:qx):dz×List dj:=(d.m,d.L)
def jV(w:World)(o:Ow)(c:Nat)(p:Option Addr)(cap:Nat)(ms:List (dz×List dj)):Prop:=
 ∃a:List qx,a.map Bq=ms/\dQ 76 13 w o c p a.length cap (a.map Bv)/\∀d∈a,xe w o d
theorem xe.fr(h:xe w o d)(k:Fm C o D w u)(a:¬C 0):xe u D d:=⟨h.ok,h.sl.fr k a,h.en⟩
theorem xe.ext(h:xe w o d)(k:db w u):xe u o d:=⟨h.ok,h.sl.ext k,h.en⟩
theorem jV.fr{c cap:Nat}(h:jV w o c p cap ms)(k:Fm C o D w u)(f:¬C 0)(h1:1<c)(g:¬C c):jV u D c p cap ms:=by obtain⟨b,e,r,a⟩:=h;exact⟨b,e,r.fr k (by omega) g,fun d i=>(a d i).fr k f⟩
theorem jV.ext{c cap:Nat}(h:jV w o c p cap ms)(k:db w u):jV u o c p cap ms:=by obtain⟨b,e,r,a⟩:=h;exact⟨b,e,r.ext k,fun d f=>(a d f).ext k⟩
theorem jV.none(w:World)(o:Ow)(c:Nat):jV w o c .none 0 []:=⟨[],rfl,dQ.nil _ _ _ _ _,fun d a=>by cases a⟩
structure dp where
 id:Int
 n:Int
 bt:Int
 ck:Int
 hd:Int
 bs:E8
 kn:Bool
 L:List dj
 cm:Int
 ls:Int
 mb:Int
 sq:Int
 P:List dj
 T:List iB
 tm:Nat
 f:mz
 v:Option (Int×List iq)
 dn:Int
 ag:Bool
 mi:Bool
 q:Option lr
 st:Int
 ac:Int
 er:E8
 ak:List kH
 out:List (dz×List dj)
 dv:Int
 jp:Int
 jg:Bool
structure iS where
 g:Nat
 j:Nat
 l:Nat
 p:Nat
 r:Nat
 t:Nat
 f:Nat
 v:Option Nat
 q:Option Nat
 ap:Option Addr
 ac:Nat
 op:Option Addr
 oc:Nat
def KS(a:Option Nat):Value:=.pointer (a.map fun g=>⟨g,0,none⟩)
abbrev de(g:Nat):Value:=.pointer (some ⟨g,0,none⟩)
abbrev CK(N G:Nat)(A:iS)(s:dp):List Value:=[.int .i64 s.id,.int .i64 s.n,.pointer (some ⟨N,G,none⟩),.int .i64 s.bt,.int .i64 s.ck,.int .i64 s.hd,de A.g,de A.j,.bool s.kn,de A.l,.int .i64 s.cm,.int .i64 s.ls,.int .i64 s.mb,de A.p,de A.r,de A.t,de A.f,KS A.v,.int .i64 s.dn,.bool s.ag,.bool s.mi,KS A.q,.int .i64 s.st,.int .i64 s.ac,.int .i64 s.er.e0,.int .i64 s.er.e1,.int .i64 s.er.e2,.int .i64 s.er.e3,.int .i64 s.er.e4,.int .i64 s.er.e5,.int .i64 s.er.e6,.int .i64 s.er.e7,.slice A.ap s.ak.length A.ac,.slice A.op s.out.length A.oc]
structure ew (w:World) (o:Ow) (k N G:Nat) (A:iS) (s:dp):Prop where
 dk:ni w o (k+13) N G s.bt s.dv
 gr:dq w o (k+1) A.g (Bh s.id s.bs.at zP)
 lg:ge w o (k+2) A.l s.L
 pn:sI w o (k+4) A.p s.id s.bt s.sq s.P
 rd:sU w o (k+6) A.r s.T
 tb:wV w o (k+8) A.t s.tm
 pf:sL w o (k+9) A.f s.f
 vt:yZ w o (k+11) A.v s.n s.v
 qu:CW w o (k+14) A.q s.q
 aks:dQ 200 3 w o (k+15) A.ap s.ak.length A.ac (s.ak.map Jq)
 ou:jV w o (k+16) A.op A.oc s.out
 jn:CS w o (k+17) A.j s.id s.n s.bt s.jp s.jg
theorem ew.fr{A:iS}{s:dp}(h:ew w o k N G A s)(c:32<=k)(m:Fm C o D w u)(b:¬C 0)(a:∀d,1<=d/\d<=17->¬C (k+d)):ew u D k N G A s:=
 ⟨h.dk.fr m (a 13 (by omega)),h.gr.fr m (by omega) (a 1 (by omega)),h.lg.fr m (by omega) (a 2 (by omega)) (a 3 (by omega)),h.pn.fr' m (by omega) (a 4 (by omega)) (a 5 (by omega)),h.rd.fr m (by omega) (a 6 (by omega)) (a 7 (by omega)),h.tb.fr m (by omega) (a 8 (by omega)),h.pf.fr m (by omega) (a 9 (by omega)) (a 10 (by omega)),h.vt.fr m b (by omega) (a 11 (by omega)) (a 12 (by omega)),h.qu.fr m (by omega) (a 14 (by omega)),h.aks.fr m (by omega) (a 15 (by omega)),h.ou.fr m b (by omega) (a 16 (by omega)),h.jn.fr m (by omega) (a 17 (by omega))⟩
theorem ew.ext{A:iS}{s:dp}(h:ew w o k N G A s)(x:db w u):ew u o k N G A s:=
 ⟨h.dk.ext x,h.gr.ext x,h.lg.ext x,h.pn.ext x,h.rd.ext x,h.tb.ext x,h.pf.ext x,h.vt.ext x,h.qu.ext x,h.aks.ext x,h.ou.ext x,h.jn.ext x⟩
theorem ew.set_dk{A:iS}{s:dp}{b:Int}(h:ew w o k N G A s)(c:32<=k)(x:ni u D (k+13) N G s.bt b)(m:Fm C o D w u)(a:∀d,C d->d=k+13\/(k+18<=d/\d<=k+20)):ew u D k N G A {s with dv:=b}:=
 ⟨x,h.gr.fr m (by omega) (fun e=>by have:=a _ e;omega),h.lg.fr m (by omega) (fun e=>by have:=a _ e;omega) (fun e=>by have:=a _ e;omega),h.pn.fr' m (by omega) (fun e=>by have:=a _ e;omega) (fun e=>by have:=a _ e;omega),h.rd.fr m (by omega) (fun e=>by have:=a _ e;omega) (fun e=>by have:=a _ e;omega),h.tb.fr m (by omega) (fun e=>by have:=a _ e;omega),h.pf.fr m (by omega) (fun e=>by have:=a _ e;omega) (fun e=>by have:=a _ e;omega),h.vt.fr m (fun e=>by have:=a _ e;omega) (by omega) (fun e=>by have:=a _ e;omega) (fun e=>by have:=a _ e;omega),h.qu.fr m (by omega) (fun e=>by have:=a _ e;omega),h.aks.fr m (by omega) (fun e=>by have:=a _ e;omega),h.ou.fr m (fun e=>by have:=a _ e;omega) (by omega) (fun e=>by have:=a _ e;omega),h.jn.fr m (by omega) (fun e=>by have:=a _ e;omega)⟩
theorem ew.set_gr{A:iS}{s:dp}{xbs:E8}(h:ew w o k N G A s)(b:32<=k)(x:dq u D (k+1) A.g (Bh s.id xbs.at zP))(m:Fm C o D w u)(a:∀d,C d->d=k+1\/(k+18<=d/\d<=k+20)):ew u D k N G A {s with bs:=xbs}:=
 ⟨h.dk.fr m (fun e=>by have:=a _ e;omega),x,h.lg.fr m (by omega) (fun e=>by have:=a _ e;omega) (fun e=>by have:=a _ e;omega),h.pn.fr' m (by omega) (fun e=>by have:=a _ e;omega) (fun e=>by have:=a _ e;omega),h.rd.fr m (by omega) (fun e=>by have:=a _ e;omega) (fun e=>by have:=a _ e;omega),h.tb.fr m (by omega) (fun e=>by have:=a _ e;omega),h.pf.fr m (by omega) (fun e=>by have:=a _ e;omega) (fun e=>by have:=a _ e;omega),h.vt.fr m (fun e=>by have:=a _ e;omega) (by omega) (fun e=>by have:=a _ e;omega) (fun e=>by have:=a _ e;omega),h.qu.fr m (by omega) (fun e=>by have:=a _ e;omega),h.aks.fr m (by omega) (fun e=>by have:=a _ e;omega),h.ou.fr m (fun e=>by have:=a _ e;omega) (by omega) (fun e=>by have:=a _ e;omega),h.jn.fr m (by omega) (fun e=>by have:=a _ e;omega)⟩
theorem ew.set_lg{A:iS}{s:dp}{b:List dj}{c:Nat}(h:ew w o k N G A s)(f:32<=k)(x:ge u D (k+2) c b)(m:Fm C o D w u)(a:∀d,C d->d=k+2\/d=k+3\/(k+18<=d/\d<=k+20)):ew u D k N G {A with l:=c} {s with L:=b}:=
 ⟨h.dk.fr m (fun e=>by have:=a _ e;omega),h.gr.fr m (by omega) (fun e=>by have:=a _ e;omega),x,h.pn.fr' m (by omega) (fun e=>by have:=a _ e;omega) (fun e=>by have:=a _ e;omega),h.rd.fr m (by omega) (fun e=>by have:=a _ e;omega) (fun e=>by have:=a _ e;omega),h.tb.fr m (by omega) (fun e=>by have:=a _ e;omega),h.pf.fr m (by omega) (fun e=>by have:=a _ e;omega) (fun e=>by have:=a _ e;omega),h.vt.fr m (fun e=>by have:=a _ e;omega) (by omega) (fun e=>by have:=a _ e;omega) (fun e=>by have:=a _ e;omega),h.qu.fr m (by omega) (fun e=>by have:=a _ e;omega),h.aks.fr m (by omega) (fun e=>by have:=a _ e;omega),h.ou.fr m (fun e=>by have:=a _ e;omega) (by omega) (fun e=>by have:=a _ e;omega),h.jn.fr m (by omega) (fun e=>by have:=a _ e;omega)⟩
theorem ew.set_pn{A:iS}{s:dp}{c:Int}{b:List dj}{f:Nat}(h:ew w o k N G A s)(g:32<=k)(x:sI u D (k+4) f s.id s.bt c b)(m:Fm C o D w u)(a:∀d,C d->d=k+4\/d=k+5\/(k+18<=d/\d<=k+20)):ew u D k N G {A with p:=f} {s with sq:=c,P:=b}:=
 ⟨h.dk.fr m (fun e=>by have:=a _ e;omega),h.gr.fr m (by omega) (fun e=>by have:=a _ e;omega),h.lg.fr m (by omega) (fun e=>by have:=a _ e;omega) (fun e=>by have:=a _ e;omega),x,h.rd.fr m (by omega) (fun e=>by have:=a _ e;omega) (fun e=>by have:=a _ e;omega),h.tb.fr m (by omega) (fun e=>by have:=a _ e;omega),h.pf.fr m (by omega) (fun e=>by have:=a _ e;omega) (fun e=>by have:=a _ e;omega),h.vt.fr m (fun e=>by have:=a _ e;omega) (by omega) (fun e=>by have:=a _ e;omega) (fun e=>by have:=a _ e;omega),h.qu.fr m (by omega) (fun e=>by have:=a _ e;omega),h.aks.fr m (by omega) (fun e=>by have:=a _ e;omega),h.ou.fr m (fun e=>by have:=a _ e;omega) (by omega) (fun e=>by have:=a _ e;omega),h.jn.fr m (by omega) (fun e=>by have:=a _ e;omega)⟩
theorem ew.set_rd{A:iS}{s:dp}{b:List iB}{c:Nat}(h:ew w o k N G A s)(f:32<=k)(x:sU u D (k+6) c b)(m:Fm C o D w u)(a:∀d,C d->d=k+6\/d=k+7\/(k+18<=d/\d<=k+20)):ew u D k N G {A with r:=c} {s with T:=b}:=
 ⟨h.dk.fr m (fun e=>by have:=a _ e;omega),h.gr.fr m (by omega) (fun e=>by have:=a _ e;omega),h.lg.fr m (by omega) (fun e=>by have:=a _ e;omega) (fun e=>by have:=a _ e;omega),h.pn.fr' m (by omega) (fun e=>by have:=a _ e;omega) (fun e=>by have:=a _ e;omega),x,h.tb.fr m (by omega) (fun e=>by have:=a _ e;omega),h.pf.fr m (by omega) (fun e=>by have:=a _ e;omega) (fun e=>by have:=a _ e;omega),h.vt.fr m (fun e=>by have:=a _ e;omega) (by omega) (fun e=>by have:=a _ e;omega) (fun e=>by have:=a _ e;omega),h.qu.fr m (by omega) (fun e=>by have:=a _ e;omega),h.aks.fr m (by omega) (fun e=>by have:=a _ e;omega),h.ou.fr m (fun e=>by have:=a _ e;omega) (by omega) (fun e=>by have:=a _ e;omega),h.jn.fr m (by omega) (fun e=>by have:=a _ e;omega)⟩
theorem ew.set_tb{A:iS}{s:dp}{b:Nat}{c:Nat}(h:ew w o k N G A s)(f:32<=k)(x:wV u D (k+8) c b)(m:Fm C o D w u)(a:∀d,C d->d=k+8\/(k+18<=d/\d<=k+20)):ew u D k N G {A with t:=c} {s with tm:=b}:=
 ⟨h.dk.fr m (fun e=>by have:=a _ e;omega),h.gr.fr m (by omega) (fun e=>by have:=a _ e;omega),h.lg.fr m (by omega) (fun e=>by have:=a _ e;omega) (fun e=>by have:=a _ e;omega),h.pn.fr' m (by omega) (fun e=>by have:=a _ e;omega) (fun e=>by have:=a _ e;omega),h.rd.fr m (by omega) (fun e=>by have:=a _ e;omega) (fun e=>by have:=a _ e;omega),x,h.pf.fr m (by omega) (fun e=>by have:=a _ e;omega) (fun e=>by have:=a _ e;omega),h.vt.fr m (fun e=>by have:=a _ e;omega) (by omega) (fun e=>by have:=a _ e;omega) (fun e=>by have:=a _ e;omega),h.qu.fr m (by omega) (fun e=>by have:=a _ e;omega),h.aks.fr m (by omega) (fun e=>by have:=a _ e;omega),h.ou.fr m (fun e=>by have:=a _ e;omega) (by omega) (fun e=>by have:=a _ e;omega),h.jn.fr m (by omega) (fun e=>by have:=a _ e;omega)⟩
theorem ew.set_pf{A:iS}{s:dp}{b:mz}{c:Nat}(h:ew w o k N G A s)(g:32<=k)(x:sL u D (k+9) c b)(m:Fm C o D w u)(a:∀d,C d->d=k+9\/d=k+10\/(k+18<=d/\d<=k+20)):ew u D k N G {A with f:=c} {s with f:=b}:=
 ⟨h.dk.fr m (fun e=>by have:=a _ e;omega),h.gr.fr m (by omega) (fun e=>by have:=a _ e;omega),h.lg.fr m (by omega) (fun e=>by have:=a _ e;omega) (fun e=>by have:=a _ e;omega),h.pn.fr' m (by omega) (fun e=>by have:=a _ e;omega) (fun e=>by have:=a _ e;omega),h.rd.fr m (by omega) (fun e=>by have:=a _ e;omega) (fun e=>by have:=a _ e;omega),h.tb.fr m (by omega) (fun e=>by have:=a _ e;omega),x,h.vt.fr m (fun e=>by have:=a _ e;omega) (by omega) (fun e=>by have:=a _ e;omega) (fun e=>by have:=a _ e;omega),h.qu.fr m (by omega) (fun e=>by have:=a _ e;omega),h.aks.fr m (by omega) (fun e=>by have:=a _ e;omega),h.ou.fr m (fun e=>by have:=a _ e;omega) (by omega) (fun e=>by have:=a _ e;omega),h.jn.fr m (by omega) (fun e=>by have:=a _ e;omega)⟩
theorem ew.set_vt{A:iS}{s:dp}{xv:Option (Int×List iq)}{yv:Option Nat}(h:ew w o k N G A s)(b:32<=k)(x:yZ u D (k+11) yv s.n xv)(m:Fm C o D w u)(a:∀d,C d->d=k+11\/d=k+12\/(k+18<=d/\d<=k+20)):ew u D k N G {A with v:=yv} {s with v:=xv}:=
 ⟨h.dk.fr m (fun e=>by have:=a _ e;omega),h.gr.fr m (by omega) (fun e=>by have:=a _ e;omega),h.lg.fr m (by omega) (fun e=>by have:=a _ e;omega) (fun e=>by have:=a _ e;omega),h.pn.fr' m (by omega) (fun e=>by have:=a _ e;omega) (fun e=>by have:=a _ e;omega),h.rd.fr m (by omega) (fun e=>by have:=a _ e;omega) (fun e=>by have:=a _ e;omega),h.tb.fr m (by omega) (fun e=>by have:=a _ e;omega),h.pf.fr m (by omega) (fun e=>by have:=a _ e;omega) (fun e=>by have:=a _ e;omega),x,h.qu.fr m (by omega) (fun e=>by have:=a _ e;omega),h.aks.fr m (by omega) (fun e=>by have:=a _ e;omega),h.ou.fr m (fun e=>by have:=a _ e;omega) (by omega) (fun e=>by have:=a _ e;omega),h.jn.fr m (by omega) (fun e=>by have:=a _ e;omega)⟩
theorem ew.set_qu{A:iS}{s:dp}{b:Option lr}{c:Option Nat}(h:ew w o k N G A s)(f:32<=k)(x:CW u D (k+14) c b)(m:Fm C o D w u)(a:∀d,C d->d=k+14\/(k+18<=d/\d<=k+20)):ew u D k N G {A with q:=c} {s with q:=b}:=
 ⟨h.dk.fr m (fun e=>by have:=a _ e;omega),h.gr.fr m (by omega) (fun e=>by have:=a _ e;omega),h.lg.fr m (by omega) (fun e=>by have:=a _ e;omega) (fun e=>by have:=a _ e;omega),h.pn.fr' m (by omega) (fun e=>by have:=a _ e;omega) (fun e=>by have:=a _ e;omega),h.rd.fr m (by omega) (fun e=>by have:=a _ e;omega) (fun e=>by have:=a _ e;omega),h.tb.fr m (by omega) (fun e=>by have:=a _ e;omega),h.pf.fr m (by omega) (fun e=>by have:=a _ e;omega) (fun e=>by have:=a _ e;omega),h.vt.fr m (fun e=>by have:=a _ e;omega) (by omega) (fun e=>by have:=a _ e;omega) (fun e=>by have:=a _ e;omega),x,h.aks.fr m (by omega) (fun e=>by have:=a _ e;omega),h.ou.fr m (fun e=>by have:=a _ e;omega) (by omega) (fun e=>by have:=a _ e;omega),h.jn.fr m (by omega) (fun e=>by have:=a _ e;omega)⟩
theorem ew.set_aks{A:iS}{s:dp}{b:List kH}{f:Option Addr}{c:Nat}(h:ew w o k N G A s)(g:32<=k)(x:dQ 200 3 u D (k+15) f b.length c (b.map Jq))(m:Fm C o D w u)(a:∀d,C d->d=k+15\/(k+18<=d/\d<=k+20)):ew u D k N G {A with ap:=f,ac:=c} {s with ak:=b}:=
 ⟨h.dk.fr m (fun e=>by have:=a _ e;omega),h.gr.fr m (by omega) (fun e=>by have:=a _ e;omega),h.lg.fr m (by omega) (fun e=>by have:=a _ e;omega) (fun e=>by have:=a _ e;omega),h.pn.fr' m (by omega) (fun e=>by have:=a _ e;omega) (fun e=>by have:=a _ e;omega),h.rd.fr m (by omega) (fun e=>by have:=a _ e;omega) (fun e=>by have:=a _ e;omega),h.tb.fr m (by omega) (fun e=>by have:=a _ e;omega),h.pf.fr m (by omega) (fun e=>by have:=a _ e;omega) (fun e=>by have:=a _ e;omega),h.vt.fr m (fun e=>by have:=a _ e;omega) (by omega) (fun e=>by have:=a _ e;omega) (fun e=>by have:=a _ e;omega),h.qu.fr m (by omega) (fun e=>by have:=a _ e;omega),x,h.ou.fr m (fun e=>by have:=a _ e;omega) (by omega) (fun e=>by have:=a _ e;omega),h.jn.fr m (by omega) (fun e=>by have:=a _ e;omega)⟩
theorem ew.set_ou{A:iS}{s:dp}{b:List (dz×List dj)}{f:Option Addr}{c:Nat}(h:ew w o k N G A s)(g:32<=k)(x:jV u D (k+16) f c b)(m:Fm C o D w u)(a:∀d,C d->d=k+16\/(k+18<=d/\d<=k+20)):ew u D k N G {A with op:=f,oc:=c} {s with out:=b}:=
 ⟨h.dk.fr m (fun e=>by have:=a _ e;omega),h.gr.fr m (by omega) (fun e=>by have:=a _ e;omega),h.lg.fr m (by omega) (fun e=>by have:=a _ e;omega) (fun e=>by have:=a _ e;omega),h.pn.fr' m (by omega) (fun e=>by have:=a _ e;omega) (fun e=>by have:=a _ e;omega),h.rd.fr m (by omega) (fun e=>by have:=a _ e;omega) (fun e=>by have:=a _ e;omega),h.tb.fr m (by omega) (fun e=>by have:=a _ e;omega),h.pf.fr m (by omega) (fun e=>by have:=a _ e;omega) (fun e=>by have:=a _ e;omega),h.vt.fr m (fun e=>by have:=a _ e;omega) (by omega) (fun e=>by have:=a _ e;omega) (fun e=>by have:=a _ e;omega),h.qu.fr m (by omega) (fun e=>by have:=a _ e;omega),h.aks.fr m (by omega) (fun e=>by have:=a _ e;omega),x,h.jn.fr m (by omega) (fun e=>by have:=a _ e;omega)⟩
structure CT (s:dp):Prop where
 id:1<=s.id/\s.id<=s.n
 n:3<=s.n/\s.n<=7
 bt:1<=s.bt/\s.bt<=1000
 ck:0<=s.ck/\s.ck<=1000000
 hd:0<=s.hd/\s.hd<=1000000
 cm:0<=s.cm/\s.cm<=60
 ls:0<=s.ls/\s.ls<=1000000000
 mb:gS s.mb
 sq:0<=s.sq/\s.sq<=1000000
 dn:0<=s.dn/\s.dn<=1000000000
 st:0<=s.st/\s.st<=60
 ac:gS s.ac
 er:∀i,0<=s.er.at i/\s.er.at i<=1000000
 dv:0<=s.dv/\s.dv<=1000000000
 L:∀e∈s.L,ec e=true
 P:∀e∈s.P,ec e=true
 T:s.T.length<=50000
 tm:s.tm<=100000
 ak:s.ak.length<=1000
 out:s.out.length<=1000
 f:0<=s.f.nm/\s.f.nm<=1099511626776
 bc:0<=s.f.bc/\s.f.bc<=1000000
structure di (w:World) (o:Ow) (k x N G:Nat) (A:iS) (s:dp):Prop where
 box:dq w o k x (CK N G A s)
 q:ew w o k N G A s
 ok:CT s
def eh(k:Nat)(d:Nat):Prop:=k<=d/\d<=k+20
def rD(k:Nat)(d:Nat):Prop:=k<=d/\d<=k+17
theorem di.fr{x:Nat}{A:iS}{s:dp}(h:di w o k x N G A s)(c:32<=k)(m:Fm C o D w u)(b:¬C 0)(a:∀d,C d->¬rD k d):di u D k x N G A s:=
 ⟨h.box.fr m (by omega) (fun e=>a _ e ⟨by omega,by omega⟩),h.q.fr c m b (fun d f e=>a _ e ⟨by omega,by omega⟩),h.ok⟩
theorem di.ext{x:Nat}{A:iS}{s:dp}(h:di w o k x N G A s)(e:db w u):di u o k x N G A s:=⟨h.box.ext e,h.q.ext e,h.ok⟩
theorem dw(a:32<=k):¬eh k 0:=by unfold eh;omega
end
end Go.Proofs.YtjhbmbbmjaabcaaGreat
