/-
  Contracts. Conditions stand at each.
-/
import Derived.Test.YtjhbmbbmjaabcaaGreatS29
set_option linter.all false
set_option maxRecDepth 8000
set_option maxHeartbeats 8000000
namespace Go.Proofs.YtjhbmbbmjaabcaaGreat
open Go Go.Sort Go.RowKit
section
def tC(k:Nat)(W:eW):Option eW:=
 match W.ns[k]? with
 |none=>none
 |some x=>
  if decide (1<=x.1.to/\x.1.to<=(W.n:Int))then
   match W.sl[x.1.to.toNat-1]? with
   |some (.up s)=>
    match nJ s (nI s x)with
    |none=>none
    |some r=>oU W x.1.to.toNat s r.2 r.1
   |_=>none
  else none
variable{w G:World} {o D:Ow} {u g:Nat} {W W':eW}
theorem yL(af:Cl w o)(h:fk w o u g W){a od lv:Int}{da:ByteArray}{k:Nat}(j:tC k W=some W'):
  Calls Tryz.prog 65 #[de u,lm 5 a (k:Int) od lv da] w fun e w'=>e=.returned (.int .i64 0)/\∃o',fk w' o' u g W'/\Fm fF o o' w w':=by
 unfold tC at j
 cases N:W.ns[k]? with
 |none=>rw[N]at j;cases j
 |some x=>
 rw[N]at j
 simp only at j
 have T:=hI N
 have n:=hI j
 have H:=hI h
 have R:=hI af
 have f5:((5:Int) !=5)=false:=rfl
 have f4:((5:Int) !=4)=true:=rfl
 have ao:=hI h.net
 clear af h j N
 go_enter Tryz.func65,Tryz.ntmps65
 go_upto_region 1 with fail
 change Code.wp _ _ _ _ (w.alloc (.cells (eX 5 a (k:Int) od lv da) 28))
 have A0:=hI (db.alloc w (.cells (eX 5 a (k:Int) od lv da) 28))
 have t:=hI (dq.loose R.o (eX 5 a (k:Int) od lv da) (nk 5 a (k:Int) od lv da) 28 rfl)
 replace H:=hI (H.o.ext A0.o)
 have L:=hI (Fm.ext (C:=fF) R.o A0.o)
 clear A0 R
 generalize w.alloc (.cells (eX 5 a (k:Int) od lv da) 28)=w1 at*
 generalize w.heap.size=sb at*
 obtain⟨y,d⟩:∃y,y=w1.drew:=⟨_,rfl⟩
 have z:Hid (db w1 y):=hI (by rw[d];exact db.drew w1)
 replace H:=hI (H.o.ext z.o)
 replace t:=hI (t.o.ext z.o)
 have aa:=rg y H.o.c33
 have ab:=rg y (t.o.box.c 2 _ rfl)
 refine eA [0,1,2,3,4,5,6,7,8,9,10,11] [] ?_
 rw[<-d]
 clear d
 repeat((first|refine dC fun K b=>?_|refine dB fun K b=>?_);go_big_quiet_op;refine b _ ?_;clear b K)
 refine eF fun K b=>?_
 go_simp
 refine(uZ H.o.net T.o).mono ?_
 rintro e w3 ⟨pb,nb,cb,rfl,ob,ag,I⟩
 have J:=hI ob
 have an:=hI ag
 have ay:Hid (∀i,pb.map (·.block)=some i->o i=0):=hI (fun i q=>(L.o.cl.ext z.o) i ((ob.lt i q).1))
 have l:=hI (H.o.ext I)
 have v:=hI (t.o.ext I)
 have U:=hI (L.o.tr (Fm.ext L.o.cl (z.o.tr I)) jU)
 refine b _ _ I ?_
 clear b K I ob ag H t L z aa ab
 repeat((first|refine dC fun K b=>?_|refine dB fun K b=>?_);go_big_quiet_op;refine b _ ?_;clear b K)
 refine dh ?_
 refine df ?_
 go_upto_region 4 with fail
 obtain⟨p,d⟩:∃p,p=w3.drew:=⟨_,rfl⟩
 have B:Hid (db w3 p):=hI (by rw[d];exact db.drew w3)
 replace l:=hI (l.o.ext B.o)
 replace v:=hI (v.o.ext B.o)
 replace J:=hI (J.o.ext B.o)
 have aa:=rg p l.o.c33
 have ab:=rg p (v.o.box.c 2 _ rfl)
 refine eA [0,1,2,3,4,5,6,7] [] ?_
 rw[<-d]
 clear d
 repeat((first|refine dC fun K b=>?_|refine dB fun K b=>?_);go_big_quiet_op;refine b _ ?_;clear b K)
 refine eF fun K b=>?_
 go_simp
 refine(Kv l.o.net T.o).mono ?_
 rintro e w5 ⟨rfl,rfl⟩
 refine b _ _ (db.rfl' _) ?_;clear b K
 repeat((first|refine dC fun K b=>?_|refine dB fun K b=>?_);go_big_quiet_op;refine b _ ?_;clear b K)
 refine dh ?_
 refine df ?_
 have M4:=hI (U.o.tr (Fm.ext U.o.cl B.o) jU)
 clear B U aa ab
 have f:=l
 have au:=v
 have O:=J
 have V:=M4
 clear l v J M4
 generalize p=w7 at*
 have d0:=au.o.box.c 0 _ rfl
 go_upto_region 8 with fail
 clear d0
 have c:=n.o
 split at c
 case isFalse=>cases c
 rename_i ah
 have S:=hI (of_decide_eq_true ah)
 obtain⟨i,q⟩:∃i:Nat,x.1.to=(i:Int):=⟨x.1.to.toNat,by have:=S.o.1;omega⟩
 have HI:=hI q
 have m:Hid (1<=i/\i<=W.n):=hI (by have:=S.o;rw[q]at this;omega)
 rw[q,Int.toNat_natCast]at c
 replace n:=hI c
 clear c ah q S
 rw[HI.o]
 cases F:W.sl[i-1]? with
 |none=>
  have:=n.o;rw[F]at this;cases this
 |some sd=>
 cases sd with
 |dn bt dv=>
  have:=n.o;rw[F]at this;cases this
 |up s=>
  have c:=n.o
  rw[F]at c
  simp only at c
  cases hr:nJ s (nI s x)with
  |none=>rw[hr]at c;cases c
  |some r=>
  rw[hr]at c
  simp only at c
  obtain⟨ms,s'⟩:=r
  unfold oU at c
  split at c
  case isFalse=>cases c
  rename_i E
  have al:=hI (of_decide_eq_true E)
  have HR:=hI hr
  have HW:=hI (Option.some.inj c)
  have ap:Hid (W.sl[i-1]? =some (.up s)):=hI F
  have am:Hid (eP x.1 x.2=true):=hI (by
   obtain⟨_,_,_,_,_,hm⟩:=ao.o
   exact hm x (List.mem_of_getElem? T.o))
  clear n c F E hr
  obtain⟨Y,d⟩:∃Y,Y=w7.drew:=⟨_,rfl⟩
  have M:Hid (db w7 Y):=hI (by rw[d];exact db.drew w7)
  replace f:=hI (f.o.ext M.o)
  replace O:=hI (O.o.ext M.o)
  have aC:=fun(qq:dN (CL [(⟨u,33,none⟩,de g)]))=>(qq.h.1:qq.w.cell? ⟨u,33,none⟩=some (de g))
  refine zx [0,1,2,3,4,5,7,6,8,9] (CL [(⟨u,33,none⟩,de g)]) (by rw[<-d];exact⟨f.o.c33,trivial⟩) (fun _=>?_)
  rw[<-d]
  clear d
  repeat((first|refine kv fun K b=>?_|refine kt fun K b=>?_);go_big_quiet_op;refine b _ ?_;clear b K)
  have X:=hI (V.o.tr (Fm.ext V.o.cl M.o) jU)
  clear M V
  refine l7 fun K b=>?_
  go_simp
  refine(eu f.o m.o ap.o).mono ?_
  rintro e w9 ⟨xx,cc,A,rfl,h1,h2,nd,cl,E,hn,rfl⟩
  have Q1:=hI h1
  have Q2:=hI h2
  have ND:=hI nd
  have ad:=hI cl
  have QI:=hI (And.intro E hn)
  clear h1 h2 nd cl E hn
  refine b (CL [(⟨u,33,none⟩,de g)]) _ _ (fun _ h=>h) ⟨f.o.c33,trivial⟩ (fun _=>?_)
  clear b K
  repeat((first|refine kv fun K b=>?_|refine kt fun K b=>?_);go_big_quiet_op;refine b _ ?_;clear b K)
  refine l7 fun K b=>?_
  go_simp
  refine(tF X.o.cl (by have:=m.o;omega) ND.o O.o.sl an.o (tv am.o) HR.o).mono ?_
  rintro e aD ⟨aA,ax,aB,az,rfl,ak,aj,Z⟩
  have P:=hI (f.o.said m.o Q1.o Q2.o ad.o QI.o.1 QI.o.2 Z aj al.o)
  have ar:=hI ak
  have ae:=hI (X.o.tr (Z.mono (tG ⟨m.o.1,by have h1:3<=W.n/\W.n<=7:=f.o.hn;have h2:=m.o.2;omega⟩)) jU)
  clear ak aj Z Q1 Q2 ND ad f X
  refine b (CL [(⟨u,33,none⟩,de g)]) _ _ (fun _ h=>h) ⟨P.o.c33,trivial⟩ (fun _=>?_)
  clear b K
  repeat((first|refine kv fun K b=>?_|refine kt fun K b=>?_);go_big_quiet_op;refine b _ ?_;clear b K)
  refine l7 fun K b=>?_
  go_simp
  refine(mw ae.o.cl P.o.net ar.o (by have:=m.o;omega)).mono ?_
  rintro e aw ⟨av,aE,rfl,ai,ac⟩
  have Q:=hI (P.o.mails ac ai)
  have aq:=hI (ae.o.tr (ac.mono oJ) jU)
  clear ai ac
  refine b (fun W=>W=aw) _ _ (fun W h=>by rw[h];exact⟨Q.o.c33,trivial⟩) rfl (fun _=>?_)
  clear b K
  refine gG ?_
  rw[show({({W with sl:=W.sl.set (i-1) (.up s')}:eW)with ns:=fd (W.ns) ms}:eW)=W' from HW.o]at Q
  go_wp2
  go_ret
  exact⟨rfl,av,Q.o,aq.o⟩
theorem yU(b:Cl w o)(H:fk w o u g W){a od lv:Int}{da:ByteArray}{k:Nat}(p:tC k W=some W'):
  Calls Tryz.prog 44 #[de u,lm 5 a (k:Int) od lv da] w fun e i=>e=.returned (.int .i64 0)/\∃h,fk i h u g W'/\Fm fF o h w i:=by have c:=fun(w:World) (b:Cl w o) (H:fk w o u g W)=>yL (a:=a) (od:=od) (lv:=lv) (da:=da) b H p;have z:((5:Int)==1)=false:=rfl;have L:((5:Int)==9)=false:=rfl;have B:((5:Int)==3)=false:=rfl;have E:((5:Int)==4)=false:=rfl;have F:((5:Int)==5)=true:=rfl;have A:((5:Int)==2)=false:=rfl;have I:((5:Int)==6)=false:=rfl;have J:((5:Int)==7)=false:=rfl;have K:((5:Int)==8)=false:=rfl;go_enter Tryz.func44,Tryz.ntmps44;go_upto_region 1 with fail;change Code.wp _ _ _ _ (w.alloc (.cells (eX 5 a (k:Int) od lv da) 28));have A0:=db.alloc w (.cells (eX 5 a (k:Int) od lv da) 28);have n:=dq.loose b (eX 5 a (k:Int) od lv da) (nk 5 a (k:Int) od lv da) 28 rfl;replace H:=H.ext A0;have d:=Fm.ext (C:=fF) b A0;have j:=c _ d.cl H;clear A0 b c;generalize w.alloc (.cells (eX 5 a (k:Int) od lv da) 28)=N at*;generalize w.heap.size=M at*;obtain⟨r,s,t,v,x,y⟩:=nx n;go_wp2_with fail;refine j.mono ?_;rintro e O ⟨rfl,q,l,f⟩;have m:=d.tr f jU;clear f;go_wp2;go_ret;exact⟨rfl,q,l,m⟩
end
section
def Al(k:Nat)(L:dU):Option dU:=(og L (tC k L.W)).bind gE
variable{w G:World} {o D:Ow} {u:Nat} {A A':my} {L L':dU}
theorem H0{a od lv:Int}{da:ByteArray}(f:Cl w o)(h:gJ w o u A L)(l:CZ L a){k:Nat}(j:Al k L=some L'):
  Calls Tryz.prog 16 #[de u,lm 5 a (k:Int) od lv da] w fun e d=>e=.returned (.int .i64 0)/\∃b A',gJ d b u A' L'/\Fm iy o b w d:=by obtain⟨p,m,g⟩:=Option.bind_eq_some_iff.1 j;obtain⟨q,n,i,rfl⟩:=il m;exact gz f h (by decide) l (.inl (by decide)) i (fun w o c r=>yU c r n) g
end
end Go.Proofs.YtjhbmbbmjaabcaaGreat
