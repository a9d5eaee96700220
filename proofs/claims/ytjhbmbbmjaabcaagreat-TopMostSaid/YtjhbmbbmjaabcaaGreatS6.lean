/-
  Contracts. Conditions stand at each.
-/
import Derived.Test.YtjhbmbbmjaabcaaGreatS5
set_option linter.all false
set_option maxRecDepth 8000
set_option maxHeartbeats 8000000
namespace Go.Proofs.YtjhbmbbmjaabcaaGreat
open Go Go.Sort Go.RowKit
def Kd(m:dz)(n:Nat):Array Value:=#[.int .i64 m.kd,.int .i64 m.fr,.int .i64 m.to,.int .i64 m.bt,.int .i64 m.vw,.int .i64 m.ls,.int .i64 m.mb,.int .i64 m.po,.int .i64 m.cm,.int .i64 m.nm,.int .i64 m.ck,.int .i64 (Kw m),.int .i64 (n:Int)]
theorem vY{w:World}{m:dz}{p:Option Addr}{n cap:Nat}:
  Calls Tryz.prog 94 #[mK m p n cap] w fun e C=>e=.returned (.agg (Kd m n))/\db w C:=by
 have D:=hI ((dK.new w w.heap.size (fE m p n cap) (gt m p n cap) 76 _ rfl (Nat.le_refl _) rfl).ext (db.alloc _ (.cells #[.int .i64 0,.int .i64 0,.int .i64 0,.int .i64 0,.int .i64 0,.int .i64 0,.int .i64 0,.int .i64 0,.int .i64 0,.int .i64 0,.int .i64 0,.int .i64 0,.int .i64 0] 121)));obtain⟨x,u,to,bt,vw,y,z,B,t,A,s,a⟩:=m;have b:=D.o.c 0 _ rfl;have c:=D.o.c 1 _ rfl;have h:=D.o.c 2 _ rfl;have i:=D.o.c 3 _ rfl;have j:=D.o.c 4 _ rfl;have k:=D.o.c 5 _ rfl;have l:=D.o.c 6 _ rfl;have o:=D.o.c 7 _ rfl;have q:=D.o.c 8 _ rfl;have r:=D.o.c 9 _ rfl;have d:=D.o.c 10 _ rfl;have f:=D.o.c 11 _ rfl;have g:=D.o.c 12 _ rfl;try simp only at b c h i j k l o q r d f g
 have E:=hI (dK.new (w.alloc (.cells (fE ⟨x,u,to,bt,vw,y,z,B,t,A,s,a⟩ p n cap) 76)) w.heap.size #[.int .i64 0,.int .i64 0,.int .i64 0,.int .i64 0,.int .i64 0,.int .i64 0,.int .i64 0,.int .i64 0,.int .i64 0,.int .i64 0,.int .i64 0,.int .i64 0,.int .i64 0] _ 121 (w.heap.size+1) (by simp) (by omega) rfl);cases a;all_goals go_enter Tryz.func94,Tryz.ntmps94;go_wp2;exact bodyPost_ret (v:=.agg (Kd _ n)) (by simp[results,Tryz.results94,go_sem];rfl) rfl ⟨rfl,(db.alloc w _).tr (db.alloc _ _)⟩
theorem KL(m:dz)(n k:Nat)(a:k<13):∃x,(lJ m n)[k]? =some x/\∀w,(Instr.index 121 (.agg (Kd m n)) (.int .i64 (k:Int))).run Tryz.prog w=.ok (.int .i64 x) w:=by
 match k,a with
 |0,_=>exact⟨_,rfl,fun _=>by kernel_rfl⟩
 |1,_=>exact⟨_,rfl,fun _=>by kernel_rfl⟩
 |2,_=>exact⟨_,rfl,fun _=>by kernel_rfl⟩
 |3,_=>exact⟨_,rfl,fun _=>by kernel_rfl⟩
 |4,_=>exact⟨_,rfl,fun _=>by kernel_rfl⟩
 |5,_=>exact⟨_,rfl,fun _=>by kernel_rfl⟩
 |6,_=>exact⟨_,rfl,fun _=>by kernel_rfl⟩
 |7,_=>exact⟨_,rfl,fun _=>by kernel_rfl⟩
 |8,_=>exact⟨_,rfl,fun _=>by kernel_rfl⟩
 |9,_=>exact⟨_,rfl,fun _=>by kernel_rfl⟩
 |10,_=>exact⟨_,rfl,fun _=>by kernel_rfl⟩
 |11,_=>exact⟨_,rfl,fun _=>by kernel_rfl⟩
 |12,_=>exact⟨_,rfl,fun _=>by kernel_rfl⟩
theorem lU{w:World}{m:dz}{p:Option Addr}{n cap:Nat}{L:List dj}(OK:lx m)(h:SlS 7 w p n cap (L.map dY))(hL:∀e∈L,eQ e):
  Calls Tryz.prog 73 #[mK m p n cap] w fun e w'=>∃a g,e=.returned (.slice a (hY m L).length g)/\gK w' w.heap.size a (hY m L).length g (hY m L)/\(a=none↔eP m L=false)/\db w w':=by
 have N:=hI (it h);have Q:=hI hL;have D:=dK.new w w.heap.size (fE m p n cap) (gt m p n cap) 76 _ rfl (Nat.le_refl _) rfl;have X:=db.alloc w (.cells (fE m p n cap) 76);have S:=h.ext (db.alloc w (.cells (fE m p n cap) 76));have WS:=hI (Nat.le_refl w.heap.size);obtain⟨B,hB⟩:∃B,B=eP m L:=⟨_,rfl⟩;obtain⟨R,W⟩:∃R,R=hY m L:=⟨_,rfl⟩;rw[<-W];have j:=hI hB;have HR:=hI W;clear h hL hB W;have s:=D.c 0 _ rfl;have t:=D.c 1 _ rfl;have A:=D.c 2 _ rfl;have C:=D.c 3 _ rfl;have b:=D.c 4 _ rfl;have c:=D.c 5 _ rfl;have o:=D.c 6 _ rfl;have d:=D.c 7 _ rfl;have f:=D.c 8 _ rfl;have G:=D.c 9 _ rfl;have u:=D.c 10 _ rfl;have y:=D.c 11 _ rfl;have z:=D.c 12 _ rfl;try simp only at s t A C b c o d f G u y z
 go_enter Tryz.func73,Tryz.ntmps73;go_wp2_with fail;refine(Gp OK S Q.o).mono ?_;rw[<-j.o];rintro e w2 ⟨rfl,M⟩;replace X:=X.tr M;replace D:=D.ext M;replace S:=S.ext M;clear M;clear s t A C b c o d f G u y z;cases B
 .have ae:R=[]:=by rw[HR.o];exact zk j.o.symm
  subst ae;go_wp2;go_ret;exact⟨none,0,rfl,gK.nil _ _,⟨fun _=>j.o.symm,fun _=>rfl⟩,X⟩
 .have Y:=hI (gT.1 j.o.symm);have ak:n<=60:=by rw[<-N.o];exact Y.o.2.2.1
  have HE:=hI (nz Q.o Y.o.2.2.2);obtain⟨Z,H⟩:∃Z,Z=lJ m n:=⟨_,rfl⟩;have am:Z.length=13:=by rw[H];rfl
  have aa:Hid (R=lk (gQ Z++ft L)):=hI (by rw[HR.o,H,<-N.o];unfold hY sY;rw[if_pos j.o.symm]);have ZI:Hid (∀x∈Z,I64 x):=hI (by rw[H];exact rG OK (by omega));have HZ:=hI H;clear H;obtain⟨E,I⟩:∃E,E=ft L:=⟨_,rfl⟩;have aj:E.length<=5160:=by rw[I];have:=HE.o;rw[N.o]at this;omega
  rw[<-I]at aa;have ad:=hI I;clear I;have s:=D.c 0 _ rfl;have t:=D.c 1 _ rfl;have A:=D.c 2 _ rfl;have C:=D.c 3 _ rfl;have b:=D.c 4 _ rfl;have c:=D.c 5 _ rfl;have o:=D.c 6 _ rfl;have d:=D.c 7 _ rfl;have f:=D.c 8 _ rfl;have G:=D.c 9 _ rfl;have u:=D.c 10 _ rfl;have y:=D.c 11 _ rfl;have z:=D.c 12 _ rfl;try simp only at s t A C b c o d f G u y z
  go_wp2_with fail;refine(vY (m:=m) (p:=p) (n:=n) (cap:=cap)).mono ?_;rintro e K ⟨rfl,P⟩;replace X:=X.tr P;replace D:=D.ext P;replace S:=S.ext P;clear P;clear s t A C b c o d f G u y z;go_wp2;go_loopw [3,11] (fun v i wr=>∃(k q:Nat) (a:Option Addr) (g:Nat),k<=13/\i=.int .i64 (k:Int)/\v=.slice a q g/\q<=10*k/\gK wr K.heap.size a q g (gQ (Z.take k))/\db K wr) (fun _ i _=>13-(intOf i).toNat);case atStart=>exact⟨0,0,none,0,by omega,rfl,rfl,by omega,gK.nil _ _,db.rfl' _⟩
  case round=>
   obtain⟨k,q,a,g,hk,rfl,rfl,al,O,r⟩:=hrel;by_cases ah:k<13
   .obtain⟨x,J,af⟩:=KL m n k ah;rw[<-HZ.o]at J;have T:=ZI.o x (List.mem_of_getElem? J);have HX:=hI (oz J);have ai:=eD T;obtain⟨F,V⟩:∃F,F=kF (mG x):=⟨_,rfl⟩;rw[<-V]at ai HX;have HF:=hI V;clear J V;go_wp2_with fail;refine(Ab O r.size (by omega) T.1 T.2).mono ?_;rw[<-HF.o];rintro e w4 ⟨p4,b,rfl,O4,x4⟩;have X4:db K w4:=Below.trans r x4;clear x4 af;go_wp2;go_roundw;case rel=>exact⟨k+1,_,p4,b,by omega,by go_num,rfl,by omega,by rw[HX.o];exact O4,X4⟩
    case measure=>simp[intOf];omega
   .have ac:Z.take k=Z:=List.take_of_length_le (by omega);rw[ac]at O;clear ac;have D5:=D.ext r;have f:=D5.c 8 _ rfl;try simp only at f
    go_wp2_with fail;refine(mW (S.ext r) Q.o (by omega)).mono ?_;rw[<-ad.o];rintro e w5 ⟨p5,c,rfl,o5,U⟩;have O5:=o5.sl;have ab:=r.tr U;clear o5;go_wp2_with (at_builtin;refine jS rfl _ _ 72 rfl K.heap.size Tryz.underlying72 pz a q g _ rfl (O.ext U) p5 E.length c E rfl O5 (by omega) ab.size ?_);intro p6 o w6 o6 g6;have X6:=db.own ab (O.ext U) g6 rfl;have O6:=o6.sl;clear o6 g6;go_wp2_with fail;refine(Fw O6 (by omega)).mono ?_;rintro e w7 ⟨p7,d,rfl,l,x7⟩;rw[<-aa.o]at l;have ag:q+E.length+4=R.length:=l.len.symm;rw[ag]at l⊢;have X7:=X.tr (X6.tr x7);have OS:=hI (Nat.le_trans (X.tr X6).size (Nat.le_refl _));clear x7;go_wp2;go_ret
    exact⟨p7,d,rfl,l.mono OS.o,⟨(fun hp=>by
     have h1:=l.sl.nil hp
     have h2:=l.sl.le
     omega),fun hb=>by rw[<-j.o]at hb;cases hb⟩,X7⟩
end Go.Proofs.YtjhbmbbmjaabcaaGreat
