/-
  Contracts of the program's functions, in order. Conditions stand at each.
-/
import Derived.Test.YtjhbmbbmjaabcaaGreatH2
set_option linter.unusedVariables false
set_option maxRecDepth 8000
set_option maxHeartbeats 8000000
namespace Go.Proofs.YtjhbmbbmjaabcaaGreat
section
open Go Go.Sort Go.RowKit
def goStep (cm now:Int) (n:Nat) (st:SeD × List TdD × List TdD) (k:Nat) (e:EnD):SeD × List TdD × List TdD:=
 let can:=!(st.2.1.any fun x=>sameB x.e e)&&mayR st.1 e ((k:Int)+1) (min (max cm 0) (n:Int)) now
 let T:=if can then st.2.1++[⟨(k:Int)+1,e⟩] else st.2.1
 let O:=if can then st.2.2++[⟨(k:Int)+1,e⟩] else st.2.2
 (if T.any fun x=>sameB x.e e then st.1 else ⟨false,st.1.o0&&decide (e.od≠0),st.1.o1&&decide (e.od≠1),st.1.o2&&decide (e.od≠2)⟩,T,O)
def goAll (cm now:Int) (n:Nat):Nat→List EnD→SeD × List TdD × List TdD→SeD × List TdD × List TdD
 | _,[],st=>st
 | k,e::L,st=>goAll cm now n (k+1) L (goStep cm now n st k e)
theorem goAll_snoc (cm now:Int) (n:Nat):∀ (L:List EnD) (k:Nat) (e:EnD) (st:SeD × List TdD × List TdD),goAll cm now n k (L++[e]) st=goStep cm now n (goAll cm now n k L st) (k+L.length) e
 | [],k,e,st=>rfl
 | x::L,k,e,st=>by
  rw [List.cons_append,goAll,goAll,goAll_snoc cm now n L,List.length_cons]
  congr 1
  omega
theorem goAll_take (cm now:Int) (n k:Nat) (L:List EnD) (e:EnD) (st:SeD × List TdD × List TdD) (h:L[k]?=some e):goAll cm now n 0 (L.take (k+1)) st=goStep cm now n (goAll cm now n 0 (L.take k) st) k e:=by
 rw [List.take_add_one,h]
 have:=goAll_snoc cm now n (L.take k) 0 e st
 have hk:k<L.length:=(List.getElem?_eq_some_iff.1 h).1
 simpa [List.length_take,Nat.min_eq_left (Nat.le_of_lt hk)] using this
theorem goStep_yes {cm now:Int} {n k:Nat} {q:SeD} {T1 O1:List TdD} {e:EnD} (h1:(T1.any fun x=>sameB x.e e)=false) (h2:mayR q e ((k:Int)+1) (min (max cm 0) (n:Int)) now=true) (h3:((T1++[(⟨(k:Int)+1,e⟩:TdD)]).any fun x=>sameB x.e e)=true):goStep cm now n (q,T1,O1) k e=(q,T1++[⟨(k:Int)+1,e⟩],O1++[⟨(k:Int)+1,e⟩]):=by
 simp only [goStep,h1,h2]
 simp only [Bool.not_false,Bool.true_and,if_true,h3]
def four (c d:Nat) (x:Nat):Prop:=x=c∨x=c+1∨x=d∨x=d+1
theorem encut_all (p:Option Addr) (n cap:Nat) (hn:n≤cap) (w:World):(Instr.slice 43 (.slice p n cap) none (some (.int .i64 (n:Int))) none).run Tryz.prog w=.ok (.slice p n cap) w:=
 run_cutS_to 7 43 71 Tryz.underlying43 (fun w=>by kernel_rfl) p n cap n hn w
structure GoI (w0:World) (o0:Ow) (c d g sb n cap:Nat) (p:Option Addr) (T0:List TdD) (L:List EnD) (cm now:Int) (k:Nat) (wr:World) (o1:Ow) (po:Option Addr) (co:Nat) (st:SeD × List TdD × List TdD):Prop where
 eq:st=goAll cm now n 0 (L.take k) (⟨true,true,true,true⟩,T0,[])
 box:BoxC wr o1 (d+1) sb (seL st.1)
 q:RdV wr o1 c g st.2.1
 row:RowC 109 8 wr o1 d po st.2.2.length co (st.2.2.map tdL)
 sl:SlC 7 wr o1 p n cap (L.map enL)
 fm:Fm (four c d) o0 o1 w0 wr
 lt:st.2.1.length≤T0.length+k
 lo:st.2.2.length≤k
theorem GoI.ext {w0:World} {o0:Ow} {c d g sb n cap:Nat} {p:Option Addr} {T0:List TdD} {L:List EnD} {cm now:Int} {k:Nat} {wr w':World} {o1:Ow} {po:Option Addr} {co:Nat} {st:SeD × List TdD × List TdD} (h:GoI w0 o0 c d g sb n cap p T0 L cm now k wr o1 po co st) (x:Ext wr w'):GoI w0 o0 c d g sb n cap p T0 L cm now k w' o1 po co st:=
 ⟨h.eq,h.box.ext x,h.q.ext x,h.row.ext x,h.sl.ext x,⟨x.os.trans h.fm.os,x.tape.trans h.fm.tape,x.output.trans h.fm.output,Nat.le_trans h.fm.size x.size,h.fm.col,fun i hi h1 h2=>(x.block i (Nat.lt_of_lt_of_le hi h.fm.size)).trans (h.fm.blk i hi h1 h2),fun i j hi h1 h2=>(World.cell?_of_block (x.block i (Nat.lt_of_lt_of_le hi h.fm.size))).trans (h.fm.cel i j hi h1 h2),fun i j hi h1=>(World.frozen?_of_block (x.block i (Nat.lt_of_lt_of_le hi h.fm.size))).trans (h.fm.frz i j hi h1),h.fm.cl.ext x⟩,h.lt,h.lo⟩
theorem go_dim {w0 wr:World} {o0 o1:Ow} {c d g sb n cap m co:Nat} {p po:Option Addr} {T:List TdD} {LL OO:List (List Value)} {vs:List Value} (hc:1<c∧c+1<d) (j:Nat) (v:Value) (h1:BoxC wr o1 (d+1) sb vs) (h2:RdV wr o1 c g T) (h3:RowC 109 8 wr o1 d po m co OO) (h4:SlC 7 wr o1 p n cap LL) (h5:Fm (four c d) o0 o1 w0 wr) :
  BoxC (wr.setCell ⟨sb,j,none⟩ v) o1 (d+1) sb (vs.set j v)∧RdV (wr.setCell ⟨sb,j,none⟩ v) o1 c g T∧RowC 109 8 (wr.setCell ⟨sb,j,none⟩ v) o1 d po m co OO∧SlC 7 (wr.setCell ⟨sb,j,none⟩ v) o1 p n cap LL∧Fm (four c d) o0 o1 w0 (wr.setCell ⟨sb,j,none⟩ v):=by
 have F:=Fm.put (C:=fun x=>x=d+1) h5.cl h1 (by omega) rfl j v
 exact ⟨h1.put j v,h2.fr F hc.1 (by omega) (by omega),h3.fr F (by omega) (by omega),h4.fr F (by omega),h5.tr (F.mono (fun x hx=>.inr (.inr (.inr hx)))) (by unfold four;omega)⟩
theorem rgo_any {w:World} {o:Ow} {c d g n cap:Nat} {p:Option Addr} {T:List TdD} {L:List EnD} {cm now:Int} (hcl:Cl w o) (h:RdV w o c g T) (h1:1<c∧c+1<d) (hs:SlC 7 w o p n cap (L.map enL)) (hn:n≤60) (hT:T.length+n≤100000) (hok:∀ e ∈ L,EnOk e∧0≤e.st∧e.st≤1099511627776∧0≤e.od∧e.od≤2) (hnow:0≤now∧now≤1099511627776) (hcm:0≤cm∧cm≤1000000) :
  Calls Tryz.prog 177 #[.pointer (some ⟨g,0,none⟩),.slice p n cap,.int .i64 cm,.int .i64 now] w fun e w'=>∃ o' po co,e=.returned (.slice po (goAll cm now n 0 L (⟨true,true,true,true⟩,T,[])).2.2.length co)∧RowC 109 8 w' o' d po (goAll cm now n 0 L (⟨true,true,true,true⟩,T,[])).2.2.length co ((goAll cm now n 0 L (⟨true,true,true,true⟩,T,[])).2.2.map tdL)∧RdV w' o' c g (goAll cm now n 0 L (⟨true,true,true,true⟩,T,[])).2.1∧Fm (four c d) o o' w w':=by
 have cut:=encut_all p n cap hs.sl.le
 have N:=hI (en_len hs.sl)
 have M0:Hid (Fm (fun _=>False) o (dye o w.heap.size (d+1)) w (w.alloc (.cells (seA ⟨true,true,true,true⟩) 243))):=hI (Fm.made hcl _ (d+1))
 have SB:=hI (BoxC.made w o (d+1) (seA ⟨true,true,true,true⟩) (seL ⟨true,true,true,true⟩) 243 rfl)
 have hn':¬ (60:Int)<(n:Int):=by omega
 have H:=hI (h.fr M0.o h1.1 (fun x=>x) (fun x=>x))
 have S:=hI (hs.fr M0.o (fun x=>x))
 have M:=hI (M0.o.mono (C':=four c d) (fun x hx=>hx.elim))
 have HC:=hI hcl
 have H1:=hI h1
 have OK:=hI hok
 have NW:=hI hnow
 have CM:=hI hcm
 have HT:=hI hT
 clear h hs hcl h1 hok hnow hcm hT
 go_enter Tryz.func177,Tryz.ntmps177
 go_upto_region 6 with fail
 change Code.wp _ _ _ _ (w.alloc (.cells (seA ⟨true,true,true,true⟩) 243))
 have GI:Hid (GoI w o c d g w.heap.size n cap p T L cm now 0 (w.alloc (.cells (seA ⟨true,true,true,true⟩) 243)) (dye o w.heap.size (d+1)) none 0 (⟨true,true,true,true⟩,T,[])):=hI ⟨rfl,SB.o,H.o,RowC.nil _ _ _ _ _,S.o,M.o,Nat.le_refl _,Nat.le_refl _⟩
 clear M0 SB H S M HC cut hn'
 generalize dye o w.heap.size (d+1)=o1 at *
 generalize w.alloc (.cells (seA ⟨true,true,true,true⟩) 243)=w1 at *
 generalize w.heap.size=sb at *
 go_wp2
 go_loopw [25,10] (fun i v wr=>∃ k o2 po co st,k≤n∧i=.int .i64 (k:Int)∧v=.slice po st.2.2.length co∧GoI w o c d g sb n cap p T L cm now k wr o2 po co st) (fun i _ _=>n-(intOf i).toNat)
 case atStart=>exact ⟨0,_,_,_,_,by omega,rfl,rfl,GI.o⟩
 case round=>
  obtain ⟨k,o2,po,co,st,hk,rfl,rfl,gi⟩:=hrel
  clear GI
  have I:=hI gi
  clear gi
  by_cases hlt:k<n
  ·obtain ⟨b,oo,e,hp,hx,c0,c1,c2,c3,c4,c5,c6⟩:=en_at I.o.sl.sl k hlt
   have HX:=hI hx
   clear hx
   subst hp
   obtain ⟨f1,f2,f3,f4,f5,f6,dat⟩:=e
   simp only at c0 c1 c2 c3 c4 c5 c6
   go_upto_region 9 with fail
   change Code.wp _ _ _ _ (wr.alloc (.cells (enA ⟨f1,f2,f3,f4,f5,f6,dat⟩) 71))
   have EB:=hI (BoxC.loose I.o.fm.cl (enA ⟨f1,f2,f3,f4,f5,f6,dat⟩) (enL ⟨f1,f2,f3,f4,f5,f6,dat⟩) 71 rfl)
   have I2:=hI (I.o.ext (Ext.alloc wr (.cells (enA ⟨f1,f2,f3,f4,f5,f6,dat⟩) 71)))
   clear I c0 c1 c2 c3 c4 c5 c6
   generalize wr.alloc (.cells (enA ⟨f1,f2,f3,f4,f5,f6,dat⟩) 71)=w2 at *
   generalize wr.heap.size=eb at *
   have d0:=EB.o.box.c 0 _ rfl
   have d1:=EB.o.box.c 1 _ rfl
   have d2:=EB.o.box.c 2 _ rfl
   have d3:=EB.o.box.c 3 _ rfl
   have d4:=EB.o.box.c 4 _ rfl
   have d5:=EB.o.box.c 5 _ rfl
   have d6:=EB.o.box.c 6 _ rfl
   go_wp2_with fail
   refine (rhas_any (e:=⟨f1,f2,f3,f4,f5,f6,dat⟩) I2.o.q).mono ?_
   rintro x w3 ⟨rfl,x3⟩
   have EB3:=hI (EB.o.ext x3)
   have I3:=hI (I2.o.ext x3)
   clear EB I2 x3 d0 d1 d2 d3 d4 d5 d6
   obtain ⟨B,hB⟩:∃ B,B=st.2.1.any fun x=>sameB x.e ⟨f1,f2,f3,f4,f5,f6,dat⟩:=⟨_,rfl⟩
   rw [← hB]
   have HB:=hI hB
   clear hB
   have d0:=EB3.o.box.c 0 _ rfl
   have d1:=EB3.o.box.c 1 _ rfl
   have d2:=EB3.o.box.c 2 _ rfl
   have d3:=EB3.o.box.c 3 _ rfl
   have d4:=EB3.o.box.c 4 _ rfl
   have d5:=EB3.o.box.c 5 _ rfl
   have d6:=EB3.o.box.c 6 _ rfl
   cases B
   ·obtain ⟨⟨q1,q2,q3,q4⟩,T1,O1⟩:=st
    have s0:=I3.o.box.box.c 0 _ rfl
    have s1:=I3.o.box.box.c 1 _ rfl
    have s2:=I3.o.box.box.c 2 _ rfl
    have s3:=I3.o.box.box.c 3 _ rfl
    simp only at s0 s1 s2 s3
    have OKE:=OK.o _ (List.mem_of_getElem? HX.o)
    simp only at OKE
    have OE:=hI OKE
    clear OKE
    have hw:wrap64 ((k:Int)+1)=(k:Int)+1:=by unfold wrap64;omega
    have hc0:¬ cm<0:=by have:=CM.o;omega
    obtain ⟨CC,hCC⟩:∃ CC:Int,CC=min (max cm 0) (n:Int):=⟨_,rfl⟩
    have HCC:=hI hCC
    by_cases hcn:(n:Int)<cm
    ·have hce:Hid (CC=(n:Int)):=hI (by omega)
     clear hCC
     go_wp2_with fail
     refine (rmay_any (s:=⟨q1,q2,q3,q4⟩) (e:=⟨f1,f2,f3,f4,f5,f6,dat⟩) (cm:=(n:Int)) NW.o ⟨OE.o.2.1,OE.o.2.2.1⟩).mono ?_
     rintro x w4 ⟨rfl,x4⟩
     obtain ⟨B2,hB2⟩:∃ B2,B2=mayR ⟨q1,q2,q3,q4⟩ ⟨f1,f2,f3,f4,f5,f6,dat⟩ ((k:Int)+1) (n:Int) now:=⟨_,rfl⟩
     rw [← hB2]
     have HB2:Hid (B2=mayR ⟨q1,q2,q3,q4⟩ ⟨f1,f2,f3,f4,f5,f6,dat⟩ ((k:Int)+1) (min (max cm 0) (n:Int)) now):=hI (by rw [hB2,← HCC.o,hce.out])
     clear hB2
     have I4:=hI (I3.o.ext x4)
     have EB4:=hI (EB3.o.ext x4)
     clear x4 I3 EB3 d0 d1 d2 d3 d4 d5 d6 s0 s1 s2 s3
     have d0:=EB4.o.box.c 0 _ rfl
     have d1:=EB4.o.box.c 1 _ rfl
     have d2:=EB4.o.box.c 2 _ rfl
     have d3:=EB4.o.box.c 3 _ rfl
     have d4:=EB4.o.box.c 4 _ rfl
     have d5:=EB4.o.box.c 5 _ rfl
     have d6:=EB4.o.box.c 6 _ rfl
     cases B2
     ·go_wp2_with fail
      refine (rhas_any (e:=⟨f1,f2,f3,f4,f5,f6,dat⟩) I4.o.q).mono ?_
      rw [← HB.o]
      rintro x w5 ⟨rfl,x5⟩
      have I5:=hI (I4.o.ext x5)
      have EB5:=hI (EB4.o.ext x5)
      clear x5 I4 EB4 d0 d1 d2 d3 d4 d5 d6
      have d3:=EB5.o.box.c 3 _ rfl
      simp only at d3
      have s0:=I5.o.box.box.c 0 _ rfl
      have s1:=I5.o.box.box.c 1 _ rfl
      have s2:=I5.o.box.box.c 2 _ rfl
      have s3:=I5.o.box.box.c 3 _ rfl
      have sf:=I5.o.box.box.f
      simp only at s0 s1 s2 s3
      have hod:f4=0∨f4=1∨f4=2:=by
       have:=OE.o.2.2.2
       omega
      rcases hod with rfl | rfl | rfl
      ·go_wp2
       go_roundw
       case rel=>
        obtain ⟨x1,x2,x3,x4,x5⟩:=go_dim H1.o 0 (.bool false) I5.o.box I5.o.q I5.o.row I5.o.sl I5.o.fm
        obtain ⟨y1,y2,y3,y4,y5⟩:=go_dim H1.o 1 (.bool false) x1 x2 x3 x4 x5
        refine ⟨k+1,o2,po,co,(⟨false,false,q3,q4⟩,T1,O1),by omega,by go_num,rfl,⟨?_,y1,y2,y3,y4,y5,by have:=I5.o.lt;simp only at this ⊢;omega,by have:=I5.o.lo;simp only at this ⊢;omega⟩⟩
        rw [goAll_take _ _ _ _ _ _ _ HX.o,← I5.o.eq]
        have e1:=HB.o
        have e2:=HB2.o
        try simp only at e1
        simp [goStep,← e1,← e2]
       case measure=>simp [intOf];omega
      ·go_wp2
       go_roundw
       case rel=>
        obtain ⟨x1,x2,x3,x4,x5⟩:=go_dim H1.o 0 (.bool false) I5.o.box I5.o.q I5.o.row I5.o.sl I5.o.fm
        obtain ⟨y1,y2,y3,y4,y5⟩:=go_dim H1.o 2 (.bool false) x1 x2 x3 x4 x5
        refine ⟨k+1,o2,po,co,(⟨false,q2,false,q4⟩,T1,O1),by omega,by go_num,rfl,⟨?_,y1,y2,y3,y4,y5,by have:=I5.o.lt;simp only at this ⊢;omega,by have:=I5.o.lo;simp only at this ⊢;omega⟩⟩
        rw [goAll_take _ _ _ _ _ _ _ HX.o,← I5.o.eq]
        have e1:=HB.o
        have e2:=HB2.o
        try simp only at e1
        simp [goStep,← e1,← e2]
       case measure=>simp [intOf];omega
      ·go_wp2
       go_roundw
       case rel=>
        obtain ⟨x1,x2,x3,x4,x5⟩:=go_dim H1.o 0 (.bool false) I5.o.box I5.o.q I5.o.row I5.o.sl I5.o.fm
        obtain ⟨y1,y2,y3,y4,y5⟩:=go_dim H1.o 3 (.bool false) x1 x2 x3 x4 x5
        refine ⟨k+1,o2,po,co,(⟨false,q2,q3,false⟩,T1,O1),by omega,by go_num,rfl,⟨?_,y1,y2,y3,y4,y5,by have:=I5.o.lt;simp only at this ⊢;omega,by have:=I5.o.lo;simp only at this ⊢;omega⟩⟩
        rw [goAll_take _ _ _ _ _ _ _ HX.o,← I5.o.eq]
        have e1:=HB.o
        have e2:=HB2.o
        try simp only at e1
        simp [goStep,← e1,← e2]
       case measure=>simp [intOf];omega
     ·go_upto_region 11 with fail
      change Code.wp _ _ _ _ (w4.alloc (.cells (tdA ⟨(k:Int)+1,⟨f1,f2,f3,f4,f5,f6,dat⟩⟩) 109))
      have TB:=hI (BoxC.loose I4.o.fm.cl (tdA ⟨(k:Int)+1,⟨f1,f2,f3,f4,f5,f6,dat⟩⟩) (tdL ⟨(k:Int)+1,⟨f1,f2,f3,f4,f5,f6,dat⟩⟩) 109 rfl)
      have I5:=hI (I4.o.ext (Ext.alloc w4 (.cells (tdA ⟨(k:Int)+1,⟨f1,f2,f3,f4,f5,f6,dat⟩⟩) 109)))
      have EB5:=hI (EB4.o.ext (Ext.alloc w4 (.cells (tdA ⟨(k:Int)+1,⟨f1,f2,f3,f4,f5,f6,dat⟩⟩) 109)))
      clear I4 EB4 d0 d1 d2 d3 d4 d5 d6
      generalize w4.alloc (.cells (tdA ⟨(k:Int)+1,⟨f1,f2,f3,f4,f5,f6,dat⟩⟩) 109)=w5 at *
      generalize w4.heap.size=tb at *
      obtain ⟨pq,cq,hq⟩:=I5.o.q
      have HP:=hI hq
      clear hq
      have d0:=TB.o.box.c 0 _ rfl
      have d1:=TB.o.box.c 1 _ rfl
      have d2:=TB.o.box.c 2 _ rfl
      have d3:=TB.o.box.c 3 _ rfl
      have d4:=TB.o.box.c 4 _ rfl
      have d5:=TB.o.box.c 5 _ rfl
      have d6:=TB.o.box.c 6 _ rfl
      have d7:=TB.o.box.c 7 _ rfl
      have A1:=hI (Ext.alloc w5 (.cells (tdA ⟨(k:Int)+1,⟨f1,f2,f3,f4,f5,f6,dat⟩⟩) 109))
      have A2:=hI (A1.o.tr (Ext.drew (w5.alloc (.cells (tdA ⟨(k:Int)+1,⟨f1,f2,f3,f4,f5,f6,dat⟩⟩) 109))))
      have a0:=(TB.o.ext A1.o).box.c 0 _ rfl
      have a1:=(TB.o.ext A1.o).box.c 1 _ rfl
      have a2:=(TB.o.ext A1.o).box.c 2 _ rfl
      have a3:=(TB.o.ext A1.o).box.c 3 _ rfl
      have a4:=(TB.o.ext A1.o).box.c 4 _ rfl
      have a5:=(TB.o.ext A1.o).box.c 5 _ rfl
      have a6:=(TB.o.ext A1.o).box.c 6 _ rfl
      have a7:=(TB.o.ext A1.o).box.c 7 _ rfl
      have c0:=HP.o.box.box.c 0 _ rfl
      have b0:=(HP.o.box.ext A1.o).box.c 0 _ rfl
      simp only at c0 b0
      have hl6:T1.length≤1000000:=by
       have h1:=I5.o.lt
       have h2:=HT.o
       simp only at h1
       omega
      go_region_law (refine step_appC (by rfl) _ _ _ (by rfl) 109 8 72 _ Tryz.underlying55 info_td (by rfl) (by omega) (I5.o.fm.cl.ext A2.o) (HP.o.row.ext A2.o) (by rfl) w5.heap.size 1 (tdL ⟨(k:Int)+1,⟨f1,f2,f3,f4,f5,f6,dat⟩⟩) (by rfl) (by rfl) (fun j u hu=>news_at (w:=w5) rfl j u hu) (td_one [⟨(k:Int)+1,⟨f1,f2,f3,f4,f5,f6,dat⟩⟩] (tdL ⟨(k:Int)+1,⟨f1,f2,f3,f4,f5,f6,dat⟩⟩) (by simp)) (by simpa using hl6) (by omega) (by have:=H1.o;omega) (fun x=>x=c+1) rfl ?_;intro p4 c4 o4 w6 r4 m4;have D4:=hI ((HP.o.box.ext A2.o).fr m4 (by have:=H1.o;omega) (by omega));have b4:=D4.o.box.c 0 _ rfl;have f40:=D4.o.box.f 0)
      all_goals
       have h40:¬ four c d 0:=by have:=H1.o;unfold four;omega
       have F7:=hI (Fm.put (C:=fun x=>x=c) m4.cl D4.o (by have:=H1.o;omega) rfl 0 (.slice p4 (T1.length+1) c4))
       obtain ⟨B5,R5,M5⟩:=app_done (C:=four c d) (j:=0) h40 (I5.o.fm.tr (Fm.ext I5.o.fm.cl A2.o) h40) D4.o m4 r4 (by have:=H1.o;omega) (by have:=H1.o;omega) (.inl rfl) (.inr (.inl rfl)) (by omega) (.slice p4 (T1.length+1) c4)
       have SB7:=hI (((I5.o.box.ext A2.o).fr m4 (by have:=H1.o;omega) (by have:=H1.o;omega)).fr F7.o (by have:=H1.o;omega) (by have:=H1.o;omega))
       have RO7:=hI (((I5.o.row.ext A2.o).fr m4 (by have:=H1.o;omega) (by have:=H1.o;omega)).fr F7.o (by have:=H1.o;omega) (by have:=H1.o;omega))
       have SL7:=hI (((I5.o.sl.ext A2.o).fr m4 (by have:=H1.o;omega)).fr F7.o (by have:=H1.o;omega))
       have TB7:=hI (((TB.o.ext A2.o).fr m4 (by have:=H1.o;omega) (by have:=H1.o;omega)).fr F7.o (by have:=H1.o;omega) (by have:=H1.o;omega))
       have EB7:=hI (((EB5.o.ext A2.o).fr m4 (by have:=H1.o;omega) (by have:=H1.o;omega)).fr F7.o (by have:=H1.o;omega) (by have:=H1.o;omega))
       have Q7:Hid (RdV (w6.setCell ⟨g,0,none⟩ (.slice p4 (T1.length+1) c4)) o4 c g (T1++[⟨(k:Int)+1,⟨f1,f2,f3,f4,f5,f6,dat⟩⟩])):=hI ⟨p4,c4,by simpa using B5,by simpa using R5,by
        have h1:=I5.o.lt
        have h2:=HT.o
        simp only at h1
        simp
        omega⟩
       have M7:=hI M5
       have LT:=hI (And.intro I5.o.lt (And.intro I5.o.lo I5.o.eq))
       clear r4 m4 D4 b4 f40 B5 R5 M5 A1 A2 a0 a1 a2 a3 a4 a5 a6 a7 d0 d1 d2 d3 d4 d5 d6 d7 c0 b0 F7 I5 TB EB5 HP
       generalize w6.setCell ⟨g,0,none⟩ (.slice p4 (T1.length+1) c4)=w7 at *
       have d0:=TB7.o.box.c 0 _ rfl
       have d1:=TB7.o.box.c 1 _ rfl
       have d2:=TB7.o.box.c 2 _ rfl
       have d3:=TB7.o.box.c 3 _ rfl
       have d4:=TB7.o.box.c 4 _ rfl
       have d5:=TB7.o.box.c 5 _ rfl
       have d6:=TB7.o.box.c 6 _ rfl
       have d7:=TB7.o.box.c 7 _ rfl
       have A1:=hI (Ext.alloc w7 (.cells (tdA ⟨(k:Int)+1,⟨f1,f2,f3,f4,f5,f6,dat⟩⟩) 109))
       have hl7:O1.length≤1000000:=by
        have h1:=LT.o.2.1
        simp only at h1
        omega
       go_wp2_with (at_builtin;refine wpList_appC rfl _ _ 55 rfl 109 8 72 _ Tryz.underlying55 info_td (by rfl) (by omega) (M7.o.cl.ext A1.o) (RO7.o.ext A1.o) (by rfl) w7.heap.size 1 (tdL ⟨(k:Int)+1,⟨f1,f2,f3,f4,f5,f6,dat⟩⟩) (by rfl) (by rfl) (fun j u hu=>news_at (w:=w7) rfl j u hu) (td_one [⟨(k:Int)+1,⟨f1,f2,f3,f4,f5,f6,dat⟩⟩] (tdL ⟨(k:Int)+1,⟨f1,f2,f3,f4,f5,f6,dat⟩⟩) (by simp)) (by simpa using hl7) (by omega) (by have:=H1.o;omega) (fun x=>x=d) rfl ?_)
       intro p6 c6 o6 w9 r9 f9
       have Q9:=hI ((Q7.o.ext A1.o).fr f9 (by have:=H1.o;omega) (by have:=H1.o;omega) (by have:=H1.o;omega))
       have SB9:=hI ((SB7.o.ext A1.o).fr f9 (by have:=H1.o;omega) (by have:=H1.o;omega))
       have SL9:=hI ((SL7.o.ext A1.o).fr f9 (by have:=H1.o;omega))
       have EB9:=hI ((EB7.o.ext A1.o).fr f9 (by have:=H1.o;omega) (by have:=H1.o;omega))
       have RO9:=hI r9
       have M9:=hI ((M7.o.tr (Fm.ext M7.o.cl A1.o) h40).tr (f9.mono (fun x hx=>.inr (.inr (.inl hx)))) h40)
       clear r9 f9 Q7 SB7 SL7 EB7 RO7 M7 TB7 A1 d0 d1 d2 d3 d4 d5 d6 d7
       have d0:=EB9.o.box.c 0 _ rfl
       have d1:=EB9.o.box.c 1 _ rfl
       have d2:=EB9.o.box.c 2 _ rfl
       have d3:=EB9.o.box.c 3 _ rfl
       have d4:=EB9.o.box.c 4 _ rfl
       have d5:=EB9.o.box.c 5 _ rfl
       have d6:=EB9.o.box.c 6 _ rfl
       go_wp2_with fail
       refine (rhas_any (e:=⟨f1,f2,f3,f4,f5,f6,dat⟩) Q9.o).mono ?_
       have hany:((T1++[(⟨(k:Int)+1,⟨f1,f2,f3,f4,f5,f6,dat⟩⟩:TdD)]).any fun x=>sameB x.e ⟨f1,f2,f3,f4,f5,f6,dat⟩)=true:=by simp [sameB]
       rw [hany]
       have HA:=hI hany
       clear hany
       rintro x w10 ⟨rfl,x10⟩
       have M10:=hI (M9.o.tr (Fm.ext M9.o.cl x10) h40)
       go_wp2
       go_roundw
       case rel=>
        refine ⟨k+1,o6,p6,c6,(⟨q1,q2,q3,q4⟩,T1++[⟨(k:Int)+1,⟨f1,f2,f3,f4,f5,f6,dat⟩⟩],O1++[⟨(k:Int)+1,⟨f1,f2,f3,f4,f5,f6,dat⟩⟩]),by omega,by go_num,by simp,⟨?_,SB9.o.ext x10,Q9.o.ext x10,by simpa using RO9.o.ext x10,SL9.o.ext x10,M10.o,by have:=LT.o.1;simp at this ⊢;omega,by have:=LT.o.2.1;simp at this ⊢;omega⟩⟩
        rw [goAll_take _ _ _ _ _ _ _ HX.o,← LT.o.2.2]
        have e1:=HB.o
        have e2:=HB2.o
        try simp only at e1
        exact (goStep_yes e1.symm e2.symm HA.o).symm
       case measure=>simp [intOf];omega
    ·have hce:Hid (CC=cm):=hI (by omega)
     clear hCC
     go_wp2_with fail
     refine (rmay_any (s:=⟨q1,q2,q3,q4⟩) (e:=⟨f1,f2,f3,f4,f5,f6,dat⟩) (cm:=cm) NW.o ⟨OE.o.2.1,OE.o.2.2.1⟩).mono ?_
     rintro x w4 ⟨rfl,x4⟩
     obtain ⟨B2,hB2⟩:∃ B2,B2=mayR ⟨q1,q2,q3,q4⟩ ⟨f1,f2,f3,f4,f5,f6,dat⟩ ((k:Int)+1) cm now:=⟨_,rfl⟩
     rw [← hB2]
     have HB2:Hid (B2=mayR ⟨q1,q2,q3,q4⟩ ⟨f1,f2,f3,f4,f5,f6,dat⟩ ((k:Int)+1) (min (max cm 0) (n:Int)) now):=hI (by rw [hB2,← HCC.o,hce.out])
     clear hB2
     have I4:=hI (I3.o.ext x4)
     have EB4:=hI (EB3.o.ext x4)
     clear x4 I3 EB3 d0 d1 d2 d3 d4 d5 d6 s0 s1 s2 s3
     have d0:=EB4.o.box.c 0 _ rfl
     have d1:=EB4.o.box.c 1 _ rfl
     have d2:=EB4.o.box.c 2 _ rfl
     have d3:=EB4.o.box.c 3 _ rfl
     have d4:=EB4.o.box.c 4 _ rfl
     have d5:=EB4.o.box.c 5 _ rfl
     have d6:=EB4.o.box.c 6 _ rfl
     cases B2
     ·go_wp2_with fail
      refine (rhas_any (e:=⟨f1,f2,f3,f4,f5,f6,dat⟩) I4.o.q).mono ?_
      rw [← HB.o]
      rintro x w5 ⟨rfl,x5⟩
      have I5:=hI (I4.o.ext x5)
      have EB5:=hI (EB4.o.ext x5)
      clear x5 I4 EB4 d0 d1 d2 d3 d4 d5 d6
      have d3:=EB5.o.box.c 3 _ rfl
      simp only at d3
      have s0:=I5.o.box.box.c 0 _ rfl
      have s1:=I5.o.box.box.c 1 _ rfl
      have s2:=I5.o.box.box.c 2 _ rfl
      have s3:=I5.o.box.box.c 3 _ rfl
      have sf:=I5.o.box.box.f
      simp only at s0 s1 s2 s3
      have hod:f4=0∨f4=1∨f4=2:=by
       have:=OE.o.2.2.2
       omega
      rcases hod with rfl | rfl | rfl
      ·go_wp2
       go_roundw
       case rel=>
        obtain ⟨x1,x2,x3,x4,x5⟩:=go_dim H1.o 0 (.bool false) I5.o.box I5.o.q I5.o.row I5.o.sl I5.o.fm
        obtain ⟨y1,y2,y3,y4,y5⟩:=go_dim H1.o 1 (.bool false) x1 x2 x3 x4 x5
        refine ⟨k+1,o2,po,co,(⟨false,false,q3,q4⟩,T1,O1),by omega,by go_num,rfl,⟨?_,y1,y2,y3,y4,y5,by have:=I5.o.lt;simp only at this ⊢;omega,by have:=I5.o.lo;simp only at this ⊢;omega⟩⟩
        rw [goAll_take _ _ _ _ _ _ _ HX.o,← I5.o.eq]
        have e1:=HB.o
        have e2:=HB2.o
        try simp only at e1
        simp [goStep,← e1,← e2]
       case measure=>simp [intOf];omega
      ·go_wp2
       go_roundw
       case rel=>
        obtain ⟨x1,x2,x3,x4,x5⟩:=go_dim H1.o 0 (.bool false) I5.o.box I5.o.q I5.o.row I5.o.sl I5.o.fm
        obtain ⟨y1,y2,y3,y4,y5⟩:=go_dim H1.o 2 (.bool false) x1 x2 x3 x4 x5
        refine ⟨k+1,o2,po,co,(⟨false,q2,false,q4⟩,T1,O1),by omega,by go_num,rfl,⟨?_,y1,y2,y3,y4,y5,by have:=I5.o.lt;simp only at this ⊢;omega,by have:=I5.o.lo;simp only at this ⊢;omega⟩⟩
        rw [goAll_take _ _ _ _ _ _ _ HX.o,← I5.o.eq]
        have e1:=HB.o
        have e2:=HB2.o
        try simp only at e1
        simp [goStep,← e1,← e2]
       case measure=>simp [intOf];omega
      ·go_wp2
       go_roundw
       case rel=>
        obtain ⟨x1,x2,x3,x4,x5⟩:=go_dim H1.o 0 (.bool false) I5.o.box I5.o.q I5.o.row I5.o.sl I5.o.fm
        obtain ⟨y1,y2,y3,y4,y5⟩:=go_dim H1.o 3 (.bool false) x1 x2 x3 x4 x5
        refine ⟨k+1,o2,po,co,(⟨false,q2,q3,false⟩,T1,O1),by omega,by go_num,rfl,⟨?_,y1,y2,y3,y4,y5,by have:=I5.o.lt;simp only at this ⊢;omega,by have:=I5.o.lo;simp only at this ⊢;omega⟩⟩
        rw [goAll_take _ _ _ _ _ _ _ HX.o,← I5.o.eq]
        have e1:=HB.o
        have e2:=HB2.o
        try simp only at e1
        simp [goStep,← e1,← e2]
       case measure=>simp [intOf];omega
     ·go_upto_region 11 with fail
      change Code.wp _ _ _ _ (w4.alloc (.cells (tdA ⟨(k:Int)+1,⟨f1,f2,f3,f4,f5,f6,dat⟩⟩) 109))
      have TB:=hI (BoxC.loose I4.o.fm.cl (tdA ⟨(k:Int)+1,⟨f1,f2,f3,f4,f5,f6,dat⟩⟩) (tdL ⟨(k:Int)+1,⟨f1,f2,f3,f4,f5,f6,dat⟩⟩) 109 rfl)
      have I5:=hI (I4.o.ext (Ext.alloc w4 (.cells (tdA ⟨(k:Int)+1,⟨f1,f2,f3,f4,f5,f6,dat⟩⟩) 109)))
      have EB5:=hI (EB4.o.ext (Ext.alloc w4 (.cells (tdA ⟨(k:Int)+1,⟨f1,f2,f3,f4,f5,f6,dat⟩⟩) 109)))
      clear I4 EB4 d0 d1 d2 d3 d4 d5 d6
      generalize w4.alloc (.cells (tdA ⟨(k:Int)+1,⟨f1,f2,f3,f4,f5,f6,dat⟩⟩) 109)=w5 at *
      generalize w4.heap.size=tb at *
      obtain ⟨pq,cq,hq⟩:=I5.o.q
      have HP:=hI hq
      clear hq
      have d0:=TB.o.box.c 0 _ rfl
      have d1:=TB.o.box.c 1 _ rfl
      have d2:=TB.o.box.c 2 _ rfl
      have d3:=TB.o.box.c 3 _ rfl
      have d4:=TB.o.box.c 4 _ rfl
      have d5:=TB.o.box.c 5 _ rfl
      have d6:=TB.o.box.c 6 _ rfl
      have d7:=TB.o.box.c 7 _ rfl
      have A1:=hI (Ext.alloc w5 (.cells (tdA ⟨(k:Int)+1,⟨f1,f2,f3,f4,f5,f6,dat⟩⟩) 109))
      have A2:=hI (A1.o.tr (Ext.drew (w5.alloc (.cells (tdA ⟨(k:Int)+1,⟨f1,f2,f3,f4,f5,f6,dat⟩⟩) 109))))
      have a0:=(TB.o.ext A1.o).box.c 0 _ rfl
      have a1:=(TB.o.ext A1.o).box.c 1 _ rfl
      have a2:=(TB.o.ext A1.o).box.c 2 _ rfl
      have a3:=(TB.o.ext A1.o).box.c 3 _ rfl
      have a4:=(TB.o.ext A1.o).box.c 4 _ rfl
      have a5:=(TB.o.ext A1.o).box.c 5 _ rfl
      have a6:=(TB.o.ext A1.o).box.c 6 _ rfl
      have a7:=(TB.o.ext A1.o).box.c 7 _ rfl
      have c0:=HP.o.box.box.c 0 _ rfl
      have b0:=(HP.o.box.ext A1.o).box.c 0 _ rfl
      simp only at c0 b0
      have hl6:T1.length≤1000000:=by
       have h1:=I5.o.lt
       have h2:=HT.o
       simp only at h1
       omega
      go_region_law (refine step_appC (by rfl) _ _ _ (by rfl) 109 8 72 _ Tryz.underlying55 info_td (by rfl) (by omega) (I5.o.fm.cl.ext A2.o) (HP.o.row.ext A2.o) (by rfl) w5.heap.size 1 (tdL ⟨(k:Int)+1,⟨f1,f2,f3,f4,f5,f6,dat⟩⟩) (by rfl) (by rfl) (fun j u hu=>news_at (w:=w5) rfl j u hu) (td_one [⟨(k:Int)+1,⟨f1,f2,f3,f4,f5,f6,dat⟩⟩] (tdL ⟨(k:Int)+1,⟨f1,f2,f3,f4,f5,f6,dat⟩⟩) (by simp)) (by simpa using hl6) (by omega) (by have:=H1.o;omega) (fun x=>x=c+1) rfl ?_;intro p4 c4 o4 w6 r4 m4;have D4:=hI ((HP.o.box.ext A2.o).fr m4 (by have:=H1.o;omega) (by omega));have b4:=D4.o.box.c 0 _ rfl;have f40:=D4.o.box.f 0)
      all_goals
       have h40:¬ four c d 0:=by have:=H1.o;unfold four;omega
       have F7:=hI (Fm.put (C:=fun x=>x=c) m4.cl D4.o (by have:=H1.o;omega) rfl 0 (.slice p4 (T1.length+1) c4))
       obtain ⟨B5,R5,M5⟩:=app_done (C:=four c d) (j:=0) h40 (I5.o.fm.tr (Fm.ext I5.o.fm.cl A2.o) h40) D4.o m4 r4 (by have:=H1.o;omega) (by have:=H1.o;omega) (.inl rfl) (.inr (.inl rfl)) (by omega) (.slice p4 (T1.length+1) c4)
       have SB7:=hI (((I5.o.box.ext A2.o).fr m4 (by have:=H1.o;omega) (by have:=H1.o;omega)).fr F7.o (by have:=H1.o;omega) (by have:=H1.o;omega))
       have RO7:=hI (((I5.o.row.ext A2.o).fr m4 (by have:=H1.o;omega) (by have:=H1.o;omega)).fr F7.o (by have:=H1.o;omega) (by have:=H1.o;omega))
       have SL7:=hI (((I5.o.sl.ext A2.o).fr m4 (by have:=H1.o;omega)).fr F7.o (by have:=H1.o;omega))
       have TB7:=hI (((TB.o.ext A2.o).fr m4 (by have:=H1.o;omega) (by have:=H1.o;omega)).fr F7.o (by have:=H1.o;omega) (by have:=H1.o;omega))
       have EB7:=hI (((EB5.o.ext A2.o).fr m4 (by have:=H1.o;omega) (by have:=H1.o;omega)).fr F7.o (by have:=H1.o;omega) (by have:=H1.o;omega))
       have Q7:Hid (RdV (w6.setCell ⟨g,0,none⟩ (.slice p4 (T1.length+1) c4)) o4 c g (T1++[⟨(k:Int)+1,⟨f1,f2,f3,f4,f5,f6,dat⟩⟩])):=hI ⟨p4,c4,by simpa using B5,by simpa using R5,by
        have h1:=I5.o.lt
        have h2:=HT.o
        simp only at h1
        simp
        omega⟩
       have M7:=hI M5
       have LT:=hI (And.intro I5.o.lt (And.intro I5.o.lo I5.o.eq))
       clear r4 m4 D4 b4 f40 B5 R5 M5 A1 A2 a0 a1 a2 a3 a4 a5 a6 a7 d0 d1 d2 d3 d4 d5 d6 d7 c0 b0 F7 I5 TB EB5 HP
       generalize w6.setCell ⟨g,0,none⟩ (.slice p4 (T1.length+1) c4)=w7 at *
       have d0:=TB7.o.box.c 0 _ rfl
       have d1:=TB7.o.box.c 1 _ rfl
       have d2:=TB7.o.box.c 2 _ rfl
       have d3:=TB7.o.box.c 3 _ rfl
       have d4:=TB7.o.box.c 4 _ rfl
       have d5:=TB7.o.box.c 5 _ rfl
       have d6:=TB7.o.box.c 6 _ rfl
       have d7:=TB7.o.box.c 7 _ rfl
       have A1:=hI (Ext.alloc w7 (.cells (tdA ⟨(k:Int)+1,⟨f1,f2,f3,f4,f5,f6,dat⟩⟩) 109))
       have hl7:O1.length≤1000000:=by
        have h1:=LT.o.2.1
        simp only at h1
        omega
       go_wp2_with (at_builtin;refine wpList_appC rfl _ _ 55 rfl 109 8 72 _ Tryz.underlying55 info_td (by rfl) (by omega) (M7.o.cl.ext A1.o) (RO7.o.ext A1.o) (by rfl) w7.heap.size 1 (tdL ⟨(k:Int)+1,⟨f1,f2,f3,f4,f5,f6,dat⟩⟩) (by rfl) (by rfl) (fun j u hu=>news_at (w:=w7) rfl j u hu) (td_one [⟨(k:Int)+1,⟨f1,f2,f3,f4,f5,f6,dat⟩⟩] (tdL ⟨(k:Int)+1,⟨f1,f2,f3,f4,f5,f6,dat⟩⟩) (by simp)) (by simpa using hl7) (by omega) (by have:=H1.o;omega) (fun x=>x=d) rfl ?_)
       intro p6 c6 o6 w9 r9 f9
       have Q9:=hI ((Q7.o.ext A1.o).fr f9 (by have:=H1.o;omega) (by have:=H1.o;omega) (by have:=H1.o;omega))
       have SB9:=hI ((SB7.o.ext A1.o).fr f9 (by have:=H1.o;omega) (by have:=H1.o;omega))
       have SL9:=hI ((SL7.o.ext A1.o).fr f9 (by have:=H1.o;omega))
       have EB9:=hI ((EB7.o.ext A1.o).fr f9 (by have:=H1.o;omega) (by have:=H1.o;omega))
       have RO9:=hI r9
       have M9:=hI ((M7.o.tr (Fm.ext M7.o.cl A1.o) h40).tr (f9.mono (fun x hx=>.inr (.inr (.inl hx)))) h40)
       clear r9 f9 Q7 SB7 SL7 EB7 RO7 M7 TB7 A1 d0 d1 d2 d3 d4 d5 d6 d7
       have d0:=EB9.o.box.c 0 _ rfl
       have d1:=EB9.o.box.c 1 _ rfl
       have d2:=EB9.o.box.c 2 _ rfl
       have d3:=EB9.o.box.c 3 _ rfl
       have d4:=EB9.o.box.c 4 _ rfl
       have d5:=EB9.o.box.c 5 _ rfl
       have d6:=EB9.o.box.c 6 _ rfl
       go_wp2_with fail
       refine (rhas_any (e:=⟨f1,f2,f3,f4,f5,f6,dat⟩) Q9.o).mono ?_
       have hany:((T1++[(⟨(k:Int)+1,⟨f1,f2,f3,f4,f5,f6,dat⟩⟩:TdD)]).any fun x=>sameB x.e ⟨f1,f2,f3,f4,f5,f6,dat⟩)=true:=by simp [sameB]
       rw [hany]
       have HA:=hI hany
       clear hany
       rintro x w10 ⟨rfl,x10⟩
       have M10:=hI (M9.o.tr (Fm.ext M9.o.cl x10) h40)
       go_wp2
       go_roundw
       case rel=>
        refine ⟨k+1,o6,p6,c6,(⟨q1,q2,q3,q4⟩,T1++[⟨(k:Int)+1,⟨f1,f2,f3,f4,f5,f6,dat⟩⟩],O1++[⟨(k:Int)+1,⟨f1,f2,f3,f4,f5,f6,dat⟩⟩]),by omega,by go_num,by simp,⟨?_,SB9.o.ext x10,Q9.o.ext x10,by simpa using RO9.o.ext x10,SL9.o.ext x10,M10.o,by have:=LT.o.1;simp at this ⊢;omega,by have:=LT.o.2.1;simp at this ⊢;omega⟩⟩
        rw [goAll_take _ _ _ _ _ _ _ HX.o,← LT.o.2.2]
        have e1:=HB.o
        have e2:=HB2.o
        try simp only at e1
        exact (goStep_yes e1.symm e2.symm HA.o).symm
       case measure=>simp [intOf];omega
   ·go_wp2_with fail
    refine (rhas_any (e:=⟨f1,f2,f3,f4,f5,f6,dat⟩) I3.o.q).mono ?_
    rw [← HB.o]
    rintro x w4 ⟨rfl,x4⟩
    have I4:=hI (I3.o.ext x4)
    clear x4 I3 EB3 d0 d1 d2 d3 d4 d5 d6
    go_wp2
    go_roundw
    case rel=>
     refine ⟨k+1,o2,po,co,st,by omega,by go_num,rfl,⟨?_,I4.o.box,I4.o.q,I4.o.row,I4.o.sl,I4.o.fm,by have:=I4.o.lt;omega,by have:=I4.o.lo;omega⟩⟩
     rw [goAll_take _ _ _ _ _ _ _ HX.o,← I4.o.eq]
     have:=HB.o
     simp only [goStep]
     rw [← this]
     simp [← this]
    case measure=>simp [intOf];omega
  ·have hkn:k=n:=by omega
   have HK:=hI hkn
   clear hkn
   go_wp2
   go_ret
   have hst:st=goAll cm now n 0 L (⟨true,true,true,true⟩,T,[]):=by
    rw [I.o.eq,List.take_of_length_le (by rw [N.o,HK.o];omega)]
   rw [← hst]
   exact ⟨o2,po,co,rfl,I.o.row,I.o.q,I.o.fm⟩
end
section
open Go Go.RowKit
def getP (x:PfD) (num cm:Int):PfD:=
 if x.has=true∧num≤x.bn then x else
 match x.ask.find? (fun q=>q.1==num) with
 | some q=>{ x with has:=true,bn:=q.1,bc:=q.2,cm:=cm }
 | none=>x
def SomeB (e:Ending):Prop:=∃ b:Bool,e=.returned (.bool b)
theorem q_at {w:World} {p:Option Addr} {n cap:Nat} {L:List (Int × Int)} (h:SlS 2 w p n cap (L.map qL)) (k:Nat) (hk:k<n) :
  ∃ b oo q,p=some ⟨b,oo,none⟩∧L[k]?=some q∧w.cell? ⟨b,oo+k * 2,none⟩=some (.int .i64 q.1)∧w.cell? ⟨b,oo+k * 2+1,none⟩=some (.int .i64 q.2):=by
 obtain ⟨b,oo,x,hp,hx,-,hc⟩:=h.at k hk
 rw [List.getElem?_map] at hx
 obtain ⟨q,hq,rfl⟩:=Option.map_eq_some_iff.1 hx
 exact ⟨b,oo,q,hp,hq,hc 0 _ rfl,hc 1 _ rfl⟩
theorem pget_any {w:World} {o:Ow} {c g:Nat} {x:PfD} {num cm:Int} (hcl:Cl w o) (h:PfV w o c g x) (h1:1<c) :
  Calls Tryz.prog 159 #[.pointer (some ⟨g,0,none⟩),.int .i64 num,.int .i64 cm] w fun e w'=>SomeB e∧PfV w' o c g (getP x num cm)∧Fm (two c) o o w w':=by
 obtain ⟨p,cap,h⟩:=h
 have hmax:x.ask.length≤9223372036854775807:=Nat.le_trans h.row.sl.le h.row.sl.max
 obtain ⟨nm,ask,has,bn,bc,xc⟩:=x
 simp only at hmax
 obtain ⟨G,hG⟩:∃ G,G=getP ⟨nm,ask,has,bn,bc,xc⟩ num cm:=⟨_,rfl⟩
 rw [← hG]
 have HG:=hI hG
 have H:=hI h
 have HC:=hI hcl
 have H1:=hI h1
 have c1:=h.box.box.c 1 _ rfl
 have c2:=h.box.box.c 2 _ rfl
 have c3:=h.box.box.c 3 _ rfl
 clear h hcl h1 hG
 simp only at c1 c2 c3
 by_cases hold:has=true∧num≤bn
 ·obtain ⟨rfl,hb⟩:=hold
  have GE:Hid (G=⟨nm,ask,true,bn,bc,xc⟩):=hI (by rw [HG.o];unfold getP;rw [if_pos ⟨rfl,hb⟩])
  go_enter Tryz.func159,Tryz.ntmps159
  go_wp2
  go_ret
  exact ⟨⟨false,rfl⟩,by rw [GE.o];exact ⟨p,cap,H.o⟩,Fm.refl HC.o⟩
 ·have GE:Hid (G=match ask.find? (fun q=>q.1==num) with | some q=>⟨nm,ask,true,q.1,q.2,cm⟩ | none=>⟨nm,ask,has,bn,bc,xc⟩):=hI (by rw [HG.o];unfold getP;rw [if_neg hold])
  have hway:has=false∨(has=true∧¬ num≤bn):=by
   cases has
   ·exact .inl rfl
   ·exact .inr ⟨rfl,fun hb=>hold ⟨rfl,hb⟩⟩
  clear hold HG
  rcases hway with rfl | ⟨rfl,hb⟩
  all_goals
   go_enter Tryz.func159,Tryz.ntmps159
   go_wp2_with fail
   clear c1 c2 c3
   go_loopw [31] (fun i wr=>∃ (k:Nat),k≤ask.length∧i=.int .i64 (k:Int)∧Hid ((ask.take k).find? (fun q=>q.1==num)=none)∧Hid (Ext w wr)) (fun i _=>ask.length-(intOf i).toNat)
   case atStart=>exact ⟨0,by omega,rfl,hI rfl,hI (Ext.rfl' _)⟩
   case round=>
    obtain ⟨k,hk,rfl,NO,X⟩:=hrel
    by_cases hlt:k<ask.length
    ·obtain ⟨b,oo,q,hp,hq,y0,y1⟩:=q_at (H.o.row.sl.ext X.o) k hlt
     have HQ:=hI hq
     subst hp
     clear hq
     obtain ⟨q1,q2⟩:=q
     simp only at y0 y1
     go_upto_region 6 with fail
     change Code.wp _ _ _ _ (wr.alloc (.cells #[.int .i64 q1,.int .i64 q2] 153))
     clear y0 y1
     have A1:=hI (X.o.tr (Ext.alloc wr (.cells #[.int .i64 q1,.int .i64 q2] 153)))
     have BQ:=hI (BoxV.new wr 0 #[.int .i64 q1,.int .i64 q2] _ 153 _ rfl (Nat.zero_le _) rfl)
     have HBQ:Hid (wr.heap.size≠g):=hI (by have:=H.o.box.box.hi;have:=X.o.size;omega)
     generalize wr.alloc (.cells #[.int .i64 q1,.int .i64 q2] 153)=w2 at *
     generalize wr.heap.size=bq at *
     have y0:=BQ.o.c 0 _ rfl
     have y1:=BQ.o.c 1 _ rfl
     by_cases hn:q1=num
     ·subst hn
      have GF:Hid (G=⟨nm,ask,true,q1,q2,cm⟩):=hI (by
       rw [GE.o]
       have:ask.find? (fun q=>q.1==q1)=some (q1,q2):=by
        obtain ⟨hkl,hke⟩:=List.getElem?_eq_some_iff.1 HQ.o
        have e:ask=ask.take k++(q1,q2)::ask.drop (k+1):=by rw [← hke];simp
        rw [e,List.find?_append,NO.o]
        simp
       rw [this])
      clear GE NO
      have BX:=hI (H.o.box.ext A1.o)
      have RX:=hI (H.o.row.ext A1.o)
      have CX:=hI (HC.o.ext A1.o)
      have f:=BX.o.box.f
      obtain ⟨x2,x3,x4,x5⟩:(∃ v,w2.cell? ⟨g,2,none⟩=some v)∧(∃ v,w2.cell? ⟨g,3,none⟩=some v)∧(∃ v,w2.cell? ⟨g,4,none⟩=some v)∧(∃ v,w2.cell? ⟨g,5,none⟩=some v):=⟨⟨_,BX.o.box.c 2 _ rfl⟩,⟨_,BX.o.box.c 3 _ rfl⟩,⟨_,BX.o.box.c 4 _ rfl⟩,⟨_,BX.o.box.c 5 _ rfl⟩⟩
      clear x2 x3 x4 x5
      have x2:=BX.o.box.c 2 _ rfl
      have x3:=BX.o.box.c 3 _ rfl
      have x4:=BX.o.box.c 4 _ rfl
      have x5:=BX.o.box.c 5 _ rfl
      simp only at x2 x3 x4 x5
      have W9:Hid (BoxC ((((w2.setCell ⟨g,2,none⟩ (.bool true)).setCell ⟨g,3,none⟩ (.int .i64 q1)).setCell ⟨g,4,none⟩ (.int .i64 q2)).setCell ⟨g,5,none⟩ (.int .i64 cm)) o c g (pfL ⟨nm,ask,true,q1,q2,cm⟩ (some ⟨b,oo,none⟩) cap)∧RowU 2 ((((w2.setCell ⟨g,2,none⟩ (.bool true)).setCell ⟨g,3,none⟩ (.int .i64 q1)).setCell ⟨g,4,none⟩ (.int .i64 q2)).setCell ⟨g,5,none⟩ (.int .i64 cm)) o (c+1) (some ⟨b,oo,none⟩) ask.length cap (ask.map qL)∧Fm (two c) o o w ((((w2.setCell ⟨g,2,none⟩ (.bool true)).setCell ⟨g,3,none⟩ (.int .i64 q1)).setCell ⟨g,4,none⟩ (.int .i64 q2)).setCell ⟨g,5,none⟩ (.int .i64 cm))):=hI (by
       have GR:=grown_put (grown_put (grown_put (grown_put (grown_refl w2 (some g)) 2 (.bool true)) 3 (.int .i64 q1)) 4 (.int .i64 q2)) 5 (.int .i64 cm)
       have hr:∀ k,some g=some k→o k≠1∧(fun d=>d=c) (o k):=fun k hk=>by cases hk;rw [BX.o.col];exact ⟨by have:=H1.o;omega,rfl⟩
       have F1:=Fm.grown (C:=fun d=>d=c) CX.o GR hr
       exact ⟨(((BX.o.put 2 _).put 3 _).put 4 _).put 5 _,RX.o.fr F1 (by have:=H1.o;omega) (by omega),(Fm.ext HC.o A1.o).tr (F1.mono (fun d hd=>.inl hd)) (by unfold two;have:=H1.o;omega)⟩)
      go_wp2_with fail
      go_region
      clear y0 y1 x2 x3 x4 x5 f
      generalize (((w2.setCell ⟨g,2,none⟩ (.bool true)).setCell ⟨g,3,none⟩ (.int .i64 q1)).setCell ⟨g,4,none⟩ (.int .i64 q2)).setCell ⟨g,5,none⟩ (.int .i64 cm)=w9 at *
      go_wp2
      go_ret
      exact ⟨⟨true,rfl⟩,by rw [GF.o];exact ⟨_,cap,W9.o.1.ext (Ext.drew w9),W9.o.2.1.ext (Ext.drew w9)⟩,W9.o.2.2.tr (Fm.drew W9.o.2.2.cl) (by unfold two;have:=H1.o;omega)⟩
     ·have NO2:Hid ((ask.take (k+1)).find? (fun q=>q.1==num)=none):=hI (by
       rw [List.take_add_one,HQ.o,List.find?_append,NO.o]
       simp [hn])
      go_wp2
      go_roundw
      case rel=>exact ⟨k+1,by omega,by go_num,NO2,A1⟩
      case measure=>simp [intOf];omega
    ·have GF:Hid (G=⟨nm,ask,_,bn,bc,xc⟩):=hI (by
      rw [GE.o]
      have h1:=NO.o
      rw [List.take_of_length_le (by omega)] at h1
      rw [h1])
     go_wp2
     go_ret
     exact ⟨⟨false,rfl⟩,by rw [GF.o];exact ⟨p,cap,H.o.ext X.o⟩,Fm.ext HC.o X.o⟩
end
section
open Go Go.Sort Go.RowKit
structure E8 where
 e0:Int
 e1:Int
 e2:Int
 e3:Int
 e4:Int
 e5:Int
 e6:Int
 e7:Int
def E8.at (x:E8):Nat→Int
 | 0=>x.e0
 | 1=>x.e1
 | 2=>x.e2
 | 3=>x.e3
 | 4=>x.e4
 | 5=>x.e5
 | 6=>x.e6
 | 7=>x.e7
 | _=>0
def E8.set (x:E8) (k:Nat) (v:Int):E8:=
 match k with
 | 0=>{ x with e0:=v }
 | 1=>{ x with e1:=v }
 | 2=>{ x with e2:=v }
 | 3=>{ x with e3:=v }
 | 4=>{ x with e4:=v }
 | 5=>{ x with e5:=v }
 | 6=>{ x with e6:=v }
 | 7=>{ x with e7:=v }
 | _=>x
def E8.all (v:Int):E8:=⟨v,v,v,v,v,v,v,v⟩
abbrev E8.L (x:E8):List Value:=[.int .i64 x.e0,.int .i64 x.e1,.int .i64 x.e2,.int .i64 x.e3,.int .i64 x.e4,.int .i64 x.e5,.int .i64 x.e6,.int .i64 x.e7]
theorem E8.upd (x:E8) {k:Nat} (hk:k<8) (v:Int):updF x.at k v=(x.set k v).at:=by
 funext i
 rcases lt8 hk with rfl | rfl | rfl | rfl | rfl | rfl | rfl | rfl <;> (unfold updF E8.set E8.at;split <;> first | (subst_vars;rfl) | (split <;> first | rfl | (simp_all)))
structure QnD where
 who:Int
 num:Int
 pr:Int
abbrev qnL (x:QnD):List Value:=[.int .i64 x.who,.int .i64 x.num,.int .i64 x.pr]
def VtV (w:World) (o:Ow) (c:Nat) (a:Option Nat) (n:Int):Option (Int × List VoK)→Prop
 | none=>a=none
 | some v=>∃ g,a=some g∧VsV w o c g v.1 n v.2
theorem VtV.fr {C:Nat→Prop} {w w':World} {o o':Ow} {c:Nat} {a:Option Nat} {n:Int} {v:Option (Int × List VoK)} (h:VtV w o c a n v) (k:Fm C o o' w w') (h0:¬ C 0) (h1:1<c) (hc:¬ C c) (hc':¬ C (c+1)):VtV w' o' c a n v:=by
 cases v with
 | none=>exact h
 | some v=>
  obtain ⟨g,e,h⟩:=h
  exact ⟨g,e,h.fr k h0 h1 hc hc'⟩
theorem VtV.ext {w w':World} {o:Ow} {c:Nat} {a:Option Nat} {n:Int} {v:Option (Int × List VoK)} (h:VtV w o c a n v) (k:Ext w w'):VtV w' o c a n v:=by
 cases v with
 | none=>exact h
 | some v=>
  obtain ⟨g,e,h⟩:=h
  exact ⟨g,e,h.ext k⟩
theorem PfV.ext {w w':World} {o:Ow} {c g:Nat} {x:PfD} (h:PfV w o c g x) (k:Ext w w'):PfV w' o c g x:=by
 obtain ⟨p,cap,h⟩:=h
 exact ⟨p,cap,h.ext k⟩
def QvV (w:World) (o:Ow) (c:Nat) (a:Option Nat):Option QuD→Prop
 | none=>a=none
 | some q=>∃ g,a=some g∧QuV w o c g q
theorem QvV.fr {C:Nat→Prop} {w w':World} {o o':Ow} {c:Nat} {a:Option Nat} {q:Option QuD} (h:QvV w o c a q) (k:Fm C o o' w w') (h1:1<c) (hc:¬ C c):QvV w' o' c a q:=by
 cases q with
 | none=>exact h
 | some q=>
  obtain ⟨g,e,h⟩:=h
  exact ⟨g,e,h.fr k h1 hc⟩
theorem QvV.ext {w w':World} {o:Ow} {c:Nat} {a:Option Nat} {q:Option QuD} (h:QvV w o c a q) (k:Ext w w'):QvV w' o c a q:=by
 cases q with
 | none=>exact h
 | some q=>
  obtain ⟨g,e,h⟩:=h
  exact ⟨g,e,h.ext k⟩
structure OuOk (w:World) (o:Ow) (d:MsgD):Prop where
 ok:MsOk d.m
 sl:SlC 7 w o d.p d.L.length d.cap (d.L.map enL)
 en:∀ e ∈ d.L,EnOk e
def keyO (d:MsgD):MsD × List EnD:=(d.m,d.L)
def OutV (w:World) (o:Ow) (c:Nat) (p:Option Addr) (cap:Nat) (ms:List (MsD × List EnD)):Prop:=
 ∃ ds:List MsgD,ds.map keyO=ms∧RowC 76 13 w o c p ds.length cap (ds.map msgL)∧∀ d ∈ ds,OuOk w o d
theorem OuOk.fr {C:Nat→Prop} {w w':World} {o o':Ow} {d:MsgD} (h:OuOk w o d) (k:Fm C o o' w w') (h0:¬ C 0):OuOk w' o' d:=⟨h.ok,h.sl.fr k h0,h.en⟩
theorem OuOk.ext {w w':World} {o:Ow} {d:MsgD} (h:OuOk w o d) (k:Ext w w'):OuOk w' o d:=⟨h.ok,h.sl.ext k,h.en⟩
theorem OutV.fr {C:Nat→Prop} {w w':World} {o o':Ow} {c cap:Nat} {p:Option Addr} {ms:List (MsD × List EnD)} (h:OutV w o c p cap ms) (k:Fm C o o' w w') (h0:¬ C 0) (h1:1<c) (hc:¬ C c):OutV w' o' c p cap ms:=by
 obtain ⟨ds,e,r,a⟩:=h
 exact ⟨ds,e,r.fr k (by omega) hc,fun d hd=>(a d hd).fr k h0⟩
theorem OutV.ext {w w':World} {o:Ow} {c cap:Nat} {p:Option Addr} {ms:List (MsD × List EnD)} (h:OutV w o c p cap ms) (k:Ext w w'):OutV w' o c p cap ms:=by
 obtain ⟨ds,e,r,a⟩:=h
 exact ⟨ds,e,r.ext k,fun d hd=>(a d hd).ext k⟩
theorem OutV.none (w:World) (o:Ow) (c:Nat):OutV w o c .none 0 []:=⟨[],rfl,RowC.nil _ _ _ _ _,fun d hd=>by cases hd⟩
structure NdD where
 id:Int
 n:Int
 bt:Int
 ck:Int
 hd:Int
 bs:E8
 kn:Bool
 L:List EnD
 cm:Int
 ls:Int
 mb:Int
 sq:Int
 P:List EnD
 T:List TdD
 tm:Nat
 f:PfD
 v:Option (Int × List VoK)
 dn:Int
 ag:Bool
 mi:Bool
 q:Option QuD
 st:Int
 ac:Int
 er:E8
 ak:List QnD
 out:List (MsD × List EnD)
 dv:Int
 jp:Int
 jg:Bool
structure AdD where
 g:Nat
 j:Nat
 l:Nat
 p:Nat
 r:Nat
 t:Nat
 f:Nat
 v:Option Nat
 q:Option Nat
 ap:Option Addr
 ac:Nat
 op:Option Addr
 oc:Nat
def ptrO (a:Option Nat):Value:=.pointer (a.map fun g=>⟨g,0,none⟩)
abbrev ptrN (g:Nat):Value:=.pointer (some ⟨g,0,none⟩)
abbrev ndL (wb jd:Nat) (A:AdD) (s:NdD):List Value:=[.int .i64 s.id,.int .i64 s.n,.pointer (some ⟨wb,jd,none⟩),.int .i64 s.bt,.int .i64 s.ck,.int .i64 s.hd,ptrN A.g,ptrN A.j,.bool s.kn,ptrN A.l,.int .i64 s.cm,.int .i64 s.ls,.int .i64 s.mb,ptrN A.p,ptrN A.r,ptrN A.t,ptrN A.f,ptrO A.v,.int .i64 s.dn,.bool s.ag,.bool s.mi,ptrO A.q,.int .i64 s.st,.int .i64 s.ac,.int .i64 s.er.e0,.int .i64 s.er.e1,.int .i64 s.er.e2,.int .i64 s.er.e3,.int .i64 s.er.e4,.int .i64 s.er.e5,.int .i64 s.er.e6,.int .i64 s.er.e7,.slice A.ap s.ak.length A.ac,.slice A.op s.out.length A.oc]
structure NodeQ (w:World) (o:Ow) (k wb jd:Nat) (A:AdD) (s:NdD):Prop where
 dk:DkV w o (k+13) wb jd s.bt s.dv
 gr:BoxC w o (k+1) A.g (grL s.id s.bs.at zP)
 lg:LogV w o (k+2) A.l s.L
 pn:PnV w o (k+4) A.p s.id s.bt s.sq s.P
 rd:RdV w o (k+6) A.r s.T
 tb:TbV w o (k+8) A.t s.tm
 pf:PfV w o (k+9) A.f s.f
 vt:VtV w o (k+11) A.v s.n s.v
 qu:QvV w o (k+14) A.q s.q
 aks:RowC 200 3 w o (k+15) A.ap s.ak.length A.ac (s.ak.map qnL)
 ou:OutV w o (k+16) A.op A.oc s.out
 jn:JnV w o (k+17) A.j s.id s.n s.bt s.jp s.jg
theorem NodeQ.fr {C:Nat→Prop} {w w':World} {o o':Ow} {k wb jd:Nat} {A:AdD} {s:NdD} (h:NodeQ w o k wb jd A s) (hk:32≤k) (m:Fm C o o' w w') (h0:¬ C 0) (hC:∀ d,1≤d∧d≤17→¬ C (k+d)):NodeQ w' o' k wb jd A s:=
 ⟨h.dk.fr m (hC 13 (by omega)),h.gr.fr m (by omega) (hC 1 (by omega)),h.lg.fr m (by omega) (hC 2 (by omega)) (hC 3 (by omega)),h.pn.fr' m (by omega) (hC 4 (by omega)) (hC 5 (by omega)),h.rd.fr m (by omega) (hC 6 (by omega)) (hC 7 (by omega)),h.tb.fr m (by omega) (hC 8 (by omega)),h.pf.fr m (by omega) (hC 9 (by omega)) (hC 10 (by omega)),h.vt.fr m h0 (by omega) (hC 11 (by omega)) (hC 12 (by omega)),h.qu.fr m (by omega) (hC 14 (by omega)),h.aks.fr m (by omega) (hC 15 (by omega)),h.ou.fr m h0 (by omega) (hC 16 (by omega)),h.jn.fr m (by omega) (hC 17 (by omega))⟩
theorem NodeQ.ext {w w':World} {o:Ow} {k wb jd:Nat} {A:AdD} {s:NdD} (h:NodeQ w o k wb jd A s) (x:Ext w w'):NodeQ w' o k wb jd A s:=
 ⟨h.dk.ext x,h.gr.ext x,h.lg.ext x,h.pn.ext x,h.rd.ext x,h.tb.ext x,h.pf.ext x,h.vt.ext x,h.qu.ext x,h.aks.ext x,h.ou.ext x,h.jn.ext x⟩
theorem NodeQ.set_dk {C:Nat→Prop} {w w':World} {o o':Ow} {k wb jd:Nat} {A:AdD} {s:NdD} {xdv:Int}  (h:NodeQ w o k wb jd A s) (hk:32≤k) (x:DkV w' o' (k+13) wb jd s.bt xdv) (m:Fm C o o' w w') (hC:∀ d,C d→d=k+13∨(k+18≤d∧d≤k+20)):NodeQ w' o' k wb jd A { s with dv:=xdv }:=
 ⟨x,h.gr.fr m (by omega) (fun e=>by have:=hC _ e;omega),h.lg.fr m (by omega) (fun e=>by have:=hC _ e;omega) (fun e=>by have:=hC _ e;omega),h.pn.fr' m (by omega) (fun e=>by have:=hC _ e;omega) (fun e=>by have:=hC _ e;omega),h.rd.fr m (by omega) (fun e=>by have:=hC _ e;omega) (fun e=>by have:=hC _ e;omega),h.tb.fr m (by omega) (fun e=>by have:=hC _ e;omega),h.pf.fr m (by omega) (fun e=>by have:=hC _ e;omega) (fun e=>by have:=hC _ e;omega),h.vt.fr m (fun e=>by have:=hC _ e;omega) (by omega) (fun e=>by have:=hC _ e;omega) (fun e=>by have:=hC _ e;omega),h.qu.fr m (by omega) (fun e=>by have:=hC _ e;omega),h.aks.fr m (by omega) (fun e=>by have:=hC _ e;omega),h.ou.fr m (fun e=>by have:=hC _ e;omega) (by omega) (fun e=>by have:=hC _ e;omega),h.jn.fr m (by omega) (fun e=>by have:=hC _ e;omega)⟩
theorem NodeQ.set_gr {C:Nat→Prop} {w w':World} {o o':Ow} {k wb jd:Nat} {A:AdD} {s:NdD} {xbs:E8}  (h:NodeQ w o k wb jd A s) (hk:32≤k) (x:BoxC w' o' (k+1) A.g (grL s.id xbs.at zP)) (m:Fm C o o' w w') (hC:∀ d,C d→d=k+1∨(k+18≤d∧d≤k+20)):NodeQ w' o' k wb jd A { s with bs:=xbs }:=
 ⟨h.dk.fr m (fun e=>by have:=hC _ e;omega),x,h.lg.fr m (by omega) (fun e=>by have:=hC _ e;omega) (fun e=>by have:=hC _ e;omega),h.pn.fr' m (by omega) (fun e=>by have:=hC _ e;omega) (fun e=>by have:=hC _ e;omega),h.rd.fr m (by omega) (fun e=>by have:=hC _ e;omega) (fun e=>by have:=hC _ e;omega),h.tb.fr m (by omega) (fun e=>by have:=hC _ e;omega),h.pf.fr m (by omega) (fun e=>by have:=hC _ e;omega) (fun e=>by have:=hC _ e;omega),h.vt.fr m (fun e=>by have:=hC _ e;omega) (by omega) (fun e=>by have:=hC _ e;omega) (fun e=>by have:=hC _ e;omega),h.qu.fr m (by omega) (fun e=>by have:=hC _ e;omega),h.aks.fr m (by omega) (fun e=>by have:=hC _ e;omega),h.ou.fr m (fun e=>by have:=hC _ e;omega) (by omega) (fun e=>by have:=hC _ e;omega),h.jn.fr m (by omega) (fun e=>by have:=hC _ e;omega)⟩
theorem NodeQ.set_lg {C:Nat→Prop} {w w':World} {o o':Ow} {k wb jd:Nat} {A:AdD} {s:NdD} {xL:List EnD} {yl:Nat} (h:NodeQ w o k wb jd A s) (hk:32≤k) (x:LogV w' o' (k+2) yl xL) (m:Fm C o o' w w') (hC:∀ d,C d→d=k+2∨d=k+3∨(k+18≤d∧d≤k+20)):NodeQ w' o' k wb jd { A with l:=yl } { s with L:=xL }:=
 ⟨h.dk.fr m (fun e=>by have:=hC _ e;omega),h.gr.fr m (by omega) (fun e=>by have:=hC _ e;omega),x,h.pn.fr' m (by omega) (fun e=>by have:=hC _ e;omega) (fun e=>by have:=hC _ e;omega),h.rd.fr m (by omega) (fun e=>by have:=hC _ e;omega) (fun e=>by have:=hC _ e;omega),h.tb.fr m (by omega) (fun e=>by have:=hC _ e;omega),h.pf.fr m (by omega) (fun e=>by have:=hC _ e;omega) (fun e=>by have:=hC _ e;omega),h.vt.fr m (fun e=>by have:=hC _ e;omega) (by omega) (fun e=>by have:=hC _ e;omega) (fun e=>by have:=hC _ e;omega),h.qu.fr m (by omega) (fun e=>by have:=hC _ e;omega),h.aks.fr m (by omega) (fun e=>by have:=hC _ e;omega),h.ou.fr m (fun e=>by have:=hC _ e;omega) (by omega) (fun e=>by have:=hC _ e;omega),h.jn.fr m (by omega) (fun e=>by have:=hC _ e;omega)⟩
theorem NodeQ.set_pn {C:Nat→Prop} {w w':World} {o o':Ow} {k wb jd:Nat} {A:AdD} {s:NdD} {xsq:Int} {xP:List EnD} {yp:Nat} (h:NodeQ w o k wb jd A s) (hk:32≤k) (x:PnV w' o' (k+4) yp s.id s.bt xsq xP) (m:Fm C o o' w w') (hC:∀ d,C d→d=k+4∨d=k+5∨(k+18≤d∧d≤k+20)):NodeQ w' o' k wb jd { A with p:=yp } { s with sq:=xsq,P:=xP }:=
 ⟨h.dk.fr m (fun e=>by have:=hC _ e;omega),h.gr.fr m (by omega) (fun e=>by have:=hC _ e;omega),h.lg.fr m (by omega) (fun e=>by have:=hC _ e;omega) (fun e=>by have:=hC _ e;omega),x,h.rd.fr m (by omega) (fun e=>by have:=hC _ e;omega) (fun e=>by have:=hC _ e;omega),h.tb.fr m (by omega) (fun e=>by have:=hC _ e;omega),h.pf.fr m (by omega) (fun e=>by have:=hC _ e;omega) (fun e=>by have:=hC _ e;omega),h.vt.fr m (fun e=>by have:=hC _ e;omega) (by omega) (fun e=>by have:=hC _ e;omega) (fun e=>by have:=hC _ e;omega),h.qu.fr m (by omega) (fun e=>by have:=hC _ e;omega),h.aks.fr m (by omega) (fun e=>by have:=hC _ e;omega),h.ou.fr m (fun e=>by have:=hC _ e;omega) (by omega) (fun e=>by have:=hC _ e;omega),h.jn.fr m (by omega) (fun e=>by have:=hC _ e;omega)⟩
theorem NodeQ.set_rd {C:Nat→Prop} {w w':World} {o o':Ow} {k wb jd:Nat} {A:AdD} {s:NdD} {xT:List TdD} {yr:Nat} (h:NodeQ w o k wb jd A s) (hk:32≤k) (x:RdV w' o' (k+6) yr xT) (m:Fm C o o' w w') (hC:∀ d,C d→d=k+6∨d=k+7∨(k+18≤d∧d≤k+20)):NodeQ w' o' k wb jd { A with r:=yr } { s with T:=xT }:=
 ⟨h.dk.fr m (fun e=>by have:=hC _ e;omega),h.gr.fr m (by omega) (fun e=>by have:=hC _ e;omega),h.lg.fr m (by omega) (fun e=>by have:=hC _ e;omega) (fun e=>by have:=hC _ e;omega),h.pn.fr' m (by omega) (fun e=>by have:=hC _ e;omega) (fun e=>by have:=hC _ e;omega),x,h.tb.fr m (by omega) (fun e=>by have:=hC _ e;omega),h.pf.fr m (by omega) (fun e=>by have:=hC _ e;omega) (fun e=>by have:=hC _ e;omega),h.vt.fr m (fun e=>by have:=hC _ e;omega) (by omega) (fun e=>by have:=hC _ e;omega) (fun e=>by have:=hC _ e;omega),h.qu.fr m (by omega) (fun e=>by have:=hC _ e;omega),h.aks.fr m (by omega) (fun e=>by have:=hC _ e;omega),h.ou.fr m (fun e=>by have:=hC _ e;omega) (by omega) (fun e=>by have:=hC _ e;omega),h.jn.fr m (by omega) (fun e=>by have:=hC _ e;omega)⟩
theorem NodeQ.set_tb {C:Nat→Prop} {w w':World} {o o':Ow} {k wb jd:Nat} {A:AdD} {s:NdD} {xtm:Nat} {yt:Nat} (h:NodeQ w o k wb jd A s) (hk:32≤k) (x:TbV w' o' (k+8) yt xtm) (m:Fm C o o' w w') (hC:∀ d,C d→d=k+8∨(k+18≤d∧d≤k+20)):NodeQ w' o' k wb jd { A with t:=yt } { s with tm:=xtm }:=
 ⟨h.dk.fr m (fun e=>by have:=hC _ e;omega),h.gr.fr m (by omega) (fun e=>by have:=hC _ e;omega),h.lg.fr m (by omega) (fun e=>by have:=hC _ e;omega) (fun e=>by have:=hC _ e;omega),h.pn.fr' m (by omega) (fun e=>by have:=hC _ e;omega) (fun e=>by have:=hC _ e;omega),h.rd.fr m (by omega) (fun e=>by have:=hC _ e;omega) (fun e=>by have:=hC _ e;omega),x,h.pf.fr m (by omega) (fun e=>by have:=hC _ e;omega) (fun e=>by have:=hC _ e;omega),h.vt.fr m (fun e=>by have:=hC _ e;omega) (by omega) (fun e=>by have:=hC _ e;omega) (fun e=>by have:=hC _ e;omega),h.qu.fr m (by omega) (fun e=>by have:=hC _ e;omega),h.aks.fr m (by omega) (fun e=>by have:=hC _ e;omega),h.ou.fr m (fun e=>by have:=hC _ e;omega) (by omega) (fun e=>by have:=hC _ e;omega),h.jn.fr m (by omega) (fun e=>by have:=hC _ e;omega)⟩
theorem NodeQ.set_pf {C:Nat→Prop} {w w':World} {o o':Ow} {k wb jd:Nat} {A:AdD} {s:NdD} {xf:PfD} {yf:Nat} (h:NodeQ w o k wb jd A s) (hk:32≤k) (x:PfV w' o' (k+9) yf xf) (m:Fm C o o' w w') (hC:∀ d,C d→d=k+9∨d=k+10∨(k+18≤d∧d≤k+20)):NodeQ w' o' k wb jd { A with f:=yf } { s with f:=xf }:=
 ⟨h.dk.fr m (fun e=>by have:=hC _ e;omega),h.gr.fr m (by omega) (fun e=>by have:=hC _ e;omega),h.lg.fr m (by omega) (fun e=>by have:=hC _ e;omega) (fun e=>by have:=hC _ e;omega),h.pn.fr' m (by omega) (fun e=>by have:=hC _ e;omega) (fun e=>by have:=hC _ e;omega),h.rd.fr m (by omega) (fun e=>by have:=hC _ e;omega) (fun e=>by have:=hC _ e;omega),h.tb.fr m (by omega) (fun e=>by have:=hC _ e;omega),x,h.vt.fr m (fun e=>by have:=hC _ e;omega) (by omega) (fun e=>by have:=hC _ e;omega) (fun e=>by have:=hC _ e;omega),h.qu.fr m (by omega) (fun e=>by have:=hC _ e;omega),h.aks.fr m (by omega) (fun e=>by have:=hC _ e;omega),h.ou.fr m (fun e=>by have:=hC _ e;omega) (by omega) (fun e=>by have:=hC _ e;omega),h.jn.fr m (by omega) (fun e=>by have:=hC _ e;omega)⟩
theorem NodeQ.set_vt {C:Nat→Prop} {w w':World} {o o':Ow} {k wb jd:Nat} {A:AdD} {s:NdD} {xv:Option (Int × List VoK)} {yv:Option Nat} (h:NodeQ w o k wb jd A s) (hk:32≤k) (x:VtV w' o' (k+11) yv s.n xv) (m:Fm C o o' w w') (hC:∀ d,C d→d=k+11∨d=k+12∨(k+18≤d∧d≤k+20)):NodeQ w' o' k wb jd { A with v:=yv } { s with v:=xv }:=
 ⟨h.dk.fr m (fun e=>by have:=hC _ e;omega),h.gr.fr m (by omega) (fun e=>by have:=hC _ e;omega),h.lg.fr m (by omega) (fun e=>by have:=hC _ e;omega) (fun e=>by have:=hC _ e;omega),h.pn.fr' m (by omega) (fun e=>by have:=hC _ e;omega) (fun e=>by have:=hC _ e;omega),h.rd.fr m (by omega) (fun e=>by have:=hC _ e;omega) (fun e=>by have:=hC _ e;omega),h.tb.fr m (by omega) (fun e=>by have:=hC _ e;omega),h.pf.fr m (by omega) (fun e=>by have:=hC _ e;omega) (fun e=>by have:=hC _ e;omega),x,h.qu.fr m (by omega) (fun e=>by have:=hC _ e;omega),h.aks.fr m (by omega) (fun e=>by have:=hC _ e;omega),h.ou.fr m (fun e=>by have:=hC _ e;omega) (by omega) (fun e=>by have:=hC _ e;omega),h.jn.fr m (by omega) (fun e=>by have:=hC _ e;omega)⟩
theorem NodeQ.set_qu {C:Nat→Prop} {w w':World} {o o':Ow} {k wb jd:Nat} {A:AdD} {s:NdD} {xq:Option QuD} {yq:Option Nat} (h:NodeQ w o k wb jd A s) (hk:32≤k) (x:QvV w' o' (k+14) yq xq) (m:Fm C o o' w w') (hC:∀ d,C d→d=k+14∨(k+18≤d∧d≤k+20)):NodeQ w' o' k wb jd { A with q:=yq } { s with q:=xq }:=
 ⟨h.dk.fr m (fun e=>by have:=hC _ e;omega),h.gr.fr m (by omega) (fun e=>by have:=hC _ e;omega),h.lg.fr m (by omega) (fun e=>by have:=hC _ e;omega) (fun e=>by have:=hC _ e;omega),h.pn.fr' m (by omega) (fun e=>by have:=hC _ e;omega) (fun e=>by have:=hC _ e;omega),h.rd.fr m (by omega) (fun e=>by have:=hC _ e;omega) (fun e=>by have:=hC _ e;omega),h.tb.fr m (by omega) (fun e=>by have:=hC _ e;omega),h.pf.fr m (by omega) (fun e=>by have:=hC _ e;omega) (fun e=>by have:=hC _ e;omega),h.vt.fr m (fun e=>by have:=hC _ e;omega) (by omega) (fun e=>by have:=hC _ e;omega) (fun e=>by have:=hC _ e;omega),x,h.aks.fr m (by omega) (fun e=>by have:=hC _ e;omega),h.ou.fr m (fun e=>by have:=hC _ e;omega) (by omega) (fun e=>by have:=hC _ e;omega),h.jn.fr m (by omega) (fun e=>by have:=hC _ e;omega)⟩
theorem NodeQ.set_aks {C:Nat→Prop} {w w':World} {o o':Ow} {k wb jd:Nat} {A:AdD} {s:NdD} {xak:List QnD} {yap:Option Addr} {yac:Nat} (h:NodeQ w o k wb jd A s) (hk:32≤k) (x:RowC 200 3 w' o' (k+15) yap xak.length yac (xak.map qnL)) (m:Fm C o o' w w') (hC:∀ d,C d→d=k+15∨(k+18≤d∧d≤k+20)):NodeQ w' o' k wb jd { A with ap:=yap,ac:=yac } { s with ak:=xak }:=
 ⟨h.dk.fr m (fun e=>by have:=hC _ e;omega),h.gr.fr m (by omega) (fun e=>by have:=hC _ e;omega),h.lg.fr m (by omega) (fun e=>by have:=hC _ e;omega) (fun e=>by have:=hC _ e;omega),h.pn.fr' m (by omega) (fun e=>by have:=hC _ e;omega) (fun e=>by have:=hC _ e;omega),h.rd.fr m (by omega) (fun e=>by have:=hC _ e;omega) (fun e=>by have:=hC _ e;omega),h.tb.fr m (by omega) (fun e=>by have:=hC _ e;omega),h.pf.fr m (by omega) (fun e=>by have:=hC _ e;omega) (fun e=>by have:=hC _ e;omega),h.vt.fr m (fun e=>by have:=hC _ e;omega) (by omega) (fun e=>by have:=hC _ e;omega) (fun e=>by have:=hC _ e;omega),h.qu.fr m (by omega) (fun e=>by have:=hC _ e;omega),x,h.ou.fr m (fun e=>by have:=hC _ e;omega) (by omega) (fun e=>by have:=hC _ e;omega),h.jn.fr m (by omega) (fun e=>by have:=hC _ e;omega)⟩
theorem NodeQ.set_ou {C:Nat→Prop} {w w':World} {o o':Ow} {k wb jd:Nat} {A:AdD} {s:NdD} {xout:List (MsD × List EnD)} {yop:Option Addr} {yoc:Nat} (h:NodeQ w o k wb jd A s) (hk:32≤k) (x:OutV w' o' (k+16) yop yoc xout) (m:Fm C o o' w w') (hC:∀ d,C d→d=k+16∨(k+18≤d∧d≤k+20)):NodeQ w' o' k wb jd { A with op:=yop,oc:=yoc } { s with out:=xout }:=
 ⟨h.dk.fr m (fun e=>by have:=hC _ e;omega),h.gr.fr m (by omega) (fun e=>by have:=hC _ e;omega),h.lg.fr m (by omega) (fun e=>by have:=hC _ e;omega) (fun e=>by have:=hC _ e;omega),h.pn.fr' m (by omega) (fun e=>by have:=hC _ e;omega) (fun e=>by have:=hC _ e;omega),h.rd.fr m (by omega) (fun e=>by have:=hC _ e;omega) (fun e=>by have:=hC _ e;omega),h.tb.fr m (by omega) (fun e=>by have:=hC _ e;omega),h.pf.fr m (by omega) (fun e=>by have:=hC _ e;omega) (fun e=>by have:=hC _ e;omega),h.vt.fr m (fun e=>by have:=hC _ e;omega) (by omega) (fun e=>by have:=hC _ e;omega) (fun e=>by have:=hC _ e;omega),h.qu.fr m (by omega) (fun e=>by have:=hC _ e;omega),h.aks.fr m (by omega) (fun e=>by have:=hC _ e;omega),x,h.jn.fr m (by omega) (fun e=>by have:=hC _ e;omega)⟩
theorem NodeQ.set_jn {C:Nat→Prop} {w w':World} {o o':Ow} {k wb jd:Nat} {A:AdD} {s:NdD} {xjg:Bool}  (h:NodeQ w o k wb jd A s) (hk:32≤k) (x:JnV w' o' (k+17) A.j s.id s.n s.bt s.jp xjg) (m:Fm C o o' w w') (hC:∀ d,C d→d=k+17∨(k+18≤d∧d≤k+20)):NodeQ w' o' k wb jd A { s with jg:=xjg }:=
 ⟨h.dk.fr m (fun e=>by have:=hC _ e;omega),h.gr.fr m (by omega) (fun e=>by have:=hC _ e;omega),h.lg.fr m (by omega) (fun e=>by have:=hC _ e;omega) (fun e=>by have:=hC _ e;omega),h.pn.fr' m (by omega) (fun e=>by have:=hC _ e;omega) (fun e=>by have:=hC _ e;omega),h.rd.fr m (by omega) (fun e=>by have:=hC _ e;omega) (fun e=>by have:=hC _ e;omega),h.tb.fr m (by omega) (fun e=>by have:=hC _ e;omega),h.pf.fr m (by omega) (fun e=>by have:=hC _ e;omega) (fun e=>by have:=hC _ e;omega),h.vt.fr m (fun e=>by have:=hC _ e;omega) (by omega) (fun e=>by have:=hC _ e;omega) (fun e=>by have:=hC _ e;omega),h.qu.fr m (by omega) (fun e=>by have:=hC _ e;omega),h.aks.fr m (by omega) (fun e=>by have:=hC _ e;omega),h.ou.fr m (fun e=>by have:=hC _ e;omega) (by omega) (fun e=>by have:=hC _ e;omega),x⟩
structure NdOk (s:NdD):Prop where
 id:1≤s.id∧s.id≤s.n
 n:3≤s.n∧s.n≤7
 bt:1≤s.bt∧s.bt≤1000
 ck:0≤s.ck∧s.ck≤1000000
 hd:0≤s.hd∧s.hd≤1000000
 cm:0≤s.cm∧s.cm≤60
 ls:0≤s.ls∧s.ls≤1000000000
 mb:isT s.mb
 sq:0≤s.sq∧s.sq≤1000000
 dn:0≤s.dn∧s.dn≤1000000000
 st:0≤s.st∧s.st≤60
 ac:isT s.ac
 er:∀ i,0≤s.er.at i∧s.er.at i≤1000000
 dv:0≤s.dv∧s.dv≤1000000000
 L:∀ e ∈ s.L,mayB e=true
 P:∀ e ∈ s.P,mayB e=true
 T:s.T.length≤50000
 tm:s.tm≤100000
 ak:s.ak.length≤1000
 out:s.out.length≤1000
 f:0≤s.f.nm∧s.f.nm≤1099511626776
 bc:0≤s.f.bc∧s.f.bc≤1000000
structure NodeP (w:World) (o:Ow) (k x wb jd:Nat) (A:AdD) (s:NdD):Prop where
 box:BoxC w o k x (ndL wb jd A s)
 q:NodeQ w o k wb jd A s
 ok:NdOk s
def NodeV (w:World) (o:Ow) (k x wb jd:Nat) (s:NdD):Prop:=∃ A,NodeP w o k x wb jd A s
def ndC (k:Nat) (d:Nat):Prop:=k≤d∧d≤k+20
def ndI (k:Nat) (d:Nat):Prop:=k≤d∧d≤k+17
theorem NodeP.fr {C:Nat→Prop} {w w':World} {o o':Ow} {k x wb jd:Nat} {A:AdD} {s:NdD} (h:NodeP w o k x wb jd A s) (hk:32≤k) (m:Fm C o o' w w') (h0:¬ C 0) (hC:∀ d,C d→¬ ndI k d):NodeP w' o' k x wb jd A s:=
 ⟨h.box.fr m (by omega) (fun e=>hC _ e ⟨by omega,by omega⟩),h.q.fr hk m h0 (fun d hd e=>hC _ e ⟨by omega,by omega⟩),h.ok⟩
theorem NodeP.ext {w w':World} {o:Ow} {k x wb jd:Nat} {A:AdD} {s:NdD} (h:NodeP w o k x wb jd A s) (e:Ext w w'):NodeP w' o k x wb jd A s:=⟨h.box.ext e,h.q.ext e,h.ok⟩
theorem NodeV.fr {C:Nat→Prop} {w w':World} {o o':Ow} {k x wb jd:Nat} {s:NdD} (h:NodeV w o k x wb jd s) (hk:32≤k) (m:Fm C o o' w w') (h0:¬ C 0) (hC:∀ d,C d→¬ ndI k d):NodeV w' o' k x wb jd s:=by
 obtain ⟨A,h⟩:=h
 exact ⟨A,h.fr hk m h0 hC⟩
theorem NodeV.ext {w w':World} {o:Ow} {k x wb jd:Nat} {s:NdD} (h:NodeV w o k x wb jd s) (e:Ext w w'):NodeV w' o k x wb jd s:=by
 obtain ⟨A,h⟩:=h
 exact ⟨A,h.ext e⟩
theorem NodeP.put {w:World} {o:Ow} {k x wb jd:Nat} {A A':AdD} {s s':NdD} (hcl:Cl w o) (hk:32≤k) (h:NodeP w o k x wb jd A s) (i:Nat) (v:Value) (hb:(ndL wb jd A s).set i v=ndL wb jd A' s') (hq:NodeQ (w.setCell ⟨x,i,none⟩ v) o k wb jd A s→NodeQ (w.setCell ⟨x,i,none⟩ v) o k wb jd A' s') (hok:NdOk s') :
  NodeP (w.setCell ⟨x,i,none⟩ v) o k x wb jd A' s'∧Fm (one k) o o w (w.setCell ⟨x,i,none⟩ v):=by
 have F:=Fm.put (C:=one k) hcl h.box (by omega) rfl i v
 refine ⟨⟨?_,hq (h.q.fr hk F (by unfold one;omega) (fun d hd=>by unfold one;omega)),hok⟩,F⟩
 have:=h.box.put i v
 rwa [hb] at this
theorem nd0 {k:Nat} (hk:32≤k):¬ ndC k 0:=by unfold ndC;omega
end
section
open Go Go.Sort Go.RowKit
theorem NodeP.g {w:World} {o:Ow} {k x wb jd:Nat} {A:AdD} {s:NdD} (h:NodeP w o k x wb jd A s) (i:Nat) (v:Value) (hv:(ndL wb jd A s)[i]?=some v):∀ d os,(grow (redrawn w d) os).cell? ⟨x,i,none⟩=some v:=
 fun d os=>Ext.cell (Ext.reg w d os) (h.box.box.c i v hv)
theorem NodeP.c {w:World} {o:Ow} {k x wb jd:Nat} {A:AdD} {s:NdD} (h:NodeP w o k x wb jd A s) (i:Nat) (v:Value) (hv:(ndL wb jd A s)[i]?=some v):w.cell? ⟨x,i,none⟩=some v:=h.box.box.c i v hv
def inV (s:NdD):Bool:=s.kn&&(decide (0<s.ls)&&(decide (s.ls=s.dv)&&hasT s.mb s.id))
def lateN (s:NdD):Bool:=decide (8+2 * s.id≤s.ck-s.hd)
def goodN (s:NdD):Bool:=inV s&&goodP s.f s.ck s.cm
theorem lfrom0_any {w:World} {o:Ow} {c g:Nat} {L:List EnD} (h:LogV w o c g L) :
  Calls Tryz.prog 78 #[.pointer (some ⟨g,0,none⟩),.int .i64 0] w fun e w'=>∃ p' cap',e=.returned (.slice p' L.length cap')∧OwS 71 7 w' w.heap.size p' L.length cap' (L.map enL)∧Ext w w':=
 lfrom_any (a:=0) h (by omega)
variable {w:World} {o:Ow} {k x wb jd:Nat} {A:AdD} {s:NdD}
theorem nin_any (h:NodeP w o k x wb jd A s) :
  Calls Tryz.prog 50 #[ptrN x] w fun e w'=>e=.returned (.bool (inV s))∧Ext w w':=by
 have H:=hI h
 have hid:isId s.id:=⟨h.ok.id.1,by have:=h.ok.id.2;have:=h.ok.n.2;omega⟩
 have HI:=hI hid
 have HM:=hI h.ok.mb
 clear hid
 obtain ⟨W,hW⟩:∃ W,W=w.drew:=⟨_,rfl⟩
 have XW:Hid (Ext w W):=hI (by rw [hW];exact Ext.drew w)
 have HP:=hI (h.ext XW.o)
 clear h
 cases hk:s.kn
 ·have e0:inV s=false:=by unfold inV;rw [hk];rfl
  rw [e0]
  clear e0
  have g8:∀ d os,(grow (redrawn W d) os).cell? ⟨x,8,none⟩=some (.bool false):=by rw [← hk];exact HP.o.g 8 _ rfl
  clear hk
  go_enter Tryz.func50,Tryz.ntmps50
  go_upto_region 1 with fail
  refine att [0,1,2,3,4,5,6,7,8,9,10,11,12,13,14,15,16,17,18,19,20,21,22,23,24,25,26,27,28,29,30,31,32,33,34,35,36,37,38] [] ?_
  rw [← hW]
  clear hW
  repeat ((first|refine aqq fun K hK=>?_|refine akk fun K hK=>?_);go_big_quiet_op;refine hK _ ?_;clear hK K)
  refine ra_nil ?_
  refine rt_nil ?_
  go_wp2
  go_ret
  exact ⟨rfl,XW.o⟩
 ·by_cases h2:0<s.ls
  ·by_cases h3:s.ls=s.dv
   ·have e0:inV s=hasT s.mb s.id:=by unfold inV;rw [hk,decide_eq_true h2,decide_eq_true h3];rfl
    rw [e0]
    clear e0
    have d2:decide (0<s.ls)=true:=decide_eq_true h2
    have d3:(s.ls==s.dv)=true:=by simpa using h3
    have g8:∀ d os,(grow (redrawn W d) os).cell? ⟨x,8,none⟩=some (.bool true):=by rw [← hk];exact HP.o.g 8 _ rfl
    have g11:=HP.o.g 11 _ rfl
    have g2:=HP.o.g 2 _ rfl
    have g12:=HP.o.g 12 _ rfl
    have g0:=HP.o.g 0 _ rfl
    clear h2 h3
    clear hk
    go_enter Tryz.func50,Tryz.ntmps50
    go_upto_region 1 with fail
    refine att [0,1,2,3,4,5,6,7,8,9,10,11,12,13,14,15,16,17,18,19,20,21,22,23,24,25,26,27,28,29,30,31,32,33,34,35,36,37,38] [] ?_
    rw [← hW]
    clear hW
    repeat ((first|refine aqq fun K hK=>?_|refine akk fun K hK=>?_);go_big_quiet_op;refine hK _ ?_;clear hK K)
    refine acc fun K hK=>?_
    go_simp
    refine (dview_any HP.o.q.dk).mono ?_
    rintro e w2 ⟨rfl,rfl⟩
    refine hK _ _ (Ext.rfl' _) ?_;clear hK K
    repeat ((first|refine aqq fun K hK=>?_|refine akk fun K hK=>?_);go_big_quiet_op;refine hK _ ?_;clear hK K)
    refine acc fun K hK=>?_
    go_simp
    refine (thas_any _ _ HM.o HI.o _).mono ?_
    rintro e w2 ⟨rfl,rfl⟩
    refine hK _ _ (Ext.rfl' _) ?_;clear hK K
    repeat ((first|refine aqq fun K hK=>?_|refine akk fun K hK=>?_);go_big_quiet_op;refine hK _ ?_;clear hK K)
    refine ra_nil ?_
    refine rt_nil ?_
    go_wp2
    go_ret
    exact ⟨rfl,XW.o⟩
   ·have e0:inV s=false:=by unfold inV;rw [hk,decide_eq_true h2,decide_eq_false h3];rfl
    rw [e0]
    clear e0
    have d2:decide (0<s.ls)=true:=decide_eq_true h2
    have d3:(s.ls==s.dv)=false:=by simpa using h3
    have g8:∀ d os,(grow (redrawn W d) os).cell? ⟨x,8,none⟩=some (.bool true):=by rw [← hk];exact HP.o.g 8 _ rfl
    have g11:=HP.o.g 11 _ rfl
    have g2:=HP.o.g 2 _ rfl
    clear h2 h3
    clear hk
    go_enter Tryz.func50,Tryz.ntmps50
    go_upto_region 1 with fail
    refine att [0,1,2,3,4,5,6,7,8,9,10,11,12,13,14,15,16,17,18,19,20,21,22,23,24,25,26,27,28,29,30,31,32,33,34,35,36,37,38] [] ?_
    rw [← hW]
    clear hW
    repeat ((first|refine aqq fun K hK=>?_|refine akk fun K hK=>?_);go_big_quiet_op;refine hK _ ?_;clear hK K)
    refine acc fun K hK=>?_
    go_simp
    refine (dview_any HP.o.q.dk).mono ?_
    rintro e w2 ⟨rfl,rfl⟩
    refine hK _ _ (Ext.rfl' _) ?_;clear hK K
    repeat ((first|refine aqq fun K hK=>?_|refine akk fun K hK=>?_);go_big_quiet_op;refine hK _ ?_;clear hK K)
    refine ra_nil ?_
    refine rt_nil ?_
    go_wp2
    go_ret
    exact ⟨rfl,XW.o⟩
  ·have e0:inV s=false:=by unfold inV;rw [hk,decide_eq_false h2];rfl
   rw [e0]
   clear e0
   have d2:decide (0<s.ls)=false:=decide_eq_false h2
   have g8:∀ d os,(grow (redrawn W d) os).cell? ⟨x,8,none⟩=some (.bool true):=by rw [← hk];exact HP.o.g 8 _ rfl
   have g11:=HP.o.g 11 _ rfl
   clear h2
   clear hk
   go_enter Tryz.func50,Tryz.ntmps50
   go_upto_region 1 with fail
   refine att [0,1,2,3,4,5,6,7,8,9,10,11,12,13,14,15,16,17,18,19,20,21,22,23,24,25,26,27,28,29,30,31,32,33,34,35,36,37,38] [] ?_
   rw [← hW]
   clear hW
   repeat ((first|refine aqq fun K hK=>?_|refine akk fun K hK=>?_);go_big_quiet_op;refine hK _ ?_;clear hK K)
   refine ra_nil ?_
   refine rt_nil ?_
   go_wp2
   go_ret
   exact ⟨rfl,XW.o⟩
theorem nlate_any (h:NodeP w o k x wb jd A s) :
  Calls Tryz.prog 108 #[ptrN x] w fun e w'=>e=.returned (.bool (lateN s))∧Ext w w':=by
 have r1:=h.ok.ck
 have r2:=h.ok.hd
 have r3:=h.ok.id
 have r4:=h.ok.n
 obtain ⟨W,hW⟩:∃ W,W=w.drew:=⟨_,rfl⟩
 have XW:Hid (Ext w W):=hI (by rw [hW];exact Ext.drew w)
 have HP:=hI (h.ext XW.o)
 clear h
 have w1:wrap64 (s.ck-s.hd)=s.ck-s.hd:=by unfold wrap64;omega
 have w2:wrap64 (2 * s.id)=2 * s.id:=by unfold wrap64;omega
 have w3:wrap64 (8+2 * s.id)=8+2 * s.id:=by unfold wrap64;omega
 clear r1 r2 r3 r4
 have g4:=HP.o.g 4 _ rfl
 have g5:=HP.o.g 5 _ rfl
 have g0:=HP.o.g 0 _ rfl
 go_enter Tryz.func108,Tryz.ntmps108
 go_upto_region 1 with fail
 refine att [0,1,2,3,4,5,6,7,8,9,10,11,12,13,14,15,16] [] ?_
 rw [← hW]
 clear hW
 repeat ((first|refine aqq fun K hK=>?_|refine akk fun K hK=>?_);go_big_quiet_op;refine hK _ ?_;clear hK K)
 refine ra_nil ?_
 refine rt_nil ?_
 go_wp2
 go_ret
 exact ⟨rfl,XW.o⟩
theorem ndecides_any (h:NodeP w o k x wb jd A s) :
  Calls Tryz.prog 106 #[ptrN x] w fun e w'=>e=.returned (.bool (inV s&&s.mi))∧Ext w w':=by
 have H:=hI h
 clear h
 cases hin:inV s
 ·go_enter Tryz.func106,Tryz.ntmps106
  go_wp2_with fail
  refine (nin_any H.o).mono ?_
  rw [hin]
  rintro e w2 ⟨rfl,x2⟩
  have X:=hI x2
  clear x2
  go_wp2
  go_ret
  exact ⟨rfl,X.o⟩
 ·go_enter Tryz.func106,Tryz.ntmps106
  go_wp2_with fail
  refine (nin_any H.o).mono ?_
  rw [hin]
  rintro e w2 ⟨rfl,x2⟩
  have X:=hI x2
  have c20:=(H.o.ext x2).c 20 _ rfl
  clear x2
  go_wp2
  go_ret
  exact ⟨by simp,X.o⟩
theorem nview_any (h:NodeP w o k x wb jd A s) :
  Calls Tryz.prog 36 #[ptrN x] w fun e w'=>e=.returned (.tuple #[.int .i64 (if inV s then s.ls else 0),.int .i64 (if inV s then s.mb else 0),.bool (inV s)])∧Ext w w':=by
 have H:=hI h
 clear h
 cases hin:inV s
 ·go_enter Tryz.func36,Tryz.ntmps36
  go_wp2_with fail
  refine (nin_any H.o).mono ?_
  rw [hin]
  rintro e w2 ⟨rfl,x2⟩
  have X:=hI x2
  clear x2
  go_wp2
  go_ret3
  exact ⟨rfl,X.o⟩
 ·go_enter Tryz.func36,Tryz.ntmps36
  go_wp2_with fail
  refine (nin_any H.o).mono ?_
  rw [hin]
  rintro e w2 ⟨rfl,x2⟩
  obtain ⟨W,hW⟩:∃ W,W=w2.drew:=⟨_,rfl⟩
  have XW:Hid (Ext w W):=hI (by rw [hW];exact x2.tr (Ext.drew w2))
  have HP:=hI (H.o.ext XW.o)
  have g11:=HP.o.g 11 _ rfl
  have g12:=HP.o.g 12 _ rfl
  clear x2
  go_upto_region 3 with fail
  refine att [0,1,2,3,4,5,6,7,8,9,10] [] ?_
  rw [← hW]
  clear hW
  repeat ((first|refine aqq fun K hK=>?_|refine akk fun K hK=>?_);go_big_quiet_op;refine hK _ ?_;clear hK K)
  refine ra_nil ?_
  refine rt_nil ?_
  go_wp2
  go_ret3
  exact ⟨rfl,XW.o⟩
theorem ngood_any (h:NodeP w o k x wb jd A s) :
  Calls Tryz.prog 21 #[ptrN x] w fun e w'=>e=.returned (.bool (goodN s))∧Ext w w':=by
 have H:=hI h
 have K:=hI (And.intro h.ok.ck h.ok.bc)
 obtain ⟨W,hW⟩:∃ W,W=w.drew:=⟨_,rfl⟩
 have XW:Hid (Ext w W):=hI (by rw [hW];exact Ext.drew w)
 have HP:=hI (h.ext XW.o)
 clear h
 cases hin:inV s
 ·have e0:goodN s=false:=by unfold goodN;rw [hin];rfl
  rw [e0]
  clear e0
  go_enter Tryz.func21,Tryz.ntmps21
  go_upto_region 1 with fail
  refine att [0,1,2,3,4,5,6,7,8,9,10,11,12,13,14,15,16,17] [] ?_
  rw [← hW]
  clear hW
  repeat ((first|refine aqq fun K hK=>?_|refine akk fun K hK=>?_);go_big_quiet_op;refine hK _ ?_;clear hK K)
  refine acc fun K hK=>?_
  go_simp
  refine (nin_any HP.o).mono ?_
  rw [hin]
  rintro e w2 ⟨rfl,x2⟩
  have X2:=hI (XW.o.tr x2)
  refine hK _ _ x2 ?_
  clear hK K x2
  repeat ((first|refine aqq fun K hK=>?_|refine akk fun K hK=>?_);go_big_quiet_op;refine hK _ ?_;clear hK K)
  refine ra_nil ?_
  refine rt_nil ?_
  go_wp2
  go_ret
  exact ⟨rfl,X2.o⟩
 ·have e0:goodN s=goodP s.f s.ck s.cm:=by unfold goodN;rw [hin];rfl
  rw [e0]
  clear e0
  have K2:=K
  go_enter Tryz.func21,Tryz.ntmps21
  go_upto_region 1 with fail
  refine att [0,1,2,3,4,5,6,7,8,9,10,11,12,13,14,15,16,17] [] ?_
  rw [← hW]
  clear hW
  repeat ((first|refine aqq fun K hK=>?_|refine akk fun K hK=>?_);go_big_quiet_op;refine hK _ ?_;clear hK K)
  refine acc fun K hK=>?_
  go_simp
  refine (nin_any HP.o).mono ?_
  rw [hin]
  rintro e w2 ⟨rfl,x2⟩
  have X2:=hI (XW.o.tr x2)
  have HP2:=hI (HP.o.ext x2)
  refine hK _ _ x2 ?_
  clear hK K x2
  have g16:=HP2.o.g 16 _ rfl
  have g4:=HP2.o.g 4 _ rfl
  have g10:=HP2.o.g 10 _ rfl
  repeat ((first|refine aqq fun K hK=>?_|refine akk fun K hK=>?_);go_big_quiet_op;refine hK _ ?_;clear hK K)
  refine acc fun K hK=>?_
  go_simp
  refine (pgood_any HP2.o.q.pf ⟨K2.o.1.1,by have:=K2.o.1.2;omega⟩ ⟨K2.o.2.1,by have:=K2.o.2.2;omega⟩).mono ?_
  rintro e w3 ⟨rfl,rfl⟩
  refine hK _ _ (Ext.rfl' _) ?_;clear hK K
  repeat ((first|refine aqq fun K hK=>?_|refine akk fun K hK=>?_);go_big_quiet_op;refine hK _ ?_;clear hK K)
  refine ra_nil ?_
  refine rt_nil ?_
  go_wp2
  go_ret
  exact ⟨rfl,X2.o⟩
theorem ncommit_any (h:NodeP w o k x wb jd A s) :
  Calls Tryz.prog 55 #[ptrN x] w fun e w'=>e=.returned (.int .i64 s.cm)∧w=w':=by
 have c10:=h.c 10 _ rfl
 clear h
 go_enter Tryz.func55,Tryz.ntmps55
 go_wp2
 go_ret
 exact ⟨rfl,rfl⟩
theorem nboot_any (h:NodeP w o k x wb jd A s) :
  Calls Tryz.prog 34 #[ptrN x] w fun e w'=>e=.returned (.int .i64 s.bt)∧w=w':=by
 have c3:=h.c 3 _ rfl
 clear h
 go_enter Tryz.func34,Tryz.ntmps34
 go_wp2
 go_ret
 exact ⟨rfl,rfl⟩
theorem nknows_any (h:NodeP w o k x wb jd A s) :
  Calls Tryz.prog 33 #[ptrN x] w fun e w'=>e=.returned (.bool s.kn)∧w=w':=by
 have c8:=h.c 8 _ rfl
 clear h
 go_enter Tryz.func33,Tryz.ntmps33
 go_wp2
 go_ret
 exact ⟨rfl,rfl⟩
theorem ntold_any (h:NodeP w o k x wb jd A s) :
  Calls Tryz.prog 28 #[ptrN x] w fun e w'=>∃ p' cap',e=.returned (.slice p' s.T.length cap')∧OwS 109 8 w' w.heap.size p' s.T.length cap' (s.T.map tdL)∧Ext w w':=by
 have H:=hI h
 have c14:=h.c 14 _ rfl
 clear h
 go_enter Tryz.func28,Tryz.ntmps28
 go_wp2_with fail
 refine (rtold_any H.o.q.rd).mono ?_
 rintro e w2 ⟨p2,c2,rfl,o2,x2⟩
 have O2:=hI o2
 have X2:=hI x2
 clear o2 x2
 go_wp2
 go_ret
 exact ⟨_,_,rfl,O2.o,X2.o⟩
theorem nlog_any (h:NodeP w o k x wb jd A s) :
  Calls Tryz.prog 56 #[ptrN x] w fun e w'=>∃ p' cap',e=.returned (.slice p' s.L.length cap')∧OwS 71 7 w' w.heap.size p' s.L.length cap' (s.L.map enL)∧Ext w w':=by
 have H:=hI h
 have c9:=h.c 9 _ rfl
 clear h
 go_enter Tryz.func56,Tryz.ntmps56
 go_wp2_with fail
 refine (lfrom0_any H.o.q.lg).mono ?_
 rintro e w2 ⟨p2,c2,rfl,o2,x2⟩
 have O2:=hI o2
 have X2:=hI x2
 clear o2 x2
 go_wp2
 go_ret
 exact ⟨_,_,rfl,O2.o,X2.o⟩
end
section
open Go Go.Sort Go.RowKit
variable {w w4:World} {o o4:Ow} {k x wb jd:Nat} {A A':AdD} {s s':NdD}
theorem NodeP.mod {C:Nat→Prop} (hk:32≤k) (H:NodeP w o k x wb jd A s) (f:Fm C o o4 w w4) (hC:∀ d,C d→ndC k d∧d≠k) (q4:NodeQ w4 o4 k wb jd A' s') (i:Nat) (v:Value) (hb:(ndL wb jd A s).set i v=ndL wb jd A' s') (ok:NdOk s') :
  NodeP (w4.setCell ⟨x,i,none⟩ v) o4 k x wb jd A' s'∧Fm (ndC k) o o4 w (w4.setCell ⟨x,i,none⟩ v):=by
 have B4:=H.box.fr f (by omega) (fun e=>(hC _ e).2 rfl)
 have F:=Fm.put (C:=one k) f.cl B4 (by omega) rfl i v
 have B5:=B4.put i v
 rw [hb] at B5
 exact ⟨⟨B5,q4.fr hk F (by unfold one;omega) (fun d hd=>by unfold one;omega),ok⟩,(f.mono (fun d hd=>(hC d hd).1)).tr (F.mono (fun d hd=>by unfold one at hd;unfold ndC;omega)) (nd0 hk)⟩
theorem NodeP.mod0 {C:Nat→Prop} (hk:32≤k) (H:NodeP w o k x wb jd A s) (f:Fm C o o4 w w4) (hC:∀ d,C d→ndC k d∧d≠k) (q4:NodeQ w4 o4 k wb jd A' s') (hb:ndL wb jd A s=ndL wb jd A' s') (ok:NdOk s') :
  NodeP w4 o4 k x wb jd A' s'∧Fm (ndC k) o o4 w w4:=by
 have B4:=H.box.fr f (by omega) (fun e=>(hC _ e).2 rfl)
 rw [hb] at B4
 exact ⟨⟨B4,q4,ok⟩,f.mono (fun d hd=>(hC d hd).1)⟩
def sayM (s:NdD) (m:MsD):MsD:={ m with fr:=s.id,bt:=s.bt }
def sayN (s:NdD) (m:MsD) (L:List EnD):NdD:={ s with out:=s.out++[(sayM s m,L)] }
theorem msL_one (m:MsD) (p:Option Addr) (n cap:Nat):∀ u ∈ msL m p n cap,u.oneCell'=true:=by simp [Value.oneCell']
theorem info_msg:(Tryz.prog.info? 76).map (fun i=>(i.zero,i.size,i.bytes))=some (some (msV zeroM none 0 0),13,120):=by kernel_rfl
theorem nsayA_any (hcl:Cl w o) (hk:32≤k) (h:NodeP w o k x wb jd A s) {m:MsD} {p:Option Addr} {cap:Nat} {L:List EnD} (hm:MsOk (sayM s m)) (hs:SlC 7 w o p L.length cap (L.map enL)) (hL:∀ e ∈ L,EnOk e) (hl:s.out.length<1000) :
  Calls Tryz.prog 114 #[ptrN x,msV m p L.length cap] w fun e w'=>e=.returned (.tuple #[])∧∃ o' p' c',NodeP w' o' k x wb jd { A with op:=p',oc:=c' } (sayN s m L)∧Fm (ndC k) o o' w w':=by
 have HK:=hI hk
 have HMO:=hI hm
 have HL:=hI hL
 obtain ⟨k1,k2,k3,k4,k5,k6,k7,k8,k9,k10,k11,k12⟩:=m
 have M0:Hid (Fm (fun _=>False) o (dye o w.heap.size (k+20)) w (w.alloc (.cells (msA ⟨k1,k2,k3,k4,k5,k6,k7,k8,k9,k10,k11,k12⟩ p L.length cap) 76))):=hI (Fm.made hcl _ _)
 have MB:=hI (BoxC.made w o (k+20) (msA ⟨k1,k2,k3,k4,k5,k6,k7,k8,k9,k10,k11,k12⟩ p L.length cap) (msL ⟨k1,k2,k3,k4,k5,k6,k7,k8,k9,k10,k11,k12⟩ p L.length cap) 76 rfl)
 have H:=hI (h.fr hk M0.o (fun e=>e) (fun d e=>e.elim))
 have S:=hI (hs.fr M0.o (fun e=>e))
 have HLN:=hI hl
 clear hcl h hm hs hL hl hk
 go_enter Tryz.func114,Tryz.ntmps114
 go_upto_region 1 with fail
 change Code.wp _ _ _ _ (w.alloc (.cells (msA ⟨k1,k2,k3,k4,k5,k6,k7,k8,k9,k10,k11,k12⟩ p L.length cap) 76))
 generalize w.alloc (.cells (msA ⟨k1,k2,k3,k4,k5,k6,k7,k8,k9,k10,k11,k12⟩ p L.length cap) 76)=w1 at *
 generalize w.heap.size=mb at *
 generalize dye o mb (k+20)=o1 at *
 have c0:=H.o.c 0 _ rfl
 have c3:=H.o.c 3 _ rfl
 have b1:=MB.o.box.c 1 _ rfl
 have b3:=MB.o.box.c 3 _ rfl
 have f1:=MB.o.box.f 1
 have f3:=MB.o.box.f 3
 have F1:=hI (Fm.put (C:=one (k+20)) M0.o.cl MB.o (by have:=HK.o;omega) rfl 1 (.int .i64 s.id))
 have F2:=hI (Fm.put (C:=one (k+20)) F1.o.cl (MB.o.put 1 (.int .i64 s.id)) (by have:=HK.o;omega) rfl 3 (.int .i64 s.bt))
 have h20:¬ one (k+20) 0:=by unfold one;omega
 have FF:=hI ((F1.o.tr F2.o h20).tr (Fm.ext F2.o.cl (Ext.drew _)) h20)
 have MB2:=hI ((((MB.o.put 1 (.int .i64 s.id)).put 3 (.int .i64 s.bt))).ext (Ext.drew _))
 go_region
 clear c0 c3 b1 b3 f1 f3 F1 F2
 generalize ((w1.setCell ⟨mb,1,none⟩ (.int .i64 s.id)).setCell ⟨mb,3,none⟩ (.int .i64 s.bt)).drew=w2 at *
 have H2:=hI (H.o.fr HK.o FF.o h20 (fun d hd=>by unfold one at hd;unfold ndI;omega))
 have S2:=hI (S.o.fr FF.o h20)
 have M2:Hid (Fm (ndC k) o o1 w w2):=hI ((M0.o.mono (fun d e=>e.elim)).tr (FF.o.mono (fun d hd=>by unfold one at hd;unfold ndC;omega)) (nd0 HK.o))
 clear H S M0 MB FF h20
 obtain ⟨ds,he,r0,ao⟩:=H2.o.q.ou
 have hlen:s.out.length=ds.length:=by rw [← he];simp
 have R0:=hI r0
 have AO:=hI ao
 have HEQ:=hI he
 have HLEN:=hI hlen
 clear r0 ao he
 obtain ⟨M,hM⟩:∃ M:MsD,M=⟨k1,s.id,k3,s.bt,k5,k6,k7,k8,k9,k10,k11,k12⟩:=⟨_,rfl⟩
 have HMQ:=hI hM
 clear hM
 have d0:=MB2.o.box.c 0 _ rfl
 have d1:=MB2.o.box.c 1 _ rfl
 have d2:=MB2.o.box.c 2 _ rfl
 have d3:=MB2.o.box.c 3 _ rfl
 have d4:=MB2.o.box.c 4 _ rfl
 have d5:=MB2.o.box.c 5 _ rfl
 have d6:=MB2.o.box.c 6 _ rfl
 have d7:=MB2.o.box.c 7 _ rfl
 have d8:=MB2.o.box.c 8 _ rfl
 have d9:=MB2.o.box.c 9 _ rfl
 have d10:=MB2.o.box.c 10 _ rfl
 have d11:=MB2.o.box.c 11 _ rfl
 have d12:=MB2.o.box.c 12 _ rfl
 have A1:=hI (Ext.alloc w2 (.cells (msA ⟨k1,s.id,k3,s.bt,k5,k6,k7,k8,k9,k10,k11,k12⟩ p L.length cap) 76))
 have A2:=hI (A1.o.tr (Ext.drew (w2.alloc (.cells (msA ⟨k1,s.id,k3,s.bt,k5,k6,k7,k8,k9,k10,k11,k12⟩ p L.length cap) 76))))
 have a0:=(MB2.o.ext A1.o).box.c 0 _ rfl
 have a1:=(MB2.o.ext A1.o).box.c 1 _ rfl
 have a2:=(MB2.o.ext A1.o).box.c 2 _ rfl
 have a3:=(MB2.o.ext A1.o).box.c 3 _ rfl
 have a4:=(MB2.o.ext A1.o).box.c 4 _ rfl
 have a5:=(MB2.o.ext A1.o).box.c 5 _ rfl
 have a6:=(MB2.o.ext A1.o).box.c 6 _ rfl
 have a7:=(MB2.o.ext A1.o).box.c 7 _ rfl
 have a8:=(MB2.o.ext A1.o).box.c 8 _ rfl
 have a9:=(MB2.o.ext A1.o).box.c 9 _ rfl
 have a10:=(MB2.o.ext A1.o).box.c 10 _ rfl
 have a11:=(MB2.o.ext A1.o).box.c 11 _ rfl
 have a12:=(MB2.o.ext A1.o).box.c 12 _ rfl
 have c33:=H2.o.c 33 _ rfl
 have b33:=(H2.o.ext A1.o).c 33 _ rfl
 rw [hlen] at c33 b33
 have hl6:ds.length≤1000000:=by have:=HLN.o;omega
 clear hlen
 go_upto_region 2 with fail
 go_region_law (refine step_appC (by rfl) _ _ _ (by rfl) 76 13 120 _ Tryz.underlying98 info_msg (by rfl) (by omega) (M2.o.cl.ext A2.o) (R0.o.ext A2.o) (by rfl) w2.heap.size 1 (msL ⟨k1,s.id,k3,s.bt,k5,k6,k7,k8,k9,k10,k11,k12⟩ p L.length cap) (by rfl) (by rfl) (fun j u hu=>news_at (w:=w2) rfl j u hu) (msL_one _ _ _ _) (by simpa using hl6) (by omega) (by have:=HK.o;omega) (fun d=>d=k+16) rfl ?_;intro p4 c4 o4 w4 r4 f4;have D4:=hI ((H2.o.ext A2.o).box.fr f4 (by have:=HK.o;omega) (by omega));have b4:=D4.o.box.c 33 _ rfl;have f40:=D4.o.box.f 33)
 all_goals
  have OU4:Hid (OutV w4 o4 (k+16) p4 c4 (s.out++[(sayM s ⟨k1,k2,k3,k4,k5,k6,k7,k8,k9,k10,k11,k12⟩,L)])):=hI ⟨ds++[⟨⟨k1,s.id,k3,s.bt,k5,k6,k7,k8,k9,k10,k11,k12⟩,p,cap,L⟩],by rw [← HEQ.o];simp [keyO,sayM],by have:=r4;simpa using this,fun d hd=>by
   rcases List.mem_append.1 hd with hd | hd
   ·exact ((AO.o d hd).ext A2.o).fr f4 (by omega)
   ·simp at hd
    subst hd
    exact ⟨HMO.o,(S2.o.ext A2.o).fr f4 (by omega),HL.o⟩⟩
  have e5:(sayN s ⟨k1,k2,k3,k4,k5,k6,k7,k8,k9,k10,k11,k12⟩ L).out.length=ds.length+1:=by simp [sayN,HLEN.o]
  obtain ⟨N5,M5⟩:=NodeP.mod (A':={ A with op:=p4,oc:=c4 }) (s':=sayN s ⟨k1,k2,k3,k4,k5,k6,k7,k8,k9,k10,k11,k12⟩ L) HK.o (H2.o.ext A2.o) f4 (fun d hd=>by unfold ndC;omega) ((H2.o.ext A2.o).q.set_ou HK.o OU4.o f4 (fun d hd=>.inl hd)) 33 (.slice p4 (ds.length+1) c4) (by rw [← e5];rfl) { H2.o.ok with out:=(by have:=HLN.o;rw [e5,← HLEN.o];omega) }
  have N6:=hI N5
  have M6:=hI ((M2.o.tr (Fm.ext M2.o.cl A2.o) (nd0 HK.o)).tr M5 (nd0 HK.o))
  refine bodyPost_end (v:=.tuple #[]) (by simp [results,Tryz.results114,go_sem]) rfl ?_
  exact ⟨rfl,o4,p4,c4,N6.o,M6.o⟩
theorem nsay_any (hcl:Cl w o) (hk:32≤k) (h:NodeP w o k x wb jd A s) {m:MsD} {p:Option Addr} {cap:Nat} {L:List EnD} (hm:MsOk (sayM s m)) (hs:SlC 7 w o p L.length cap (L.map enL)) (hL:∀ e ∈ L,EnOk e) (hl:s.out.length<1000) :
  Calls Tryz.prog 114 #[ptrN x,msV m p L.length cap] w fun e w'=>e=.returned (.tuple #[])∧∃ o' A',NodeP w' o' k x wb jd A' (sayN s m L)∧Fm (ndC k) o o' w w':=
 (nsayA_any hcl hk h hm hs hL hl).mono (fun e w' ⟨h1,o',p',c',h2,h3⟩=>⟨h1,o',_,h2,h3⟩)
end
section
open Go Go.Sort Go.RowKit
theorem mayB_ok {e:EnD} (h:mayB e=true):EnOk e:=by
 unfold mayB inB at h
 simp only [Bool.and_eq_true,decide_eq_true_eq] at h
 obtain ⟨⟨a1,a2⟩,⟨b1,b2⟩,⟨c1,c2⟩,⟨d1,d2⟩,⟨e1,e2⟩,⟨f1,f2⟩,g⟩:=h
 unfold EnOk I64
 refine ⟨⟨?_,?_⟩,⟨?_,?_⟩,⟨?_,?_⟩,⟨?_,?_⟩,⟨?_,?_⟩,⟨?_,?_⟩,?_⟩ <;> omega
theorem mayM_ok {m:MsD} {L:List EnD} (h:mayM m L=true):MsOk m∧∀ e ∈ L,EnOk e:=by
 obtain ⟨h1,h2,h3,h4⟩:=mayM_iff.1 h
 have h1:=(who_iff m).1 h1
 have h2:=(what_iff m).1 h2
 refine ⟨?_,fun e he=>mayB_ok (List.all_eq_true.1 h4 e he)⟩
 unfold MsOk I64
 refine ⟨⟨?_,?_⟩,⟨?_,?_⟩,⟨?_,?_⟩,⟨?_,?_⟩,⟨?_,?_⟩,⟨?_,?_⟩,⟨?_,?_⟩,⟨?_,?_⟩,⟨?_,?_⟩,⟨?_,?_⟩,⟨?_,?_⟩⟩ <;> omega
def BS (w0:World) (x:Nat) (W:World):Prop:=∀ i,W.cell? ⟨x,i,none⟩=w0.cell? ⟨x,i,none⟩
theorem BS.fm {C:Nat→Prop} {w0 w w':World} {o o':Ow} {c g:Nat} {vs:List Value} (h:BS w0 g w) (b:BoxC w o c g vs) (k:Fm C o o' w w') (h1:c≠1) (hc:¬ C c):BS w0 g w':=fun i=>
 (World.cell?_of_block (k.blk g b.box.hi (by rw [b.col];exact h1) (by rw [b.col];exact hc))).trans (h i)
theorem BS.ext {w0 w w':World} {o:Ow} {c g:Nat} {vs:List Value} (h:BS w0 g w) (b:BoxC w o c g vs) (k:Ext w w'):BS w0 g w':=fun i=>(World.cell?_of_block (k.block g b.box.hi)).trans (h i)
theorem BS.rfl' (w:World) (x:Nat):BS w x w:=fun _=>rfl
def inF (a b:Nat) (x:Int):Bool:=Int.casesOn x (fun n=>cond (Nat.ble a n) (Nat.ble n b) false) (fun _=>false)
theorem inF_is (a b:Nat) (x:Int):inF a b x=inB (a:Int) (b:Int) x:=by
 cases x with
 | ofNat n=>
  show cond (Nat.ble a n) (Nat.ble n b) false=(decide ((a:Int)≤Int.ofNat n)&&decide (Int.ofNat n≤(b:Int)))
  rw [Bool.cond_false_right,Bool.eq_iff_iff]
  simp only [Bool.and_eq_true,Nat.ble_eq,decide_eq_true_eq,Int.ofNat_eq_natCast,Int.ofNat_le]
 | negSucc n=>
  show false=(decide ((a:Int)≤Int.negSucc n)&&decide (Int.negSucc n≤(b:Int)))
  rw [decide_eq_false (by omega),Bool.false_and]
def mayF (m:MsD) (L:List EnD):Bool:=cond (inF 1 13 m.kd) (cond (inF 1 7 m.fr) (cond (inF 1 7 m.to) (cond (m.fr != m.to) (cond (inF 1 1099511627776 m.bt) (cond (inF 0 1099511627776 m.vw) (cond (inF 0 1099511627776 m.ls) (cond (inF 0 1099511627776 m.nm) (cond (inF 0 1099511627776 m.ck) (cond (inF 0 127 m.mb) (cond (inF 0 60 m.po) (cond (inF 0 60 m.cm) (decide (L.length≤60)&&L.all mayB) false) false) false) false) false) false) false) false) false) false) false) false
theorem mayF_is (m:MsD) (L:List EnD):mayF m L=mayM m L:=by
 unfold mayF mayM whoB whatB
 simp only [inF_is,Bool.cond_false_right,List.all_cons,List.all_nil,Bool.and_true,Bool.and_assoc]
 rfl
def sayO (s:NdD) (m:MsD) (L:List EnD):Option NdD:=if mayF (sayM s m) L&&decide (s.out.length<1000) then some (sayN s m L) else none
variable {w w4:World} {o o4:Ow} {k x wb jd:Nat} {A A':AdD} {s s':NdD}
theorem nsayO_any (hcl:Cl w o) (hk:32≤k) (h:NodeP w o k x wb jd A s) {m:MsD} {p:Option Addr} {cap:Nat} {L:List EnD} (hs:SlC 7 w o p L.length cap (L.map enL)) (hm:sayO s m L=some s') :
  Calls Tryz.prog 114 #[ptrN x,msV m p L.length cap] w fun e w'=>e=.returned (.tuple #[])∧∃ o' A',NodeP w' o' k x wb jd A' s'∧Fm (ndC k) o o' w w':=by
 unfold sayO at hm
 split at hm
 case isFalse=>cases hm
 rename_i h1
 rw [Bool.and_eq_true,decide_eq_true_eq,mayF_is] at h1
 cases hm
 obtain ⟨h2,h3⟩:=mayM_ok h1.1
 exact nsay_any hcl hk h h2 hs h3 h1.2
theorem nsayOA_any (hcl:Cl w o) (hk:32≤k) (h:NodeP w o k x wb jd A s) {m:MsD} {p:Option Addr} {cap:Nat} {L:List EnD} (hs:SlC 7 w o p L.length cap (L.map enL)) (hm:sayO s m L=some s') :
  Calls Tryz.prog 114 #[ptrN x,msV m p L.length cap] w fun e w'=>e=.returned (.tuple #[])∧∃ o' p' c',NodeP w' o' k x wb jd { A with op:=p',oc:=c' } s'∧Fm (ndC k) o o' w w':=by
 unfold sayO at hm
 split at hm
 case isFalse=>cases hm
 rename_i h1
 rw [Bool.and_eq_true,decide_eq_true_eq,mayF_is] at h1
 cases hm
 obtain ⟨h2,h3⟩:=mayM_ok h1.1
 exact nsayA_any hcl hk h h2 hs h3 h1.2
def ackM (s:NdD) (tw num:Int):MsD:=⟨6,0,tw,0,s.ls,0,0,s.L.length,0,num,0,false⟩
def ackO (s:NdD) (tw num:Int):Option NdD:=sayO s (ackM s tw num) []
def wholeM (s:NdD) (tw:Int):MsD:=⟨4,0,tw,0,s.ls,0,s.mb,0,s.cm,0,0,false⟩
def wholeO (s:NdD) (tw:Int):Option NdD:=sayO s (wholeM s tw) s.L
theorem nack_any (hcl:Cl w o) (hk:32≤k) (h:NodeP w o k x wb jd A s) {tw num:Int} (hs:ackO s tw num=some s') :
  Calls Tryz.prog 155 #[ptrN x,.int .i64 tw,.int .i64 num] w fun e w'=>e=.returned (.tuple #[])∧∃ o' A',NodeP w' o' k x wb jd A' s'∧Fm (ndC k) o o' w w':=by
 have HK:=hI hk
 have HS:=hI hs
 have HC:=hI hcl
 have H:=hI h
 clear hk hs hcl h
 go_enter Tryz.func155,Tryz.ntmps155
 go_upto_region 0 with fail
 obtain ⟨Ww,hW⟩:∃ Ww,Ww=w.drew:=⟨_,rfl⟩
 have X:Hid (Ext w Ww):=hI (by rw [hW];exact Ext.drew w)
 replace H:=hI (H.o.ext X.o)
 have g11:=H.o.g 11 _ rfl
 have g9:=H.o.g 9 _ rfl
 refine att [0,1,2,3,4,5,6,7,8,9,11,10,12] [13] ?_
 rw [← hW]
 clear hW
 repeat ((first|refine aqq fun K hK=>?_|refine akk fun K hK=>?_);go_big_quiet_op;refine hK _ ?_;clear hK K)
 refine acc fun K hK=>?_
 go_simp
 refine (llen_any H.o.q.lg).mono ?_
 rintro e w2 ⟨rfl,rfl⟩
 refine hK _ _ (Ext.rfl' _) ?_;clear hK K
 repeat ((first|refine aqq fun K hK=>?_|refine akk fun K hK=>?_);go_big_quiet_op;refine hK _ ?_;clear hK K)
 refine acc fun K hK=>?_
 go_simp
 refine hK _ _ (Ext.rfl' _) ?_;clear hK K
 refine ra_nil ?_
 refine too fun K hK=>?_
 go_simp
 refine (nsayO_any (m:=ackM s tw num) (HC.o.ext X.o) HK.o H.o (L:=[]) (SlC.empty 7 _ _) HS.o).mono ?_
 rintro e w9 ⟨rfl,o9,A9,n9,f9⟩
 have N9:=hI n9
 have F9:=hI ((Fm.ext HC.o X.o).tr f9 (nd0 HK.o))
 clear n9 f9
 refine hK _ _ ?_
 clear hK K
 refine rt_nil ?_
 refine bodyPost_end (v:=.tuple #[]) (by simp [results,Tryz.results155,go_sem]) rfl ?_
 exact ⟨rfl,o9,A9,N9.o,F9.o⟩
theorem nwhole_any (hcl:Cl w o) (hk:32≤k) (h:NodeP w o k x wb jd A s) {tw:Int} (hs:wholeO s tw=some s') :
  Calls Tryz.prog 145 #[ptrN x,.int .i64 tw] w fun e w'=>e=.returned (.tuple #[])∧∃ o' A',NodeP w' o' k x wb jd A' s'∧Fm (ndC k) o o' w w':=by
 have HK:=hI hk
 have HS:=hI hs
 have HC:=hI hcl
 have H:=hI h
 clear hk hs hcl h
 go_enter Tryz.func145,Tryz.ntmps145
 go_upto_region 0 with fail
 obtain ⟨Ww,hW⟩:∃ Ww,Ww=w.drew:=⟨_,rfl⟩
 have X:Hid (Ext w Ww):=hI (by rw [hW];exact Ext.drew w)
 replace H:=hI (H.o.ext X.o)
 have g11:=H.o.g 11 _ rfl
 have g12:=H.o.g 12 _ rfl
 have g9:=H.o.g 9 _ rfl
 have g10:=H.o.g 10 _ rfl
 refine att [0,1,2,3,4,5,6,7,8,9,10,11,12,13,15,16,17,18,14,19] [20] ?_
 rw [← hW]
 clear hW
 repeat ((first|refine aqq fun K hK=>?_|refine akk fun K hK=>?_);go_big_quiet_op;refine hK _ ?_;clear hK K)
 refine acc fun K hK=>?_
 go_simp
 refine (lfrom0_any H.o.q.lg).mono ?_
 rintro e w2 ⟨p2,c2,rfl,o2,x2⟩
 have S2:=hI (SlC.fresh o2 (HC.o.ext X.o) (Nat.le_refl _))
 have X2:=hI (X.o.tr x2)
 have H2:=hI (H.o.ext x2)
 refine hK _ _ x2 ?_
 clear hK K o2 x2
 repeat ((first|refine aqq fun K hK=>?_|refine akk fun K hK=>?_);go_big_quiet_op;refine hK _ ?_;clear hK K)
 refine acc fun K hK=>?_
 go_simp
 refine hK _ _ (Ext.rfl' _) ?_;clear hK K
 refine ra_nil ?_
 refine too fun K hK=>?_
 go_simp
 refine (nsayO_any (m:=wholeM s tw) (HC.o.ext X2.o) HK.o H2.o S2.o HS.o).mono ?_
 rintro e w9 ⟨rfl,o9,A9,n9,f9⟩
 have N9:=hI n9
 have F9:=hI ((Fm.ext HC.o X2.o).tr f9 (nd0 HK.o))
 clear n9 f9
 refine hK _ _ ?_
 clear hK K
 refine rt_nil ?_
 refine bodyPost_end (v:=.tuple #[]) (by simp [results,Tryz.results145,go_sem]) rfl ?_
 exact ⟨rfl,o9,A9,N9.o,F9.o⟩
end
section
open Go Go.Sort Go.RowKit
def foldO {σ α:Type} (F:σ→α→Option σ):List α→σ→Option σ
 | [],s=>some s
 | i::l,s=>match F s i with
  | none=>none
  | some s'=>foldO F l s'
theorem foldO_cons {σ α:Type} {F:σ→α→Option σ} {i:α} {l:List α} {s r:σ} (h:foldO F (i::l) s=some r):∃ s',F s i=some s'∧foldO F l s'=some r:=by
 unfold foldO at h
 cases e:F s i with
 | none=>rw [e] at h;cases h
 | some s'=>rw [e] at h;exact ⟨s',rfl,h⟩
def otherG {σ:Type} (F:σ→Int→Option σ) (id n:Int) (s:σ) (i:Int):Option σ:=if i=id then some s else if i≤n then F s i else some s
theorem ids_is {t i:Int} (h:i ∈ idsT.filter (hasT t)):isId i∧hasT t i=true:=by
 rw [List.mem_filter] at h
 refine ⟨?_,h.2⟩
 have:=h.1
 simp [idsT] at this
 unfold isId
 omega
variable {w:World} {o:Ow}
theorem others1 {σ:Type} {x kf:Nat} {id n t:Int} {a:Value} (R:σ→World→Ow→Prop) (F:σ→Int→Option σ) (C:Nat→Prop) (h0:¬ C 0) (ht:isT t)
  (hen:∀ (args:Array Value) (w:World),(callFunc kf args).run Tryz.prog w=.ok (.enter kf args) w)
  (hc:∀ s w o,R s w o→w.cell? ⟨x,0,none⟩=some (.int .i64 id)∧w.cell? ⟨x,1,none⟩=some (.int .i64 n))
  (hE:∀ s w w' o,R s w o→Ext w w'→R s w' o)
  (hF:∀ s s' w o i,isId i→hasT t i=true→i≠id→i≤n→R s w o→Cl w o→F s i=some s'→Calls Tryz.prog kf #[.int .i64 i,a] w fun e w'=>e=.returned (.tuple #[])∧∃ o',R s' w' o'∧Fm C o o' w w')
  {s s':σ} (hcl:Cl w o) (h:R s w o) (hf:foldO (otherG F id n) (idsT.filter (hasT t)) s=some s') :
  Calls Tryz.prog 136 #[ptrN x,.int .i64 t,.func (.func kf) #[] #[a]] w fun e w'=>e=.returned (.tuple #[])∧∃ o',R s' w' o'∧Fm C o o' w w':=by
 have HC:=hI hcl
 have HR:=hI h
 have HF:=hI hF
 have HE:=hI hE
 have HCC:=hI hc
 have H0:=hI h0
 have HFO:=hI hf
 clear hcl h hF hE hc h0 hf
 go_enter Tryz.func136,Tryz.ntmps136
 go_wp2_with fail
 refine (tlist_any t ht w).mono ?_
 rintro e w2 ⟨p,cap,rfl,o2,x2⟩
 have S2:Hid (SlC 1 w2 o p (idsT.filter (hasT t)).length cap ((idsT.filter (hasT t)).map intL)):=hI (SlC.fresh o2 HC.o (Nat.le_refl _))
 have R2:=hI (HE.o _ _ _ _ HR.o x2)
 have M2:=hI (Fm.ext (C:=C) HC.o x2)
 clear o2 x2 HR HC
 obtain ⟨ll,hll⟩:∃ ll,ll=idsT.filter (hasT t):=⟨_,rfl⟩
 have HI:Hid (∀ i ∈ ll,isId i∧hasT t i=true):=hI (fun i hi=>ids_is (by rw [← hll];exact hi))
 rw [← hll] at S2 HFO ⊢
 clear hll
 have hlen:ll.length≤9223372036854775807:=Nat.le_trans S2.o.sl.le S2.o.sl.max
 go_wp2
 go_loopw [11] (fun i wr=>∃ (k:Nat) (o1:Ow) (s1:σ),k≤ll.length∧i=.int .i64 (k:Int)∧R s1 wr o1∧foldO (otherG F id n) (ll.drop k) s1=some s'∧SlC 1 wr o1 p ll.length cap (ll.map intL)∧Fm C o o1 w wr) (fun i _=>ll.length-(intOf i).toNat)
 case atStart=>exact ⟨0,o,s,by omega,rfl,R2.o,HFO.o,S2.o,M2.o⟩
 case round=>
  obtain ⟨k,o1,s1,hk,rfl,r1,f1,sl1,m1⟩:=hrel
  have RR:=hI r1
  have FF:=hI f1
  have SS:=hI sl1
  have MM:=hI m1
  clear r1 f1 sl1 m1 R2 S2 M2 HFO
  by_cases hlt:k<ll.length
  ·obtain ⟨i,hi⟩:∃ i,ll[k]?=some i:=⟨_,List.getElem?_eq_getElem hlt⟩
   obtain ⟨b,oo,hp,cc⟩:∃ b oo,p=some ⟨b,oo,none⟩∧wr.cell? ⟨b,oo+k,none⟩=some (.int .i64 i):=by
    obtain ⟨b,oo,r,hp,hr,-,hc⟩:=SS.o.sl.at k hlt
    rw [List.getElem?_map,hi] at hr
    cases hr
    have:=hc 0 (.int .i64 i) rfl
    exact ⟨b,oo,hp,by simpa using this⟩
   obtain ⟨hid',hit⟩:=HI.o i (List.mem_of_getElem? hi)
   have HII:=hI (And.intro hid' hit)
   have hdrop:ll.drop k=i::ll.drop (k+1):=by
    rw [List.drop_eq_getElem_cons hlt]
    congr 1
    rw [List.getElem?_eq_getElem hlt] at hi
    exact Option.some.inj hi
   obtain ⟨s2,hs2,hr2⟩:=foldO_cons (by rw [← hdrop];exact FF.o)
   have HS2:=hI hs2
   have HR2:=hI hr2
   clear hs2 hr2 hdrop hi hid' hit
   subst hp
   have c0:=(HCC.o _ _ _ RR.o).1
   have c1:=(HCC.o _ _ _ RR.o).2
   by_cases he:i=id
   ·have e2:s2=s1:=by
     have:=HS2.o
     unfold otherG at this
     rw [if_pos he] at this
     exact (Option.some.inj this).symm
    have d1:(i==id)=true:=by simpa using he
    subst e2
    subst he
    go_wp2
    go_roundw
    case rel=>exact ⟨k+1,o1,s2,by omega,by go_num,RR.o,HR2.o,SS.o,MM.o⟩
    case measure=>simp [intOf];omega
   ·by_cases hn:i≤n
    ·have e2:F s1 i=some s2:=by
      have:=HS2.o
      unfold otherG at this
      rwa [if_neg he,if_pos hn] at this
     have CALL:=hI (HF.o s1 s2 wr o1 i HII.o.1 HII.o.2 he hn RR.o MM.o.cl e2)
     clear e2
     go_wp2_with fail
     refine CALL.o.mono ?_
     rintro e w4 ⟨rfl,o4,r4,m4⟩
     have R4:=hI r4
     have S4:=hI (SS.o.fr m4 H0.o)
     have M4:=hI (MM.o.tr m4 H0.o)
     clear r4 m4
     go_wp2
     go_roundw
     case rel=>exact ⟨k+1,o4,s2,by omega,by go_num,R4.o,HR2.o,S4.o,M4.o⟩
     case measure=>simp [intOf];omega
    ·have e2:s2=s1:=by
      have:=HS2.o
      unfold otherG at this
      rw [if_neg he,if_neg hn] at this
      exact (Option.some.inj this).symm
     subst e2
     go_wp2
     go_roundw
     case rel=>exact ⟨k+1,o1,s2,by omega,by go_num,RR.o,HR2.o,SS.o,MM.o⟩
     case measure=>simp [intOf];omega
  ·have e2:s1=s':=by
    have:=FF.o
    rw [List.drop_of_length_le (by omega)] at this
    exact Option.some.inj this
   subst e2
   go_wp2
   refine bodyPost_end (v:=.tuple #[]) (by simp [results,Tryz.results136,go_sem]) rfl ?_
   exact ⟨rfl,o1,RR.o,MM.o⟩
theorem others2 {σ:Type} {x kf:Nat} {id n t:Int} {a b:Value} (R:σ→World→Ow→Prop) (F:σ→Int→Option σ) (C:Nat→Prop) (h0:¬ C 0) (ht:isT t)
  (hen:∀ (args:Array Value) (w:World),(callFunc kf args).run Tryz.prog w=.ok (.enter kf args) w)
  (hc:∀ s w o,R s w o→w.cell? ⟨x,0,none⟩=some (.int .i64 id)∧w.cell? ⟨x,1,none⟩=some (.int .i64 n))
  (hE:∀ s w w' o,R s w o→Ext w w'→R s w' o)
  (hF:∀ s s' w o i,isId i→hasT t i=true→i≠id→i≤n→R s w o→Cl w o→F s i=some s'→Calls Tryz.prog kf #[.int .i64 i,a,b] w fun e w'=>e=.returned (.tuple #[])∧∃ o',R s' w' o'∧Fm C o o' w w')
  {s s':σ} (hcl:Cl w o) (h:R s w o) (hf:foldO (otherG F id n) (idsT.filter (hasT t)) s=some s') :
  Calls Tryz.prog 136 #[ptrN x,.int .i64 t,.func (.func kf) #[] #[a,b]] w fun e w'=>e=.returned (.tuple #[])∧∃ o',R s' w' o'∧Fm C o o' w w':=by
 have HC:=hI hcl
 have HR:=hI h
 have HF:=hI hF
 have HE:=hI hE
 have HCC:=hI hc
 have H0:=hI h0
 have HFO:=hI hf
 clear hcl h hF hE hc h0 hf
 go_enter Tryz.func136,Tryz.ntmps136
 go_wp2_with fail
 refine (tlist_any t ht w).mono ?_
 rintro e w2 ⟨p,cap,rfl,o2,x2⟩
 have S2:Hid (SlC 1 w2 o p (idsT.filter (hasT t)).length cap ((idsT.filter (hasT t)).map intL)):=hI (SlC.fresh o2 HC.o (Nat.le_refl _))
 have R2:=hI (HE.o _ _ _ _ HR.o x2)
 have M2:=hI (Fm.ext (C:=C) HC.o x2)
 clear o2 x2 HR HC
 obtain ⟨ll,hll⟩:∃ ll,ll=idsT.filter (hasT t):=⟨_,rfl⟩
 have HI:Hid (∀ i ∈ ll,isId i∧hasT t i=true):=hI (fun i hi=>ids_is (by rw [← hll];exact hi))
 rw [← hll] at S2 HFO ⊢
 clear hll
 have hlen:ll.length≤9223372036854775807:=Nat.le_trans S2.o.sl.le S2.o.sl.max
 go_wp2
 go_loopw [11] (fun i wr=>∃ (k:Nat) (o1:Ow) (s1:σ),k≤ll.length∧i=.int .i64 (k:Int)∧R s1 wr o1∧foldO (otherG F id n) (ll.drop k) s1=some s'∧SlC 1 wr o1 p ll.length cap (ll.map intL)∧Fm C o o1 w wr) (fun i _=>ll.length-(intOf i).toNat)
 case atStart=>exact ⟨0,o,s,by omega,rfl,R2.o,HFO.o,S2.o,M2.o⟩
 case round=>
  obtain ⟨k,o1,s1,hk,rfl,r1,f1,sl1,m1⟩:=hrel
  have RR:=hI r1
  have FF:=hI f1
  have SS:=hI sl1
  have MM:=hI m1
  clear r1 f1 sl1 m1 R2 S2 M2 HFO
  by_cases hlt:k<ll.length
  ·obtain ⟨i,hi⟩:∃ i,ll[k]?=some i:=⟨_,List.getElem?_eq_getElem hlt⟩
   obtain ⟨b,oo,hp,cc⟩:∃ b oo,p=some ⟨b,oo,none⟩∧wr.cell? ⟨b,oo+k,none⟩=some (.int .i64 i):=by
    obtain ⟨b,oo,r,hp,hr,-,hc⟩:=SS.o.sl.at k hlt
    rw [List.getElem?_map,hi] at hr
    cases hr
    have:=hc 0 (.int .i64 i) rfl
    exact ⟨b,oo,hp,by simpa using this⟩
   obtain ⟨hid',hit⟩:=HI.o i (List.mem_of_getElem? hi)
   have HII:=hI (And.intro hid' hit)
   have hdrop:ll.drop k=i::ll.drop (k+1):=by
    rw [List.drop_eq_getElem_cons hlt]
    congr 1
    rw [List.getElem?_eq_getElem hlt] at hi
    exact Option.some.inj hi
   obtain ⟨s2,hs2,hr2⟩:=foldO_cons (by rw [← hdrop];exact FF.o)
   have HS2:=hI hs2
   have HR2:=hI hr2
   clear hs2 hr2 hdrop hi hid' hit
   subst hp
   have c0:=(HCC.o _ _ _ RR.o).1
   have c1:=(HCC.o _ _ _ RR.o).2
   by_cases he:i=id
   ·have e2:s2=s1:=by
     have:=HS2.o
     unfold otherG at this
     rw [if_pos he] at this
     exact (Option.some.inj this).symm
    have d1:(i==id)=true:=by simpa using he
    subst e2
    subst he
    go_wp2
    go_roundw
    case rel=>exact ⟨k+1,o1,s2,by omega,by go_num,RR.o,HR2.o,SS.o,MM.o⟩
    case measure=>simp [intOf];omega
   ·by_cases hn:i≤n
    ·have e2:F s1 i=some s2:=by
      have:=HS2.o
      unfold otherG at this
      rwa [if_neg he,if_pos hn] at this
     have CALL:=hI (HF.o s1 s2 wr o1 i HII.o.1 HII.o.2 he hn RR.o MM.o.cl e2)
     clear e2
     go_wp2_with fail
     refine CALL.o.mono ?_
     rintro e w4 ⟨rfl,o4,r4,m4⟩
     have R4:=hI r4
     have S4:=hI (SS.o.fr m4 H0.o)
     have M4:=hI (MM.o.tr m4 H0.o)
     clear r4 m4
     go_wp2
     go_roundw
     case rel=>exact ⟨k+1,o4,s2,by omega,by go_num,R4.o,HR2.o,S4.o,M4.o⟩
     case measure=>simp [intOf];omega
    ·have e2:s2=s1:=by
      have:=HS2.o
      unfold otherG at this
      rw [if_neg he,if_neg hn] at this
      exact (Option.some.inj this).symm
     subst e2
     go_wp2
     go_roundw
     case rel=>exact ⟨k+1,o1,s2,by omega,by go_num,RR.o,HR2.o,SS.o,MM.o⟩
     case measure=>simp [intOf];omega
  ·have e2:s1=s':=by
    have:=FF.o
    rw [List.drop_of_length_le (by omega)] at this
    exact Option.some.inj this
   subst e2
   go_wp2
   refine bodyPost_end (v:=.tuple #[]) (by simp [results,Tryz.results136,go_sem]) rfl ?_
   exact ⟨rfl,o1,RR.o,MM.o⟩
theorem othersF {σ:Type} {x kf:Nat} {id n t:Int} {a:Value} (R:σ→World→Ow→Prop) (F:σ→Int→Option σ) (C:Nat→Prop) (h0:¬ C 0) (ht:isT t)
  (hen:∀ (args:Array Value) (w:World),(callFunc kf args).run Tryz.prog w=.ok (.enter kf args) w)
  (hc:∀ s w o,R s w o→w.cell? ⟨x,0,none⟩=some (.int .i64 id)∧w.cell? ⟨x,1,none⟩=some (.int .i64 n))
  (hE:∀ s w w' o,R s w o→Ext w w'→R s w' o)
  (hF:∀ s s' w o i,isId i→hasT t i=true→i≠id→i≤n→R s w o→Cl w o→F s i=some s'→Calls Tryz.prog kf #[a,.int .i64 i] w fun e w'=>e=.returned (.tuple #[])∧∃ o',R s' w' o'∧Fm C o o' w w')
  {s s':σ} (hcl:Cl w o) (h:R s w o) (hf:foldO (otherG F id n) (idsT.filter (hasT t)) s=some s') :
  Calls Tryz.prog 136 #[ptrN x,.int .i64 t,.func (.func kf) #[a] #[]] w fun e w'=>e=.returned (.tuple #[])∧∃ o',R s' w' o'∧Fm C o o' w w':=by
 have HC:=hI hcl
 have HR:=hI h
 have HF:=hI hF
 have HE:=hI hE
 have HCC:=hI hc
 have H0:=hI h0
 have HFO:=hI hf
 clear hcl h hF hE hc h0 hf
 go_enter Tryz.func136,Tryz.ntmps136
 go_wp2_with fail
 refine (tlist_any t ht w).mono ?_
 rintro e w2 ⟨p,cap,rfl,o2,x2⟩
 have S2:Hid (SlC 1 w2 o p (idsT.filter (hasT t)).length cap ((idsT.filter (hasT t)).map intL)):=hI (SlC.fresh o2 HC.o (Nat.le_refl _))
 have R2:=hI (HE.o _ _ _ _ HR.o x2)
 have M2:=hI (Fm.ext (C:=C) HC.o x2)
 clear o2 x2 HR HC
 obtain ⟨ll,hll⟩:∃ ll,ll=idsT.filter (hasT t):=⟨_,rfl⟩
 have HI:Hid (∀ i ∈ ll,isId i∧hasT t i=true):=hI (fun i hi=>ids_is (by rw [← hll];exact hi))
 rw [← hll] at S2 HFO ⊢
 clear hll
 have hlen:ll.length≤9223372036854775807:=Nat.le_trans S2.o.sl.le S2.o.sl.max
 go_wp2
 go_loopw [11] (fun i wr=>∃ (k:Nat) (o1:Ow) (s1:σ),k≤ll.length∧i=.int .i64 (k:Int)∧R s1 wr o1∧foldO (otherG F id n) (ll.drop k) s1=some s'∧SlC 1 wr o1 p ll.length cap (ll.map intL)∧Fm C o o1 w wr) (fun i _=>ll.length-(intOf i).toNat)
 case atStart=>exact ⟨0,o,s,by omega,rfl,R2.o,HFO.o,S2.o,M2.o⟩
 case round=>
  obtain ⟨k,o1,s1,hk,rfl,r1,f1,sl1,m1⟩:=hrel
  have RR:=hI r1
  have FF:=hI f1
  have SS:=hI sl1
  have MM:=hI m1
  clear r1 f1 sl1 m1 R2 S2 M2 HFO
  by_cases hlt:k<ll.length
  ·obtain ⟨i,hi⟩:∃ i,ll[k]?=some i:=⟨_,List.getElem?_eq_getElem hlt⟩
   obtain ⟨b,oo,hp,cc⟩:∃ b oo,p=some ⟨b,oo,none⟩∧wr.cell? ⟨b,oo+k,none⟩=some (.int .i64 i):=by
    obtain ⟨b,oo,r,hp,hr,-,hc⟩:=SS.o.sl.at k hlt
    rw [List.getElem?_map,hi] at hr
    cases hr
    have:=hc 0 (.int .i64 i) rfl
    exact ⟨b,oo,hp,by simpa using this⟩
   obtain ⟨hid',hit⟩:=HI.o i (List.mem_of_getElem? hi)
   have HII:=hI (And.intro hid' hit)
   have hdrop:ll.drop k=i::ll.drop (k+1):=by
    rw [List.drop_eq_getElem_cons hlt]
    congr 1
    rw [List.getElem?_eq_getElem hlt] at hi
    exact Option.some.inj hi
   obtain ⟨s2,hs2,hr2⟩:=foldO_cons (by rw [← hdrop];exact FF.o)
   have HS2:=hI hs2
   have HR2:=hI hr2
   clear hs2 hr2 hdrop hi hid' hit
   subst hp
   have c0:=(HCC.o _ _ _ RR.o).1
   have c1:=(HCC.o _ _ _ RR.o).2
   by_cases he:i=id
   ·have e2:s2=s1:=by
     have:=HS2.o
     unfold otherG at this
     rw [if_pos he] at this
     exact (Option.some.inj this).symm
    have d1:(i==id)=true:=by simpa using he
    subst e2
    subst he
    go_wp2
    go_roundw
    case rel=>exact ⟨k+1,o1,s2,by omega,by go_num,RR.o,HR2.o,SS.o,MM.o⟩
    case measure=>simp [intOf];omega
   ·by_cases hn:i≤n
    ·have e2:F s1 i=some s2:=by
      have:=HS2.o
      unfold otherG at this
      rwa [if_neg he,if_pos hn] at this
     have CALL:=hI (HF.o s1 s2 wr o1 i HII.o.1 HII.o.2 he hn RR.o MM.o.cl e2)
     clear e2
     go_wp2_with fail
     refine CALL.o.mono ?_
     rintro e w4 ⟨rfl,o4,r4,m4⟩
     have R4:=hI r4
     have S4:=hI (SS.o.fr m4 H0.o)
     have M4:=hI (MM.o.tr m4 H0.o)
     clear r4 m4
     go_wp2
     go_roundw
     case rel=>exact ⟨k+1,o4,s2,by omega,by go_num,R4.o,HR2.o,S4.o,M4.o⟩
     case measure=>simp [intOf];omega
    ·have e2:s2=s1:=by
      have:=HS2.o
      unfold otherG at this
      rw [if_neg he,if_neg hn] at this
      exact (Option.some.inj this).symm
     subst e2
     go_wp2
     go_roundw
     case rel=>exact ⟨k+1,o1,s2,by omega,by go_num,RR.o,HR2.o,SS.o,MM.o⟩
     case measure=>simp [intOf];omega
  ·have e2:s1=s':=by
    have:=FF.o
    rw [List.drop_of_length_le (by omega)] at this
    exact Option.some.inj this
   subst e2
   go_wp2
   refine bodyPost_end (v:=.tuple #[]) (by simp [results,Tryz.results136,go_sem]) rfl ?_
   exact ⟨rfl,o1,RR.o,MM.o⟩
end
section
open Go Go.Sort Go.RowKit
theorem sayO_eq {s s':NdD} {m:MsD} {L:List EnD} (h:sayO s m L=some s'):s'=sayN s m L:=by
 unfold sayO at h
 split at h
 ·exact (Option.some.inj h).symm
 ·cases h
theorem ndL_er {wb jd:Nat} {A:AdD} {s:NdD} {F:Nat} (h:F<8):(ndL wb jd A s)[24+F]?=some (.int .i64 (s.er.at F)):=by
 rcases lt8 h with rfl | rfl | rfl | rfl | rfl | rfl | rfl | rfl <;> rfl
def propM (view tw:Int):MsD:=⟨1,0,tw,0,view,0,0,0,0,0,0,false⟩
def prop1 (view:Int) (s:NdD) (tw:Int):Option NdD:=sayO s (propM view tw) []
def gath1 (s:NdD) (tw:Int):Option NdD:=
 match s.v with
 | none=>none
 | some v=>if hasT (teamV v.2) tw then some s else sayO s (propM v.1 tw) []
def sil1 (s:NdD) (b:Bool) (i:Int):Option Bool:=some (b || decide (14≤s.ck-s.er.at i.toNat))
def appM (s:NdD) (probe tw a:Int):MsD:=⟨5,0,tw,0,s.ls,0,0,a,s.cm,probe,s.ck,false⟩
def dec2 (probe:Int) (s:NdD) (tw:Int):Option NdD:=
 match s.q with
 | none=>none
 | some q=>if hasT s.ac tw then (if 0≤haveQ q tw∧haveQ q tw≤1000000 then sayO s (appM s probe tw (haveQ q tw)) (s.L.drop (haveQ q tw).toNat) else none) else wholeO s tw
variable {w w4:World} {o o4:Ow} {k x wb jd:Nat} {A A':AdD} {s s':NdD}
structure EnvP (w:World) (o:Ow) (k x wb jd xb:Nat) (id n:Int) (s:NdD):Prop where
 nd:∃ A,NodeP w o k x wb jd A s
 bx:BoxC w o 0 xb [ptrN x]
 id:s.id=id
 n:s.n=n
theorem EnvP.ext {w w':World} {xb:Nat} {id n:Int} (h:EnvP w o k x wb jd xb id n s) (e:Ext w w'):EnvP w' o k x wb jd xb id n s:=by
 obtain ⟨A,hA⟩:=h.nd
 exact ⟨⟨A,hA.ext e⟩,h.bx.ext e,h.id,h.n⟩
theorem EnvP.cells {xb:Nat} {id n:Int} (h:EnvP w o k x wb jd xb id n s):w.cell? ⟨x,0,none⟩=some (.int .i64 id)∧w.cell? ⟨x,1,none⟩=some (.int .i64 n):=by
 obtain ⟨A,hA⟩:=h.nd
 have h1:=hA.c 0 _ rfl
 have h2:=hA.c 1 _ rfl
 rw [h.id] at h1
 rw [h.n] at h2
 exact ⟨h1,h2⟩
theorem prop1_any {xb vb:Nat} {id n view:Int} (hk:32≤k) (hcl:Cl w o) (h:EnvP w o k x wb jd xb id n s) (hv:BoxC w o 0 vb [.int .i64 view]) {tw:Int} (hs:prop1 view s tw=some s') :
  Calls Tryz.prog 151 #[.int .i64 tw,ptrN xb,ptrN vb] w fun e w'=>e=.returned (.tuple #[])∧∃ o',(EnvP w' o' k x wb jd xb id n s'∧BoxC w' o' 0 vb [.int .i64 view])∧Fm (ndC k) o o' w w':=by
 have HK:=hI hk
 have HC:=hI hcl
 have H:=hI h
 have V:=hI hv
 have HS:=hI hs
 have b0:=h.bx.box.c 0 _ rfl
 have v0:=hv.box.c 0 _ rfl
 clear hk hcl h hv hs
 obtain ⟨A,hA⟩:=H.o.nd
 have N:=hI hA
 clear hA
 go_enter Tryz.func151,Tryz.ntmps151
 go_wp2_with fail
 refine (nsayO_any (m:=propM view tw) HC.o HK.o N.o (L:=[]) (SlC.empty 7 _ _) HS.o).mono ?_
 rintro e w2 ⟨rfl,o2,A2,n2,f2⟩
 have E2:Hid (EnvP w2 o2 k x wb jd xb id n s'):=hI ⟨⟨A2,n2⟩,H.o.bx.fr f2 (by decide) (nd0 HK.o),by rw [sayO_eq HS.o];exact H.o.id,by rw [sayO_eq HS.o];exact H.o.n⟩
 have V2:=hI (V.o.fr f2 (by decide) (nd0 HK.o))
 have F2:=hI f2
 clear n2 f2
 go_wp2
 refine bodyPost_end (v:=.tuple #[]) (by simp [results,Tryz.results151,go_sem]) rfl ?_
 exact ⟨rfl,o2,⟨E2.o,V2.o⟩,F2.o⟩
theorem gath1_any {xb:Nat} {id n:Int} (hk:32≤k) (hcl:Cl w o) (h:EnvP w o k x wb jd xb id n s) {tw:Int} (ht:isId tw) (hs:gath1 s tw=some s') :
  Calls Tryz.prog 137 #[.int .i64 tw,ptrN xb] w fun e w'=>e=.returned (.tuple #[])∧∃ o',EnvP w' o' k x wb jd xb id n s'∧Fm (ndC k) o o' w w':=by
 obtain ⟨A,hA⟩:=h.nd
 unfold gath1 at hs
 cases hv:s.v with
 | none=>rw [hv] at hs;cases hs
 | some v=>
 obtain ⟨vw,vs⟩:=v
 rw [hv] at hs
 simp only at hs
 obtain ⟨vg,hvg,hVs⟩:∃ vg,A.v=some vg∧VsV w o (k+11) vg vw s.n vs:=by
  have:=hA.q.vt
  rw [hv] at this
  exact this
 have HK:=hI hk
 have HC:=hI hcl
 have H:=hI h
 have N:=hI hA
 have VS:=hI hVs
 have HVG:=hI hvg
 have TI:Hid (isT (teamV vs)):=hI (by
  obtain ⟨p,cap,ds,hp,rfl⟩:=hVs
  exact teamV_is ds (fun d hd=>(hp.ok d hd).fr))
 have HT:=hI ht
 have b0:=h.bx.box.c 0 _ rfl
 have c17:w.cell? ⟨x,17,none⟩=some (ptrN vg):=by
  have:=hA.c 17 _ rfl
  rw [hvg] at this
  exact this
 clear hk hcl h hA hv hvg hVs ht
 cases hh:hasT (teamV vs) tw
 ·rw [hh] at hs
  have HS:Hid (sayO s (propM vw tw) []=some s'):=hI hs
  clear hs
  go_enter Tryz.func137,Tryz.ntmps137
  go_wp2_with fail
  refine (vteam_any VS.o).mono ?_
  rintro e w1 ⟨rfl,x1⟩
  have X1:=hI x1
  clear x1
  go_wp2_with fail
  refine (thas_any _ _ TI.o HT.o _).mono ?_
  rw [hh]
  rintro e w2 ⟨rfl,rfl⟩
  go_upto_region 1 with fail
  replace H:=hI (H.o.ext X1.o)
  replace N:=hI (N.o.ext X1.o)
  replace VS:=hI (VS.o.ext X1.o)
  have M1:=hI (Fm.ext (C:=ndC k) HC.o X1.o)
  clear X1 b0 c17
  obtain ⟨Ww1,hW⟩:∃ Ww1,Ww1=w1.drew:=⟨_,rfl⟩
  have X2:Hid (Ext w1 Ww1):=hI (by rw [hW];exact Ext.drew w1)
  replace H:=hI (H.o.ext X2.o)
  replace N:=hI (N.o.ext X2.o)
  replace VS:=hI (VS.o.ext X2.o)
  have gb:=fun d os=>Ext.cell (Ext.reg Ww1 d os) (H.o.bx.box.c 0 _ rfl)
  have g17:∀ d os,(grow (redrawn Ww1 d) os).cell? ⟨x,17,none⟩=some (ptrN vg):=by
   have:=N.o.g 17 _ rfl
   rw [HVG.o] at this
   exact this
  refine att [0,1,2,3,4,5,6,7] [8] ?_
  rw [← hW]
  clear hW
  repeat ((first|refine aqq fun K hK=>?_|refine akk fun K hK=>?_);go_big_quiet_op;refine hK _ ?_;clear hK K)
  refine acc fun K hK=>?_
  go_simp
  refine (vview_any VS.o).mono ?_
  rintro e w3 ⟨rfl,rfl⟩
  refine hK _ _ (Ext.rfl' _) ?_;clear hK K
  repeat ((first|refine aqq fun K hK=>?_|refine akk fun K hK=>?_);go_big_quiet_op;refine hK _ ?_;clear hK K)
  refine acc fun K hK=>?_
  go_simp
  refine hK _ _ (Ext.rfl' _) ?_;clear hK K
  refine ra_nil ?_
  refine too fun K hK=>?_
  go_simp
  refine (nsayO_any (m:=propM vw tw) (M1.o.cl.ext X2.o) HK.o N.o (L:=[]) (SlC.empty 7 _ _) HS.o).mono ?_
  rintro e w4 ⟨rfl,o4,A4,n4,f4⟩
  have E4:Hid (EnvP w4 o4 k x wb jd xb id n s'):=hI ⟨⟨A4,n4⟩,H.o.bx.fr f4 (by decide) (nd0 HK.o),by rw [sayO_eq HS.o];exact H.o.id,by rw [sayO_eq HS.o];exact H.o.n⟩
  have F4:=hI ((M1.o.tr (Fm.ext M1.o.cl X2.o) (nd0 HK.o)).tr f4 (nd0 HK.o))
  clear n4 f4
  refine hK _ _ ?_
  clear hK K
  refine rt_nil ?_
  refine bodyPost_end (v:=.tuple #[]) (by simp [results,Tryz.results137,go_sem]) rfl ?_
  exact ⟨rfl,o4,E4.o,F4.o⟩
 ·rw [hh] at hs
  cases hs
  go_enter Tryz.func137,Tryz.ntmps137
  go_wp2_with fail
  refine (vteam_any VS.o).mono ?_
  rintro e w1 ⟨rfl,x1⟩
  have X1:=hI x1
  clear x1
  go_wp2_with fail
  refine (thas_any _ _ TI.o HT.o _).mono ?_
  rw [hh]
  rintro e w2 ⟨rfl,rfl⟩
  go_wp2
  refine bodyPost_end (v:=.tuple #[]) (by simp [results,Tryz.results137,go_sem]) rfl ?_
  exact ⟨rfl,o,H.o.ext X1.o,Fm.ext HC.o X1.o⟩
theorem sil1_any {xb sb:Nat} {b b':Bool} (hk:32≤k) (hcl:Cl w o) (h:NodeP w o k x wb jd A s) (hx:BoxC w o 0 xb [ptrN x]) (hb:BoxC w o (k+19) sb [.bool b]) {tw:Int} (ht:isId tw) (hs:sil1 s b tw=some b') :
  Calls Tryz.prog 141 #[.int .i64 tw,ptrN sb,ptrN xb] w fun e w'=>e=.returned (.tuple #[])∧∃ o',(NodeP w' o' k x wb jd A s∧BoxC w' o' 0 xb [ptrN x]∧BoxC w' o' (k+19) sb [.bool b'])∧Fm (one (k+19)) o o' w w':=by
 obtain ⟨F,rfl⟩:∃ F:Nat,tw=(F:Int):=⟨tw.toNat,by have:=ht.1;omega⟩
 have hF:F<8:=by have:=ht.2;omega
 cases hs
 have r1:=h.ok.ck
 have r2:=h.ok.er F
 have w1:wrap64 (s.ck-s.er.at F)=s.ck-s.er.at F:=by unfold wrap64;omega
 have f1:(0:Int)≤(F:Int):=by omega
 have f2:(F:Int)<8:=by omega
 have PUT:∀ v:Bool,Hid ((NodeP (w.setCell ⟨sb,0,none⟩ (.bool v)).drew o k x wb jd A s∧BoxC (w.setCell ⟨sb,0,none⟩ (.bool v)).drew o 0 xb [ptrN x]∧BoxC (w.setCell ⟨sb,0,none⟩ (.bool v)).drew o (k+19) sb [.bool v])∧Fm (one (k+19)) o o w (w.setCell ⟨sb,0,none⟩ (.bool v)).drew):=fun v=>hI (by
  have P1:=Fm.put (C:=one (k+19)) hcl hb (by omega) rfl 0 (.bool v)
  exact ⟨⟨(h.fr hk P1 (by unfold one;omega) (fun d hd=>by unfold one at hd;unfold ndI;omega)).ext (Ext.drew _),(hx.fr P1 (by decide) (by unfold one;omega)).ext (Ext.drew _),(hb.put 0 (.bool v)).ext (Ext.drew _)⟩,P1.tr (Fm.ext P1.cl (Ext.drew _)) (by unfold one;omega)⟩)
 have b0:=hb.box.c 0 _ rfl
 have bf:=hb.box.f 0
 have x0:=hx.box.c 0 _ rfl
 have c4:=h.c 4 _ rfl
 have ce:=h.c (24+F) _ (ndL_er hF)
 clear r1 r2 hk hcl h hx hb ht
 cases b
 ·go_enter Tryz.func141,Tryz.ntmps141
  go_region
  refine bodyPost_end (v:=.tuple #[]) (by simp [results,Tryz.results141,go_sem]) rfl ?_
  exact ⟨rfl,o,(PUT (decide (14≤s.ck-s.er.at F))).out.1,(PUT (decide (14≤s.ck-s.er.at F))).out.2⟩
 ·go_enter Tryz.func141,Tryz.ntmps141
  go_region
  refine bodyPost_end (v:=.tuple #[]) (by simp [results,Tryz.results141,go_sem]) rfl ?_
  exact ⟨rfl,o,(PUT true).out.1,(PUT true).out.2⟩
theorem dec2_any {xb pb:Nat} {id n probe:Int} (hk:32≤k) (hcl:Cl w o) (h:EnvP w o k x wb jd xb id n s) (hp:BoxC w o 0 pb [.int .i64 probe]) {tw:Int} (ht:isId tw) (hs:dec2 probe s tw=some s') :
  Calls Tryz.prog 144 #[.int .i64 tw,ptrN xb,ptrN pb] w fun e w'=>e=.returned (.tuple #[])∧∃ o',(EnvP w' o' k x wb jd xb id n s'∧BoxC w' o' 0 pb [.int .i64 probe])∧Fm (ndC k) o o' w w':=by
 obtain ⟨A,hA⟩:=h.nd
 unfold dec2 at hs
 cases hq:s.q with
 | none=>rw [hq] at hs;cases hs
 | some q=>
 rw [hq] at hs
 simp only at hs
 obtain ⟨qg,hqg,hQ⟩:∃ qg,A.q=some qg∧QuV w o (k+14) qg q:=by
  have:=hA.q.qu
  rw [hq] at this
  exact this
 have HK:=hI hk
 have HC:=hI hcl
 have H:=hI h
 have N:=hI hA
 have PB:=hI hp
 have QU:=hI hQ
 have HQG:=hI hqg
 have HT:=hI ht
 have b0:=h.bx.box.c 0 _ rfl
 have c23:=hA.c 23 _ rfl
 have c21:w.cell? ⟨x,21,none⟩=some (ptrN qg):=by
  have:=hA.c 21 _ rfl
  rw [hqg] at this
  exact this
 have AC:=hI hA.ok.ac
 clear hk hcl h hA hp hq hqg hQ ht
 cases hh:hasT s.ac tw
 ·rw [hh] at hs
  have HS:Hid (wholeO s tw=some s'):=hI hs
  clear hs
  go_enter Tryz.func144,Tryz.ntmps144
  go_wp2_with fail
  refine (thas_any _ _ AC.o HT.o _).mono ?_
  rw [hh]
  rintro e w2 ⟨rfl,rfl⟩
  go_wp2_with fail
  refine (nwhole_any HC.o HK.o N.o HS.o).mono ?_
  rintro e w4 ⟨rfl,o4,A4,n4,f4⟩
  have E4:Hid (EnvP w4 o4 k x wb jd xb id n s'):=hI ⟨⟨A4,n4⟩,H.o.bx.fr f4 (by decide) (nd0 HK.o),by rw [sayO_eq HS.o];exact H.o.id,by rw [sayO_eq HS.o];exact H.o.n⟩
  have P4:=hI (PB.o.fr f4 (by decide) (nd0 HK.o))
  have F4:=hI f4
  clear n4 f4
  go_wp2
  refine bodyPost_ret (v:=.tuple #[]) (by simp [results,Tryz.results144,go_sem]) rfl ?_
  exact ⟨rfl,o4,⟨E4.o,P4.o⟩,F4.o⟩
 ·rw [hh] at hs
  simp only [if_true] at hs
  split at hs
  case isFalse=>cases hs
  rename_i hr
  have HS:=hI hs
  obtain ⟨a,ha⟩:∃ a:Nat,haveQ q tw=(a:Int):=⟨(haveQ q tw).toNat,by omega⟩
  have HA:=hI ha
  have HA2:Hid (a≤1000000):=hI (by omega)
  have HA3:Hid ((haveQ q tw).toNat=a):=hI (by omega)
  clear hs hr ha
  go_enter Tryz.func144,Tryz.ntmps144
  go_wp2_with fail
  refine (thas_any _ _ AC.o HT.o _).mono ?_
  rw [hh]
  rintro e w2 ⟨rfl,rfl⟩
  go_wp2_with fail
  refine (qhave_any QU.o HT.o).mono ?_
  rw [HA.o]
  rintro e w3 ⟨rfl,rfl⟩
  go_upto_region 3 with fail
  clear b0 c23 c21
  have HC2:=HC
  obtain ⟨WW,hW⟩:∃ WW,WW=w.drew:=⟨_,rfl⟩
  have X2:Hid (Ext w WW):=hI (by rw [hW];exact Ext.drew w)
  replace H:=hI (H.o.ext X2.o)
  replace N:=hI (N.o.ext X2.o)
  replace PB:=hI (PB.o.ext X2.o)
  have gb:=fun d os=>Ext.cell (Ext.reg WW d os) (H.o.bx.box.c 0 _ rfl)
  have gp:=fun d os=>Ext.cell (Ext.reg WW d os) (PB.o.box.c 0 _ rfl)
  have g11:=N.o.g 11 _ rfl
  have g9:=N.o.g 9 _ rfl
  have g10:=N.o.g 10 _ rfl
  have g4:=N.o.g 4 _ rfl
  refine att [0,1,2,3,4,5,6,7,8,9,10,11,13,14,15,16,17,18,19,20,21,12,22] [23] ?_
  rw [← hW]
  clear hW
  repeat ((first|refine aqq fun K hK=>?_|refine akk fun K hK=>?_);go_big_quiet_op;refine hK _ ?_;clear hK K)
  refine acc fun K hK=>?_
  go_simp
  obtain ⟨LL,hLL⟩:∃ LL,LL=s.L.drop a:=⟨_,rfl⟩
  have FR:=lfrom_any N.o.q.lg HA2.o
  rw [← hLL] at FR
  refine FR.mono ?_
  clear FR
  rintro e w5 ⟨p5,c5,rfl,o5,x5⟩
  have S5:Hid (SlC 7 w5 o p5 LL.length c5 (LL.map enL)):=hI (SlC.fresh o5 (HC2.o.ext X2.o) (Nat.le_refl _))
  have HS5:Hid (sayO s (appM s probe tw (a:Int)) LL=some s'):=hI (by have:=HS.o;rw [HA3.o,HA.o,← hLL] at this;exact this)
  clear hLL
  have M5:=hI (Fm.ext (C:=ndC k) HC2.o (X2.o.tr x5))
  replace N:=hI (N.o.ext x5)
  replace PB:=hI (PB.o.ext x5)
  replace H:=hI (H.o.ext x5)
  refine hK _ _ x5 ?_
  clear hK K o5 x5
  repeat ((first|refine aqq fun K hK=>?_|refine akk fun K hK=>?_);go_big_quiet_op;refine hK _ ?_;clear hK K)
  refine acc fun K hK=>?_
  go_simp
  refine hK _ _ (Ext.rfl' _) ?_;clear hK K
  refine ra_nil ?_
  refine too fun K hK=>?_
  go_simp
  refine (nsayO_any (m:=appM s probe tw (a:Int)) M5.o.cl HK.o N.o S5.o HS5.o).mono ?_
  rintro e w4 ⟨rfl,o4,A4,n4,f4⟩
  have E4:Hid (EnvP w4 o4 k x wb jd xb id n s'):=hI ⟨⟨A4,n4⟩,H.o.bx.fr f4 (by decide) (nd0 HK.o),by rw [sayO_eq HS.o];exact H.o.id,by rw [sayO_eq HS.o];exact H.o.n⟩
  have P4:=hI (PB.o.fr f4 (by decide) (nd0 HK.o))
  have F4:=hI (M5.o.tr f4 (nd0 HK.o))
  clear n4 f4
  refine hK _ _ ?_
  clear hK K
  refine rt_nil ?_
  refine bodyPost_end (v:=.tuple #[]) (by simp [results,Tryz.results144,go_sem]) rfl ?_
  exact ⟨rfl,o4,⟨E4.o,P4.o⟩,F4.o⟩
end
section
open Go Go.Sort Go.RowKit
def CL:List (Addr × Value)→World→Prop
 | [],_=>True
 | p::l,W=>W.cell? p.1=some p.2∧CL l W
def askM (s:NdD) (num:Int):MsD:=⟨8,0,decT s.ls s.n,0,s.ls,0,0,0,0,num,0,false⟩
def dataM (s:NdD):MsD:=⟨7,0,decT s.ls s.n,0,0,0,0,0,0,0,0,false⟩
def askO (s:NdD):Option NdD:=
 if decide (1≤s.ls)&&(decide (s.f.ask.length≤64)&&decide (s.f.nm≤1099511620000)) then
  match sayO { s with f:=askP s.f s.ck } (askM s (s.f.nm+1)) [] with
  | none=>none
  | some s2=>match s.P with
   | []=>some s2
   | e::l=>sayO s2 (dataM s) (e::l)
 else none
variable {w w4:World} {o o4:Ow} {k x wb jd:Nat} {A A':AdD} {s s':NdD}
theorem nask_any (hcl:Cl w o) (hk:32≤k) (h:NodeP w o k x wb jd A s) (hs:askO s=some s') :
  Calls Tryz.prog 110 #[ptrN x] w fun e w'=>e=.returned (.tuple #[])∧∃ o' A',NodeP w' o' k x wb jd A' s'∧Fm (ndC k) o o' w w':=by
 unfold askO at hs
 split at hs
 case isFalse=>cases hs
 rename_i hc
 simp only [Bool.and_eq_true,decide_eq_true_eq] at hc
 obtain ⟨h1,h2,h3⟩:=hc
 have HC0:=hI (And.intro h1 (And.intro h2 h3))
 clear h1 h2 h3
 split at hs
 case h_1=>cases hs
 rename_i s2 hs2
 have HS2:=hI hs2
 have HSP:=hI hs
 clear hs hs2
 have HK:=hI hk
 have HC:=hI hcl
 have H:=hI h
 clear hk hcl h
 go_enter Tryz.func110,Tryz.ntmps110
 go_upto_region 0 with fail
 obtain ⟨Ww,hW⟩:∃ Ww,Ww=w.drew:=⟨_,rfl⟩
 have X1:Hid (Ext w Ww):=hI (by rw [hW];exact Ext.drew w)
 replace H:=hI (H.o.ext X1.o)
 have g11:=H.o.g 11 _ rfl
 have g1:=H.o.g 1 _ rfl
 refine att [0,1,2,3,4,5,6,7,8,9] [] ?_
 rw [← hW]
 clear hW
 repeat ((first|refine aqq fun K hK=>?_|refine akk fun K hK=>?_);go_big_quiet_op;refine hK _ ?_;clear hK K)
 refine acc fun K hK=>?_
 go_simp
 refine (tdec_any s.ls s.n ⟨HC0.o.1,by have:=H.o.ok.ls;omega⟩ H.o.ok.n _).mono ?_
 rintro e w2 ⟨rfl,rfl⟩
 refine hK _ _ (Ext.rfl' _) ?_;clear hK K
 repeat ((first|refine aqq fun K hK=>?_|refine akk fun K hK=>?_);go_big_quiet_op;refine hK _ ?_;clear hK K)
 refine ra_nil ?_
 refine rt_nil ?_
 have M1:=hI (Fm.ext (C:=ndC k) HC.o X1.o)
 clear HC
 go_upto_region 1 with fail
 obtain ⟨W2,hW⟩:∃ W2,W2=Ww.drew:=⟨_,rfl⟩
 have X2:Hid (Ext Ww W2):=hI (by rw [hW];exact Ext.drew Ww)
 replace H:=hI (H.o.ext X2.o)
 have r11:=fun (q:Wrap (CL [(⟨x,11,none⟩,.int .i64 s.ls),(⟨x,16,none⟩,ptrN A.f),(⟨x,4,none⟩,.int .i64 s.ck)]))=>(q.h.1:q.w.cell? ⟨x,11,none⟩=some (.int .i64 s.ls))
 have r16:=fun (q:Wrap (CL [(⟨x,11,none⟩,.int .i64 s.ls),(⟨x,16,none⟩,ptrN A.f),(⟨x,4,none⟩,.int .i64 s.ck)]))=>(q.h.2.1:q.w.cell? ⟨x,16,none⟩=some (ptrN A.f))
 have r4:=fun (q:Wrap (CL [(⟨x,11,none⟩,.int .i64 s.ls),(⟨x,16,none⟩,ptrN A.f),(⟨x,4,none⟩,.int .i64 s.ck)]))=>(q.h.2.2.1:q.w.cell? ⟨x,4,none⟩=some (.int .i64 s.ck))
 refine gtt [0,1,2,3,4,5,6,7,8,9,10,11,12,13,14,15,16] (CL [(⟨x,11,none⟩,.int .i64 s.ls),(⟨x,16,none⟩,ptrN A.f),(⟨x,4,none⟩,.int .i64 s.ck)]) (by rw [← hW];exact ⟨H.o.c 11 _ rfl,H.o.c 16 _ rfl,H.o.c 4 _ rfl,trivial⟩) (fun _=>?_)
 rw [← hW]
 clear hW
 repeat ((first|refine gqq fun K hK=>?_|refine gkk fun K hK=>?_);go_big_quiet_op;refine hK _ ?_;clear hK K)
 refine gcc fun K hK=>?_
 go_simp
 refine (pask_any (M1.o.cl.ext X2.o) H.o.q.pf (by have:=HK.o;omega) ⟨H.o.ok.f.1,by have:=H.o.ok.f.2;omega⟩ HC0.o.2.1).mono ?_
 rintro e w3 ⟨o3,rfl,pf3,m3⟩
 obtain ⟨N3,F3⟩:=NodeP.mod0 (A':=A) (s':={ s with f:=askP s.f s.ck }) HK.o H.o m3 (fun d hd=>by unfold two at hd;unfold ndC;omega) (H.o.q.set_pf HK.o pf3 m3 (fun d hd=>by unfold two at hd;omega)) rfl { H.o.ok with f:=(by have h1:=H.o.ok.f;have h2:=HC0.o.2.2;exact ⟨show 0≤s.f.nm+1 by omega,show s.f.nm+1≤1099511626776 by omega⟩) }
 have H3:=hI N3
 have M3:=hI ((M1.o.tr (Fm.ext M1.o.cl X2.o) (nd0 HK.o)).tr F3 (nd0 HK.o))
 clear pf3 m3 N3 F3
 refine hK (CL [(⟨x,11,none⟩,.int .i64 s.ls),(⟨x,16,none⟩,ptrN A.f),(⟨x,4,none⟩,.int .i64 s.ck)]) _ _ (fun _ h=>h) ⟨H3.o.c 11 _ rfl,H3.o.c 16 _ rfl,H3.o.c 4 _ rfl,trivial⟩ (fun _=>?_)
 clear hK K
 repeat ((first|refine gqq fun K hK=>?_|refine gkk fun K hK=>?_);go_big_quiet_op;refine hK _ ?_;clear hK K)
 refine gcc fun K hK=>?_
 go_simp
 refine hK (CL [(⟨x,11,none⟩,.int .i64 s.ls),(⟨x,16,none⟩,ptrN A.f),(⟨x,4,none⟩,.int .i64 s.ck)]) _ _ (fun _ h=>h) ⟨H3.o.c 11 _ rfl,H3.o.c 16 _ rfl,H3.o.c 4 _ rfl,trivial⟩ (fun _=>?_)
 clear hK K
 repeat ((first|refine gqq fun K hK=>?_|refine gkk fun K hK=>?_);go_big_quiet_op;refine hK _ ?_;clear hK K)
 refine gcc fun K hK=>?_
 go_simp
 refine (nsayOA_any (m:=askM s (s.f.nm+1)) M3.o.cl HK.o H3.o (L:=[]) (SlC.empty 7 _ _) HS2.o).mono ?_
 rintro e w4 ⟨rfl,o4,p4,c4,n4,f4⟩
 obtain rfl:=sayO_eq HS2.o
 have H4:=hI n4
 have M4:=hI (M3.o.tr f4 (nd0 HK.o))
 clear n4 f4
 refine hK (fun W=>W=w4) _ _ (fun W h=>by rw [h];exact ⟨H4.o.c 11 _ rfl,H4.o.c 16 _ rfl,H4.o.c 4 _ rfl,trivial⟩) rfl (fun _=>?_)
 clear hK K
 refine rg_nil ?_
 obtain ⟨s4,hs4⟩:∃ s4,s4=sayN { s with f:=askP s.f s.ck } (askM s (s.f.nm+1)) []:=⟨_,rfl⟩
 have P4:Hid (s4.P=s.P):=hI (by rw [hs4];rfl)
 rw [← hs4] at H4 HSP
 clear hs4
 have c13:=H4.o.c 13 _ rfl
 go_wp2_with fail
 refine (nlistp_any H4.o.q.pn).mono ?_
 rintro e w5 ⟨p5,c5,rfl,o5,x5⟩
 obtain ⟨PL,hPL⟩:∃ PL,PL=s.P:=⟨_,rfl⟩
 rw [P4.o,← hPL] at o5 ⊢
 have S5:=hI (SlC.fresh o5 M4.o.cl (Nat.le_refl _))
 have H5:=hI (H4.o.ext x5)
 have M5:=hI (M4.o.tr (Fm.ext M4.o.cl x5) (nd0 HK.o))
 have SP:Hid ((PL=[]∧s'=s4)∨(PL≠[]∧sayO s4 (dataM s) PL=some s')):=hI (by
  have h1:=HSP.o
  rw [← hPL] at h1
  cases PL with
  | nil=>
   simp only at h1
   exact .inl ⟨rfl,(Option.some.inj h1).symm⟩
  | cons e l=>exact .inr ⟨by simp,h1⟩)
 clear o5 x5 c13 HSP hPL
 rcases SP.o with ⟨rfl,rfl⟩ | ⟨hne,hsay⟩
 ·go_wp2
  refine bodyPost_end (v:=.tuple #[]) (by simp [results,Tryz.results110,go_sem]) rfl ?_
  exact ⟨rfl,o4,_,H5.o,M5.o⟩
 ·have hpos:decide (0<PL.length)=true:=decide_eq_true (by
   cases PL with
   | nil=>exact absurd rfl hne
   | cons e l=>simp)
  have HSAY:=hI hsay
  clear hne hsay SP
  go_wp2_with fail
  refine (nsayO_any (m:=dataM s) M5.o.cl HK.o H5.o S5.o HSAY.o).mono ?_
  rintro e w9 ⟨rfl,o9,A9,n9,f9⟩
  have N9:=hI n9
  have F9:=hI (M5.o.tr f9 (nd0 HK.o))
  clear n9 f9
  go_wp2
  refine bodyPost_end (v:=.tuple #[]) (by simp [results,Tryz.results110,go_sem]) rfl ?_
  exact ⟨rfl,o9,A9,N9.o,F9.o⟩
end
section
open Go Go.Sort Go.RowKit
inductive Sch where
 | fin:Sch
 | one:Nat→Sch→Sch
 | two:Nat→Sch→Nat→Sch→Sch
def sched3 (md:Region.Mode) (ops:Array Oper):Nat→Sch→Array Bool→Bool
 | 0,.fin,listed=>(Region.ready md ops listed).isEmpty
 | n+1,.one i r,listed=>
  (match ops[i]? with
  | none=>false
  | some o=>if tame2 o then (Region.ready md ops listed).contains i&&Region.free md ops listed i else Region.ready md ops listed==[i])&&sched3 md ops n r (listed.setIfInBounds i true)
 | n+1,.two i r j s,listed=>
  (match ops[i]? with | none=>false | some o=>!tame2 o)&&(match ops[j]? with | none=>false | some o=>!tame2 o)&&(Region.ready md ops listed==[i,j])
   && sched3 md ops n r (listed.setIfInBounds i true)&&sched3 md ops n s (listed.setIfInBounds j true)
 | _,_,_=>false
section
variable {P:Program} {ops:Array Oper} {md:Region.Mode}
def RF (P:Program) (ol:List Oper) (Q:Exit→Act→World→Prop):Sch→(World→Prop)→Act→World→Prop
 | .fin,_,a,w=>Q .normal a w
 | .one i r,S,a,w=>∃ o,ol[i]?=some o ∧
  if Region.wanted o (yielded ol.toArray a.tmps) then
   if tame2 o then o.quiet P a (fun w'=>∃ p:Wrap S,w'=p.w) (fun a'=>RF P ol Q r S a' w)
   else o.wp P a w (fun a' w'=>∃ S':World→Prop,(∀ x,S' x→S x)∧S' w'∧RF P ol Q r S' a' w') Q
  else RF P ol Q r S (a.put o.dst undef) w
 | .two i r j s,S,a,w=>
  (∃ o,ol[i]?=some o∧Region.wanted o (yielded ol.toArray a.tmps)=true∧o.wp P a w (fun a' w'=>∃ S':World→Prop,(∀ x,S' x→S x)∧S' w'∧RF P ol Q r S' a' w') Q) ∧
  (∃ o,ol[j]?=some o∧Region.wanted o (yielded ol.toArray a.tmps)=true∧o.wp P a w (fun a' w'=>∃ S':World→Prop,(∀ x,S' x→S x)∧S' w'∧RF P ol Q s S' a' w') Q)
theorem RF.held {ol:List Oper} {Q:Exit→Act→World→Prop} (hs:Region.noSelect ol.toArray=true) (hQ:∀ c (a:Act) d v w,Q (.panic c) (a.put d v) w→Q (.panic c) a w) :
  ∀ (n:Nat) (l:Sch) (S:World→Prop) (listed:Array Bool) (a:Act) (w:World),S w→sched3 md ol.toArray n l listed=true→RF P ol Q l S a w→wpAnyH P md ol.toArray Q S n listed a w
 | 0,.fin,S,listed,a,w,_,hB,h=>wpAnyH_done (by simpa [sched3] using hB) h _
 | 0,.one _ _,S,listed,a,w,_,hB,h=>by simp [sched3] at hB
 | 0,.two _ _ _ _,S,listed,a,w,_,hB,h=>by simp [sched3] at hB
 | n+1,.fin,S,listed,a,w,_,hB,h=>by simp [sched3] at hB
 | n+1,.one i r,S,listed,a,w,hS,hB,h=>by
  obtain ⟨o,ho',h⟩:=h
  have ho:ol.toArray[i]?=some o:=by simpa using ho'
  simp only [sched3,ho,Bool.and_eq_true] at hB
  obtain ⟨hB1,hB2⟩:=hB
  by_cases ht:tame2 o=true
  ·rw [if_pos ht,Bool.and_eq_true] at hB1
   by_cases hw:Region.wanted o (yielded ol.toArray a.tmps)=true
   ·rw [if_pos hw,if_pos ht] at h
    obtain ⟨v,hv,hn⟩:=h
    exact wpAnyH_take ho hs hB1.2 hB1.1 (fun c a w=>hQ c a o.dst v w) (Or.inl ⟨hw,fun w' hx=>tame2_yields ht (hv w' ⟨⟨w',hx⟩,rfl⟩)⟩) hS (RF.held hs hQ n r S _ _ w hS hB2 hn)
   ·rw [if_neg hw] at h
    exact wpAnyH_take ho hs hB1.2 hB1.1 (fun c a w=>hQ c a o.dst undef w) (Or.inr ⟨by simpa using hw,rfl⟩) hS (RF.held hs hQ n r S _ _ w hS hB2 h)
  ·rw [if_neg ht] at hB1
   have hr:Region.ready md ol.toArray listed=[i]:=by simpa using hB1
   refine wpAnyH_all hr (by simp) (fun j hj=>?_)
   obtain rfl:j=i:=by simpa using hj
   unfold wpOp
   simp only [ho]
   by_cases hw:Region.wanted o (yielded ol.toArray a.tmps)=true
   ·rw [if_pos hw,if_neg ht] at h
    rw [if_pos hw]
    refine .inl (Oper.wp_mono (fun a' w' h1=>?_) h)
    obtain ⟨S',hsub,hS',h2⟩:=h1
    exact ⟨hsub _ hS',wpAnyH_stronger hsub _ _ _ _ (RF.held hs hQ n r S' _ _ w' hS' hB2 h2)⟩
   ·rw [if_neg hw] at h
    rw [if_neg hw]
    exact ⟨hS,RF.held hs hQ n r S _ _ w hS hB2 h⟩
 | n+1,.two i r j s,S,listed,a,w,hS,hB,h=>by
  obtain ⟨⟨o,ho',hw,h1⟩,⟨q,hq',hw2,h2⟩⟩:=h
  have ho:ol.toArray[i]?=some o:=by simpa using ho'
  have hq:ol.toArray[j]?=some q:=by simpa using hq'
  simp only [sched3,ho,hq,Bool.and_eq_true] at hB
  obtain ⟨⟨⟨⟨-,-⟩,hr⟩,hB1⟩,hB2⟩:=hB
  have hr:Region.ready md ol.toArray listed=[i,j]:=by simpa using hr
  refine wpAnyH_all hr (by simp) (fun k hk=>?_)
  rcases (by simpa using hk:k=i∨k=j) with rfl | rfl
  ·unfold wpOp
   simp only [ho]
   rw [if_pos hw]
   refine .inl (Oper.wp_mono (fun a' w' h1=>?_) h1)
   obtain ⟨S',hsub,hS',h2⟩:=h1
   exact ⟨hsub _ hS',wpAnyH_stronger hsub _ _ _ _ (RF.held hs hQ n r S' _ _ w' hS' hB1 h2)⟩
  ·unfold wpOp
   simp only [hq]
   rw [if_pos hw2]
   refine .inl (Oper.wp_mono (fun a' w' h1=>?_) h2)
   obtain ⟨S',hsub,hS',h2⟩:=h1
   exact ⟨hsub _ hS',wpAnyH_stronger hsub _ _ _ _ (RF.held hs hQ n s S' _ _ w' hS' hB2 h2)⟩
theorem rf_start {id:Nat} {Q:Exit→Act→World→Prop} {a:Act} {w:World} {l:List Oper} (sch:Sch) (S:World→Prop) (hm:P.follows .mixedOrders=true)
  (hB:(Region.noSelect l.toArray&&sched3 .any l.toArray l.length sch (Array.replicate l.toArray.size false))=true) (hQ:∀ c (a:Act) d v w,Q (.panic c) (a.put d v) w→Q (.panic c) a w)
  (hS:S w.drew) (h:Nonempty (Wrap S)→RF P l Q sch S a w.drew):(Code.region id l.toArray true).wp P Q a w:=by
 simp only [Bool.and_eq_true] at hB
 refine wp_region_held (S:=S) hm ?_
 have:=RF.held (md:=.any) hB.1 hQ _ sch S _ a w.drew hS hB.2 (h ⟨⟨_,hS⟩⟩)
 simpa using this
theorem rf_nil {ol:List Oper} {Q:Exit→Act→World→Prop} {S:World→Prop} {a:Act} {w:World} (h:Q .normal a w):RF P ol Q .fin S a w:=h
theorem rf_skip {ol:List Oper} {Q:Exit→Act→World→Prop} {S:World→Prop} {i:Nat} {r:Sch} {a:Act} {w:World} {dst:Option Tmp} {op:Op} {ty:TypeId} {pos:String} {aft:Array Edge} {gd:Option (Nat × Bool)} (ho:ol[i]?=some ⟨dst,op,ty,pos,aft,gd⟩) (hw:Region.wanted ⟨dst,op,ty,pos,aft,gd⟩ (yielded ol.toArray a.tmps)=false)
  (h:∀ K:Act→Prop,(∀ a',RF P ol Q r S a' w→K a')→Oper.quiet P ⟨dst,.move (.const undef),ty,pos,aft,none⟩ a (fun _=>True) K):RF P ol Q (.one i r) S a w:=by
 refine ⟨_,ho,?_⟩
 rw [if_neg (by rw [hw];exact Bool.false_ne_true)]
 obtain ⟨v,hv,hk⟩:=h _ fun _ h=>h
 have h1:=hv w trivial
 unfold Oper.quietAt at h1
 rw [BigFrame.run_move (.const undef) rfl] at h1
 obtain ⟨h2,h3⟩:=h1
 have h3:v=undef:=by
  first
   | exact h3
   | exact h3.symm
 subst h3
 exact hk
theorem rf_quiet {ol:List Oper} {Q:Exit→Act→World→Prop} {S:World→Prop} {i:Nat} {r:Sch} {a:Act} {w:World} {o:Oper} (ho:ol[i]?=some o) (ht:tame2 o=true) (hw:Region.wanted o (yielded ol.toArray a.tmps)=true)
  (h:∀ K:Act→Prop,(∀ a',RF P ol Q r S a' w→K a')→o.quiet P a (fun w'=>∃ p:Wrap S,w'=p.w) K):RF P ol Q (.one i r) S a w:=
 ⟨o,ho,by rw [if_pos hw,if_pos ht];exact h _ fun _ h=>h⟩
theorem rf_call {ol:List Oper} {Q:Exit→Act→World→Prop} {S:World→Prop} {i:Nat} {r:Sch} {a:Act} {w:World} {o:Oper} (ho:ol[i]?=some o) (ht:tame2 o=false) (hw:Region.wanted o (yielded ol.toArray a.tmps)=true)
  (h:∀ K:Act→World→Prop,(∀ (S':World→Prop) a' w',(∀ x,S' x→S x)→S' w'→(Nonempty (Wrap S')→RF P ol Q r S' a' w')→K a' w')→o.wp P a w K Q):RF P ol Q (.one i r) S a w:=
 ⟨o,ho,by rw [if_pos hw,if_neg (by rw [ht];exact Bool.false_ne_true)];exact h _ fun S' _ _ h1 h2 h3=>⟨S',h1,h2,h3 ⟨⟨_,h2⟩⟩⟩⟩
theorem rf_two {ol:List Oper} {Q:Exit→Act→World→Prop} {S:World→Prop} {i j:Nat} {r s:Sch} {a:Act} {w:World} {o q:Oper} (ho:ol[i]?=some o) (hq:ol[j]?=some q) (hw:Region.wanted o (yielded ol.toArray a.tmps)=true) (hw2:Region.wanted q (yielded ol.toArray a.tmps)=true)
  (h:∀ K:Act→World→Prop,(∀ (S':World→Prop) a' w',(∀ x,S' x→S x)→S' w'→(Nonempty (Wrap S')→RF P ol Q r S' a' w')→K a' w')→o.wp P a w K Q)
  (h2:∀ K:Act→World→Prop,(∀ (S':World→Prop) a' w',(∀ x,S' x→S x)→S' w'→(Nonempty (Wrap S')→RF P ol Q s S' a' w')→K a' w')→q.wp P a w K Q):RF P ol Q (.two i r j s) S a w:=
 ⟨⟨o,ho,hw,h _ fun S' _ _ h1 h2 h3=>⟨S',h1,h2,h3 ⟨⟨_,h2⟩⟩⟩⟩,⟨q,hq,hw2,h2 _ fun S' _ _ h1 h2 h3=>⟨S',h1,h2,h3 ⟨⟨_,h2⟩⟩⟩⟩⟩
end
end
section
variable {P : Program} {ops : Array Oper} {md : Region.Mode}
open Go Go.Sort Go.RowKit
theorem fqq {ol : List Oper} {Q : Exit → Act → World → Prop} {S : World → Prop} {i : Nat} {r : Sch} {a : Act} {w : World} {o : Oper} (h : ∀ K : Act → Prop, (∀ a', RF P ol Q r S a' w → K a') → o.quiet P a (fun w' => ∃ p : Wrap S, w' = p.w) K) (ho : ol[i]? = some o:=by rfl) (ht : tame2 o = true:=by rfl) (hw : Region.wanted o (yielded ol.toArray a.tmps) = true:=by rfl):RF P ol Q (.one i r) S a w:=rf_quiet ho ht hw h
theorem fkk {ol : List Oper} {Q : Exit → Act → World → Prop} {S : World → Prop} {i : Nat} {r : Sch} {a : Act} {w : World} {dst : Option Tmp} {op : Op} {ty : TypeId} {pos : String} {aft : Array Edge} {gd : Option (Nat × Bool)} (h : ∀ K : Act → Prop, (∀ a', RF P ol Q r S a' w → K a') → Oper.quiet P ⟨dst, .move (.const undef), ty, pos, aft, none⟩ a (fun _ => True) K) (ho : ol[i]? = some ⟨dst, op, ty, pos, aft, gd⟩:=by rfl) (hw : Region.wanted ⟨dst, op, ty, pos, aft, gd⟩ (yielded ol.toArray a.tmps) = false:=by rfl):RF P ol Q (.one i r) S a w:=rf_skip ho hw h
theorem fcc {ol : List Oper} {Q : Exit → Act → World → Prop} {S : World → Prop} {i : Nat} {r : Sch} {a : Act} {w : World} {o : Oper} (h : ∀ K : Act → World → Prop, (∀ (S' : World → Prop) a' w', (∀ x, S' x → S x) → S' w' → (Nonempty (Wrap S') → RF P ol Q r S' a' w') → K a' w') → o.wp P a w K Q) (ho : ol[i]? = some o:=by rfl) (ht : tame2 o = false:=by rfl) (hw : Region.wanted o (yielded ol.toArray a.tmps) = true:=by rfl):RF P ol Q (.one i r) S a w:=rf_call ho ht hw h
theorem ftt {id : Nat} {Q : Exit → Act → World → Prop} {a : Act} {w : World} {l : List Oper} (sch : Sch) (S : World → Prop) (hS : S w.drew) (h : Nonempty (Wrap S) → RF P l Q sch S a w.drew) (hm : P.follows .mixedOrders = true:=by kernel_rfl) (hB : (Region.noSelect l.toArray && sched3 .any l.toArray l.length sch (Array.replicate l.toArray.size false)) = true:=by kernel_rfl) (hQ : ∀ c (a : Act) d v w, Q (.panic c) (a.put d v) w → Q (.panic c) a w:=by intro _ _ d _ _ h;cases d <;> exact h):(Code.region id l.toArray true).wp P Q a w:=rf_start sch S hm hB hQ hS h
end
section
open Go Go.Sort Go.RowKit
def cellI (w:World) (a:Addr):Int:=match w.cell? a with
 | some (.int _ v)=>v
 | _=>0
def findV (id n:Int):Nat→Int→Option Int
 | 0,_=>none
 | k+1,v=>if decT v n=id then some v else findV id n k (v+1)
theorem findV_le {id n:Int}:∀ (k:Nat) (v r:Int),findV id n k v=some r→v≤r∧r<v+k
 | 0,_,_,h=>by cases h
 | k+1,v,r,h=>by
  unfold findV at h
  split at h
  ·cases h
   omega
  ·have:=findV_le k (v+1) r h
   omega
def allT (n:Int):Int:=2 ^ n.toNat-1
theorem addsL_id:∀ (M L R:List EnD),addsL L M=some R→R=L++M∧∀ e ∈ M,mayB e=true
 | [],L,R,h=>by
  cases h
  exact ⟨by simp,fun e he=>by cases he⟩
 | e::M,L,R,h=>by
  obtain ⟨L',h1,h2⟩:=adds_cons h
  obtain ⟨h3,-,-,-,rfl⟩:=addL_some h1
  obtain ⟨h4,h5⟩:=addsL_id M _ R h2
  refine ⟨by rw [h4];simp,fun y hy=>?_⟩
  rcases List.mem_cons.1 hy with rfl | hy
  ·exact h3
  ·exact h5 y hy
def propS (s:NdD) (view:Int):NdD:={ s with dv:=view,v:=some (view,[⟨s.id,s.ls,s.L,s.cm⟩]),hd:=s.ck,ag:=false,f:=dropP s.f }
def propO (s:NdD):Option NdD:=
 match findV s.id s.n 8 (mxI s.dv s.dn+1) with
 | none=>none
 | some view=>if (decide (view≤1000000000)&&decide (s.ls<view))&&((addsL [] s.L).isSome&&decide (s.cm≤(s.L.length:Int))) then
   foldO (otherG (prop1 view) s.id s.n) (idsT.filter (hasT (allT s.n))) (propS s view) else none
variable {w w4:World} {o o4:Ow} {k x wb jd:Nat} {A A':AdD} {s s':NdD}
theorem nprop_any (hcl:Cl w o) (hk:32≤k) (h:NodeP w o k x wb jd A s) (hs:propO s=some s') :
  Calls Tryz.prog 109 #[ptrN x] w fun e w'=>e=.returned (.tuple #[])∧∃ o' A',NodeP w' o' k x wb jd A' s'∧Fm (ndC k) o o' w w':=by
 unfold propO at hs
 split at hs
 case h_1=>cases hs
 rename_i view hfv
 split at hs
 case isFalse=>cases hs
 rename_i hc
 simp only [Bool.and_eq_true,decide_eq_true_eq] at hc
 have HFV:=hI hfv
 have HCC:=hI hc
 have HS:=hI hs
 have HK:=hI hk
 have HC:=hI hcl
 have A0:=hI (Ext.alloc w (.cells #[ptrN x] 37))
 have XB:=hI (BoxC.loose hcl #[ptrN x] [ptrN x] 37 rfl)
 have H:=hI (h.ext A0.o)
 have M1:=hI (Fm.ext (C:=ndC k) hcl A0.o)
 clear hk hcl h hs hfv hc HC
 go_enter Tryz.func109,Tryz.ntmps109
 go_upto_region 1 with fail
 change Code.wp _ _ _ _ (w.alloc (.cells #[ptrN x] 37))
 clear A0
 generalize w.alloc (.cells #[ptrN x] 37)=w1 at *
 generalize w.heap.size=xb at *
 obtain ⟨W2,hW⟩:∃ W2,W2=w1.drew:=⟨_,rfl⟩
 have X2:Hid (Ext w1 W2):=hI (by rw [hW];exact Ext.drew w1)
 replace H:=hI (H.o.ext X2.o)
 replace XB:=hI (XB.o.ext X2.o)
 replace M1:=hI (M1.o.tr (Fm.ext M1.o.cl X2.o) (nd0 HK.o))
 have rb:=fun (q:Wrap (Ext W2))=>Ext.cell q.h (XB.o.box.c 0 _ rfl)
 have r2:=fun (q:Wrap (Ext W2))=>Ext.cell q.h (H.o.c 2 _ rfl)
 have r18:=fun (q:Wrap (Ext W2))=>Ext.cell q.h (H.o.c 18 _ rfl)
 obtain ⟨v0,hv0⟩:∃ v0,v0=mxI s.dv s.dn+1:=⟨_,rfl⟩
 rw [← hv0] at HFV
 have HV0:Hid (1≤v0∧s.dv<v0∧v0≤1000000001):=hI (by have h1:=H.o.ok.dv;have h2:=H.o.ok.dn;unfold mxI at hv0;split at hv0 <;> omega)
 have hmx:wrap64 ((if s.dv<s.dn then s.dn else s.dv)+1)=v0:=by
  have h1:=H.o.ok.dv
  have h2:=H.o.ok.dn
  rw [hv0]
  unfold mxI wrap64
  split <;> omega
 clear hv0
 obtain ⟨vb,hvb⟩:∃ vb,vb=W2.heap.size:=⟨_,rfl⟩
 obtain ⟨W5,hW5⟩:∃ W5,W5=(W2.alloc (.cells #[.int .i64 0] 2)).setCell ⟨vb,0,none⟩ (.int .i64 v0):=⟨_,rfl⟩
 obtain ⟨o5,ho5⟩:∃ o5,o5=dye o vb (k+20):=⟨_,rfl⟩
 have F0:Hid (Fm (fun _=>False) o o5 W2 (W2.alloc (.cells #[.int .i64 0] 2))):=hI (by rw [ho5,hvb];exact Fm.made M1.o.cl _ _)
 have V0:Hid (BoxC (W2.alloc (.cells #[.int .i64 0] 2)) o5 (k+20) vb [.int .i64 0]):=hI (by rw [ho5,hvb];exact BoxC.made W2 o (k+20) #[.int .i64 0] [.int .i64 0] 2 rfl)
 have F1:Hid (Fm (one (k+20)) o5 o5 (W2.alloc (.cells #[.int .i64 0] 2)) W5):=hI (by rw [hW5];exact Fm.put (C:=one (k+20)) F0.o.cl V0.o (by have:=HK.o;omega) rfl 0 (.int .i64 v0))
 have VB5:Hid (BoxC W5 o5 (k+20) vb [.int .i64 v0]):=hI (by rw [hW5];exact V0.o.put 0 (.int .i64 v0))
 have H5:=hI ((H.o.fr HK.o F0.o (fun e=>e) (fun d e=>e.elim)).fr HK.o F1.o (by unfold one;omega) (fun d hd=>by unfold one at hd;unfold ndI;omega))
 have XB5:=hI ((XB.o.fr F0.o (by decide) (fun e=>e)).fr F1.o (by decide) (by unfold one;omega))
 have M5:=hI ((M1.o.tr (F0.o.mono (fun d e=>e.elim)) (nd0 HK.o)).tr (F1.o.mono (fun d hd=>by unfold one at hd;unfold ndC;omega)) (nd0 HK.o))
 have PF:Hid (Ext W2 W5):=hI (by rw [hW5];exact Ext.grown (grown_put (grown_ext (Ext.alloc W2 _) (some vb)) 0 (.int .i64 v0)) (fun k hk=>by cases hk;rw [hvb];exact Nat.le_refl _))
 have HVB:=hI hvb
 have HW5:=hI hW5
 have z0:=V0.o.box.c 0 _ rfl
 have zf:=V0.o.box.f 0
 clear F0 V0 F1 ho5 hvb hW5
 refine ftt (.one 0 (.one 1 (.one 2 (.one 3 (.one 5 (.one 6 (.one 7 (.one 8 (.two 4 (.one 9 (.one 10 (.one 11 (.one 12 .fin)))) 11 (.one 4 (.one 9 (.one 10 (.one 12 .fin))))))))))))) (Ext W2) (by rw [← hW];exact Ext.rfl' _) (fun _=>?_)
 rw [← hW]
 clear hW
 repeat ((first|refine fqq fun K hK=>?_|refine fkk fun K hK=>?_);go_big_quiet_op;refine hK _ ?_;clear hK K)
 clear rb r2 r18
 refine rf_two rfl rfl (by rfl) (by rfl) (fun K hK=>?_) (fun K hK=>?_)
 ·go_simp
  refine (dview_any H.o.q.dk).mono ?_
  rintro e w9 ⟨rfl,rfl⟩
  refine hK (Ext W2) _ _ (fun _ h=>h) (Ext.rfl' W2) (fun _=>?_)
  clear hK K
  repeat ((first|refine fqq fun K hK=>?_|refine fkk fun K hK=>?_);go_big_quiet_op;refine hK _ ?_;clear hK K)
  refine fcc fun K hK=>?_
  go_simp
  refine hK (Ext W2) _ _ (fun _ h=>h) (Ext.alloc W2 (.cells #[.int .i64 0] 2)) (fun _=>?_)
  clear hK K
  change RF _ _ _ _ _ _ (W2.alloc (.cells #[.int .i64 0] 2))
  rw [← HVB.o]
  refine fcc fun K hK=>?_
  go_simp
  rw [← HW5.o]
  refine hK (Ext W2) _ W5 (fun _ h=>h) PF.o (fun _=>?_)
  clear hK K PF
  refine rf_nil ?_
  clear hmx H XB M1 HW5 HVB z0 zf
  generalize (if s.dv<s.dn then s.dn else s.dv)=mx at *
  go_wp2
  go_loopw [] (fun wr=>∃ (j:Nat) (v:Int),findV s.id s.n j v=some view∧v0≤v∧BoxC wr o5 (k+20) vb [.int .i64 v]∧NodeP wr o5 k x wb jd A s∧BoxC wr o5 0 xb [ptrN x]∧Fm (ndC k) o o5 w wr) (fun wr=>(view-cellI wr ⟨vb,0,none⟩).toNat)
  case atStart=>exact ⟨8,v0,HFV.o,Int.le_refl _,VB5.o,H5.o,XB5.o,M5.o⟩
  case round=>
   obtain ⟨j,v,fv,hv0,vbx,nd,xbx,mm⟩:=hrel
   have hvr:=findV_le j v view fv
   have VBX:=hI vbx
   have ND:=hI nd
   have XBX:=hI xbx
   have MM:=hI mm
   have HV0':=hI hv0
   have HVR:=hI hvr
   have FV:=hI fv
   clear vbx nd xbx mm fv VB5 H5 XB5 M5 hv0 hvr
   have hci:cellI wr ⟨vb,0,none⟩=v:=by
    unfold cellI
    rw [VBX.o.box.c 0 _ rfl]
   have HCI:=hI hci
   clear hci
   have hw1:wrap64 (v+1)=v+1:=by have:=HVR.o;have:=HCC.o.1.1;have:=HV0'.o;have:=HV0.o;unfold wrap64;omega
   obtain ⟨dd,hdd⟩:∃ dd,dd=decT v s.n:=⟨_,rfl⟩
   have HDD:=hI hdd
   clear hdd
   go_upto_region 2 with fail
   obtain ⟨WR,hW⟩:∃ WR,WR=wr.drew:=⟨_,rfl⟩
   have XR:Hid (Ext wr WR):=hI (by rw [hW];exact Ext.drew wr)
   replace ND:=hI (ND.o.ext XR.o)
   replace VBX:=hI (VBX.o.ext XR.o)
   replace XBX:=hI (XBX.o.ext XR.o)
   have gb:=fun d os=>Ext.cell (Ext.reg WR d os) (XBX.o.box.c 0 _ rfl)
   have gv:=fun d os=>Ext.cell (Ext.reg WR d os) (VBX.o.box.c 0 _ rfl)
   have g1:=ND.o.g 1 _ rfl
   have g0:=ND.o.g 0 _ rfl
   refine att [0,1,2,3,4,6,7,8,9,5,10] [] ?_
   rw [← hW]
   clear hW
   repeat ((first|refine aqq fun K hK=>?_|refine akk fun K hK=>?_);go_big_quiet_op;refine hK _ ?_;clear hK K)
   refine acc fun K hK=>?_
   go_simp
   refine (tdec_any v s.n ⟨by have:=HV0'.o;have:=HV0.o;omega,by have:=HVR.o;have:=HCC.o.1.1;omega⟩ ND.o.ok.n _).mono ?_
   rw [← HDD.o]
   rintro e w7 ⟨rfl,rfl⟩
   refine hK _ _ (Ext.rfl' _) ?_;clear hK K
   repeat ((first|refine aqq fun K hK=>?_|refine akk fun K hK=>?_);go_big_quiet_op;refine hK _ ?_;clear hK K)
   refine ra_nil ?_
   refine rt_nil ?_
   clear gb gv g1 g0
   have MR:=hI (MM.o.tr (Fm.ext MM.o.cl XR.o) (nd0 HK.o))
   clear MM XR
   cases j with
   | zero=>exact absurd FV.o (by simp [findV])
   | succ j=>
   by_cases hd:dd=s.id
   ·have e1:(dd==s.id)=true:=by simpa using hd
    have e2:v=view:=by
     have:=FV.o
     unfold findV at this
     rw [if_pos (by rw [← HDD.o];exact hd)] at this
     exact Option.some.inj this
    subst e2
    clear hd
    go_upto_region 4 with fail
    obtain ⟨W4,hW⟩:∃ W4,W4=WR.drew:=⟨_,rfl⟩
    have X4:Hid (Ext WR W4):=hI (by rw [hW];exact Ext.drew WR)
    replace ND:=hI (ND.o.ext X4.o)
    replace VBX:=hI (VBX.o.ext X4.o)
    replace XBX:=hI (XBX.o.ext X4.o)
    have gb:=fun d os=>Ext.cell (Ext.reg W4 d os) (XBX.o.box.c 0 _ rfl)
    have gv:=fun d os=>Ext.cell (Ext.reg W4 d os) (VBX.o.box.c 0 _ rfl)
    have g2:=ND.o.g 2 _ rfl
    refine att [0,1,2,3,4] [5,6] ?_
    rw [← hW]
    clear hW
    repeat ((first|refine aqq fun K hK=>?_|refine akk fun K hK=>?_);go_big_quiet_op;refine hK _ ?_;clear hK K)
    clear gb gv g2
    refine ra_nil ?_
    refine too fun K hK=>?_
    go_simp
    have M4:=hI (MR.o.tr (Fm.ext MR.o.cl X4.o) (nd0 HK.o))
    refine (dpromise_any M4.o.cl ND.o.q.dk ⟨by have:=HV0.o;have:=HV0'.o;omega,by have:=HCC.o.1.1;omega⟩).mono ?_
    rintro e w6 ⟨rfl,dk6,m6⟩
    obtain ⟨N6,F6⟩:=NodeP.mod0 (A':=A) (s':={ s with dv:=v }) HK.o ND.o m6 (fun d hd=>by unfold one at hd;unfold ndC;omega) (ND.o.q.set_dk HK.o dk6 m6 (fun d hd=>.inl hd)) rfl { ND.o.ok with dv:=⟨show 0≤v by have:=HV0.o;have:=HV0'.o;have:=ND.o.ok.dv;omega,HCC.o.1.1⟩ }
    have H6:=hI N6
    have V6:=hI (VBX.o.fr m6 (by have:=HK.o;omega) (by unfold one;omega))
    have XB6:=hI (XBX.o.fr m6 (by decide) (by unfold one;omega))
    have M6:=hI (M4.o.tr F6 (nd0 HK.o))
    clear dk6 m6 N6 F6 ND VBX XBX M4 MR X4
    refine hK _ _ ?_
    clear hK K
    refine too fun K hK=>?_
    go_simp
    refine hK _ _ ?_
    clear hK K
    refine rt_nil ?_
    go_upto_region 5 with fail
    obtain ⟨W7,hW⟩:∃ W7,W7=w6.drew:=⟨_,rfl⟩
    have X7:Hid (Ext w6 W7):=hI (by rw [hW];exact Ext.drew w6)
    replace H6:=hI (H6.o.ext X7.o)
    replace V6:=hI (V6.o.ext X7.o)
    replace XB6:=hI (XB6.o.ext X7.o)
    have rb:=fun (q:Wrap (CL [(⟨xb,0,none⟩,ptrN x),(⟨vb,0,none⟩,.int .i64 v),(⟨x,1,none⟩,.int .i64 s.n)]))=>(q.h.1:q.w.cell? ⟨xb,0,none⟩=some (ptrN x))
    have rv:=fun (q:Wrap (CL [(⟨xb,0,none⟩,ptrN x),(⟨vb,0,none⟩,.int .i64 v),(⟨x,1,none⟩,.int .i64 s.n)]))=>(q.h.2.1:q.w.cell? ⟨vb,0,none⟩=some (.int .i64 v))
    have r1:=fun (q:Wrap (CL [(⟨xb,0,none⟩,ptrN x),(⟨vb,0,none⟩,.int .i64 v),(⟨x,1,none⟩,.int .i64 s.n)]))=>(q.h.2.2.1:q.w.cell? ⟨x,1,none⟩=some (.int .i64 s.n))
    refine gtt [0,1,2,3,4,5,6,7,8,9] (CL [(⟨xb,0,none⟩,ptrN x),(⟨vb,0,none⟩,.int .i64 v),(⟨x,1,none⟩,.int .i64 s.n)]) (by rw [← hW];exact ⟨XB6.o.box.c 0 _ rfl,V6.o.box.c 0 _ rfl,H6.o.c 1 _ rfl,trivial⟩) (fun _=>?_)
    rw [← hW]
    clear hW
    repeat ((first|refine gqq fun K hK=>?_|refine gkk fun K hK=>?_);go_big_quiet_op;refine hK _ ?_;clear hK K)
    obtain ⟨vg,hvg⟩:∃ vg,vg=W7.heap.size:=⟨_,rfl⟩
    have M7:=hI (M6.o.tr (Fm.ext M6.o.cl X7.o) (nd0 HK.o))
    have VN:=vnew_any M7.o.cl (k+11) (fun _=>False) (vw:=v) (n:=s.n) ⟨by have:=HV0.o;have:=HV0'.o;omega,by have:=HCC.o.1.1;omega⟩ H6.o.ok.n
    rw [← hvg] at VN
    have HVN:=hI VN
    clear VN hvg
    refine gcc fun K hK=>?_
    go_simp
    refine HVN.o.mono ?_
    rintro e w8 ⟨o8,rfl,vs8,m8⟩
    have H8:=hI (H6.o.fr HK.o m8 (fun e=>e) (fun d e=>e.elim))
    have V8:=hI (V6.o.fr m8 (by have:=HK.o;omega) (fun e=>e))
    have XB8:=hI (XB6.o.fr m8 (by decide) (fun e=>e))
    have VS8:=hI vs8
    have M8:=hI (M7.o.tr (m8.mono (fun d e=>e.elim)) (nd0 HK.o))
    clear vs8 m8 HVN
    refine hK (CL [(⟨xb,0,none⟩,ptrN x),(⟨vb,0,none⟩,.int .i64 v),(⟨x,1,none⟩,.int .i64 s.n)]) _ _ (fun _ h=>h) ⟨XB8.o.box.c 0 _ rfl,V8.o.box.c 0 _ rfl,H8.o.c 1 _ rfl,trivial⟩ (fun _=>?_)
    clear hK K
    repeat ((first|refine gqq fun K hK=>?_|refine gkk fun K hK=>?_);go_big_quiet_op;refine hK _ ?_;clear hK K)
    have c17:=H8.o.c 17 _ rfl
    have f17:=H8.o.box.box.f 17
    have P9:=hI (Fm.put (C:=one k) M8.o.cl H8.o.box (by have:=HK.o;omega) rfl 17 (ptrN vg))
    obtain ⟨N9,F9⟩:=NodeP.mod (C:=fun _=>False) (A':={ A with v:=some vg }) (s':={ s with dv:=v,v:=some (v,[]) }) HK.o H8.o (Fm.refl M8.o.cl) (fun d e=>e.elim) (H8.o.q.set_vt (C:=fun _=>False) HK.o ⟨vg,rfl,VS8.o⟩ (Fm.refl M8.o.cl) (fun d e=>e.elim)) 17 (ptrN vg) rfl { H8.o.ok with id:=H8.o.ok.id }
    have H9:=hI N9
    have V9:=hI (V8.o.fr P9.o (by have:=HK.o;omega) (by unfold one;omega))
    have XB9:=hI (XB8.o.fr P9.o (by decide) (by unfold one;have:=HK.o;omega))
    have M9:=hI (M8.o.tr F9 (nd0 HK.o))
    refine gcc fun K hK=>?_
    go_simp
    refine hK (fun W=>W=w8.setCell ⟨x,17,none⟩ (ptrN vg)) _ _ (fun W h=>by rw [h];exact ⟨XB9.o.box.c 0 _ rfl,V9.o.box.c 0 _ rfl,H9.o.c 1 _ rfl,trivial⟩) rfl (fun _=>?_)
    clear hK K c17 f17 P9 N9 F9 H8 V8 XB8 VS8 M8 H6 V6 XB6 M6 M7 X7 rb rv r1
    refine rg_nil ?_
    generalize w8.setCell ⟨x,17,none⟩ (ptrN vg)=w9 at *
    obtain ⟨s9,hs9⟩:∃ s9:NdD,s9={ s with dv:=v,v:=some (v,[]) }:=⟨_,rfl⟩
    obtain ⟨A9,hA9⟩:∃ A9:AdD,A9={ A with v:=some vg }:=⟨_,rfl⟩
    rw [← hs9,← hA9] at H9
    have E9:Hid (s9.id=s.id∧s9.ls=s.ls∧s9.L=s.L∧s9.cm=s.cm∧s9.n=s.n∧s9.ck=s.ck∧s9.v=some (v,[])):=hI (by rw [hs9];exact ⟨rfl,rfl,rfl,rfl,rfl,rfl,rfl⟩)
    have HS9:=hI hs9
    have VA9:Hid (A9.v=some vg):=hI (by rw [hA9])
    clear hs9 hA9
    go_upto_region 6 with fail
    obtain ⟨W10,hW⟩:∃ W10,W10=w9.drew:=⟨_,rfl⟩
    have X10:Hid (Ext w9 W10):=hI (by rw [hW];exact Ext.drew w9)
    replace H9:=hI (H9.o.ext X10.o)
    replace V9:=hI (V9.o.ext X10.o)
    replace XB9:=hI (XB9.o.ext X10.o)
    have gb:=fun d os=>Ext.cell (Ext.reg W10 d os) (XB9.o.box.c 0 _ rfl)
    have g17:∀ d os,(grow (redrawn W10 d) os).cell? ⟨x,17,none⟩=some (ptrN vg):=by
     have:=H9.o.g 17 _ rfl
     rw [VA9.o] at this
     exact this
    have g0:=H9.o.g 0 _ rfl
    have g11:=H9.o.g 11 _ rfl
    have g9:=H9.o.g 9 _ rfl
    have g10:=H9.o.g 10 _ rfl
    refine att [0,1,2,3,4,5,6,7,8,9,10,11,12,13,14,15,17,18,19,20,16,21] [22] ?_
    rw [← hW]
    clear hW
    repeat ((first|refine aqq fun K hK=>?_|refine akk fun K hK=>?_);go_big_quiet_op;refine hK _ ?_;clear hK K)
    have M10:=hI (M9.o.tr (Fm.ext M9.o.cl X10.o) (nd0 HK.o))
    refine acc fun K hK=>?_
    go_simp
    refine (lfrom0_any H9.o.q.lg).mono ?_
    rintro e w11 ⟨p11,c11,rfl,o11,x11⟩
    have S11:=hI (SlC.fresh o11 M10.o.cl (Nat.le_refl _))
    have M11:=hI (M10.o.tr (Fm.ext M10.o.cl x11) (nd0 HK.o))
    replace H9:=hI (H9.o.ext x11)
    replace V9:=hI (V9.o.ext x11)
    replace XB9:=hI (XB9.o.ext x11)
    refine hK _ _ x11 ?_
    clear hK K o11 x11 M10 M9
    repeat ((first|refine aqq fun K hK=>?_|refine akk fun K hK=>?_);go_big_quiet_op;refine hK _ ?_;clear hK K)
    refine acc fun K hK=>?_
    go_simp
    refine hK _ _ (Ext.rfl' _) ?_;clear hK K
    refine ra_nil ?_
    refine too fun K hK=>?_
    go_simp
    have VS11:Hid (VsV w11 o8 (k+11) vg v s9.n []):=hI (by
     have h1:=H9.o.q.vt
     rw [E9.o.2.2.2.2.2.2,VA9.o] at h1
     obtain ⟨g',hg',h2⟩:=h1
     cases hg'
     exact h2)
    have AD:Hid (addsL [] s9.L=some s9.L):=hI (by
     rw [E9.o.2.2.1]
     obtain ⟨R,hR⟩:=Option.isSome_iff_exists.1 HCC.o.2.1
     have:=(addsL_id _ _ _ hR).1
     rw [hR,this]
     rfl)
    have T0:Hid (hasT (teamV []) s9.id=false):=hI (by simp [teamV,hasT])
    refine (vadd_any (c:=k+11) (g:=vg) (vw:=v) (n:=s9.n) (vs:=[]) (fr:=s9.id) (ls:=s9.ls) (cm:=s9.cm) (L:=s9.L) M11.o.cl VS11.o (by have:=HK.o;omega) ⟨⟨H9.o.ok.id.1,by have h1:=H9.o.ok.id.2;have h2:=H9.o.ok.n.2;omega⟩,H9.o.ok.id.2⟩ T0.o ⟨H9.o.ok.ls.1,by rw [E9.o.2.1];exact HCC.o.1.2⟩ S11.o (fun e he=>mayB_ok (H9.o.ok.L e he)) AD.o ⟨H9.o.ok.cm.1,by rw [E9.o.2.2.2.1,E9.o.2.2.1];exact HCC.o.2.2⟩ (LogV.max H9.o.q.lg) (by decide)).mono ?_
    rintro e w12 ⟨o12,rfl,vs12,m12⟩
    obtain ⟨N12,F12⟩:=NodeP.mod0 (A':=A9) (s':={ s9 with v:=some (v,[⟨s9.id,s9.ls,s9.L,s9.cm⟩]) }) HK.o H9.o m12 (fun d hd=>by unfold two at hd;unfold ndC;omega) (H9.o.q.set_vt HK.o ⟨vg,VA9.o,vs12⟩ m12 (fun d hd=>by unfold two at hd;omega)) rfl { H9.o.ok with id:=H9.o.ok.id }
    have H12:=hI N12
    have V12:=hI (V9.o.fr m12 (by have:=HK.o;omega) (by unfold two;omega))
    have XB12:=hI (XB9.o.fr m12 (by decide) (by unfold two;have:=HK.o;omega))
    have M12:=hI (M11.o.tr F12 (nd0 HK.o))
    clear vs12 m12 N12 F12 VS11 AD T0 S11 H9 V9 XB9 M11 gb g17 g0 g11 g9 g10 X10
    refine hK _ _ ?_
    clear hK K
    refine rt_nil ?_
    go_upto_region 7 with fail
    obtain ⟨s12,hs12⟩:∃ s12:NdD,s12={ s9 with v:=some (v,[⟨s9.id,s9.ls,s9.L,s9.cm⟩]) }:=⟨_,rfl⟩
    rw [← hs12] at H12
    have HS12:=hI hs12
    clear hs12
    have xb0:=XB12.o.box.c 0 _ rfl
    have c4:=H12.o.c 4 _ rfl
    have c5:=H12.o.c 5 _ rfl
    have f5:=H12.o.box.box.f 5
    have c19:=H12.o.c 19 _ rfl
    have f19:=H12.o.box.box.f 19
    have P5:=hI (Fm.put (C:=one k) M12.o.cl H12.o.box (by have:=HK.o;omega) rfl 5 (.int .i64 s12.ck))
    obtain ⟨N13,F13⟩:=NodeP.mod (C:=fun _=>False) (A':=A9) (s':={ s12 with hd:=s12.ck }) HK.o H12.o (Fm.refl M12.o.cl) (fun d hd=>hd.elim) { H12.o.q with dk:=H12.o.q.dk } 5 (.int .i64 s12.ck) rfl { H12.o.ok with hd:=H12.o.ok.ck }
    have H13:=hI N13
    have M13:=hI (M12.o.tr F13 (nd0 HK.o))
    have P19:=hI (Fm.put (C:=one k) M13.o.cl H13.o.box (by have:=HK.o;omega) rfl 19 (.bool false))
    obtain ⟨N14,F14⟩:=NodeP.mod (C:=fun _=>False) (A':=A9) (s':={ s12 with hd:=s12.ck,ag:=false }) HK.o H13.o (Fm.refl M13.o.cl) (fun d hd=>hd.elim) { H13.o.q with dk:=H13.o.q.dk } 19 (.bool false) rfl { H13.o.ok with id:=H13.o.ok.id }
    have h1k:¬ one k 0:=by unfold one;have:=HK.o;omega
    have H14:=hI (N14.ext (Ext.drew _))
    have M14:=hI ((M13.o.tr F14 (nd0 HK.o)).tr (Fm.ext F14.cl (Ext.drew _)) (nd0 HK.o))
    have V14:=hI (((V12.o.fr P5.o (by have:=HK.o;omega) (by unfold one;omega)).fr P19.o (by have:=HK.o;omega) (by unfold one;omega)).ext (Ext.drew _))
    have XB14:=hI (((XB12.o.fr P5.o (by decide) h1k).fr P19.o (by decide) h1k).ext (Ext.drew _))
    clear N13 F13 N14 F14 H13 M13 P5 P19 h1k
    go_region
    clear xb0 c4 c5 f5 c19 f19 H12 M12 V12 XB12
    generalize ((w12.setCell ⟨x,5,none⟩ (.int .i64 s12.ck)).setCell ⟨x,19,none⟩ (.bool false)).drew=w14 at *
    obtain ⟨s14,hs14⟩:∃ s14:NdD,s14={ s12 with hd:=s12.ck,ag:=false }:=⟨_,rfl⟩
    have HS14:=hI hs14
    rw [← hs14] at H14
    clear hs14
    have xb0:=XB14.o.box.c 0 _ rfl
    have c16:=H14.o.c 16 _ rfl
    go_wp2_with fail
    refine (pdrop_any M14.o.cl H14.o.q.pf (by have:=HK.o;omega)).mono ?_
    rintro e w15 ⟨rfl,pf15,m15⟩
    obtain ⟨N15,F15⟩:=NodeP.mod0 (A':=A9) (s':={ s14 with f:=dropP s14.f }) HK.o H14.o m15 (fun d hd=>by unfold two at hd;unfold ndC;omega) (H14.o.q.set_pf HK.o pf15 m15 (fun d hd=>by unfold two at hd;omega)) rfl { H14.o.ok with bc:=(show 0≤(0:Int)∧(0:Int)≤1000000 by decide) }
    have H15:=hI N15
    have V15:=hI (V14.o.fr m15 (by have:=HK.o;omega) (by unfold two;omega))
    have XB15:=hI (XB14.o.fr m15 (by decide) (by unfold two;have:=HK.o;omega))
    have M15:=hI (M14.o.tr F15 (nd0 HK.o))
    clear pf15 m15 N15 F15 H14 M14 V14 XB14 xb0 c16
    have e15:({ s14 with f:=dropP s14.f }:NdD)=propS s v:=by
     rw [HS14.o,HS12.o,HS9.o]
     rfl
    rw [e15] at H15
    clear e15
    go_upto_region 9 with fail
    obtain ⟨W16,hW⟩:∃ W16,W16=w15.drew:=⟨_,rfl⟩
    have X16:Hid (Ext w15 W16):=hI (by rw [hW];exact Ext.drew w15)
    replace H15:=hI (H15.o.ext X16.o)
    replace V15:=hI (V15.o.ext X16.o)
    replace XB15:=hI (XB15.o.ext X16.o)
    have gb:=fun d os=>Ext.cell (Ext.reg W16 d os) (XB15.o.box.c 0 _ rfl)
    have g1:∀ d os,(grow (redrawn W16 d) os).cell? ⟨x,1,none⟩=some (.int .i64 s.n):=H15.o.g 1 _ rfl
    refine att [0,1,2,3,4,5,6,7] [8] ?_
    rw [← hW]
    clear hW
    repeat ((first|refine aqq fun K hK=>?_|refine akk fun K hK=>?_);go_big_quiet_op;refine hK _ ?_;clear hK K)
    have M16:=hI (M15.o.tr (Fm.ext M15.o.cl X16.o) (nd0 HK.o))
    have FR:Hid (Fm (one (k+20)) o12 (dye o12 vb 0) W16 W16):=hI ((Fm.refl M16.o.cl).free (by rw [V15.o.col];have:=HK.o;omega) (by rw [V15.o.col];rfl))
    have H17:=hI (H15.o.fr HK.o FR.o (by unfold one;omega) (fun d hd=>by unfold one at hd;unfold ndI;omega))
    have XB17:=hI (XB15.o.fr FR.o (by decide) (by unfold one;omega))
    have V17:Hid (BoxC W16 (dye o12 vb 0) 0 vb [.int .i64 v]):=hI ⟨dye_same _ _ _,V15.o.box⟩
    have M17:=hI (M16.o.tr (FR.o.mono (fun d hd=>by unfold one at hd;unfold ndC;omega)) (nd0 HK.o))
    have hn5:s.n=3∨s.n=4∨s.n=5∨s.n=6∨s.n=7:=by have h1:3≤s.n∧s.n≤7:=H17.o.ok.n;omega
    have TT:Hid (isT (allT s.n)):=hI (by rcases hn5 with h | h | h | h | h <;> (rw [h];exact ⟨by decide,by decide⟩))
    have OT:Hid (∀ t,t=allT s.n→Calls Tryz.prog 136 #[ptrN x,.int .i64 t,.func (.func 151) #[] #[ptrN xb,ptrN vb]] W16 fun e w'=>e=.returned (.tuple #[])∧∃ o',(EnvP w' o' k x wb jd xb s.id s.n s'∧BoxC w' o' 0 vb [.int .i64 v])∧Fm (ndC k) (dye o12 vb 0) o' W16 w'):=hI (fun t ht=>by
     subst ht
     exact others2 (R:=fun s1 w1 o1=>EnvP w1 o1 k x wb jd xb s.id s.n s1∧BoxC w1 o1 0 vb [.int .i64 v]) (F:=prop1 v) (C:=ndC k) (nd0 HK.o) TT.o (enter_of Tryz.func151 (by kernel_rfl) (by kernel_rfl)) (fun s1 w1 o1 h=>h.1.cells) (fun s1 w1 w2 o1 h e=>⟨h.1.ext e,h.2.ext e⟩) (fun s1 s2 w1 o1 i hi hti hne hle hR hcl hFi=>prop1_any HK.o hcl hR.1 hR.2 hFi) M17.o.cl ⟨⟨⟨A9,H17.o⟩,XB17.o,rfl,rfl⟩,V17.o⟩ HS.o)
    clear FR H15 XB15 V15 M15 M16 X16 H17 XB17 V17
    rcases hn5 with hn | hn | hn | hn | hn
    all_goals
     have HN:=hI hn
     rw [hn] at g1 ⊢
     clear hn
     repeat ((first|refine aqq fun K hK=>?_|refine akk fun K hK=>?_);go_big_quiet_op;refine hK _ ?_;clear hK K)
     refine acc fun K hK=>?_
     go_simp
     refine hK _ _ (Ext.rfl' _) ?_;clear hK K
     refine ra_nil ?_
     refine too fun K hK=>?_
     go_simp
     refine (OT.o _ (by rw [HN.o];rfl)).mono ?_
     rintro e w18 ⟨rfl,o18,⟨env,bx⟩,m18⟩
     obtain ⟨A18,n18⟩:=env.nd
     have N18:=hI n18
     have M18:=hI (M17.o.tr m18 (nd0 HK.o))
     clear env bx m18 n18
     refine hK _ _ ?_
     clear hK K
     refine rt_nil ?_
     refine bodyPost_end (v:=.tuple #[]) (by simp [results,Tryz.results109,go_sem]) rfl ?_
     exact ⟨rfl,o18,A18,N18.o,M18.o⟩
   ·have e1:(dd==s.id)=false:=by simpa using hd
    have e2:findV s.id s.n j (v+1)=some view:=by
     have:=FV.o
     unfold findV at this
     rwa [if_neg (by rw [← HDD.o];exact hd)] at this
    have E2:=hI e2
    clear hd e2
    have v0':=VBX.o.box.c 0 _ rfl
    have f0':=VBX.o.box.f 0
    go_wp2
    have P:=hI (Fm.put (C:=one (k+20)) MR.o.cl VBX.o (by have:=HK.o;omega) rfl 0 (.int .i64 (v+1)))
    have VP:=hI (VBX.o.put 0 (.int .i64 (v+1)))
    go_roundw
    case rel=>exact ⟨j,v+1,E2.o,by have:=HV0'.o;omega,VP.o,ND.o.fr HK.o P.o (by unfold one;omega) (fun d hd=>by unfold one at hd;unfold ndI;omega),XBX.o.fr P.o (by decide) (by unfold one;omega),MR.o.tr (P.o.mono (fun d hd=>by unfold one at hd;unfold ndC;omega)) (nd0 HK.o)⟩
    case measure=>
     have h1:=VP.o.box.c 0 _ rfl
     have h2:=findV_le _ _ _ E2.o
     have h4:=HCI.o
     unfold cellI at h4
     simp only [cellI,h1]
     rw [h4]
     omega
 ·go_simp
  refine hK (Ext W2) _ _ (fun _ h=>h) (Ext.alloc W2 (.cells #[.int .i64 0] 2)) (fun _=>?_)
  clear hK K
  change RF _ _ _ _ _ _ (W2.alloc (.cells #[.int .i64 0] 2))
  rw [← HVB.o]
  refine fcc fun K hK=>?_
  go_simp
  refine (dview_any (H.o.q.dk.ext (Ext.alloc W2 _))).mono ?_
  rintro e w9 ⟨rfl,rfl⟩
  refine hK (Ext W2) _ _ (fun _ h=>h) (Ext.alloc W2 _) (fun _=>?_)
  clear hK K
  repeat ((first|refine fqq fun K hK=>?_|refine fkk fun K hK=>?_);go_big_quiet_op;refine hK _ ?_;clear hK K)
  refine fcc fun K hK=>?_
  go_simp
  rw [← HW5.o]
  refine hK (Ext W2) _ W5 (fun _ h=>h) PF.o (fun _=>?_)
  clear hK K PF
  refine rf_nil ?_
  clear hmx H XB M1 HW5 HVB z0 zf
  generalize (if s.dv<s.dn then s.dn else s.dv)=mx at *
  go_wp2
  go_loopw [] (fun wr=>∃ (j:Nat) (v:Int),findV s.id s.n j v=some view∧v0≤v∧BoxC wr o5 (k+20) vb [.int .i64 v]∧NodeP wr o5 k x wb jd A s∧BoxC wr o5 0 xb [ptrN x]∧Fm (ndC k) o o5 w wr) (fun wr=>(view-cellI wr ⟨vb,0,none⟩).toNat)
  case atStart=>exact ⟨8,v0,HFV.o,Int.le_refl _,VB5.o,H5.o,XB5.o,M5.o⟩
  case round=>
   obtain ⟨j,v,fv,hv0,vbx,nd,xbx,mm⟩:=hrel
   have hvr:=findV_le j v view fv
   have VBX:=hI vbx
   have ND:=hI nd
   have XBX:=hI xbx
   have MM:=hI mm
   have HV0':=hI hv0
   have HVR:=hI hvr
   have FV:=hI fv
   clear vbx nd xbx mm fv VB5 H5 XB5 M5 hv0 hvr
   have hci:cellI wr ⟨vb,0,none⟩=v:=by
    unfold cellI
    rw [VBX.o.box.c 0 _ rfl]
   have HCI:=hI hci
   clear hci
   have hw1:wrap64 (v+1)=v+1:=by have:=HVR.o;have:=HCC.o.1.1;have:=HV0'.o;have:=HV0.o;unfold wrap64;omega
   obtain ⟨dd,hdd⟩:∃ dd,dd=decT v s.n:=⟨_,rfl⟩
   have HDD:=hI hdd
   clear hdd
   go_upto_region 2 with fail
   obtain ⟨WR,hW⟩:∃ WR,WR=wr.drew:=⟨_,rfl⟩
   have XR:Hid (Ext wr WR):=hI (by rw [hW];exact Ext.drew wr)
   replace ND:=hI (ND.o.ext XR.o)
   replace VBX:=hI (VBX.o.ext XR.o)
   replace XBX:=hI (XBX.o.ext XR.o)
   have gb:=fun d os=>Ext.cell (Ext.reg WR d os) (XBX.o.box.c 0 _ rfl)
   have gv:=fun d os=>Ext.cell (Ext.reg WR d os) (VBX.o.box.c 0 _ rfl)
   have g1:=ND.o.g 1 _ rfl
   have g0:=ND.o.g 0 _ rfl
   refine att [0,1,2,3,4,6,7,8,9,5,10] [] ?_
   rw [← hW]
   clear hW
   repeat ((first|refine aqq fun K hK=>?_|refine akk fun K hK=>?_);go_big_quiet_op;refine hK _ ?_;clear hK K)
   refine acc fun K hK=>?_
   go_simp
   refine (tdec_any v s.n ⟨by have:=HV0'.o;have:=HV0.o;omega,by have:=HVR.o;have:=HCC.o.1.1;omega⟩ ND.o.ok.n _).mono ?_
   rw [← HDD.o]
   rintro e w7 ⟨rfl,rfl⟩
   refine hK _ _ (Ext.rfl' _) ?_;clear hK K
   repeat ((first|refine aqq fun K hK=>?_|refine akk fun K hK=>?_);go_big_quiet_op;refine hK _ ?_;clear hK K)
   refine ra_nil ?_
   refine rt_nil ?_
   clear gb gv g1 g0
   have MR:=hI (MM.o.tr (Fm.ext MM.o.cl XR.o) (nd0 HK.o))
   clear MM XR
   cases j with
   | zero=>exact absurd FV.o (by simp [findV])
   | succ j=>
   by_cases hd:dd=s.id
   ·have e1:(dd==s.id)=true:=by simpa using hd
    have e2:v=view:=by
     have:=FV.o
     unfold findV at this
     rw [if_pos (by rw [← HDD.o];exact hd)] at this
     exact Option.some.inj this
    subst e2
    clear hd
    go_upto_region 4 with fail
    obtain ⟨W4,hW⟩:∃ W4,W4=WR.drew:=⟨_,rfl⟩
    have X4:Hid (Ext WR W4):=hI (by rw [hW];exact Ext.drew WR)
    replace ND:=hI (ND.o.ext X4.o)
    replace VBX:=hI (VBX.o.ext X4.o)
    replace XBX:=hI (XBX.o.ext X4.o)
    have gb:=fun d os=>Ext.cell (Ext.reg W4 d os) (XBX.o.box.c 0 _ rfl)
    have gv:=fun d os=>Ext.cell (Ext.reg W4 d os) (VBX.o.box.c 0 _ rfl)
    have g2:=ND.o.g 2 _ rfl
    refine att [0,1,2,3,4] [5,6] ?_
    rw [← hW]
    clear hW
    repeat ((first|refine aqq fun K hK=>?_|refine akk fun K hK=>?_);go_big_quiet_op;refine hK _ ?_;clear hK K)
    clear gb gv g2
    refine ra_nil ?_
    refine too fun K hK=>?_
    go_simp
    have M4:=hI (MR.o.tr (Fm.ext MR.o.cl X4.o) (nd0 HK.o))
    refine (dpromise_any M4.o.cl ND.o.q.dk ⟨by have:=HV0.o;have:=HV0'.o;omega,by have:=HCC.o.1.1;omega⟩).mono ?_
    rintro e w6 ⟨rfl,dk6,m6⟩
    obtain ⟨N6,F6⟩:=NodeP.mod0 (A':=A) (s':={ s with dv:=v }) HK.o ND.o m6 (fun d hd=>by unfold one at hd;unfold ndC;omega) (ND.o.q.set_dk HK.o dk6 m6 (fun d hd=>.inl hd)) rfl { ND.o.ok with dv:=⟨show 0≤v by have:=HV0.o;have:=HV0'.o;have:=ND.o.ok.dv;omega,HCC.o.1.1⟩ }
    have H6:=hI N6
    have V6:=hI (VBX.o.fr m6 (by have:=HK.o;omega) (by unfold one;omega))
    have XB6:=hI (XBX.o.fr m6 (by decide) (by unfold one;omega))
    have M6:=hI (M4.o.tr F6 (nd0 HK.o))
    clear dk6 m6 N6 F6 ND VBX XBX M4 MR X4
    refine hK _ _ ?_
    clear hK K
    refine too fun K hK=>?_
    go_simp
    refine hK _ _ ?_
    clear hK K
    refine rt_nil ?_
    go_upto_region 5 with fail
    obtain ⟨W7,hW⟩:∃ W7,W7=w6.drew:=⟨_,rfl⟩
    have X7:Hid (Ext w6 W7):=hI (by rw [hW];exact Ext.drew w6)
    replace H6:=hI (H6.o.ext X7.o)
    replace V6:=hI (V6.o.ext X7.o)
    replace XB6:=hI (XB6.o.ext X7.o)
    have rb:=fun (q:Wrap (CL [(⟨xb,0,none⟩,ptrN x),(⟨vb,0,none⟩,.int .i64 v),(⟨x,1,none⟩,.int .i64 s.n)]))=>(q.h.1:q.w.cell? ⟨xb,0,none⟩=some (ptrN x))
    have rv:=fun (q:Wrap (CL [(⟨xb,0,none⟩,ptrN x),(⟨vb,0,none⟩,.int .i64 v),(⟨x,1,none⟩,.int .i64 s.n)]))=>(q.h.2.1:q.w.cell? ⟨vb,0,none⟩=some (.int .i64 v))
    have r1:=fun (q:Wrap (CL [(⟨xb,0,none⟩,ptrN x),(⟨vb,0,none⟩,.int .i64 v),(⟨x,1,none⟩,.int .i64 s.n)]))=>(q.h.2.2.1:q.w.cell? ⟨x,1,none⟩=some (.int .i64 s.n))
    refine gtt [0,1,2,3,4,5,6,7,8,9] (CL [(⟨xb,0,none⟩,ptrN x),(⟨vb,0,none⟩,.int .i64 v),(⟨x,1,none⟩,.int .i64 s.n)]) (by rw [← hW];exact ⟨XB6.o.box.c 0 _ rfl,V6.o.box.c 0 _ rfl,H6.o.c 1 _ rfl,trivial⟩) (fun _=>?_)
    rw [← hW]
    clear hW
    repeat ((first|refine gqq fun K hK=>?_|refine gkk fun K hK=>?_);go_big_quiet_op;refine hK _ ?_;clear hK K)
    obtain ⟨vg,hvg⟩:∃ vg,vg=W7.heap.size:=⟨_,rfl⟩
    have M7:=hI (M6.o.tr (Fm.ext M6.o.cl X7.o) (nd0 HK.o))
    have VN:=vnew_any M7.o.cl (k+11) (fun _=>False) (vw:=v) (n:=s.n) ⟨by have:=HV0.o;have:=HV0'.o;omega,by have:=HCC.o.1.1;omega⟩ H6.o.ok.n
    rw [← hvg] at VN
    have HVN:=hI VN
    clear VN hvg
    refine gcc fun K hK=>?_
    go_simp
    refine HVN.o.mono ?_
    rintro e w8 ⟨o8,rfl,vs8,m8⟩
    have H8:=hI (H6.o.fr HK.o m8 (fun e=>e) (fun d e=>e.elim))
    have V8:=hI (V6.o.fr m8 (by have:=HK.o;omega) (fun e=>e))
    have XB8:=hI (XB6.o.fr m8 (by decide) (fun e=>e))
    have VS8:=hI vs8
    have M8:=hI (M7.o.tr (m8.mono (fun d e=>e.elim)) (nd0 HK.o))
    clear vs8 m8 HVN
    refine hK (CL [(⟨xb,0,none⟩,ptrN x),(⟨vb,0,none⟩,.int .i64 v),(⟨x,1,none⟩,.int .i64 s.n)]) _ _ (fun _ h=>h) ⟨XB8.o.box.c 0 _ rfl,V8.o.box.c 0 _ rfl,H8.o.c 1 _ rfl,trivial⟩ (fun _=>?_)
    clear hK K
    repeat ((first|refine gqq fun K hK=>?_|refine gkk fun K hK=>?_);go_big_quiet_op;refine hK _ ?_;clear hK K)
    have c17:=H8.o.c 17 _ rfl
    have f17:=H8.o.box.box.f 17
    have P9:=hI (Fm.put (C:=one k) M8.o.cl H8.o.box (by have:=HK.o;omega) rfl 17 (ptrN vg))
    obtain ⟨N9,F9⟩:=NodeP.mod (C:=fun _=>False) (A':={ A with v:=some vg }) (s':={ s with dv:=v,v:=some (v,[]) }) HK.o H8.o (Fm.refl M8.o.cl) (fun d e=>e.elim) (H8.o.q.set_vt (C:=fun _=>False) HK.o ⟨vg,rfl,VS8.o⟩ (Fm.refl M8.o.cl) (fun d e=>e.elim)) 17 (ptrN vg) rfl { H8.o.ok with id:=H8.o.ok.id }
    have H9:=hI N9
    have V9:=hI (V8.o.fr P9.o (by have:=HK.o;omega) (by unfold one;omega))
    have XB9:=hI (XB8.o.fr P9.o (by decide) (by unfold one;have:=HK.o;omega))
    have M9:=hI (M8.o.tr F9 (nd0 HK.o))
    refine gcc fun K hK=>?_
    go_simp
    refine hK (fun W=>W=w8.setCell ⟨x,17,none⟩ (ptrN vg)) _ _ (fun W h=>by rw [h];exact ⟨XB9.o.box.c 0 _ rfl,V9.o.box.c 0 _ rfl,H9.o.c 1 _ rfl,trivial⟩) rfl (fun _=>?_)
    clear hK K c17 f17 P9 N9 F9 H8 V8 XB8 VS8 M8 H6 V6 XB6 M6 M7 X7 rb rv r1
    refine rg_nil ?_
    generalize w8.setCell ⟨x,17,none⟩ (ptrN vg)=w9 at *
    obtain ⟨s9,hs9⟩:∃ s9:NdD,s9={ s with dv:=v,v:=some (v,[]) }:=⟨_,rfl⟩
    obtain ⟨A9,hA9⟩:∃ A9:AdD,A9={ A with v:=some vg }:=⟨_,rfl⟩
    rw [← hs9,← hA9] at H9
    have E9:Hid (s9.id=s.id∧s9.ls=s.ls∧s9.L=s.L∧s9.cm=s.cm∧s9.n=s.n∧s9.ck=s.ck∧s9.v=some (v,[])):=hI (by rw [hs9];exact ⟨rfl,rfl,rfl,rfl,rfl,rfl,rfl⟩)
    have HS9:=hI hs9
    have VA9:Hid (A9.v=some vg):=hI (by rw [hA9])
    clear hs9 hA9
    go_upto_region 6 with fail
    obtain ⟨W10,hW⟩:∃ W10,W10=w9.drew:=⟨_,rfl⟩
    have X10:Hid (Ext w9 W10):=hI (by rw [hW];exact Ext.drew w9)
    replace H9:=hI (H9.o.ext X10.o)
    replace V9:=hI (V9.o.ext X10.o)
    replace XB9:=hI (XB9.o.ext X10.o)
    have gb:=fun d os=>Ext.cell (Ext.reg W10 d os) (XB9.o.box.c 0 _ rfl)
    have g17:∀ d os,(grow (redrawn W10 d) os).cell? ⟨x,17,none⟩=some (ptrN vg):=by
     have:=H9.o.g 17 _ rfl
     rw [VA9.o] at this
     exact this
    have g0:=H9.o.g 0 _ rfl
    have g11:=H9.o.g 11 _ rfl
    have g9:=H9.o.g 9 _ rfl
    have g10:=H9.o.g 10 _ rfl
    refine att [0,1,2,3,4,5,6,7,8,9,10,11,12,13,14,15,17,18,19,20,16,21] [22] ?_
    rw [← hW]
    clear hW
    repeat ((first|refine aqq fun K hK=>?_|refine akk fun K hK=>?_);go_big_quiet_op;refine hK _ ?_;clear hK K)
    have M10:=hI (M9.o.tr (Fm.ext M9.o.cl X10.o) (nd0 HK.o))
    refine acc fun K hK=>?_
    go_simp
    refine (lfrom0_any H9.o.q.lg).mono ?_
    rintro e w11 ⟨p11,c11,rfl,o11,x11⟩
    have S11:=hI (SlC.fresh o11 M10.o.cl (Nat.le_refl _))
    have M11:=hI (M10.o.tr (Fm.ext M10.o.cl x11) (nd0 HK.o))
    replace H9:=hI (H9.o.ext x11)
    replace V9:=hI (V9.o.ext x11)
    replace XB9:=hI (XB9.o.ext x11)
    refine hK _ _ x11 ?_
    clear hK K o11 x11 M10 M9
    repeat ((first|refine aqq fun K hK=>?_|refine akk fun K hK=>?_);go_big_quiet_op;refine hK _ ?_;clear hK K)
    refine acc fun K hK=>?_
    go_simp
    refine hK _ _ (Ext.rfl' _) ?_;clear hK K
    refine ra_nil ?_
    refine too fun K hK=>?_
    go_simp
    have VS11:Hid (VsV w11 o8 (k+11) vg v s9.n []):=hI (by
     have h1:=H9.o.q.vt
     rw [E9.o.2.2.2.2.2.2,VA9.o] at h1
     obtain ⟨g',hg',h2⟩:=h1
     cases hg'
     exact h2)
    have AD:Hid (addsL [] s9.L=some s9.L):=hI (by
     rw [E9.o.2.2.1]
     obtain ⟨R,hR⟩:=Option.isSome_iff_exists.1 HCC.o.2.1
     have:=(addsL_id _ _ _ hR).1
     rw [hR,this]
     rfl)
    have T0:Hid (hasT (teamV []) s9.id=false):=hI (by simp [teamV,hasT])
    refine (vadd_any (c:=k+11) (g:=vg) (vw:=v) (n:=s9.n) (vs:=[]) (fr:=s9.id) (ls:=s9.ls) (cm:=s9.cm) (L:=s9.L) M11.o.cl VS11.o (by have:=HK.o;omega) ⟨⟨H9.o.ok.id.1,by have h1:=H9.o.ok.id.2;have h2:=H9.o.ok.n.2;omega⟩,H9.o.ok.id.2⟩ T0.o ⟨H9.o.ok.ls.1,by rw [E9.o.2.1];exact HCC.o.1.2⟩ S11.o (fun e he=>mayB_ok (H9.o.ok.L e he)) AD.o ⟨H9.o.ok.cm.1,by rw [E9.o.2.2.2.1,E9.o.2.2.1];exact HCC.o.2.2⟩ (LogV.max H9.o.q.lg) (by decide)).mono ?_
    rintro e w12 ⟨o12,rfl,vs12,m12⟩
    obtain ⟨N12,F12⟩:=NodeP.mod0 (A':=A9) (s':={ s9 with v:=some (v,[⟨s9.id,s9.ls,s9.L,s9.cm⟩]) }) HK.o H9.o m12 (fun d hd=>by unfold two at hd;unfold ndC;omega) (H9.o.q.set_vt HK.o ⟨vg,VA9.o,vs12⟩ m12 (fun d hd=>by unfold two at hd;omega)) rfl { H9.o.ok with id:=H9.o.ok.id }
    have H12:=hI N12
    have V12:=hI (V9.o.fr m12 (by have:=HK.o;omega) (by unfold two;omega))
    have XB12:=hI (XB9.o.fr m12 (by decide) (by unfold two;have:=HK.o;omega))
    have M12:=hI (M11.o.tr F12 (nd0 HK.o))
    clear vs12 m12 N12 F12 VS11 AD T0 S11 H9 V9 XB9 M11 gb g17 g0 g11 g9 g10 X10
    refine hK _ _ ?_
    clear hK K
    refine rt_nil ?_
    go_upto_region 7 with fail
    obtain ⟨s12,hs12⟩:∃ s12:NdD,s12={ s9 with v:=some (v,[⟨s9.id,s9.ls,s9.L,s9.cm⟩]) }:=⟨_,rfl⟩
    rw [← hs12] at H12
    have HS12:=hI hs12
    clear hs12
    have xb0:=XB12.o.box.c 0 _ rfl
    have c4:=H12.o.c 4 _ rfl
    have c5:=H12.o.c 5 _ rfl
    have f5:=H12.o.box.box.f 5
    have c19:=H12.o.c 19 _ rfl
    have f19:=H12.o.box.box.f 19
    have P5:=hI (Fm.put (C:=one k) M12.o.cl H12.o.box (by have:=HK.o;omega) rfl 5 (.int .i64 s12.ck))
    obtain ⟨N13,F13⟩:=NodeP.mod (C:=fun _=>False) (A':=A9) (s':={ s12 with hd:=s12.ck }) HK.o H12.o (Fm.refl M12.o.cl) (fun d hd=>hd.elim) { H12.o.q with dk:=H12.o.q.dk } 5 (.int .i64 s12.ck) rfl { H12.o.ok with hd:=H12.o.ok.ck }
    have H13:=hI N13
    have M13:=hI (M12.o.tr F13 (nd0 HK.o))
    have P19:=hI (Fm.put (C:=one k) M13.o.cl H13.o.box (by have:=HK.o;omega) rfl 19 (.bool false))
    obtain ⟨N14,F14⟩:=NodeP.mod (C:=fun _=>False) (A':=A9) (s':={ s12 with hd:=s12.ck,ag:=false }) HK.o H13.o (Fm.refl M13.o.cl) (fun d hd=>hd.elim) { H13.o.q with dk:=H13.o.q.dk } 19 (.bool false) rfl { H13.o.ok with id:=H13.o.ok.id }
    have h1k:¬ one k 0:=by unfold one;have:=HK.o;omega
    have H14:=hI (N14.ext (Ext.drew _))
    have M14:=hI ((M13.o.tr F14 (nd0 HK.o)).tr (Fm.ext F14.cl (Ext.drew _)) (nd0 HK.o))
    have V14:=hI (((V12.o.fr P5.o (by have:=HK.o;omega) (by unfold one;omega)).fr P19.o (by have:=HK.o;omega) (by unfold one;omega)).ext (Ext.drew _))
    have XB14:=hI (((XB12.o.fr P5.o (by decide) h1k).fr P19.o (by decide) h1k).ext (Ext.drew _))
    clear N13 F13 N14 F14 H13 M13 P5 P19 h1k
    go_region
    clear xb0 c4 c5 f5 c19 f19 H12 M12 V12 XB12
    generalize ((w12.setCell ⟨x,5,none⟩ (.int .i64 s12.ck)).setCell ⟨x,19,none⟩ (.bool false)).drew=w14 at *
    obtain ⟨s14,hs14⟩:∃ s14:NdD,s14={ s12 with hd:=s12.ck,ag:=false }:=⟨_,rfl⟩
    have HS14:=hI hs14
    rw [← hs14] at H14
    clear hs14
    have xb0:=XB14.o.box.c 0 _ rfl
    have c16:=H14.o.c 16 _ rfl
    go_wp2_with fail
    refine (pdrop_any M14.o.cl H14.o.q.pf (by have:=HK.o;omega)).mono ?_
    rintro e w15 ⟨rfl,pf15,m15⟩
    obtain ⟨N15,F15⟩:=NodeP.mod0 (A':=A9) (s':={ s14 with f:=dropP s14.f }) HK.o H14.o m15 (fun d hd=>by unfold two at hd;unfold ndC;omega) (H14.o.q.set_pf HK.o pf15 m15 (fun d hd=>by unfold two at hd;omega)) rfl { H14.o.ok with bc:=(show 0≤(0:Int)∧(0:Int)≤1000000 by decide) }
    have H15:=hI N15
    have V15:=hI (V14.o.fr m15 (by have:=HK.o;omega) (by unfold two;omega))
    have XB15:=hI (XB14.o.fr m15 (by decide) (by unfold two;have:=HK.o;omega))
    have M15:=hI (M14.o.tr F15 (nd0 HK.o))
    clear pf15 m15 N15 F15 H14 M14 V14 XB14 xb0 c16
    have e15:({ s14 with f:=dropP s14.f }:NdD)=propS s v:=by
     rw [HS14.o,HS12.o,HS9.o]
     rfl
    rw [e15] at H15
    clear e15
    go_upto_region 9 with fail
    obtain ⟨W16,hW⟩:∃ W16,W16=w15.drew:=⟨_,rfl⟩
    have X16:Hid (Ext w15 W16):=hI (by rw [hW];exact Ext.drew w15)
    replace H15:=hI (H15.o.ext X16.o)
    replace V15:=hI (V15.o.ext X16.o)
    replace XB15:=hI (XB15.o.ext X16.o)
    have gb:=fun d os=>Ext.cell (Ext.reg W16 d os) (XB15.o.box.c 0 _ rfl)
    have g1:∀ d os,(grow (redrawn W16 d) os).cell? ⟨x,1,none⟩=some (.int .i64 s.n):=H15.o.g 1 _ rfl
    refine att [0,1,2,3,4,5,6,7] [8] ?_
    rw [← hW]
    clear hW
    repeat ((first|refine aqq fun K hK=>?_|refine akk fun K hK=>?_);go_big_quiet_op;refine hK _ ?_;clear hK K)
    have M16:=hI (M15.o.tr (Fm.ext M15.o.cl X16.o) (nd0 HK.o))
    have FR:Hid (Fm (one (k+20)) o12 (dye o12 vb 0) W16 W16):=hI ((Fm.refl M16.o.cl).free (by rw [V15.o.col];have:=HK.o;omega) (by rw [V15.o.col];rfl))
    have H17:=hI (H15.o.fr HK.o FR.o (by unfold one;omega) (fun d hd=>by unfold one at hd;unfold ndI;omega))
    have XB17:=hI (XB15.o.fr FR.o (by decide) (by unfold one;omega))
    have V17:Hid (BoxC W16 (dye o12 vb 0) 0 vb [.int .i64 v]):=hI ⟨dye_same _ _ _,V15.o.box⟩
    have M17:=hI (M16.o.tr (FR.o.mono (fun d hd=>by unfold one at hd;unfold ndC;omega)) (nd0 HK.o))
    have hn5:s.n=3∨s.n=4∨s.n=5∨s.n=6∨s.n=7:=by have h1:3≤s.n∧s.n≤7:=H17.o.ok.n;omega
    have TT:Hid (isT (allT s.n)):=hI (by rcases hn5 with h | h | h | h | h <;> (rw [h];exact ⟨by decide,by decide⟩))
    have OT:Hid (∀ t,t=allT s.n→Calls Tryz.prog 136 #[ptrN x,.int .i64 t,.func (.func 151) #[] #[ptrN xb,ptrN vb]] W16 fun e w'=>e=.returned (.tuple #[])∧∃ o',(EnvP w' o' k x wb jd xb s.id s.n s'∧BoxC w' o' 0 vb [.int .i64 v])∧Fm (ndC k) (dye o12 vb 0) o' W16 w'):=hI (fun t ht=>by
     subst ht
     exact others2 (R:=fun s1 w1 o1=>EnvP w1 o1 k x wb jd xb s.id s.n s1∧BoxC w1 o1 0 vb [.int .i64 v]) (F:=prop1 v) (C:=ndC k) (nd0 HK.o) TT.o (enter_of Tryz.func151 (by kernel_rfl) (by kernel_rfl)) (fun s1 w1 o1 h=>h.1.cells) (fun s1 w1 w2 o1 h e=>⟨h.1.ext e,h.2.ext e⟩) (fun s1 s2 w1 o1 i hi hti hne hle hR hcl hFi=>prop1_any HK.o hcl hR.1 hR.2 hFi) M17.o.cl ⟨⟨⟨A9,H17.o⟩,XB17.o,rfl,rfl⟩,V17.o⟩ HS.o)
    clear FR H15 XB15 V15 M15 M16 X16 H17 XB17 V17
    rcases hn5 with hn | hn | hn | hn | hn
    all_goals
     have HN:=hI hn
     rw [hn] at g1 ⊢
     clear hn
     repeat ((first|refine aqq fun K hK=>?_|refine akk fun K hK=>?_);go_big_quiet_op;refine hK _ ?_;clear hK K)
     refine acc fun K hK=>?_
     go_simp
     refine hK _ _ (Ext.rfl' _) ?_;clear hK K
     refine ra_nil ?_
     refine too fun K hK=>?_
     go_simp
     refine (OT.o _ (by rw [HN.o];rfl)).mono ?_
     rintro e w18 ⟨rfl,o18,⟨env,bx⟩,m18⟩
     obtain ⟨A18,n18⟩:=env.nd
     have N18:=hI n18
     have M18:=hI (M17.o.tr m18 (nd0 HK.o))
     clear env bx m18 n18
     refine hK _ _ ?_
     clear hK K
     refine rt_nil ?_
     refine bodyPost_end (v:=.tuple #[]) (by simp [results,Tryz.results109,go_sem]) rfl ?_
     exact ⟨rfl,o18,A18,N18.o,M18.o⟩
   ·have e1:(dd==s.id)=false:=by simpa using hd
    have e2:findV s.id s.n j (v+1)=some view:=by
     have:=FV.o
     unfold findV at this
     rwa [if_neg (by rw [← HDD.o];exact hd)] at this
    have E2:=hI e2
    clear hd e2
    have v0':=VBX.o.box.c 0 _ rfl
    have f0':=VBX.o.box.f 0
    go_wp2
    have P:=hI (Fm.put (C:=one (k+20)) MR.o.cl VBX.o (by have:=HK.o;omega) rfl 0 (.int .i64 (v+1)))
    have VP:=hI (VBX.o.put 0 (.int .i64 (v+1)))
    go_roundw
    case rel=>exact ⟨j,v+1,E2.o,by have:=HV0'.o;omega,VP.o,ND.o.fr HK.o P.o (by unfold one;omega) (fun d hd=>by unfold one at hd;unfold ndI;omega),XBX.o.fr P.o (by decide) (by unfold one;omega),MR.o.tr (P.o.mono (fun d hd=>by unfold one at hd;unfold ndC;omega)) (nd0 HK.o)⟩
    case measure=>
     have h1:=VP.o.box.c 0 _ rfl
     have h2:=findV_le _ _ _ E2.o
     have h4:=HCI.o
     unfold cellI at h4
     simp only [cellI,h1]
     rw [h4]
     omega
end
section
open Go Go.Sort Go.RowKit
def minI (a b:Int):Int:=if b<a then b else a
def earsTo (e:E8) (c:Int):Nat→E8
 | 0=>e
 | k+1=>(earsTo e c k).set k c
theorem ndL_sete {wb jd:Nat} {A:AdD} {s:NdD} {F:Nat} {v:Int} (h:F<8):(ndL wb jd A s).set (24+F) (.int .i64 v)=ndL wb jd A { s with er:=s.er.set F v }:=by
 rcases lt8 h with rfl | rfl | rfl | rfl | rfl | rfl | rfl | rfl <;> rfl
theorem E8.set_at (e:E8) {k:Nat} (hk:k<8) (v:Int) (i:Nat):(e.set k v).at i=if i=k then v else e.at i:=by
 have:=congrFun (E8.upd e hk v) i
 rw [← this]
 rfl
def instS (s:NdD) (vw:Int) (vs:List VoK) (q:QuD):NdD:=
 { s with L:=(bestV vs).L,cm:=minI (mxI s.cm (bestV vs).cm) ((bestV vs).L.length:Int),ls:=vw,mb:=teamV vs,mi:=true,q:=some q,st:=((bestV vs).L.length:Int),ac:=0,ak:=[],v:=none,er:=E8.all s.ck,hd:=s.ck }
def instO (s:NdD):Option NdD:=
 match s.v with
 | none=>none
 | some (vw,vs)=>if (mostT (teamV vs) s.n&&hasT (teamV vs) s.id)&&(decide (0≤vw∧vw≤1000000000)&&(addsL [] (bestV vs).L).isSome)&&decide (0≤(bestV vs).cm∧(bestV vs).cm≤60) then
   foldO (otherG wholeO s.id s.n) (idsT.filter (hasT (teamV vs))) (instS s vw vs (ackQ (newQ s.n (teamV vs) s.id) s.id ((bestV vs).L.length:Int) 0)) else none
variable {w w4:World} {o o4:Ow} {k x wb jd:Nat} {A A':AdD} {s s':NdD}
theorem NodeP.vs {vw:Int} {vs:List VoK} {g:Nat} (H:NodeP w o k x wb jd A s) (hv:s.v=some (vw,vs)) (hA:A.v=some g):VsV w o (k+11) g vw s.n vs:=by
 have h1:=H.q.vt
 rw [hv,hA] at h1
 obtain ⟨g',hg',h2⟩:=h1
 cases hg'
 exact h2
theorem ninst_any (hcl:Cl w o) (hk:32≤k) (h:NodeP w o k x wb jd A s) (hs:instO s=some s') :
  Calls Tryz.prog 135 #[ptrN x] w fun e w'=>e=.returned (.tuple #[])∧∃ o' A',NodeP w' o' k x wb jd A' s'∧Fm (ndC k) o o' w w':=by
 unfold instO at hs
 split at hs
 case h_1=>cases hs
 rename_i vw vs hv
 split at hs
 case isFalse=>cases hs
 rename_i hc
 simp only [Bool.and_eq_true,decide_eq_true_eq] at hc
 obtain ⟨vg,hvg,hVs⟩:∃ vg,A.v=some vg∧VsV w o (k+11) vg vw s.n vs:=by
  have:=h.q.vt
  rw [hv] at this
  exact this
 have TI:Hid (isT (teamV vs)):=hI (by
  obtain ⟨p,cap,ds,hp,rfl⟩:=hVs
  exact teamV_is ds (fun d hd=>(hp.ok d hd).fr))
 have HNE:Hid (vs≠[]):=hI (fun e=>by
  have h1:=hc.1.1.2
  rw [e] at h1
  simp [teamV,hasT] at h1)
 have CC:=hI hc
 have HS:=hI hs
 have HK:=hI hk
 have HC:=hI hcl
 have VS:=hI hVs
 have HVG:=hI hvg
 have H:=hI h
 have c17:w.cell? ⟨x,17,none⟩=some (ptrN vg):=by
  have:=h.c 17 _ rfl
  rw [hvg] at this
  exact this
 obtain ⟨BL,hBL⟩:∃ BL,BL=(bestV vs).L:=⟨_,rfl⟩
 obtain ⟨bc,hbc⟩:∃ bc,bc=(bestV vs).cm:=⟨_,rfl⟩
 have VB:=vbest_any hVs hc.1.1.1 HNE.o
 rw [← hBL,← hbc] at VB
 have HVB:=hI VB
 have AD:Hid (addsL [] BL=some BL):=hI (by
  obtain ⟨R,hR⟩:=Option.isSome_iff_exists.1 hc.1.2.2
  rw [← hBL] at hR
  have:=(addsL_id _ _ _ hR).1
  rw [hR,this]
  rfl)
 have BM:Hid (∀ e ∈ BL,mayB e=true):=hI (addsL_id _ _ _ AD.o).2
 have BC:Hid (0≤bc∧bc≤60):=hI (by rw [hbc];exact hc.2)
 have HBL:=hI (And.intro hBL hbc)
 have HSV:=hI hv
 clear hk hcl h hs hv hc hvg hVs VB hBL hbc
 generalize (bestV vs).fr=bfr at HVB
 generalize (bestV vs).ls=bls at HVB
 go_enter Tryz.func135,Tryz.ntmps135
 go_wp2_with fail
 refine HVB.o.mono ?_
 rintro e w1 ⟨q1,c1,rfl,ow1,en1,x1⟩
 have S1:=hI (SlC.fresh ow1 HC.o (Nat.le_refl _))
 have H1:=hI (H.o.ext x1)
 have M1:=hI (Fm.ext (C:=ndC k) HC.o x1)
 have VS1:=hI (VS.o.ext x1)
 have EN:=hI en1
 clear ow1 en1 x1 H HC c17 VS HVB
 go_upto_region 1 with fail
 change Code.wp _ _ _ _ (w1.alloc (.cells #[.int .i64 bfr,.int .i64 bls,.slice q1 BL.length c1,.int .i64 bc] 205))
 have BB:=hI (BoxC.loose M1.o.cl #[.int .i64 bfr,.int .i64 bls,.slice q1 BL.length c1,.int .i64 bc] [.int .i64 bfr,.int .i64 bls,.slice q1 BL.length c1,.int .i64 bc] 205 rfl)
 have A1:=hI (Ext.alloc w1 (.cells #[.int .i64 bfr,.int .i64 bls,.slice q1 BL.length c1,.int .i64 bc] 205))
 replace H1:=hI (H1.o.ext A1.o)
 replace M1:=hI (M1.o.tr (Fm.ext M1.o.cl A1.o) (nd0 HK.o))
 replace S1:=hI (S1.o.ext A1.o)
 clear A1 VS1
 generalize w1.alloc (.cells #[.int .i64 bfr,.int .i64 bls,.slice q1 BL.length c1,.int .i64 bc] 205)=w2 at *
 generalize w1.heap.size=bb at *
 have b2:=BB.o.box.c 2 _ rfl
 go_wp2_with fail
 refine (lnew_any (c:=k+2) M1.o.cl (by have:=HK.o;omega) S1.o EN.o AD.o).mono ?_
 rintro e w3 ⟨o3,lg,rfl,lv3,hlg,m3⟩
 have c9:=(H1.o.box.fr m3 (by have:=HK.o;omega) (by unfold two;omega)).box.c 9 _ rfl
 have f9:=(H1.o.box.fr m3 (by have:=HK.o;omega) (by unfold two;omega)).box.f 9
 obtain ⟨N3,F3⟩:=NodeP.mod (A':={ A with l:=lg }) (s':={ s with L:=BL }) HK.o H1.o m3 (fun d hd=>by unfold two at hd;unfold ndC;omega) (H1.o.q.set_lg HK.o lv3 m3 (fun d hd=>by unfold two at hd;omega)) 9 (ptrN lg) rfl { H1.o.ok with L:=BM.o }
 have BB3:=hI ((BB.o.fr m3 (by decide) (by unfold two;have:=HK.o;omega)).fr (Fm.put (C:=one k) m3.cl (H1.o.box.fr m3 (by have:=HK.o;omega) (by unfold two;omega)) (by have:=HK.o;omega) rfl 9 (ptrN lg)) (by decide) (by unfold one;have:=HK.o;omega))
 have H3:=hI N3
 have M3:=hI (M1.o.tr F3 (nd0 HK.o))
 clear N3 F3 lv3 hlg m3 b2 S1 EN H1 BB M1
 go_upto_region 2 with fail
 clear c9 f9
 generalize w3.setCell ⟨x,9,none⟩ (ptrN lg)=w4 at *
 obtain ⟨A3,hA3⟩:∃ A3:AdD,A3={ A with l:=lg }:=⟨_,rfl⟩
 have V3:Hid (A3.v=some vg):=hI (by rw [hA3];exact HVG.o)
 rw [← hA3] at H3
 clear hA3
 obtain ⟨s3,hs3⟩:∃ s3:NdD,s3={ s with L:=BL }:=⟨_,rfl⟩
 rw [← hs3] at H3
 have E3:Hid (s3.cm=s.cm∧s3.L=BL∧s3.n=s.n∧s3.id=s.id∧s3.ck=s.ck∧s3.v=s.v):=hI (by rw [hs3];exact ⟨rfl,rfl,rfl,rfl,rfl,rfl⟩)
 have HS3:=hI hs3
 clear hs3
 obtain ⟨Ww4,hW⟩:∃ Ww4,Ww4=w4.drew:=⟨_,rfl⟩
 have X4:Hid (Ext w4 Ww4):=hI (by rw [hW];exact Ext.drew w4)
 replace H3:=hI (H3.o.ext X4.o)
 replace BB3:=hI (BB3.o.ext X4.o)
 have gb3:=fun d os=>Ext.cell (Ext.reg Ww4 d os) (BB3.o.box.c 3 _ rfl)
 have g10:=H3.o.g 10 _ rfl
 have g9:=H3.o.g 9 _ rfl
 refine att [0,1,2,3,4,5,6,7,8,9,10,11,12,13,14,15] [16] ?_
 rw [← hW]
 clear hW
 repeat ((first|refine aqq fun K hK=>?_|refine akk fun K hK=>?_);go_big_quiet_op;refine hK _ ?_;clear hK K)
 refine acc fun K hK=>?_
 go_simp
 refine (llen_any H3.o.q.lg).mono ?_
 rintro e w5 ⟨rfl,rfl⟩
 refine hK _ _ (Ext.rfl' _) ?_;clear hK K
 repeat ((first|refine aqq fun K hK=>?_|refine akk fun K hK=>?_);go_big_quiet_op;refine hK _ ?_;clear hK K)
 refine ra_nil ?_
 have c10:=H3.o.c 10 _ rfl
 have f10:=H3.o.box.box.f 10
 refine too fun K hK=>?_
 go_simp
 obtain ⟨CM,hCM⟩:∃ CM:Int,CM=(if (s3.L.length:Int)<(if s3.cm<bc then bc else s3.cm) then (s3.L.length:Int) else (if s3.cm<bc then bc else s3.cm)):=⟨_,rfl⟩
 rw [← hCM]
 have CMV:Hid (CM=minI (mxI s.cm bc) (BL.length:Int)):=hI (by rw [hCM,E3.o.1,E3.o.2.1];rfl)
 have CMR:Hid (0≤CM∧CM≤60):=hI (by
  have h1:=H3.o.ok.cm
  have h2:=BC.o
  have h3:s3.L.length≤60:=LogV.max H3.o.q.lg
  rw [hCM]
  split <;> (try split) <;> omega)
 clear hCM
 generalize (if s3.cm<bc then bc else s3.cm)=mxv at *
 obtain ⟨N5,F5⟩:=NodeP.mod (C:=fun _=>False) (A':=A3) (s':={ s3 with cm:=CM }) HK.o H3.o (Fm.refl (M3.o.cl.ext X4.o)) (fun d hd=>hd.elim) { H3.o.q with dk:=H3.o.q.dk } 10 (.int .i64 CM) rfl { H3.o.ok with cm:=CMR.o }
 have H5:=hI N5
 have M5:=hI ((M3.o.tr (Fm.ext M3.o.cl X4.o) (nd0 HK.o)).tr F5 (nd0 HK.o))
 clear N5 F5
 refine hK _ _ ?_
 clear hK K c10 f10 gb3 g10 g9 BB3 H3 M3 X4 BC
 refine rt_nil ?_
 generalize Ww4.setCell ⟨x,10,none⟩ (.int .i64 CM)=w5 at *
 obtain ⟨s5,hs5⟩:∃ s5:NdD,s5={ s3 with cm:=CM }:=⟨_,rfl⟩
 rw [← hs5] at H5
 have E5:Hid (s5.L=BL∧s5.n=s.n∧s5.id=s.id∧s5.ck=s.ck∧s5.v=s.v):=hI (by rw [hs5];exact E3.o.2)
 have HS5:=hI hs5
 clear hs5
 go_upto_region 3 with fail
 obtain ⟨W6,hW⟩:∃ W6,W6=w5.drew:=⟨_,rfl⟩
 have X6:Hid (Ext w5 W6):=hI (by rw [hW];exact Ext.drew w5)
 replace H5:=hI (H5.o.ext X6.o)
 have r17:=fun (q:Wrap (CL [(⟨x,17,none⟩,ptrN vg)]))=>(q.h.1:q.w.cell? ⟨x,17,none⟩=some (ptrN vg))
 refine gtt [0,1,2,3,4,5,6,8,9,10,11,7,12,13,14,15,16,17,18,19,20,21] (CL [(⟨x,17,none⟩,ptrN vg)]) (by rw [← hW];exact ⟨(by have:=H5.o.c 17 _ rfl;rw [V3.o] at this;exact this),trivial⟩) (fun _=>?_)
 rw [← hW]
 clear hW
 repeat ((first|refine gqq fun K hK=>?_|refine gkk fun K hK=>?_);go_big_quiet_op;refine hK _ ?_;clear hK K)
 have M6:=hI (M5.o.tr (Fm.ext M5.o.cl X6.o) (nd0 HK.o))
 have VS6:Hid (VsV W6 o3 (k+11) vg vw s5.n vs):=hI (H5.o.vs (by rw [E5.o.2.2.2.2];exact HSV.o) V3.o)
 refine gcc fun K hK=>?_
 go_simp
 refine (vview_any VS6.o).mono ?_
 rintro e w7 ⟨rfl,rfl⟩
 refine hK (CL [(⟨x,17,none⟩,ptrN vg)]) _ _ (fun _ h=>h) ⟨by have:=H5.o.c 17 _ rfl;rw [V3.o] at this;exact this,trivial⟩ (fun _=>?_)
 clear hK K
 repeat ((first|refine gqq fun K hK=>?_|refine gkk fun K hK=>?_);go_big_quiet_op;refine hK _ ?_;clear hK K)
 refine gcc fun K hK=>?_
 go_simp
 refine (vteam_any VS6.o).mono ?_
 rintro e w8 ⟨rfl,x8⟩
 have H8:=hI (H5.o.ext x8)
 have M8:=hI (M6.o.tr (Fm.ext M6.o.cl x8) (nd0 HK.o))
 clear x8 H5 M5 VS6
 refine hK (CL [(⟨x,17,none⟩,ptrN vg)]) _ _ (fun _ h=>h) ⟨by have:=H8.o.c 17 _ rfl;rw [V3.o] at this;exact this,trivial⟩ (fun _=>?_)
 clear hK K
 repeat ((first|refine gqq fun K hK=>?_|refine gkk fun K hK=>?_);go_big_quiet_op;refine hK _ ?_;clear hK K)
 have c11:=H8.o.c 11 _ rfl
 have f11:=H8.o.box.box.f 11
 obtain ⟨N9,F9⟩:=NodeP.mod (C:=fun _=>False) (A':=A3) (s':={ s5 with ls:=vw }) HK.o H8.o (Fm.refl M8.o.cl) (fun d hd=>hd.elim) { H8.o.q with dk:=H8.o.q.dk } 11 (.int .i64 vw) rfl { H8.o.ok with ls:=⟨CC.o.1.2.1.1,CC.o.1.2.1.2⟩ }
 have H9:=hI N9
 have M9:=hI (M8.o.tr F9 (nd0 HK.o))
 clear N9 F9
 refine gcc fun K hK=>?_
 go_simp
 refine hK (CL [(⟨x,17,none⟩,ptrN vg)]) _ _ (fun _ h=>h) ⟨by have:=H9.o.c 17 _ rfl;rw [V3.o] at this;exact this,trivial⟩ (fun _=>?_)
 clear hK K c11 f11 H8 M8
 generalize w8.setCell ⟨x,11,none⟩ (.int .i64 vw)=w9 at *
 repeat ((first|refine gqq fun K hK=>?_|refine gkk fun K hK=>?_);go_big_quiet_op;refine hK _ ?_;clear hK K)
 have c12:=H9.o.c 12 _ rfl
 have f12:=H9.o.box.box.f 12
 obtain ⟨N10,F10⟩:=NodeP.mod (C:=fun _=>False) (A':=A3) (s':={ s5 with ls:=vw,mb:=teamV vs }) HK.o H9.o (Fm.refl M9.o.cl) (fun d hd=>hd.elim) { H9.o.q with dk:=H9.o.q.dk } 12 (.int .i64 (teamV vs)) rfl { H9.o.ok with mb:=TI.o }
 have H10:=hI N10
 have M10:=hI (M9.o.tr F10 (nd0 HK.o))
 clear N10 F10
 refine gcc fun K hK=>?_
 go_simp
 refine hK (CL [(⟨x,17,none⟩,ptrN vg)]) _ _ (fun _ h=>h) ⟨by have:=H10.o.c 17 _ rfl;rw [V3.o] at this;exact this,trivial⟩ (fun _=>?_)
 clear hK K c12 f12 H9 M9
 generalize w9.setCell ⟨x,12,none⟩ (.int .i64 (teamV vs))=w10 at *
 repeat ((first|refine gqq fun K hK=>?_|refine gkk fun K hK=>?_);go_big_quiet_op;refine hK _ ?_;clear hK K)
 have c20:=H10.o.c 20 _ rfl
 have f20:=H10.o.box.box.f 20
 obtain ⟨N11,F11⟩:=NodeP.mod (C:=fun _=>False) (A':=A3) (s':={ s5 with ls:=vw,mb:=teamV vs,mi:=true }) HK.o H10.o (Fm.refl M10.o.cl) (fun d hd=>hd.elim) { H10.o.q with dk:=H10.o.q.dk } 20 (.bool true) rfl { H10.o.ok with id:=H10.o.ok.id }
 have H11:=hI N11
 have M11:=hI (M10.o.tr F11 (nd0 HK.o))
 clear N11 F11
 refine gcc fun K hK=>?_
 go_simp
 refine hK (CL [(⟨x,17,none⟩,ptrN vg)]) _ _ (fun _ h=>h) ⟨by have:=H11.o.c 17 _ rfl;rw [V3.o] at this;exact this,trivial⟩ (fun _=>?_)
 clear hK K c20 f20 H10 M10 r17
 generalize w10.setCell ⟨x,20,none⟩ (.bool true)=w11 at *
 refine rg_nil ?_
 obtain ⟨s11,hs11⟩:∃ s11:NdD,s11={ s5 with ls:=vw,mb:=teamV vs,mi:=true }:=⟨_,rfl⟩
 rw [← hs11] at H11
 have E11:Hid (s11.L=BL∧s11.n=s.n∧s11.id=s.id∧s11.ck=s.ck∧s11.mb=teamV vs):=hI (by rw [hs11];exact ⟨E5.o.1,E5.o.2.1,E5.o.2.2.1,E5.o.2.2.2.1,rfl⟩)
 have HS11:=hI hs11
 clear hs11
 go_upto_region 4 with fail
 obtain ⟨W12,hW⟩:∃ W12,W12=w11.drew:=⟨_,rfl⟩
 have X12:Hid (Ext w11 W12):=hI (by rw [hW];exact Ext.drew w11)
 replace H11:=hI (H11.o.ext X12.o)
 have r1:=fun (q:Wrap (CL [(⟨x,1,none⟩,.int .i64 s11.n),(⟨x,12,none⟩,.int .i64 s11.mb),(⟨x,0,none⟩,.int .i64 s11.id)]))=>(q.h.1:q.w.cell? ⟨x,1,none⟩=some (.int .i64 s11.n))
 have r12:=fun (q:Wrap (CL [(⟨x,1,none⟩,.int .i64 s11.n),(⟨x,12,none⟩,.int .i64 s11.mb),(⟨x,0,none⟩,.int .i64 s11.id)]))=>(q.h.2.1:q.w.cell? ⟨x,12,none⟩=some (.int .i64 s11.mb))
 have r0:=fun (q:Wrap (CL [(⟨x,1,none⟩,.int .i64 s11.n),(⟨x,12,none⟩,.int .i64 s11.mb),(⟨x,0,none⟩,.int .i64 s11.id)]))=>(q.h.2.2.1:q.w.cell? ⟨x,0,none⟩=some (.int .i64 s11.id))
 refine gtt [0,1,2,3,4,5,6,7,8,9,10,11,12,13,14,15,16] (CL [(⟨x,1,none⟩,.int .i64 s11.n),(⟨x,12,none⟩,.int .i64 s11.mb),(⟨x,0,none⟩,.int .i64 s11.id)]) (by rw [← hW];exact ⟨H11.o.c 1 _ rfl,H11.o.c 12 _ rfl,H11.o.c 0 _ rfl,trivial⟩) (fun _=>?_)
 rw [← hW]
 clear hW
 repeat ((first|refine gqq fun K hK=>?_|refine gkk fun K hK=>?_);go_big_quiet_op;refine hK _ ?_;clear hK K)
 have M12:=hI (M11.o.tr (Fm.ext M11.o.cl X12.o) (nd0 HK.o))
 obtain ⟨qg,hqg⟩:∃ qg,qg=W12.heap.size:=⟨_,rfl⟩
 have QN:=qnew_any M12.o.cl (k+14) (fun _=>False) (n:=s11.n) (mb:=s11.mb) (me:=s11.id) H11.o.ok.n (by rw [E11.o.2.2.2.2];exact TI.o) ⟨H11.o.ok.id.1,by have h1:=H11.o.ok.id.2;have h2:=H11.o.ok.n.2;omega⟩ (by rw [E11.o.2.2.2.2,E11.o.2.1];exact CC.o.1.1.1) (by rw [E11.o.2.2.2.2,E11.o.2.2.1];exact CC.o.1.1.2)
 rw [← hqg] at QN
 have HQN:=hI QN
 clear QN hqg
 refine gcc fun K hK=>?_
 go_simp
 refine HQN.o.mono ?_
 rintro e w13 ⟨o13,rfl,qv13,m13⟩
 have H13:=hI (H11.o.fr HK.o m13 (fun e=>e) (fun d e=>e.elim))
 have QV13:=hI qv13
 have M13:=hI (M12.o.tr (m13.mono (fun d e=>e.elim)) (nd0 HK.o))
 clear qv13 m13 HQN H11 M11
 refine hK (CL [(⟨x,1,none⟩,.int .i64 s11.n),(⟨x,12,none⟩,.int .i64 s11.mb),(⟨x,0,none⟩,.int .i64 s11.id)]) _ _ (fun _ h=>h) ⟨H13.o.c 1 _ rfl,H13.o.c 12 _ rfl,H13.o.c 0 _ rfl,trivial⟩ (fun _=>?_)
 clear hK K
 repeat ((first|refine gqq fun K hK=>?_|refine gkk fun K hK=>?_);go_big_quiet_op;refine hK _ ?_;clear hK K)
 have c21:=H13.o.c 21 _ rfl
 have f21:=H13.o.box.box.f 21
 obtain ⟨N14,F14⟩:=NodeP.mod (C:=fun _=>False) (A':={ A3 with q:=some qg }) (s':={ s11 with q:=some (newQ s11.n s11.mb s11.id) }) HK.o H13.o (Fm.refl M13.o.cl) (fun d e=>e.elim) (H13.o.q.set_qu (C:=fun _=>False) HK.o ⟨qg,rfl,QV13.o⟩ (Fm.refl M13.o.cl) (fun d e=>e.elim)) 21 (ptrN qg) rfl { H13.o.ok with id:=H13.o.ok.id }
 have H14:=hI N14
 have M14:=hI (M13.o.tr F14 (nd0 HK.o))
 clear N14 F14
 refine gcc fun K hK=>?_
 go_simp
 refine hK (CL [(⟨x,1,none⟩,.int .i64 s11.n),(⟨x,12,none⟩,.int .i64 s11.mb),(⟨x,0,none⟩,.int .i64 s11.id)]) _ _ (fun _ h=>h) ⟨H14.o.c 1 _ rfl,H14.o.c 12 _ rfl,H14.o.c 0 _ rfl,trivial⟩ (fun _=>?_)
 clear hK K c21 f21 H13 M13 QV13 r1 r12 r0
 refine rg_nil ?_
 generalize w13.setCell ⟨x,21,none⟩ (ptrN qg)=w14 at *
 obtain ⟨A14,hA14⟩:∃ A14:AdD,A14={ A3 with q:=some qg }:=⟨_,rfl⟩
 have Q14:Hid (A14.q=some qg):=hI (by rw [hA14])
 rw [← hA14] at H14
 clear hA14
 have QU:Hid (QuV w14 o13 (k+14) qg (newQ s11.n s11.mb s11.id)):=hI (by
  obtain ⟨g',hg',h2⟩:=H14.o.q.qu
  rw [Q14.o] at hg'
  cases hg'
  exact h2)
 go_upto_region 5 with fail
 obtain ⟨W15,hW⟩:∃ W15,W15=w14.drew:=⟨_,rfl⟩
 have X15:Hid (Ext w14 W15):=hI (by rw [hW];exact Ext.drew w14)
 replace H14:=hI (H14.o.ext X15.o)
 replace QU:=hI (QU.o.ext X15.o)
 have g21:∀ d os,(grow (redrawn W15 d) os).cell? ⟨x,21,none⟩=some (ptrN qg):=by
  have:=H14.o.g 21 _ rfl
  rw [Q14.o] at this
  exact this
 have g0:∀ d os,(grow (redrawn W15 d) os).cell? ⟨x,0,none⟩=some (.int .i64 s11.id):=H14.o.g 0 _ rfl
 have g9:=H14.o.g 9 _ rfl
 refine att [0,1,2,3,4,5,6,7,8,9,10,11,12] [13] ?_
 rw [← hW]
 clear hW
 repeat ((first|refine aqq fun K hK=>?_|refine akk fun K hK=>?_);go_big_quiet_op;refine hK _ ?_;clear hK K)
 have M15:=hI (M14.o.tr (Fm.ext M14.o.cl X15.o) (nd0 HK.o))
 refine acc fun K hK=>?_
 go_simp
 refine (llen_any H14.o.q.lg).mono ?_
 rintro e w16 ⟨rfl,rfl⟩
 refine hK _ _ (Ext.rfl' _) ?_;clear hK K
 repeat ((first|refine aqq fun K hK=>?_|refine akk fun K hK=>?_);go_big_quiet_op;refine hK _ ?_;clear hK K)
 refine ra_nil ?_
 refine too fun K hK=>?_
 go_simp
 refine (qack_any M15.o.cl QU.o (by have:=HK.o;omega) ⟨H14.o.ok.id.1,show s11.id≤7 by have h1:s11.id≤s11.n:=H14.o.ok.id.2;have h2:s11.n≤7:=H14.o.ok.n.2;omega⟩ (by have h1:s11.L.length≤60:=LogV.max H14.o.q.lg;omega) (show hasT s11.mb s11.id=true by rw [E11.o.2.2.2.2,E11.o.2.2.1];exact CC.o.1.1.2)).mono ?_
 rintro e w17 ⟨rfl,qv17,m17⟩
 obtain ⟨N17,F17⟩:=NodeP.mod0 (A':=A14) (s':={ s11 with q:=some (ackQ (newQ s11.n s11.mb s11.id) s11.id (s11.L.length:Int) 0) }) HK.o H14.o m17 (fun d hd=>by unfold one at hd;unfold ndC;omega) (H14.o.q.set_qu HK.o ⟨qg,Q14.o,qv17⟩ m17 (fun d hd=>.inl hd)) rfl { H14.o.ok with id:=H14.o.ok.id }
 have H17:=hI N17
 have M17:=hI (M15.o.tr F17 (nd0 HK.o))
 clear qv17 m17 N17 F17 QU H14 M14 M15 X15
 refine hK _ _ ?_
 clear hK K
 refine rt_nil ?_
 obtain ⟨s17,hs17⟩:∃ s17:NdD,s17={ s11 with q:=some (ackQ (newQ s11.n s11.mb s11.id) s11.id (s11.L.length:Int) 0) }:=⟨_,rfl⟩
 rw [← hs17] at H17
 have HS17:=hI hs17
 have E17:Hid (s17.L=BL∧s17.ck=s.ck):=hI (by rw [hs17];exact ⟨E11.o.1,E11.o.2.2.2.1⟩)
 clear hs17 g21 g0 g9
 have c9:=H17.o.c 9 _ rfl
 have c22:=H17.o.c 22 _ rfl
 have c23:=H17.o.c 23 _ rfl
 have c32:=H17.o.c 32 _ rfl
 have c17:=H17.o.c 17 _ rfl
 have fx:=H17.o.box.box.f
 go_wp2_with fail
 refine (llen_any H17.o.q.lg).mono ?_
 rintro e w18 ⟨rfl,rfl⟩
 go_upto_region 7 with fail
 have LR:Hid (0≤(s17.L.length:Int)∧(s17.L.length:Int)≤60):=hI (by have:=LogV.max H17.o.q.lg;omega)
 obtain ⟨N18,F18⟩:=NodeP.mod (C:=fun _=>False) (A':=A14) (s':={ s17 with st:=(s17.L.length:Int) }) HK.o H17.o (Fm.refl M17.o.cl) (fun d hd=>hd.elim) { H17.o.q with dk:=H17.o.q.dk } 22 (.int .i64 (s17.L.length:Int)) rfl { H17.o.ok with st:=LR.o }
 have H18:=hI N18
 have M18:=hI (M17.o.tr F18 (nd0 HK.o))
 obtain ⟨N19,F19⟩:=NodeP.mod (C:=fun _=>False) (A':=A14) (s':={ s17 with st:=(s17.L.length:Int),ac:=0 }) HK.o H18.o (Fm.refl M18.o.cl) (fun d hd=>hd.elim) { H18.o.q with dk:=H18.o.q.dk } 23 (.int .i64 0) rfl { H18.o.ok with ac:=(show isT 0 from ⟨by decide,by decide⟩) }
 have H19:=hI N19
 have M19:=hI (M18.o.tr F19 (nd0 HK.o))
 obtain ⟨N20,F20⟩:=NodeP.mod (C:=fun _=>False) (A':={ A14 with ap:=none,ac:=0 }) (s':={ s17 with st:=(s17.L.length:Int),ac:=0,ak:=[] }) HK.o H19.o (Fm.refl M19.o.cl) (fun d hd=>hd.elim) (H19.o.q.set_aks (C:=fun _=>False) HK.o (RowC.nil _ _ _ _ _) (Fm.refl M19.o.cl) (fun d hd=>hd.elim)) 32 (.slice none 0 0) rfl { H19.o.ok with ak:=(Nat.zero_le _) }
 have H20:=hI N20
 have M20:=hI (M19.o.tr F20 (nd0 HK.o))
 obtain ⟨N21,F21⟩:=NodeP.mod (C:=fun _=>False) (A':={ A14 with ap:=none,ac:=0,v:=none }) (s':={ s17 with st:=(s17.L.length:Int),ac:=0,ak:=[],v:=none }) HK.o H20.o (Fm.refl M20.o.cl) (fun d hd=>hd.elim) (H20.o.q.set_vt (C:=fun _=>False) HK.o (show VtV _ _ _ none _ none from rfl) (Fm.refl M20.o.cl) (fun d hd=>hd.elim)) 17 (.pointer none) rfl { H20.o.ok with id:=H20.o.ok.id }
 have H21:=hI N21
 have M21:=hI (M20.o.tr F21 (nd0 HK.o))
 clear N18 F18 N19 F19 N20 F20 N21 F21 H17 H18 H19 H20 M17 M18 M19 M20 c9 c22 c23 c32 c17 fx LR
 generalize (((w17.setCell ⟨x,22,none⟩ (.int .i64 (s17.L.length:Int))).setCell ⟨x,23,none⟩ (.int .i64 0)).setCell ⟨x,32,none⟩ (.slice none 0 0)).setCell ⟨x,17,none⟩ (.pointer none)=w21 at *
 obtain ⟨A21,hA21⟩:∃ A21:AdD,A21={ A14 with ap:=none,ac:=0,v:=none }:=⟨_,rfl⟩
 obtain ⟨s21,hs21⟩:∃ s21:NdD,s21={ s17 with st:=(s17.L.length:Int),ac:=0,ak:=[],v:=none }:=⟨_,rfl⟩
 rw [← hs21,← hA21] at H21
 have HS21:=hI hs21
 have E21:Hid (s21.ck=s.ck):=hI (by rw [hs21];exact E17.o.2)
 clear hs21 hA21
 go_wp2
 go_loopw [101] (fun i wr=>∃ j:Nat,j≤8∧i=.int .i64 (j:Int)∧NodeP wr o13 k x wb jd A21 { s21 with er:=earsTo s21.er s21.ck j }∧Fm (ndC k) o o13 w wr) (fun i _=>8-(intOf i).toNat)
 case atStart=>exact ⟨0,by omega,rfl,H21.o,M21.o⟩
 case round=>
  obtain ⟨j,hj,rfl,nj,mj⟩:=hrel
  have NJ:=hI nj
  have MJ:=hI mj
  clear nj mj H21 M21
  by_cases hlt:j<8
  ·have c4:wr.cell? ⟨x,4,none⟩=some (.int .i64 s21.ck):=NJ.o.c 4 _ rfl
   have ce:=NJ.o.c (24+j) _ (ndL_er hlt)
   have fe:=NJ.o.box.box.f (24+j)
   have f1:(0:Int)≤(j:Int):=by omega
   have f2:(j:Int)<8:=by omega
   obtain ⟨N22,F22⟩:=NodeP.mod (C:=fun _=>False) (A':=A21) (s':={ s21 with er:=earsTo s21.er s21.ck (j+1) }) HK.o NJ.o (Fm.refl MJ.o.cl) (fun d hd=>hd.elim) { NJ.o.q with dk:=NJ.o.q.dk } (24+j) (.int .i64 s21.ck) (ndL_sete (s:={ s21 with er:=earsTo s21.er s21.ck j }) hlt) { NJ.o.ok with er:=(fun i=>by have h1:=NJ.o.ok.er i;have h2:=NJ.o.ok.ck;show 0≤((earsTo s21.er s21.ck j).set j s21.ck).at i∧((earsTo s21.er s21.ck j).set j s21.ck).at i≤1000000;rw [E8.set_at _ hlt];split <;> first | exact h2 | exact h1) }
   have H22:=hI (N22.ext (Ext.drew _))
   have M22:=hI ((MJ.o.tr F22 (nd0 HK.o)).tr (Fm.ext F22.cl (Ext.drew _)) (nd0 HK.o))
   clear N22 F22
   go_upto_region 10 with fail
   go_region
   clear c4 ce fe
   generalize (wr.setCell ⟨x,24+j,none⟩ (.int .i64 s21.ck)).drew=w22 at *
   go_wp2
   go_roundw
   case rel=>exact ⟨j+1,by omega,by go_num,H22.o,M22.o⟩
   case measure=>simp [intOf];omega
  ·have hj8:j=8:=by omega
   subst hj8
   have c4:wr.cell? ⟨x,4,none⟩=some (.int .i64 s21.ck):=NJ.o.c 4 _ rfl
   have c5:=NJ.o.c 5 _ rfl
   have f5:=NJ.o.box.box.f 5
   obtain ⟨N23,F23⟩:=NodeP.mod (C:=fun _=>False) (A':=A21) (s':={ s21 with er:=E8.all s21.ck,hd:=s21.ck }) HK.o NJ.o (Fm.refl MJ.o.cl) (fun d hd=>hd.elim) { NJ.o.q with dk:=NJ.o.q.dk } 5 (.int .i64 s21.ck) rfl { NJ.o.ok with hd:=NJ.o.ok.ck }
   have e23:({ s21 with er:=E8.all s21.ck,hd:=s21.ck }:NdD)=instS s vw vs (ackQ (newQ s.n (teamV vs) s.id) s.id ((bestV vs).L.length:Int) 0):=by
    rw [HS21.o,HS17.o,HS11.o,HS5.o,HS3.o,CMV.o,HBL.o.1,HBL.o.2]
    rfl
   rw [e23] at N23
   clear e23
   obtain ⟨s23,hs23⟩:∃ s23,s23=instS s vw vs (ackQ (newQ s.n (teamV vs) s.id) s.id ((bestV vs).L.length:Int) 0):=⟨_,rfl⟩
   have HSF:=HS.o
   rw [← hs23] at N23 HSF
   have E23:Hid (s23.id=s.id∧s23.n=s.n∧s23.mb=teamV vs):=hI (by rw [hs23];exact ⟨rfl,rfl,rfl⟩)
   have HFO:=hI HSF
   have H23:=hI N23
   have M23:=hI (MJ.o.tr F23 (nd0 HK.o))
   clear N23 F23 hs23 HSF
   go_upto_region 13 with fail
   clear c4 c5 f5 NJ MJ
   generalize wr.setCell ⟨x,5,none⟩ (.int .i64 s21.ck)=w23 at *
   have c12:w23.cell? ⟨x,12,none⟩=some (.int .i64 (teamV vs)):=by
    have:=H23.o.c 12 _ rfl
    rw [E23.o.2.2] at this
    exact this
   have OT:=hI (othersF (a:=ptrN x) (kf:=145) (R:=fun s1 w1 o1=>(∃ A1,NodeP w1 o1 k x wb jd A1 s1)∧s1.id=s.id∧s1.n=s.n) (F:=wholeO) (C:=ndC k) (nd0 HK.o) TI.o (enter_of Tryz.func145 (by kernel_rfl) (by kernel_rfl)) (fun s1 w1 o1 h=>by
     obtain ⟨⟨A1,h1⟩,h2,h3⟩:=h
     have g1:=h1.c 0 _ rfl
     have g2:=h1.c 1 _ rfl
     rw [h2] at g1
     rw [h3] at g2
     exact ⟨g1,g2⟩) (fun s1 w1 w2 o1 h e=>by
     obtain ⟨⟨A1,h1⟩,h2⟩:=h
     exact ⟨⟨A1,h1.ext e⟩,h2⟩) (fun s1 s2 w1 o1 i hi hti hne hle hR hcl hFi=>by
     obtain ⟨⟨A1,h1⟩,h2,h3⟩:=hR
     refine (nwhole_any hcl HK.o h1 hFi).mono ?_
     rintro e w2 ⟨he,o2,A2,n2,f2⟩
     exact ⟨he,o2,⟨⟨A2,n2⟩,by rw [sayO_eq hFi];exact h2,by rw [sayO_eq hFi];exact h3⟩,f2⟩) M23.o.cl ⟨⟨A21,H23.o⟩,E23.o.1,E23.o.2.1⟩ HFO.o)
   go_wp2_with fail
   refine OT.o.mono ?_
   rintro e w24 ⟨rfl,o24,⟨⟨A24,n24⟩,-⟩,m24⟩
   have N24:=hI n24
   have M24:=hI (M23.o.tr m24 (nd0 HK.o))
   clear n24 m24
   go_wp2
   refine bodyPost_end (v:=.tuple #[]) (by simp [results,Tryz.results135,go_sem]) rfl ?_
   exact ⟨rfl,o24,A24,N24.o,M24.o⟩
end
section
open Go Go.Sort Go.RowKit
def addE (s:NdD) (e:EnD):EnD:={ e with st:=if s.L.isEmpty then s.ck else mxI s.ck (lastE s.L).st }
def addO (s:NdD) (e:EnD):Option NdD:=
 match addL s.L (addE s e) with
 | some L'=>match s.q with
  | none=>none
  | some q=>if hasT q.mb s.id then some { s with L:=L',q:=some (ackQ q s.id L'.length 0) } else none
 | none=>if mayB (addE s e)&&s.L.any (fun x=>sameB x (addE s e)) then some s else none
variable {w w4:World} {o o4:Ow} {k x wb jd:Nat} {A A':AdD} {s s':NdD}
theorem mayB_all {L L':List EnD} {e:EnD} (h:∀ y ∈ L,mayB y=true) (ha:addL L e=some L'):∀ y ∈ L',mayB y=true:=by
 obtain ⟨h1,-,-,-,rfl⟩:=addL_some ha
 intro y hy
 rcases List.mem_append.1 hy with hy | hy
 ·exact h y hy
 ·simp at hy
  subst hy
  exact h1
theorem nadd_any (hcl:Cl w o) (hk:32≤k) (h:NodeP w o k x wb jd A s) {e:EnD} (hs:addO s e=some s') :
  Calls Tryz.prog 140 #[ptrN x,enV e] w fun r w'=>r=.returned (.tuple #[])∧∃ o' A',NodeP w' o' k x wb jd A' s'∧Fm (ndC k) o o' w w':=by
 have HS:=hI hs
 have HK:=hI hk
 obtain ⟨f1,f2,f3,f4,f5,f6,fd⟩:=e
 have M0:Hid (Fm (fun _=>False) o (dye o w.heap.size (k+20)) w (w.alloc (.cells (enA ⟨f1,f2,f3,f4,f5,f6,fd⟩) 71))):=hI (Fm.made hcl _ _)
 have EB:=hI (BoxC.made w o (k+20) (enA ⟨f1,f2,f3,f4,f5,f6,fd⟩) (enL ⟨f1,f2,f3,f4,f5,f6,fd⟩) 71 rfl)
 have H:=hI (h.fr hk M0.o (fun e=>e) (fun d e=>e.elim))
 have M1:Hid (Fm (ndC k) o (dye o w.heap.size (k+20)) w (w.alloc (.cells (enA ⟨f1,f2,f3,f4,f5,f6,fd⟩) 71))):=hI (M0.o.mono (fun d e=>e.elim))
 clear hcl hk h hs M0
 go_enter Tryz.func140,Tryz.ntmps140
 go_upto_region 1 with fail
 change Code.wp _ _ _ _ (w.alloc (.cells (enA ⟨f1,f2,f3,f4,f5,f6,fd⟩) 71))
 generalize w.alloc (.cells (enA ⟨f1,f2,f3,f4,f5,f6,fd⟩) 71)=w1 at *
 generalize w.heap.size=eb at *
 generalize dye o eb (k+20)=o1 at *
 have c4:=H.o.c 4 _ rfl
 have d5:=EB.o.box.c 5 _ rfl
 have e5:=EB.o.box.f 5
 go_upto_region 2 with fail
 have F1:=hI (Fm.put (C:=one (k+20)) M1.o.cl EB.o (by have:=HK.o;omega) rfl 5 (.int .i64 s.ck))
 have EB2:Hid (BoxC (w1.setCell ⟨eb,5,none⟩ (.int .i64 s.ck)) o1 (k+20) eb (enL ⟨f1,f2,f3,f4,f5,s.ck,fd⟩)):=hI (EB.o.put 5 (.int .i64 s.ck))
 replace H:=hI (H.o.fr HK.o F1.o (by unfold one;omega) (fun d hd=>by unfold one at hd;unfold ndI;omega))
 replace M1:=hI (M1.o.tr (F1.o.mono (fun d hd=>by unfold one at hd;unfold ndC;omega)) (nd0 HK.o))
 clear c4 d5 e5 F1 EB
 generalize w1.setCell ⟨eb,5,none⟩ (.int .i64 s.ck)=w2 at *
 obtain ⟨W2,hW⟩:∃ W2,W2=w2.drew:=⟨_,rfl⟩
 have X2:Hid (Ext w2 W2):=hI (by rw [hW];exact Ext.drew w2)
 replace H:=hI (H.o.ext X2.o)
 replace EB2:=hI (EB2.o.ext X2.o)
 replace M1:=hI (M1.o.tr (Fm.ext M1.o.cl X2.o) (nd0 HK.o))
 have r9:=fun (q:Wrap (Ext W2))=>Ext.cell q.h (H.o.c 9 _ rfl)
 refine ftt (.one 0 (.one 1 (.one 2 (.one 3 (.one 4 (.one 5 (.one 6 (.one 7 (.two 8 (.two 9 (.one 10 (.one 11 (.one 12 (.one 13 (.one 14 (.one 15 .fin)))))) 13 (.one 9 (.one 10 (.one 11 (.one 12 (.one 14 (.one 15 .fin))))))) 13 (.one 8 (.one 9 (.one 10 (.one 11 (.one 12 (.one 14 (.one 15 .fin)))))))))))))))) (Ext W2) (by rw [← hW];exact Ext.rfl' _) (fun _=>?_)
 rw [← hW]
 clear hW X2
 repeat ((first|refine fqq fun K hK=>?_|refine fkk fun K hK=>?_);go_big_quiet_op;refine hK _ ?_;clear hK K)
 clear r9
 have E:=hI (Ext.rfl' W2)
 refine rf_two rfl rfl (by rfl) (by rfl) (fun K hK=>?_) (fun K hK=>?_)
 ·go_simp
  refine (llen_any (H.o.ext E.o).q.lg).mono ?_
  rintro r w9 ⟨rfl,rfl⟩
  refine hK (Ext W2) _ _ (fun _ h=>h) E.o (fun _=>?_)
  clear hK K
  refine rf_two rfl rfl (by rfl) (by rfl) (fun K hK=>?_) (fun K hK=>?_)
  ·go_simp
   refine (lat_any (H.o.ext E.o).q.lg).mono ?_
   rintro r v6 ⟨rfl,x9⟩
   replace E:=hI (E.o.tr x9)
   refine hK (Ext W2) _ _ (fun _ h=>h) E.o (fun _=>?_)
   clear hK K x9
   repeat ((first|refine fqq fun K hK=>?_|refine fkk fun K hK=>?_);go_big_quiet_op;refine hK _ ?_;clear hK K)
   repeat ((first|refine fqq fun K hK=>?_|refine fkk fun K hK=>?_);go_big_quiet_op;refine hK _ ?_;clear hK K)
   refine fcc fun K hK=>?_
   go_simp
   have AL:=hI (Ext.alloc v6 (.cells (enA zeroE) 71))
   obtain ⟨tb,htb⟩:∃ tb,tb=v6.heap.size:=⟨_,rfl⟩
   have TB:=hI (BoxV.new v6 W2.heap.size (enA zeroE) (enL zeroE) 71 tb htb (by rw [htb];exact E.o.size) rfl)
   refine hK (Ext W2) _ _ (fun _ h=>h) (E.o.tr AL.o) (fun _=>?_)
   clear hK K
   change RF _ _ _ _ _ _ (v6.alloc (.cells (enA zeroE) 71))
   replace E:=hI (E.o.tr AL.o)
   rw [← htb]
   clear AL htb
   generalize v6.alloc (.cells (enA zeroE) 71)=v7 at *
   have b0:=TB.o.c 0 _ rfl
   have b1:=TB.o.c 1 _ rfl
   have b2:=TB.o.c 2 _ rfl
   have b3:=TB.o.c 3 _ rfl
   have b4:=TB.o.c 4 _ rfl
   have b5:=TB.o.c 5 _ rfl
   have b6:=TB.o.c 6 _ rfl
   have bf:=TB.o.f
   obtain ⟨⟨g1,g2,g3,g4,g5,g6,gd⟩,hLE⟩:∃ le,le=lastE s.L:=⟨_,rfl⟩
   rw [← hLE]
   have LE:=hI hLE
   clear hLE
   refine fcc fun K hK=>?_
   go_simp
   have FX:Hid (Ext W2 (fillV v7 tb 0 (enL ⟨g1,g2,g3,g4,g5,g6,gd⟩))):=hI (fillV_below E.o TB.o.lo (enL ⟨g1,g2,g3,g4,g5,g6,gd⟩) 0)
   have FB:=hI (TB.o.fill (vs:=enL ⟨g1,g2,g3,g4,g5,g6,gd⟩) (Nat.le_refl _))
   refine hK (Ext W2) _ (fillV v7 tb 0 (enL ⟨g1,g2,g3,g4,g5,g6,gd⟩)) (fun _ h=>h) FX.o (fun _=>?_)
   clear hK K bf b0 b1 b2 b3 b4 b5 b6 E TB
   generalize fillV v7 tb 0 (enL ⟨g1,g2,g3,g4,g5,g6,gd⟩)=v9 at *
   repeat ((first|refine fqq fun K hK=>?_|refine fkk fun K hK=>?_);go_big_quiet_op;refine hK _ ?_;clear hK K)
   refine rf_nil ?_
   have H9:=hI (H.o.ext FX.o)
   have E9:=hI (EB2.o.ext FX.o)
   have M9:=hI (M1.o.tr (Fm.ext M1.o.cl FX.o) (nd0 HK.o))
   have t5:=FB.o.c 5 _ rfl
   have d5:=E9.o.box.c 5 _ rfl
   have ff5:=E9.o.box.f 5
   clear FX H EB2 M1 FB
   cases hL:s.L.isEmpty
   ·have HE1:Hid (addE s ⟨f1,f2,f3,f4,f5,f6,fd⟩=⟨f1,f2,f3,f4,f5,if s.ck<g6 then g6 else s.ck,fd⟩):=hI (by
     unfold addE mxI
     rw [hL,← LE.o]
     rfl)
    go_upto_region 5 with fail
    have P9:=hI (Fm.put (C:=one (k+20)) M9.o.cl E9.o (by have:=HK.o;omega) rfl 5 (.int .i64 (if s.ck<g6 then g6 else s.ck)))
    have EU:Hid (BoxC (v9.setCell ⟨eb,5,none⟩ (.int .i64 (if s.ck<g6 then g6 else s.ck))) o1 (k+20) eb (enL ⟨f1,f2,f3,f4,f5,if s.ck<g6 then g6 else s.ck,fd⟩)):=hI (E9.o.put 5 (.int .i64 (if s.ck<g6 then g6 else s.ck)))
    have HU:=hI (H9.o.fr HK.o P9.o (by unfold one;omega) (fun d hd=>by unfold one at hd;unfold ndI;omega))
    have MU:=hI (M9.o.tr (P9.o.mono (fun d hd=>by unfold one at hd;unfold ndC;omega)) (nd0 HK.o))
    clear P9 E9 H9 M9 t5 d5 ff5 hL
    generalize (if s.ck<g6 then g6 else s.ck)=st at *
    generalize v9.setCell ⟨eb,5,none⟩ (.int .i64 st)=u9 at *
    go_upto_region 5 with fail
    obtain ⟨WU,hW⟩:∃ WU,WU=u9.drew:=⟨_,rfl⟩
    have XU:Hid (Ext u9 WU):=hI (by rw [hW];exact Ext.drew u9)
    replace HU:=hI (HU.o.ext XU.o)
    replace EU:=hI (EU.o.ext XU.o)
    have g9:=HU.o.g 9 _ rfl
    have q0:=fun d os=>Ext.cell (Ext.reg WU d os) (EU.o.box.c 0 _ rfl)
    have q1:=fun d os=>Ext.cell (Ext.reg WU d os) (EU.o.box.c 1 _ rfl)
    have q2:=fun d os=>Ext.cell (Ext.reg WU d os) (EU.o.box.c 2 _ rfl)
    have q3:=fun d os=>Ext.cell (Ext.reg WU d os) (EU.o.box.c 3 _ rfl)
    have q4:=fun d os=>Ext.cell (Ext.reg WU d os) (EU.o.box.c 4 _ rfl)
    have q5:=fun d os=>Ext.cell (Ext.reg WU d os) (EU.o.box.c 5 _ rfl)
    have q6:=fun d os=>Ext.cell (Ext.reg WU d os) (EU.o.box.c 6 _ rfl)
    refine att [0,1,2,3,4] [5] ?_
    rw [← hW]
    clear hW
    repeat ((first|refine aqq fun K hK=>?_|refine akk fun K hK=>?_);go_big_quiet_op;refine hK _ ?_;clear hK K)
    clear g9 q0 q1 q2 q3 q4 q5 q6
    refine ra_nil ?_
    refine too fun K hK=>?_
    go_simp
    have HSU:=HS.o
    unfold addO at HSU
    rw [HE1.o] at HSU
    have CU:=hI (MU.o.cl.ext XU.o)
    cases hadd:addL s.L (⟨f1,f2,f3,f4,f5,st,fd⟩) with
    | some L'=>
     rw [hadd] at HSU
     simp only at HSU
     cases hq:s.q with
     | none=>rw [hq] at HSU;cases HSU
     | some q=>
     rw [hq] at HSU
     simp only at HSU
     split at HSU
     case isFalse=>cases HSU
     rename_i hme
     obtain rfl:=Option.some.inj HSU
     have HQ:=hI hq
     have HME:=hI hme
     have ADD:=hI hadd
     clear HSU hq hme hadd
     refine (ladd_any (c:=k+2) CU.o HU.o.q.lg (by have:=HK.o;omega) (mayB_ok (addL_some ADD.o).1) ADD.o).mono ?_
     rintro r w6 ⟨o6,rfl,lg6,m6⟩
     obtain ⟨N6,F6⟩:=NodeP.mod0 (A':=A) (s':={ s with L:=L' }) HK.o HU.o m6 (fun d hd=>by unfold two at hd;unfold ndC;omega) (HU.o.q.set_lg HK.o lg6 m6 (fun d hd=>by unfold two at hd;omega)) rfl { HU.o.ok with L:=(fun y hy=>mayB_all HU.o.ok.L ADD.o y hy) }
     have H6:=hI N6
     have M6:=hI ((MU.o.tr (Fm.ext MU.o.cl XU.o) (nd0 HK.o)).tr F6 (nd0 HK.o))
     clear lg6 m6 N6 F6 CU
     refine hK _ _ ?_
     clear hK K
     refine rt_nil ?_
     obtain ⟨qg,hqg,hQ⟩:∃ qg,A.q=some qg∧QuV w6 o6 (k+14) qg q:=by
      have:=H6.o.q.qu
      rw [show ({ s with L:=L' }:NdD).q=some q from HQ.o] at this
      exact this
     have QU:=hI hQ
     have HQG:=hI hqg
     clear hQ hqg
     go_upto_region 6 with fail
     obtain ⟨Ww6,hW⟩:∃ Ww6,Ww6=w6.drew:=⟨_,rfl⟩
     have X6:Hid (Ext w6 Ww6):=hI (by rw [hW];exact Ext.drew w6)
     replace H6:=hI (H6.o.ext X6.o)
     replace QU:=hI (QU.o.ext X6.o)
     have g0:=H6.o.g 0 _ rfl
     have g9:=H6.o.g 9 _ rfl
     have g21:∀ d os,(grow (redrawn Ww6 d) os).cell? ⟨x,21,none⟩=some (ptrN qg):=by
      have:=H6.o.g 21 _ rfl
      rw [HQG.o] at this
      exact this
     refine att [0,1,2,3,4,5,6,7,8,9,10,11,12] [13] ?_
     rw [← hW]
     clear hW
     repeat ((first|refine aqq fun K hK=>?_|refine akk fun K hK=>?_);go_big_quiet_op;refine hK _ ?_;clear hK K)
     refine acc fun K hK=>?_
     go_simp
     refine (llen_any H6.o.q.lg).mono ?_
     rintro r w7 ⟨rfl,rfl⟩
     refine hK _ _ (Ext.rfl' _) ?_;clear hK K
     repeat ((first|refine aqq fun K hK=>?_|refine akk fun K hK=>?_);go_big_quiet_op;refine hK _ ?_;clear hK K)
     refine ra_nil ?_
     refine too fun K hK=>?_
     go_simp
     refine (qack_any (M6.o.cl.ext X6.o) QU.o (by have:=HK.o;omega) ⟨H6.o.ok.id.1,by have h1:=H6.o.ok.id.2;have h2:=H6.o.ok.n.2;omega⟩ (by have h1:L'.length≤60:=LogV.max H6.o.q.lg;omega) HME.o).mono ?_
     rintro r w8 ⟨rfl,qv8,m8⟩
     obtain ⟨N8,F8⟩:=NodeP.mod0 (A':=A) (s':={ s with L:=L',q:=some (ackQ q s.id L'.length 0) }) HK.o H6.o m8 (fun d hd=>by unfold one at hd;unfold ndC;omega) (H6.o.q.set_qu HK.o ⟨qg,HQG.o,qv8⟩ m8 (fun d hd=>.inl hd)) rfl { H6.o.ok with id:=H6.o.ok.id }
     have H8:=hI N8
     have M8:=hI ((M6.o.tr (Fm.ext M6.o.cl X6.o) (nd0 HK.o)).tr F8 (nd0 HK.o))
     clear qv8 m8 N8 F8
     refine hK _ _ ?_
     clear hK K
     refine rt_nil ?_
     go_wp2
     refine bodyPost_end (v:=.tuple #[]) (by simp [results,Tryz.results140,go_sem]) rfl ?_
     first | exact ⟨rfl,_,_,H8.o,M8.o⟩ | exact ⟨rfl,_,⟨_,H8.o⟩,M8.o⟩
    | none=>
     rw [hadd] at HSU
     simp only at HSU
     split at HSU
     case isFalse=>cases HSU
     rename_i hm
     obtain rfl:=Option.some.inj HSU
     rw [Bool.and_eq_true] at hm
     have HM:=hI hm
     clear HSU hm hadd
     refine (ladd_no HU.o.q.lg (mayB_ok HM.o.1) HM.o.1 HM.o.2).mono ?_
     rintro r w6 ⟨rfl,x6⟩
     have H6:=hI (HU.o.ext x6)
     have M6:=hI ((MU.o.tr (Fm.ext MU.o.cl XU.o) (nd0 HK.o)).tr (Fm.ext CU.o x6) (nd0 HK.o))
     clear x6
     refine hK _ _ ?_
     clear hK K
     refine rt_nil ?_
     go_wp2
     refine bodyPost_end (v:=.tuple #[]) (by simp [results,Tryz.results140,go_sem]) rfl ?_
     first | exact ⟨rfl,_,_,H6.o,M6.o⟩ | exact ⟨rfl,_,⟨_,H6.o⟩,M6.o⟩
   ·have HE1:Hid (addE s ⟨f1,f2,f3,f4,f5,f6,fd⟩=⟨f1,f2,f3,f4,f5,s.ck,fd⟩):=hI (by
     unfold addE
     rw [hL]
     rfl)
    have EU:=E9
    have HU:=H9
    have MU:=M9
    clear E9 H9 M9 t5 d5 ff5 hL
    go_upto_region 5 with fail
    obtain ⟨WU,hW⟩:∃ WU,WU=v9.drew:=⟨_,rfl⟩
    have XU:Hid (Ext v9 WU):=hI (by rw [hW];exact Ext.drew v9)
    replace HU:=hI (HU.o.ext XU.o)
    replace EU:=hI (EU.o.ext XU.o)
    have g9:=HU.o.g 9 _ rfl
    have q0:=fun d os=>Ext.cell (Ext.reg WU d os) (EU.o.box.c 0 _ rfl)
    have q1:=fun d os=>Ext.cell (Ext.reg WU d os) (EU.o.box.c 1 _ rfl)
    have q2:=fun d os=>Ext.cell (Ext.reg WU d os) (EU.o.box.c 2 _ rfl)
    have q3:=fun d os=>Ext.cell (Ext.reg WU d os) (EU.o.box.c 3 _ rfl)
    have q4:=fun d os=>Ext.cell (Ext.reg WU d os) (EU.o.box.c 4 _ rfl)
    have q5:=fun d os=>Ext.cell (Ext.reg WU d os) (EU.o.box.c 5 _ rfl)
    have q6:=fun d os=>Ext.cell (Ext.reg WU d os) (EU.o.box.c 6 _ rfl)
    refine att [0,1,2,3,4] [5] ?_
    rw [← hW]
    clear hW
    repeat ((first|refine aqq fun K hK=>?_|refine akk fun K hK=>?_);go_big_quiet_op;refine hK _ ?_;clear hK K)
    clear g9 q0 q1 q2 q3 q4 q5 q6
    refine ra_nil ?_
    refine too fun K hK=>?_
    go_simp
    have HSU:=HS.o
    unfold addO at HSU
    rw [HE1.o] at HSU
    have CU:=hI (MU.o.cl.ext XU.o)
    cases hadd:addL s.L (⟨f1,f2,f3,f4,f5,s.ck,fd⟩) with
    | some L'=>
     rw [hadd] at HSU
     simp only at HSU
     cases hq:s.q with
     | none=>rw [hq] at HSU;cases HSU
     | some q=>
     rw [hq] at HSU
     simp only at HSU
     split at HSU
     case isFalse=>cases HSU
     rename_i hme
     obtain rfl:=Option.some.inj HSU
     have HQ:=hI hq
     have HME:=hI hme
     have ADD:=hI hadd
     clear HSU hq hme hadd
     refine (ladd_any (c:=k+2) CU.o HU.o.q.lg (by have:=HK.o;omega) (mayB_ok (addL_some ADD.o).1) ADD.o).mono ?_
     rintro r w6 ⟨o6,rfl,lg6,m6⟩
     obtain ⟨N6,F6⟩:=NodeP.mod0 (A':=A) (s':={ s with L:=L' }) HK.o HU.o m6 (fun d hd=>by unfold two at hd;unfold ndC;omega) (HU.o.q.set_lg HK.o lg6 m6 (fun d hd=>by unfold two at hd;omega)) rfl { HU.o.ok with L:=(fun y hy=>mayB_all HU.o.ok.L ADD.o y hy) }
     have H6:=hI N6
     have M6:=hI ((MU.o.tr (Fm.ext MU.o.cl XU.o) (nd0 HK.o)).tr F6 (nd0 HK.o))
     clear lg6 m6 N6 F6 CU
     refine hK _ _ ?_
     clear hK K
     refine rt_nil ?_
     obtain ⟨qg,hqg,hQ⟩:∃ qg,A.q=some qg∧QuV w6 o6 (k+14) qg q:=by
      have:=H6.o.q.qu
      rw [show ({ s with L:=L' }:NdD).q=some q from HQ.o] at this
      exact this
     have QU:=hI hQ
     have HQG:=hI hqg
     clear hQ hqg
     go_upto_region 6 with fail
     obtain ⟨Ww6,hW⟩:∃ Ww6,Ww6=w6.drew:=⟨_,rfl⟩
     have X6:Hid (Ext w6 Ww6):=hI (by rw [hW];exact Ext.drew w6)
     replace H6:=hI (H6.o.ext X6.o)
     replace QU:=hI (QU.o.ext X6.o)
     have g0:=H6.o.g 0 _ rfl
     have g9:=H6.o.g 9 _ rfl
     have g21:∀ d os,(grow (redrawn Ww6 d) os).cell? ⟨x,21,none⟩=some (ptrN qg):=by
      have:=H6.o.g 21 _ rfl
      rw [HQG.o] at this
      exact this
     refine att [0,1,2,3,4,5,6,7,8,9,10,11,12] [13] ?_
     rw [← hW]
     clear hW
     repeat ((first|refine aqq fun K hK=>?_|refine akk fun K hK=>?_);go_big_quiet_op;refine hK _ ?_;clear hK K)
     refine acc fun K hK=>?_
     go_simp
     refine (llen_any H6.o.q.lg).mono ?_
     rintro r w7 ⟨rfl,rfl⟩
     refine hK _ _ (Ext.rfl' _) ?_;clear hK K
     repeat ((first|refine aqq fun K hK=>?_|refine akk fun K hK=>?_);go_big_quiet_op;refine hK _ ?_;clear hK K)
     refine ra_nil ?_
     refine too fun K hK=>?_
     go_simp
     refine (qack_any (M6.o.cl.ext X6.o) QU.o (by have:=HK.o;omega) ⟨H6.o.ok.id.1,by have h1:=H6.o.ok.id.2;have h2:=H6.o.ok.n.2;omega⟩ (by have h1:L'.length≤60:=LogV.max H6.o.q.lg;omega) HME.o).mono ?_
     rintro r w8 ⟨rfl,qv8,m8⟩
     obtain ⟨N8,F8⟩:=NodeP.mod0 (A':=A) (s':={ s with L:=L',q:=some (ackQ q s.id L'.length 0) }) HK.o H6.o m8 (fun d hd=>by unfold one at hd;unfold ndC;omega) (H6.o.q.set_qu HK.o ⟨qg,HQG.o,qv8⟩ m8 (fun d hd=>.inl hd)) rfl { H6.o.ok with id:=H6.o.ok.id }
     have H8:=hI N8
     have M8:=hI ((M6.o.tr (Fm.ext M6.o.cl X6.o) (nd0 HK.o)).tr F8 (nd0 HK.o))
     clear qv8 m8 N8 F8
     refine hK _ _ ?_
     clear hK K
     refine rt_nil ?_
     go_wp2
     refine bodyPost_end (v:=.tuple #[]) (by simp [results,Tryz.results140,go_sem]) rfl ?_
     first | exact ⟨rfl,_,_,H8.o,M8.o⟩ | exact ⟨rfl,_,⟨_,H8.o⟩,M8.o⟩
    | none=>
     rw [hadd] at HSU
     simp only at HSU
     split at HSU
     case isFalse=>cases HSU
     rename_i hm
     obtain rfl:=Option.some.inj HSU
     rw [Bool.and_eq_true] at hm
     have HM:=hI hm
     clear HSU hm hadd
     refine (ladd_no HU.o.q.lg (mayB_ok HM.o.1) HM.o.1 HM.o.2).mono ?_
     rintro r w6 ⟨rfl,x6⟩
     have H6:=hI (HU.o.ext x6)
     have M6:=hI ((MU.o.tr (Fm.ext MU.o.cl XU.o) (nd0 HK.o)).tr (Fm.ext CU.o x6) (nd0 HK.o))
     clear x6
     refine hK _ _ ?_
     clear hK K
     refine rt_nil ?_
     go_wp2
     refine bodyPost_end (v:=.tuple #[]) (by simp [results,Tryz.results140,go_sem]) rfl ?_
     first | exact ⟨rfl,_,_,H6.o,M6.o⟩ | exact ⟨rfl,_,⟨_,H6.o⟩,M6.o⟩
  ·go_simp
   have AL:=hI (Ext.alloc W2 (.cells (enA zeroE) 71))
   obtain ⟨tb,htb⟩:∃ tb,tb=W2.heap.size:=⟨_,rfl⟩
   have TB:=hI (BoxV.new W2 W2.heap.size (enA zeroE) (enL zeroE) 71 tb htb (by rw [htb];exact E.o.size) rfl)
   refine hK (Ext W2) _ _ (fun _ h=>h) (E.o.tr AL.o) (fun _=>?_)
   clear hK K
   change RF _ _ _ _ _ _ (W2.alloc (.cells (enA zeroE) 71))
   replace E:=hI (E.o.tr AL.o)
   rw [← htb]
   clear AL htb
   generalize W2.alloc (.cells (enA zeroE) 71)=v6 at *
   refine fcc fun K hK=>?_
   go_simp
   refine (lat_any (H.o.ext E.o).q.lg).mono ?_
   rintro r v7 ⟨rfl,x9⟩
   replace TB:=hI (TB.o.ext x9)
   replace E:=hI (E.o.tr x9)
   refine hK (Ext W2) _ _ (fun _ h=>h) E.o (fun _=>?_)
   clear hK K x9
   repeat ((first|refine fqq fun K hK=>?_|refine fkk fun K hK=>?_);go_big_quiet_op;refine hK _ ?_;clear hK K)
   have b0:=TB.o.c 0 _ rfl
   have b1:=TB.o.c 1 _ rfl
   have b2:=TB.o.c 2 _ rfl
   have b3:=TB.o.c 3 _ rfl
   have b4:=TB.o.c 4 _ rfl
   have b5:=TB.o.c 5 _ rfl
   have b6:=TB.o.c 6 _ rfl
   have bf:=TB.o.f
   obtain ⟨⟨g1,g2,g3,g4,g5,g6,gd⟩,hLE⟩:∃ le,le=lastE s.L:=⟨_,rfl⟩
   rw [← hLE]
   have LE:=hI hLE
   clear hLE
   refine fcc fun K hK=>?_
   go_simp
   have FX:Hid (Ext W2 (fillV v7 tb 0 (enL ⟨g1,g2,g3,g4,g5,g6,gd⟩))):=hI (fillV_below E.o TB.o.lo (enL ⟨g1,g2,g3,g4,g5,g6,gd⟩) 0)
   have FB:=hI (TB.o.fill (vs:=enL ⟨g1,g2,g3,g4,g5,g6,gd⟩) (Nat.le_refl _))
   refine hK (Ext W2) _ (fillV v7 tb 0 (enL ⟨g1,g2,g3,g4,g5,g6,gd⟩)) (fun _ h=>h) FX.o (fun _=>?_)
   clear hK K bf b0 b1 b2 b3 b4 b5 b6 E TB
   generalize fillV v7 tb 0 (enL ⟨g1,g2,g3,g4,g5,g6,gd⟩)=v9 at *
   repeat ((first|refine fqq fun K hK=>?_|refine fkk fun K hK=>?_);go_big_quiet_op;refine hK _ ?_;clear hK K)
   refine rf_nil ?_
   have H9:=hI (H.o.ext FX.o)
   have E9:=hI (EB2.o.ext FX.o)
   have M9:=hI (M1.o.tr (Fm.ext M1.o.cl FX.o) (nd0 HK.o))
   have t5:=FB.o.c 5 _ rfl
   have d5:=E9.o.box.c 5 _ rfl
   have ff5:=E9.o.box.f 5
   clear FX H EB2 M1 FB
   cases hL:s.L.isEmpty
   ·have HE1:Hid (addE s ⟨f1,f2,f3,f4,f5,f6,fd⟩=⟨f1,f2,f3,f4,f5,if s.ck<g6 then g6 else s.ck,fd⟩):=hI (by
     unfold addE mxI
     rw [hL,← LE.o]
     rfl)
    go_upto_region 5 with fail
    have P9:=hI (Fm.put (C:=one (k+20)) M9.o.cl E9.o (by have:=HK.o;omega) rfl 5 (.int .i64 (if s.ck<g6 then g6 else s.ck)))
    have EU:Hid (BoxC (v9.setCell ⟨eb,5,none⟩ (.int .i64 (if s.ck<g6 then g6 else s.ck))) o1 (k+20) eb (enL ⟨f1,f2,f3,f4,f5,if s.ck<g6 then g6 else s.ck,fd⟩)):=hI (E9.o.put 5 (.int .i64 (if s.ck<g6 then g6 else s.ck)))
    have HU:=hI (H9.o.fr HK.o P9.o (by unfold one;omega) (fun d hd=>by unfold one at hd;unfold ndI;omega))
    have MU:=hI (M9.o.tr (P9.o.mono (fun d hd=>by unfold one at hd;unfold ndC;omega)) (nd0 HK.o))
    clear P9 E9 H9 M9 t5 d5 ff5 hL
    generalize (if s.ck<g6 then g6 else s.ck)=st at *
    generalize v9.setCell ⟨eb,5,none⟩ (.int .i64 st)=u9 at *
    go_upto_region 5 with fail
    obtain ⟨WU,hW⟩:∃ WU,WU=u9.drew:=⟨_,rfl⟩
    have XU:Hid (Ext u9 WU):=hI (by rw [hW];exact Ext.drew u9)
    replace HU:=hI (HU.o.ext XU.o)
    replace EU:=hI (EU.o.ext XU.o)
    have g9:=HU.o.g 9 _ rfl
    have q0:=fun d os=>Ext.cell (Ext.reg WU d os) (EU.o.box.c 0 _ rfl)
    have q1:=fun d os=>Ext.cell (Ext.reg WU d os) (EU.o.box.c 1 _ rfl)
    have q2:=fun d os=>Ext.cell (Ext.reg WU d os) (EU.o.box.c 2 _ rfl)
    have q3:=fun d os=>Ext.cell (Ext.reg WU d os) (EU.o.box.c 3 _ rfl)
    have q4:=fun d os=>Ext.cell (Ext.reg WU d os) (EU.o.box.c 4 _ rfl)
    have q5:=fun d os=>Ext.cell (Ext.reg WU d os) (EU.o.box.c 5 _ rfl)
    have q6:=fun d os=>Ext.cell (Ext.reg WU d os) (EU.o.box.c 6 _ rfl)
    refine att [0,1,2,3,4] [5] ?_
    rw [← hW]
    clear hW
    repeat ((first|refine aqq fun K hK=>?_|refine akk fun K hK=>?_);go_big_quiet_op;refine hK _ ?_;clear hK K)
    clear g9 q0 q1 q2 q3 q4 q5 q6
    refine ra_nil ?_
    refine too fun K hK=>?_
    go_simp
    have HSU:=HS.o
    unfold addO at HSU
    rw [HE1.o] at HSU
    have CU:=hI (MU.o.cl.ext XU.o)
    cases hadd:addL s.L (⟨f1,f2,f3,f4,f5,st,fd⟩) with
    | some L'=>
     rw [hadd] at HSU
     simp only at HSU
     cases hq:s.q with
     | none=>rw [hq] at HSU;cases HSU
     | some q=>
     rw [hq] at HSU
     simp only at HSU
     split at HSU
     case isFalse=>cases HSU
     rename_i hme
     obtain rfl:=Option.some.inj HSU
     have HQ:=hI hq
     have HME:=hI hme
     have ADD:=hI hadd
     clear HSU hq hme hadd
     refine (ladd_any (c:=k+2) CU.o HU.o.q.lg (by have:=HK.o;omega) (mayB_ok (addL_some ADD.o).1) ADD.o).mono ?_
     rintro r w6 ⟨o6,rfl,lg6,m6⟩
     obtain ⟨N6,F6⟩:=NodeP.mod0 (A':=A) (s':={ s with L:=L' }) HK.o HU.o m6 (fun d hd=>by unfold two at hd;unfold ndC;omega) (HU.o.q.set_lg HK.o lg6 m6 (fun d hd=>by unfold two at hd;omega)) rfl { HU.o.ok with L:=(fun y hy=>mayB_all HU.o.ok.L ADD.o y hy) }
     have H6:=hI N6
     have M6:=hI ((MU.o.tr (Fm.ext MU.o.cl XU.o) (nd0 HK.o)).tr F6 (nd0 HK.o))
     clear lg6 m6 N6 F6 CU
     refine hK _ _ ?_
     clear hK K
     refine rt_nil ?_
     obtain ⟨qg,hqg,hQ⟩:∃ qg,A.q=some qg∧QuV w6 o6 (k+14) qg q:=by
      have:=H6.o.q.qu
      rw [show ({ s with L:=L' }:NdD).q=some q from HQ.o] at this
      exact this
     have QU:=hI hQ
     have HQG:=hI hqg
     clear hQ hqg
     go_upto_region 6 with fail
     obtain ⟨Ww6,hW⟩:∃ Ww6,Ww6=w6.drew:=⟨_,rfl⟩
     have X6:Hid (Ext w6 Ww6):=hI (by rw [hW];exact Ext.drew w6)
     replace H6:=hI (H6.o.ext X6.o)
     replace QU:=hI (QU.o.ext X6.o)
     have g0:=H6.o.g 0 _ rfl
     have g9:=H6.o.g 9 _ rfl
     have g21:∀ d os,(grow (redrawn Ww6 d) os).cell? ⟨x,21,none⟩=some (ptrN qg):=by
      have:=H6.o.g 21 _ rfl
      rw [HQG.o] at this
      exact this
     refine att [0,1,2,3,4,5,6,7,8,9,10,11,12] [13] ?_
     rw [← hW]
     clear hW
     repeat ((first|refine aqq fun K hK=>?_|refine akk fun K hK=>?_);go_big_quiet_op;refine hK _ ?_;clear hK K)
     refine acc fun K hK=>?_
     go_simp
     refine (llen_any H6.o.q.lg).mono ?_
     rintro r w7 ⟨rfl,rfl⟩
     refine hK _ _ (Ext.rfl' _) ?_;clear hK K
     repeat ((first|refine aqq fun K hK=>?_|refine akk fun K hK=>?_);go_big_quiet_op;refine hK _ ?_;clear hK K)
     refine ra_nil ?_
     refine too fun K hK=>?_
     go_simp
     refine (qack_any (M6.o.cl.ext X6.o) QU.o (by have:=HK.o;omega) ⟨H6.o.ok.id.1,by have h1:=H6.o.ok.id.2;have h2:=H6.o.ok.n.2;omega⟩ (by have h1:L'.length≤60:=LogV.max H6.o.q.lg;omega) HME.o).mono ?_
     rintro r w8 ⟨rfl,qv8,m8⟩
     obtain ⟨N8,F8⟩:=NodeP.mod0 (A':=A) (s':={ s with L:=L',q:=some (ackQ q s.id L'.length 0) }) HK.o H6.o m8 (fun d hd=>by unfold one at hd;unfold ndC;omega) (H6.o.q.set_qu HK.o ⟨qg,HQG.o,qv8⟩ m8 (fun d hd=>.inl hd)) rfl { H6.o.ok with id:=H6.o.ok.id }
     have H8:=hI N8
     have M8:=hI ((M6.o.tr (Fm.ext M6.o.cl X6.o) (nd0 HK.o)).tr F8 (nd0 HK.o))
     clear qv8 m8 N8 F8
     refine hK _ _ ?_
     clear hK K
     refine rt_nil ?_
     go_wp2
     refine bodyPost_end (v:=.tuple #[]) (by simp [results,Tryz.results140,go_sem]) rfl ?_
     first | exact ⟨rfl,_,_,H8.o,M8.o⟩ | exact ⟨rfl,_,⟨_,H8.o⟩,M8.o⟩
    | none=>
     rw [hadd] at HSU
     simp only at HSU
     split at HSU
     case isFalse=>cases HSU
     rename_i hm
     obtain rfl:=Option.some.inj HSU
     rw [Bool.and_eq_true] at hm
     have HM:=hI hm
     clear HSU hm hadd
     refine (ladd_no HU.o.q.lg (mayB_ok HM.o.1) HM.o.1 HM.o.2).mono ?_
     rintro r w6 ⟨rfl,x6⟩
     have H6:=hI (HU.o.ext x6)
     have M6:=hI ((MU.o.tr (Fm.ext MU.o.cl XU.o) (nd0 HK.o)).tr (Fm.ext CU.o x6) (nd0 HK.o))
     clear x6
     refine hK _ _ ?_
     clear hK K
     refine rt_nil ?_
     go_wp2
     refine bodyPost_end (v:=.tuple #[]) (by simp [results,Tryz.results140,go_sem]) rfl ?_
     first | exact ⟨rfl,_,_,H6.o,M6.o⟩ | exact ⟨rfl,_,⟨_,H6.o⟩,M6.o⟩
   ·have HE1:Hid (addE s ⟨f1,f2,f3,f4,f5,f6,fd⟩=⟨f1,f2,f3,f4,f5,s.ck,fd⟩):=hI (by
     unfold addE
     rw [hL]
     rfl)
    have EU:=E9
    have HU:=H9
    have MU:=M9
    clear E9 H9 M9 t5 d5 ff5 hL
    go_upto_region 5 with fail
    obtain ⟨WU,hW⟩:∃ WU,WU=v9.drew:=⟨_,rfl⟩
    have XU:Hid (Ext v9 WU):=hI (by rw [hW];exact Ext.drew v9)
    replace HU:=hI (HU.o.ext XU.o)
    replace EU:=hI (EU.o.ext XU.o)
    have g9:=HU.o.g 9 _ rfl
    have q0:=fun d os=>Ext.cell (Ext.reg WU d os) (EU.o.box.c 0 _ rfl)
    have q1:=fun d os=>Ext.cell (Ext.reg WU d os) (EU.o.box.c 1 _ rfl)
    have q2:=fun d os=>Ext.cell (Ext.reg WU d os) (EU.o.box.c 2 _ rfl)
    have q3:=fun d os=>Ext.cell (Ext.reg WU d os) (EU.o.box.c 3 _ rfl)
    have q4:=fun d os=>Ext.cell (Ext.reg WU d os) (EU.o.box.c 4 _ rfl)
    have q5:=fun d os=>Ext.cell (Ext.reg WU d os) (EU.o.box.c 5 _ rfl)
    have q6:=fun d os=>Ext.cell (Ext.reg WU d os) (EU.o.box.c 6 _ rfl)
    refine att [0,1,2,3,4] [5] ?_
    rw [← hW]
    clear hW
    repeat ((first|refine aqq fun K hK=>?_|refine akk fun K hK=>?_);go_big_quiet_op;refine hK _ ?_;clear hK K)
    clear g9 q0 q1 q2 q3 q4 q5 q6
    refine ra_nil ?_
    refine too fun K hK=>?_
    go_simp
    have HSU:=HS.o
    unfold addO at HSU
    rw [HE1.o] at HSU
    have CU:=hI (MU.o.cl.ext XU.o)
    cases hadd:addL s.L (⟨f1,f2,f3,f4,f5,s.ck,fd⟩) with
    | some L'=>
     rw [hadd] at HSU
     simp only at HSU
     cases hq:s.q with
     | none=>rw [hq] at HSU;cases HSU
     | some q=>
     rw [hq] at HSU
     simp only at HSU
     split at HSU
     case isFalse=>cases HSU
     rename_i hme
     obtain rfl:=Option.some.inj HSU
     have HQ:=hI hq
     have HME:=hI hme
     have ADD:=hI hadd
     clear HSU hq hme hadd
     refine (ladd_any (c:=k+2) CU.o HU.o.q.lg (by have:=HK.o;omega) (mayB_ok (addL_some ADD.o).1) ADD.o).mono ?_
     rintro r w6 ⟨o6,rfl,lg6,m6⟩
     obtain ⟨N6,F6⟩:=NodeP.mod0 (A':=A) (s':={ s with L:=L' }) HK.o HU.o m6 (fun d hd=>by unfold two at hd;unfold ndC;omega) (HU.o.q.set_lg HK.o lg6 m6 (fun d hd=>by unfold two at hd;omega)) rfl { HU.o.ok with L:=(fun y hy=>mayB_all HU.o.ok.L ADD.o y hy) }
     have H6:=hI N6
     have M6:=hI ((MU.o.tr (Fm.ext MU.o.cl XU.o) (nd0 HK.o)).tr F6 (nd0 HK.o))
     clear lg6 m6 N6 F6 CU
     refine hK _ _ ?_
     clear hK K
     refine rt_nil ?_
     obtain ⟨qg,hqg,hQ⟩:∃ qg,A.q=some qg∧QuV w6 o6 (k+14) qg q:=by
      have:=H6.o.q.qu
      rw [show ({ s with L:=L' }:NdD).q=some q from HQ.o] at this
      exact this
     have QU:=hI hQ
     have HQG:=hI hqg
     clear hQ hqg
     go_upto_region 6 with fail
     obtain ⟨Ww6,hW⟩:∃ Ww6,Ww6=w6.drew:=⟨_,rfl⟩
     have X6:Hid (Ext w6 Ww6):=hI (by rw [hW];exact Ext.drew w6)
     replace H6:=hI (H6.o.ext X6.o)
     replace QU:=hI (QU.o.ext X6.o)
     have g0:=H6.o.g 0 _ rfl
     have g9:=H6.o.g 9 _ rfl
     have g21:∀ d os,(grow (redrawn Ww6 d) os).cell? ⟨x,21,none⟩=some (ptrN qg):=by
      have:=H6.o.g 21 _ rfl
      rw [HQG.o] at this
      exact this
     refine att [0,1,2,3,4,5,6,7,8,9,10,11,12] [13] ?_
     rw [← hW]
     clear hW
     repeat ((first|refine aqq fun K hK=>?_|refine akk fun K hK=>?_);go_big_quiet_op;refine hK _ ?_;clear hK K)
     refine acc fun K hK=>?_
     go_simp
     refine (llen_any H6.o.q.lg).mono ?_
     rintro r w7 ⟨rfl,rfl⟩
     refine hK _ _ (Ext.rfl' _) ?_;clear hK K
     repeat ((first|refine aqq fun K hK=>?_|refine akk fun K hK=>?_);go_big_quiet_op;refine hK _ ?_;clear hK K)
     refine ra_nil ?_
     refine too fun K hK=>?_
     go_simp
     refine (qack_any (M6.o.cl.ext X6.o) QU.o (by have:=HK.o;omega) ⟨H6.o.ok.id.1,by have h1:=H6.o.ok.id.2;have h2:=H6.o.ok.n.2;omega⟩ (by have h1:L'.length≤60:=LogV.max H6.o.q.lg;omega) HME.o).mono ?_
     rintro r w8 ⟨rfl,qv8,m8⟩
     obtain ⟨N8,F8⟩:=NodeP.mod0 (A':=A) (s':={ s with L:=L',q:=some (ackQ q s.id L'.length 0) }) HK.o H6.o m8 (fun d hd=>by unfold one at hd;unfold ndC;omega) (H6.o.q.set_qu HK.o ⟨qg,HQG.o,qv8⟩ m8 (fun d hd=>.inl hd)) rfl { H6.o.ok with id:=H6.o.ok.id }
     have H8:=hI N8
     have M8:=hI ((M6.o.tr (Fm.ext M6.o.cl X6.o) (nd0 HK.o)).tr F8 (nd0 HK.o))
     clear qv8 m8 N8 F8
     refine hK _ _ ?_
     clear hK K
     refine rt_nil ?_
     go_wp2
     refine bodyPost_end (v:=.tuple #[]) (by simp [results,Tryz.results140,go_sem]) rfl ?_
     first | exact ⟨rfl,_,_,H8.o,M8.o⟩ | exact ⟨rfl,_,⟨_,H8.o⟩,M8.o⟩
    | none=>
     rw [hadd] at HSU
     simp only at HSU
     split at HSU
     case isFalse=>cases HSU
     rename_i hm
     obtain rfl:=Option.some.inj HSU
     rw [Bool.and_eq_true] at hm
     have HM:=hI hm
     clear HSU hm hadd
     refine (ladd_no HU.o.q.lg (mayB_ok HM.o.1) HM.o.1 HM.o.2).mono ?_
     rintro r w6 ⟨rfl,x6⟩
     have H6:=hI (HU.o.ext x6)
     have M6:=hI ((MU.o.tr (Fm.ext MU.o.cl XU.o) (nd0 HK.o)).tr (Fm.ext CU.o x6) (nd0 HK.o))
     clear x6
     refine hK _ _ ?_
     clear hK K
     refine rt_nil ?_
     go_wp2
     refine bodyPost_end (v:=.tuple #[]) (by simp [results,Tryz.results140,go_sem]) rfl ?_
     first | exact ⟨rfl,_,_,H6.o,M6.o⟩ | exact ⟨rfl,_,⟨_,H6.o⟩,M6.o⟩
 ·go_simp
  have AL:=hI (Ext.alloc W2 (.cells (enA zeroE) 71))
  obtain ⟨tb,htb⟩:∃ tb,tb=W2.heap.size:=⟨_,rfl⟩
  have TB:=hI (BoxV.new W2 W2.heap.size (enA zeroE) (enL zeroE) 71 tb htb (by rw [htb];exact E.o.size) rfl)
  refine hK (Ext W2) _ _ (fun _ h=>h) (E.o.tr AL.o) (fun _=>?_)
  clear hK K
  change RF _ _ _ _ _ _ (W2.alloc (.cells (enA zeroE) 71))
  replace E:=hI (E.o.tr AL.o)
  rw [← htb]
  clear AL htb
  generalize W2.alloc (.cells (enA zeroE) 71)=v5 at *
  refine fcc fun K hK=>?_
  go_simp
  refine (llen_any (H.o.ext E.o).q.lg).mono ?_
  rintro r w9 ⟨rfl,rfl⟩
  refine hK (Ext W2) _ _ (fun _ h=>h) E.o (fun _=>?_)
  clear hK K
  refine fcc fun K hK=>?_
  go_simp
  refine (lat_any (H.o.ext E.o).q.lg).mono ?_
  rintro r v7 ⟨rfl,x9⟩
  replace TB:=hI (TB.o.ext x9)
  replace E:=hI (E.o.tr x9)
  refine hK (Ext W2) _ _ (fun _ h=>h) E.o (fun _=>?_)
  clear hK K x9
  repeat ((first|refine fqq fun K hK=>?_|refine fkk fun K hK=>?_);go_big_quiet_op;refine hK _ ?_;clear hK K)
  have b0:=TB.o.c 0 _ rfl
  have b1:=TB.o.c 1 _ rfl
  have b2:=TB.o.c 2 _ rfl
  have b3:=TB.o.c 3 _ rfl
  have b4:=TB.o.c 4 _ rfl
  have b5:=TB.o.c 5 _ rfl
  have b6:=TB.o.c 6 _ rfl
  have bf:=TB.o.f
  obtain ⟨⟨g1,g2,g3,g4,g5,g6,gd⟩,hLE⟩:∃ le,le=lastE s.L:=⟨_,rfl⟩
  rw [← hLE]
  have LE:=hI hLE
  clear hLE
  refine fcc fun K hK=>?_
  go_simp
  have FX:Hid (Ext W2 (fillV v7 tb 0 (enL ⟨g1,g2,g3,g4,g5,g6,gd⟩))):=hI (fillV_below E.o TB.o.lo (enL ⟨g1,g2,g3,g4,g5,g6,gd⟩) 0)
  have FB:=hI (TB.o.fill (vs:=enL ⟨g1,g2,g3,g4,g5,g6,gd⟩) (Nat.le_refl _))
  refine hK (Ext W2) _ (fillV v7 tb 0 (enL ⟨g1,g2,g3,g4,g5,g6,gd⟩)) (fun _ h=>h) FX.o (fun _=>?_)
  clear hK K bf b0 b1 b2 b3 b4 b5 b6 E TB
  generalize fillV v7 tb 0 (enL ⟨g1,g2,g3,g4,g5,g6,gd⟩)=v9 at *
  repeat ((first|refine fqq fun K hK=>?_|refine fkk fun K hK=>?_);go_big_quiet_op;refine hK _ ?_;clear hK K)
  refine rf_nil ?_
  have H9:=hI (H.o.ext FX.o)
  have E9:=hI (EB2.o.ext FX.o)
  have M9:=hI (M1.o.tr (Fm.ext M1.o.cl FX.o) (nd0 HK.o))
  have t5:=FB.o.c 5 _ rfl
  have d5:=E9.o.box.c 5 _ rfl
  have ff5:=E9.o.box.f 5
  clear FX H EB2 M1 FB
  cases hL:s.L.isEmpty
  ·have HE1:Hid (addE s ⟨f1,f2,f3,f4,f5,f6,fd⟩=⟨f1,f2,f3,f4,f5,if s.ck<g6 then g6 else s.ck,fd⟩):=hI (by
    unfold addE mxI
    rw [hL,← LE.o]
    rfl)
   go_upto_region 5 with fail
   have P9:=hI (Fm.put (C:=one (k+20)) M9.o.cl E9.o (by have:=HK.o;omega) rfl 5 (.int .i64 (if s.ck<g6 then g6 else s.ck)))
   have EU:Hid (BoxC (v9.setCell ⟨eb,5,none⟩ (.int .i64 (if s.ck<g6 then g6 else s.ck))) o1 (k+20) eb (enL ⟨f1,f2,f3,f4,f5,if s.ck<g6 then g6 else s.ck,fd⟩)):=hI (E9.o.put 5 (.int .i64 (if s.ck<g6 then g6 else s.ck)))
   have HU:=hI (H9.o.fr HK.o P9.o (by unfold one;omega) (fun d hd=>by unfold one at hd;unfold ndI;omega))
   have MU:=hI (M9.o.tr (P9.o.mono (fun d hd=>by unfold one at hd;unfold ndC;omega)) (nd0 HK.o))
   clear P9 E9 H9 M9 t5 d5 ff5 hL
   generalize (if s.ck<g6 then g6 else s.ck)=st at *
   generalize v9.setCell ⟨eb,5,none⟩ (.int .i64 st)=u9 at *
   go_upto_region 5 with fail
   obtain ⟨WU,hW⟩:∃ WU,WU=u9.drew:=⟨_,rfl⟩
   have XU:Hid (Ext u9 WU):=hI (by rw [hW];exact Ext.drew u9)
   replace HU:=hI (HU.o.ext XU.o)
   replace EU:=hI (EU.o.ext XU.o)
   have g9:=HU.o.g 9 _ rfl
   have q0:=fun d os=>Ext.cell (Ext.reg WU d os) (EU.o.box.c 0 _ rfl)
   have q1:=fun d os=>Ext.cell (Ext.reg WU d os) (EU.o.box.c 1 _ rfl)
   have q2:=fun d os=>Ext.cell (Ext.reg WU d os) (EU.o.box.c 2 _ rfl)
   have q3:=fun d os=>Ext.cell (Ext.reg WU d os) (EU.o.box.c 3 _ rfl)
   have q4:=fun d os=>Ext.cell (Ext.reg WU d os) (EU.o.box.c 4 _ rfl)
   have q5:=fun d os=>Ext.cell (Ext.reg WU d os) (EU.o.box.c 5 _ rfl)
   have q6:=fun d os=>Ext.cell (Ext.reg WU d os) (EU.o.box.c 6 _ rfl)
   refine att [0,1,2,3,4] [5] ?_
   rw [← hW]
   clear hW
   repeat ((first|refine aqq fun K hK=>?_|refine akk fun K hK=>?_);go_big_quiet_op;refine hK _ ?_;clear hK K)
   clear g9 q0 q1 q2 q3 q4 q5 q6
   refine ra_nil ?_
   refine too fun K hK=>?_
   go_simp
   have HSU:=HS.o
   unfold addO at HSU
   rw [HE1.o] at HSU
   have CU:=hI (MU.o.cl.ext XU.o)
   cases hadd:addL s.L (⟨f1,f2,f3,f4,f5,st,fd⟩) with
   | some L'=>
    rw [hadd] at HSU
    simp only at HSU
    cases hq:s.q with
    | none=>rw [hq] at HSU;cases HSU
    | some q=>
    rw [hq] at HSU
    simp only at HSU
    split at HSU
    case isFalse=>cases HSU
    rename_i hme
    obtain rfl:=Option.some.inj HSU
    have HQ:=hI hq
    have HME:=hI hme
    have ADD:=hI hadd
    clear HSU hq hme hadd
    refine (ladd_any (c:=k+2) CU.o HU.o.q.lg (by have:=HK.o;omega) (mayB_ok (addL_some ADD.o).1) ADD.o).mono ?_
    rintro r w6 ⟨o6,rfl,lg6,m6⟩
    obtain ⟨N6,F6⟩:=NodeP.mod0 (A':=A) (s':={ s with L:=L' }) HK.o HU.o m6 (fun d hd=>by unfold two at hd;unfold ndC;omega) (HU.o.q.set_lg HK.o lg6 m6 (fun d hd=>by unfold two at hd;omega)) rfl { HU.o.ok with L:=(fun y hy=>mayB_all HU.o.ok.L ADD.o y hy) }
    have H6:=hI N6
    have M6:=hI ((MU.o.tr (Fm.ext MU.o.cl XU.o) (nd0 HK.o)).tr F6 (nd0 HK.o))
    clear lg6 m6 N6 F6 CU
    refine hK _ _ ?_
    clear hK K
    refine rt_nil ?_
    obtain ⟨qg,hqg,hQ⟩:∃ qg,A.q=some qg∧QuV w6 o6 (k+14) qg q:=by
     have:=H6.o.q.qu
     rw [show ({ s with L:=L' }:NdD).q=some q from HQ.o] at this
     exact this
    have QU:=hI hQ
    have HQG:=hI hqg
    clear hQ hqg
    go_upto_region 6 with fail
    obtain ⟨Ww6,hW⟩:∃ Ww6,Ww6=w6.drew:=⟨_,rfl⟩
    have X6:Hid (Ext w6 Ww6):=hI (by rw [hW];exact Ext.drew w6)
    replace H6:=hI (H6.o.ext X6.o)
    replace QU:=hI (QU.o.ext X6.o)
    have g0:=H6.o.g 0 _ rfl
    have g9:=H6.o.g 9 _ rfl
    have g21:∀ d os,(grow (redrawn Ww6 d) os).cell? ⟨x,21,none⟩=some (ptrN qg):=by
     have:=H6.o.g 21 _ rfl
     rw [HQG.o] at this
     exact this
    refine att [0,1,2,3,4,5,6,7,8,9,10,11,12] [13] ?_
    rw [← hW]
    clear hW
    repeat ((first|refine aqq fun K hK=>?_|refine akk fun K hK=>?_);go_big_quiet_op;refine hK _ ?_;clear hK K)
    refine acc fun K hK=>?_
    go_simp
    refine (llen_any H6.o.q.lg).mono ?_
    rintro r w7 ⟨rfl,rfl⟩
    refine hK _ _ (Ext.rfl' _) ?_;clear hK K
    repeat ((first|refine aqq fun K hK=>?_|refine akk fun K hK=>?_);go_big_quiet_op;refine hK _ ?_;clear hK K)
    refine ra_nil ?_
    refine too fun K hK=>?_
    go_simp
    refine (qack_any (M6.o.cl.ext X6.o) QU.o (by have:=HK.o;omega) ⟨H6.o.ok.id.1,by have h1:=H6.o.ok.id.2;have h2:=H6.o.ok.n.2;omega⟩ (by have h1:L'.length≤60:=LogV.max H6.o.q.lg;omega) HME.o).mono ?_
    rintro r w8 ⟨rfl,qv8,m8⟩
    obtain ⟨N8,F8⟩:=NodeP.mod0 (A':=A) (s':={ s with L:=L',q:=some (ackQ q s.id L'.length 0) }) HK.o H6.o m8 (fun d hd=>by unfold one at hd;unfold ndC;omega) (H6.o.q.set_qu HK.o ⟨qg,HQG.o,qv8⟩ m8 (fun d hd=>.inl hd)) rfl { H6.o.ok with id:=H6.o.ok.id }
    have H8:=hI N8
    have M8:=hI ((M6.o.tr (Fm.ext M6.o.cl X6.o) (nd0 HK.o)).tr F8 (nd0 HK.o))
    clear qv8 m8 N8 F8
    refine hK _ _ ?_
    clear hK K
    refine rt_nil ?_
    go_wp2
    refine bodyPost_end (v:=.tuple #[]) (by simp [results,Tryz.results140,go_sem]) rfl ?_
    first | exact ⟨rfl,_,_,H8.o,M8.o⟩ | exact ⟨rfl,_,⟨_,H8.o⟩,M8.o⟩
   | none=>
    rw [hadd] at HSU
    simp only at HSU
    split at HSU
    case isFalse=>cases HSU
    rename_i hm
    obtain rfl:=Option.some.inj HSU
    rw [Bool.and_eq_true] at hm
    have HM:=hI hm
    clear HSU hm hadd
    refine (ladd_no HU.o.q.lg (mayB_ok HM.o.1) HM.o.1 HM.o.2).mono ?_
    rintro r w6 ⟨rfl,x6⟩
    have H6:=hI (HU.o.ext x6)
    have M6:=hI ((MU.o.tr (Fm.ext MU.o.cl XU.o) (nd0 HK.o)).tr (Fm.ext CU.o x6) (nd0 HK.o))
    clear x6
    refine hK _ _ ?_
    clear hK K
    refine rt_nil ?_
    go_wp2
    refine bodyPost_end (v:=.tuple #[]) (by simp [results,Tryz.results140,go_sem]) rfl ?_
    first | exact ⟨rfl,_,_,H6.o,M6.o⟩ | exact ⟨rfl,_,⟨_,H6.o⟩,M6.o⟩
  ·have HE1:Hid (addE s ⟨f1,f2,f3,f4,f5,f6,fd⟩=⟨f1,f2,f3,f4,f5,s.ck,fd⟩):=hI (by
    unfold addE
    rw [hL]
    rfl)
   have EU:=E9
   have HU:=H9
   have MU:=M9
   clear E9 H9 M9 t5 d5 ff5 hL
   go_upto_region 5 with fail
   obtain ⟨WU,hW⟩:∃ WU,WU=v9.drew:=⟨_,rfl⟩
   have XU:Hid (Ext v9 WU):=hI (by rw [hW];exact Ext.drew v9)
   replace HU:=hI (HU.o.ext XU.o)
   replace EU:=hI (EU.o.ext XU.o)
   have g9:=HU.o.g 9 _ rfl
   have q0:=fun d os=>Ext.cell (Ext.reg WU d os) (EU.o.box.c 0 _ rfl)
   have q1:=fun d os=>Ext.cell (Ext.reg WU d os) (EU.o.box.c 1 _ rfl)
   have q2:=fun d os=>Ext.cell (Ext.reg WU d os) (EU.o.box.c 2 _ rfl)
   have q3:=fun d os=>Ext.cell (Ext.reg WU d os) (EU.o.box.c 3 _ rfl)
   have q4:=fun d os=>Ext.cell (Ext.reg WU d os) (EU.o.box.c 4 _ rfl)
   have q5:=fun d os=>Ext.cell (Ext.reg WU d os) (EU.o.box.c 5 _ rfl)
   have q6:=fun d os=>Ext.cell (Ext.reg WU d os) (EU.o.box.c 6 _ rfl)
   refine att [0,1,2,3,4] [5] ?_
   rw [← hW]
   clear hW
   repeat ((first|refine aqq fun K hK=>?_|refine akk fun K hK=>?_);go_big_quiet_op;refine hK _ ?_;clear hK K)
   clear g9 q0 q1 q2 q3 q4 q5 q6
   refine ra_nil ?_
   refine too fun K hK=>?_
   go_simp
   have HSU:=HS.o
   unfold addO at HSU
   rw [HE1.o] at HSU
   have CU:=hI (MU.o.cl.ext XU.o)
   cases hadd:addL s.L (⟨f1,f2,f3,f4,f5,s.ck,fd⟩) with
   | some L'=>
    rw [hadd] at HSU
    simp only at HSU
    cases hq:s.q with
    | none=>rw [hq] at HSU;cases HSU
    | some q=>
    rw [hq] at HSU
    simp only at HSU
    split at HSU
    case isFalse=>cases HSU
    rename_i hme
    obtain rfl:=Option.some.inj HSU
    have HQ:=hI hq
    have HME:=hI hme
    have ADD:=hI hadd
    clear HSU hq hme hadd
    refine (ladd_any (c:=k+2) CU.o HU.o.q.lg (by have:=HK.o;omega) (mayB_ok (addL_some ADD.o).1) ADD.o).mono ?_
    rintro r w6 ⟨o6,rfl,lg6,m6⟩
    obtain ⟨N6,F6⟩:=NodeP.mod0 (A':=A) (s':={ s with L:=L' }) HK.o HU.o m6 (fun d hd=>by unfold two at hd;unfold ndC;omega) (HU.o.q.set_lg HK.o lg6 m6 (fun d hd=>by unfold two at hd;omega)) rfl { HU.o.ok with L:=(fun y hy=>mayB_all HU.o.ok.L ADD.o y hy) }
    have H6:=hI N6
    have M6:=hI ((MU.o.tr (Fm.ext MU.o.cl XU.o) (nd0 HK.o)).tr F6 (nd0 HK.o))
    clear lg6 m6 N6 F6 CU
    refine hK _ _ ?_
    clear hK K
    refine rt_nil ?_
    obtain ⟨qg,hqg,hQ⟩:∃ qg,A.q=some qg∧QuV w6 o6 (k+14) qg q:=by
     have:=H6.o.q.qu
     rw [show ({ s with L:=L' }:NdD).q=some q from HQ.o] at this
     exact this
    have QU:=hI hQ
    have HQG:=hI hqg
    clear hQ hqg
    go_upto_region 6 with fail
    obtain ⟨Ww6,hW⟩:∃ Ww6,Ww6=w6.drew:=⟨_,rfl⟩
    have X6:Hid (Ext w6 Ww6):=hI (by rw [hW];exact Ext.drew w6)
    replace H6:=hI (H6.o.ext X6.o)
    replace QU:=hI (QU.o.ext X6.o)
    have g0:=H6.o.g 0 _ rfl
    have g9:=H6.o.g 9 _ rfl
    have g21:∀ d os,(grow (redrawn Ww6 d) os).cell? ⟨x,21,none⟩=some (ptrN qg):=by
     have:=H6.o.g 21 _ rfl
     rw [HQG.o] at this
     exact this
    refine att [0,1,2,3,4,5,6,7,8,9,10,11,12] [13] ?_
    rw [← hW]
    clear hW
    repeat ((first|refine aqq fun K hK=>?_|refine akk fun K hK=>?_);go_big_quiet_op;refine hK _ ?_;clear hK K)
    refine acc fun K hK=>?_
    go_simp
    refine (llen_any H6.o.q.lg).mono ?_
    rintro r w7 ⟨rfl,rfl⟩
    refine hK _ _ (Ext.rfl' _) ?_;clear hK K
    repeat ((first|refine aqq fun K hK=>?_|refine akk fun K hK=>?_);go_big_quiet_op;refine hK _ ?_;clear hK K)
    refine ra_nil ?_
    refine too fun K hK=>?_
    go_simp
    refine (qack_any (M6.o.cl.ext X6.o) QU.o (by have:=HK.o;omega) ⟨H6.o.ok.id.1,by have h1:=H6.o.ok.id.2;have h2:=H6.o.ok.n.2;omega⟩ (by have h1:L'.length≤60:=LogV.max H6.o.q.lg;omega) HME.o).mono ?_
    rintro r w8 ⟨rfl,qv8,m8⟩
    obtain ⟨N8,F8⟩:=NodeP.mod0 (A':=A) (s':={ s with L:=L',q:=some (ackQ q s.id L'.length 0) }) HK.o H6.o m8 (fun d hd=>by unfold one at hd;unfold ndC;omega) (H6.o.q.set_qu HK.o ⟨qg,HQG.o,qv8⟩ m8 (fun d hd=>.inl hd)) rfl { H6.o.ok with id:=H6.o.ok.id }
    have H8:=hI N8
    have M8:=hI ((M6.o.tr (Fm.ext M6.o.cl X6.o) (nd0 HK.o)).tr F8 (nd0 HK.o))
    clear qv8 m8 N8 F8
    refine hK _ _ ?_
    clear hK K
    refine rt_nil ?_
    go_wp2
    refine bodyPost_end (v:=.tuple #[]) (by simp [results,Tryz.results140,go_sem]) rfl ?_
    first | exact ⟨rfl,_,_,H8.o,M8.o⟩ | exact ⟨rfl,_,⟨_,H8.o⟩,M8.o⟩
   | none=>
    rw [hadd] at HSU
    simp only at HSU
    split at HSU
    case isFalse=>cases HSU
    rename_i hm
    obtain rfl:=Option.some.inj HSU
    rw [Bool.and_eq_true] at hm
    have HM:=hI hm
    clear HSU hm hadd
    refine (ladd_no HU.o.q.lg (mayB_ok HM.o.1) HM.o.1 HM.o.2).mono ?_
    rintro r w6 ⟨rfl,x6⟩
    have H6:=hI (HU.o.ext x6)
    have M6:=hI ((MU.o.tr (Fm.ext MU.o.cl XU.o) (nd0 HK.o)).tr (Fm.ext CU.o x6) (nd0 HK.o))
    clear x6
    refine hK _ _ ?_
    clear hK K
    refine rt_nil ?_
    go_wp2
    refine bodyPost_end (v:=.tuple #[]) (by simp [results,Tryz.results140,go_sem]) rfl ?_
    first | exact ⟨rfl,_,_,H6.o,M6.o⟩ | exact ⟨rfl,_,⟨_,H6.o⟩,M6.o⟩
end
section
open Go Go.Sort Go.RowKit
def still (o:Oper):Bool:=
 match o.op with
 | .nilCheck _=>true
 | .fieldAddr _ _ _=>true
 | .move _=>true
 | _=>false
def waitsOn (md:Region.Mode) (ops:Array Oper) (f i:Nat):Bool:=
 match ops[f]? with
 | none=>false
 | some o=>o.after.toList.any fun e=>Region.binds md e&&e.on==i
section
variable {P:Program} {ops:Array Oper} {md:Region.Mode} {Q:Exit→Act→World→Prop}
def anyF (P:Program) (md:Region.Mode) (ops:Array Oper) (Q:Exit→Act→World→Prop) (f:Nat) (S:World→Prop):Nat→Array Bool→Act→World→Prop
 | 0,l,a,w=>Region.ready md ops l=[]∧Q .normal a w
 | n+1,l,a,w=>(Region.ready md ops l=[]→Q .normal a w)∧∀ i ∈ Region.ready md ops l,wpOp P ops Q i (fun a' w'=>((l.setIfInBounds i true).getD f true=false→S w')∧anyF P md ops Q f S n (l.setIfInBounds i true) a' w') a w
theorem anyF_any {f:Nat} {S:World→Prop}:∀ (n:Nat) (l:Array Bool) (a:Act) (w:World),anyF P md ops Q f S n l a w→wpAny P md ops Q n l a w
 | 0,_,_,_,h=>h
 | n+1,_,_,_,h=>⟨h.1,fun i hi=>wpOp_mono (fun a' w' h'=>anyF_any n _ a' w' h'.2) (h.2 i hi)⟩
theorem anyF_less {f:Nat} {S S':World→Prop} (hs:∀ x,S' x→S x):∀ (n:Nat) (l:Array Bool) (a:Act) (w:World),anyF P md ops Q f S' n l a w→anyF P md ops Q f S n l a w
 | 0,_,_,_,h=>h
 | n+1,_,_,_,h=>⟨h.1,fun i hi=>wpOp_mono (fun a' w' h'=>⟨fun hf=>hs _ (h'.1 hf),anyF_less hs n _ a' w' h'.2⟩) (h.2 i hi)⟩
theorem unlisted_waits {l:Array Bool} {i j:Nat} {oj:Oper} (hi:i ∈ Region.ready md ops l) (hj:j ∈ Region.ready md ops l) (hoj:ops[j]?=some oj):∀ e ∈ oj.after,Region.binds md e=true→e.on≠i:=by
 intro e he hb hei
 obtain ⟨h0,-⟩:=mem_ready.1 hi
 obtain ⟨-,o,ho,hall⟩:=mem_ready.1 hj
 rw [hoj] at ho
 cases ho
 have h1:=hall e he hb
 rw [hei] at h1
 rcases Nat.lt_or_ge i l.size with hl | hl
 ·simp [hl] at h0 h1
  rw [h0] at h1
  cases h1
 ·simp [Array.getElem?_eq_none hl] at h1
theorem anyF_take {f i:Nat} {S T:World→Prop} {oi:Oper} {v:Value} (hoi:ops[i]?=some oi) (hsel:∀ (j:Nat) (o:Oper) cs b,ops[j]?=some o→o.op≠.select cs b)
  (hQ:∀ c a w,Q (.panic c) (a.put oi.dst v) w→Q (.panic c) a w) (hif:i≠f) (hT:∀ w,S w→T w) (hw:waitsOn md ops f i=true∨∀ w,T w) :
  ∀ (n:Nat) (l:Array Bool) (a:Act) (w:World),
   (∀ j oj,ops[j]?=some oj→j≠i→l.getD j true=false→(∀ e ∈ oj.after,Region.binds md e=true→e.on≠i)→oi.apart ops oj=true) →
   i ∈ Region.ready md ops l→YieldsIf P ops T oi v a→(l.getD f true=false∨∀ w,T w)→(l.getD f true=false→S w)→anyF P md ops Q f S n (l.setIfInBounds i true) (a.put oi.dst v) w→anyF P md ops Q f S (n+1) l a w:=by
 have keep:∀ (l:Array Bool),(l.setIfInBounds i true).getD f true=l.getD f true:=fun l=>getD_set_ne true hif
 intro n
 induction n with
 | zero=>
  intro l a w _ hr hy hc hS H
  refine ⟨fun h=>absurd hr (by rw [h];simp),fun j hj=>?_⟩
  by_cases e:j=i
  ·subst e
   exact hy.wpOp hoi (hc.elim (fun h=>hT _ (hS h)) (fun h=>h w)) ⟨fun h=>hS (by rwa [keep] at h),H⟩
  ·have h1:=ready_mono hj e
   rw [H.1] at h1
   cases h1
 | succ n ih=>
  intro l a w hfree hr hy hc hS H
  refine ⟨fun h=>absurd hr (by rw [h];simp),fun j hj=>?_⟩
  by_cases e:j=i
  ·subst e
   exact hy.wpOp hoi (hc.elim (fun h=>hT _ (hS h)) (fun h=>h w)) ⟨fun h=>hS (by rwa [keep] at h),H⟩
  ·obtain ⟨hun,oj,hoj,-⟩:=mem_ready.1 hj
   have hno:=unlisted_waits hr hj hoj
   have hc':(l.setIfInBounds j true).getD f true=false∨∀ w,T w:=by
    by_cases hjf:j=f
    ·right
     rcases hw with h | h
     ·exfalso
      unfold waitsOn at h
      rw [← hjf,hoj] at h
      simp only [List.any_eq_true,Bool.and_eq_true,beq_iff_eq] at h
      obtain ⟨e',he',hb,hon⟩:=h
      exact hno e' (by simpa using he') hb hon
     ·exact h
    ·rw [getD_set_ne true hjf]
     exact hc
   have h2:=wpOp_putIf hoj (hfree j oj hoj e hun hno) (fun cs b=>hsel i oi cs b hoi) (fun cs b=>hsel j oj cs b hoj) hQ hy (H.2 j (ready_mono hj e))
   refine wpOp_mono (fun a' w' h3=>?_) h2
   obtain ⟨h4,h5,h6⟩:=h3
   rw [Array.setIfInBounds_comm _ _ (Ne.symm e)] at h5 h6
   rw [keep] at h5
   exact ⟨h5,ih _ a' w' (fun k ok hk hki hunk hnok=>hfree k ok hk hki (by
    by_cases hjk:j=k
    ·subst hjk
     exact hun
    ·rwa [getD_set_ne true hjk] at hunk) hnok) (ready_mono hr (Ne.symm e)) h4 hc' h5 h6⟩
def sched5 (md:Region.Mode) (ops:Array Oper) (f:Nat):List Nat→Array Bool→Bool
 | [],l=>Region.ready md ops l==[f]&&(Region.ready md ops (l.setIfInBounds f true)).isEmpty&&(l.getD f true==false)
 | i::r,l=>
  (match ops[i]? with
  | none=>false
  | some o=>(i != f)&&(l.getD f true==false)&&(if tame2 o then (Region.ready md ops l).contains i&&Region.free md ops l i&&(still o || waitsOn md ops f i) else Region.ready md ops l==[i]))&&sched5 md ops f r (l.setIfInBounds i true)
def RH (P:Program) (ol:List Oper) (Q:Exit→Act→World→Prop) (f:Nat):List Nat→(World→Prop)→Act→World→Prop
 | [],S,a,w=>∃ o,ol[f]?=some o∧Region.wanted o (yielded ol.toArray a.tmps)=true∧o.wp P a w (fun a' w'=>Q .normal a' w') Q
 | i::r,S,a,w=>∃ o,ol[i]?=some o ∧
  if Region.wanted o (yielded ol.toArray a.tmps) then
   if tame2 o then (if still o then o.quiet P a (fun _=>True) (fun a'=>RH P ol Q f r S a' w) else o.quiet P a (fun w'=>∃ p:Wrap S,w'=p.w) (fun a'=>RH P ol Q f r S a' w))
   else o.wp P a w (fun a' w'=>∃ S':World→Prop,(∀ x,S' x→S x)∧S' w'∧RH P ol Q f r S' a' w') Q
  else RH P ol Q f r S (a.put o.dst undef) w
theorem RH.held {ol:List Oper} {f:Nat} (hs:Region.noSelect ol.toArray=true) (hQ:∀ c (a:Act) d v w,Q (.panic c) (a.put d v) w→Q (.panic c) a w) :
  ∀ (r:List Nat) (S:World→Prop) (l:Array Bool) (a:Act) (w:World),S w→sched5 md ol.toArray f r l=true→RH P ol Q f r S a w→anyF P md ol.toArray Q f S (r.length+1) l a w
 | [],S,l,a,w,hS,hB,h=>by
  obtain ⟨o,ho',hw,h⟩:=h
  have ho:ol.toArray[f]?=some o:=by simpa using ho'
  simp only [sched5,Bool.and_eq_true,beq_iff_eq] at hB
  obtain ⟨⟨hB1,hB2⟩,hB3⟩:=hB
  have he:Region.ready md ol.toArray (l.setIfInBounds f true)=[]:=by simpa using hB2
  have hl:(l.setIfInBounds f true).getD f true=true:=by
   rcases Nat.lt_or_ge f l.size with h' | h'
   ·simp [h']
   ·simp [Array.getElem?_eq_none h'] at hB3
  refine ⟨fun h0=>absurd h0 (by rw [hB1];simp),fun i hi=>?_⟩
  rw [hB1] at hi
  obtain rfl:i=f:=by simpa using hi
  unfold wpOp
  simp only [ho]
  rw [if_pos hw]
  refine .inl (Oper.wp_mono (fun a' w' h1=>?_) h)
  refine ⟨fun h0=>?_,he,h1⟩
  rw [hl] at h0
  cases h0
 | i::r,S,l,a,w,hS,hB,h=>by
  obtain ⟨o,ho',h⟩:=h
  have ho:ol.toArray[i]?=some o:=by simpa using ho'
  simp only [sched5,ho,Bool.and_eq_true,bne_iff_ne,beq_iff_eq] at hB
  obtain ⟨⟨⟨hif,hlf⟩,hB1⟩,hB2⟩:=hB
  by_cases ht:tame2 o=true
  ·rw [if_pos ht] at hB1
   simp only [Bool.and_eq_true] at hB1
   obtain ⟨⟨hr,hfr⟩,hst⟩:=hB1
   have hr':i ∈ Region.ready md ol.toArray l:=by simpa using hr
   by_cases hw:Region.wanted o (yielded ol.toArray a.tmps)=true
   ·rw [if_pos hw,if_pos ht] at h
    by_cases hsl:still o=true
    ·rw [if_pos hsl] at h
     obtain ⟨v,hv,hn⟩:=h
     exact anyF_take (T:=fun _=>True) ho (Region.noSelect_spec hs) (fun c a w=>hQ c a o.dst v w) hif (fun _ _=>trivial) (.inr fun _=>trivial) _ _ _ _ (Region.free_spec ho hfr) hr' (Or.inl ⟨hw,fun w' _=>tame2_yields ht (hv w' trivial)⟩) (.inl hlf) (fun _=>hS) (RH.held hs hQ r S _ _ w hS hB2 hn)
    ·rw [if_neg hsl] at h
     obtain ⟨v,hv,hn⟩:=h
     have hwt:waitsOn md ol.toArray f i=true:=by
      rw [Bool.or_eq_true] at hst
      exact hst.resolve_left hsl
     exact anyF_take (T:=S) ho (Region.noSelect_spec hs) (fun c a w=>hQ c a o.dst v w) hif (fun _ h=>h) (.inl hwt) _ _ _ _ (Region.free_spec ho hfr) hr' (Or.inl ⟨hw,fun w' hx=>tame2_yields ht (hv w' ⟨⟨w',hx⟩,rfl⟩)⟩) (.inl hlf) (fun _=>hS) (RH.held hs hQ r S _ _ w hS hB2 hn)
   ·rw [if_neg hw] at h
    exact anyF_take (T:=fun _=>True) ho (Region.noSelect_spec hs) (fun c a w=>hQ c a o.dst undef w) hif (fun _ _=>trivial) (.inr fun _=>trivial) _ _ _ _ (Region.free_spec ho hfr) hr' (Or.inr ⟨by simpa using hw,rfl⟩) (.inl hlf) (fun _=>hS) (RH.held hs hQ r S _ _ w hS hB2 h)
  ·rw [if_neg ht] at hB1
   have hr:Region.ready md ol.toArray l=[i]:=by simpa using hB1
   refine ⟨fun h0=>absurd h0 (by rw [hr];simp),fun j hj=>?_⟩
   rw [hr] at hj
   obtain rfl:j=i:=by simpa using hj
   unfold wpOp
   simp only [ho]
   by_cases hw:Region.wanted o (yielded ol.toArray a.tmps)=true
   ·rw [if_pos hw,if_neg ht] at h
    rw [if_pos hw]
    refine .inl (Oper.wp_mono (fun a' w' h1=>?_) h)
    obtain ⟨S',hsub,hS',h2⟩:=h1
    exact ⟨fun _=>hsub _ hS',anyF_less hsub _ _ _ _ (RH.held hs hQ r S' _ _ w' hS' hB2 h2)⟩
   ·rw [if_neg hw] at h
    rw [if_neg hw]
    exact ⟨fun _=>hS,RH.held hs hQ r S _ _ w hS hB2 h⟩
theorem rh_start {id:Nat} {a:Act} {w:World} {l:List Oper} (sch:List Nat) (f:Nat) (S:World→Prop) (hm:P.follows .mixedOrders=true)
  (hB:(Region.noSelect l.toArray&&(sch.length+1==l.length)&&sched5 .any l.toArray f sch (Array.replicate l.toArray.size false))=true) (hQ:∀ c (a:Act) d v w,Q (.panic c) (a.put d v) w→Q (.panic c) a w)
  (hS:S w.drew) (h:Nonempty (Wrap S)→RH P l Q f sch S a w.drew):(Code.region id l.toArray true).wp P Q a w:=by
 simp only [Bool.and_eq_true,beq_iff_eq] at hB
 refine wp_region_any hm (anyF_any (f:=f) (S:=S) _ _ _ _ ?_)
 have:=RH.held (md:=.any) hB.1.1 hQ sch S _ a w.drew hS hB.2 (h ⟨⟨_,hS⟩⟩)
 rw [hB.1.2] at this
 simpa using this
theorem rh_last {ol:List Oper} {f:Nat} {S:World→Prop} {a:Act} {w:World} {o:Oper} (ho:ol[f]?=some o) (hw:Region.wanted o (yielded ol.toArray a.tmps)=true)
  (h:∀ K:Act→World→Prop,(∀ a' w',Q .normal a' w'→K a' w')→o.wp P a w K Q):RH P ol Q f [] S a w:=⟨o,ho,hw,h _ fun _ _ h=>h⟩
theorem rh_skip {ol:List Oper} {f:Nat} {S:World→Prop} {i:Nat} {r:List Nat} {a:Act} {w:World} {dst:Option Tmp} {op:Op} {ty:TypeId} {pos:String} {aft:Array Edge} {gd:Option (Nat × Bool)} (ho:ol[i]?=some ⟨dst,op,ty,pos,aft,gd⟩) (hw:Region.wanted ⟨dst,op,ty,pos,aft,gd⟩ (yielded ol.toArray a.tmps)=false)
  (h:∀ K:Act→Prop,(∀ a',RH P ol Q f r S a' w→K a')→Oper.quiet P ⟨dst,.move (.const undef),ty,pos,aft,none⟩ a (fun _=>True) K):RH P ol Q f (i::r) S a w:=by
 refine ⟨_,ho,?_⟩
 rw [if_neg (by rw [hw];exact Bool.false_ne_true)]
 obtain ⟨v,hv,hk⟩:=h _ fun _ h=>h
 have h1:=hv w trivial
 unfold Oper.quietAt at h1
 rw [BigFrame.run_move (.const undef) rfl] at h1
 obtain ⟨h2,h3⟩:=h1
 have h3:v=undef:=by
  first
   | exact h3
   | exact h3.symm
 subst h3
 exact hk
theorem rh_quiet {ol:List Oper} {f:Nat} {S:World→Prop} {i:Nat} {r:List Nat} {a:Act} {w:World} {o:Oper} (ho:ol[i]?=some o) (ht:tame2 o=true) (hs:still o=false) (hw:Region.wanted o (yielded ol.toArray a.tmps)=true)
  (h:∀ K:Act→Prop,(∀ a',RH P ol Q f r S a' w→K a')→o.quiet P a (fun w'=>∃ p:Wrap S,w'=p.w) K):RH P ol Q f (i::r) S a w:=
 ⟨o,ho,by rw [if_pos hw,if_pos ht,if_neg (by rw [hs];exact Bool.false_ne_true)];exact h _ fun _ h=>h⟩
theorem rh_still {ol:List Oper} {f:Nat} {S:World→Prop} {i:Nat} {r:List Nat} {a:Act} {w:World} {o:Oper} (ho:ol[i]?=some o) (ht:tame2 o=true) (hs:still o=true) (hw:Region.wanted o (yielded ol.toArray a.tmps)=true)
  (h:∀ K:Act→Prop,(∀ a',RH P ol Q f r S a' w→K a')→o.quiet P a (fun _=>True) K):RH P ol Q f (i::r) S a w:=
 ⟨o,ho,by rw [if_pos hw,if_pos ht,if_pos hs];exact h _ fun _ h=>h⟩
theorem rh_call {ol:List Oper} {f:Nat} {S:World→Prop} {i:Nat} {r:List Nat} {a:Act} {w:World} {o:Oper} (ho:ol[i]?=some o) (ht:tame2 o=false) (hw:Region.wanted o (yielded ol.toArray a.tmps)=true)
  (h:∀ K:Act→World→Prop,(∀ (S':World→Prop) a' w',(∀ x,S' x→S x)→S' w'→(Nonempty (Wrap S')→RH P ol Q f r S' a' w')→K a' w')→o.wp P a w K Q):RH P ol Q f (i::r) S a w:=
 ⟨o,ho,by rw [if_pos hw,if_neg (by rw [ht];exact Bool.false_ne_true)];exact h _ fun S' _ _ h1 h2 h3=>⟨S',h1,h2,h3 ⟨⟨_,h2⟩⟩⟩⟩
end
end
section
variable {P : Program} {ops : Array Oper} {md : Region.Mode} {Q : Exit → Act → World → Prop}
open Go Go.Sort Go.RowKit
theorem hqq {ol : List Oper} {f : Nat} {S : World → Prop} {i : Nat} {r : List Nat} {a : Act} {w : World} {o : Oper} (h : ∀ K : Act → Prop, (∀ a', RH P ol Q f r S a' w → K a') → o.quiet P a (fun w' => ∃ p : Wrap S, w' = p.w) K) (ho : ol[i]? = some o:=by rfl) (ht : tame2 o = true:=by rfl) (hs : still o = false:=by rfl) (hw : Region.wanted o (yielded ol.toArray a.tmps) = true:=by rfl):RH P ol Q f (i :: r) S a w:=rh_quiet ho ht hs hw h
theorem hkk {ol : List Oper} {f : Nat} {S : World → Prop} {i : Nat} {r : List Nat} {a : Act} {w : World} {dst : Option Tmp} {op : Op} {ty : TypeId} {pos : String} {aft : Array Edge} {gd : Option (Nat × Bool)} (h : ∀ K : Act → Prop, (∀ a', RH P ol Q f r S a' w → K a') → Oper.quiet P ⟨dst, .move (.const undef), ty, pos, aft, none⟩ a (fun _ => True) K) (ho : ol[i]? = some ⟨dst, op, ty, pos, aft, gd⟩:=by rfl) (hw : Region.wanted ⟨dst, op, ty, pos, aft, gd⟩ (yielded ol.toArray a.tmps) = false:=by rfl):RH P ol Q f (i :: r) S a w:=rh_skip ho hw h
theorem hcc {ol : List Oper} {f : Nat} {S : World → Prop} {i : Nat} {r : List Nat} {a : Act} {w : World} {o : Oper} (h : ∀ K : Act → World → Prop, (∀ (S' : World → Prop) a' w', (∀ x, S' x → S x) → S' w' → (Nonempty (Wrap S') → RH P ol Q f r S' a' w') → K a' w') → o.wp P a w K Q) (ho : ol[i]? = some o:=by rfl) (ht : tame2 o = false:=by rfl) (hw : Region.wanted o (yielded ol.toArray a.tmps) = true:=by rfl):RH P ol Q f (i :: r) S a w:=rh_call ho ht hw h
theorem hss {ol : List Oper} {f : Nat} {S : World → Prop} {i : Nat} {r : List Nat} {a : Act} {w : World} {o : Oper} (h : ∀ K : Act → Prop, (∀ a', RH P ol Q f r S a' w → K a') → o.quiet P a (fun _ => True) K) (ho : ol[i]? = some o:=by rfl) (ht : tame2 o = true:=by rfl) (hs : still o = true:=by rfl) (hw : Region.wanted o (yielded ol.toArray a.tmps) = true:=by rfl):RH P ol Q f (i :: r) S a w:=rh_still ho ht hs hw h
theorem hll {ol : List Oper} {f : Nat} {S : World → Prop} {a : Act} {w : World} {o : Oper} (h : ∀ K : Act → World → Prop, (∀ a' w', Q .normal a' w' → K a' w') → o.wp P a w K Q) (ho : ol[f]? = some o:=by rfl) (hw : Region.wanted o (yielded ol.toArray a.tmps) = true:=by rfl):RH P ol Q f [] S a w:=rh_last ho hw h
theorem htt {id : Nat} {a : Act} {w : World} {l : List Oper} (sch : List Nat) (f : Nat) (S : World → Prop) (hS : S w.drew) (h : Nonempty (Wrap S) → RH P l Q f sch S a w.drew) (hm : P.follows .mixedOrders = true:=by kernel_rfl) (hB : (Region.noSelect l.toArray && (sch.length + 1 == l.length) && sched5 .any l.toArray f sch (Array.replicate l.toArray.size false)) = true:=by kernel_rfl) (hQ : ∀ c (a : Act) d v w, Q (.panic c) (a.put d v) w → Q (.panic c) a w:=by intro _ _ d _ _ h;cases d <;> exact h):(Code.region id l.toArray true).wp P Q a w:=rh_start sch f S hm hB hQ hS h
end
section
open Go Go.Sort Go.RowKit
theorem oper_appC {P:Program} {w:World} {op:Oper} {a:Act} {K':Act→World→Prop} {Q:Exit→Act→World→Prop} (hgd:op.guard=none) (s x:Operand) (t:TypeId)
  (ho:op.op=.call { callee:=.builtin .append,args:=#[s,x],argTypes:=#[t,t] })
  (E:TypeId) (K bytes:Nat) (z:Value) (ht:P.underlying t=some (.slice E)) (hi:(P.info? E).map (fun i=>(i.zero,i.size,i.bytes))=some (some z,K,bytes)) (hzs:z.cells.size=K) (hK:0<K)
  {o:Ow} {c n cap:Nat} {p:Option Addr} {L:List (List Value)} (hcl:Cl w o) (row:RowC E K w o c p n cap L) (hs:a.eval s=.slice p n cap)
  (B cc:Nat) (r:List Value) (hx:a.eval x=.slice (some ⟨B,0,none⟩) 1 cc) (hr:r.length=K) (hnews:∀ j u,r[j]?=some u→w.cell? ⟨B,j,none⟩=some u) (hone:∀ u ∈ r,u.oneCell'=true)
  (hn:n≤1000000) (hb:bytes≤100000) (h1:c≠1) (C:Nat→Prop) (hC:C c)
  (h:∀ p' cap' o' w',RowC E K w' o' c p' (n+1) cap' (L++[r])→Fm C o o' w w'→K' (a.put op.dst (.slice p' (n+1) cap')) w'):Oper.wp P op a w K' Q:=by
 have h2:=step_appC (ops:=#[]) (F:=True) (P:=P) (w:=w) (Q:=Q) hgd s x t ho E K bytes z ht hi hzs hK hcl row hs B cc r hx hr hnews hone hn hb h1 C hC h
 rwa [if_pos (by simp [Region.wanted,hgd])] at h2
theorem info_qn:(Tryz.prog.info? 200).map (fun i=>(i.zero,i.size,i.bytes))=some (some (.agg #[.int .i64 0,.int .i64 0,.int .i64 0]),3,24):=by kernel_rfl
def decS (s:NdD) (q:QuD):NdD:={ s with q:=some (nextQ q),f:=askP s.f s.ck,ak:=s.ak++[⟨s.id,s.f.nm+1,q.la+1⟩] }
def decO (s:NdD):Option NdD:=
 match foldO addO s.P s with
 | none=>none
 | some s1=>match foldO (otherG (sil1 s1) s1.id s1.n) (idsT.filter (hasT s1.mb)) false with
  | none=>none
  | some true=>propO s1
  | some false=>match s1.q with
   | none=>none
   | some q=>if decide (q.la≤1000000)&&(decide (s1.f.ask.length≤64)&&(decide (s1.f.nm≤1099511620000)&&decide (s1.ak.length<1000))) then
     foldO (otherG (dec2 (q.la+1)) s1.id s1.n) (idsT.filter (hasT s1.mb)) (decS s1 q) else none
variable {w w4:World} {o o4:Ow} {k x wb jd:Nat} {A A':AdD} {s s':NdD}
theorem ndec_any (hcl:Cl w o) (hk:32≤k) (h:NodeP w o k x wb jd A s) (hs:decO s=some s') :
  Calls Tryz.prog 107 #[ptrN x] w fun e w'=>e=.returned (.tuple #[])∧∃ o' A',NodeP w' o' k x wb jd A' s'∧Fm (ndC k) o o' w w':=by
 unfold decO at hs
 split at hs
 case h_1=>cases hs
 rename_i s1 hs1
 have HS:=hI hs
 have HS1:=hI hs1
 have HK:=hI hk
 have A0:=hI (Ext.alloc w (.cells #[ptrN x] 37))
 have XB:=hI (BoxC.loose hcl #[ptrN x] [ptrN x] 37 rfl)
 have H:=hI (h.ext A0.o)
 have M1:=hI (Fm.ext (C:=ndC k) hcl A0.o)
 clear hk hcl h hs hs1
 go_enter Tryz.func107,Tryz.ntmps107
 go_upto_region 1 with fail
 change Code.wp _ _ _ _ (w.alloc (.cells #[ptrN x] 37))
 clear A0
 generalize w.alloc (.cells #[ptrN x] 37)=w1 at *
 generalize w.heap.size=xb at *
 have xb0:=XB.o.box.c 0 _ rfl
 have c13:=H.o.c 13 _ rfl
 go_wp2_with fail
 refine (nlistp_any H.o.q.pn).mono ?_
 rintro e w2 ⟨p2,c2,rfl,o2,x2⟩
 have S2:=hI (SlC.fresh o2 M1.o.cl (Nat.le_refl _))
 replace M1:=hI (M1.o.tr (Fm.ext M1.o.cl x2) (nd0 HK.o))
 replace H:=hI (H.o.ext x2)
 replace XB:=hI (XB.o.ext x2)
 clear o2 x2 xb0 c13
 have hlen:s.P.length≤9223372036854775807:=Nat.le_trans S2.o.sl.le S2.o.sl.max
 go_wp2
 go_loopw [12] (fun i wr=>∃ (j:Nat) (oj:Ow) (Aj:AdD) (sj:NdD),j≤s.P.length∧i=.int .i64 (j:Int)∧NodeP wr oj k x wb jd Aj sj∧BoxC wr oj 0 xb [ptrN x]∧SlC 7 wr oj p2 s.P.length c2 (s.P.map enL)∧foldO addO (s.P.drop j) sj=some s1∧Fm (ndC k) o oj w wr) (fun i _=>s.P.length-(intOf i).toNat)
 case atStart=>exact ⟨0,o,A,s,by omega,rfl,H.o,XB.o,S2.o,HS1.o,M1.o⟩
 case round=>
  obtain ⟨j,oj,Aj,sj,hj,rfl,nj,xj,slj,fj,mj⟩:=hrel
  have NJ:=hI nj
  have XJ:=hI xj
  have SJ:=hI slj
  have FJ:=hI fj
  have MJ:=hI mj
  clear nj xj slj fj mj H XB S2 M1 HS1
  by_cases hlt:j<s.P.length
  ·obtain ⟨b,oo,e,hp,hx,c0,c1,c2',c3,c4,c5,c6⟩:=en_at SJ.o.sl j hlt
   have hdrop:s.P.drop j=e::s.P.drop (j+1):=by
    rw [List.drop_eq_getElem_cons hlt]
    congr 1
    rw [List.getElem?_eq_getElem hlt] at hx
    exact Option.some.inj hx
   obtain ⟨sk,hsk,hrk⟩:=foldO_cons (by rw [← hdrop];exact FJ.o)
   have HSK:=hI hsk
   have HRK:=hI hrk
   clear hsk hrk hdrop hx FJ
   subst hp
   obtain ⟨f1,f2,f3,f4,f5,f6,dat⟩:=e
   simp only at c0 c1 c2' c3 c4 c5 c6
   go_upto_region 4 with fail
   change Code.wp _ _ _ _ (wr.alloc (.cells (enA ⟨f1,f2,f3,f4,f5,f6,dat⟩) 71))
   have EB:=hI (EnBox.new wr ⟨f1,f2,f3,f4,f5,f6,dat⟩ 71)
   have A1:=hI (Ext.alloc wr (.cells (enA ⟨f1,f2,f3,f4,f5,f6,dat⟩) 71))
   replace NJ:=hI (NJ.o.ext A1.o)
   replace XJ:=hI (XJ.o.ext A1.o)
   replace SJ:=hI (SJ.o.ext A1.o)
   replace MJ:=hI (MJ.o.tr (Fm.ext MJ.o.cl A1.o) (nd0 HK.o))
   clear A1 c0 c1 c2' c3 c4 c5 c6
   generalize wr.alloc (.cells (enA ⟨f1,f2,f3,f4,f5,f6,dat⟩) 71)=w5 at *
   generalize wr.heap.size=eb at *
   have ⟨d0,d1,d2,d3,d4,d5,d6⟩:=EB.o
   simp only at d0 d1 d2 d3 d4 d5 d6
   have xb0:=XJ.o.box.c 0 _ rfl
   go_wp2_with fail
   refine (nadd_any (e:=⟨f1,f2,f3,f4,f5,f6,dat⟩) MJ.o.cl HK.o NJ.o HSK.o).mono ?_
   rintro e w6 ⟨rfl,o6,A6,n6,m6⟩
   have N6:=hI n6
   have X6:=hI (XJ.o.fr m6 (by decide) (nd0 HK.o))
   have S6:=hI (SJ.o.fr m6 (nd0 HK.o))
   have M6:=hI (MJ.o.tr m6 (nd0 HK.o))
   clear n6 m6
   go_wp2
   go_roundw
   case rel=>exact ⟨j+1,o6,A6,sk,by omega,by go_num,N6.o,X6.o,S6.o,HRK.o,M6.o⟩
   case measure=>simp [intOf];omega
  ·have e2:sj=s1:=by
    have:=FJ.o
    rw [List.drop_of_length_le (by omega)] at this
    exact Option.some.inj this
   subst e2
   go_upto_region 7 with fail
   change Code.wp _ _ _ _ (wr.alloc (.cells #[.bool false] 4))
   have F0:Hid (Fm (fun _=>False) oj (dye oj wr.heap.size (k+19)) wr (wr.alloc (.cells #[.bool false] 4))):=hI (Fm.made MJ.o.cl _ _)
   have SB:=hI (BoxC.made wr oj (k+19) #[.bool false] [.bool false] 4 rfl)
   replace NJ:=hI (NJ.o.fr HK.o F0.o (fun e=>e) (fun d e=>e.elim))
   replace XJ:=hI (XJ.o.fr F0.o (by decide) (fun e=>e))
   replace MJ:=hI (MJ.o.tr (F0.o.mono (fun d e=>e.elim)) (nd0 HK.o))
   clear F0 SJ
   generalize wr.alloc (.cells #[.bool false] 4)=w7 at *
   generalize wr.heap.size=sb at *
   generalize dye oj sb (k+19)=o7 at *
   have HSX:=HS.o
   cases hsil:foldO (otherG (sil1 sj) sj.id sj.n) (idsT.filter (hasT sj.mb)) false with
   | none=>rw [hsil] at HSX;cases HSX
   | some bb=>
   rw [hsil] at HSX
   have HSIL:=hI hsil
   have HSB:=hI HSX
   clear HSX hsil HS
   obtain ⟨W8,hW⟩:∃ W8,W8=w7.drew:=⟨_,rfl⟩
   have X8:Hid (Ext w7 W8):=hI (by rw [hW];exact Ext.drew w7)
   replace NJ:=hI (NJ.o.ext X8.o)
   replace XJ:=hI (XJ.o.ext X8.o)
   replace SB:=hI (SB.o.ext X8.o)
   have gb:=fun d os=>Ext.cell (Ext.reg W8 d os) (XJ.o.box.c 0 _ rfl)
   have g12:=NJ.o.g 12 _ rfl
   refine att [0,1,2,3,4,5] [6] ?_
   rw [← hW]
   clear hW
   repeat ((first|refine aqq fun K hK=>?_|refine akk fun K hK=>?_);go_big_quiet_op;refine hK _ ?_;clear hK K)
   have M8:=hI (MJ.o.tr (Fm.ext MJ.o.cl X8.o) (nd0 HK.o))
   clear MJ X8
   refine acc fun K hK=>?_
   go_simp
   refine hK _ _ (Ext.rfl' _) ?_;clear hK K
   refine ra_nil ?_
   refine too fun K hK=>?_
   go_simp
   have h19:¬ one (k+19) 0:=by unfold one;omega
   refine (others2 (kf:=141) (a:=ptrN sb) (b:=ptrN xb) (R:=fun b1 w1 o1=>NodeP w1 o1 k x wb jd Aj sj∧BoxC w1 o1 0 xb [ptrN x]∧BoxC w1 o1 (k+19) sb [.bool b1]) (F:=sil1 sj) (C:=one (k+19)) h19 NJ.o.ok.mb (enter_of Tryz.func141 (by kernel_rfl) (by kernel_rfl)) (fun b1 w1 o1 h=>⟨h.1.c 0 _ rfl,h.1.c 1 _ rfl⟩) (fun b1 w1 w2 o1 h e=>⟨h.1.ext e,h.2.1.ext e,h.2.2.ext e⟩) (fun b1 b2 w1 o1 i hi hti hne hle hR hcl hFi=>sil1_any HK.o hcl hR.1 hR.2.1 hR.2.2 hi hFi) M8.o.cl ⟨NJ.o,XJ.o,SB.o⟩ HSIL.o).mono ?_
   rintro e w9 ⟨rfl,o9,⟨n9,x9,b9⟩,m9⟩
   have N9:=hI n9
   have X9:=hI x9
   have B9:=hI b9
   have M9:=hI (M8.o.tr (m9.mono (fun d hd=>by unfold one at hd;unfold ndC;omega)) (nd0 HK.o))
   clear n9 x9 b9 m9 h19 gb g12 NJ XJ SB M8
   refine hK _ _ ?_
   clear hK K
   refine rt_nil ?_
   have sb0:=B9.o.box.c 0 _ rfl
   have xb0:=X9.o.box.c 0 _ rfl
   cases bb
   ·have HD:=HSB.o
    simp only at HD
    cases hq:sj.q with
    | none=>rw [hq] at HD;cases HD
    | some q=>
    rw [hq] at HD
    simp only at HD
    split at HD
    case isFalse=>cases HD
    rename_i hcc
    simp only [Bool.and_eq_true,decide_eq_true_eq] at hcc
    have HDD:=hI HD
    have CC:=hI hcc
    have HQ:=hI hq
    clear HD hcc hq HSB
    obtain ⟨qg,hqg,hQV⟩:∃ qg,Aj.q=some qg∧QuV w9 o9 (k+14) qg q:=by
     have:=N9.o.q.qu
     rw [HQ.o] at this
     exact this
    have QV:=hI hQV
    have HQG:=hI hqg
    clear hQV hqg
    have c21:w9.cell? ⟨x,21,none⟩=some (ptrN qg):=by
     have:=N9.o.c 21 _ rfl
     rw [HQG.o] at this
     exact this
    go_wp2_with fail
    refine (qnext_any M9.o.cl QV.o (by have:=HK.o;omega) CC.o.1).mono ?_
    rintro e w10 ⟨rfl,qv10,m10⟩
    obtain ⟨N10,F10⟩:=NodeP.mod0 (A':=Aj) (s':={ sj with q:=some (nextQ q) }) HK.o N9.o m10 (fun d hd=>by unfold one at hd;unfold ndC;omega) (N9.o.q.set_qu HK.o ⟨qg,HQG.o,qv10⟩ m10 (fun d hd=>.inl hd)) rfl { N9.o.ok with id:=N9.o.ok.id }
    have H10:=hI N10
    have X10:=hI (X9.o.fr m10 (by decide) (by unfold one;have:=HK.o;omega))
    have M10:=hI (M9.o.tr F10 (nd0 HK.o))
    clear qv10 m10 N10 F10 N9 X9 B9 M9 sb0 xb0 c21 QV
    go_upto_region 11 with fail
    change Code.wp _ _ _ _ (w10.alloc (.cells #[.int .i64 (q.la+1)] 2))
    have A1:=hI (Ext.alloc w10 (.cells #[.int .i64 (q.la+1)] 2))
    have PB:=hI (BoxC.loose M10.o.cl #[.int .i64 (q.la+1)] [.int .i64 (q.la+1)] 2 rfl)
    replace H10:=hI (H10.o.ext A1.o)
    replace X10:=hI (X10.o.ext A1.o)
    replace M10:=hI (M10.o.tr (Fm.ext M10.o.cl A1.o) (nd0 HK.o))
    clear A1
    generalize w10.alloc (.cells #[.int .i64 (q.la+1)] 2)=w11 at *
    generalize w10.heap.size=pb at *
    obtain ⟨s10,hs10⟩:∃ s10:NdD,s10={ sj with q:=some (nextQ q) }:=⟨_,rfl⟩
    rw [← hs10] at H10
    have HS10:=hI hs10
    have E10:Hid (s10.f=sj.f∧s10.id=sj.id∧s10.ck=sj.ck∧s10.ak=sj.ak∧s10.n=sj.n∧s10.mb=sj.mb):=hI (by rw [hs10];exact ⟨rfl,rfl,rfl,rfl,rfl,rfl⟩)
    clear hs10
    obtain ⟨W11,hW⟩:∃ W11,W11=w11.drew:=⟨_,rfl⟩
    have X11:Hid (Ext w11 W11):=hI (by rw [hW];exact Ext.drew w11)
    replace H10:=hI (H10.o.ext X11.o)
    replace X10:=hI (X10.o.ext X11.o)
    replace PB:=hI (PB.o.ext X11.o)
    have rb:=fun (qq:Wrap (CL [(⟨xb,0,none⟩,ptrN x),(⟨x,32,none⟩,.slice Aj.ap s10.ak.length Aj.ac),(⟨x,0,none⟩,.int .i64 s10.id),(⟨x,16,none⟩,ptrN Aj.f),(⟨x,4,none⟩,.int .i64 s10.ck),(⟨pb,0,none⟩,.int .i64 (q.la+1))]))=>(qq.h.1:qq.w.cell? ⟨xb,0,none⟩=some (ptrN x))
    have r32:=fun (qq:Wrap (CL [(⟨xb,0,none⟩,ptrN x),(⟨x,32,none⟩,.slice Aj.ap s10.ak.length Aj.ac),(⟨x,0,none⟩,.int .i64 s10.id),(⟨x,16,none⟩,ptrN Aj.f),(⟨x,4,none⟩,.int .i64 s10.ck),(⟨pb,0,none⟩,.int .i64 (q.la+1))]))=>(qq.h.2.1:qq.w.cell? ⟨x,32,none⟩=some (.slice Aj.ap s10.ak.length Aj.ac))
    have r0:=fun (qq:Wrap (CL [(⟨xb,0,none⟩,ptrN x),(⟨x,32,none⟩,.slice Aj.ap s10.ak.length Aj.ac),(⟨x,0,none⟩,.int .i64 s10.id),(⟨x,16,none⟩,ptrN Aj.f),(⟨x,4,none⟩,.int .i64 s10.ck),(⟨pb,0,none⟩,.int .i64 (q.la+1))]))=>(qq.h.2.2.1:qq.w.cell? ⟨x,0,none⟩=some (.int .i64 s10.id))
    have r16:=fun (qq:Wrap (CL [(⟨xb,0,none⟩,ptrN x),(⟨x,32,none⟩,.slice Aj.ap s10.ak.length Aj.ac),(⟨x,0,none⟩,.int .i64 s10.id),(⟨x,16,none⟩,ptrN Aj.f),(⟨x,4,none⟩,.int .i64 s10.ck),(⟨pb,0,none⟩,.int .i64 (q.la+1))]))=>(qq.h.2.2.2.1:qq.w.cell? ⟨x,16,none⟩=some (ptrN Aj.f))
    have r4:=fun (qq:Wrap (CL [(⟨xb,0,none⟩,ptrN x),(⟨x,32,none⟩,.slice Aj.ap s10.ak.length Aj.ac),(⟨x,0,none⟩,.int .i64 s10.id),(⟨x,16,none⟩,ptrN Aj.f),(⟨x,4,none⟩,.int .i64 s10.ck),(⟨pb,0,none⟩,.int .i64 (q.la+1))]))=>(qq.h.2.2.2.2.1:qq.w.cell? ⟨x,4,none⟩=some (.int .i64 s10.ck))
    have rp:=fun (qq:Wrap (CL [(⟨xb,0,none⟩,ptrN x),(⟨x,32,none⟩,.slice Aj.ap s10.ak.length Aj.ac),(⟨x,0,none⟩,.int .i64 s10.id),(⟨x,16,none⟩,ptrN Aj.f),(⟨x,4,none⟩,.int .i64 s10.ck),(⟨pb,0,none⟩,.int .i64 (q.la+1))]))=>(qq.h.2.2.2.2.2.1:qq.w.cell? ⟨pb,0,none⟩=some (.int .i64 (q.la+1)))
    refine htt [0,1,2,3,4,5,6,7,8,9,10,11,12,13,14,15,16,18,17,19,20,21,22,23] 24 (CL [(⟨xb,0,none⟩,ptrN x),(⟨x,32,none⟩,.slice Aj.ap s10.ak.length Aj.ac),(⟨x,0,none⟩,.int .i64 s10.id),(⟨x,16,none⟩,ptrN Aj.f),(⟨x,4,none⟩,.int .i64 s10.ck),(⟨pb,0,none⟩,.int .i64 (q.la+1))]) (by rw [← hW];exact ⟨X10.o.box.c 0 _ rfl,H10.o.c 32 _ rfl,H10.o.c 0 _ rfl,H10.o.c 16 _ rfl,H10.o.c 4 _ rfl,PB.o.box.c 0 _ rfl,trivial⟩) (fun _=>?_)
    rw [← hW]
    clear hW
    repeat ((first|refine hqq fun K hK=>?_;go_big_quiet_op|refine hss fun K hK=>?_;go_big_quiet_op|refine hkk fun K hK=>?_;go_big_quiet_op);refine hK _ ?_;clear hK K)
    have M11:=hI (M10.o.tr (Fm.ext M10.o.cl X11.o) (nd0 HK.o))
    clear M10 X11
    refine hcc fun K hK=>?_
    go_simp
    refine (pask_any M11.o.cl H10.o.q.pf (by have:=HK.o;omega) ⟨H10.o.ok.f.1,by have:=H10.o.ok.f.2;omega⟩ (by rw [E10.o.1];exact CC.o.2.1)).mono ?_
    rintro e w12 ⟨o12,rfl,pf12,m12⟩
    obtain ⟨N12,F12⟩:=NodeP.mod0 (A':=Aj) (s':={ s10 with f:=askP s10.f s10.ck }) HK.o H10.o m12 (fun d hd=>by unfold two at hd;unfold ndC;omega) (H10.o.q.set_pf HK.o pf12 m12 (fun d hd=>by unfold two at hd;omega)) rfl { H10.o.ok with f:=(by have h1:=H10.o.ok.f;have h2:=CC.o.2.2.1;rw [← E10.o.1] at h2;exact ⟨show 0≤s10.f.nm+1 by omega,show s10.f.nm+1≤1099511626776 by omega⟩) }
    have H12:=hI N12
    have X12:=hI (X10.o.fr m12 (by decide) (by unfold two;have:=HK.o;omega))
    have P12:=hI (PB.o.fr m12 (by decide) (by unfold two;have:=HK.o;omega))
    have M12:=hI (M11.o.tr F12 (nd0 HK.o))
    clear pf12 m12 N12 F12 H10 X10 PB M11
    refine hK (CL [(⟨xb,0,none⟩,ptrN x),(⟨x,32,none⟩,.slice Aj.ap s10.ak.length Aj.ac),(⟨x,0,none⟩,.int .i64 s10.id),(⟨x,16,none⟩,ptrN Aj.f),(⟨x,4,none⟩,.int .i64 s10.ck),(⟨pb,0,none⟩,.int .i64 (q.la+1))]) _ _ (fun _ h=>h) ⟨X12.o.box.c 0 _ rfl,H12.o.c 32 _ rfl,H12.o.c 0 _ rfl,H12.o.c 16 _ rfl,H12.o.c 4 _ rfl,P12.o.box.c 0 _ rfl,trivial⟩ (fun _=>?_)
    clear hK K
    repeat ((first|refine hqq fun K hK=>?_;go_big_quiet_op|refine hss fun K hK=>?_;go_big_quiet_op|refine hkk fun K hK=>?_;go_big_quiet_op);refine hK _ ?_;clear hK K)
    refine hcc fun K hK=>?_
    go_simp
    refine hK (CL [(⟨xb,0,none⟩,ptrN x),(⟨x,32,none⟩,.slice Aj.ap s10.ak.length Aj.ac),(⟨x,0,none⟩,.int .i64 s10.id),(⟨x,16,none⟩,ptrN Aj.f),(⟨x,4,none⟩,.int .i64 s10.ck),(⟨pb,0,none⟩,.int .i64 (q.la+1))]) _ _ (fun _ h=>h) ⟨X12.o.box.c 0 _ rfl,H12.o.c 32 _ rfl,H12.o.c 0 _ rfl,H12.o.c 16 _ rfl,H12.o.c 4 _ rfl,P12.o.box.c 0 _ rfl,trivial⟩ (fun _=>?_)
    clear hK K
    repeat ((first|refine hqq fun K hK=>?_;go_big_quiet_op|refine hss fun K hK=>?_;go_big_quiet_op|refine hkk fun K hK=>?_;go_big_quiet_op);refine hK _ ?_;clear hK K)
    refine hcc fun K hK=>?_
    go_simp
    have A13:=hI (Ext.alloc w12 (.cells #[.int .i64 s10.id,.int .i64 (s10.f.nm+1),.int .i64 (q.la+1)] 200))
    replace H12:=hI (H12.o.ext A13.o)
    replace X12:=hI (X12.o.ext A13.o)
    replace P12:=hI (P12.o.ext A13.o)
    replace M12:=hI (M12.o.tr (Fm.ext M12.o.cl A13.o) (nd0 HK.o))
    refine hK (CL [(⟨xb,0,none⟩,ptrN x),(⟨x,32,none⟩,.slice Aj.ap s10.ak.length Aj.ac),(⟨x,0,none⟩,.int .i64 s10.id),(⟨x,16,none⟩,ptrN Aj.f),(⟨x,4,none⟩,.int .i64 s10.ck),(⟨pb,0,none⟩,.int .i64 (q.la+1))]) _ _ (fun _ h=>h) ⟨X12.o.box.c 0 _ rfl,H12.o.c 32 _ rfl,H12.o.c 0 _ rfl,H12.o.c 16 _ rfl,H12.o.c 4 _ rfl,P12.o.box.c 0 _ rfl,trivial⟩ (fun _=>?_)
    clear hK K
    repeat ((first|refine hqq fun K hK=>?_;go_big_quiet_op|refine hss fun K hK=>?_;go_big_quiet_op|refine hkk fun K hK=>?_;go_big_quiet_op);refine hK _ ?_;clear hK K)
    have hl6:s10.ak.length≤1000000:=by have:=CC.o.2.2.2;rw [E10.o.2.2.2.1];omega
    refine hcc fun K hK=>?_
    refine oper_appC (by rfl) _ _ _ (by rfl) 200 3 24 _ Tryz.underlying97 info_qn (by rfl) (by omega) M12.o.cl H12.o.q.aks (by rfl) w12.heap.size 1 (qnL ⟨s10.id,s10.f.nm+1,q.la+1⟩) (by rfl) (by rfl) (fun j u hu=>news_at (w:=w12) rfl j u hu) (by simp [Value.oneCell']) hl6 (by omega) (by have:=HK.o;omega) (fun d=>d=k+15) rfl ?_
    intro p14 c14 o14 w14 r14 f14
    have X14:=hI (X12.o.fr f14 (by decide) (by have:=HK.o;omega))
    have P14:=hI (P12.o.fr f14 (by decide) (by have:=HK.o;omega))
    have B14:=hI (H12.o.box.fr f14 (by have:=HK.o;omega) (by omega))
    have b32:=B14.o.box.c 32 _ rfl
    have f32:=B14.o.box.f 32
    have e15:(s10.ak++[(⟨s10.id,s10.f.nm+1,q.la+1⟩:QnD)]).length=s10.ak.length+1:=by simp
    obtain ⟨N15,F15⟩:=NodeP.mod (A':={ Aj with ap:=p14,ac:=c14 }) (s':={ s10 with f:=askP s10.f s10.ck,ak:=s10.ak++[⟨s10.id,s10.f.nm+1,q.la+1⟩] }) HK.o H12.o f14 (fun d hd=>by unfold ndC;omega) (H12.o.q.set_aks HK.o (by rw [e15];have:=r14;simpa using this) f14 (fun d hd=>.inl hd)) 32 (.slice p14 (s10.ak.length+1) c14) (by rw [← e15];rfl) { H12.o.ok with ak:=(by rw [e15];have:=CC.o.2.2.2;rw [E10.o.2.2.2.1];omega) }
    have H15:=hI N15
    have M15:=hI (M12.o.tr F15 (nd0 HK.o))
    have P32:=hI (Fm.put (C:=one k) f14.cl B14.o (by have:=HK.o;omega) rfl 32 (.slice p14 (s10.ak.length+1) c14))
    have X15:=hI (X14.o.fr P32.o (by decide) (by unfold one;have:=HK.o;omega))
    have P15:=hI (P14.o.fr P32.o (by decide) (by unfold one;have:=HK.o;omega))
    refine hK (CL [(⟨xb,0,none⟩,ptrN x),(⟨x,32,none⟩,.slice Aj.ap s10.ak.length Aj.ac),(⟨x,0,none⟩,.int .i64 s10.id),(⟨x,16,none⟩,ptrN Aj.f),(⟨x,4,none⟩,.int .i64 s10.ck),(⟨pb,0,none⟩,.int .i64 (q.la+1))]) _ _ (fun _ h=>h) ⟨X14.o.box.c 0 _ rfl,B14.o.box.c 32 _ rfl,B14.o.box.c 0 _ rfl,B14.o.box.c 16 _ rfl,B14.o.box.c 4 _ rfl,P14.o.box.c 0 _ rfl,trivial⟩ (fun _=>?_)
    clear hK K
    go_simp
    repeat ((first|refine hqq fun K hK=>?_;go_big_quiet_op|refine hss fun K hK=>?_;go_big_quiet_op|refine hkk fun K hK=>?_;go_big_quiet_op);refine hK _ ?_;clear hK K)
    refine hll fun K hK=>?_
    go_simp
    refine hK _ _ ?_
    clear hK K b32 f32 e15 N15 F15 r14 f14 H12 X12 P12 M12 X14 P14 B14 P32 rb r32 r0 r16 r4 rp A13
    generalize w14.setCell ⟨x,32,none⟩ (.slice p14 (s10.ak.length+1) c14)=w15 at *
    have e16:({ s10 with f:=askP s10.f s10.ck,ak:=s10.ak++[⟨s10.id,s10.f.nm+1,q.la+1⟩] }:NdD)=decS sj q:=by rw [HS10.o];rfl
    rw [e16] at H15
    clear e16
    go_upto_region 12 with fail
    obtain ⟨W16,hW⟩:∃ W16,W16=w15.drew:=⟨_,rfl⟩
    have X16:Hid (Ext w15 W16):=hI (by rw [hW];exact Ext.drew w15)
    replace H15:=hI (H15.o.ext X16.o)
    replace X15:=hI (X15.o.ext X16.o)
    replace P15:=hI (P15.o.ext X16.o)
    have gb:=fun d os=>Ext.cell (Ext.reg W16 d os) (X15.o.box.c 0 _ rfl)
    have g12:∀ d os,(grow (redrawn W16 d) os).cell? ⟨x,12,none⟩=some (.int .i64 sj.mb):=H15.o.g 12 _ rfl
    refine att [0,1,2,3,4,5] [6] ?_
    rw [← hW]
    clear hW
    repeat ((first|refine aqq fun K hK=>?_|refine akk fun K hK=>?_);go_big_quiet_op;refine hK _ ?_;clear hK K)
    have M16:=hI (M15.o.tr (Fm.ext M15.o.cl X16.o) (nd0 HK.o))
    clear M15 X16
    refine acc fun K hK=>?_
    go_simp
    refine hK _ _ (Ext.rfl' _) ?_;clear hK K
    refine ra_nil ?_
    refine too fun K hK=>?_
    go_simp
    refine (others2 (kf:=144) (a:=ptrN xb) (b:=ptrN pb) (R:=fun s1 w1 o1=>EnvP w1 o1 k x wb jd xb sj.id sj.n s1∧BoxC w1 o1 0 pb [.int .i64 (q.la+1)]) (F:=dec2 (q.la+1)) (C:=ndC k) (nd0 HK.o) (show isT sj.mb from H15.o.ok.mb) (enter_of Tryz.func144 (by kernel_rfl) (by kernel_rfl)) (fun s1 w1 o1 h=>h.1.cells) (fun s1 w1 w2 o1 h e=>⟨h.1.ext e,h.2.ext e⟩) (fun s1 s2 w1 o1 i hi hti hne hle hR hcl hFi=>dec2_any HK.o hcl hR.1 hR.2 hi hFi) M16.o.cl ⟨⟨⟨_,H15.o⟩,X15.o,rfl,rfl⟩,P15.o⟩ HDD.o).mono ?_
    rintro e w18 ⟨rfl,o18,⟨env,bx⟩,m18⟩
    obtain ⟨A18,n18⟩:=env.nd
    have N18:=hI n18
    have M18:=hI (M16.o.tr m18 (nd0 HK.o))
    clear env bx m18 n18
    refine hK _ _ ?_
    clear hK K
    refine rt_nil ?_
    refine bodyPost_end (v:=.tuple #[]) (by simp [results,Tryz.results107,go_sem]) rfl ?_
    exact ⟨rfl,o18,A18,N18.o,M18.o⟩
   ·have HD:Hid (propO sj=some s'):=hI HSB.o
    go_wp2_with fail
    refine (nprop_any M9.o.cl HK.o N9.o HD.o).mono ?_
    rintro e w18 ⟨rfl,o18,A18,n18,m18⟩
    have N18:=hI n18
    have M18:=hI (M9.o.tr m18 (nd0 HK.o))
    clear m18 n18
    go_wp2
    refine bodyPost_ret (v:=.tuple #[]) (by simp [results,Tryz.results107,go_sem]) rfl ?_
    exact ⟨rfl,o18,A18,N18.o,M18.o⟩
end
end Go.Proofs.YtjhbmbbmjaabcaaGreat
