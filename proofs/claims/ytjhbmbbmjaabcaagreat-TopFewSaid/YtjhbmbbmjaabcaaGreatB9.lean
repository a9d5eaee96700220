/-
  A message that is lost. Conditions stand at each.
-/
import Derived.Test.YtjhbmbbmjaabcaaGreatB8
set_option linter.unusedVariables false
set_option maxRecDepth 8000
set_option maxHeartbeats 8000000
namespace Go.Proofs.YtjhbmbbmjaabcaaGreat
open Go Go.Sort Go.RowKit
section
variable {w w4:World} {o o4:Ow} {wb g:Nat} {W W':WrD}
theorem wmailD_any (hcl:Cl w o) (h:WrV w o wb g W) {a od lv:Int} {da:ByteArray} {k:Nat} (hs:mailW true k W=some W') :
  Calls Tryz.prog 65 #[ptrN wb,stV 4 a (k:Int) od lv da] w fun e w'=>e=.returned (.int .i64 0)∧∃ o',WrV w' o' wb g W'∧Fm wrC o o' w w':=by
 unfold mailW at hs
 cases hx:W.ns[k]? with
 | none=>rw [hx] at hs;cases hs
 | some x=>
 rw [hx] at hs
 simp only at hs
 have HXK:=hI hx
 have HS:=hI hs
 have H:=hI h
 have HC:=hI hcl
 have f5:((4:Int) != 5)=true:=rfl
 have f4:((4:Int) != 4)=false:=rfl
 clear hcl h hs hx
 go_enter Tryz.func65,Tryz.ntmps65
 go_upto_region 1 with fail
 change Code.wp _ _ _ _ (w.alloc (.cells (stA 4 a (k:Int) od lv da) 28))
 have A0:=hI (Ext.alloc w (.cells (stA 4 a (k:Int) od lv da) 28))
 have SB:=hI (BoxC.loose HC.o (stA 4 a (k:Int) od lv da) (stL 4 a (k:Int) od lv da) 28 rfl)
 replace H:=hI (H.o.ext A0.o)
 have M1:=hI (Fm.ext (C:=wrC) HC.o A0.o)
 clear A0 HC
 generalize w.alloc (.cells (stA 4 a (k:Int) od lv da) 28)=w1 at *
 generalize w.heap.size=sb at *
 obtain ⟨W2,hW⟩:∃ W2,W2=w1.drew:=⟨_,rfl⟩
 have X2:Hid (Ext w1 W2):=hI (by rw [hW];exact Ext.drew w1)
 replace H:=hI (H.o.ext X2.o)
 replace SB:=hI (SB.o.ext X2.o)
 have g33:=fun d os=>Ext.cell (Ext.reg W2 d os) H.o.c33
 have gs2:=fun d os=>Ext.cell (Ext.reg W2 d os) (SB.o.box.c 2 _ rfl)
 refine ra_start [0,1,2,3,4,5,6,7,8,9,10,11] [] (by kernel_rfl) (by kernel_rfl) (fun _ _ d _ _ h=>by cases d <;> exact h) ?_
 rw [← hW]
 clear hW
 repeat ((first|refine ra_quiet rfl (by rfl) (by rfl) fun K hK=>?_|refine ra_skip rfl (by rfl) fun K hK=>?_);go_big_quiet_op;refine hK _ ?_;clear hK K)
 refine ra_call rfl (by rfl) (by rfl) (fun K hK=>?_)
 go_simp
 refine (wlook2 H.o.net HXK.o).mono ?_
 rintro e w3 ⟨pb,nb,cb,rfl,ob,hnb,x3⟩
 have B3:=hI ob
 have HNB:=hI hnb
 have HB0:Hid (∀ i,pb.map (·.block)=some i→o i=0):=hI (fun i hi=>(M1.o.cl.ext X2.o) i ((ob.lt i hi).1))
 have H3:=hI (H.o.ext x3)
 have SB3:=hI (SB.o.ext x3)
 have M3:=hI (M1.o.tr (Fm.ext M1.o.cl (X2.o.tr x3)) wr0)
 refine hK _ _ x3 ?_
 clear hK K x3 ob hnb H SB M1 X2 g33 gs2
 repeat ((first|refine ra_quiet rfl (by rfl) (by rfl) fun K hK=>?_|refine ra_skip rfl (by rfl) fun K hK=>?_);go_big_quiet_op;refine hK _ ?_;clear hK K)
 refine ra_nil ?_
 refine rt_nil ?_
 go_upto_region 4 with fail
 obtain ⟨W4,hW⟩:∃ W4,W4=w3.drew:=⟨_,rfl⟩
 have X4:Hid (Ext w3 W4):=hI (by rw [hW];exact Ext.drew w3)
 replace H3:=hI (H3.o.ext X4.o)
 replace SB3:=hI (SB3.o.ext X4.o)
 replace B3:=hI (B3.o.ext X4.o)
 have g33:=fun d os=>Ext.cell (Ext.reg W4 d os) H3.o.c33
 have gs2:=fun d os=>Ext.cell (Ext.reg W4 d os) (SB3.o.box.c 2 _ rfl)
 refine ra_start [0,1,2,3,4,5,6,7] [] (by kernel_rfl) (by kernel_rfl) (fun _ _ d _ _ h=>by cases d <;> exact h) ?_
 rw [← hW]
 clear hW
 repeat ((first|refine ra_quiet rfl (by rfl) (by rfl) fun K hK=>?_|refine ra_skip rfl (by rfl) fun K hK=>?_);go_big_quiet_op;refine hK _ ?_;clear hK K)
 refine ra_call rfl (by rfl) (by rfl) (fun K hK=>?_)
 go_simp
 refine (wto2 H3.o.net HXK.o).mono ?_
 rintro e w5 ⟨rfl,rfl⟩
 refine hK _ _ (Ext.rfl' _) ?_;clear hK K
 repeat ((first|refine ra_quiet rfl (by rfl) (by rfl) fun K hK=>?_|refine ra_skip rfl (by rfl) fun K hK=>?_);go_big_quiet_op;refine hK _ ?_;clear hK K)
 refine ra_nil ?_
 refine rt_nil ?_
 have M4:=hI (M3.o.tr (Fm.ext M3.o.cl X4.o) wr0)
 clear X4 M3 g33 gs2
 have d0:=SB3.o.box.c 0 _ rfl
 go_upto_region 6 with fail
 clear d0
 obtain ⟨W6,hW⟩:∃ W6,W6=W4.drew:=⟨_,rfl⟩
 have X6:Hid (Ext W4 W6):=hI (by rw [hW];exact Ext.drew W4)
 replace H3:=hI (H3.o.ext X6.o)
 replace SB3:=hI (SB3.o.ext X6.o)
 replace B3:=hI (B3.o.ext X6.o)
 have g33:=fun d os=>Ext.cell (Ext.reg W6 d os) H3.o.c33
 have gs2:=fun d os=>Ext.cell (Ext.reg W6 d os) (SB3.o.box.c 2 _ rfl)
 refine ra_start [0,1,2,3,4,5] [6] (by kernel_rfl) (by kernel_rfl) (fun _ _ d _ _ h=>by cases d <;> exact h) ?_
 rw [← hW]
 clear hW
 repeat ((first|refine ra_quiet rfl (by rfl) (by rfl) fun K hK=>?_|refine ra_skip rfl (by rfl) fun K hK=>?_);go_big_quiet_op;refine hK _ ?_;clear hK K)
 refine ra_nil ?_
 refine rt_op rfl (by rfl) (fun K hK=>?_)
 go_simp
 refine (wdrop2 (M4.o.cl.ext X6.o) H3.o.net HXK.o).mono ?_
 rintro e w7 ⟨rfl,n7,m7⟩
 have H7:=hI (H3.o.mails m7 n7)
 have SB7:=hI (SB3.o.fr m7 (by decide) (by unfold netC;omega))
 have B7:=hI (OwP.fr B3.o m7 (fun i hi=>by rw [HB0.o i hi];unfold netC;omega))
 have M7:=hI ((M4.o.tr (Fm.ext M4.o.cl X6.o) wr0).tr (m7.mono net_wr) wr0)
 refine hK _ _ ?_
 clear hK K n7 m7 H3 SB3 B3 M4 X6 g33 gs2
 refine rt_nil ?_
 have d0:=SB7.o.box.c 0 _ rfl
 have HW:Hid ({ W with ns:=W.ns.eraseIdx k }=W'):=hI (by
  have:=HS.o
  simp only [if_true] at this
  exact Option.some.inj this)
 rw [HW.o] at H7
 go_wp2
 go_ret
 exact ⟨rfl,o,H7.o,M7.o⟩
theorem wstep4_any (hcl:Cl w o) (h:WrV w o wb g W) {a od lv:Int} {da:ByteArray} {k:Nat} (hs:mailW true k W=some W') :
  Calls Tryz.prog 44 #[ptrN wb,stV 4 a (k:Int) od lv da] w fun e w'=>e=.returned (.int .i64 0)∧∃ o',WrV w' o' wb g W'∧Fm wrC o o' w w':=by
 have CC:=fun (w:World) (hcl:Cl w o) (h:WrV w o wb g W)=>wmailD_any (a:=a) (od:=od) (lv:=lv) (da:=da) hcl h hs
 have H:=hI h
 have HC:=hI hcl
 have f1:((4:Int)==1)=false:=rfl
 have f9:((4:Int)==9)=false:=rfl
 have f3:((4:Int)==3)=false:=rfl
 have f4:((4:Int)==4)=true:=rfl
 have f5:((4:Int)==5)=false:=rfl
 have f2:((4:Int)==2)=false:=rfl
 have f6:((4:Int)==6)=false:=rfl
 have f7:((4:Int)==7)=false:=rfl
 have f8:((4:Int)==8)=false:=rfl
 clear hcl h
 go_enter Tryz.func44,Tryz.ntmps44
 go_upto_region 1 with fail
 change Code.wp _ _ _ _ (w.alloc (.cells (stA 4 a (k:Int) od lv da) 28))
 have A0:=hI (Ext.alloc w (.cells (stA 4 a (k:Int) od lv da) 28))
 have SB:=hI (BoxC.loose HC.o (stA 4 a (k:Int) od lv da) (stL 4 a (k:Int) od lv da) 28 rfl)
 replace H:=hI (H.o.ext A0.o)
 have M1:=hI (Fm.ext (C:=wrC) HC.o A0.o)
 have CB:=hI (CC _ M1.o.cl H.o)
 clear A0 HC CC
 generalize w.alloc (.cells (stA 4 a (k:Int) od lv da) 28)=w1 at *
 generalize w.heap.size=sb at *
 have d0:=SB.o.box.c 0 _ rfl
 have d1:=SB.o.box.c 1 _ rfl
 have d2:=SB.o.box.c 2 _ rfl
 have d3:=SB.o.box.c 3 _ rfl
 have d4:=SB.o.box.c 4 _ rfl
 have d5:=SB.o.box.c 5 _ rfl
 go_wp2_with fail
 refine CB.o.mono ?_
 rintro e w9 ⟨rfl,o9,h9,m9⟩
 have H9:=hI h9
 have M9:=hI (M1.o.tr m9 wr0)
 clear h9 m9
 go_wp2
 go_ret
 exact ⟨rfl,o9,H9.o,M9.o⟩
end
section
variable {w w4:World} {o o4:Ow} {lw:Nat} {A A':LwA} {L L':LwD}
theorem lstep4_any (hcl:Cl w o) (h:LwV w o lw A L) {k:Nat} (hs:stepM true k L=some L') :
  Calls Tryz.prog 16 #[ptrN lw,stV 4 0 (k:Int) 0 0 ⟨#[]⟩] w fun e w'=>e=.returned (.int .i64 0)∧∃ o' A',LwV w' o' lw A' L'∧Fm lwC o o' w w':=by
 have H:=hI h
 have HC:=hI hcl
 have k9:((4:Int)==9)=false:=rfl
 have k1:((4:Int)==1)=false:=rfl
 have k2:((4:Int)==2)=false:=rfl
 have k7:((4:Int)==7)=false:=rfl
 have k8:((4:Int)==8)=false:=rfl
 unfold stepM at hs
 obtain ⟨L1,hw,hlk⟩:=Option.bind_eq_some_iff.1 hs
 obtain ⟨W',hw2,hn,rfl⟩:=withW_some hw
 have HW:=hI hw2
 have HWN:=hI hn
 have HLK:=hI hlk
 have HDA:Hid ((⟨#[]⟩:ByteArray).size≤18):=hI (by decide)
 have z1:decide ((1:Int)≤0)=false:=rfl
 clear hcl h hs hw hw2 hn hlk
 go_enter Tryz.func16,Tryz.ntmps16
 go_upto_region 1 with fail
 change Code.wp _ _ _ _ (w.alloc (.cells (stA 4 0 (k:Int) 0 0 ⟨#[]⟩) 28))
 have F0:=hI (Fm.made (C:=fun _=>False) HC.o (.cells (stA 4 0 (k:Int) 0 0 ⟨#[]⟩) 28) 305)
 have SB:=hI (BoxC.made w o 305 (stA 4 0 (k:Int) 0 0 ⟨#[]⟩) (stL 4 0 (k:Int) 0 0 ⟨#[]⟩) 28 rfl)
 replace H:Hid (LwV (w.alloc (.cells (stA 4 0 (k:Int) 0 0 ⟨#[]⟩) 28)) (dye o w.heap.size 305) lw A L):=hI ⟨H.o.box.fr F0.o (by decide) (fun e=>e),H.o.q.fr F0.o (fun d e=>e.elim)⟩
 have M1:=hI (F0.o.mono (C':=lwC) (fun d e=>e.elim))
 clear F0 HC
 generalize w.alloc (.cells (stA 4 0 (k:Int) 0 0 ⟨#[]⟩) 28)=w1 at *
 generalize dye o w.heap.size 305=o1 at *
 generalize w.heap.size=sb at *
 have d5:=SB.o.box.c 5 _ rfl
 have d0:=SB.o.box.c 0 _ rfl
 have fz:=SB.o.box.f 5
 go_wp2_with fail
 refine (cut_id HDA.o).mono ?_
 rintro e w2 ⟨rfl,rfl⟩
 have P2:=hI (Fm.put (C:=one 305) M1.o.cl SB.o (by decide) rfl 5 (.string ⟨#[]⟩))
 have SB2:Hid (BoxC (w1.setCell ⟨sb,5,none⟩ (.string ⟨#[]⟩)) o1 305 sb (stL 4 0 (k:Int) 0 0 ⟨#[]⟩)):=hI (SB.o.put 5 (.string ⟨#[]⟩))
 have H2:Hid (LwV (w1.setCell ⟨sb,5,none⟩ (.string ⟨#[]⟩)) o1 lw A L):=hI ⟨H.o.box.fr P2.o (by decide) (by unfold one;omega),H.o.q.fr P2.o (fun d hd=>by unfold one at hd;subst hd;unfold wrC;omega)⟩
 have M2:=hI (M1.o.tr (P2.o.mono (C':=lwC) (fun d hd=>by unfold one at hd;subst hd;unfold lwC;omega)) lw0)
 go_upto_region 5 with fail
 clear d5 d0 fz P2 SB H M1
 generalize w1.setCell ⟨sb,5,none⟩ (.string ⟨#[]⟩)=w2 at *
 obtain ⟨W3,hW⟩:∃ W3,W3=w2.drew:=⟨_,rfl⟩
 have X3:Hid (Ext w2 W3):=hI (by rw [hW];exact Ext.drew w2)
 replace H2:=hI (H2.o.ext X3.o)
 replace SB2:=hI (SB2.o.ext X3.o)
 have g1:∀ d os,(grow (redrawn W3 d) os).cell? ⟨lw,1,none⟩=some (.int .i64 (L.n:Int)):=fun d os=>Ext.cell (Ext.reg W3 d os) (H2.o.box.box.c 1 _ rfl)
 have g0:=fun d os=>Ext.cell (Ext.reg W3 d os) (H2.o.box.box.c 0 _ rfl)
 have gs1:∀ d os,(grow (redrawn W3 d) os).cell? ⟨sb,1,none⟩=some (.int .i64 (0)):=fun d os=>Ext.cell (Ext.reg W3 d os) (SB2.o.box.c 1 _ rfl)
 refine ra_start [0,1,2,3,4,5,6,7,8,9,10,11,12,13,14,15,16,17,18,19,20,21,22] [] (by kernel_rfl) (by kernel_rfl) (fun _ _ d _ _ h=>by cases d <;> exact h) ?_
 rw [← hW]
 clear hW
 repeat ((first|refine ra_quiet rfl (by rfl) (by rfl) fun K hK=>?_|refine ra_skip rfl (by rfl) fun K hK=>?_);go_big_quiet_op;refine hK _ ?_;clear hK K)
 refine ra_nil ?_
 refine rt_nil ?_
 have M3:=hI (M2.o.tr (Fm.ext M2.o.cl X3.o) lw0)
 clear X3 M2 g1 g0 gs1
 go_upto_region 6 with fail
 obtain ⟨W5,hW⟩:∃ W5,W5=W3.drew:=⟨_,rfl⟩
 have X5:Hid (Ext W3 W5):=hI (by rw [hW];exact Ext.drew W3)
 replace H2:=hI (H2.o.ext X5.o)
 replace SB2:=hI (SB2.o.ext X5.o)
 have g0:=fun d os=>Ext.cell (Ext.reg W5 d os) (H2.o.box.box.c 0 _ rfl)
 have gs0:=fun d os=>Ext.cell (Ext.reg W5 d os) (SB2.o.box.c 0 _ rfl)
 have gs1:=fun d os=>Ext.cell (Ext.reg W5 d os) (SB2.o.box.c 1 _ rfl)
 have gs2:=fun d os=>Ext.cell (Ext.reg W5 d os) (SB2.o.box.c 2 _ rfl)
 have gs3:=fun d os=>Ext.cell (Ext.reg W5 d os) (SB2.o.box.c 3 _ rfl)
 have gs4:=fun d os=>Ext.cell (Ext.reg W5 d os) (SB2.o.box.c 4 _ rfl)
 have gs5:=fun d os=>Ext.cell (Ext.reg W5 d os) (SB2.o.box.c 5 _ rfl)
 refine ra_start [0,1,2,3,4] [5,6] (by kernel_rfl) (by kernel_rfl) (fun _ _ d _ _ h=>by cases d <;> exact h) ?_
 rw [← hW]
 clear hW
 repeat ((first|refine ra_quiet rfl (by rfl) (by rfl) fun K hK=>?_|refine ra_skip rfl (by rfl) fun K hK=>?_);go_big_quiet_op;refine hK _ ?_;clear hK K)
 have M5:=hI (M3.o.tr (Fm.ext M3.o.cl X5.o) lw0)
 clear X5 M3
 refine ra_nil ?_
 refine rt_op rfl (by rfl) (fun K hK=>?_)
 go_simp
 refine (wstep4_any (a:=0) (od:=0) (lv:=0) (da:=⟨#[]⟩) M5.o.cl H2.o.q.wr HW.o).mono ?_
 rintro e w6 ⟨rfl,o6,wr6,f6⟩
 have H6:=hI (H2.o.went f6 wr6 HWN.o)
 have SB6:=hI (SB2.o.fr f6 (by decide) (by unfold wrC;omega))
 have M6:=hI (M5.o.tr (f6.mono wr_lw) lw0)
 clear wr6 f6 H2 SB2 M5 g0 gs0 gs1 gs2 gs3 gs4 gs5
 refine hK _ _ ?_
 clear hK K
 refine rt_op rfl (by rfl) (fun K hK=>?_)
 go_simp
 refine hK _ _ ?_
 clear hK K
 refine rt_nil ?_
 have d0:=SB6.o.box.c 0 _ rfl
 go_wp2_with fail
 refine (llooks_any M6.o.cl H6.o HLK.o).mono ?_
 rintro e w20 ⟨rfl,o20,A20,h20,f20⟩
 have H20:=hI h20
 have M20:=hI (M6.o.tr f20 lw0)
 clear h20 f20
 go_wp2
 go_ret
 first | exact ⟨rfl,o20,A20,H20.o,M20.o⟩ | exact ⟨rfl,o20,⟨A20,H20.o⟩,M20.o⟩
end
end Go.Proofs.YtjhbmbbmjaabcaaGreat
