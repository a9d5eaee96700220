/-
  Contracts of the program's functions, in order. Conditions stand at each.
-/
import Derived.Test.YtjhbmbbmjaabcaaGreatH5
set_option linter.unusedVariables false
set_option maxRecDepth 8000
set_option maxHeartbeats 8000000
namespace Go.Proofs.YtjhbmbbmjaabcaaGreat
section
open Go Go.Sort Go.RowKit
theorem cut_id {s:ByteArray} {w:World} (hs:s.size≤18) :
  Calls Tryz.prog 42 #[.string s,.int .i64 18] w fun e w'=>e=.returned (.string s)∧w=w':=by
 go_enter Tryz.func42,Tryz.ntmps42
 go_wp2
 go_ret
 trivial
def withW (L:LwD) (W:Option WrD):Option LwD:=
 match W with
 | none=>none
 | some W'=>if decide (W'.n=L.n) then some { L with W:=W' } else none
def stepT (i:Nat) (L:LwD):Option LwD:=(withW L (tickW i L.W)).bind looksL
def stepM (b:Bool) (k:Nat) (L:LwD):Option LwD:=(withW L (mailW b k L.W)).bind looksL
def stepR (L:LwD):Option LwD:=if decide (L.W.rl<1000000) then looksL { L with W:={ L.W with rl:=L.W.rl+1 } } else none
def cntC (L:LwD) (i:Nat) (bt:Int):Nat→Int
 | 0=>0
 | k+1=>cntC L i bt k+(match L.cs[k]? with | some e=>if e.fr==(i:Int)&&e.bt==bt then 1 else 0 | none=>0)
def castL (i:Nat) (od lv:Int) (da:ByteArray) (L:LwD):Option LwD:=
 match L.W.sl[i-1]? with
 | some (.up s)=>if decide (L.cs.length<1000) then some { L with cs:=L.cs++[⟨(i:Int),s.bt,cntC L i s.bt L.cs.length+1,od,lv,0,da⟩] } else none
 | _=>none
def stepC (i:Nat) (od lv:Int) (da:ByteArray) (L:LwD):Option LwD:=((withW L (castW i od lv da L.W)).bind (castL i od lv da)).bind looksL
variable {w w4:World} {o o4:Ow} {lw:Nat} {A A':LwA} {L L':LwD}
theorem cntC_W {W':WrD} {i:Nat} {bt:Int}:∀ k:Nat,cntC { L with W:=W' } i bt k=cntC L i bt k
 | 0=>rfl
 | k+1=>by
  have h:=@cntC_W W' i bt k
  unfold cntC
  rw [h]
theorem cntC_lt {i:Nat} {bt:Int}:∀ k:Nat,0≤cntC L i bt k∧cntC L i bt k≤(k:Int)
 | 0=>by unfold cntC;omega
 | k+1=>by
  have h:=@cntC_lt i bt k
  unfold cntC
  split
  ·split <;> omega
  ·omega
theorem withW_some {W:Option WrD} {L1:LwD} (h:withW L W=some L1):∃ W',W=some W'∧W'.n=L.n∧L1={ L with W:=W' }:=by
 unfold withW at h
 split at h
 ·cases h
 ·rename_i W'
  split at h
  ·rename_i h1
   cases h
   exact ⟨W',rfl,of_decide_eq_true h1,rfl⟩
  ·cases h
theorem lstep3_any (hcl:Cl w o) (h:LwV w o lw A L) {k:Nat} (hs:stepM false k L=some L') :
  Calls Tryz.prog 16 #[ptrN lw,stV 3 0 (k:Int) 0 0 ⟨#[]⟩] w fun e w'=>e=.returned (.int .i64 0)∧∃ o' A',LwV w' o' lw A' L'∧Fm lwC o o' w w':=by
 have H:=hI h
 have HC:=hI hcl
 have k9:((3:Int)==9)=false:=rfl
 have k1:((3:Int)==1)=false:=rfl
 have k2:((3:Int)==2)=false:=rfl
 have k7:((3:Int)==7)=false:=rfl
 have k8:((3:Int)==8)=false:=rfl
 unfold stepM at hs
 obtain ⟨L1,hw,hlk⟩:=Option.bind_eq_some_iff.1 hs
 obtain ⟨W',hw2,hn,rfl⟩:=withW_some hw
 have HW:=hI hw2
 have HWN:=hI hn
 have HLK:=hI hlk
 have HDA:Hid ((⟨#[]⟩:ByteArray).size≤18):=hI (by decide)
 have z1:decide ((1:Int)≤0)=false:=rfl
 clear hcl h hs hw hw2 hn hlk
 go_enter Tryz.func16,Tryz.ntmps16
 go_upto_region 1 with fail
 change Code.wp _ _ _ _ (w.alloc (.cells (stA 3 0 (k:Int) 0 0 ⟨#[]⟩) 28))
 have F0:=hI (Fm.made (C:=fun _=>False) HC.o (.cells (stA 3 0 (k:Int) 0 0 ⟨#[]⟩) 28) 305)
 have SB:=hI (BoxC.made w o 305 (stA 3 0 (k:Int) 0 0 ⟨#[]⟩) (stL 3 0 (k:Int) 0 0 ⟨#[]⟩) 28 rfl)
 replace H:Hid (LwV (w.alloc (.cells (stA 3 0 (k:Int) 0 0 ⟨#[]⟩) 28)) (dye o w.heap.size 305) lw A L):=hI ⟨H.o.box.fr F0.o (by decide) (fun e=>e),H.o.q.fr F0.o (fun d e=>e.elim)⟩
 have M1:=hI (F0.o.mono (C':=lwC) (fun d e=>e.elim))
 clear F0 HC
 generalize w.alloc (.cells (stA 3 0 (k:Int) 0 0 ⟨#[]⟩) 28)=w1 at *
 generalize dye o w.heap.size 305=o1 at *
 generalize w.heap.size=sb at *
 have d5:=SB.o.box.c 5 _ rfl
 have d0:=SB.o.box.c 0 _ rfl
 have fz:=SB.o.box.f 5
 go_wp2_with fail
 refine (cut_id HDA.o).mono ?_
 rintro e w2 ⟨rfl,rfl⟩
 have P2:=hI (Fm.put (C:=one 305) M1.o.cl SB.o (by decide) rfl 5 (.string ⟨#[]⟩))
 have SB2:Hid (BoxC (w1.setCell ⟨sb,5,none⟩ (.string ⟨#[]⟩)) o1 305 sb (stL 3 0 (k:Int) 0 0 ⟨#[]⟩)):=hI (SB.o.put 5 (.string ⟨#[]⟩))
 have H2:Hid (LwV (w1.setCell ⟨sb,5,none⟩ (.string ⟨#[]⟩)) o1 lw A L):=hI ⟨H.o.box.fr P2.o (by decide) (by unfold one;omega),H.o.q.fr P2.o (fun d hd=>by unfold one at hd;subst hd;unfold wrC;omega)⟩
 have M2:=hI (M1.o.tr (P2.o.mono (C':=lwC) (fun d hd=>by unfold one at hd;subst hd;unfold lwC;omega)) lw0)
 go_upto_region 5 with fail
 clear d5 d0 fz P2 SB H M1
 generalize w1.setCell ⟨sb,5,none⟩ (.string ⟨#[]⟩)=w2 at *
 obtain ⟨W3,hW⟩:∃ W3,W3=w2.drew:=⟨_,rfl⟩
 have X3:Hid (Ext w2 W3):=hI (by rw [hW];exact Ext.drew w2)
 replace H2:=hI (H2.o.ext X3.o)
 replace SB2:=hI (SB2.o.ext X3.o)
 have g1:∀ d os,(grow (redrawn W3 d) os).cell? ⟨lw,1,none⟩=some (.int .i64 (L.n:Int)):=fun d os=>Ext.cell (Ext.reg W3 d os) (H2.o.box.box.c 1 _ rfl)
 have g0:=fun d os=>Ext.cell (Ext.reg W3 d os) (H2.o.box.box.c 0 _ rfl)
 have gs1:∀ d os,(grow (redrawn W3 d) os).cell? ⟨sb,1,none⟩=some (.int .i64 (0)):=fun d os=>Ext.cell (Ext.reg W3 d os) (SB2.o.box.c 1 _ rfl)
 refine att [0,1,2,3,4,5,6,7,8,9,10,11,12,13,14,15,16,17,18,19,20,21,22] [] ?_
 rw [← hW]
 clear hW
 repeat ((first|refine aqq fun K hK=>?_|refine akk fun K hK=>?_);go_big_quiet_op;refine hK _ ?_;clear hK K)
 refine ra_nil ?_
 refine rt_nil ?_
 have M3:=hI (M2.o.tr (Fm.ext M2.o.cl X3.o) lw0)
 clear X3 M2 g1 g0 gs1
 go_upto_region 6 with fail
 obtain ⟨W5,hW⟩:∃ W5,W5=W3.drew:=⟨_,rfl⟩
 have X5:Hid (Ext W3 W5):=hI (by rw [hW];exact Ext.drew W3)
 replace H2:=hI (H2.o.ext X5.o)
 replace SB2:=hI (SB2.o.ext X5.o)
 have g0:=fun d os=>Ext.cell (Ext.reg W5 d os) (H2.o.box.box.c 0 _ rfl)
 have gs0:=fun d os=>Ext.cell (Ext.reg W5 d os) (SB2.o.box.c 0 _ rfl)
 have gs1:=fun d os=>Ext.cell (Ext.reg W5 d os) (SB2.o.box.c 1 _ rfl)
 have gs2:=fun d os=>Ext.cell (Ext.reg W5 d os) (SB2.o.box.c 2 _ rfl)
 have gs3:=fun d os=>Ext.cell (Ext.reg W5 d os) (SB2.o.box.c 3 _ rfl)
 have gs4:=fun d os=>Ext.cell (Ext.reg W5 d os) (SB2.o.box.c 4 _ rfl)
 have gs5:=fun d os=>Ext.cell (Ext.reg W5 d os) (SB2.o.box.c 5 _ rfl)
 refine att [0,1,2,3,4] [5,6] ?_
 rw [← hW]
 clear hW
 repeat ((first|refine aqq fun K hK=>?_|refine akk fun K hK=>?_);go_big_quiet_op;refine hK _ ?_;clear hK K)
 have M5:=hI (M3.o.tr (Fm.ext M3.o.cl X5.o) lw0)
 clear X5 M3
 refine ra_nil ?_
 refine too fun K hK=>?_
 go_simp
 refine (wstep3_any (a:=0) (od:=0) (lv:=0) (da:=⟨#[]⟩) M5.o.cl H2.o.q.wr HW.o).mono ?_
 rintro e w6 ⟨rfl,o6,wr6,f6⟩
 have H6:=hI (H2.o.went f6 wr6 HWN.o)
 have SB6:=hI (SB2.o.fr f6 (by decide) (by unfold wrC;omega))
 have M6:=hI (M5.o.tr (f6.mono wr_lw) lw0)
 clear wr6 f6 H2 SB2 M5 g0 gs0 gs1 gs2 gs3 gs4 gs5
 refine hK _ _ ?_
 clear hK K
 refine too fun K hK=>?_
 go_simp
 refine hK _ _ ?_
 clear hK K
 refine rt_nil ?_
 have d0:=SB6.o.box.c 0 _ rfl
 go_wp2_with fail
 refine (llooks_any M6.o.cl H6.o HLK.o).mono ?_
 rintro e w20 ⟨rfl,o20,A20,h20,f20⟩
 have H20:=hI h20
 have M20:=hI (M6.o.tr f20 lw0)
 clear h20 f20
 go_wp2
 go_ret
 first | exact ⟨rfl,o20,A20,H20.o,M20.o⟩ | exact ⟨rfl,o20,⟨A20,H20.o⟩,M20.o⟩
theorem lstep4_any (hcl:Cl w o) (h:LwV w o lw A L) {k:Nat} (hs:stepM true k L=some L') :
  Calls Tryz.prog 16 #[ptrN lw,stV 4 0 (k:Int) 0 0 ⟨#[]⟩] w fun e w'=>e=.returned (.int .i64 0)∧∃ o' A',LwV w' o' lw A' L'∧Fm lwC o o' w w':=by
 have H:=hI h
 have HC:=hI hcl
 have k9:((4:Int)==9)=false:=rfl
 have k1:((4:Int)==1)=false:=rfl
 have k2:((4:Int)==2)=false:=rfl
 have k7:((4:Int)==7)=false:=rfl
 have k8:((4:Int)==8)=false:=rfl
 unfold stepM at hs
 obtain ⟨L1,hw,hlk⟩:=Option.bind_eq_some_iff.1 hs
 obtain ⟨W',hw2,hn,rfl⟩:=withW_some hw
 have HW:=hI hw2
 have HWN:=hI hn
 have HLK:=hI hlk
 have HDA:Hid ((⟨#[]⟩:ByteArray).size≤18):=hI (by decide)
 have z1:decide ((1:Int)≤0)=false:=rfl
 clear hcl h hs hw hw2 hn hlk
 go_enter Tryz.func16,Tryz.ntmps16
 go_upto_region 1 with fail
 change Code.wp _ _ _ _ (w.alloc (.cells (stA 4 0 (k:Int) 0 0 ⟨#[]⟩) 28))
 have F0:=hI (Fm.made (C:=fun _=>False) HC.o (.cells (stA 4 0 (k:Int) 0 0 ⟨#[]⟩) 28) 305)
 have SB:=hI (BoxC.made w o 305 (stA 4 0 (k:Int) 0 0 ⟨#[]⟩) (stL 4 0 (k:Int) 0 0 ⟨#[]⟩) 28 rfl)
 replace H:Hid (LwV (w.alloc (.cells (stA 4 0 (k:Int) 0 0 ⟨#[]⟩) 28)) (dye o w.heap.size 305) lw A L):=hI ⟨H.o.box.fr F0.o (by decide) (fun e=>e),H.o.q.fr F0.o (fun d e=>e.elim)⟩
 have M1:=hI (F0.o.mono (C':=lwC) (fun d e=>e.elim))
 clear F0 HC
 generalize w.alloc (.cells (stA 4 0 (k:Int) 0 0 ⟨#[]⟩) 28)=w1 at *
 generalize dye o w.heap.size 305=o1 at *
 generalize w.heap.size=sb at *
 have d5:=SB.o.box.c 5 _ rfl
 have d0:=SB.o.box.c 0 _ rfl
 have fz:=SB.o.box.f 5
 go_wp2_with fail
 refine (cut_id HDA.o).mono ?_
 rintro e w2 ⟨rfl,rfl⟩
 have P2:=hI (Fm.put (C:=one 305) M1.o.cl SB.o (by decide) rfl 5 (.string ⟨#[]⟩))
 have SB2:Hid (BoxC (w1.setCell ⟨sb,5,none⟩ (.string ⟨#[]⟩)) o1 305 sb (stL 4 0 (k:Int) 0 0 ⟨#[]⟩)):=hI (SB.o.put 5 (.string ⟨#[]⟩))
 have H2:Hid (LwV (w1.setCell ⟨sb,5,none⟩ (.string ⟨#[]⟩)) o1 lw A L):=hI ⟨H.o.box.fr P2.o (by decide) (by unfold one;omega),H.o.q.fr P2.o (fun d hd=>by unfold one at hd;subst hd;unfold wrC;omega)⟩
 have M2:=hI (M1.o.tr (P2.o.mono (C':=lwC) (fun d hd=>by unfold one at hd;subst hd;unfold lwC;omega)) lw0)
 go_upto_region 5 with fail
 clear d5 d0 fz P2 SB H M1
 generalize w1.setCell ⟨sb,5,none⟩ (.string ⟨#[]⟩)=w2 at *
 obtain ⟨W3,hW⟩:∃ W3,W3=w2.drew:=⟨_,rfl⟩
 have X3:Hid (Ext w2 W3):=hI (by rw [hW];exact Ext.drew w2)
 replace H2:=hI (H2.o.ext X3.o)
 replace SB2:=hI (SB2.o.ext X3.o)
 have g1:∀ d os,(grow (redrawn W3 d) os).cell? ⟨lw,1,none⟩=some (.int .i64 (L.n:Int)):=fun d os=>Ext.cell (Ext.reg W3 d os) (H2.o.box.box.c 1 _ rfl)
 have g0:=fun d os=>Ext.cell (Ext.reg W3 d os) (H2.o.box.box.c 0 _ rfl)
 have gs1:∀ d os,(grow (redrawn W3 d) os).cell? ⟨sb,1,none⟩=some (.int .i64 (0)):=fun d os=>Ext.cell (Ext.reg W3 d os) (SB2.o.box.c 1 _ rfl)
 refine att [0,1,2,3,4,5,6,7,8,9,10,11,12,13,14,15,16,17,18,19,20,21,22] [] ?_
 rw [← hW]
 clear hW
 repeat ((first|refine aqq fun K hK=>?_|refine akk fun K hK=>?_);go_big_quiet_op;refine hK _ ?_;clear hK K)
 refine ra_nil ?_
 refine rt_nil ?_
 have M3:=hI (M2.o.tr (Fm.ext M2.o.cl X3.o) lw0)
 clear X3 M2 g1 g0 gs1
 go_upto_region 6 with fail
 obtain ⟨W5,hW⟩:∃ W5,W5=W3.drew:=⟨_,rfl⟩
 have X5:Hid (Ext W3 W5):=hI (by rw [hW];exact Ext.drew W3)
 replace H2:=hI (H2.o.ext X5.o)
 replace SB2:=hI (SB2.o.ext X5.o)
 have g0:=fun d os=>Ext.cell (Ext.reg W5 d os) (H2.o.box.box.c 0 _ rfl)
 have gs0:=fun d os=>Ext.cell (Ext.reg W5 d os) (SB2.o.box.c 0 _ rfl)
 have gs1:=fun d os=>Ext.cell (Ext.reg W5 d os) (SB2.o.box.c 1 _ rfl)
 have gs2:=fun d os=>Ext.cell (Ext.reg W5 d os) (SB2.o.box.c 2 _ rfl)
 have gs3:=fun d os=>Ext.cell (Ext.reg W5 d os) (SB2.o.box.c 3 _ rfl)
 have gs4:=fun d os=>Ext.cell (Ext.reg W5 d os) (SB2.o.box.c 4 _ rfl)
 have gs5:=fun d os=>Ext.cell (Ext.reg W5 d os) (SB2.o.box.c 5 _ rfl)
 refine att [0,1,2,3,4] [5,6] ?_
 rw [← hW]
 clear hW
 repeat ((first|refine aqq fun K hK=>?_|refine akk fun K hK=>?_);go_big_quiet_op;refine hK _ ?_;clear hK K)
 have M5:=hI (M3.o.tr (Fm.ext M3.o.cl X5.o) lw0)
 clear X5 M3
 refine ra_nil ?_
 refine too fun K hK=>?_
 go_simp
 refine (wstep4_any (a:=0) (od:=0) (lv:=0) (da:=⟨#[]⟩) M5.o.cl H2.o.q.wr HW.o).mono ?_
 rintro e w6 ⟨rfl,o6,wr6,f6⟩
 have H6:=hI (H2.o.went f6 wr6 HWN.o)
 have SB6:=hI (SB2.o.fr f6 (by decide) (by unfold wrC;omega))
 have M6:=hI (M5.o.tr (f6.mono wr_lw) lw0)
 clear wr6 f6 H2 SB2 M5 g0 gs0 gs1 gs2 gs3 gs4 gs5
 refine hK _ _ ?_
 clear hK K
 refine too fun K hK=>?_
 go_simp
 refine hK _ _ ?_
 clear hK K
 refine rt_nil ?_
 have d0:=SB6.o.box.c 0 _ rfl
 go_wp2_with fail
 refine (llooks_any M6.o.cl H6.o HLK.o).mono ?_
 rintro e w20 ⟨rfl,o20,A20,h20,f20⟩
 have H20:=hI h20
 have M20:=hI (M6.o.tr f20 lw0)
 clear h20 f20
 go_wp2
 go_ret
 first | exact ⟨rfl,o20,A20,H20.o,M20.o⟩ | exact ⟨rfl,o20,⟨A20,H20.o⟩,M20.o⟩
theorem lstep2_any (hcl:Cl w o) (h:LwV w o lw A L) {i:Nat} (hi:1≤i∧i≤L.n) (hs:stepT i L=some L') :
  Calls Tryz.prog 16 #[ptrN lw,stV 2 (i:Int) 0 0 0 ⟨#[]⟩] w fun e w'=>e=.returned (.int .i64 0)∧∃ o' A',LwV w' o' lw A' L'∧Fm lwC o o' w w':=by
 have H:=hI h
 have HC:=hI hcl
 have k9:((2:Int)==9)=false:=rfl
 have k1:((2:Int)==1)=false:=rfl
 have k2:((2:Int)==2)=true:=rfl
 have k7:((2:Int)==7)=false:=rfl
 have k8:((2:Int)==8)=false:=rfl
 unfold stepT at hs
 obtain ⟨L1,hw,hlk⟩:=Option.bind_eq_some_iff.1 hs
 obtain ⟨W',hw2,hn,rfl⟩:=withW_some hw
 obtain ⟨s,hsl⟩:∃ s,L.W.sl[i-1]?=some (.up s):=by
  unfold tickW at hw2
  split at hw2
  ·rename_i s h1
   exact ⟨s,h1⟩
  ·cases hw2
 have HSL:=hI hsl
 have HW:=hI hw2
 have HWN:=hI hn
 have HLK:=hI hlk
 have HDA:Hid ((⟨#[]⟩:ByteArray).size≤18):=hI (by decide)
 have HI:Hid (1≤i∧i≤L.W.n):=hI (by rw [h.q.nn];exact hi)
 have f1:(0:Int)≤(i:Int):=by omega
 have f2:(i:Int)<8:=by have h1:=h.q.wr.hn;have h2:=HI.o;omega
 have hi8:i<8:=by omega
 have z1:decide ((1:Int)≤(i:Int))=true:=decide_eq_true (by omega)
 have z2:decide ((i:Int)≤(L.n:Int))=true:=decide_eq_true (by omega)
 have z2n:decide (i≤L.n)=true:=decide_eq_true (by omega)
 have z1n:decide (1≤i)=true:=decide_eq_true (by omega)
 have z1m:decide (0<i)=true:=decide_eq_true (by omega)
 clear hcl h hs hw hw2 hn hlk hsl hi
 go_enter Tryz.func16,Tryz.ntmps16
 go_upto_region 1 with fail
 change Code.wp _ _ _ _ (w.alloc (.cells (stA 2 (i:Int) 0 0 0 ⟨#[]⟩) 28))
 have F0:=hI (Fm.made (C:=fun _=>False) HC.o (.cells (stA 2 (i:Int) 0 0 0 ⟨#[]⟩) 28) 305)
 have SB:=hI (BoxC.made w o 305 (stA 2 (i:Int) 0 0 0 ⟨#[]⟩) (stL 2 (i:Int) 0 0 0 ⟨#[]⟩) 28 rfl)
 replace H:Hid (LwV (w.alloc (.cells (stA 2 (i:Int) 0 0 0 ⟨#[]⟩) 28)) (dye o w.heap.size 305) lw A L):=hI ⟨H.o.box.fr F0.o (by decide) (fun e=>e),H.o.q.fr F0.o (fun d e=>e.elim)⟩
 have M1:=hI (F0.o.mono (C':=lwC) (fun d e=>e.elim))
 clear F0 HC
 generalize w.alloc (.cells (stA 2 (i:Int) 0 0 0 ⟨#[]⟩) 28)=w1 at *
 generalize dye o w.heap.size 305=o1 at *
 generalize w.heap.size=sb at *
 have d5:=SB.o.box.c 5 _ rfl
 have d0:=SB.o.box.c 0 _ rfl
 have fz:=SB.o.box.f 5
 go_wp2_with fail
 refine (cut_id HDA.o).mono ?_
 rintro e w2 ⟨rfl,rfl⟩
 have P2:=hI (Fm.put (C:=one 305) M1.o.cl SB.o (by decide) rfl 5 (.string ⟨#[]⟩))
 have SB2:Hid (BoxC (w1.setCell ⟨sb,5,none⟩ (.string ⟨#[]⟩)) o1 305 sb (stL 2 (i:Int) 0 0 0 ⟨#[]⟩)):=hI (SB.o.put 5 (.string ⟨#[]⟩))
 have H2:Hid (LwV (w1.setCell ⟨sb,5,none⟩ (.string ⟨#[]⟩)) o1 lw A L):=hI ⟨H.o.box.fr P2.o (by decide) (by unfold one;omega),H.o.q.fr P2.o (fun d hd=>by unfold one at hd;subst hd;unfold wrC;omega)⟩
 have M2:=hI (M1.o.tr (P2.o.mono (C':=lwC) (fun d hd=>by unfold one at hd;subst hd;unfold lwC;omega)) lw0)
 go_upto_region 5 with fail
 clear d5 d0 fz P2 SB H M1
 generalize w1.setCell ⟨sb,5,none⟩ (.string ⟨#[]⟩)=w2 at *
 obtain ⟨W3,hW⟩:∃ W3,W3=w2.drew:=⟨_,rfl⟩
 have X3:Hid (Ext w2 W3):=hI (by rw [hW];exact Ext.drew w2)
 replace H2:=hI (H2.o.ext X3.o)
 replace SB2:=hI (SB2.o.ext X3.o)
 have g1:∀ d os,(grow (redrawn W3 d) os).cell? ⟨lw,1,none⟩=some (.int .i64 (L.n:Int)):=fun d os=>Ext.cell (Ext.reg W3 d os) (H2.o.box.box.c 1 _ rfl)
 have g0:=fun d os=>Ext.cell (Ext.reg W3 d os) (H2.o.box.box.c 0 _ rfl)
 have gs1:∀ d os,(grow (redrawn W3 d) os).cell? ⟨sb,1,none⟩=some (.int .i64 ((i:Int))):=fun d os=>Ext.cell (Ext.reg W3 d os) (SB2.o.box.c 1 _ rfl)
 refine att [0,1,2,3,4,5,6,7,8,9,10,11,12,13,14,15,16,17,18,19,20,21,22] [] ?_
 rw [← hW]
 clear hW
 repeat ((first|refine aqq fun K hK=>?_|refine akk fun K hK=>?_);go_big_quiet_op;refine hK _ ?_;clear hK K)
 refine acc fun K hK=>?_
 go_simp
 refine (wnode_up H2.o.q.wr HI.o HSL.o).mono ?_
 rintro e w4 ⟨xx,cc,AA,rfl,-,-,-,-,-,-,rfl⟩
 refine hK _ _ (Ext.rfl' _) ?_;clear hK K
 repeat ((first|refine aqq fun K hK=>?_|refine akk fun K hK=>?_);go_big_quiet_op;refine hK _ ?_;clear hK K)
 refine ra_nil ?_
 refine rt_nil ?_
 have M3:=hI (M2.o.tr (Fm.ext M2.o.cl X3.o) lw0)
 clear X3 M2 g1 g0 gs1
 go_upto_region 6 with fail
 obtain ⟨W5,hW⟩:∃ W5,W5=W3.drew:=⟨_,rfl⟩
 have X5:Hid (Ext W3 W5):=hI (by rw [hW];exact Ext.drew W3)
 replace H2:=hI (H2.o.ext X5.o)
 replace SB2:=hI (SB2.o.ext X5.o)
 have g0:=fun d os=>Ext.cell (Ext.reg W5 d os) (H2.o.box.box.c 0 _ rfl)
 have gs0:=fun d os=>Ext.cell (Ext.reg W5 d os) (SB2.o.box.c 0 _ rfl)
 have gs1:=fun d os=>Ext.cell (Ext.reg W5 d os) (SB2.o.box.c 1 _ rfl)
 have gs2:=fun d os=>Ext.cell (Ext.reg W5 d os) (SB2.o.box.c 2 _ rfl)
 have gs3:=fun d os=>Ext.cell (Ext.reg W5 d os) (SB2.o.box.c 3 _ rfl)
 have gs4:=fun d os=>Ext.cell (Ext.reg W5 d os) (SB2.o.box.c 4 _ rfl)
 have gs5:=fun d os=>Ext.cell (Ext.reg W5 d os) (SB2.o.box.c 5 _ rfl)
 refine att [0,1,2,3,4] [5,6] ?_
 rw [← hW]
 clear hW
 repeat ((first|refine aqq fun K hK=>?_|refine akk fun K hK=>?_);go_big_quiet_op;refine hK _ ?_;clear hK K)
 have M5:=hI (M3.o.tr (Fm.ext M3.o.cl X5.o) lw0)
 clear X5 M3
 refine ra_nil ?_
 refine too fun K hK=>?_
 go_simp
 refine (wstep2_any (k:=0) (od:=0) (lv:=0) (da:=⟨#[]⟩) M5.o.cl H2.o.q.wr HI.o HW.o).mono ?_
 rintro e w6 ⟨rfl,o6,wr6,f6⟩
 have H6:=hI (H2.o.went f6 wr6 HWN.o)
 have SB6:=hI (SB2.o.fr f6 (by decide) (by unfold wrC;omega))
 have M6:=hI (M5.o.tr (f6.mono wr_lw) lw0)
 clear wr6 f6 H2 SB2 M5 g0 gs0 gs1 gs2 gs3 gs4 gs5
 refine hK _ _ ?_
 clear hK K
 refine too fun K hK=>?_
 go_simp
 refine hK _ _ ?_
 clear hK K
 refine rt_nil ?_
 have d0:=SB6.o.box.c 0 _ rfl
 go_upto_region 15 with fail
 clear d0
 obtain ⟨W7,hW⟩:∃ W7,W7=w6.drew:=⟨_,rfl⟩
 have X7:Hid (Ext w6 W7):=hI (by rw [hW];exact Ext.drew w6)
 replace H6:=hI (H6.o.ext X7.o)
 replace SB6:=hI (SB6.o.ext X7.o)
 have gs1:=fun d os=>Ext.cell (Ext.reg W7 d os) (SB6.o.box.c 1 _ rfl)
 refine att [0,1,2,3,4,5] [6] ?_
 rw [← hW]
 clear hW
 repeat ((first|refine aqq fun K hK=>?_|refine akk fun K hK=>?_);go_big_quiet_op;refine hK _ ?_;clear hK K)
 refine ra_nil ?_
 have cs:=H6.o.box.box.c (38+i) _ (lwL_sl hi8)
 have fz:=H6.o.box.box.f (38+i)
 refine too fun K hK=>?_
 go_simp
 obtain ⟨h8,m8⟩:=H6.o.put (M6.o.cl.ext X7.o) (38+i) (.int .i64 0) (lwL_ssl hi8) (fun q=>⟨q.wr,q.nn,q.fo,q.fl,q.fi,q.so,q.vo,q.co,q.mx⟩)
 have H8:=hI h8
 have M8:=hI ((M6.o.tr (Fm.ext M6.o.cl X7.o) lw0).tr m8 lw0)
 clear h8 m8 cs fz gs1 X7 H6 M6
 refine hK _ _ ?_
 clear hK K
 refine rt_nil ?_
 generalize W7.setCell ⟨lw,38+i,none⟩ (.int .i64 0)=w8 at *
 go_wp2_with fail
 refine (llooks_any M8.o.cl H8.o HLK.o).mono ?_
 rintro e w20 ⟨rfl,o20,A20,h20,f20⟩
 have H20:=hI h20
 have M20:=hI (M8.o.tr f20 lw0)
 clear h20 f20
 go_wp2
 go_ret
 first | exact ⟨rfl,o20,A20,H20.o,M20.o⟩ | exact ⟨rfl,o20,⟨A20,H20.o⟩,M20.o⟩
theorem lstep8_any (hcl:Cl w o) (h:LwV w o lw A L) {i:Nat} {od lv:Int} {da:ByteArray} (hda:da.size≤18) (hi:1≤i∧i≤L.n) (hs:stepC i od lv da L=some L') :
  Calls Tryz.prog 16 #[ptrN lw,stV 8 (i:Int) 0 od lv da] w fun e w'=>e=.returned (.int .i64 0)∧∃ o' A',LwV w' o' lw A' L'∧Fm lwC o o' w w':=by
 have H:=hI h
 have HC:=hI hcl
 have k9:((8:Int)==9)=false:=rfl
 have k1:((8:Int)==1)=false:=rfl
 have k2:((8:Int)==2)=false:=rfl
 have k7:((8:Int)==7)=false:=rfl
 have k8:((8:Int)==8)=true:=rfl
 unfold stepC at hs
 obtain ⟨L2,hs2,hlk⟩:=Option.bind_eq_some_iff.1 hs
 obtain ⟨L1,hw,hca⟩:=Option.bind_eq_some_iff.1 hs2
 obtain ⟨W',hw2,hn,rfl⟩:=withW_some hw
 obtain ⟨s,hsl⟩:∃ s,L.W.sl[i-1]?=some (.up s):=by
  unfold castW at hw2
  split at hw2
  ·rename_i s h1
   exact ⟨s,h1⟩
  ·cases hw2
 unfold castL at hca
 split at hca
 case h_2=>cases hca
 rename_i s2 hsl2
 split at hca
 case isFalse=>cases hca
 rename_i hc9
 have HC9:=hI (of_decide_eq_true hc9)
 have HL2:=hI (Option.some.inj hca)
 have HSL2:=hI hsl2
 have HSL:=hI hsl
 have HW:=hI hw2
 have HWN:=hI hn
 have HLK:=hI hlk
 have HDA:=hI hda
 have HI:Hid (1≤i∧i≤L.W.n):=hI (by rw [h.q.nn];exact hi)
 have HI2:Hid (1≤i∧i≤W'.n):=hI (by rw [hn];exact hi)
 have f1:(0:Int)≤(i:Int):=by omega
 have f2:(i:Int)<8:=by have h1:=h.q.wr.hn;have h2:=HI.o;omega
 have hi8:i<8:=by omega
 have z1:decide ((1:Int)≤(i:Int))=true:=decide_eq_true (by omega)
 have z2:decide ((i:Int)≤(L.n:Int))=true:=decide_eq_true (by omega)
 have z2n:decide (i≤L.n)=true:=decide_eq_true (by omega)
 have z1n:decide (1≤i)=true:=decide_eq_true (by omega)
 have z1m:decide (0<i)=true:=decide_eq_true (by omega)
 have z3:((0:Int)==0)=true:=rfl
 clear hcl h hs hs2 hw hw2 hn hlk hsl hi hca hsl2 hc9 hda
 go_enter Tryz.func16,Tryz.ntmps16
 go_upto_region 1 with fail
 change Code.wp _ _ _ _ (w.alloc (.cells (stA 8 (i:Int) 0 od lv da) 28))
 have F0:=hI (Fm.made (C:=fun _=>False) HC.o (.cells (stA 8 (i:Int) 0 od lv da) 28) 305)
 have SB:=hI (BoxC.made w o 305 (stA 8 (i:Int) 0 od lv da) (stL 8 (i:Int) 0 od lv da) 28 rfl)
 replace H:Hid (LwV (w.alloc (.cells (stA 8 (i:Int) 0 od lv da) 28)) (dye o w.heap.size 305) lw A L):=hI ⟨H.o.box.fr F0.o (by decide) (fun e=>e),H.o.q.fr F0.o (fun d e=>e.elim)⟩
 have M1:=hI (F0.o.mono (C':=lwC) (fun d e=>e.elim))
 clear F0 HC
 generalize w.alloc (.cells (stA 8 (i:Int) 0 od lv da) 28)=w1 at *
 generalize dye o w.heap.size 305=o1 at *
 generalize w.heap.size=sb at *
 have d5:=SB.o.box.c 5 _ rfl
 have d0:=SB.o.box.c 0 _ rfl
 have fz:=SB.o.box.f 5
 go_wp2_with fail
 refine (cut_id HDA.o).mono ?_
 rintro e w2 ⟨rfl,rfl⟩
 have P2:=hI (Fm.put (C:=one 305) M1.o.cl SB.o (by decide) rfl 5 (.string da))
 have SB2:Hid (BoxC (w1.setCell ⟨sb,5,none⟩ (.string da)) o1 305 sb (stL 8 (i:Int) 0 od lv da)):=hI (SB.o.put 5 (.string da))
 have H2:Hid (LwV (w1.setCell ⟨sb,5,none⟩ (.string da)) o1 lw A L):=hI ⟨H.o.box.fr P2.o (by decide) (by unfold one;omega),H.o.q.fr P2.o (fun d hd=>by unfold one at hd;subst hd;unfold wrC;omega)⟩
 have M2:=hI (M1.o.tr (P2.o.mono (C':=lwC) (fun d hd=>by unfold one at hd;subst hd;unfold lwC;omega)) lw0)
 go_upto_region 5 with fail
 clear d5 d0 fz P2 SB H M1
 generalize w1.setCell ⟨sb,5,none⟩ (.string da)=w2 at *
 obtain ⟨W3,hW⟩:∃ W3,W3=w2.drew:=⟨_,rfl⟩
 have X3:Hid (Ext w2 W3):=hI (by rw [hW];exact Ext.drew w2)
 replace H2:=hI (H2.o.ext X3.o)
 replace SB2:=hI (SB2.o.ext X3.o)
 have g1:∀ d os,(grow (redrawn W3 d) os).cell? ⟨lw,1,none⟩=some (.int .i64 (L.n:Int)):=fun d os=>Ext.cell (Ext.reg W3 d os) (H2.o.box.box.c 1 _ rfl)
 have g0:=fun d os=>Ext.cell (Ext.reg W3 d os) (H2.o.box.box.c 0 _ rfl)
 have gs1:∀ d os,(grow (redrawn W3 d) os).cell? ⟨sb,1,none⟩=some (.int .i64 ((i:Int))):=fun d os=>Ext.cell (Ext.reg W3 d os) (SB2.o.box.c 1 _ rfl)
 refine att [0,1,2,3,4,5,6,7,8,9,10,11,12,13,14,15,16,17,18,19,20,21,22] [] ?_
 rw [← hW]
 clear hW
 repeat ((first|refine aqq fun K hK=>?_|refine akk fun K hK=>?_);go_big_quiet_op;refine hK _ ?_;clear hK K)
 refine acc fun K hK=>?_
 go_simp
 refine (wnode_up H2.o.q.wr HI.o HSL.o).mono ?_
 rintro e w4 ⟨xx,cc,AA,rfl,-,-,-,-,-,-,rfl⟩
 refine hK _ _ (Ext.rfl' _) ?_;clear hK K
 repeat ((first|refine aqq fun K hK=>?_|refine akk fun K hK=>?_);go_big_quiet_op;refine hK _ ?_;clear hK K)
 refine ra_nil ?_
 refine rt_nil ?_
 have M3:=hI (M2.o.tr (Fm.ext M2.o.cl X3.o) lw0)
 clear X3 M2 g1 g0 gs1
 go_upto_region 6 with fail
 obtain ⟨W5,hW⟩:∃ W5,W5=W3.drew:=⟨_,rfl⟩
 have X5:Hid (Ext W3 W5):=hI (by rw [hW];exact Ext.drew W3)
 replace H2:=hI (H2.o.ext X5.o)
 replace SB2:=hI (SB2.o.ext X5.o)
 have g0:=fun d os=>Ext.cell (Ext.reg W5 d os) (H2.o.box.box.c 0 _ rfl)
 have gs0:=fun d os=>Ext.cell (Ext.reg W5 d os) (SB2.o.box.c 0 _ rfl)
 have gs1:=fun d os=>Ext.cell (Ext.reg W5 d os) (SB2.o.box.c 1 _ rfl)
 have gs2:=fun d os=>Ext.cell (Ext.reg W5 d os) (SB2.o.box.c 2 _ rfl)
 have gs3:=fun d os=>Ext.cell (Ext.reg W5 d os) (SB2.o.box.c 3 _ rfl)
 have gs4:=fun d os=>Ext.cell (Ext.reg W5 d os) (SB2.o.box.c 4 _ rfl)
 have gs5:=fun d os=>Ext.cell (Ext.reg W5 d os) (SB2.o.box.c 5 _ rfl)
 refine att [0,1,2,3,4] [5,6] ?_
 rw [← hW]
 clear hW
 repeat ((first|refine aqq fun K hK=>?_|refine akk fun K hK=>?_);go_big_quiet_op;refine hK _ ?_;clear hK K)
 have M5:=hI (M3.o.tr (Fm.ext M3.o.cl X5.o) lw0)
 clear X5 M3
 refine ra_nil ?_
 refine too fun K hK=>?_
 go_simp
 refine (wstep8_any (k:=0) M5.o.cl H2.o.q.wr HI.o HW.o).mono ?_
 rintro e w6 ⟨rfl,o6,wr6,f6⟩
 have H6:=hI (H2.o.went f6 wr6 HWN.o)
 have SB6:=hI (SB2.o.fr f6 (by decide) (by unfold wrC;omega))
 have M6:=hI (M5.o.tr (f6.mono wr_lw) lw0)
 clear wr6 f6 H2 SB2 M5 g0 gs0 gs1 gs2 gs3 gs4 gs5
 refine hK _ _ ?_
 clear hK K
 refine too fun K hK=>?_
 go_simp
 refine hK _ _ ?_
 clear hK K
 refine rt_nil ?_
 have d0:=SB6.o.box.c 0 _ rfl
 go_upto_region 19 with fail
 clear d0
 obtain ⟨W7,hW⟩:∃ W7,W7=w6.drew:=⟨_,rfl⟩
 have X7:Hid (Ext w6 W7):=hI (by rw [hW];exact Ext.drew w6)
 replace H6:=hI (H6.o.ext X7.o)
 replace SB6:=hI (SB6.o.ext X7.o)
 have gs1:=fun d os=>Ext.cell (Ext.reg W7 d os) (SB6.o.box.c 1 _ rfl)
 have g0:=fun d os=>Ext.cell (Ext.reg W7 d os) (H6.o.box.box.c 0 _ rfl)
 refine att [0,1,2,3,4,5,6,7] [] ?_
 rw [← hW]
 clear hW
 repeat ((first|refine aqq fun K hK=>?_|refine akk fun K hK=>?_);go_big_quiet_op;refine hK _ ?_;clear hK K)
 refine acc fun K hK=>?_
 go_simp
 refine (wnode_up H6.o.q.wr HI2.o HSL2.o).mono ?_
 rintro e w8 ⟨x2,c2,A2,rfl,-,-,nd,-,-,-,rfl⟩
 have ND:=hI nd
 clear nd
 refine hK _ _ (Ext.rfl' _) ?_;clear hK K
 repeat ((first|refine aqq fun K hK=>?_|refine akk fun K hK=>?_);go_big_quiet_op;refine hK _ ?_;clear hK K)
 refine ra_nil ?_
 refine rt_nil ?_
 have M7:=hI (M6.o.tr (Fm.ext M6.o.cl X7.o) lw0)
 clear X7 M6 gs1 g0
 have hcl9:L.cs.length<1000:=HC9.o
 have c21:W7.cell? ⟨lw,21,none⟩=some (.slice A.cp L.cs.length A.cc):=H6.o.box.box.c 21 _ rfl
 go_wp2
 go_loopw [9,10] (fun v ii wx=>∃ k:Nat,k≤L.cs.length∧ii=.int .i64 (k:Int)∧v=.int .i64 (cntC L i s2.bt k)∧Ext W7 wx) (fun _ ii _=>L.cs.length-(intOf ii).toNat)
 case atStart=>exact ⟨0,by omega,rfl,rfl,Ext.rfl' _⟩
 case round=>
  obtain ⟨k,hk,rfl,rfl,xw⟩:=hrel
  have HX:=hI (H6.o.ext xw)
  have SX:=hI (SB6.o.ext xw)
  have NX:=hI (ND.o.ext xw)
  have MX:=hI (M7.o.tr (Fm.ext M7.o.cl xw) lw0)
  have XW:=hI xw
  clear xw c21
  have c21:wr.cell? ⟨lw,21,none⟩=some (.slice A.cp L.cs.length A.cc):=HX.o.box.box.c 21 _ rfl
  by_cases hlt:k<L.cs.length
  ·have e5:decide ((k:Int)<(L.cs.length:Int))=true:=decide_eq_true (by omega)
   obtain ⟨cb,coo,ce,hcp,hcx,q0,q1,q2,q3,q4,q5,q6⟩:=en_at HX.o.q.co.row.sl k hlt
   have HCX:=hI hcx
   have HCP:=hI hcp
   have CB:=cntC_lt (L:=L) (i:=i) (bt:=s2.bt) k
   have hkk:(k:Int)<1000:=by omega
   rw [hcp] at c21
   obtain ⟨f1',f2',f3',f4',f5',f6',dat⟩:=ce
   simp only at q0 q1 q2 q3 q4 q5 q6
   clear hcx hcp
   obtain ⟨CN,hCN⟩:∃ CN,CN=cntC L i s2.bt k:=⟨_,rfl⟩
   have HCN:=hI hCN
   rw [← hCN] at CB ⊢
   clear hCN
   have hw9:wrap64 (CN+1)=CN+1:=by unfold wrap64;omega
   have hwk:wrap64 ((k:Int)+1)=(k:Int)+1:=by unfold wrap64;omega
   by_cases h1:f1'=(i:Int)
   ·have g1:(f1'==(i:Int))=true:=by simpa using h1
    by_cases h2:f2'=s2.bt
    ·have g2:(f2'==s2.bt)=true:=by simpa using h2
     have HNX:Hid (cntC L i s2.bt (k+1)=CN+1):=hI (by
      unfold cntC
      rw [HCX.o,← HCN.o]
      simp only [g1,g2]
      rfl)
     clear h1 h2
     go_upto_region 24 with fail
     obtain ⟨W9,hW⟩:∃ W9,W9=wr.drew:=⟨_,rfl⟩
     have X9:Hid (Ext wr W9):=hI (by rw [hW];exact Ext.drew wr)
     replace HX:=hI (HX.o.ext X9.o)
     replace SX:=hI (SX.o.ext X9.o)
     replace NX:=hI (NX.o.ext X9.o)
     have g21:=fun d os=>Ext.cell (Ext.reg W9 d os) (Ext.cell X9.o c21)
     have gq0:=fun d os=>Ext.cell (Ext.reg W9 d os) (Ext.cell X9.o q0)
     have gq1:=fun d os=>Ext.cell (Ext.reg W9 d os) (Ext.cell X9.o q1)
     have gs1:∀ d os,(grow (redrawn W9 d) os).cell? ⟨sb,1,none⟩=some (.int .i64 (i:Int)):=fun d os=>Ext.cell (Ext.reg W9 d os) (SX.o.box.c 1 _ rfl)
     refine att [0,1,2,3,4,5,6,7,8,9,10,11,12,13,14,15,16,17,18,19,20,21,22,23] [] ?_
     rw [← hW]
     clear hW
     repeat ((first|refine aqq fun K hK=>?_|refine akk fun K hK=>?_);go_big_quiet_op;refine hK _ ?_;clear hK K)
     refine acc fun K hK=>?_
     go_simp
     refine (nboot_any NX.o).mono ?_
     rintro e w10 ⟨rfl,rfl⟩
     refine hK _ _ (Ext.rfl' _) ?_;clear hK K
     repeat ((first|refine aqq fun K hK=>?_|refine akk fun K hK=>?_);go_big_quiet_op;refine hK _ ?_;clear hK K)
     refine ra_nil ?_
     refine rt_nil ?_
     have XX:=hI (XW.o.tr X9.o)
     go_wp2
     go_roundw
     case rel=>exact ⟨k+1,by omega,by go_num,by rw [HNX.o],XX.o⟩
     case measure=>simp [intOf];omega
    ·have g2:(f2'==s2.bt)=false:=by simpa using h2
     have HNX:Hid (cntC L i s2.bt (k+1)=CN):=hI (by
      unfold cntC
      rw [HCX.o,← HCN.o]
      simp only [g1,g2]
      simp)
     clear h1 h2
     go_upto_region 24 with fail
     obtain ⟨W9,hW⟩:∃ W9,W9=wr.drew:=⟨_,rfl⟩
     have X9:Hid (Ext wr W9):=hI (by rw [hW];exact Ext.drew wr)
     replace HX:=hI (HX.o.ext X9.o)
     replace SX:=hI (SX.o.ext X9.o)
     replace NX:=hI (NX.o.ext X9.o)
     have g21:=fun d os=>Ext.cell (Ext.reg W9 d os) (Ext.cell X9.o c21)
     have gq0:=fun d os=>Ext.cell (Ext.reg W9 d os) (Ext.cell X9.o q0)
     have gq1:=fun d os=>Ext.cell (Ext.reg W9 d os) (Ext.cell X9.o q1)
     have gs1:∀ d os,(grow (redrawn W9 d) os).cell? ⟨sb,1,none⟩=some (.int .i64 (i:Int)):=fun d os=>Ext.cell (Ext.reg W9 d os) (SX.o.box.c 1 _ rfl)
     refine att [0,1,2,3,4,5,6,7,8,9,10,11,12,13,14,15,16,17,18,19,20,21,22,23] [] ?_
     rw [← hW]
     clear hW
     repeat ((first|refine aqq fun K hK=>?_|refine akk fun K hK=>?_);go_big_quiet_op;refine hK _ ?_;clear hK K)
     refine acc fun K hK=>?_
     go_simp
     refine (nboot_any NX.o).mono ?_
     rintro e w10 ⟨rfl,rfl⟩
     refine hK _ _ (Ext.rfl' _) ?_;clear hK K
     repeat ((first|refine aqq fun K hK=>?_|refine akk fun K hK=>?_);go_big_quiet_op;refine hK _ ?_;clear hK K)
     refine ra_nil ?_
     refine rt_nil ?_
     have XX:=hI (XW.o.tr X9.o)
     go_wp2
     go_roundw
     case rel=>exact ⟨k+1,by omega,by go_num,by rw [HNX.o],XX.o⟩
     case measure=>simp [intOf];omega
   ·have g1:(f1'==(i:Int))=false:=by simpa using h1
    have HNX:Hid (cntC L i s2.bt (k+1)=CN):=hI (by
     unfold cntC
     rw [HCX.o,← HCN.o]
     simp only [g1]
     simp)
    clear h1
    go_upto_region 24 with fail
    obtain ⟨W9,hW⟩:∃ W9,W9=wr.drew:=⟨_,rfl⟩
    have X9:Hid (Ext wr W9):=hI (by rw [hW];exact Ext.drew wr)
    replace HX:=hI (HX.o.ext X9.o)
    replace SX:=hI (SX.o.ext X9.o)
    replace NX:=hI (NX.o.ext X9.o)
    have g21:=fun d os=>Ext.cell (Ext.reg W9 d os) (Ext.cell X9.o c21)
    have gq0:=fun d os=>Ext.cell (Ext.reg W9 d os) (Ext.cell X9.o q0)
    have gq1:=fun d os=>Ext.cell (Ext.reg W9 d os) (Ext.cell X9.o q1)
    have gs1:∀ d os,(grow (redrawn W9 d) os).cell? ⟨sb,1,none⟩=some (.int .i64 (i:Int)):=fun d os=>Ext.cell (Ext.reg W9 d os) (SX.o.box.c 1 _ rfl)
    refine att [0,1,2,3,4,5,6,7,8,9,10,11,12,13,14,15,16,17,18,19,20,21,22,23] [] ?_
    rw [← hW]
    clear hW
    repeat ((first|refine aqq fun K hK=>?_|refine akk fun K hK=>?_);go_big_quiet_op;refine hK _ ?_;clear hK K)
    refine ra_nil ?_
    refine rt_nil ?_
    have XX:=hI (XW.o.tr X9.o)
    go_wp2
    go_roundw
    case rel=>exact ⟨k+1,by omega,by go_num,by rw [HNX.o],XX.o⟩
    case measure=>simp [intOf];omega
  ·have e5:decide ((k:Int)<(L.cs.length:Int))=false:=decide_eq_false (by omega)
   have hkk:k=L.cs.length:=by omega
   have HKE:=hI hkk
   clear hkk
   have CB:=cntC_lt (L:=L) (i:=i) (bt:=s2.bt) k
   have HCN:Hid (cntC L i s2.bt k=cntC L i s2.bt L.cs.length):=hI (by rw [HKE.o])
   rw [HCN.o] at CB ⊢
   obtain ⟨CN,hCN⟩:∃ CN,CN=cntC L i s2.bt L.cs.length:=⟨_,rfl⟩
   have HCE:=hI hCN
   rw [← hCN] at CB ⊢
   clear hCN HCN
   have hw9:wrap64 (CN+1)=CN+1:=by unfold wrap64;omega
   have HL6:Hid (LwV wr o6 lw A { L with W:=W' }):=HX
   go_upto_region 26 with fail
   clear c21 e5
   obtain ⟨W30,hW⟩:∃ W30,W30=wr.drew:=⟨_,rfl⟩
   have X30:Hid (Ext wr W30):=hI (by rw [hW];exact Ext.drew wr)
   replace HX:=hI (HX.o.ext X30.o)
   replace SX:=hI (SX.o.ext X30.o)
   replace NX:=hI (NX.o.ext X30.o)
   have r21:=fun (qq:Wrap (CL [(⟨lw,21,none⟩,.slice A.cp L.cs.length A.cc),(⟨sb,1,none⟩,.int .i64 (i:Int)),(⟨sb,3,none⟩,.int .i64 od),(⟨sb,4,none⟩,.int .i64 lv),(⟨sb,5,none⟩,.string da)]))=>(qq.h.1:qq.w.cell? ⟨lw,21,none⟩=some (.slice A.cp L.cs.length A.cc))
   have s1:=fun (qq:Wrap (CL [(⟨lw,21,none⟩,.slice A.cp L.cs.length A.cc),(⟨sb,1,none⟩,.int .i64 (i:Int)),(⟨sb,3,none⟩,.int .i64 od),(⟨sb,4,none⟩,.int .i64 lv),(⟨sb,5,none⟩,.string da)]))=>(qq.h.2.1:qq.w.cell? ⟨sb,1,none⟩=some (.int .i64 (i:Int)))
   have s3:=fun (qq:Wrap (CL [(⟨lw,21,none⟩,.slice A.cp L.cs.length A.cc),(⟨sb,1,none⟩,.int .i64 (i:Int)),(⟨sb,3,none⟩,.int .i64 od),(⟨sb,4,none⟩,.int .i64 lv),(⟨sb,5,none⟩,.string da)]))=>(qq.h.2.2.1:qq.w.cell? ⟨sb,3,none⟩=some (.int .i64 od))
   have s4:=fun (qq:Wrap (CL [(⟨lw,21,none⟩,.slice A.cp L.cs.length A.cc),(⟨sb,1,none⟩,.int .i64 (i:Int)),(⟨sb,3,none⟩,.int .i64 od),(⟨sb,4,none⟩,.int .i64 lv),(⟨sb,5,none⟩,.string da)]))=>(qq.h.2.2.2.1:qq.w.cell? ⟨sb,4,none⟩=some (.int .i64 lv))
   have s5:=fun (qq:Wrap (CL [(⟨lw,21,none⟩,.slice A.cp L.cs.length A.cc),(⟨sb,1,none⟩,.int .i64 (i:Int)),(⟨sb,3,none⟩,.int .i64 od),(⟨sb,4,none⟩,.int .i64 lv),(⟨sb,5,none⟩,.string da)]))=>(qq.h.2.2.2.2.1:qq.w.cell? ⟨sb,5,none⟩=some (.string da))
   refine htt [0,1,2,3,4,5,6,7,9,10,11,12,13,14,15,16,8,17,18,19,20,21] 22 (CL [(⟨lw,21,none⟩,.slice A.cp L.cs.length A.cc),(⟨sb,1,none⟩,.int .i64 (i:Int)),(⟨sb,3,none⟩,.int .i64 od),(⟨sb,4,none⟩,.int .i64 lv),(⟨sb,5,none⟩,.string da)]) (by rw [← hW];exact ⟨HX.o.box.box.c 21 _ rfl,SX.o.box.c 1 _ rfl,SX.o.box.c 3 _ rfl,SX.o.box.c 4 _ rfl,SX.o.box.c 5 _ rfl,trivial⟩) (fun _=>?_)
   rw [← hW]
   clear hW
   repeat ((first|refine hqq fun K hK=>?_;go_big_quiet_op|refine hss fun K hK=>?_;go_big_quiet_op|refine hkk fun K hK=>?_;go_big_quiet_op);refine hK _ ?_;clear hK K)
   replace MX:=hI (MX.o.tr (Fm.ext MX.o.cl X30.o) lw0)
   clear X30
   refine hcc fun K hK=>?_
   go_simp
   refine (nboot_any NX.o).mono ?_
   rintro e w31 ⟨rfl,rfl⟩
   refine hK (CL [(⟨lw,21,none⟩,.slice A.cp L.cs.length A.cc),(⟨sb,1,none⟩,.int .i64 (i:Int)),(⟨sb,3,none⟩,.int .i64 od),(⟨sb,4,none⟩,.int .i64 lv),(⟨sb,5,none⟩,.string da)]) _ _ (fun _ h=>h) ⟨HX.o.box.box.c 21 _ rfl,SX.o.box.c 1 _ rfl,SX.o.box.c 3 _ rfl,SX.o.box.c 4 _ rfl,SX.o.box.c 5 _ rfl,trivial⟩ (fun _=>?_)
   clear hK K
   repeat ((first|refine hqq fun K hK=>?_;go_big_quiet_op|refine hss fun K hK=>?_;go_big_quiet_op|refine hkk fun K hK=>?_;go_big_quiet_op);refine hK _ ?_;clear hK K)
   refine hcc fun K hK=>?_
   go_simp
   refine hK (CL [(⟨lw,21,none⟩,.slice A.cp L.cs.length A.cc),(⟨sb,1,none⟩,.int .i64 (i:Int)),(⟨sb,3,none⟩,.int .i64 od),(⟨sb,4,none⟩,.int .i64 lv),(⟨sb,5,none⟩,.string da)]) _ _ (fun _ h=>h) ⟨HX.o.box.box.c 21 _ rfl,SX.o.box.c 1 _ rfl,SX.o.box.c 3 _ rfl,SX.o.box.c 4 _ rfl,SX.o.box.c 5 _ rfl,trivial⟩ (fun _=>?_)
   clear hK K
   repeat ((first|refine hqq fun K hK=>?_;go_big_quiet_op|refine hss fun K hK=>?_;go_big_quiet_op|refine hkk fun K hK=>?_;go_big_quiet_op);refine hK _ ?_;clear hK K)
   refine hcc fun K hK=>?_
   go_simp
   have A13:=hI (Ext.alloc W30 (.cells (enA ⟨(i:Int),s2.bt,CN+1,od,lv,0,da⟩) 71))
   replace HX:=hI (HX.o.ext A13.o)
   replace SX:=hI (SX.o.ext A13.o)
   replace MX:=hI (MX.o.tr (Fm.ext MX.o.cl A13.o) lw0)
   refine hK (CL [(⟨lw,21,none⟩,.slice A.cp L.cs.length A.cc),(⟨sb,1,none⟩,.int .i64 (i:Int)),(⟨sb,3,none⟩,.int .i64 od),(⟨sb,4,none⟩,.int .i64 lv),(⟨sb,5,none⟩,.string da)]) _ _ (fun _ h=>h) ⟨HX.o.box.box.c 21 _ rfl,SX.o.box.c 1 _ rfl,SX.o.box.c 3 _ rfl,SX.o.box.c 4 _ rfl,SX.o.box.c 5 _ rfl,trivial⟩ (fun _=>?_)
   clear hK K
   repeat ((first|refine hqq fun K hK=>?_;go_big_quiet_op|refine hss fun K hK=>?_;go_big_quiet_op|refine hkk fun K hK=>?_;go_big_quiet_op);refine hK _ ?_;clear hK K)
   have hl6:L.cs.length≤1000000:=by omega
   refine hcc fun K hK=>?_
   refine oper_appC (by rfl) _ _ _ (by rfl) 71 7 64 _ Tryz.underlying43 info_en (by rfl) (by omega) MX.o.cl HX.o.q.co (by rfl) W30.heap.size 1 (enL ⟨(i:Int),s2.bt,CN+1,od,lv,0,da⟩) (by rfl) (by rfl) (fun j u hu=>news_at (w:=W30) rfl j u hu) (en_one [⟨(i:Int),s2.bt,CN+1,od,lv,0,da⟩] (enL ⟨(i:Int),s2.bt,CN+1,od,lv,0,da⟩) (by simp)) hl6 (by omega) (by decide) (fun d=>d=304) rfl ?_
   intro p34 c34 o34 w34 r34 f34
   have B34:=hI (HX.o.box.fr f34 (by decide) (by omega))
   have S34:=hI (SX.o.fr f34 (by decide) (by omega))
   have b21:=B34.o.box.c 21 _ rfl
   have f21:=B34.o.box.f 21
   obtain ⟨h35,m35⟩:=HX.o.app (A':={ A with cp:=p34,cc:=c34 }) (L':={ L with W:=W',cs:=L.cs++[⟨(i:Int),s2.bt,CN+1,od,lv,0,da⟩] }) ⟨by decide,by decide⟩ f34 (HX.o.q.castd f34 (x:=⟨(i:Int),s2.bt,CN+1,od,lv,0,da⟩) r34 HC9.o) 21 (.slice p34 (L.cs.length+1) c34) (by simp)
   have e35:({ L with W:=W',cs:=L.cs++[⟨(i:Int),s2.bt,CN+1,od,lv,0,da⟩] }:LwD)=L2:=by rw [← HL2.o,HCE.o,← cntC_W (L:=L) (W':=W') (i:=i) (bt:=s2.bt) L.cs.length]
   rw [e35] at h35
   have H35:=hI h35
   have M35:=hI (MX.o.tr m35 lw0)
   refine hK (CL [(⟨lw,21,none⟩,.slice A.cp L.cs.length A.cc),(⟨sb,1,none⟩,.int .i64 (i:Int)),(⟨sb,3,none⟩,.int .i64 od),(⟨sb,4,none⟩,.int .i64 lv),(⟨sb,5,none⟩,.string da)]) _ _ (fun _ h=>h) ⟨B34.o.box.c 21 _ rfl,S34.o.box.c 1 _ rfl,S34.o.box.c 3 _ rfl,S34.o.box.c 4 _ rfl,S34.o.box.c 5 _ rfl,trivial⟩ (fun _=>?_)
   clear hK K
   go_simp
   repeat ((first|refine hqq fun K hK=>?_;go_big_quiet_op|refine hss fun K hK=>?_;go_big_quiet_op|refine hkk fun K hK=>?_;go_big_quiet_op);refine hK _ ?_;clear hK K)
   refine hll fun K hK=>?_
   go_simp
   refine hK _ _ ?_
   clear hK K b21 f21 h35 m35 r34 f34 HX SX NX MX B34 S34 r21 s1 s3 s4 s5 A13 e35
   generalize w34.setCell ⟨lw,21,none⟩ (.slice p34 (L.cs.length+1) c34)=w35 at *
   go_wp2_with fail
   refine (llooks_any M35.o.cl H35.o HLK.o).mono ?_
   rintro e w20 ⟨rfl,o20,A20,h20,f20⟩
   have H20:=hI h20
   have M20:=hI (M35.o.tr f20 lw0)
   clear h20 f20
   go_wp2
   go_ret
   first | exact ⟨rfl,o20,A20,H20.o,M20.o⟩ | exact ⟨rfl,o20,⟨A20,H20.o⟩,M20.o⟩
end
section
open Go Go.Sort Go.RowKit
theorem wstep1_w {w:World} {o:Ow} {wb g:Nat} {W W':WrD} (hcl:Cl w o) (h:WrV w o wb g W) {a k od lv:Int} {da:ByteArray} (hr:W.rl<1000000) (e:{ W with rl:=W.rl+1 }=W') :
  Calls Tryz.prog 44 #[ptrN wb,stV 1 a k od lv da] w fun e w'=>e=.returned (.int .i64 0)∧∃ o',WrV w' o' wb g W'∧Fm wrC o o' w w':=by
 subst e
 refine (wstep1_any hcl h hr).mono ?_
 rintro e w' ⟨h1,h2,h3⟩
 exact ⟨h1,o,h2,h3⟩
variable {w w4:World} {o o4:Ow} {lw:Nat} {A A':LwA} {L L':LwD}
theorem lstep1_any (hcl:Cl w o) (h:LwV w o lw A L) (hs:stepR L=some L') :
  Calls Tryz.prog 16 #[ptrN lw,stV 1 0 0 0 0 ⟨#[]⟩] w fun e w'=>e=.returned (.int .i64 0)∧∃ o' A',LwV w' o' lw A' L'∧Fm lwC o o' w w':=by
 have H:=hI h
 have HC:=hI hcl
 have k9:((1:Int)==9)=false:=rfl
 have k1:((1:Int)==1)=true:=rfl
 have k2:((1:Int)==2)=false:=rfl
 have k7:((1:Int)==7)=false:=rfl
 have k8:((1:Int)==8)=false:=rfl
 unfold stepR at hs
 split at hs
 case isFalse=>cases hs
 rename_i hrl
 have HRL:=hI (of_decide_eq_true hrl)
 obtain ⟨W',hW'⟩:∃ W':WrD,{ L.W with rl:=L.W.rl+1 }=W':=⟨_,rfl⟩
 rw [hW'] at hs
 have HW:=hI hW'
 have HWN:Hid (W'.n=L.n):=hI (by rw [← hW'];exact h.q.nn)
 have HLK:=hI hs
 have HDA:Hid ((⟨#[]⟩:ByteArray).size≤18):=hI (by decide)
 have z1:decide ((1:Int)≤0)=false:=rfl
 have hn7:3≤L.n∧L.n≤7:=by have h1:=h.q.wr.hn;have h2:=h.q.nn;omega
 have HN7:=hI hn7
 clear hcl h hs hrl hW' hn7
 go_enter Tryz.func16,Tryz.ntmps16
 go_upto_region 1 with fail
 change Code.wp _ _ _ _ (w.alloc (.cells (stA 1 0 0 0 0 ⟨#[]⟩) 28))
 have F0:=hI (Fm.made (C:=fun _=>False) HC.o (.cells (stA 1 0 0 0 0 ⟨#[]⟩) 28) 305)
 have SB:=hI (BoxC.made w o 305 (stA 1 0 0 0 0 ⟨#[]⟩) (stL 1 0 0 0 0 ⟨#[]⟩) 28 rfl)
 replace H:Hid (LwV (w.alloc (.cells (stA 1 0 0 0 0 ⟨#[]⟩) 28)) (dye o w.heap.size 305) lw A L):=hI ⟨H.o.box.fr F0.o (by decide) (fun e=>e),H.o.q.fr F0.o (fun d e=>e.elim)⟩
 have M1:=hI (F0.o.mono (C':=lwC) (fun d e=>e.elim))
 clear F0 HC
 generalize w.alloc (.cells (stA 1 0 0 0 0 ⟨#[]⟩) 28)=w1 at *
 generalize dye o w.heap.size 305=o1 at *
 generalize w.heap.size=sb at *
 have d5:=SB.o.box.c 5 _ rfl
 have d0:=SB.o.box.c 0 _ rfl
 have fz:=SB.o.box.f 5
 go_wp2_with fail
 refine (cut_id HDA.o).mono ?_
 rintro e w2 ⟨rfl,rfl⟩
 have P2:=hI (Fm.put (C:=one 305) M1.o.cl SB.o (by decide) rfl 5 (.string ⟨#[]⟩))
 have SB2:Hid (BoxC (w1.setCell ⟨sb,5,none⟩ (.string ⟨#[]⟩)) o1 305 sb (stL 1 0 0 0 0 ⟨#[]⟩)):=hI (SB.o.put 5 (.string ⟨#[]⟩))
 have H2:Hid (LwV (w1.setCell ⟨sb,5,none⟩ (.string ⟨#[]⟩)) o1 lw A L):=hI ⟨H.o.box.fr P2.o (by decide) (by unfold one;omega),H.o.q.fr P2.o (fun d hd=>by unfold one at hd;subst hd;unfold wrC;omega)⟩
 have M2:=hI (M1.o.tr (P2.o.mono (C':=lwC) (fun d hd=>by unfold one at hd;subst hd;unfold lwC;omega)) lw0)
 go_upto_region 5 with fail
 clear d5 d0 fz P2 SB H M1
 generalize w1.setCell ⟨sb,5,none⟩ (.string ⟨#[]⟩)=w2 at *
 obtain ⟨W3,hW⟩:∃ W3,W3=w2.drew:=⟨_,rfl⟩
 have X3:Hid (Ext w2 W3):=hI (by rw [hW];exact Ext.drew w2)
 replace H2:=hI (H2.o.ext X3.o)
 replace SB2:=hI (SB2.o.ext X3.o)
 have g1:∀ d os,(grow (redrawn W3 d) os).cell? ⟨lw,1,none⟩=some (.int .i64 (L.n:Int)):=fun d os=>Ext.cell (Ext.reg W3 d os) (H2.o.box.box.c 1 _ rfl)
 have g0:=fun d os=>Ext.cell (Ext.reg W3 d os) (H2.o.box.box.c 0 _ rfl)
 have gs1:∀ d os,(grow (redrawn W3 d) os).cell? ⟨sb,1,none⟩=some (.int .i64 (0)):=fun d os=>Ext.cell (Ext.reg W3 d os) (SB2.o.box.c 1 _ rfl)
 refine att [0,1,2,3,4,5,6,7,8,9,10,11,12,13,14,15,16,17,18,19,20,21,22] [] ?_
 rw [← hW]
 clear hW
 repeat ((first|refine aqq fun K hK=>?_|refine akk fun K hK=>?_);go_big_quiet_op;refine hK _ ?_;clear hK K)
 refine ra_nil ?_
 refine rt_nil ?_
 have M3:=hI (M2.o.tr (Fm.ext M2.o.cl X3.o) lw0)
 clear X3 M2 g1 g0 gs1
 go_upto_region 6 with fail
 obtain ⟨W5,hW⟩:∃ W5,W5=W3.drew:=⟨_,rfl⟩
 have X5:Hid (Ext W3 W5):=hI (by rw [hW];exact Ext.drew W3)
 replace H2:=hI (H2.o.ext X5.o)
 replace SB2:=hI (SB2.o.ext X5.o)
 have g0:=fun d os=>Ext.cell (Ext.reg W5 d os) (H2.o.box.box.c 0 _ rfl)
 have gs0:=fun d os=>Ext.cell (Ext.reg W5 d os) (SB2.o.box.c 0 _ rfl)
 have gs1:=fun d os=>Ext.cell (Ext.reg W5 d os) (SB2.o.box.c 1 _ rfl)
 have gs2:=fun d os=>Ext.cell (Ext.reg W5 d os) (SB2.o.box.c 2 _ rfl)
 have gs3:=fun d os=>Ext.cell (Ext.reg W5 d os) (SB2.o.box.c 3 _ rfl)
 have gs4:=fun d os=>Ext.cell (Ext.reg W5 d os) (SB2.o.box.c 4 _ rfl)
 have gs5:=fun d os=>Ext.cell (Ext.reg W5 d os) (SB2.o.box.c 5 _ rfl)
 refine att [0,1,2,3,4] [5,6] ?_
 rw [← hW]
 clear hW
 repeat ((first|refine aqq fun K hK=>?_|refine akk fun K hK=>?_);go_big_quiet_op;refine hK _ ?_;clear hK K)
 have M5:=hI (M3.o.tr (Fm.ext M3.o.cl X5.o) lw0)
 clear X5 M3
 refine ra_nil ?_
 refine too fun K hK=>?_
 go_simp
 refine (wstep1_w (k:=0) (a:=0) (od:=0) (lv:=0) (da:=⟨#[]⟩) M5.o.cl H2.o.q.wr HRL.o HW.o).mono ?_
 rintro e w6 ⟨rfl,o6,wr6,f6⟩
 have H6:=hI (H2.o.went f6 wr6 HWN.o)
 have SB6:=hI (SB2.o.fr f6 (by decide) (by unfold wrC;omega))
 have M6:=hI (M5.o.tr (f6.mono wr_lw) lw0)
 clear wr6 f6 H2 SB2 M5 g0 gs0 gs1 gs2 gs3 gs4 gs5
 refine hK _ _ ?_
 clear hK K
 refine too fun K hK=>?_
 go_simp
 refine hK _ _ ?_
 clear hK K
 refine rt_nil ?_
 have d0:=SB6.o.box.c 0 _ rfl
 go_wp2
 go_loopw [7] (fun ai wx=>∃ (a:Nat) (A1:LwA),1≤a∧a≤L.n+1∧ai=.int .i64 (a:Int)∧LwV wx o6 lw A1 { L with W:=W' }∧Fm lwC o o6 w wx) (fun ai _=>L.n+1-(intOf ai).toNat)
 case atStart=>exact ⟨1,A,by omega,by omega,rfl,H6.o,M6.o⟩
 case round=>
  obtain ⟨a,A1,ha1,ha2,rfl,hx,mx⟩:=hrel
  have HX:=hI hx
  have MX:=hI mx
  clear hx mx d0
  have c1:wr.cell? ⟨lw,1,none⟩=some (.int .i64 (L.n:Int)):=HX.o.box.box.c 1 _ rfl
  have c0:wr.cell? ⟨lw,0,none⟩=some (ptrN A1.wb):=HX.o.box.box.c 0 _ rfl
  by_cases hlt:a≤L.n
  ·have e5:decide ((a:Int)≤(L.n:Int))=true:=decide_eq_true (by omega)
   have e5n:decide (a≤L.n)=true:=decide_eq_true hlt
   have f1:(0:Int)≤(a:Int):=by omega
   have f2:(a:Int)<8:=by have:=HN7.o;omega
   have ha8:a<8:=by omega
   have HI:Hid (1≤a∧a≤W'.n):=hI (by rw [HWN.o];exact ⟨ha1,hlt⟩)
   obtain ⟨sd,hsd,-⟩:=HX.o.q.wr.sl a HI.o.1 HI.o.2
   have HSD:=hI hsd
   clear hsd
   go_wp2_with fail
   cases sd with
   | dn bt dv=>
    refine (wnode_dn HX.o.q.wr HI.o HSD.o).mono ?_
    rintro e w9 ⟨rfl,rfl⟩
    go_wp2
    go_roundw
    case rel=>exact ⟨a+1,A1,by omega,by omega,by go_num,HX.o,MX.o⟩
    case measure=>simp [intOf];omega
   | up s=>
    refine (wnode_up HX.o.q.wr HI.o HSD.o).mono ?_
    rintro e w9 ⟨xx,cc,AA,rfl,-,-,-,-,-,-,rfl⟩
    go_upto_region 12 with fail
    clear c0 c1
    obtain ⟨W9,hW⟩:∃ W9,W9=wr.drew:=⟨_,rfl⟩
    have X9:Hid (Ext wr W9):=hI (by rw [hW];exact Ext.drew wr)
    replace HX:=hI (HX.o.ext X9.o)
    have gsl:=fun d os=>Ext.cell (Ext.reg W9 d os) (HX.o.box.box.c (38+a) _ (lwL_sl ha8))
    refine att [0,1,2,3,4,5,6,7,8,9] [10] ?_
    rw [← hW]
    clear hW
    repeat ((first|refine aqq fun K hK=>?_|refine akk fun K hK=>?_);go_big_quiet_op;refine hK _ ?_;clear hK K)
    refine ra_nil ?_
    have cs:=HX.o.box.box.c (38+a) _ (lwL_sl ha8)
    have fz:=HX.o.box.box.f (38+a)
    refine too fun K hK=>?_
    go_simp
    obtain ⟨h8,m8⟩:=HX.o.put (MX.o.cl.ext X9.o) (38+a) (.int .i64 (wrap64 (A1.sl.at a+1))) (lwL_ssl ha8) (fun q=>⟨q.wr,q.nn,q.fo,q.fl,q.fi,q.so,q.vo,q.co,q.mx⟩)
    have H8:=hI h8
    have M8:=hI ((MX.o.tr (Fm.ext MX.o.cl X9.o) lw0).tr m8 lw0)
    refine hK _ _ ?_
    clear hK K h8 m8 cs fz gsl HX MX X9
    refine rt_nil ?_
    generalize W9.setCell ⟨lw,38+a,none⟩ (.int .i64 (wrap64 (A1.sl.at a+1)))=w10 at *
    obtain ⟨A2,hA2⟩:∃ A2:LwA,{ A1 with sl:=A1.sl.set a (wrap64 (A1.sl.at a+1)) }=A2:=⟨_,rfl⟩
    rw [hA2] at H8
    clear hA2
    have c46:w10.cell? ⟨lw,46,none⟩=some (.bool A2.ev):=H8.o.box.box.c 46 _ rfl
    have cs:w10.cell? ⟨lw,38+a,none⟩=some (.int .i64 (A2.sl.at a)):=H8.o.box.box.c (38+a) _ (lwL_sl ha8)
    have fz:=H8.o.box.box.f 46
    obtain ⟨ev,hev⟩:∃ b,A2.ev=b:=⟨_,rfl⟩
    rw [hev] at c46
    clear hev
    cases ev
    ·obtain ⟨h11,m11⟩:=H8.o.put (A':={ A2 with ev:=false }) M8.o.cl 46 (.bool false) rfl (fun q=>⟨q.wr,q.nn,q.fo,q.fl,q.fi,q.so,q.vo,q.co,q.mx⟩)
     have H11:=hI h11
     have M11:=hI (M8.o.tr m11 lw0)
     clear h11 m11
     go_wp2
     go_roundw
     case rel=>exact ⟨a+1,_,by omega,by omega,by go_num,H11.o,M11.o⟩
     case measure=>simp [intOf];omega
    ·obtain ⟨dd,hdd⟩:∃ dd,decide (A2.sl.at a≤2)=dd:=⟨_,rfl⟩
     obtain ⟨h11,m11⟩:=H8.o.put (A':={ A2 with ev:=dd }) M8.o.cl 46 (.bool dd) rfl (fun q=>⟨q.wr,q.nn,q.fo,q.fl,q.fi,q.so,q.vo,q.co,q.mx⟩)
     have H11:=hI h11
     have M11:=hI (M8.o.tr m11 lw0)
     clear h11 m11
     go_wp2
     go_roundw
     case rel=>exact ⟨a+1,_,by omega,by omega,by go_num,H11.o,M11.o⟩
     case measure=>simp [intOf];omega
  ·have e5:decide ((a:Int)≤(L.n:Int))=false:=decide_eq_false (by omega)
   have e5n:decide (a≤L.n)=false:=decide_eq_false hlt
   go_wp2_with fail
   refine (llooks_any MX.o.cl HX.o HLK.o).mono ?_
   rintro e w20 ⟨rfl,o20,A20,h20,f20⟩
   have H20:=hI h20
   have M20:=hI (MX.o.tr f20 lw0)
   clear h20 f20
   go_wp2
   go_ret
   first | exact ⟨rfl,o20,A20,H20.o,M20.o⟩ | exact ⟨rfl,o20,⟨A20,H20.o⟩,M20.o⟩
end
section
open Go Go.Sort Go.RowKit
variable {w w4:World} {o o4:Ow} {wb g:Nat} {W W':WrD}
theorem wtickd_any (hcl:Cl w o) (h:WrV w o wb g W) {k od lv:Int} {da:ByteArray} {i:Nat} {bt dv:Int} (hi:1≤i∧i≤W.n) (hs:W.sl[i-1]?=some (.dn bt dv)) :
  Calls Tryz.prog 66 #[ptrN wb,stV 2 (i:Int) k od lv da] w fun e w'=>e=.returned (.int .i64 5)∧Ext w w':=by
 have HS:=hI hs
 have HI:=hI hi
 have H:=hI h
 have HC:=hI hcl
 have f1:(0:Int)≤(i:Int):=by omega
 have f2:(i:Int)<8:=by have:=h.hn;omega
 have f7:((2:Int)==7)=false:=rfl
 clear hcl h hs hi
 go_enter Tryz.func66,Tryz.ntmps66
 go_upto_region 1 with fail
 change Code.wp _ _ _ _ (w.alloc (.cells (stA 2 (i:Int) k od lv da) 28))
 have A0:=hI (Ext.alloc w (.cells (stA 2 (i:Int) k od lv da) 28))
 have SB:=hI (BoxC.loose HC.o (stA 2 (i:Int) k od lv da) (stL 2 (i:Int) k od lv da) 28 rfl)
 replace H:=hI (H.o.ext A0.o)
 clear HC
 generalize w.alloc (.cells (stA 2 (i:Int) k od lv da) 28)=w1 at *
 generalize w.heap.size=sb at *
 have d1:=SB.o.box.c 1 _ rfl
 go_wp2_with fail
 refine (wis_any H.o (i:Int)).mono ?_
 rw [is_yes HI.o]
 rintro e w2 ⟨rfl,rfl⟩
 go_upto_region 3 with fail
 clear d1
 obtain ⟨W2,hW⟩:∃ W2,W2=w1.drew:=⟨_,rfl⟩
 have X2:Hid (Ext w1 W2):=hI (by rw [hW];exact Ext.drew w1)
 replace H:=hI (H.o.ext X2.o)
 replace SB:=hI (SB.o.ext X2.o)
 have gs1:=fun d os=>Ext.cell (Ext.reg W2 d os) (SB.o.box.c 1 _ rfl)
 refine att [0,1,2,3,4,5,6] [] ?_
 rw [← hW]
 clear hW
 repeat ((first|refine aqq fun K hK=>?_|refine akk fun K hK=>?_);go_big_quiet_op;refine hK _ ?_;clear hK K)
 refine ra_nil ?_
 refine rt_nil ?_
 have d0:=SB.o.box.c 0 _ rfl
 have q1:=(H.o.dn HI.o HS.o).1
 clear gs1
 go_wp2
 go_ret
 exact ⟨rfl,A0.o.tr X2.o⟩
theorem wstep2d_any (hcl:Cl w o) (h:WrV w o wb g W) {k od lv:Int} {da:ByteArray} {i:Nat} {bt dv:Int} (hi:1≤i∧i≤W.n) (hs:W.sl[i-1]?=some (.dn bt dv)) :
  Calls Tryz.prog 44 #[ptrN wb,stV 2 (i:Int) k od lv da] w fun e w'=>e=.returned (.int .i64 5)∧∃ o',WrV w' o' wb g W∧Fm wrC o o' w w':=by
 have CC:=fun (w:World) (hcl:Cl w o) (h:WrV w o wb g W)=>wtickd_any (k:=k) (od:=od) (lv:=lv) (da:=da) hcl h hi hs
 have H:=hI h
 have HC:=hI hcl
 have f1:((2:Int)==1)=false:=rfl
 have f9:((2:Int)==9)=false:=rfl
 have f3:((2:Int)==3)=false:=rfl
 have f4:((2:Int)==4)=false:=rfl
 have f5:((2:Int)==5)=false:=rfl
 have f2:((2:Int)==2)=true:=rfl
 have f6:((2:Int)==6)=false:=rfl
 have f7:((2:Int)==7)=false:=rfl
 have f8:((2:Int)==8)=false:=rfl
 clear hcl h
 go_enter Tryz.func44,Tryz.ntmps44
 go_upto_region 1 with fail
 change Code.wp _ _ _ _ (w.alloc (.cells (stA 2 (i:Int) k od lv da) 28))
 have A0:=hI (Ext.alloc w (.cells (stA 2 (i:Int) k od lv da) 28))
 have SB:=hI (BoxC.loose HC.o (stA 2 (i:Int) k od lv da) (stL 2 (i:Int) k od lv da) 28 rfl)
 replace H:=hI (H.o.ext A0.o)
 have M1:=hI (Fm.ext (C:=wrC) HC.o A0.o)
 have CB:=hI (CC _ M1.o.cl H.o)
 clear A0 HC CC
 generalize w.alloc (.cells (stA 2 (i:Int) k od lv da) 28)=w1 at *
 generalize w.heap.size=sb at *
 have d0:=SB.o.box.c 0 _ rfl
 have d1:=SB.o.box.c 1 _ rfl
 have d2:=SB.o.box.c 2 _ rfl
 have d3:=SB.o.box.c 3 _ rfl
 have d4:=SB.o.box.c 4 _ rfl
 have d5:=SB.o.box.c 5 _ rfl
 go_wp2_with fail
 refine CB.o.mono ?_
 rintro e w9 ⟨rfl,x9⟩
 have H9:=hI (H.o.ext x9)
 have M9:=hI (M1.o.tr (Fm.ext M1.o.cl x9) wr0)
 clear x9
 go_wp2
 go_ret
 exact ⟨rfl,o,H9.o,M9.o⟩
end
section
open Go Go.Sort Go.RowKit
def bareL (n:Nat) (W:WrD):LwD:=⟨W,n,[],E8.all 0,E8.all 0,0,[],[],E8.all 0,E8.all 0⟩
def newL (n:Nat):Option LwD:=(newW n).bind fun W=>foldO lstart (List.range' 1 n) (bareL n W)
def tickD2 (i:Nat) (L:LwD):Option LwD:=match L.W.sl[i-1]? with
 | some (.up _)=>stepT i L
 | some (.dn _ _)=>looksL L
 | none=>none
def tickL (L:LwD) (i:Nat):Option LwD:=tickD2 i L
def ticksL (L:LwD):Option LwD:=foldO tickL (List.range' 1 L.n) L
def mailsL:Nat→LwD→Option LwD
 | 0,L=>some L
 | k+1,L=>match L.W.ns with
  | []=>some L
  | _::_=>(stepM false 0 L).bind (mailsL k)
def roundL (L:LwD):Option LwD:=(stepR L).bind fun L2=>(ticksL L2).bind (mailsL 400)
def roundsL:Nat→LwD→Option LwD
 | 0,L=>some L
 | k+1,L=>(roundL L).bind (roundsL k)
theorem stepT_n {i:Nat} {L L':LwD} (h:stepT i L=some L'):L'.n=L.n:=by
 unfold stepT at h
 obtain ⟨L1,hw,hlk⟩:=Option.bind_eq_some_iff.1 h
 obtain ⟨W',-,-,rfl⟩:=withW_some hw
 exact (looksL_k hlk).2
theorem tickL_n {i:Nat} {L L':LwD} (h:tickL L i=some L'):L'.n=L.n:=by
 unfold tickL tickD2 at h
 split at h
 ·exact stepT_n h
 ·exact (looksL_k h).2
 ·cases h
theorem lstart_n {L L':LwD} {i:Nat} (h:lstart L i=some L'):L'.n=L.n:=by
 unfold lstart at h
 split at h
 ·cases h
  rfl
 ·cases h
theorem newW_n {n:Nat} {W:WrD} (h:newW n=some W):W.n=n:=foldO_n (F:=startN) (fun W i W' h=>startN_n h) _ _ _ h
variable {w w4:World} {o o4:Ow} {lw:Nat} {A A':LwA} {L L':LwD}
abbrev bareA (wb n:Nat):Array Value:=#[ptrN wb,.int .i64 (n:Int),.slice none 0 0,.int .i64 0,.int .i64 0,.int .i64 0,.int .i64 0,.int .i64 0,.int .i64 0,.int .i64 0,.int .i64 0,.int .i64 0,.int .i64 0,.int .i64 0,.int .i64 0,.int .i64 0,.int .i64 0,.int .i64 0,.int .i64 0,.slice none 0 0,.slice none 0 0,.slice none 0 0,.int .i64 0,.int .i64 0,.int .i64 0,.int .i64 0,.int .i64 0,.int .i64 0,.int .i64 0,.int .i64 0,.int .i64 0,.int .i64 0,.int .i64 0,.int .i64 0,.int .i64 0,.int .i64 0,.int .i64 0,.int .i64 0,.int .i64 0,.int .i64 0,.int .i64 0,.int .i64 0,.int .i64 0,.int .i64 0,.int .i64 0,.int .i64 0,.bool true]
def bareB (wb g:Nat):LwA:=⟨wb,g,none,0,[],none,0,none,0,none,0,E8.all 0,true⟩
theorem lw_new {wb g n:Nat} {W:WrD} (hcl:Cl w o) (h:WrV w o wb g W) (hn:W.n=n):LwV (w.alloc (.cells (bareA wb n) 46)) (dye o w.heap.size 300) w.heap.size (bareB wb g) (bareL n W)∧Fm lwC o (dye o w.heap.size 300) w (w.alloc (.cells (bareA wb n) 46)):=by
 have F:=Fm.made (C:=lwC) hcl (.cells (bareA wb n) 46) 300
 have B:=BoxC.made w o 300 (bareA wb n) (lwL (bareB wb g) (bareL n W)) 46 rfl
 have N:=h.fr (Fm.made (C:=fun _=>False) hcl (.cells (bareA wb n) 46) 300) (fun d e=>e.elim)
 generalize w.alloc (.cells (bareA wb n) 46)=w1 at *
 generalize dye o w.heap.size 300=o1 at *
 generalize w.heap.size=sb at *
 exact ⟨⟨B,⟨N,hn,RowC.nil _ _ _ _ _,rfl,fun i r l a b=>by simp [bareL] at b,⟨[],RowC.nil _ _ _ _ _⟩,RowC.nil _ _ _ _ _,RowC.nil _ _ _ _ _,Nat.zero_le _,Nat.zero_le _,Nat.zero_le _,Nat.zero_le _,fun l hl=>by simp [bareL] at hl⟩⟩,F⟩
theorem lmade_any (hcl:Cl w o) {n:Nat} (hn:3≤n∧n≤7) (hs:newL n=some L') :
  Calls Tryz.prog 41 #[.int .i64 (n:Int)] w fun e w'=>∃ lw o' A',e=.returned (ptrN lw)∧LwV w' o' lw A' L'∧Fm lwC o o' w w':=by
 unfold newL at hs
 obtain ⟨W,hw,hf⟩:=Option.bind_eq_some_iff.1 hs
 have HC:=hI hcl
 have HS:=hI hf
 have HW:=hI hw
 have HN:=hI hn
 have hn7:n≤7:=hn.2
 clear hcl hs hn hw hf
 go_enter Tryz.func41,Tryz.ntmps41
 go_wp2_with fail
 refine (wnewW_any HC.o HN.o HW.o).mono ?_
 rintro e w2 ⟨o2,wb,g,rfl,h2,f2⟩
 obtain ⟨h3,m3⟩:=lw_new f2.cl h2 (newW_n HW.o)
 have H3:=hI h3
 have M3:=hI ((f2.mono wr_lw).tr m3 lw0)
 clear h3 m3 h2 f2 HC
 go_upto_region 5 with fail
 change Code.wp _ _ _ _ (w2.alloc (.cells (bareA wb n) 46))
 generalize w2.alloc (.cells (bareA wb n) 46)=w3 at *
 generalize dye o2 w2.heap.size 300=o3 at *
 generalize w2.heap.size=lw at *
 go_wp2
 go_loopw [5] (fun i wr=>∃ (a:Nat) (oa:Ow) (Aa:LwA) (La:LwD),1≤a∧a≤n+1∧i=.int .i64 (a:Int)∧LwV wr oa lw Aa La∧foldO lstart (List.range' a (n+1-a)) La=some L'∧Fm lwC o oa w wr) (fun i _=>n+1-(intOf i).toNat)
 case atStart=>exact ⟨1,o3,_,_,by omega,by omega,rfl,H3.o,by rw [Nat.add_sub_cancel];exact HS.o,M3.o⟩
 case round=>
  obtain ⟨a,oa,Aa,La,ha1,ha2,rfl,hv,hf,ma⟩:=hrel
  have HA:=hI hv
  have HFA:=hI hf
  have MA:=hI ma
  clear hv hf ma H3 M3 HS
  by_cases hlt2:a≤n
  ·have e3:decide ((a:Int)≤(n:Int))=true:=decide_eq_true (by omega)
   have e3n:decide (a≤n)=true:=decide_eq_true hlt2
   have hr:=HFA.o
   rw [show n+1-a=(n+1-(a+1))+1 by omega,List.range'_succ] at hr
   obtain ⟨Lb,ht,hrest⟩:=foldO_cons hr
   have HTK:=hI ht
   have HRB:=hI hrest
   clear hr ht hrest HFA
   go_wp2_with fail
   refine (lstart_any MA.o.cl HA.o HTK.o).mono ?_
   rintro e w5 ⟨rfl,o5,A5,h5,m5⟩
   have H5:=hI h5
   have M5:=hI (MA.o.tr m5 lw0)
   clear h5 m5
   go_wp2
   go_roundw
   case rel=>exact ⟨a+1,o5,A5,Lb,by omega,by omega,by go_num,H5.o,HRB.o,M5.o⟩
   case measure=>simp [intOf];omega
  ·have e3:decide ((a:Int)≤(n:Int))=false:=decide_eq_false (by omega)
   have e3n:decide (a≤n)=false:=decide_eq_false hlt2
   have HW1:Hid (La=L'):=hI (by
    have:=HFA.o
    rw [show n+1-a=0 by omega] at this
    exact Option.some.inj this)
   rw [HW1.o] at HA
   go_wp2
   go_ret
   exact ⟨lw,oa,Aa,rfl,HA.o,MA.o⟩
theorem lstep2d_any (hcl:Cl w o) (h:LwV w o lw A L) {i:Nat} {bt dv:Int} (hi:1≤i∧i≤L.n) (hsl:L.W.sl[i-1]?=some (.dn bt dv)) (hs:looksL L=some L') :
  Calls Tryz.prog 16 #[ptrN lw,stV 2 (i:Int) 0 0 0 ⟨#[]⟩] w fun e w'=>e=.returned (.int .i64 5)∧∃ o' A',LwV w' o' lw A' L'∧Fm lwC o o' w w':=by
 have H:=hI h
 have HC:=hI hcl
 have k9:((2:Int)==9)=false:=rfl
 have k1:((2:Int)==1)=false:=rfl
 have k2:((2:Int)==2)=true:=rfl
 have k7:((2:Int)==7)=false:=rfl
 have k8:((2:Int)==8)=false:=rfl
 have HSL:=hI hsl
 have HWN:Hid (L.W.n=L.n):=hI h.q.nn
 have HLK:=hI hs
 have HDA:Hid ((⟨#[]⟩:ByteArray).size≤18):=hI (by decide)
 have HI:Hid (1≤i∧i≤L.W.n):=hI (by rw [h.q.nn];exact hi)
 have f1:(0:Int)≤(i:Int):=by omega
 have f2:(i:Int)<8:=by have h1:=h.q.wr.hn;have h2:=HI.o;omega
 have z1:decide ((1:Int)≤(i:Int))=true:=decide_eq_true (by omega)
 have z2:decide ((i:Int)≤(L.n:Int))=true:=decide_eq_true (by omega)
 have z2n:decide (i≤L.n)=true:=decide_eq_true (by omega)
 have z1n:decide (1≤i)=true:=decide_eq_true (by omega)
 have z1m:decide (0<i)=true:=decide_eq_true (by omega)
 clear hcl h hs hsl hi
 go_enter Tryz.func16,Tryz.ntmps16
 go_upto_region 1 with fail
 change Code.wp _ _ _ _ (w.alloc (.cells (stA 2 (i:Int) 0 0 0 ⟨#[]⟩) 28))
 have F0:=hI (Fm.made (C:=fun _=>False) HC.o (.cells (stA 2 (i:Int) 0 0 0 ⟨#[]⟩) 28) 305)
 have SB:=hI (BoxC.made w o 305 (stA 2 (i:Int) 0 0 0 ⟨#[]⟩) (stL 2 (i:Int) 0 0 0 ⟨#[]⟩) 28 rfl)
 replace H:Hid (LwV (w.alloc (.cells (stA 2 (i:Int) 0 0 0 ⟨#[]⟩) 28)) (dye o w.heap.size 305) lw A L):=hI ⟨H.o.box.fr F0.o (by decide) (fun e=>e),H.o.q.fr F0.o (fun d e=>e.elim)⟩
 have M1:=hI (F0.o.mono (C':=lwC) (fun d e=>e.elim))
 clear F0 HC
 generalize w.alloc (.cells (stA 2 (i:Int) 0 0 0 ⟨#[]⟩) 28)=w1 at *
 generalize dye o w.heap.size 305=o1 at *
 generalize w.heap.size=sb at *
 have d5:=SB.o.box.c 5 _ rfl
 have d0:=SB.o.box.c 0 _ rfl
 have fz:=SB.o.box.f 5
 go_wp2_with fail
 refine (cut_id HDA.o).mono ?_
 rintro e w2 ⟨rfl,rfl⟩
 have P2:=hI (Fm.put (C:=one 305) M1.o.cl SB.o (by decide) rfl 5 (.string ⟨#[]⟩))
 have SB2:Hid (BoxC (w1.setCell ⟨sb,5,none⟩ (.string ⟨#[]⟩)) o1 305 sb (stL 2 (i:Int) 0 0 0 ⟨#[]⟩)):=hI (SB.o.put 5 (.string ⟨#[]⟩))
 have H2:Hid (LwV (w1.setCell ⟨sb,5,none⟩ (.string ⟨#[]⟩)) o1 lw A L):=hI ⟨H.o.box.fr P2.o (by decide) (by unfold one;omega),H.o.q.fr P2.o (fun d hd=>by unfold one at hd;subst hd;unfold wrC;omega)⟩
 have M2:=hI (M1.o.tr (P2.o.mono (C':=lwC) (fun d hd=>by unfold one at hd;subst hd;unfold lwC;omega)) lw0)
 go_upto_region 5 with fail
 clear d5 d0 fz P2 SB H M1
 generalize w1.setCell ⟨sb,5,none⟩ (.string ⟨#[]⟩)=w2 at *
 obtain ⟨W3,hW⟩:∃ W3,W3=w2.drew:=⟨_,rfl⟩
 have X3:Hid (Ext w2 W3):=hI (by rw [hW];exact Ext.drew w2)
 replace H2:=hI (H2.o.ext X3.o)
 replace SB2:=hI (SB2.o.ext X3.o)
 have g1:∀ d os,(grow (redrawn W3 d) os).cell? ⟨lw,1,none⟩=some (.int .i64 (L.n:Int)):=fun d os=>Ext.cell (Ext.reg W3 d os) (H2.o.box.box.c 1 _ rfl)
 have g0:=fun d os=>Ext.cell (Ext.reg W3 d os) (H2.o.box.box.c 0 _ rfl)
 have gs1:∀ d os,(grow (redrawn W3 d) os).cell? ⟨sb,1,none⟩=some (.int .i64 ((i:Int))):=fun d os=>Ext.cell (Ext.reg W3 d os) (SB2.o.box.c 1 _ rfl)
 refine att [0,1,2,3,4,5,6,7,8,9,10,11,12,13,14,15,16,17,18,19,20,21,22] [] ?_
 rw [← hW]
 clear hW
 repeat ((first|refine aqq fun K hK=>?_|refine akk fun K hK=>?_);go_big_quiet_op;refine hK _ ?_;clear hK K)
 refine acc fun K hK=>?_
 go_simp
 refine (wnode_dn H2.o.q.wr HI.o HSL.o).mono ?_
 rintro e w4 ⟨rfl,rfl⟩
 refine hK _ _ (Ext.rfl' _) ?_;clear hK K
 repeat ((first|refine aqq fun K hK=>?_|refine akk fun K hK=>?_);go_big_quiet_op;refine hK _ ?_;clear hK K)
 refine ra_nil ?_
 refine rt_nil ?_
 have M3:=hI (M2.o.tr (Fm.ext M2.o.cl X3.o) lw0)
 clear X3 M2 g1 g0 gs1
 go_upto_region 6 with fail
 obtain ⟨W5,hW⟩:∃ W5,W5=W3.drew:=⟨_,rfl⟩
 have X5:Hid (Ext W3 W5):=hI (by rw [hW];exact Ext.drew W3)
 replace H2:=hI (H2.o.ext X5.o)
 replace SB2:=hI (SB2.o.ext X5.o)
 have g0:=fun d os=>Ext.cell (Ext.reg W5 d os) (H2.o.box.box.c 0 _ rfl)
 have gs0:=fun d os=>Ext.cell (Ext.reg W5 d os) (SB2.o.box.c 0 _ rfl)
 have gs1:=fun d os=>Ext.cell (Ext.reg W5 d os) (SB2.o.box.c 1 _ rfl)
 have gs2:=fun d os=>Ext.cell (Ext.reg W5 d os) (SB2.o.box.c 2 _ rfl)
 have gs3:=fun d os=>Ext.cell (Ext.reg W5 d os) (SB2.o.box.c 3 _ rfl)
 have gs4:=fun d os=>Ext.cell (Ext.reg W5 d os) (SB2.o.box.c 4 _ rfl)
 have gs5:=fun d os=>Ext.cell (Ext.reg W5 d os) (SB2.o.box.c 5 _ rfl)
 refine att [0,1,2,3,4] [5,6] ?_
 rw [← hW]
 clear hW
 repeat ((first|refine aqq fun K hK=>?_|refine akk fun K hK=>?_);go_big_quiet_op;refine hK _ ?_;clear hK K)
 have M5:=hI (M3.o.tr (Fm.ext M3.o.cl X5.o) lw0)
 clear X5 M3
 refine ra_nil ?_
 refine too fun K hK=>?_
 go_simp
 refine (wstep2d_any (k:=0) (od:=0) (lv:=0) (da:=⟨#[]⟩) M5.o.cl H2.o.q.wr HI.o HSL.o).mono ?_
 rintro e w6 ⟨rfl,o6,wr6,f6⟩
 have H6:=hI (H2.o.went f6 wr6 HWN.o)
 have SB6:=hI (SB2.o.fr f6 (by decide) (by unfold wrC;omega))
 have M6:=hI (M5.o.tr (f6.mono wr_lw) lw0)
 clear wr6 f6 H2 SB2 M5 g0 gs0 gs1 gs2 gs3 gs4 gs5
 refine hK _ _ ?_
 clear hK K
 refine too fun K hK=>?_
 go_simp
 refine hK _ _ ?_
 clear hK K
 refine rt_nil ?_
 have d0:=SB6.o.box.c 0 _ rfl
 go_wp2_with fail
 refine (llooks_any M6.o.cl H6.o HLK.o).mono ?_
 rintro e w20 ⟨rfl,o20,A20,h20,f20⟩
 have H20:=hI h20
 have M20:=hI (M6.o.tr f20 lw0)
 clear h20 f20
 go_wp2
 go_ret
 first | exact ⟨rfl,o20,A20,H20.o,M20.o⟩ | exact ⟨rfl,o20,⟨A20,H20.o⟩,M20.o⟩
theorem lstepD_any (hcl:Cl w o) (h:LwV w o lw A L) {i:Nat} (hi:1≤i∧i≤L.n) (hs:tickL L i=some L') :
  Calls Tryz.prog 16 #[ptrN lw,stV 2 (i:Int) 0 0 0 ⟨#[]⟩] w fun e w'=>(∃ r,e=.returned (.int .i64 r))∧∃ o' A',LwV w' o' lw A' L'∧Fm lwC o o' w w':=by
 unfold tickL tickD2 at hs
 split at hs
 ·refine (lstep2_any hcl h hi hs).mono ?_
  rintro e w' ⟨h1,h2⟩
  exact ⟨⟨_,h1⟩,h2⟩
 ·rename_i hsl
  refine (lstep2d_any hcl h hi hsl hs).mono ?_
  rintro e w' ⟨h1,h2⟩
  exact ⟨⟨_,h1⟩,h2⟩
 ·cases hs
theorem lrounds_any (hcl:Cl w o) (h:LwV w o lw A L) {n:Nat} (hn:n≤1000) (hs:roundsL n L=some L') :
  Calls Tryz.prog 43 #[ptrN lw,.int .i64 (n:Int)] w fun e w'=>e=.returned (.tuple #[])∧∃ o' A',LwV w' o' lw A' L'∧Fm lwC o o' w w':=by
 have H:=hI h
 have HS:=hI hs
 have M0:=hI (Fm.refl (C:=lwC) hcl)
 clear hcl h hs
 go_enter Tryz.func43,Tryz.ntmps43
 go_wp2
 go_loopw [4] (fun v wx=>∃ (i:Nat) (oi:Ow) (Ai:LwA) (Li:LwD),i≤n∧v=.int .i64 (i:Int)∧LwV wx oi lw Ai Li∧roundsL (n-i) Li=some L'∧Fm lwC o oi w wx) (fun v _=>n-(intOf v).toNat)
 case atStart=>exact ⟨0,o,A,L,by omega,rfl,H.o,HS.o,M0.o⟩
 case round=>
  obtain ⟨i,oi,Ai,Li,hi,rfl,hv,hf,ma⟩:=hrel
  have HX:=hI hv
  have HF:=hI hf
  have MX:=hI ma
  clear hv hf ma H M0 HS
  by_cases hlt:i<n
  ·have e5:decide ((i:Int)<(n:Int))=true:=decide_eq_true (by omega)
   have e5n:decide (i<n)=true:=decide_eq_true hlt
   have hr:=HF.o
   rw [show n-i=(n-(i+1))+1 by omega] at hr
   unfold roundsL at hr
   obtain ⟨Lr,hr1,hr2⟩:=Option.bind_eq_some_iff.1 hr
   unfold roundL at hr1
   obtain ⟨L1,hr3,hr4⟩:=Option.bind_eq_some_iff.1 hr1
   obtain ⟨Lt,hr5,hr6⟩:=Option.bind_eq_some_iff.1 hr4
   unfold ticksL at hr5
   have HREST:=hI hr2
   have HREAL:=hI hr3
   have HTICK:=hI hr5
   have HMAIL:=hI hr6
   clear hr hr1 hr2 hr3 hr4 hr5 hr6 HF
   go_wp2_with fail
   refine (lstep1_any MX.o.cl HX.o HREAL.o).mono ?_
   rintro e w1 ⟨rfl,o1,A1,h1,m1⟩
   have H1:=hI h1
   have M1:=hI (MX.o.tr m1 lw0)
   have hn7:=h1.n7
   clear h1 m1 HX MX
   go_wp2
   go_loopw [5] (fun v wx=>∃ (a:Nat) (oa:Ow) (Aa:LwA) (La:LwD),1≤a∧a≤L1.n+1∧v=.int .i64 (a:Int)∧LwV wx oa lw Aa La∧foldO tickL (List.range' a (L1.n+1-a)) La=some Lt∧La.n=L1.n∧Fm lwC o oa w wx) (fun v _=>L1.n+1-(intOf v).toNat)
   case atStart=>exact ⟨1,_,_,L1,by omega,by omega,rfl,H1.o,by rw [Nat.add_sub_cancel];exact HTICK.o,rfl,M1.o⟩
   case round=>
    clear H1 M1 HTICK
    obtain ⟨a,oa,Aa,La,ha1,ha2,rfl,hv,hf,hna,ma⟩:=hrel
    have HX:=hI hv
    have HF:=hI hf
    have HNA:=hI hna
    have MX:=hI ma
    clear hv hf hna ma
    have c1:=HX.o.box.box.c 1 _ rfl
    rw [HNA.o] at c1
    by_cases hlt:a≤L1.n
    ·have e6:decide ((a:Int)≤(L1.n:Int))=true:=decide_eq_true (by omega)
     have e6n:decide (a≤L1.n)=true:=decide_eq_true hlt
     have hr:=HF.o
     rw [show L1.n+1-a=(L1.n+1-(a+1))+1 by omega,List.range'_succ] at hr
     obtain ⟨Lb,ht,hrest⟩:=foldO_cons hr
     have HTK:=hI ht
     have HRB:=hI hrest
     have HAI:Hid (1≤a∧a≤La.n):=hI ⟨ha1,by rw [HNA.o];exact hlt⟩
     have HNB:Hid (Lb.n=L1.n):=hI ((tickL_n ht).trans HNA.o)
     clear hr ht hrest HF
     go_wp2_with fail
     refine (lstepD_any MX.o.cl HX.o HAI.o HTK.o).mono ?_
     rintro e w5 ⟨⟨rr,rfl⟩,oc,Ac,h5,m5⟩
     have HC5:=hI h5
     have MC5:=hI (MX.o.tr m5 lw0)
     clear h5 m5
     go_wp2
     go_roundw
     case rel=>exact ⟨a+1,oc,Ac,Lb,by omega,by omega,by go_num,HC5.o,HRB.o,HNB.o,MC5.o⟩
     case measure=>simp [intOf];omega
    ·have e6:decide ((a:Int)≤(L1.n:Int))=false:=decide_eq_false (by omega)
     have e6n:decide (a≤L1.n)=false:=decide_eq_false hlt
     have HEQ:Hid (La=Lt):=hI (by
      have:=HF.o
      rw [show L1.n+1-a=0 by omega] at this
      exact Option.some.inj this)
     rw [HEQ.o] at HX
     clear HF HNA HEQ
     go_wp2
     go_loopw [6] (fun v wx=>∃ (k:Nat) (oa:Ow) (Aa:LwA) (La:LwD),k≤400∧v=.int .i64 (k:Int)∧LwV wx oa lw Aa La∧mailsL (400-k) La=some Lr∧Fm lwC o oa w wx) (fun v _=>400-(intOf v).toNat)
     case atStart=>exact ⟨0,_,_,_,by omega,rfl,HX.o,HMAIL.o,MX.o⟩
     case round=>
      clear HX MX HMAIL
      obtain ⟨k,oa,Aa,La,hk,rfl,hv,hf,ma⟩:=hrel
      have HX:=hI hv
      have HF:=hI hf
      have MX:=hI ma
      clear hv hf ma
      have c0:=HX.o.box.box.c 0 _ rfl
      by_cases hlt:k<400
      ·have e6:decide ((k:Int)<400)=true:=decide_eq_true (by omega)
       have e6n:decide (k<400)=true:=decide_eq_true hlt
       have hr:=HF.o
       rw [show 400-k=(400-(k+1))+1 by omega] at hr
       unfold mailsL at hr
       go_wp2_with fail
       refine (wnet_any HX.o.q.wr).mono ?_
       rintro e w5 ⟨rfl,rfl⟩
       go_wp2_with fail
       refine (wlen_any HX.o.q.wr.net).mono ?_
       rintro e w5 ⟨rfl,rfl⟩
       split at hr
       ·rename_i hns
        have HEQ:=hI (Option.some.inj hr)
        have HNS:=hI hns
        have e7:decide ((0:Int)<(La.W.ns.length:Int))=false:=decide_eq_false (by rw [HNS.o];simp)
        have e7n:decide (0<La.W.ns.length)=false:=decide_eq_false (by rw [HNS.o];simp)
        have HX2:=HX
        rw [HEQ.o] at HX2
        clear hr hns HF
        go_wp2
        go_roundw
        case rel=>exact ⟨i+1,oa,Aa,Lr,by omega,by go_num,HX2.o,HREST.o,MX.o⟩
        case measure=>simp [intOf];omega
       ·rename_i y ys hns
        obtain ⟨Lb,hb1,hb2⟩:=Option.bind_eq_some_iff.1 hr
        have HB1:=hI hb1
        have HB2:=hI hb2
        have HNS:=hI hns
        have e7:decide ((0:Int)<(La.W.ns.length:Int))=true:=decide_eq_true (by rw [HNS.o];simp only [List.length_cons];omega)
        have e7n:decide (0<La.W.ns.length)=true:=decide_eq_true (by rw [HNS.o];simp)
        clear hr hb1 hb2 hns HF
        go_wp2_with fail
        refine (lstep3_any (k:=0) MX.o.cl HX.o HB1.o).mono ?_
        rintro e w6 ⟨rfl,o6,A6,h6,m6⟩
        have H6:=hI h6
        have M6:=hI (MX.o.tr m6 lw0)
        clear h6 m6
        go_wp2
        go_roundw
        case rel=>exact ⟨k+1,o6,A6,Lb,by omega,by go_num,H6.o,HB2.o,M6.o⟩
        case measure=>simp [intOf];omega
      ·have e6:decide ((k:Int)<400)=false:=decide_eq_false (by omega)
       have e6n:decide (k<400)=false:=decide_eq_false hlt
       have HEQ:Hid (La=Lr):=hI (by
        have:=HF.o
        rw [show 400-k=0 by omega] at this
        exact Option.some.inj this)
       rw [HEQ.o] at HX
       go_wp2
       go_roundw
       case rel=>exact ⟨i+1,oa,Aa,Lr,by omega,by go_num,HX.o,HREST.o,MX.o⟩
       case measure=>simp [intOf];omega
  ·have e5:decide ((i:Int)<(n:Int))=false:=decide_eq_false (by omega)
   have e5n:decide (i<n)=false:=decide_eq_false hlt
   have HEQ:Hid (Li=L'):=hI (by
    have:=HF.o
    rw [show n-i=0 by omega] at this
    exact Option.some.inj this)
   rw [HEQ.o] at HX
   go_wp2
   refine bodyPost_end (v:=.tuple #[]) (by simp [results,Tryz.results43,go_sem]) rfl ?_
   exact ⟨rfl,oi,Ai,HX.o,MX.o⟩
end
section
open Go Go.Sort Go.RowKit
def abB:ByteArray:=⟨#[97,61,98]⟩
def begun3 (W2:WrD):Bool:=match wellW 4 W2 with
 | some W3=>match W3.sl[(1:Nat)]? with
  | some (.up u)=>decide (u.T.length=1)&&(goodN u&&decide (W3.rl=19))
  | _=>false
 | none=>false
def begun2 (W1:WrD):Bool:=match W1.sl[(1:Nat)]? with
 | some (.up s)=>inV s&&(decide (s.ls=1)&&decide (s.mb=7))&&match castW 3 1 1 abB W1 with
  | some W2=>begun3 W2
  | none=>false
 | _=>false
def begun1 (W:WrD):Bool:=match W.sl[(0:Nat)]?,W.sl[(1:Nat)]? with
 | some (.up _),some (.up _)=>match wellW 15 W with
  | some W1=>begun2 W1
  | none=>false
 | _,_=>false
def begunB:Bool:=match newL 3 with
 | some L=>begun1 L.W
 | none=>false
theorem castW_n {i:Nat} {od lv:Int} {da:ByteArray} {W W':WrD} (h:castW i od lv da W=some W'):W'.n=W.n:=by
 unfold castW at h
 split at h
 ·split at h
  ·cases h
  ·split at h
   ·cases h
    rfl
   ·cases h
 ·cases h
theorem wellW_n:∀ (k:Nat) {W W':WrD},wellW k W=some W'→W'.n=W.n
 | 0,W,W',h=>by cases h;rfl
 | k+1,W,W',h=>by
  unfold wellW at h
  obtain ⟨V,h1,h2⟩:=Option.bind_eq_some_iff.1 h
  exact (wellW_n k h2).trans (wellR_n h1)
theorem foldL_n:∀ (l:List Nat) (L L':LwD),foldO lstart l L=some L'→L'.n=L.n
 | [],L,L',h=>by cases h;rfl
 | t::l,L,L',h=>by
  obtain ⟨V,h1,h2⟩:=foldO_cons h
  exact (foldL_n l V L' h2).trans (lstart_n h1)
theorem newL_n {n:Nat} {L:LwD} (h:newL n=some L):L.n=n:=by
 unfold newL at h
 obtain ⟨W,hw,hf⟩:=Option.bind_eq_some_iff.1 h
 exact (foldL_n _ _ _ hf).trans rfl
variable {w w4:World} {o o4:Ow} {lw:Nat} {A A':LwA} {L L':LwD}
theorem lbegun_any (hcl:Cl w o) (hb:begunB=true) :
  Calls Tryz.prog 62 #[] w fun e w'=>e=.returned (.bool true)∧∃ o',Fm lwC o o' w w':=by
 have HC:=hI hcl
 unfold begunB at hb
 split at hb
 case h_2=>cases hb
 rename_i L hL
 have HL:=hI hL
 unfold begun1 at hb
 split at hb
 case h_2=>cases hb
 rename_i s0 s1 hs0 hs1
 split at hb
 case h_2=>cases hb
 rename_i W1 hw1
 unfold begun2 at hb
 split at hb
 case h_2=>cases hb
 rename_i s hs
 rw [Bool.and_eq_true,Bool.and_eq_true,Bool.and_eq_true,decide_eq_true_eq,decide_eq_true_eq] at hb
 obtain ⟨⟨i1,i2,i3⟩,hb⟩:=hb
 split at hb
 case h_2=>cases hb
 rename_i W2 hw2
 unfold begun3 at hb
 split at hb
 case h_2=>cases hb
 rename_i W3 hw3
 split at hb
 case h_2=>cases hb
 rename_i u hu
 rw [Bool.and_eq_true,Bool.and_eq_true,decide_eq_true_eq,decide_eq_true_eq] at hb
 obtain ⟨t1,t2,t3⟩:=hb
 have HS0:=hI hs0
 have HS1:=hI hs1
 have HW1:=hI hw1
 have HS:=hI hs
 have HI:=hI (And.intro i1 (And.intro i2 i3))
 have HW2:=hI hw2
 have HW3:=hI hw3
 have HU:=hI hu
 have HT:=hI (And.intro t1 (And.intro t2 t3))
 have HNL:=hI (newL_n hL)
 clear hcl hL hs0 hs1 hw1 hs i1 i2 i3 hw2 hw3 hu t1 t2 t3
 go_enter Tryz.func62,Tryz.ntmps62
 go_wp2_with fail
 refine (lmade_any (n:=3) HC.o (by decide) HL.o).mono ?_
 rintro e w1 ⟨lw,o1,A,rfl,h1,m1⟩
 have H1:=hI h1
 have M1:=hI m1
 have HN1:Hid (L.W.n=3):=hI (h1.q.nn.trans HNL.o)
 clear h1 m1 HC
 have c0:=H1.o.box.box.c 0 _ rfl
 go_wp2_with fail
 refine (wnode_up (i:=1) H1.o.q.wr ⟨by decide,by rw [HN1.o];decide⟩ HS0.o).mono ?_
 rintro e w9 ⟨xx,cc,AA,rfl,-,-,-,-,-,-,rfl⟩
 go_wp2_with fail
 obtain ⟨x2,c2,A2,q1,q2,-⟩:=H1.o.q.wr.up (i:=2) ⟨by decide,by rw [HN1.o];decide⟩ HS1.o
 refine (wclient_any (i:=2) H1.o.q.wr ⟨by decide,by rw [HN1.o];decide⟩ q2).mono ?_
 rintro e w9 ⟨rfl,rfl⟩
 clear q1 q2
 go_wp2_with fail
 refine (wdisk_any (i:=3) H1.o.q.wr ⟨by decide,by rw [HN1.o];decide⟩).mono ?_
 rintro e w9 ⟨rfl,rfl⟩
 go_wp2_with fail
 refine (wnode_no (z:=4) H1.o.q.wr (by rw [HN1.o];decide)).mono ?_
 rintro e w9 ⟨rfl,rfl⟩
 go_wp2_with fail
 refine (wstep9_any (k:=15) (a:=0) (od:=0) (lv:=0) (da:=⟨#[]⟩) M1.o.cl H1.o.q.wr (by decide) HW1.o).mono ?_
 rintro e w2 ⟨rfl,o2,g2,f2⟩
 have H2:=hI (H1.o.went f2 g2 ((wellW_n 15 HW1.o).trans H1.o.q.nn))
 have M2:=hI (M1.o.tr (f2.mono wr_lw) lw0)
 have HN2:Hid (W1.n=3):=hI ((wellW_n 15 HW1.o).trans HN1.o)
 clear g2 f2 H1 M1 c0
 have c0:=H2.o.box.box.c 0 _ rfl
 go_wp2_with fail
 refine (wnode_up (i:=2) (W:=W1) H2.o.q.wr ⟨by decide,by rw [HN2.o];decide⟩ HS.o).mono ?_
 rintro e w9 ⟨xx,cc,AA,rfl,-,-,nd,-,-,-,rfl⟩
 go_wp2_with fail
 refine (nview_any nd).mono ?_
 rw [HI.o.1,HI.o.2.1,HI.o.2.2]
 rintro e w3 ⟨rfl,x3⟩
 have H3:=hI (H2.o.ext x3)
 have M3:=hI (M2.o.tr (Fm.ext M2.o.cl x3) lw0)
 clear nd x3 H2 M2 c0
 have c0:=H3.o.box.box.c 0 _ rfl
 go_wp2_with fail
 refine (wstep8_any (i:=3) (k:=0) (od:=1) (lv:=1) (da:=abB) M3.o.cl (W:=W1) H3.o.q.wr ⟨by decide,by rw [HN2.o];decide⟩ HW2.o).mono ?_
 rintro e w4 ⟨rfl,o4,g4,f4⟩
 have H4:=hI (H3.o.went f4 g4 ((castW_n HW2.o).trans H3.o.q.nn))
 have M4:=hI (M3.o.tr (f4.mono wr_lw) lw0)
 have HN4:Hid (W2.n=3):=hI ((castW_n HW2.o).trans HN2.o)
 clear g4 f4 H3 M3 c0
 have c0:=H4.o.box.box.c 0 _ rfl
 go_wp2_with fail
 refine (wstep9_any (k:=4) (a:=0) (od:=0) (lv:=0) (da:=⟨#[]⟩) M4.o.cl (W:=W2) H4.o.q.wr (by decide) HW3.o).mono ?_
 rintro e w5 ⟨rfl,o5,g5,f5⟩
 have H5:=hI (H4.o.went f5 g5 ((wellW_n 4 HW3.o).trans H4.o.q.nn))
 have M5:=hI (M4.o.tr (f5.mono wr_lw) lw0)
 have HN5:Hid (W3.n=3):=hI ((wellW_n 4 HW3.o).trans HN4.o)
 clear g5 f5 H4 M4 c0
 have c0:=H5.o.box.box.c 0 _ rfl
 go_wp2_with fail
 refine (wnode_up (i:=2) (W:=W3) H5.o.q.wr ⟨by decide,by rw [HN5.o];decide⟩ HU.o).mono ?_
 rintro e w9 ⟨xx,cc,AA,rfl,-,-,nd,-,-,-,rfl⟩
 have TT:=hI (ntold_any nd)
 rw [HT.o.1] at TT
 clear nd
 go_wp2_with fail
 refine TT.o.mono ?_
 rintro e w6 ⟨pt,ct,rfl,-,x6⟩
 have H6:=hI (H5.o.ext x6)
 have M6:=hI (M5.o.tr (Fm.ext M5.o.cl x6) lw0)
 clear x6 H5 M5 c0 TT
 have c0:=H6.o.box.box.c 0 _ rfl
 go_wp2_with fail
 refine (wnode_up (i:=2) (W:=W3) H6.o.q.wr ⟨by decide,by rw [HN5.o];decide⟩ HU.o).mono ?_
 rintro e w9 ⟨x7,c7,A7,rfl,-,-,nd,-,-,-,rfl⟩
 have GG:=hI (ngood_any nd)
 rw [HT.o.2.1] at GG
 clear nd
 go_wp2_with fail
 refine GG.o.mono ?_
 rintro e w7 ⟨rfl,x7'⟩
 have H7:=hI (H6.o.ext x7')
 have M7:=hI (M6.o.tr (Fm.ext M6.o.cl x7') lw0)
 clear x7' H6 M6 c0 GG
 have c0:=H7.o.box.box.c 0 _ rfl
 have RR:=hI (wreal_any (W:=W3) H7.o.q.wr)
 rw [HT.o.2.2] at RR
 go_wp2_with fail
 refine RR.o.mono ?_
 rintro e w8 ⟨rfl,rfl⟩
 go_wp2_with fail
 refine (wstep0_any M7.o.cl).mono ?_
 rintro e w8 ⟨rfl,x8⟩
 have M8:=hI (M7.o.tr (Fm.ext M7.o.cl x8) lw0)
 clear x8
 go_wp2
 go_ret
 exact ⟨rfl,_,M8.o⟩
theorem lBegun_any (hcl:Cl w o) (hb:begunB=true) :
  Calls Tryz.prog 40 #[] w fun e w'=>e=.returned (.bool true)∧∃ o',Fm lwC o o' w w':=by
 have B:=hI (lbegun_any hcl hb)
 clear hcl hb
 go_enter Tryz.func40,Tryz.ntmps40
 go_wp2_with fail
 refine B.o.mono ?_
 rintro e w1 ⟨rfl,o1,m1⟩
 have M1:=hI m1
 clear m1
 go_wp2
 go_ret
 exact ⟨rfl,o1,M1.o⟩
theorem tbegun_any (hcl:Cl w o) (hb:begunB=true) :
  Calls Tryz.prog 12 #[] w fun e w'=>e=.returned (.bool true)∧∃ o',Fm lwC o o' w w':=by
 have B:=hI (lBegun_any hcl hb)
 clear hcl hb
 go_enter Tryz.func12,Tryz.ntmps12
 go_wp2_with fail
 refine B.o.mono ?_
 rintro e w1 ⟨rfl,o1,m1⟩
 have M1:=hI m1
 clear m1
 go_wp2
 go_ret
 exact ⟨rfl,o1,M1.o⟩
end
section
open Go Go.Sort Go.RowKit
def topC (d:Nat):Prop:=lwC d∨d=400
theorem top0:¬ topC 0:=by unfold topC lwC wrC;omega
theorem lw_top:∀ d,lwC d→topC d:=fun d h=>.inl h
abbrev topL (lw:Nat):List Value:=[ptrN lw,.bool true]
structure TopV (w:World) (o:Ow) (tb lw:Nat) (A:LwA) (L:LwD):Prop where
 box:BoxC w o 400 tb (topL lw)
 lv:LwV w o lw A L
variable {w w4:World} {o o4:Ow} {tb lw:Nat} {A A':LwA} {L L':LwD}
theorem TopV.ext (h:TopV w o tb lw A L) (k:Ext w w4):TopV w4 o tb lw A L:=⟨h.box.ext k,h.lv.ext k⟩
theorem TopV.go (h:TopV w o tb lw A L) (k:Fm lwC o o4 w w4) (hl:LwV w4 o4 lw A' L'):TopV w4 o4 tb lw A' L':=
 ⟨h.box.fr k (by decide) (by unfold lwC wrC;omega),hl⟩
theorem tmade_any (hcl:Cl w o) {n:Nat} (hn:3≤n∧n≤7) (hs:newL n=some L') :
  Calls Tryz.prog 15 #[.int .i64 (n:Int)] w fun e w'=>∃ tb lw o' A',e=.returned (ptrN tb)∧TopV w' o' tb lw A' L'∧Fm topC o o' w w':=by
 have NW:=hI (lmade_any hcl hn hs)
 clear hcl hn hs
 go_enter Tryz.func15,Tryz.ntmps15
 go_wp2_with fail
 refine NW.o.mono ?_
 rintro e w1 ⟨lw,o1,A1,rfl,h1,m1⟩
 have F:=Fm.made (C:=topC) m1.cl (.cells #[ptrN lw,.bool true] 33) 400
 have B:=hI (BoxC.made w1 o1 400 #[ptrN lw,.bool true] (topL lw) 33 rfl)
 have F0:=Fm.made (C:=fun _=>False) m1.cl (.cells #[ptrN lw,.bool true] 33) 400
 have H1:Hid (LwV (w1.alloc (.cells #[ptrN lw,.bool true] 33)) (dye o1 w1.heap.size 400) lw A1 L'):=hI ⟨h1.box.fr F0 (by decide) (fun e=>e),h1.q.fr F0 (fun d e=>e.elim)⟩
 have M1:=hI ((m1.mono lw_top).tr F top0)
 clear h1 m1 F F0 NW
 go_wp2
 go_ret
 exact ⟨_,lw,_,A1,rfl,⟨B.o,H1.o⟩,M1.o⟩
theorem tcast_any (hcl:Cl w o) (h:TopV w o tb lw A L) {i:Nat} {od lv:Int} {da:ByteArray} (hda:da.size≤18) (hi:1≤i∧i≤L.n) (hs:stepC i od lv da L=some L') :
  Calls Tryz.prog 24 #[ptrN tb,.int .i64 (i:Int),.int .i64 od,.int .i64 lv,.string da] w fun e w'=>e=.returned (.bool true)∧∃ o' A',TopV w' o' tb lw A' L'∧Fm topC o o' w w':=by
 have H:=hI h
 have HC:=hI hcl
 have HS:=hI (lstep8_any hcl h.lv hda hi hs)
 clear hcl h hs hi hda
 have t0:=H.o.box.box.c 0 _ rfl
 have t1:=H.o.box.box.c 1 _ rfl
 go_enter Tryz.func24,Tryz.ntmps24
 go_wp2_with fail
 refine HS.o.mono ?_
 rintro e w3 ⟨rfl,o3,A3,h3,f3⟩
 have H3:=hI (H.o.go f3 h3)
 have M3:=hI (f3.mono lw_top)
 clear h3 f3 HS
 go_wp2
 go_ret
 exact ⟨rfl,o3,A3,H3.o,M3.o⟩
theorem trounds_any (hcl:Cl w o) (h:TopV w o tb lw A L) {n:Nat} (hn:n≤1000) (hs:roundsL n L=some L') :
  Calls Tryz.prog 26 #[ptrN tb,.int .i64 (n:Int)] w fun e w'=>e=.returned (.tuple #[])∧∃ o' A',TopV w' o' tb lw A' L'∧Fm topC o o' w w':=by
 have H:=hI h
 have HS:=hI (lrounds_any hcl h.lv hn hs)
 clear hcl h hs hn
 have t0:=H.o.box.box.c 0 _ rfl
 have t1:=H.o.box.box.c 1 _ rfl
 go_enter Tryz.func26,Tryz.ntmps26
 go_wp2_with fail
 refine HS.o.mono ?_
 rintro e w3 ⟨rfl,o3,A3,h3,f3⟩
 have H3:=hI (H.o.go f3 h3)
 have M3:=hI (f3.mono lw_top)
 clear h3 f3 HS
 go_wp2
 refine bodyPost_end (v:=.tuple #[]) (by simp [results,Tryz.results26,go_sem]) rfl ?_
 exact ⟨rfl,o3,A3,H3.o,M3.o⟩
def fullT (n:Nat):Int:=(2 ^ n:Nat)-1
theorem fullT_is {n:Nat} (h:n≤7):isT (fullT n):=by
 have h1:2 ^ n≤2 ^ 7:=Nat.pow_le_pow_right (by decide) h
 have h2:0<2 ^ n:=Nat.pos_of_ne_zero (by simp)
 unfold isT fullT
 omega
theorem tall_any (h:TopV w o tb lw A L) :
  Calls Tryz.prog 27 #[ptrN tb] w fun e w'=>e=.returned (.int .i64 (fullT L.n))∧w=w':=by
 have hn7:=h.lv.n7
 have t0:=h.box.box.c 0 _ rfl
 have c1:=h.lv.box.box.c 1 _ rfl
 clear h
 obtain ⟨n,hn⟩:∃ n,L.n=n:=⟨_,rfl⟩
 rw [hn] at hn7 c1 ⊢
 clear hn
 have hc:n=3∨n=4∨n=5∨n=6∨n=7:=by omega
 clear hn7
 go_enter Tryz.func27,Tryz.ntmps27
 rcases hc with rfl | rfl | rfl | rfl | rfl
 all_goals
  go_wp2
  go_ret
  exact ⟨rfl,rfl⟩
theorem onceL_k:∀ (l:List Nat) (L L':LwD),foldO onceS l L=some L'→L'.W=L.W∧L'.n=L.n
 | [],L,L',h=>by cases h;exact ⟨rfl,rfl⟩
 | t::l,L,L',h=>by
  obtain ⟨V,h1,h2⟩:=foldO_cons h
  obtain ⟨a,b⟩:=onceL_k l V L' h2
  unfold onceS at h1
  split at h1
  ·cases h1
  ·split at h1
   ·cases h1
    exact ⟨a,b⟩
   ·cases h1
def oneS (s:Int) (L:LwD) (v:Int) (i:Nat):Option Int:=if hasT s (i:Int) then match L.W.sl[i-1]? with
  | some (.up x)=>if goodN x&&(inV x&&(decide (x.mb=s)&&(decide (v=0) || decide (x.ls=v)))) then some x.ls else none
  | _=>none
 else some v
def oneT (s:Int) (L:LwD):Bool:=(foldO (oneS s L) (List.range' 1 L.n) 0).isSome&&(firmOneL L&&(onceL L).isSome)
theorem tone_any (hcl:Cl w o) (h:TopV w o tb lw A L) {s:Int} (hst:isT s) (hs:oneT s L=true) :
  Calls Tryz.prog 18 #[ptrN tb,.int .i64 s] w fun e w'=>e=.returned (.bool true)∧∃ o' A' L2,TopV w' o' tb lw A' L2∧onceL L=some L2∧Fm topC o o' w w':=by
 unfold oneT at hs
 rw [Bool.and_eq_true,Bool.and_eq_true,Option.isSome_iff_exists,Option.isSome_iff_exists] at hs
 obtain ⟨⟨v1,hv1⟩,ho,L2,hL2⟩:=hs
 have H:=hI h
 have HC:=hI hcl
 have HT:=hI hst
 have HV:=hI hv1
 have HO:=hI ho
 have HL2:=hI hL2
 have hn7:=h.lv.n7
 clear hcl h hst hv1 ho hL2
 go_enter Tryz.func18,Tryz.ntmps18
 go_wp2
 go_loopw [5,6] (fun v i wx=>∃ (a:Nat) (va:Int),1≤a∧a≤L.n+1∧i=.int .i64 (a:Int)∧v=.int .i64 va∧foldO (oneS s L) (List.range' a (L.n+1-a)) va=some v1∧Ext w wx) (fun _ i _=>L.n+1-(intOf i).toNat)
 case atStart=>exact ⟨1,0,by omega,by omega,rfl,rfl,by rw [Nat.add_sub_cancel];exact HV.o,Ext.rfl' _⟩
 case round=>
  obtain ⟨a,va,ha1,ha2,rfl,rfl,hf,xx⟩:=hrel
  have HF:=hI hf
  have X:=hI xx
  have HX:=hI (H.o.ext xx)
  clear hf xx HV
  have t0:=HX.o.box.box.c 0 _ rfl
  have t1:=HX.o.box.box.c 1 _ rfl
  have c1:=HX.o.lv.box.box.c 1 _ rfl
  have c0:=HX.o.lv.box.box.c 0 _ rfl
  by_cases hlt:a≤L.n
  ·have e5:decide ((a:Int)≤(L.n:Int))=true:=decide_eq_true (by omega)
   have e5n:decide (a≤L.n)=true:=decide_eq_true hlt
   have hr:=HF.o
   rw [show L.n+1-a=(L.n+1-(a+1))+1 by omega,List.range'_succ] at hr
   obtain ⟨vb,ht,hrest⟩:=foldO_cons hr
   have HTK:=hI ht
   have HRB:=hI hrest
   have HAI:Hid (1≤a∧a≤L.W.n):=hI ⟨ha1,by rw [HX.o.lv.q.nn];exact hlt⟩
   obtain ⟨sd,hsd,-⟩:=HX.o.lv.q.wr.sl a HAI.o.1 HAI.o.2
   have HSD:=hI hsd
   have RH:=hI (fun w=>trhas_any s (a:Int) HT.o ⟨by omega,by omega⟩ w)
   clear hr ht hrest HF hsd
   go_wp2_with fail
   cases hh:hasT s (a:Int)
   ·rw [hh] at RH
    have HEQ:Hid (va=vb):=hI (by
     have:=HTK.o
     unfold oneS at this
     rw [hh] at this
     simpa using this)
    clear hh
    cases sd with
    | dn bt dv=>
     refine (wnode_dn HX.o.lv.q.wr HAI.o HSD.o).mono ?_
     rintro e w9 ⟨rfl,rfl⟩
     go_wp2_with fail
     refine (RH.o _).mono ?_
     rintro e w10 ⟨rfl,x10⟩
     have X10:=hI (X.o.tr x10)
     clear x10 t0 t1 c0 c1
     go_wp2
     go_roundw
     case rel=>exact ⟨a+1,vb,by omega,by omega,by go_num,by rw [HEQ.o],HRB.o,X10.o⟩
     case measure=>simp [intOf];omega
    | up x=>
     refine (wnode_up HX.o.lv.q.wr HAI.o HSD.o).mono ?_
     rintro e w9 ⟨xx,cc,AA,rfl,-,-,-,-,-,-,rfl⟩
     go_wp2_with fail
     refine (RH.o _).mono ?_
     rintro e w10 ⟨rfl,x10⟩
     have X10:=hI (X.o.tr x10)
     clear x10 t0 t1 c0 c1
     go_wp2
     go_roundw
     case rel=>exact ⟨a+1,vb,by omega,by omega,by go_num,by rw [HEQ.o],HRB.o,X10.o⟩
     case measure=>simp [intOf];omega
   ·rw [hh] at RH
    cases sd with
    | dn bt dv=>
     have:=HTK.o
     unfold oneS at this
     rw [hh,HSD.o] at this
     cases this
    | up x=>
     have hk:=HTK.o
     unfold oneS at hk
     rw [hh,HSD.o] at hk
     simp only [if_true] at hk
     split at hk
     case isFalse=>cases hk
     rename_i hck
     rw [Bool.and_eq_true,Bool.and_eq_true,Bool.and_eq_true,Bool.or_eq_true,decide_eq_true_eq,decide_eq_true_eq,decide_eq_true_eq] at hck
     have HCK:=hI hck
     have HEQ:=hI (Option.some.inj hk)
     clear hk hck hh HTK
     refine (wnode_up HX.o.lv.q.wr HAI.o HSD.o).mono ?_
     rintro e w9 ⟨xx,cc,AA,rfl,-,-,nd,-,-,-,rfl⟩
     have ND:=hI nd
     clear nd
     go_wp2_with fail
     refine (RH.o _).mono ?_
     rintro e w10 ⟨rfl,x10⟩
     have N10:=hI (ND.o.ext x10)
     have X10:=hI (X.o.tr x10)
     have GG:=hI (ngood_any N10.o)
     rw [HCK.o.1] at GG
     clear x10 ND X HX t0 t1 c0 c1
     go_wp2_with fail
     refine GG.o.mono ?_
     rintro e w11 ⟨rfl,x11⟩
     have N11:=hI (N10.o.ext x11)
     have X11:=hI (X10.o.tr x11)
     have VV:=hI (nview_any N11.o)
     rw [HCK.o.2.1,HCK.o.2.2.1] at VV
     clear x11 N10 X10 GG
     go_wp2_with fail
     refine VV.o.mono ?_
     rintro e w12 ⟨rfl,x12⟩
     have X12:=hI (X11.o.tr x12)
     have q0:(s != s)=false:=by simp
     clear x12 N11 X11 VV
     simp only [if_true]
     obtain ⟨xl,hxl⟩:∃ z,x.ls=z:=⟨_,rfl⟩
     have HC4:=hI HCK.o.2.2.2
     rw [hxl] at HC4 HEQ ⊢
     clear hxl
     by_cases hv0:va=0
     ·have q1:(va != 0)=false:=by simpa using hv0
      clear hv0
      go_wp2
      go_roundw
      case rel=>exact ⟨a+1,vb,by omega,by omega,by go_num,by rw [← HEQ.o],HRB.o,X12.o⟩
      case measure=>simp [intOf];omega
     ·have q1:(va != 0)=true:=by simpa using hv0
      have q2:(xl != va)=false:=by
       have h1:=HC4.o
       rcases h1 with h1 | h1
       ·exact absurd h1 hv0
       ·simpa using h1
      clear hv0
      go_wp2
      go_roundw
      case rel=>exact ⟨a+1,vb,by omega,by omega,by go_num,by rw [← HEQ.o],HRB.o,X12.o⟩
      case measure=>simp [intOf];omega
  ·have e5:decide ((a:Int)≤(L.n:Int))=false:=decide_eq_false (by omega)
   have e5n:decide (a≤L.n)=false:=decide_eq_false hlt
   have M1:=hI (Fm.ext (C:=topC) HC.o X.o)
   clear hlt ha1 ha2
   go_wp2_with fail
   refine (lone_any HX.o.lv HO.o).mono ?_
   rintro e w2 ⟨rfl,x2⟩
   have H2:=hI (HX.o.ext x2)
   have M2:=hI (M1.o.tr (Fm.ext M1.o.cl x2) top0)
   clear x2 HX X t0 t1 M1 c0 c1
   have t0:=H2.o.box.box.c 0 _ rfl
   have t1:=H2.o.box.box.c 1 _ rfl
   go_wp2_with fail
   refine (lonce_any M2.o.cl H2.o.lv HL2.o).mono ?_
   rintro e w3 ⟨rfl,o3,A3,h3,f3⟩
   have H3:=hI (H2.o.go f3 h3)
   have M3:=hI (M2.o.tr (f3.mono lw_top) top0)
   clear f3 h3
   go_wp2
   go_ret
   exact ⟨rfl,o3,A3,_,H3.o,HL2.o,M3.o⟩
end
section
open Go Go.Sort Go.RowKit
variable {w w4:World} {o o4:Ow} {wb g:Nat} {W W':WrD}
end
section
open Go Go.Sort Go.RowKit
variable {w w4:World} {o o4:Ow} {lw:Nat} {A A':LwA} {L L':LwD}
end
section
open Go Go.Sort Go.RowKit
def wellL (n:Nat):Option LwD:=(newL n).bind (roundsL 20)
theorem withL2_n {L L':LwD} {W:Option WrD} (h:(withW L W).bind looksL=some L'):L'.n=L.n:=by
 obtain ⟨L1,hw,hlk⟩:=Option.bind_eq_some_iff.1 h
 obtain ⟨W',-,-,rfl⟩:=withW_some hw
 exact (looksL_k hlk).2
theorem stepR2_n {L L':LwD} (h:stepR L=some L'):L'.n=L.n:=by
 unfold stepR at h
 split at h
 ·exact (looksL_k h).2
 ·cases h
theorem ticksL_n:∀ (l:List Nat) (L L':LwD),foldO tickL l L=some L'→L'.n=L.n
 | [],L,L',h=>by cases h;rfl
 | t::l,L,L',h=>by
  obtain ⟨V,h1,h2⟩:=foldO_cons h
  exact (ticksL_n l V L' h2).trans (tickL_n h1)
theorem mailsL_n:∀ (k:Nat) (L L':LwD),mailsL k L=some L'→L'.n=L.n
 | 0,L,L',h=>by cases h;rfl
 | k+1,L,L',h=>by
  unfold mailsL at h
  split at h
  ·cases h
   rfl
  ·obtain ⟨V,h1,h2⟩:=Option.bind_eq_some_iff.1 h
   exact (mailsL_n k V L' h2).trans (withL2_n h1)
theorem roundsL_n:∀ (k:Nat) (L L':LwD),roundsL k L=some L'→L'.n=L.n
 | 0,L,L',h=>by cases h;rfl
 | k+1,L,L',h=>by
  unfold roundsL at h
  obtain ⟨V,h1,h2⟩:=Option.bind_eq_some_iff.1 h
  unfold roundL at h1
  obtain ⟨L1,h3,h4⟩:=Option.bind_eq_some_iff.1 h1
  obtain ⟨L2,h5,h6⟩:=Option.bind_eq_some_iff.1 h4
  exact (roundsL_n k V L' h2).trans ((mailsL_n _ _ _ h6).trans ((ticksL_n _ _ _ h5).trans (stepR2_n h3)))
theorem wellL_n {n:Nat} {L:LwD} (h:wellL n=some L):L.n=n:=by
 obtain ⟨V,h1,h2⟩:=Option.bind_eq_some_iff.1 h
 exact (roundsL_n _ _ _ h2).trans (newL_n h1)
variable {w w4:World} {o o4:Ow} {tb lw:Nat} {A A':LwA} {L L':LwD}
theorem twell_any (hcl:Cl w o) {n:Nat} (hn:3≤n∧n≤7) (hs:wellL n=some L') :
  Calls Tryz.prog 22 #[.int .i64 (n:Int)] w fun e w'=>∃ tb lw o' A',e=.returned (ptrN tb)∧TopV w' o' tb lw A' L'∧Fm topC o o' w w':=by
 obtain ⟨V,h1,h2⟩:=Option.bind_eq_some_iff.1 hs
 have MD:=hI (tmade_any hcl hn h1)
 have HR:=hI h2
 clear hcl hs h1 h2
 go_enter Tryz.func22,Tryz.ntmps22
 go_wp2_with fail
 refine MD.o.mono ?_
 rintro e w1 ⟨tb,lw,o1,A1,rfl,h1,m1⟩
 have H1:=hI h1
 have M1:=hI m1
 clear h1 m1 MD
 go_wp2_with fail
 refine (trounds_any (n:=20) M1.o.cl H1.o (by decide) HR.o).mono ?_
 rintro e w2 ⟨rfl,o2,A2,h2,m2⟩
 have H2:=hI h2
 have M2:=hI (M1.o.tr m2 top0)
 clear h2 m2
 go_wp2
 go_ret
 exact ⟨tb,lw,o2,A2,rfl,H2.o,M2.o⟩
end
section
open Go Go.Sort Go.RowKit
def toldB (k:Nat) (L:LwD) (i:Nat):Bool:=match L.W.sl[i-1]? with
 | some (.up x)=>x.T.length==k
 | _=>false
def tellB (n k:Nat) (L:LwD):Bool:=(List.range' 1 n).all (toldB k L)
theorem withL_n {L L':LwD} {W:Option WrD} (h:(withW L W).bind looksL=some L'):L'.n=L.n:=by
 obtain ⟨L1,hw,hlk⟩:=Option.bind_eq_some_iff.1 h
 obtain ⟨W',-,-,rfl⟩:=withW_some hw
 exact (looksL_k hlk).2
theorem stepM_n {b:Bool} {k:Nat} {L L':LwD} (h:stepM b k L=some L'):L'.n=L.n:=withL_n h
theorem stepR_n {L L':LwD} (h:stepR L=some L'):L'.n=L.n:=by
 unfold stepR at h
 split at h
 ·exact (looksL_k h).2
 ·cases h
theorem castL_n {i:Nat} {od lv:Int} {da:ByteArray} {L L':LwD} (h:castL i od lv da L=some L'):L'.n=L.n:=by
 unfold castL at h
 split at h
 ·split at h
  ·cases h
   rfl
  ·cases h
 ·cases h
theorem stepC_n {i:Nat} {od lv:Int} {da:ByteArray} {L L':LwD} (h:stepC i od lv da L=some L'):L'.n=L.n:=by
 unfold stepC at h
 obtain ⟨L2,hs2,hlk⟩:=Option.bind_eq_some_iff.1 h
 obtain ⟨L1,hw,hca⟩:=Option.bind_eq_some_iff.1 hs2
 obtain ⟨W',-,-,rfl⟩:=withW_some hw
 exact (looksL_k hlk).2.trans (show L2.n=L.n from castL_n (L:={ L with W:=W' }) hca)
theorem dataB_size (r:Nat):(dataB r).size≤18:=by show (3:Nat)≤18;decide
end
section
open Go Go.Sort Go.RowKit
def hasM (s:Int) (x:MsD × List EnD):Bool:=hasT s x.1.fr&&hasT s x.1.to
def apM (s:Int):Nat→LwD→Option LwD
 | 0,L=>some L
 | k+1,L=>match L.W.ns with
  | []=>some L
  | x::_=>(stepM (!hasM s x) 0 L).bind (apM s k)
def apR (s:Int) (L:LwD):Option LwD:=(stepR L).bind fun L2=>(ticksL L2).bind (apM s 500)
def apL (s:Int):Nat→LwD→Option LwD
 | 0,L=>some L
 | k+1,L=>(apR s L).bind (apL s k)
theorem apM_n {s:Int}:∀ (k:Nat) (L L':LwD),apM s k L=some L'→L'.n=L.n
 | 0,L,L',h=>by cases h;rfl
 | k+1,L,L',h=>by
  unfold apM at h
  split at h
  ·cases h
   rfl
  ·obtain ⟨V,h1,h2⟩:=Option.bind_eq_some_iff.1 h
   exact (apM_n k V L' h2).trans (stepM_n h1)
theorem apL_n {s:Int}:∀ (k:Nat) (L L':LwD),apL s k L=some L'→L'.n=L.n
 | 0,L,L',h=>by cases h;rfl
 | k+1,L,L',h=>by
  unfold apL at h
  obtain ⟨V,h1,h2⟩:=Option.bind_eq_some_iff.1 h
  unfold apR at h1
  obtain ⟨L1,h3,h4⟩:=Option.bind_eq_some_iff.1 h1
  obtain ⟨L2,h5,h6⟩:=Option.bind_eq_some_iff.1 h4
  exact (apL_n k V L' h2).trans ((apM_n _ _ _ h6).trans ((ticksL_n _ _ _ h5).trans (stepR_n h3)))
theorem may_ids {m:MsD} {L:List EnD} (h:mayM m L=true):isId m.fr∧isId m.to:=by
 have:=(who_iff m).1 (mayM_iff.1 h).1
 unfold isId
 omega
theorem NetN.may {w:World} {o:Ow} {g:Nat} {ns:List (MsD × List EnD)} (h:NetN w o g ns) {x:MsD × List EnD} (hx:x ∈ ns):mayM x.1 x.2=true:=by
 obtain ⟨p,cap,ds,-,-,hm⟩:=h
 exact hm x hx
variable {w w4:World} {o o4:Ow} {tb lw:Nat} {A A':LwA} {L L':LwD}
theorem tapart_any (hcl:Cl w o) (h:TopV w o tb lw A L) {s:Int} (hst:isT s) {n:Nat} (hn:n≤1000) (hs:apL s n L=some L') :
  Calls Tryz.prog 17 #[ptrN tb,.int .i64 s,.int .i64 (n:Int)] w fun e w'=>e=.returned (.tuple #[])∧∃ o' A',TopV w' o' tb lw A' L'∧Fm topC o o' w w':=by
 have H:=hI h
 have HS:=hI hs
 have HT:=hI hst
 have M0:=hI (Fm.refl (C:=topC) hcl)
 clear hcl h hs hst
 go_enter Tryz.func17,Tryz.ntmps17
 go_wp2
 go_loopw [6] (fun v wx=>∃ (i:Nat) (oi:Ow) (Ai:LwA) (Li:LwD),i≤n∧v=.int .i64 (i:Int)∧TopV wx oi tb lw Ai Li∧apL s (n-i) Li=some L'∧Fm topC o oi w wx) (fun v _=>n-(intOf v).toNat)
 case atStart=>exact ⟨0,o,A,L,by omega,rfl,H.o,HS.o,M0.o⟩
 case round=>
  obtain ⟨i,oi,Ai,Li,hi,rfl,hv,hf,ma⟩:=hrel
  have HX:=hI hv
  have HF:=hI hf
  have MX:=hI ma
  clear hv hf ma H M0 HS
  have t0:=HX.o.box.box.c 0 _ rfl
  have t1:=HX.o.box.box.c 1 _ rfl
  by_cases hlt:i<n
  ·have e5:decide ((i:Int)<(n:Int))=true:=decide_eq_true (by omega)
   have e5n:decide (i<n)=true:=decide_eq_true hlt
   have hr:=HF.o
   rw [show n-i=(n-(i+1))+1 by omega] at hr
   unfold apL at hr
   obtain ⟨Lr,hr1,hr2⟩:=Option.bind_eq_some_iff.1 hr
   unfold apR at hr1
   obtain ⟨L1,hr3,hr4⟩:=Option.bind_eq_some_iff.1 hr1
   obtain ⟨Lt,hr5,hr6⟩:=Option.bind_eq_some_iff.1 hr4
   unfold ticksL at hr5
   have HREST:=hI hr2
   have HREAL:=hI hr3
   have HTICK:=hI hr5
   have HMAIL:=hI hr6
   clear hr hr1 hr2 hr3 hr4 hr5 hr6 HF
   go_wp2_with fail
   refine (lstep1_any MX.o.cl HX.o.lv HREAL.o).mono ?_
   rintro e w1 ⟨rfl,o1,A1,h1,m1⟩
   have H1:=hI (HX.o.go m1 h1)
   have M1:=hI (MX.o.tr (m1.mono lw_top) top0)
   have hn7:=h1.n7
   clear h1 m1 HX MX t0 t1
   go_wp2
   go_loopw [7] (fun v wx=>∃ (a:Nat) (oa:Ow) (Aa:LwA) (La:LwD),1≤a∧a≤L1.n+1∧v=.int .i64 (a:Int)∧TopV wx oa tb lw Aa La∧foldO tickL (List.range' a (L1.n+1-a)) La=some Lt∧La.n=L1.n∧Fm topC o oa w wx) (fun v _=>L1.n+1-(intOf v).toNat)
   case atStart=>exact ⟨1,_,_,L1,by omega,by omega,rfl,H1.o,by rw [Nat.add_sub_cancel];exact HTICK.o,rfl,M1.o⟩
   case round=>
    clear H1 M1 HTICK
    obtain ⟨a,oa,Aa,La,ha1,ha2,rfl,hv,hf,hna,ma⟩:=hrel
    have HX:=hI hv
    have HF:=hI hf
    have HNA:=hI hna
    have MX:=hI ma
    clear hv hf hna ma
    have t0:=HX.o.box.box.c 0 _ rfl
    have c1:=HX.o.lv.box.box.c 1 _ rfl
    rw [HNA.o] at c1
    by_cases hlt:a≤L1.n
    ·have e6:decide ((a:Int)≤(L1.n:Int))=true:=decide_eq_true (by omega)
     have e6n:decide (a≤L1.n)=true:=decide_eq_true hlt
     have hr:=HF.o
     rw [show L1.n+1-a=(L1.n+1-(a+1))+1 by omega,List.range'_succ] at hr
     obtain ⟨Lb,ht,hrest⟩:=foldO_cons hr
     have HTK:=hI ht
     have HRB:=hI hrest
     have HAI:Hid (1≤a∧a≤La.n):=hI ⟨ha1,by rw [HNA.o];exact hlt⟩
     have HNB:Hid (Lb.n=L1.n):=hI ((tickL_n ht).trans HNA.o)
     clear hr ht hrest HF
     go_wp2_with fail
     refine (lstepD_any MX.o.cl HX.o.lv HAI.o HTK.o).mono ?_
     rintro e w5 ⟨⟨rr,rfl⟩,oc,Ac,h5,m5⟩
     have HC5:=hI (HX.o.go m5 h5)
     have MC5:=hI (MX.o.tr (m5.mono lw_top) top0)
     clear h5 m5
     go_wp2
     go_roundw
     case rel=>exact ⟨a+1,oc,Ac,Lb,by omega,by omega,by go_num,HC5.o,HRB.o,HNB.o,MC5.o⟩
     case measure=>simp [intOf];omega
    ·have e6:decide ((a:Int)≤(L1.n:Int))=false:=decide_eq_false (by omega)
     have e6n:decide (a≤L1.n)=false:=decide_eq_false hlt
     have HEQ:Hid (La=Lt):=hI (by
      have:=HF.o
      rw [show L1.n+1-a=0 by omega] at this
      exact Option.some.inj this)
     rw [HEQ.o] at HX
     clear HF HNA HEQ
     go_wp2
     go_loopw [8] (fun v wx=>∃ (k:Nat) (oa:Ow) (Aa:LwA) (La:LwD),k≤500∧v=.int .i64 (k:Int)∧TopV wx oa tb lw Aa La∧apM s (500-k) La=some Lr∧Fm topC o oa w wx) (fun v _=>500-(intOf v).toNat)
     case atStart=>exact ⟨0,_,_,_,by omega,rfl,HX.o,HMAIL.o,MX.o⟩
     case round=>
      clear HX MX HMAIL t0 c1
      obtain ⟨k,oa,Aa,La,hk,rfl,hv,hf,ma⟩:=hrel
      have HX:=hI hv
      have HF:=hI hf
      have MX:=hI ma
      clear hv hf ma
      have t0:=HX.o.box.box.c 0 _ rfl
      have c0:=HX.o.lv.box.box.c 0 _ rfl
      by_cases hlt:k<500
      ·have e6:decide ((k:Int)<500)=true:=decide_eq_true (by omega)
       have e6n:decide (k<500)=true:=decide_eq_true hlt
       have hr:=HF.o
       rw [show 500-k=(500-(k+1))+1 by omega] at hr
       unfold apM at hr
       go_wp2_with fail
       refine (wnet_any HX.o.lv.q.wr).mono ?_
       rintro e w5 ⟨rfl,rfl⟩
       go_wp2_with fail
       refine (wlen_any HX.o.lv.q.wr.net).mono ?_
       rintro e w5 ⟨rfl,rfl⟩
       split at hr
       ·rename_i hns
        have HEQ:=hI (Option.some.inj hr)
        have HNS:=hI hns
        have e7:decide ((0:Int)<(La.W.ns.length:Int))=false:=decide_eq_false (by rw [HNS.o];simp)
        have e7n:decide (0<La.W.ns.length)=false:=decide_eq_false (by rw [HNS.o];simp)
        have HX2:=HX
        rw [HEQ.o] at HX2
        clear hr hns HF
        go_wp2
        go_roundw
        case rel=>exact ⟨i+1,oa,Aa,Lr,by omega,by go_num,HX2.o,HREST.o,MX.o⟩
        case measure=>simp [intOf];omega
       ·rename_i y ys hns
        obtain ⟨Lb,hb1,hb2⟩:=Option.bind_eq_some_iff.1 hr
        have HB1:=hI hb1
        have HB2:=hI hb2
        have HNS:=hI hns
        have e7:decide ((0:Int)<(La.W.ns.length:Int))=true:=decide_eq_true (by rw [HNS.o];simp only [List.length_cons];omega)
        have e7n:decide (0<La.W.ns.length)=true:=decide_eq_true (by rw [HNS.o];simp)
        have HY:Hid (La.W.ns[0]?=some y):=hI (by rw [hns];rfl)
        have HMY:Hid (mayM y.1 y.2=true):=hI (HX.o.lv.q.wr.net.may (by rw [hns];simp))
        clear hr hb1 hb2 hns HF
        go_wp2_with fail
        refine (wnet_any HX.o.lv.q.wr).mono ?_
        rintro e w5 ⟨rfl,rfl⟩
        go_wp2_with fail
        refine (wlook2 (k:=0) HX.o.lv.q.wr.net HY.o).mono ?_
        rintro e w6 ⟨pb,nb,cb,rfl,ob,hnb,x6⟩
        have B6:=hI ob.sl
        have HNB:=hI hnb
        have H6:=hI (HX.o.ext x6)
        have M6:=hI (MX.o.tr (Fm.ext MX.o.cl x6) top0)
        have DC:=hI (wdecode_any B6.o HNB.o)
        rw [decM_enc (mayM_ok HMY.o).1 (mayM_ok HMY.o).2 HMY.o] at DC
        obtain ⟨idf,idt⟩:=may_ids HMY.o
        have RF:=hI (fun w=>trhas_any s y.1.fr HT.o idf w)
        have RT:=hI (fun w=>trhas_any s y.1.to HT.o idt w)
        have HHM:Hid (hasM s y=(hasT s y.1.fr&&hasT s y.1.to)):=hI rfl
        obtain ⟨⟨kd,fr,tt,bt,vw,ls,mb,po,cm,nm,ck,ye⟩,EL⟩:=y
        simp only at RF RT HHM DC
        clear ob hnb x6 HX MX t0 c0 idf idt B6
        go_wp2_with fail
        refine DC.o.mono ?_
        rintro e w7 ⟨pe,ce,rfl,-,-,-,x7⟩
        have A8:=hI (x7.tr (Ext.alloc w7 (.cells (msA ⟨kd,fr,tt,bt,vw,ls,mb,po,cm,nm,ck,ye⟩ pe EL.length ce) 76)))
        have MB:=hI (BoxC.loose (M6.o.cl.ext x7) (msA ⟨kd,fr,tt,bt,vw,ls,mb,po,cm,nm,ck,ye⟩ pe EL.length ce) (msL ⟨kd,fr,tt,bt,vw,ls,mb,po,cm,nm,ck,ye⟩ pe EL.length ce) 76 rfl)
        clear x7 DC
        go_upto_region 13 with fail
        change Code.wp _ _ _ _ (w7.alloc (.cells (msA ⟨kd,fr,tt,bt,vw,ls,mb,po,cm,nm,ck,ye⟩ pe EL.length ce) 76))
        generalize w7.alloc (.cells (msA ⟨kd,fr,tt,bt,vw,ls,mb,po,cm,nm,ck,ye⟩ pe EL.length ce) 76)=w8 at *
        generalize w7.heap.size=mb8 at *
        have H8:=hI (H6.o.ext A8.o)
        have M8:=hI (M6.o.tr (Fm.ext M6.o.cl A8.o) top0)
        clear H6 M6 A8
        have b1:=MB.o.box.c 1 _ rfl
        try simp only at b1
        go_wp2_with fail
        refine (RF.o _).mono ?_
        rintro e w9 ⟨rfl,x9⟩
        have H9:=hI (H8.o.ext x9)
        have M9:=hI (M8.o.tr (Fm.ext M8.o.cl x9) top0)
        have MB9:=hI (MB.o.ext x9)
        clear x9 H8 M8 MB b1
        cases hf:hasT s fr
        ·rw [hf] at HHM
         have hd1:=HB1.o
         rw [HHM.o] at hd1
         have HB:=hI hd1
         clear hd1 HB1 hf
         have t0:=H9.o.box.box.c 0 _ rfl
         go_wp2_with fail
         refine (lstep4_any (k:=0) M9.o.cl H9.o.lv HB.o).mono ?_
         rintro e w11 ⟨rfl,o11,A11,h11,m11⟩
         have H11:=hI (H9.o.go m11 h11)
         have M11:=hI (M9.o.tr (m11.mono lw_top) top0)
         clear h11 m11
         go_wp2
         go_roundw
         case rel=>exact ⟨k+1,o11,A11,Lb,by omega,by go_num,H11.o,HB2.o,M11.o⟩
         case measure=>simp [intOf];omega
        ·rw [hf] at HHM
         have b2:=MB9.o.box.c 2 _ rfl
         try simp only at b2
         clear hf
         go_wp2_with fail
         refine (RT.o _).mono ?_
         rintro e w10 ⟨rfl,x10⟩
         replace H9:=hI (H9.o.ext x10)
         replace M9:=hI (M9.o.tr (Fm.ext M9.o.cl x10) top0)
         clear x10 b2 MB9
         have t0:=H9.o.box.box.c 0 _ rfl
         cases ht:hasT s tt
         ·rw [ht] at HHM
          have hd1:=HB1.o
          rw [HHM.o] at hd1
          have HB:=hI hd1
          clear hd1 HB1 ht
          go_wp2_with fail
          refine (lstep4_any (k:=0) M9.o.cl H9.o.lv HB.o).mono ?_
          rintro e w11 ⟨rfl,o11,A11,h11,m11⟩
          have H11:=hI (H9.o.go m11 h11)
          have M11:=hI (M9.o.tr (m11.mono lw_top) top0)
          clear h11 m11
          go_wp2
          go_roundw
          case rel=>exact ⟨k+1,o11,A11,Lb,by omega,by go_num,H11.o,HB2.o,M11.o⟩
          case measure=>simp [intOf];omega
         ·rw [ht] at HHM
          have hd1:=HB1.o
          rw [HHM.o] at hd1
          have HB:=hI hd1
          clear hd1 HB1 ht
          go_wp2_with fail
          refine (lstep3_any (k:=0) M9.o.cl H9.o.lv HB.o).mono ?_
          rintro e w11 ⟨rfl,o11,A11,h11,m11⟩
          have H11:=hI (H9.o.go m11 h11)
          have M11:=hI (M9.o.tr (m11.mono lw_top) top0)
          clear h11 m11
          go_wp2
          go_roundw
          case rel=>exact ⟨k+1,o11,A11,Lb,by omega,by go_num,H11.o,HB2.o,M11.o⟩
          case measure=>simp [intOf];omega
      ·have e6:decide ((k:Int)<500)=false:=decide_eq_false (by omega)
       have e6n:decide (k<500)=false:=decide_eq_false hlt
       have HEQ:Hid (La=Lr):=hI (by
        have:=HF.o
        rw [show 500-k=0 by omega] at this
        exact Option.some.inj this)
       rw [HEQ.o] at HX
       go_wp2
       go_roundw
       case rel=>exact ⟨i+1,oa,Aa,Lr,by omega,by go_num,HX.o,HREST.o,MX.o⟩
       case measure=>simp [intOf];omega
  ·have e5:decide ((i:Int)<(n:Int))=false:=decide_eq_false (by omega)
   have e5n:decide (i<n)=false:=decide_eq_false hlt
   have HEQ:Hid (Li=L'):=hI (by
    have:=HF.o
    rw [show n-i=0 by omega] at this
    exact Option.some.inj this)
   rw [HEQ.o] at HX
   go_wp2
   refine bodyPost_end (v:=.tuple #[]) (by simp [results,Tryz.results17,go_sem]) rfl ?_
   exact ⟨rfl,oi,Ai,HX.o,MX.o⟩
end
section
open Go Go.Sort Go.RowKit
theorem two_n {n:Nat} (h:3≤n∧n≤6):wrap64 (2 ^ min (IntKind.u64.wrap (n:Int)).toNat 64)=((2 ^ n:Nat):Int)∧8≤((2 ^ n:Nat):Int)∧((2 ^ n:Nat):Int)≤64:=by
 have h1:n=3∨n=4∨n=5∨n=6:=by omega
 rcases h1 with rfl | rfl | rfl | rfl <;> exact ⟨by decide +kernel,by decide,by decide⟩
variable {w w4:World} {o o4:Ow} {tb lw:Nat} {A A':LwA} {L L':LwD}
end
end Go.Proofs.YtjhbmbbmjaabcaaGreat
