/-
  Contracts of the program's functions, in order. Conditions stand at each.
-/
import Derived.Test.YtjhbmbbmjaabcaaGreatH3
set_option linter.unusedVariables false
set_option maxRecDepth 8000
set_option maxHeartbeats 8000000
namespace Go.Proofs.YtjhbmbbmjaabcaaGreat
section
open Go Go.Sort Go.RowKit
theorem zcells_len (n:Nat):(Builtin.zeroCells (enA zeroE) n).toList.length=n * 7:=by
 simp [Builtin.zeroCells]
theorem zcells_one (n:Nat):∀ v ∈ (Builtin.zeroCells (enA zeroE) n).toList,v.oneCell'=true:=by
 intro v hv
 simp only [Builtin.zeroCells,Array.toList_map,List.mem_map] at hv
 obtain ⟨i,-,rfl⟩:=hv
 have h7:i % 7<7:=Nat.mod_lt _ (by decide)
 have e:(enA zeroE).size=7:=rfl
 rw [e]
 generalize i % 7=k at h7
 match k,h7 with
 | 0,_=>rfl
 | 1,_=>rfl
 | 2,_=>rfl
 | 3,_=>rfl
 | 4,_=>rfl
 | 5,_=>rfl
 | 6,_=>rfl
theorem run_clear_en (w:World) (ty:TypeId) (b n c:Nat) (hn:0<n) (hc:∀ j,j<n * 7→(w.cell? ⟨b,j,none⟩).isSome=true) (hf:∀ j,w.frozen? ⟨b,j,none⟩=false) :
  (Builtin.clear_ #[43] ty #[.slice (some ⟨b,0,none⟩) n c]).run Tryz.prog w=.ok (.tuple #[]) (w.setCells b 0 (Builtin.zeroCells (enA zeroE) n).toList):=by
 have hst:=run_storeCells_cells (P:=Tryz.prog) b 0 (Builtin.zeroCells (enA zeroE) n).toList 0 w (by
  rw [zcells_len]
  intro j hj
  have:=hc j hj
  simpa using this) (fun j _=>by simpa using hf j) (zcells_one n)
 obtain ⟨m,rfl⟩:∃ m,n=m+1:=⟨n-1,by omega⟩
 simp only [Nat.add_zero] at hst
 simp [Builtin.clear_,run_underlying Tryz.underlying43]
 show ((Sem.run _ (storeCells ⟨b,0,none⟩ (Builtin.zeroCells (enA zeroE) (m+1)).toList) w).andThen fun a w'=>Result.ok (Value.tuple #[]) w')=_
 rw [hst]
 rfl
theorem row_cleared {w:World} {o:Ow} {c n cap b:Nat} {L:List (List Value)} (hcl:Cl w o) (h:RowC 71 7 w o c (some ⟨b,0,none⟩) n cap L) (h1:c≠1) (vs:List Value) :
  RowC 71 7 (w.setCells b 0 vs) o c (some ⟨b,0,none⟩) 0 cap []∧Fm (one c) o o w (w.setCells b 0 vs):=by
 obtain ⟨o1,g1⟩:=owns_lay vs 0 w _ h.row.2.2
 have o2:=owns_less o1 (Nat.zero_le n)
 rw [Nat.zero_mul,List.take_zero] at o2
 exact ⟨⟨⟨rfl,(fun x hx=>by cases hx),o2⟩,h.col⟩,Fm.grown hcl g1 (fun k hk=>by cases hk;rw [h.col b rfl];exact ⟨h1,rfl⟩)⟩
theorem indexz_any {w:World} {p:Option Addr} {n cap k:Nat} {L:List EnD} {a:Value} {f:EnD→Bool} (h:SlS 7 w p n cap (L.map enL)) (hen:∀ (args:Array Value) (w:World),(callFunc k args).run Tryz.prog w=.ok (.enter k args) w) (hF:∀ e w',Ext w w'→Calls Tryz.prog k #[enV e,a] w' fun r w2=>r=.returned (.bool (f e))∧Ext w' w2) :
  Calls Tryz.prog 165 #[.slice p n cap,.func (.func k) #[] #[a]] w fun e w'=>(∃ z:Int,e=.returned (.int .i64 z)∧((z=-1∧L.any f=false)∨∃ i:Nat,z=(i:Int)∧(L.take i).any f=false∧∃ x,L[i]?=some x∧f x=true))∧Ext w w':=by
 have hn:n≤9223372036854775807:=Nat.le_trans h.le h.max
 have N:=hI (en_len h)
 have S:=hI h
 have HF:=hI hF
 clear h hF
 go_enter Tryz.func165,Tryz.ntmps165
 go_wp2
 go_loopw [8] (fun i wr=>∃ k:Nat,k≤n∧i=.int .i64 (k:Int)∧(L.take k).any f=false∧Ext w wr) (fun i _=>n-(intOf i).toNat)
 case atStart=>exact ⟨0,by omega,rfl,rfl,Ext.rfl' _⟩
 case round=>
  obtain ⟨k,hk,rfl,ht,x1⟩:=hrel
  have T:=hI ht
  have X:=hI x1
  clear ht x1
  by_cases hlt:k<n
  ·obtain ⟨b,o,e,hp,hx,c0,c1,c2,c3,c4,c5,c6⟩:=en_at (S.o.ext X.o) k hlt
   have HX:=hI hx
   clear hx
   subst hp
   obtain ⟨f1,f2,f3,f4,f5,f6,dat⟩:=e
   simp only at c0 c1 c2 c3 c4 c5 c6
   have ME:=hI (HF.o ⟨f1,f2,f3,f4,f5,f6,dat⟩ _ X.o)
   cases he:f ⟨f1,f2,f3,f4,f5,f6,dat⟩
   ·have T2:Hid ((L.take (k+1)).any f=false):=hI (by
     rw [List.take_add_one,HX.o,List.any_append,T.o]
     simp [he])
    rw [he] at ME
    clear he
    go_wp2_with fail
    refine ME.o.mono ?_
    rintro e w4 ⟨rfl,x4⟩
    have X4:=hI (X.o.tr x4)
    clear x4
    go_wp2
    go_roundw
    case rel=>exact ⟨k+1,by omega,by go_num,T2.o,X4.o⟩
    case measure=>simp [intOf];omega
   ·have HB:=hI he
    rw [he] at ME
    clear he
    go_wp2_with fail
    refine ME.o.mono ?_
    rintro e w4 ⟨rfl,x4⟩
    have X4:=hI (X.o.tr x4)
    clear x4
    go_wp2
    go_ret
    exact ⟨⟨_,rfl,.inr ⟨k,rfl,T.o,_,HX.o,HB.o⟩⟩,X4.o⟩
  ·have hB:Hid (L.any f=false):=hI (by
    have h1:=T.o
    rwa [List.take_of_length_le (by rw [N.o];omega)] at h1)
   go_wp2
   go_ret
   exact ⟨⟨_,rfl,.inl ⟨rfl,hB.out⟩⟩,X.o⟩
theorem deletef_no {w:World} {p:Option Addr} {n cap k:Nat} {L:List EnD} {a:Value} {f:EnD→Bool} (h:SlS 7 w p n cap (L.map enL)) (hno:L.any f=false) (hen:∀ (args:Array Value) (w:World),(callFunc k args).run Tryz.prog w=.ok (.enter k args) w) (hF:∀ e w',Ext w w'→Calls Tryz.prog k #[enV e,a] w' fun r w2=>r=.returned (.bool (f e))∧Ext w' w2) :
  Calls Tryz.prog 191 #[.slice p n cap,.func (.func k) #[] #[a]] w fun e w'=>e=.returned (.slice p n cap)∧Ext w w':=by
 have S:=hI h
 have HF:=hI hF
 have HN:=hI hno
 clear h hF hno
 go_enter Tryz.func191,Tryz.ntmps191
 go_wp2_with fail
 refine (indexz_any S.o hen HF.o).mono ?_
 rintro e w2 ⟨⟨z,rfl,hz⟩,x2⟩
 have X2:=hI x2
 clear x2
 rcases hz with ⟨rfl,-⟩ | ⟨i,rfl,-,x,hx,hf⟩
 ·go_wp2
  go_ret
  exact ⟨rfl,X2.o⟩
 ·exfalso
  have h1:=HN.o
  rw [List.any_eq_false] at h1
  exact h1 x (List.mem_of_getElem? hx) hf
theorem deletef_all {w:World} {o:Ow} {c n cap k b:Nat} {L:List EnD} {a:Value} {f:EnD→Bool} (hcl:Cl w o) (h:RowC 71 7 w o c (some ⟨b,0,none⟩) n cap (L.map enL)) (h1:1<c) (hn0:0<n) (hall:∀ e ∈ L,f e=true) (hen:∀ (args:Array Value) (w:World),(callFunc k args).run Tryz.prog w=.ok (.enter k args) w) (hF:∀ e w',Ext w w'→Calls Tryz.prog k #[enV e,a] w' fun r w2=>r=.returned (.bool (f e))∧Ext w' w2) :
  Calls Tryz.prog 191 #[.slice (some ⟨b,0,none⟩) n cap,.func (.func k) #[] #[a]] w fun e w'=>e=.returned (.slice (some ⟨b,0,none⟩) 0 cap)∧RowC 71 7 w' o c (some ⟨b,0,none⟩) 0 cap []∧Fm (one c) o o w w':=by
 have hn:n≤9223372036854775807:=Nat.le_trans h.row.sl.le h.row.sl.max
 have hcap:=h.row.sl.le
 have N:=hI (en_len h.row.sl)
 have S:=hI h
 have HF:=hI hF
 have HA:=hI hall
 have HC:=hI hcl
 have H1:=hI h1
 clear h hF hall hcl h1
 go_enter Tryz.func191,Tryz.ntmps191
 go_wp2_with fail
 refine (indexz_any S.o.row.sl hen HF.o).mono ?_
 rintro e w2 ⟨⟨z,rfl,hz⟩,x2⟩
 have X2:=hI x2
 clear x2
 have hz0:z=0:=by
  have hL:0<L.length:=by rw [N.o];exact hn0
  rcases hz with ⟨-,hz⟩ | ⟨i,rfl,hi,-⟩
  ·rw [List.any_eq_false] at hz
   exact absurd (HA.o _ (List.getElem_mem hL)) (hz _ (List.getElem_mem hL))
  ·cases i with
   | zero=>rfl
   | succ i=>
    exfalso
    rw [List.any_eq_false] at hi
    have hm:L[0] ∈ L.take (i+1):=by
     rw [List.mem_take_iff_getElem]
     exact ⟨0,by omega,rfl⟩
    exact hi _ hm (HA.o _ (List.getElem_mem hL))
 subst hz0
 clear hz
 go_wp2
 go_loopw [6,5] (fun i j wr=>∃ k:Nat,1≤k∧k≤n∧i=.int .i64 (k:Int)∧j=.int .i64 0∧Ext w wr) (fun i _ _=>n-(intOf i).toNat)
 case atStart=>exact ⟨1,by omega,by omega,rfl,rfl,X2.o⟩
 case round=>
  obtain ⟨k,hk1,hk,rfl,rfl,x1⟩:=hrel
  clear X2
  have X:=hI x1
  clear x1
  by_cases hlt:k<n
  ·obtain ⟨b',oo,e,hp,hx,c0,c1,c2,c3,c4,c5,c6⟩:=en_at (S.o.row.sl.ext X.o) k hlt
   have HX:=hI hx
   clear hx
   cases hp
   obtain ⟨f1,f2,f3,f4,f5,f6,dat⟩:=e
   simp only [Nat.zero_add] at c0 c1 c2 c3 c4 c5 c6
   have he:=hI (HA.o _ (List.mem_of_getElem? HX.o))
   go_upto_region 8 with fail
   change Code.wp _ _ _ _ (wr.alloc (.cells (enA ⟨f1,f2,f3,f4,f5,f6,dat⟩) 71))
   have EB:=hI (EnBox.new wr ⟨f1,f2,f3,f4,f5,f6,dat⟩ 71)
   have X2:=hI (X.o.tr (Ext.alloc wr (.cells (enA ⟨f1,f2,f3,f4,f5,f6,dat⟩) 71)))
   clear X c0 c1 c2 c3 c4 c5 c6
   generalize wr.alloc (.cells (enA ⟨f1,f2,f3,f4,f5,f6,dat⟩) 71)=w3 at *
   generalize wr.heap.size=eb at *
   have ⟨d0,d1,d2,d3,d4,d5,d6⟩:=EB.o
   simp only at d0 d1 d2 d3 d4 d5 d6
   have ME:=hI (HF.o ⟨f1,f2,f3,f4,f5,f6,dat⟩ _ X2.o)
   rw [he.out] at ME
   go_wp2_with fail
   refine ME.o.mono ?_
   rintro e w4 ⟨rfl,x4⟩
   have X4:=hI (X2.o.tr x4)
   clear x4
   go_wp2
   go_roundw
   case rel=>exact ⟨k+1,by omega,by omega,by go_num,rfl,X4.o⟩
   case measure=>simp [intOf];omega
  ·have S5:=hI (S.o.ext X.o)
   have hk0:k=n:=by omega
   subst hk0
   have FZ:Hid (∀ j,wr.frozen? ⟨b,j,none⟩=false):=hI S5.o.row.2.2.frozenAt
   have CL:Hid (∀ j,j<k * 7→(wr.cell? ⟨b,j,none⟩).isSome=true):=hI (fun j hj=>by
    have hfl:(L.map enL).flatten.length=k * 7:=by rw [flatten_len _ S5.o.row.2.1,S5.o.row.1]
    have:=S5.o.row.2.2.cells (g:=b) rfl j _ (List.getElem?_eq_getElem (by omega))
    rw [Addr.add_lit] at this
    simp only [Nat.zero_add] at this
    rw [this]
    rfl)
   have hcl0:=fun ty=>run_clear_en wr ty b k cap hn0 CL.o FZ.o
   have cut0:=encut_to (some ⟨b,0,none⟩) k cap 0 (Nat.zero_le _)
   have cutF:∀ w:World,(Instr.slice 43 (.slice (some ⟨b,0,none⟩) k cap) (some (.int .i64 0)) none none).run Tryz.prog w=.ok (.slice (some ⟨b,0,none⟩) k cap) w:=fun w=>by
    have:=encut_from (some ⟨b,0,none⟩) k cap 0 (Nat.zero_le _) w
    have e:tailS 7 (some ⟨b,0,none⟩) cap 0=some ⟨b,0,none⟩:=by
     unfold tailS
     split <;> simp [Addr.add]
    rw [e] at this
    exact this
   obtain ⟨R6,F6⟩:=row_cleared (HC.o.ext X.o) S5.o (by have:=H1.o;omega) (Builtin.zeroCells (enA zeroE) k).toList
   have R7:=hI R6
   have F7:=hI ((Fm.ext (C:=one c) HC.o X.o).tr F6 (by unfold one;have:=H1.o;omega))
   clear R6 F6
   go_wp2
   go_ret
   exact ⟨rfl,R7.o,F7.o⟩
theorem done11_any {w:World} {g:Nat} {x e:EnD} (h:EnBox w g e) :
  Calls Tryz.prog 193 #[enV x,.pointer (some ⟨g,0,none⟩)] w fun r w'=>r=.returned (.bool (sameB x e))∧Ext w w':=by
 have B1:=hI (h.ext (Ext.alloc w (.cells (enA x) 71)))
 obtain ⟨f1,f2,f3,f4,f5,f6,fd⟩:=x
 obtain ⟨g1,g2,g3,g4,g5,g6,gd⟩:=e
 have B0:=hI (EnBox.new w ⟨f1,f2,f3,f4,f5,f6,fd⟩ 71)
 clear h
 have ⟨c0,c1,c2,c3,c4,c5,c6⟩:=B0.o
 have ⟨d0,d1,d2,d3,d4,d5,d6⟩:=B1.o
 simp only at c0 c1 c2 c3 c4 c5 c6 d0 d1 d2 d3 d4 d5 d6
 go_enter Tryz.func193,Tryz.ntmps193
 go_wp2_with fail
 refine (same_any (a:=⟨f1,f2,f3,f4,f5,f6,fd⟩) (b:=⟨g1,g2,g3,g4,g5,g6,gd⟩)).mono ?_
 rintro r w2 ⟨rfl,x2⟩
 have X2:=hI ((Ext.alloc w (.cells (enA ⟨f1,f2,f3,f4,f5,f6,fd⟩) 71)).tr x2)
 clear x2
 go_wp2
 go_ret
 exact ⟨rfl,X2.o⟩
theorem done1_any {w:World} {lb n cap:Nat} {p:Option Addr} {S:List EnD} {e:EnD} (hl:w.cell? ⟨lb,0,none⟩=some (.slice p n cap)) (h:SlS 7 w p n cap (S.map enL)) :
  Calls Tryz.prog 192 #[enV e,.pointer (some ⟨lb,0,none⟩)] w fun r w'=>r=.returned (.bool (S.any fun x=>sameB x e))∧Ext w w':=by
 have H:=hI (h.ext (Ext.alloc w (.cells (enA e) 71)))
 clear h
 obtain ⟨f1,f2,f3,f4,f5,f6,fd⟩:=e
 have B0:=hI (EnBox.new w ⟨f1,f2,f3,f4,f5,f6,fd⟩ 71)
 have c0:=Ext.cell (Ext.alloc w (.cells (enA ⟨f1,f2,f3,f4,f5,f6,fd⟩) 71)) hl
 clear hl
 go_enter Tryz.func192,Tryz.ntmps192
 go_wp2_with fail
 refine (containsf_any (f:=fun x=>sameB x ⟨f1,f2,f3,f4,f5,f6,fd⟩) H.o (enter_of Tryz.func193 (by kernel_rfl) (by kernel_rfl)) (fun x w' k=>done11_any (B0.o.ext k))).mono ?_
 rintro r w2 ⟨rfl,x2⟩
 have X2:=hI ((Ext.alloc w (.cells (enA ⟨f1,f2,f3,f4,f5,f6,fd⟩) 71)).tr x2)
 clear x2
 go_wp2
 go_ret
 exact ⟨rfl,X2.o⟩
def doneP (L S:List EnD):List EnD:=L.filter fun e=>!(S.any fun x=>sameB x e)
theorem done_same {L S:List EnD} (h:doneP L S=L):(L.any fun e=>S.any fun x=>sameB x e)=false:=by
 rw [List.any_eq_false]
 intro e he
 have:=(List.filter_eq_self.1 h) e he
 simpa using this
theorem done_none {L S:List EnD} (h:doneP L S=[]):∀ e ∈ L,(S.any fun x=>sameB x e)=true:=by
 intro e he
 have:=(List.filter_eq_nil_iff.1 h) e he
 simpa using this
theorem pdone_no {w:World} {o:Ow} {c g n cap:Nat} {p:Option Addr} {fr bt sq:Int} {L S:List EnD} (hcl:Cl w o) (h:PnV w o c g fr bt sq L) (h1:1<c) (hs:SlC 7 w o p n cap (S.map enL)) (hn:(L.any fun e=>S.any fun x=>sameB x e)=false) :
  Calls Tryz.prog 176 #[.pointer (some ⟨g,0,none⟩),.slice p n cap] w fun e w'=>(∃ z:Int,e=.returned (.int .i64 z))∧PnV w' o c g fr bt sq L∧Fm (two c) o o w w':=by
 have A0:=hI (Ext.alloc w (.cells #[.slice p n cap] 43))
 have LB:Hid ((w.alloc (.cells #[.slice p n cap] 43)).cell? ⟨w.heap.size,0,none⟩=some (.slice p n cap)):=hI (World.cell?_alloc_mark ..)
 have H:=hI (h.ext A0.o)
 have S0:=hI (hs.ext A0.o)
 have HC:=hI (hcl.ext A0.o)
 have M0:=hI (Fm.ext (C:=two c) hcl A0.o)
 have H1:=hI h1
 have HN:=hI hn
 clear h hs hcl h1 hn
 go_enter Tryz.func176,Tryz.ntmps176
 go_upto_region 1 with fail
 change Code.wp _ _ _ _ (w.alloc (.cells #[.slice p n cap] 43))
 clear A0
 generalize w.alloc (.cells #[.slice p n cap] 43)=w0 at *
 generalize w.heap.size=lb at *
 go_wp2_with fail
 refine (nlenp_any H.o).mono ?_
 rintro e w2 ⟨rfl,rfl⟩
 obtain ⟨pq,cq,hp⟩:=H.o
 have HP:=hI hp
 clear hp
 have c3:=HP.o.box.box.c 3 _ rfl
 have HF:Hid (∀ e w',Ext w0 w'→Calls Tryz.prog 192 #[enV e,.pointer (some ⟨lb,0,none⟩)] w' fun r w2=>r=.returned (.bool (S.any fun x=>sameB x e))∧Ext w' w2):=hI (fun e w' k=>done1_any (Ext.cell k LB.o) (S0.o.sl.ext k))
 have HEN:=hI (enter_of Tryz.func192 (by kernel_rfl) (by kernel_rfl))
 go_wp2_with fail
 refine (deletef_no (f:=fun e=>S.any fun x=>sameB x e) HP.o.row.row.sl HN.o HEN.o HF.o).mono ?_
 rintro e w3 ⟨rfl,x3⟩
 have B3:=hI (HP.o.box.ext x3)
 have R3:=hI (HP.o.row.ext x3)
 have C3:=hI (HC.o.ext x3)
 have M3:=hI (M0.o.tr (Fm.ext HC.o x3) (by unfold two;have:=H1.o;omega))
 clear x3 c3
 have c3:=B3.o.box.c 3 _ rfl
 have f3:=B3.o.box.f 3
 have PQ:Hid (PnV (w3.setCell ⟨g,3,none⟩ (.slice pq L.length cq)) o c g fr bt sq L):=hI ⟨pq,cq,B3.o.put 3 _,R3.o.fr (Fm.put (C:=one c) C3.o B3.o (by have:=H1.o;omega) rfl 3 _) (by have:=H1.o;omega) (by unfold one;omega),HP.o.ok,HP.o.le⟩
 have M4:=hI (M3.o.tr (Fm.put C3.o B3.o (by have:=H1.o;omega) (.inl rfl) 3 (.slice pq L.length cq)) (by unfold two;have:=H1.o;omega))
 have c4:=PQ.o
 obtain ⟨pq2,cq2,hp2⟩:=c4
 go_wp2_with fail
 refine (nlenp_any PQ.o).mono ?_
 rintro e w5 ⟨rfl,rfl⟩
 go_wp2
 go_ret
 exact ⟨⟨_,rfl⟩,PQ.o,M4.o⟩
theorem pdone_all {w:World} {o:Ow} {c g n cap:Nat} {p:Option Addr} {fr bt sq:Int} {L S:List EnD} (hcl:Cl w o) (h:PnV w o c g fr bt sq L) (h1:1<c) (hs:SlC 7 w o p n cap (S.map enL)) (hn:∀ e ∈ L,(S.any fun x=>sameB x e)=true) :
  Calls Tryz.prog 176 #[.pointer (some ⟨g,0,none⟩),.slice p n cap] w fun e w'=>(∃ z:Int,e=.returned (.int .i64 z))∧PnV w' o c g fr bt sq []∧Fm (two c) o o w w':=by
 have A0:=hI (Ext.alloc w (.cells #[.slice p n cap] 43))
 have LB:Hid ((w.alloc (.cells #[.slice p n cap] 43)).cell? ⟨w.heap.size,0,none⟩=some (.slice p n cap)):=hI (World.cell?_alloc_mark ..)
 have H:=hI (h.ext A0.o)
 have S0:=hI (hs.ext A0.o)
 have HC:=hI (hcl.ext A0.o)
 have M0:=hI (Fm.ext (C:=two c) hcl A0.o)
 have H1:=hI h1
 have HN:=hI hn
 clear h hs hcl h1 hn
 go_enter Tryz.func176,Tryz.ntmps176
 go_upto_region 1 with fail
 change Code.wp _ _ _ _ (w.alloc (.cells #[.slice p n cap] 43))
 clear A0
 generalize w.alloc (.cells #[.slice p n cap] 43)=w0 at *
 generalize w.heap.size=lb at *
 go_wp2_with fail
 refine (nlenp_any H.o).mono ?_
 rintro e w2 ⟨rfl,rfl⟩
 obtain ⟨pq,cq,hp⟩:=H.o
 have HP:=hI hp
 clear hp
 have c3:=HP.o.box.box.c 3 _ rfl
 have HF:Hid (∀ e w',Ext w0 w'→Calls Tryz.prog 192 #[enV e,.pointer (some ⟨lb,0,none⟩)] w' fun r w2=>r=.returned (.bool (S.any fun x=>sameB x e))∧Ext w' w2):=hI (fun e w' k=>done1_any (Ext.cell k LB.o) (S0.o.sl.ext k))
 have HEN:=hI (enter_of Tryz.func192 (by kernel_rfl) (by kernel_rfl))
 by_cases hL:L=[]
 ·subst hL
  go_wp2_with fail
  refine (deletef_no (f:=fun e=>S.any fun x=>sameB x e) HP.o.row.row.sl rfl HEN.o HF.o).mono ?_
  rintro e w3 ⟨rfl,x3⟩
  have B3:=hI (HP.o.box.ext x3)
  have R3:=hI (HP.o.row.ext x3)
  have C3:=hI (HC.o.ext x3)
  have M3:=hI (M0.o.tr (Fm.ext HC.o x3) (by unfold two;have:=H1.o;omega))
  clear x3 c3
  have c3:=B3.o.box.c 3 _ rfl
  have f3:=B3.o.box.f 3
  have PQ:Hid (PnV (w3.setCell ⟨g,3,none⟩ (.slice pq 0 cq)) o c g fr bt sq []):=hI ⟨pq,cq,B3.o.put 3 _,R3.o.fr (Fm.put (C:=one c) C3.o B3.o (by have:=H1.o;omega) rfl 3 _) (by have:=H1.o;omega) (by unfold one;omega),HP.o.ok,HP.o.le⟩
  have M4:=hI (M3.o.tr (Fm.put C3.o B3.o (by have:=H1.o;omega) (.inl rfl) 3 (.slice pq 0 cq)) (by unfold two;have:=H1.o;omega))
  go_wp2_with fail
  refine (nlenp_any PQ.o).mono ?_
  rintro e w5 ⟨rfl,rfl⟩
  go_wp2
  go_ret
  exact ⟨⟨_,rfl⟩,PQ.o,M4.o⟩
 ·have hl0:0<L.length:=List.length_pos_iff.2 hL
  obtain ⟨b,hb⟩:∃ b,pq=some ⟨b,0,none⟩:=by
   rcases HP.o.row.row.2.2.2 with ⟨hv,hn⟩ | ⟨b,cc,cur,hv,-⟩
   ·injection hv with _ e _
    omega
   ·cases hv
    exact ⟨b,rfl⟩
  subst hb
  go_wp2_with fail
  refine (deletef_all (f:=fun e=>S.any fun x=>sameB x e) HC.o HP.o.row (by have:=H1.o;omega) hl0 HN.o HEN.o HF.o).mono ?_
  rintro e w3 ⟨rfl,r3,m3⟩
  have B3:=hI (HP.o.box.fr m3 (by have:=H1.o;omega) (by unfold one;omega))
  have R3:=hI r3
  have C3:=hI m3.cl
  have M3:=hI (M0.o.tr (m3.mono (fun x hx=>.inr hx)) (by unfold two;have:=H1.o;omega))
  clear r3 m3 c3
  have c3:=B3.o.box.c 3 _ rfl
  have f3:=B3.o.box.f 3
  have PQ:Hid (PnV (w3.setCell ⟨g,3,none⟩ (.slice (some ⟨b,0,none⟩) 0 cq)) o c g fr bt sq []):=hI ⟨some ⟨b,0,none⟩,cq,B3.o.put 3 _,R3.o.fr (Fm.put (C:=one c) C3.o B3.o (by have:=H1.o;omega) rfl 3 _) (by have:=H1.o;omega) (by unfold one;omega),(fun e he=>by cases he),by decide⟩
  have M4:=hI (M3.o.tr (Fm.put C3.o B3.o (by have:=H1.o;omega) (.inl rfl) 3 (.slice (some ⟨b,0,none⟩) 0 cq)) (by unfold two;have:=H1.o;omega))
  go_wp2_with fail
  refine (nlenp_any PQ.o).mono ?_
  rintro e w5 ⟨rfl,rfl⟩
  go_wp2
  go_ret
  exact ⟨⟨_,rfl⟩,PQ.o,M4.o⟩
theorem pdone_any {w:World} {o:Ow} {c g n cap:Nat} {p:Option Addr} {fr bt sq:Int} {L S:List EnD} (hcl:Cl w o) (h:PnV w o c g fr bt sq L) (h1:1<c) (hs:SlC 7 w o p n cap (S.map enL)) (hd:doneP L S=L∨doneP L S=[]) :
  Calls Tryz.prog 176 #[.pointer (some ⟨g,0,none⟩),.slice p n cap] w fun e w'=>(∃ z:Int,e=.returned (.int .i64 z))∧PnV w' o c g fr bt sq (doneP L S)∧Fm (two c) o o w w':=by
 rcases hd with hd | hd
 ·rw [hd]
  exact pdone_no hcl h h1 hs (done_same hd)
 ·rw [hd]
  exact pdone_all hcl h h1 hs (done_none hd)
end
section
open Go Go.Sort Go.RowKit
def namesB (s:ByteArray):Bool:=decide (1≤Lib.indexByte s.data.toList 61)&&(decide (Lib.indexByte s.data.toList 61+1<(s.size:Int))&&decide (s.size≤1000))
theorem names_of {s:ByteArray} (h:namesB s=true):∃ i,Names s i:=by
 unfold namesB at h
 simp only [Bool.and_eq_true,decide_eq_true_eq] at h
 obtain ⟨h1,h2,h3⟩:=h
 exact ⟨(Lib.indexByte s.data.toList 61).toNat,by omega,by omega,by omega,h3⟩
def stepD (m:Nat) (t:TdD):Option Nat:=
 if t.e.od=1 then (if t.e.lv=0 then some m else if mayB t.e&&(namesB t.e.da&&decide (m<100000)) then some (m+1) else none) else some m
def goS (s:NdD):SeD × List TdD × List TdD:=goAll s.cm s.ck s.L.length 0 s.L (⟨true,true,true,true⟩,s.T,[])
def settleS (s:NdD) (m:Nat):NdD:={ s with P:=doneP s.P (s.L.take s.cm.toNat),T:=(goS s).2.1,tm:=m }
def settleO (s:NdD):Option NdD:=
 if (decide ((doneP s.P (s.L.take s.cm.toNat)).length=s.P.length) || (doneP s.P (s.L.take s.cm.toNat)).isEmpty)&&decide ((goS s).2.1.length≤50000) then (foldO stepD (goS s).2.2 s.tm).map (settleS s) else none
def didO (s:NdD):Option (List (MsD × List EnD) × NdD):=(settleO s).map fun s=>(s.out,{ s with out:=[] })
theorem done_len {L S:List EnD} (h:(decide ((doneP L S).length=L.length) || (doneP L S).isEmpty)=true):doneP L S=L∨doneP L S=[]:=by
 simp only [Bool.or_eq_true,decide_eq_true_eq,List.isEmpty_iff] at h
 rcases h with h | h
 ·exact .inl (List.filter_sublist.eq_of_length h)
 ·exact .inr h
theorem mayB_st {e:EnD} (h:mayB e=true):EnOk e∧0≤e.st∧e.st≤1099511627776∧0≤e.od∧e.od≤2:=by
 unfold mayB inB at h
 simp only [Bool.and_eq_true,decide_eq_true_eq] at h
 obtain ⟨⟨a1,a2⟩,⟨b1,b2⟩,⟨c1,c2⟩,⟨d1,d2⟩,⟨e1,e2⟩,⟨f1,f2⟩,g⟩:=h
 unfold EnOk I64
 refine ⟨⟨⟨?_,?_⟩,⟨?_,?_⟩,⟨?_,?_⟩,⟨?_,?_⟩,⟨?_,?_⟩,⟨?_,?_⟩,?_⟩,?_,?_,?_,?_⟩ <;> omega
variable {w:World} {o:Ow} {k x wb jd:Nat} {A:AdD} {s s':NdD}
theorem nsettle_any (hcl:Cl w o) (hk:32≤k) (h:NodeP w o k x wb jd A s) (hs:settleO s=some s') :
  Calls Tryz.prog 152 #[ptrN x] w fun e w'=>e=.returned (.tuple #[])∧∃ o',NodeP w' o' k x wb jd A s'∧Fm (ndC k) o o' w w':=by
 unfold settleO at hs
 split at hs
 case isFalse=>cases hs
 rename_i hd
 rw [Bool.and_eq_true,decide_eq_true_eq] at hd
 obtain ⟨hd,hT⟩:=hd
 replace hd:=done_len hd
 obtain ⟨m',hfo,rfl⟩:=Option.map_eq_some_iff.1 hs
 clear hs
 obtain ⟨c,hc⟩:∃ c:Nat,s.cm=(c:Int):=⟨s.cm.toNat,by have:=h.ok.cm.1;omega⟩
 have hcn:s.cm.toNat=c:=by omega
 have HC:=hI hcl
 have HK:=hI hk
 have HD:=hI hd
 have HT:=hI hT
 have HFO:=hI hfo
 have HCE:=hI hc
 have HCN:=hI hcn
 have H:=hI h
 have c9:=h.c 9 _ rfl
 clear hcl hk hd hT hfo h hcn
 go_enter Tryz.func152,Tryz.ntmps152
 go_wp2_with fail
 refine (lfrom0_any H.o.q.lg).mono ?_
 rintro e w1 ⟨p1,c1,rfl,o1,x1⟩
 have S1:Hid (SlC 7 w1 o p1 s.L.length c1 (s.L.map enL)):=hI (SlC.fresh o1 HC.o (Nat.le_refl _))
 have H1:=hI (H.o.ext x1)
 have M1:=hI (Fm.ext (C:=ndC k) HC.o x1)
 have C1:=hI (HC.o.ext x1)
 clear o1 x1 H HC c9
 go_upto_region 1 with fail
 obtain ⟨K',hK'⟩:∃ K',K'=min c s.L.length:=⟨_,rfl⟩
 have KK:=hI hK'
 have hmin:=run_min (P:=Tryz.prog) c s.L.length K' hK'
 have cut:=encut_to p1 s.L.length c1 K' (by have:=S1.o.sl.le;omega)
 clear hK'
 obtain ⟨Ww1,hW⟩:∃ Ww1,Ww1=w1.drew:=⟨_,rfl⟩
 have X1:Hid (Ext w1 Ww1):=hI (by rw [hW];exact Ext.drew w1)
 replace H1:=hI (H1.o.ext X1.o)
 replace C1:=hI (C1.o.ext X1.o)
 replace S1:=hI (S1.o.ext X1.o)
 have g13:=H1.o.g 13 _ rfl
 have g10:∀ d os,(grow (redrawn Ww1 d) os).cell? ⟨x,10,none⟩=some (.int .i64 (c:Int)):=by rw [← HCE.o];exact H1.o.g 10 _ rfl
 refine att [0,1,2,3,4,5,6,7,8,9,10,11,12] [13] ?_
 rw [← hW]
 clear hW
 repeat ((first|refine aqq fun K hK=>?_|refine akk fun K hK=>?_);go_big_quiet_op;refine hK _ ?_;clear hK K)
 refine ra_nil ?_
 refine too fun K hK=>?_
 go_simp
 have SK:Hid (SlC 7 Ww1 o p1 K' c1 ((s.L.take s.cm.toNat).map enL)):=hI (by
  have h1:=S1.o.sl.take K' (by have:=KK.o;omega)
  rw [← List.map_take] at h1
  have e1:s.L.take K'=s.L.take s.cm.toNat:=by
   rw [HCN.o,KK.o]
   by_cases hcl:c≤s.L.length
   ·rw [Nat.min_eq_left hcl]
   ·rw [Nat.min_eq_right (by omega),List.take_length,List.take_of_length_le (by omega)]
  rw [e1] at h1
  exact ⟨h1,S1.o.lt⟩)
 refine (pdone_any C1.o H1.o.q.pn (by have:=HK.o;omega) SK.o HD.o).mono ?_
 rintro e w3 ⟨⟨z,rfl⟩,pn3,m3⟩
 obtain ⟨N3,F3⟩:=NodeP.mod0 (A':=A) (s':={ s with P:=doneP s.P (s.L.take s.cm.toNat) }) HK.o H1.o m3 (fun d hd=>by unfold two at hd;unfold ndC;omega) (H1.o.q.set_pn HK.o pn3 m3 (fun d hd=>by unfold two at hd;omega)) rfl { H1.o.ok with P:=(fun e he=>H1.o.ok.P e ((List.mem_filter.1 he).1)) }
 have H3:=hI N3
 have S3:=hI (S1.o.fr m3 (by unfold two;have:=HK.o;omega))
 have M3:=hI ((M1.o.tr (Fm.ext M1.o.cl X1.o) (nd0 HK.o)).tr F3 (nd0 HK.o))
 clear pn3 m3 N3 F3 SK S1 H1 M1 C1 X1 g13 g10 hmin cut KK
 refine hK _ _ ?_
 clear hK K
 refine rt_nil ?_
 obtain ⟨s3,hs3⟩:∃ s3,s3={ s with P:=doneP s.P (s.L.take s.cm.toNat) }:=⟨_,rfl⟩
 have hL3:s3.L=s.L:=by rw [hs3]
 have hT3:s3.T=s.T:=by rw [hs3]
 have hc3:s3.cm=s.cm:=by rw [hs3]
 have hk3:s3.ck=s.ck:=by rw [hs3]
 have E3:=hI (And.intro hL3 (And.intro hT3 (And.intro hc3 hk3)))
 have HS3:=hI hs3
 rw [← hs3] at H3
 clear hs3 hL3 hT3 hc3 hk3
 go_upto_region 2 with fail
 replace S3:Hid (SlC 7 w3 o p1 s.L.length c1 (s3.L.map enL)):=hI (by rw [E3.o.1];exact S3.o)
 obtain ⟨Ww3,hW⟩:∃ Ww3,Ww3=w3.drew:=⟨_,rfl⟩
 have X3:Hid (Ext w3 Ww3):=hI (by rw [hW];exact Ext.drew w3)
 replace H3:=hI (H3.o.ext X3.o)
 replace S3:=hI (S3.o.ext X3.o)
 have r14:=fun (q:Wrap (BS Ww3 x))=>(q.h 14).trans (H3.o.c 14 _ rfl)
 have r10:=fun (q:Wrap (BS Ww3 x))=>(q.h 10).trans (H3.o.c 10 _ rfl)
 have r4:=fun (q:Wrap (BS Ww3 x))=>(q.h 4).trans (H3.o.c 4 _ rfl)
 refine gtt [0,1,2,3,4,5,6,7,8,9,10,11,12,15,13,14] (BS Ww3 x) (by rw [← hW];exact fun _=>rfl) (fun _=>?_)
 rw [← hW]
 clear hW
 repeat ((first|refine gqq fun K hK=>?_|refine gkk fun K hK=>?_);go_big_quiet_op;refine hK _ ?_;clear hK K)
 have LM:Hid (s.L.length≤60∧s3.T.length+s.L.length≤100000):=hI (by
  have h1:=H3.o.ok.T
  have h2:=LogV.max H3.o.q.lg
  rw [E3.o.1] at h2
  exact ⟨h2,by omega⟩)
 have LM2:Hid ((∀ e ∈ s3.L,EnOk e∧0≤e.st∧e.st≤1099511627776∧0≤e.od∧e.od≤2)∧(0≤s3.ck∧s3.ck≤1099511627776)∧(0≤s3.cm∧s3.cm≤1000000)):=hI ⟨fun e he=>mayB_st (H3.o.ok.L e he),by have:=H3.o.ok.ck;omega,by have:=H3.o.ok.cm;omega⟩
 have GO:=hI (rgo_any (c:=k+6) (d:=k+18) (M3.o.cl.ext X3.o) H3.o.q.rd (by have:=HK.o;omega) S3.o LM.o.1 LM.o.2 LM2.o.1 LM2.o.2.1 LM2.o.2.2)
 refine gcc fun K hK=>?_
 go_simp
 refine GO.o.mono ?_
 rintro e w4 ⟨o4,po,co,rfl,row4,rd4,m4⟩
 have hG:goAll s3.cm s3.ck s.L.length 0 s3.L (⟨true,true,true,true⟩,s3.T,[])=goS s:=by unfold goS;rw [E3.o.1,E3.o.2.1,E3.o.2.2.1,E3.o.2.2.2]
 rw [hG] at row4 rd4 ⊢
 clear hG
 obtain ⟨⟨sd,T',O'⟩,hG⟩:∃ G,G=goS s:=⟨_,rfl⟩
 rw [← hG] at row4 rd4 ⊢
 simp only at row4 rd4 ⊢
 have h4:∀ d,four (k+6) (k+18) d→ndC k d∧d≠k:=fun d hd=>by unfold four at hd;unfold ndC;omega
 have B4:=hI ((BS.rfl' Ww3 x).fm H3.o.box m4 (by have:=HK.o;omega) (by unfold four;omega))
 obtain ⟨N4,F4⟩:=NodeP.mod0 (A':=A) (s':={ s3 with T:=T' }) HK.o H3.o m4 h4 (H3.o.q.set_rd HK.o rd4 m4 (fun d hd=>by unfold four at hd;omega)) rfl { H3.o.ok with T:=(by have:=HT.o;rw [← hG] at this;exact this) }
 have H4:=hI N4
 have R4:=hI row4
 have M4:=hI ((M3.o.tr (Fm.ext M3.o.cl X3.o) (nd0 HK.o)).tr F4 (nd0 HK.o))
 have FO4:Hid (foldO stepD O' s.tm=some m'):=hI (by have:=HFO.o;rw [← hG] at this;exact this)
 have GT:Hid (T'=(goS s).2.1):=hI (by rw [← hG])
 have st4:Hid (s3.tm=s.tm):=hI (by rw [HS3.o])
 clear row4 rd4 m4 h4 N4 F4 hG GO LM LM2 H3 S3 M3 X3 r14 r10 r4 HFO HD HT
 refine hK (BS Ww3 x) _ _ (fun _ h=>h) B4.o (fun _=>?_)
 clear hK K B4
 repeat ((first|refine gqq fun K hK=>?_|refine gkk fun K hK=>?_);go_big_quiet_op;refine hK _ ?_;clear hK K)
 refine rg_nil ?_
 have hO:O'.length≤9223372036854775807:=Nat.le_trans R4.o.row.sl.le R4.o.row.sl.max
 obtain ⟨s5,hs5⟩:∃ s5,s5={ s3 with T:=T' }:=⟨_,rfl⟩
 rw [← hs5] at H4
 have S5:=hI hs5
 have T5:Hid (s5.tm=s.tm):=hI (by rw [hs5];exact st4.out)
 clear hs5
 go_wp2
 go_loopw [39] (fun i wr=>∃ (j:Nat) (o1:Ow) (m1:Nat),j≤O'.length∧i=.int .i64 (j:Int)∧NodeP wr o1 k x wb jd A { s5 with tm:=m1 }∧RowC 109 8 wr o1 (k+18) po O'.length co (O'.map tdL)∧foldO stepD (O'.drop j) m1=some m'∧Fm (ndC k) o o1 w wr) (fun i _=>O'.length-(intOf i).toNat)
 case atStart=>exact ⟨0,o4,s5.tm,by omega,rfl,H4.o,R4.o,by rw [T5.o];exact FO4.o,M4.o⟩
 case round=>
  obtain ⟨j,o1,m1,hj,rfl,nj,rj,fj,mj⟩:=hrel
  have NJ:=hI nj
  have RJ:=hI rj
  have FJ:=hI fj
  have MJ:=hI mj
  clear nj rj fj mj H4 R4 M4 FO4
  by_cases hlt:j<O'.length
  ·obtain ⟨b,oo,t,hp,hx,c0,c1',c2,c3,c4,c5,c6,c7⟩:=td_at RJ.o.row.sl j hlt
   have hdrop:O'.drop j=t::O'.drop (j+1):=by
    rw [List.drop_eq_getElem_cons hlt]
    congr 1
    rw [List.getElem?_eq_getElem hlt] at hx
    exact Option.some.inj hx
   obtain ⟨m2,hs2,hr2⟩:=foldO_cons (by rw [← hdrop];exact FJ.o)
   have HS2:=hI hs2
   have HR2:=hI hr2
   clear hs2 hr2 hdrop hx FJ
   subst hp
   obtain ⟨at',⟨f1,f2,f3,f4,f5,f6,dat⟩⟩:=t
   simp only at c0 c1' c2 c3 c4 c5 c6 c7
   go_upto_region 5 with fail
   change Code.wp _ _ _ _ (wr.alloc (.cells (tdA ⟨at',⟨f1,f2,f3,f4,f5,f6,dat⟩⟩) 109))
   have TB:=hI (BoxC.loose MJ.o.cl (tdA ⟨at',⟨f1,f2,f3,f4,f5,f6,dat⟩⟩) (tdL ⟨at',⟨f1,f2,f3,f4,f5,f6,dat⟩⟩) 109 rfl)
   have A1:=hI (Ext.alloc wr (.cells (tdA ⟨at',⟨f1,f2,f3,f4,f5,f6,dat⟩⟩) 109))
   replace NJ:=hI (NJ.o.ext A1.o)
   replace RJ:=hI (RJ.o.ext A1.o)
   replace MJ:=hI (MJ.o.tr (Fm.ext MJ.o.cl A1.o) (nd0 HK.o))
   clear A1 c0 c1' c2 c3 c4 c5 c6 c7
   generalize wr.alloc (.cells (tdA ⟨at',⟨f1,f2,f3,f4,f5,f6,dat⟩⟩) 109)=w5 at *
   generalize wr.heap.size=tb at *
   have d4:=TB.o.box.c 4 _ rfl
   have d5:=TB.o.box.c 5 _ rfl
   simp only at d4 d5
   by_cases h4:f4=1
   ·subst h4
    by_cases h5:f5=0
    ·subst h5
     have e2:m2=m1:=by
      have:=HS2.o
      simp [stepD] at this
      exact this.symm
     subst e2
     go_wp2
     go_roundw
     case rel=>exact ⟨j+1,o1,m2,by omega,by go_num,NJ.o,RJ.o,HR2.o,MJ.o⟩
     case measure=>simp [intOf];omega
    ·have h3:(mayB ⟨f1,f2,f3,1,f5,f6,dat⟩&&(namesB dat&&decide (m1<100000)))=true∧m2=m1+1:=by
      have:=HS2.o
      simp only [stepD,if_true,if_neg h5] at this
      split at this
      ·rename_i h
       exact ⟨h,(Option.some.inj this).symm⟩
      ·cases this
     obtain ⟨h3,rfl⟩:=h3
     simp only [Bool.and_eq_true,decide_eq_true_eq] at h3
     obtain ⟨hmb,hnb,hlt1⟩:=h3
     obtain ⟨ix,hix⟩:=names_of hnb
     have HIX:=hI hix
     have HMB:=hI hmb
     have HLT:=hI hlt1
     have h5':(f5==0)=false:=by simpa using h5
     clear hmb hnb hlt1 hix h5
     go_upto_region 6 with fail
     clear d4 d5
     have HC5:=hI MJ.o.cl
     obtain ⟨Ww5,hW⟩:∃ Ww5,Ww5=w5.drew:=⟨_,rfl⟩
     have X5:Hid (Ext w5 Ww5):=hI (by rw [hW];exact Ext.drew w5)
     replace NJ:=hI (NJ.o.ext X5.o)
     replace RJ:=hI (RJ.o.ext X5.o)
     replace HC5:=hI (HC5.o.ext X5.o)
     replace TB:=hI (TB.o.ext X5.o)
     have g15:=NJ.o.g 15 _ rfl
     have q1:=fun d os=>Ext.cell (Ext.reg Ww5 d os) (TB.o.box.c 1 _ rfl)
     have q2:=fun d os=>Ext.cell (Ext.reg Ww5 d os) (TB.o.box.c 2 _ rfl)
     have q3:=fun d os=>Ext.cell (Ext.reg Ww5 d os) (TB.o.box.c 3 _ rfl)
     have q4:=fun d os=>Ext.cell (Ext.reg Ww5 d os) (TB.o.box.c 4 _ rfl)
     have q5:=fun d os=>Ext.cell (Ext.reg Ww5 d os) (TB.o.box.c 5 _ rfl)
     have q6:=fun d os=>Ext.cell (Ext.reg Ww5 d os) (TB.o.box.c 6 _ rfl)
     have q7:=fun d os=>Ext.cell (Ext.reg Ww5 d os) (TB.o.box.c 7 _ rfl)
     simp only at q1 q2 q3 q4 q5 q6 q7
     refine att [0,1,2,3,4,5] [6] ?_
     rw [← hW]
     clear hW
     repeat ((first|refine aqq fun K hK=>?_|refine akk fun K hK=>?_);go_big_quiet_op;refine hK _ ?_;clear hK K)
     refine ra_nil ?_
     refine too fun K hK=>?_
     go_simp
     refine (tdo_any (c:=k+8) (e:=⟨f1,f2,f3,1,f5,f6,dat⟩) HC5.o NJ.o.q.tb (by have:=HK.o;omega) HIX.o HMB.o (mayB_ok HMB.o) (show m1<1000000 by have:=HLT.o;omega)).mono ?_
     rintro e w6 ⟨rfl,tb6,m6⟩
     obtain ⟨N6,F6⟩:=NodeP.mod0 (A':=A) (s':={ s5 with tm:=m1+1 }) HK.o NJ.o m6 (fun d hd=>by unfold ndC;omega) (NJ.o.q.set_tb HK.o tb6 m6 (fun d hd=>.inl hd)) rfl { NJ.o.ok with tm:=(show m1+1≤100000 by have:=HLT.o;omega) }
     have N7:=hI N6
     have R7:=hI (RJ.o.fr m6 (by have:=HK.o;omega) (by omega))
     have M7:=hI ((MJ.o.tr (Fm.ext MJ.o.cl X5.o) (nd0 HK.o)).tr F6 (nd0 HK.o))
     clear tb6 m6 N6 F6
     refine hK _ _ ?_
     clear hK K
     refine rt_nil ?_
     go_wp2
     go_roundw
     case rel=>exact ⟨j+1,o1,m1+1,by omega,by go_num,N7.o,R7.o,HR2.o,M7.o⟩
     case measure=>simp [intOf];omega
   ·have h4':(f4==1)=false:=by simpa using h4
    have e2:m2=m1:=by
     have:=HS2.o
     simp only [stepD,if_neg h4] at this
     exact (Option.some.inj this).symm
    subst e2
    clear h4
    go_wp2
    go_roundw
    case rel=>exact ⟨j+1,o1,m2,by omega,by go_num,NJ.o,RJ.o,HR2.o,MJ.o⟩
    case measure=>simp [intOf];omega
  ·have e2:m1=m':=by
    have:=FJ.o
    rw [List.drop_of_length_le (by omega)] at this
    exact Option.some.inj this
   subst e2
   go_wp2
   refine bodyPost_end (v:=.tuple #[]) (by simp [results,Tryz.results152,go_sem]) rfl ?_
   refine ⟨rfl,o1,?_,MJ.o⟩
   have e3:({ s5 with tm:=m1 }:NdD)=settleS s m1:=by
    rw [S5.o,HS3.o,GT.o]
    rfl
   rw [← e3]
   exact NJ.o
theorem ndid_any (hcl:Cl w o) (hk:32≤k) (h:NodeP w o k x wb jd A s) {ms:List (MsD × List EnD)} (hs:didO s=some (ms,s')) :
  Calls Tryz.prog 111 #[ptrN x] w fun e w'=>∃ o' A' p cap,e=.returned (.slice p ms.length cap)∧OutV w' o' (k+16) p cap ms∧NodeP w' o' k x wb jd A' s'∧Fm (ndC k) o o' w w':=by
 unfold didO at hs
 obtain ⟨s1,hs1,hp⟩:=Option.map_eq_some_iff.1 hs
 cases hp
 clear hs
 have HK:=hI hk
 have SE:=hI (nsettle_any hcl hk h hs1)
 clear hcl hk h hs1
 go_enter Tryz.func111,Tryz.ntmps111
 go_wp2_with fail
 refine SE.o.mono ?_
 rintro e w1 ⟨rfl,o1,n1,m1⟩
 have N1:=hI n1
 have M1:=hI m1
 have c33:=n1.c 33 _ rfl
 have f33:=n1.box.box.f 33
 have OU:=hI n1.q.ou
 clear n1 m1
 obtain ⟨N2,F2⟩:=NodeP.mod (C:=fun _=>False) (A':={ A with op:=none,oc:=0 }) (s':={ s1 with out:=[] }) HK.o N1.o (Fm.refl M1.o.cl) (fun d hd=>hd.elim) (N1.o.q.set_ou (C:=fun _=>False) HK.o ⟨[],rfl,RowC.nil _ _ _ _ _,fun d hd=>by cases hd⟩ (Fm.refl M1.o.cl) (fun d hd=>hd.elim)) 33 (.slice none 0 0) rfl { N1.o.ok with out:=(Nat.zero_le _) }
 have N3:=hI N2
 have F3:=hI F2
 have OU3:=hI (OU.o.fr (Fm.put (C:=one k) M1.o.cl N1.o.box (by have:=HK.o;omega) rfl 33 (.slice none 0 0)) (by unfold one;have:=HK.o;omega) (by have:=HK.o;omega) (by unfold one;omega))
 clear N2 F2
 have hlen:Hid (s1.out.length≤9223372036854775807):=hI (by have:=N1.o.ok.out;omega)
 go_wp2
 go_ret
 exact ⟨o1,_,_,_,rfl,OU3.o,N3.o,M1.o.tr F3.o (nd0 HK.o)⟩
end
section
open Go Go.Sort Go.RowKit
def gathO (s:NdD):Option NdD:=
 match s.v with
 | none=>none
 | some v=>if mostT (teamV v.2) s.n then instO s else if s.ag || lateN s then propO s else foldO (otherG gath1 s.id s.n) (idsT.filter (hasT (allT s.n))) s
variable {w w4:World} {o o4:Ow} {k x wb jd:Nat} {A A':AdD} {s s':NdD}
theorem ngath_any (hcl:Cl w o) (hk:32≤k) (h:NodeP w o k x wb jd A s) (hs:gathO s=some s') :
  Calls Tryz.prog 105 #[ptrN x] w fun e w'=>e=.returned (.tuple #[])∧∃ o' A',NodeP w' o' k x wb jd A' s'∧Fm (ndC k) o o' w w':=by
 unfold gathO at hs
 cases hv:s.v with
 | none=>rw [hv] at hs;cases hs
 | some v=>
 obtain ⟨vw,vs⟩:=v
 rw [hv] at hs
 simp only at hs
 have HSV:=hI hv
 have HS:=hI hs
 have HK:=hI hk
 have A0:=hI (Ext.alloc w (.cells #[ptrN x] 37))
 have XB:=hI (BoxC.loose hcl #[ptrN x] [ptrN x] 37 rfl)
 have H:=hI (h.ext A0.o)
 have M1:=hI (Fm.ext (C:=ndC k) hcl A0.o)
 obtain ⟨vg,hvg⟩:∃ vg,A.v=some vg:=by
  have:=h.q.vt
  rw [hv] at this
  obtain ⟨g,hg,-⟩:=this
  exact ⟨g,hg⟩
 have HVG:=hI hvg
 clear hk hcl h hs hv hvg
 go_enter Tryz.func105,Tryz.ntmps105
 go_upto_region 2 with fail
 change Code.wp _ _ _ _ (w.alloc (.cells #[ptrN x] 37))
 clear A0
 generalize w.alloc (.cells #[ptrN x] 37)=w1 at *
 generalize w.heap.size=xb at *
 have xb0:=XB.o.box.c 0 _ rfl
 have c17:w1.cell? ⟨x,17,none⟩=some (ptrN vg):=by
  have:=H.o.c 17 _ rfl
  rw [HVG.o] at this
  exact this
 cases hm:mostT (teamV vs) s.n
 ·have HS2:=HS.o
  rw [hm] at HS2
  simp only [Bool.false_eq_true,if_false] at HS2
  go_wp2_with fail
  refine (venough_any (H.o.vs HSV.o HVG.o)).mono ?_
  rw [hm]
  rintro e w2 ⟨rfl,x2⟩
  replace H:=hI (H.o.ext x2)
  replace XB:=hI (XB.o.ext x2)
  replace M1:=hI (M1.o.tr (Fm.ext M1.o.cl x2) (nd0 HK.o))
  clear x2 xb0 c17 hm
  cases hag:s.ag
  ·have c19:w2.cell? ⟨x,19,none⟩=some (.bool false):=by rw [← hag];exact H.o.c 19 _ rfl
   have xb0:=XB.o.box.c 0 _ rfl
   rw [hag] at HS2
   rw [Bool.false_or] at HS2
   clear hag
   cases hla:lateN s
   ·rw [hla] at HS2
    simp only [Bool.false_eq_true,if_false] at HS2
    have HF:=hI HS2
    clear HS2
    go_wp2_with fail
    refine (nlate_any H.o).mono ?_
    rw [hla]
    rintro e w3 ⟨rfl,x3⟩
    replace H:=hI (H.o.ext x3)
    replace XB:=hI (XB.o.ext x3)
    replace M1:=hI (M1.o.tr (Fm.ext M1.o.cl x3) (nd0 HK.o))
    clear x3 xb0 c19 hla
    go_upto_region 1 with fail
    obtain ⟨W4,hW⟩:∃ W4,W4=w3.drew:=⟨_,rfl⟩
    have X4:Hid (Ext w3 W4):=hI (by rw [hW];exact Ext.drew w3)
    replace H:=hI (H.o.ext X4.o)
    replace XB:=hI (XB.o.ext X4.o)
    have gb:=fun d os=>Ext.cell (Ext.reg W4 d os) (XB.o.box.c 0 _ rfl)
    have g1:=H.o.g 1 _ rfl
    refine att [0,1,2,3,4,5,6,7] [8] ?_
    rw [← hW]
    clear hW
    repeat ((first|refine aqq fun K hK=>?_|refine akk fun K hK=>?_);go_big_quiet_op;refine hK _ ?_;clear hK K)
    have M4:=hI (M1.o.tr (Fm.ext M1.o.cl X4.o) (nd0 HK.o))
    have hn5:s.n=3∨s.n=4∨s.n=5∨s.n=6∨s.n=7:=by have h1:=H.o.ok.n;omega
    have TT:Hid (isT (allT s.n)):=hI (by rcases hn5 with h | h | h | h | h <;> (rw [h];exact ⟨by decide,by decide⟩))
    have OT:Hid (∀ t,t=allT s.n→Calls Tryz.prog 136 #[ptrN x,.int .i64 t,.func (.func 137) #[] #[ptrN xb]] W4 fun e w'=>e=.returned (.tuple #[])∧∃ o',EnvP w' o' k x wb jd xb s.id s.n s'∧Fm (ndC k) o o' W4 w'):=hI (fun t ht=>by
     subst ht
     exact others1 (R:=fun s1 w1 o1=>EnvP w1 o1 k x wb jd xb s.id s.n s1) (F:=gath1) (C:=ndC k) (nd0 HK.o) TT.o (enter_of Tryz.func137 (by kernel_rfl) (by kernel_rfl)) (fun s1 w1 o1 h=>h.cells) (fun s1 w1 w2 o1 h e=>h.ext e) (fun s1 s2 w1 o1 i hi hti hne hle hR hcl hFi=>gath1_any HK.o hcl hR hi hFi) M4.o.cl ⟨⟨A,H.o⟩,XB.o,rfl,rfl⟩ HF.o)
    clear H XB M1 X4
    rcases hn5 with hn | hn | hn | hn | hn
    all_goals
     have HN:=hI hn
     rw [hn] at g1 ⊢
     clear hn
     repeat ((first|refine aqq fun K hK=>?_|refine akk fun K hK=>?_);go_big_quiet_op;refine hK _ ?_;clear hK K)
     refine acc fun K hK=>?_
     go_simp
     refine hK _ _ (Ext.rfl' _) ?_;clear hK K
     refine ra_nil ?_
     refine too fun K hK=>?_
     go_simp
     refine (OT.o _ (by rw [HN.o];rfl)).mono ?_
     rintro e w18 ⟨rfl,o18,env,m18⟩
     obtain ⟨A18,n18⟩:=env.nd
     have N18:=hI n18
     have M18:=hI (M4.o.tr m18 (nd0 HK.o))
     clear env m18 n18
     refine hK _ _ ?_
     clear hK K
     refine rt_nil ?_
     go_wp2
     refine bodyPost_end (v:=.tuple #[]) (by simp [results,Tryz.results105,go_sem]) rfl ?_
     exact ⟨rfl,o18,A18,N18.o,M18.o⟩
   ·rw [hla] at HS2
    simp only [if_true] at HS2
    have HF:=hI HS2
    clear HS2
    go_wp2_with fail
    refine (nlate_any H.o).mono ?_
    rw [hla]
    rintro e w3 ⟨rfl,x3⟩
    replace H:=hI (H.o.ext x3)
    replace XB:=hI (XB.o.ext x3)
    replace M1:=hI (M1.o.tr (Fm.ext M1.o.cl x3) (nd0 HK.o))
    clear x3 xb0 c19 hla
    have xb0:=XB.o.box.c 0 _ rfl
    go_wp2_with fail
    refine (nprop_any M1.o.cl HK.o H.o HF.o).mono ?_
    rintro e w18 ⟨rfl,o18,A18,n18,m18⟩
    have N18:=hI n18
    have M18:=hI (M1.o.tr m18 (nd0 HK.o))
    clear m18 n18
    go_wp2
    refine bodyPost_end (v:=.tuple #[]) (by simp [results,Tryz.results105,go_sem]) rfl ?_
    exact ⟨rfl,o18,A18,N18.o,M18.o⟩
  ·have c19:w2.cell? ⟨x,19,none⟩=some (.bool true):=by rw [← hag];exact H.o.c 19 _ rfl
   have xb0:=XB.o.box.c 0 _ rfl
   rw [hag] at HS2
   simp only [Bool.true_or,if_true] at HS2
   have HF:=hI HS2
   clear hag HS2
   go_wp2_with fail
   refine (nprop_any M1.o.cl HK.o H.o HF.o).mono ?_
   rintro e w18 ⟨rfl,o18,A18,n18,m18⟩
   have N18:=hI n18
   have M18:=hI (M1.o.tr m18 (nd0 HK.o))
   clear m18 n18
   go_wp2
   refine bodyPost_end (v:=.tuple #[]) (by simp [results,Tryz.results105,go_sem]) rfl ?_
   exact ⟨rfl,o18,A18,N18.o,M18.o⟩
 ·have HS2:=HS.o
  rw [hm] at HS2
  simp only [if_true] at HS2
  have HF:=hI HS2
  clear HS2
  go_wp2_with fail
  refine (venough_any (H.o.vs HSV.o HVG.o)).mono ?_
  rw [hm]
  rintro e w2 ⟨rfl,x2⟩
  replace H:=hI (H.o.ext x2)
  replace XB:=hI (XB.o.ext x2)
  replace M1:=hI (M1.o.tr (Fm.ext M1.o.cl x2) (nd0 HK.o))
  clear x2 xb0 c17 hm
  have xb0:=XB.o.box.c 0 _ rfl
  go_wp2_with fail
  refine (ninst_any M1.o.cl HK.o H.o HF.o).mono ?_
  rintro e w18 ⟨rfl,o18,A18,n18,m18⟩
  have N18:=hI n18
  have M18:=hI (M1.o.tr m18 (nd0 HK.o))
  clear m18 n18
  go_wp2
  refine bodyPost_end (v:=.tuple #[]) (by simp [results,Tryz.results105,go_sem]) rfl ?_
  exact ⟨rfl,o18,A18,N18.o,M18.o⟩
def midO (s:NdD):Option NdD:=
 if (match s.v with | none=>false | some v=>decide (v.1=s.dv)) then gathO s else if inV s&&s.mi then decO s else if lateN s then propO s else if inV s then askO s else some s
end
section
open Go Go.Sort Go.RowKit
def takeS (s:NdD) (m:MsD) (L:List EnD):NdD:={ s with dv:=mxI s.dv m.vw,ls:=m.vw,mb:=m.mb,L:=L,cm:=minI (mxI s.cm m.cm) (L.length:Int),hd:=s.ck }
def takeB (m:MsD) (L:List EnD):Bool:=decide (0≤m.vw∧m.vw≤1000000000)&&(decide (0≤m.mb∧m.mb<128)&&(decide (0≤m.cm∧m.cm≤60)&&(addsL [] L).isSome))
variable {w w4:World} {o o4:Ow} {k x wb jd:Nat} {A A':AdD} {s s':NdD}
theorem NodeP.mod3 {C:Nat→Prop} (hk:32≤k) (H:NodeP w o k x wb jd A s) (f:Fm C o o4 w w4) (hC:∀ d,C d→ndC k d∧d≠k) (q4:NodeQ w4 o4 k wb jd A' s') (i j l:Nat) (u v z:Value) (hb:(((ndL wb jd A s).set i u).set j v).set l z=ndL wb jd A' s') (ok:NdOk s') :
  NodeP (((w4.setCell ⟨x,i,none⟩ u).setCell ⟨x,j,none⟩ v).setCell ⟨x,l,none⟩ z) o4 k x wb jd A' s'∧Fm (ndC k) o o4 w (((w4.setCell ⟨x,i,none⟩ u).setCell ⟨x,j,none⟩ v).setCell ⟨x,l,none⟩ z):=by
 have B4:=H.box.fr f (by omega) (fun e=>(hC _ e).2 rfl)
 have F1:=Fm.put (C:=one k) f.cl B4 (by omega) rfl i u
 have F2:=Fm.put (C:=one k) F1.cl (B4.put i u) (by omega) rfl j v
 have F3:=Fm.put (C:=one k) F2.cl ((B4.put i u).put j v) (by omega) rfl l z
 have h1k:¬ one k 0:=by unfold one;omega
 have F:=(F1.tr F2 h1k).tr F3 h1k
 have B5:=((B4.put i u).put j v).put l z
 rw [hb] at B5
 exact ⟨⟨B5,q4.fr hk F h1k (fun d hd=>by unfold one;omega),ok⟩,(f.mono (fun d hd=>(hC d hd).1)).tr (F.mono (fun d hd=>by unfold one at hd;unfold ndC;omega)) (nd0 hk)⟩
theorem addsL_self {L:List EnD} (h:(addsL [] L).isSome=true):addsL [] L=some L∧∀ e ∈ L,mayB e=true:=by
 obtain ⟨R,hR⟩:=Option.isSome_iff_exists.1 h
 obtain ⟨h1,h2⟩:=addsL_id _ _ _ hR
 simp at h1
 rw [h1] at hR
 exact ⟨hR,h2⟩
theorem ntake_any' (hcl:Cl w o) (hk:32≤k) (h:NodeP w o k x wb jd A s) {m:MsD} {p:Option Addr} {cap:Nat} {L:List EnD} (hsl:SlC 7 w o p L.length cap (L.map enL)) (hb:takeB m L=true) :
  Calls Tryz.prog 154 #[ptrN x,msV m p L.length cap] w fun e w'=>e=.returned (.tuple #[])∧∃ o' A',NodeP w' o' k x wb jd A' (takeS s m L)∧Fm (ndC k) o o' w w':=by
 unfold takeB at hb
 simp only [Bool.and_eq_true,decide_eq_true_eq] at hb
 obtain ⟨hv,hmb,hcm,had⟩:=hb
 obtain ⟨k1,k2,k3,k4,k5,k6,k7,k8,k9,k10,k11,k12⟩:=m
 simp only at hv hmb hcm
 have HB:=hI (And.intro hv (And.intro hmb hcm))
 have AD:=hI (addsL_self had)
 clear hv hmb hcm had
 have A0:=hI (Ext.alloc w (.cells (msA ⟨k1,k2,k3,k4,k5,k6,k7,k8,k9,k10,k11,k12⟩ p L.length cap) 76))
 have MB:=hI (BoxC.loose hcl (msA ⟨k1,k2,k3,k4,k5,k6,k7,k8,k9,k10,k11,k12⟩ p L.length cap) (msL ⟨k1,k2,k3,k4,k5,k6,k7,k8,k9,k10,k11,k12⟩ p L.length cap) 76 rfl)
 have H:=hI (h.ext A0.o)
 have S:=hI (hsl.ext A0.o)
 have M1:=hI (Fm.ext (C:=ndC k) hcl A0.o)
 have HK:=hI hk
 clear hcl h hsl hk
 go_enter Tryz.func154,Tryz.ntmps154
 go_upto_region 1 with fail
 change Code.wp _ _ _ _ (w.alloc (.cells (msA ⟨k1,k2,k3,k4,k5,k6,k7,k8,k9,k10,k11,k12⟩ p L.length cap) 76))
 clear A0
 generalize w.alloc (.cells (msA ⟨k1,k2,k3,k4,k5,k6,k7,k8,k9,k10,k11,k12⟩ p L.length cap) 76)=w1 at *
 generalize w.heap.size=mb at *
 obtain ⟨W2,hW⟩:∃ W2,W2=w1.drew:=⟨_,rfl⟩
 have X2:Hid (Ext w1 W2):=hI (by rw [hW];exact Ext.drew w1)
 replace H:=hI (H.o.ext X2.o)
 replace S:=hI (S.o.ext X2.o)
 replace MB:=hI (MB.o.ext X2.o)
 have g2:=H.o.g 2 _ rfl
 have gm4:=fun d os=>Ext.cell (Ext.reg W2 d os) (MB.o.box.c 4 _ rfl)
 refine att [0,1,2,3,4,5] [6] ?_
 rw [← hW]
 clear hW
 repeat ((first|refine aqq fun K hK=>?_|refine akk fun K hK=>?_);go_big_quiet_op;refine hK _ ?_;clear hK K)
 have M2:=hI (M1.o.tr (Fm.ext M1.o.cl X2.o) (nd0 HK.o))
 clear M1 X2
 refine ra_nil ?_
 refine too fun K hK=>?_
 go_simp
 have PR:Hid (Calls Tryz.prog 147 #[.pointer (some ⟨wb,jd,none⟩),.int .i64 k5] W2 fun e w'=>(∃ b:Bool,e=.returned (.bool b))∧DkV w' o (k+13) wb jd s.bt (mxI s.dv k5)∧Fm (one (k+13)) o o W2 w'):=hI (by
  by_cases hlt:s.dv<k5
  ·have e:mxI s.dv k5=k5:=by unfold mxI;rw [if_pos hlt]
   rw [e]
   exact (dpromise_any M2.o.cl H.o.q.dk ⟨hlt,by have:=HB.o.1.2;omega⟩).mono (fun e w' ⟨h1,h2,h3⟩=>⟨⟨_,h1⟩,h2,h3⟩)
  ·have e:mxI s.dv k5=s.dv:=by unfold mxI;rw [if_neg hlt]
   rw [e]
   refine (dpromise_no H.o.q.dk (by omega)).mono ?_
   rintro e w' ⟨h1,rfl⟩
   exact ⟨⟨_,h1⟩,H.o.q.dk,Fm.refl M2.o.cl⟩)
 refine PR.o.mono ?_
 rintro e w3 ⟨⟨b,rfl⟩,dk3,m3⟩
 obtain ⟨N3,F3⟩:=NodeP.mod0 (A':=A) (s':={ s with dv:=mxI s.dv k5 }) HK.o H.o m3 (fun d hd=>by unfold one at hd;unfold ndC;omega) (H.o.q.set_dk HK.o dk3 m3 (fun d hd=>.inl hd)) rfl { H.o.ok with dv:=(by have h1:=H.o.ok.dv;have h2:=HB.o.1;show 0≤mxI s.dv k5∧mxI s.dv k5≤1000000000;unfold mxI;split <;> omega) }
 have H3:=hI N3
 have S3:=hI (S.o.fr m3 (by unfold one;omega))
 have MB3:=hI (MB.o.fr m3 (by decide) (by unfold one;omega))
 have M3:=hI (M2.o.tr F3 (nd0 HK.o))
 clear N3 F3 dk3 m3 H S MB M2 PR g2 gm4
 refine hK _ _ ?_
 clear hK K
 refine rt_nil ?_
 go_upto_region 2 with fail
 obtain ⟨W4,hW⟩:∃ W4,W4=w3.drew:=⟨_,rfl⟩
 have X4:Hid (Ext w3 W4):=hI (by rw [hW];exact Ext.drew w3)
 replace H3:=hI (H3.o.ext X4.o)
 replace S3:=hI (S3.o.ext X4.o)
 replace MB3:=hI (MB3.o.ext X4.o)
 have rm4:=fun (qq:Wrap (CL [(⟨mb,4,none⟩,.int .i64 k5),(⟨mb,6,none⟩,.int .i64 k7),(⟨mb,8,none⟩,.slice p L.length cap)]))=>(qq.h.1:qq.w.cell? ⟨mb,4,none⟩=some (.int .i64 k5))
 have rm6:=fun (qq:Wrap (CL [(⟨mb,4,none⟩,.int .i64 k5),(⟨mb,6,none⟩,.int .i64 k7),(⟨mb,8,none⟩,.slice p L.length cap)]))=>(qq.h.2.1:qq.w.cell? ⟨mb,6,none⟩=some (.int .i64 k7))
 have rm8:=fun (qq:Wrap (CL [(⟨mb,4,none⟩,.int .i64 k5),(⟨mb,6,none⟩,.int .i64 k7),(⟨mb,8,none⟩,.slice p L.length cap)]))=>(qq.h.2.2.1:qq.w.cell? ⟨mb,8,none⟩=some (.slice p L.length cap))
 refine gtt [0,1,2,3,4,5,6,7,8,9,10,11,12,13,14,15,16,17,18] (CL [(⟨mb,4,none⟩,.int .i64 k5),(⟨mb,6,none⟩,.int .i64 k7),(⟨mb,8,none⟩,.slice p L.length cap)]) (by rw [← hW];exact ⟨MB3.o.box.c 4 _ rfl,MB3.o.box.c 6 _ rfl,MB3.o.box.c 8 _ rfl,trivial⟩) (fun _=>?_)
 rw [← hW]
 clear hW
 repeat ((first|refine gqq fun K hK=>?_|refine gkk fun K hK=>?_);go_big_quiet_op;refine hK _ ?_;clear hK K)
 have M4:=hI (M3.o.tr (Fm.ext M3.o.cl X4.o) (nd0 HK.o))
 clear M3 X4
 refine gcc fun K hK=>?_
 go_simp
 refine (lnew_any (c:=k+2) M4.o.cl (by have:=HK.o;omega) S3.o (fun e he=>mayB_ok (AD.o.2 e he)) AD.o.1).mono ?_
 rintro e w5 ⟨o5,lg,rfl,lv5,hlg,m5⟩
 have B5:=hI (H3.o.box.fr m5 (by have:=HK.o;omega) (by unfold two;omega))
 have MB5:=hI (MB3.o.fr m5 (by decide) (by unfold two;have:=HK.o;omega))
 have h1k:¬ one k 0:=by unfold one;have:=HK.o;omega
 have P6:=hI (Fm.put (C:=one k) m5.cl B5.o (by have:=HK.o;omega) rfl 11 (.int .i64 k5))
 have B6:=hI (B5.o.put 11 (.int .i64 k5))
 have MB6:=hI (MB5.o.fr P6.o (by decide) h1k)
 have P7:=hI (Fm.put (C:=one k) P6.o.cl B6.o (by have:=HK.o;omega) rfl 12 (.int .i64 k7))
 have B7:=hI (B6.o.put 12 (.int .i64 k7))
 have MB7:=hI (MB6.o.fr P7.o (by decide) h1k)
 have P8:=hI (Fm.put (C:=one k) P7.o.cl B7.o (by have:=HK.o;omega) rfl 9 (ptrN lg))
 have MB8:=hI (MB7.o.fr P8.o (by decide) h1k)
 obtain ⟨N8,F8⟩:=NodeP.mod3 (A':={ A with l:=lg }) (s':={ s with dv:=mxI s.dv k5,ls:=k5,mb:=k7,L:=L }) HK.o H3.o m5 (fun d hd=>by unfold two at hd;unfold ndC;omega) ⟨(H3.o.q.set_lg HK.o lv5 m5 (fun d hd=>by unfold two at hd;omega)).dk,(H3.o.q.set_lg HK.o lv5 m5 (fun d hd=>by unfold two at hd;omega)).gr,(H3.o.q.set_lg HK.o lv5 m5 (fun d hd=>by unfold two at hd;omega)).lg,(H3.o.q.set_lg HK.o lv5 m5 (fun d hd=>by unfold two at hd;omega)).pn,(H3.o.q.set_lg HK.o lv5 m5 (fun d hd=>by unfold two at hd;omega)).rd,(H3.o.q.set_lg HK.o lv5 m5 (fun d hd=>by unfold two at hd;omega)).tb,(H3.o.q.set_lg HK.o lv5 m5 (fun d hd=>by unfold two at hd;omega)).pf,(H3.o.q.set_lg HK.o lv5 m5 (fun d hd=>by unfold two at hd;omega)).vt,(H3.o.q.set_lg HK.o lv5 m5 (fun d hd=>by unfold two at hd;omega)).qu,(H3.o.q.set_lg HK.o lv5 m5 (fun d hd=>by unfold two at hd;omega)).aks,(H3.o.q.set_lg HK.o lv5 m5 (fun d hd=>by unfold two at hd;omega)).ou,(H3.o.q.set_lg HK.o lv5 m5 (fun d hd=>by unfold two at hd;omega)).jn⟩ 11 12 9 (.int .i64 k5) (.int .i64 k7) (ptrN lg) rfl { H3.o.ok with ls:=HB.o.1,mb:=(show isT k7 from HB.o.2.1),L:=AD.o.2 }
 have H8:=hI N8
 have M8:=hI (M4.o.tr F8 (nd0 HK.o))
 have c11:=B5.o.box.c 11 _ rfl
 have f11:=B5.o.box.f 11
 have c12:=B6.o.box.c 12 _ rfl
 have f12:=B6.o.box.f 12
 have c9:=B7.o.box.c 9 _ rfl
 have f9:=B7.o.box.f 9
 clear N8 F8 lv5 hlg m5
 refine hK (CL [(⟨mb,4,none⟩,.int .i64 k5),(⟨mb,6,none⟩,.int .i64 k7),(⟨mb,8,none⟩,.slice p L.length cap)]) _ _ (fun _ h=>h) ⟨MB5.o.box.c 4 _ rfl,MB5.o.box.c 6 _ rfl,MB5.o.box.c 8 _ rfl,trivial⟩ (fun _=>?_)
 clear hK K
 repeat ((first|refine gqq fun K hK=>?_|refine gkk fun K hK=>?_);go_big_quiet_op;refine hK _ ?_;clear hK K)
 refine gcc fun K hK=>?_
 go_simp
 refine hK (CL [(⟨mb,4,none⟩,.int .i64 k5),(⟨mb,6,none⟩,.int .i64 k7),(⟨mb,8,none⟩,.slice p L.length cap)]) _ _ (fun _ h=>h) ⟨MB6.o.box.c 4 _ rfl,MB6.o.box.c 6 _ rfl,MB6.o.box.c 8 _ rfl,trivial⟩ (fun _=>?_)
 clear hK K
 repeat ((first|refine gqq fun K hK=>?_|refine gkk fun K hK=>?_);go_big_quiet_op;refine hK _ ?_;clear hK K)
 refine gcc fun K hK=>?_
 go_simp
 refine hK (CL [(⟨mb,4,none⟩,.int .i64 k5),(⟨mb,6,none⟩,.int .i64 k7),(⟨mb,8,none⟩,.slice p L.length cap)]) _ _ (fun _ h=>h) ⟨MB7.o.box.c 4 _ rfl,MB7.o.box.c 6 _ rfl,MB7.o.box.c 8 _ rfl,trivial⟩ (fun _=>?_)
 clear hK K
 repeat ((first|refine gqq fun K hK=>?_|refine gkk fun K hK=>?_);go_big_quiet_op;refine hK _ ?_;clear hK K)
 refine gcc fun K hK=>?_
 go_simp
 refine hK (CL [(⟨mb,4,none⟩,.int .i64 k5),(⟨mb,6,none⟩,.int .i64 k7),(⟨mb,8,none⟩,.slice p L.length cap)]) _ _ (fun _ h=>h) ⟨MB8.o.box.c 4 _ rfl,MB8.o.box.c 6 _ rfl,MB8.o.box.c 8 _ rfl,trivial⟩ (fun _=>?_)
 clear hK K c11 f11 c12 f12 c9 f9 B5 B6 B7 P6 P7 P8 MB5 MB6 MB7 H3 M4 MB3 rm4 rm6 rm8 S3
 refine rg_nil ?_
 generalize ((w5.setCell ⟨x,11,none⟩ (.int .i64 k5)).setCell ⟨x,12,none⟩ (.int .i64 k7)).setCell ⟨x,9,none⟩ (ptrN lg)=w8 at *
 obtain ⟨A8,hA8⟩:∃ A8:AdD,A8={ A with l:=lg }:=⟨_,rfl⟩
 obtain ⟨s8,hs8⟩:∃ s8:NdD,s8={ s with dv:=mxI s.dv k5,ls:=k5,mb:=k7,L:=L }:=⟨_,rfl⟩
 rw [← hA8,← hs8] at H8
 have HS8:=hI hs8
 have E8':Hid (s8.L=L∧s8.cm=s.cm∧s8.ck=s.ck):=hI (by rw [hs8];exact ⟨rfl,rfl,rfl⟩)
 clear hA8 hs8
 go_upto_region 3 with fail
 obtain ⟨W9,hW⟩:∃ W9,W9=w8.drew:=⟨_,rfl⟩
 have X9:Hid (Ext w8 W9):=hI (by rw [hW];exact Ext.drew w8)
 replace H8:=hI (H8.o.ext X9.o)
 replace MB8:=hI (MB8.o.ext X9.o)
 have g10:∀ d os,(grow (redrawn W9 d) os).cell? ⟨x,10,none⟩=some (.int .i64 s8.cm):=H8.o.g 10 _ rfl
 have g9:=H8.o.g 9 _ rfl
 have gm9:=fun d os=>Ext.cell (Ext.reg W9 d os) (MB8.o.box.c 9 _ rfl)
 refine att [0,1,2,3,4,5,6,7,8,9,10,11,12,13,14,15] [16] ?_
 rw [← hW]
 clear hW
 repeat ((first|refine aqq fun K hK=>?_|refine akk fun K hK=>?_);go_big_quiet_op;refine hK _ ?_;clear hK K)
 refine acc fun K hK=>?_
 go_simp
 refine (llen_any H8.o.q.lg).mono ?_
 rintro e w10 ⟨rfl,rfl⟩
 refine hK _ _ (Ext.rfl' _) ?_;clear hK K
 repeat ((first|refine aqq fun K hK=>?_|refine akk fun K hK=>?_);go_big_quiet_op;refine hK _ ?_;clear hK K)
 refine ra_nil ?_
 have c10:=H8.o.c 10 _ rfl
 have f10:=H8.o.box.box.f 10
 refine too fun K hK=>?_
 go_simp
 obtain ⟨CM,hCM⟩:∃ CM:Int,CM=(if (s8.L.length:Int)<(if s8.cm<k9 then k9 else s8.cm) then (s8.L.length:Int) else (if s8.cm<k9 then k9 else s8.cm)):=⟨_,rfl⟩
 rw [← hCM]
 have CMV:Hid (CM=minI (mxI s.cm k9) (L.length:Int)):=hI (by rw [hCM,E8'.o.1,E8'.o.2.1];rfl)
 have CMR:Hid (0≤CM∧CM≤60):=hI (by
  have h1:=H8.o.ok.cm
  have h2:=HB.o.2.2
  have h3:s8.L.length≤60:=LogV.max H8.o.q.lg
  rw [hCM]
  split <;> (try split) <;> omega)
 clear hCM
 generalize (if s8.cm<k9 then k9 else s8.cm)=mxv at *
 obtain ⟨N11,F11⟩:=NodeP.mod (C:=fun _=>False) (A':=A8) (s':={ s8 with cm:=CM }) HK.o H8.o (Fm.refl (M8.o.cl.ext X9.o)) (fun d hd=>hd.elim) { H8.o.q with dk:=H8.o.q.dk } 10 (.int .i64 CM) rfl { H8.o.ok with cm:=CMR.o }
 have H11:=hI N11
 have M11:=hI ((M8.o.tr (Fm.ext M8.o.cl X9.o) (nd0 HK.o)).tr F11 (nd0 HK.o))
 clear N11 F11
 refine hK _ _ ?_
 clear hK K c10 f10 g10 g9 gm9 H8 M8 MB8 X9
 refine rt_nil ?_
 generalize W9.setCell ⟨x,10,none⟩ (.int .i64 CM)=w11 at *
 have c4:w11.cell? ⟨x,4,none⟩=some (.int .i64 s8.ck):=H11.o.c 4 _ rfl
 have c5:=H11.o.c 5 _ rfl
 have f5:=H11.o.box.box.f 5
 have CKR:Hid (0≤s8.ck∧s8.ck≤1000000):=hI H11.o.ok.ck
 obtain ⟨N12,F12⟩:=NodeP.mod (C:=fun _=>False) (A':=A8) (s':={ s8 with cm:=CM,hd:=s8.ck }) HK.o H11.o (Fm.refl M11.o.cl) (fun d hd=>hd.elim) { H11.o.q with dk:=H11.o.q.dk } 5 (.int .i64 s8.ck) rfl { H11.o.ok with hd:=CKR.o }
 have H12:=hI N12
 have M12:=hI (M11.o.tr F12 (nd0 HK.o))
 clear N12 F12 H11 M11
 go_wp2
 refine bodyPost_end (v:=.tuple #[]) (by simp [results,Tryz.results154,go_sem]) rfl ?_
 have e12:({ s8 with cm:=CM,hd:=s8.ck }:NdD)=takeS s ⟨k1,k2,k3,k4,k5,k6,k7,k8,k9,k10,k11,k12⟩ L:=by
  rw [HS8.o,CMV.o]
  rfl
 rw [← e12]
 first | exact ⟨rfl,o5,A8,H12.o,M12.o⟩ | exact ⟨rfl,o5,⟨A8,H12.o⟩,M12.o⟩
end
section
open Go Go.Sort Go.RowKit
def rightB (s:NdD) (m:MsD) (L:List EnD):Bool:=
 (decide (m.fr=decT m.vw s.n)&&(mostT m.mb s.n&&(hasT m.mb m.fr&&hasT m.mb s.id)))&&((addsL [] L).isSome&&(decide (m.cm≤(L.length:Int))&&(decide (1≤m.fr∧m.fr≤7)&&(decide (1≤m.vw∧m.vw≤1000000000)&&decide (0≤m.mb∧m.mb<128)))))
variable {w w4:World} {o o4:Ow} {k x wb jd:Nat} {A A':AdD} {s s':NdD}
theorem nright_any (hcl:Cl w o) (hk:32≤k) (h:NodeP w o k x wb jd A s) {m:MsD} {p:Option Addr} {cap:Nat} {L:List EnD} (hsl:SlC 7 w o p L.length cap (L.map enL)) (hb:rightB s m L=true) :
  Calls Tryz.prog 181 #[ptrN x,msV m p L.length cap] w fun e w'=>e=.returned (.bool true)∧Ext w w':=by
 unfold rightB at hb
 simp only [Bool.and_eq_true,decide_eq_true_eq] at hb
 obtain ⟨⟨b1,b2,b3,b4⟩,b5,b6,b7,b8,b9⟩:=hb
 obtain ⟨k1,k2,k3,k4,k5,k6,k7,k8,k9,k10,k11,k12⟩:=m
 simp only at b1 b2 b3 b4 b5 b6 b7 b8 b9
 have X1:Hid (Ext w (w.alloc (.cells (msA ⟨k1,k2,k3,k4,k5,k6,k7,k8,k9,k10,k11,k12⟩ p L.length cap) 76))):=hI (Ext.alloc w _)
 have AD:=hI (addsL_self b5)
 have BB:=hI (And.intro b1 (And.intro b2 (And.intro b3 (And.intro b4 (And.intro b7 (And.intro b8 b9))))))
 have e1:(k2==decT k5 s.n)=true:=by simpa using b1
 have e7:((L.length:Int)==(L.length:Int))=true:=beq_self_eq_true _
 have e6:decide (k9≤(L.length:Int))=true:=decide_eq_true b6
 clear b1 b2 b3 b4 b5 b6 b7 b8 b9
 have A0:=hI (Ext.alloc w (.cells (msA ⟨k1,k2,k3,k4,k5,k6,k7,k8,k9,k10,k11,k12⟩ p L.length cap) 76))
 have MB:=hI (BoxC.loose hcl (msA ⟨k1,k2,k3,k4,k5,k6,k7,k8,k9,k10,k11,k12⟩ p L.length cap) (msL ⟨k1,k2,k3,k4,k5,k6,k7,k8,k9,k10,k11,k12⟩ p L.length cap) 76 rfl)
 have H:=hI (h.ext A0.o)
 have S:=hI (hsl.ext A0.o)
 have M1:=hI (Fm.ext (C:=ndC k) hcl A0.o)
 have HK:=hI hk
 clear hcl h hsl hk
 go_enter Tryz.func181,Tryz.ntmps181
 go_upto_region 1 with fail
 change Code.wp _ _ _ _ (w.alloc (.cells (msA ⟨k1,k2,k3,k4,k5,k6,k7,k8,k9,k10,k11,k12⟩ p L.length cap) 76))
 clear A0
 obtain ⟨mb,hmb⟩:∃ mb,mb=w.heap.size:=⟨_,rfl⟩
 rw [← hmb] at MB ⊢
 clear hmb
 generalize w.alloc (.cells (msA ⟨k1,k2,k3,k4,k5,k6,k7,k8,k9,k10,k11,k12⟩ p L.length cap) 76)=w1 at *
 have m6:=MB.o.box.c 6 _ rfl
 go_upto_region 2 with fail
 clear m6
 obtain ⟨W2,hW⟩:∃ W2,W2=w1.drew:=⟨_,rfl⟩
 have X2:Hid (Ext w1 W2):=hI (by rw [hW];exact Ext.drew w1)
 replace H:=hI (H.o.ext X2.o)
 replace S:=hI (S.o.ext X2.o)
 replace MB:=hI (MB.o.ext X2.o)
 have g1:=H.o.g 1 _ rfl
 have g0:=H.o.g 0 _ rfl
 have gm1:=fun d os=>Ext.cell (Ext.reg W2 d os) (MB.o.box.c 1 _ rfl)
 have gm4:=fun d os=>Ext.cell (Ext.reg W2 d os) (MB.o.box.c 4 _ rfl)
 have gm8:=fun d os=>Ext.cell (Ext.reg W2 d os) (MB.o.box.c 8 _ rfl)
 have gm9:=fun d os=>Ext.cell (Ext.reg W2 d os) (MB.o.box.c 9 _ rfl)
 refine att [0,1,2,3,4,5,6,7,8,9,10,11,12,13,14,15,16,17,18,19,20,21,22,23,24,25,26,27,28,29,30,31,32,33,34,37,38,39,35,36,40,41,42,43,44,45,46,47,48,49,50] [] ?_
 rw [← hW]
 clear hW
 repeat ((first|refine aqq fun K hK=>?_|refine akk fun K hK=>?_);go_big_quiet_op;refine hK _ ?_;clear hK K)
 refine acc fun K hK=>?_
 go_simp
 refine (tdec_any k5 s.n ⟨BB.o.2.2.2.2.2.1.1,by have:=BB.o.2.2.2.2.2.1.2;omega⟩ H.o.ok.n _).mono ?_
 rintro e w3 ⟨rfl,rfl⟩
 refine hK _ _ (Ext.rfl' _) ?_;clear hK K
 repeat ((first|refine aqq fun K hK=>?_|refine akk fun K hK=>?_);go_big_quiet_op;refine hK _ ?_;clear hK K)
 refine acc fun K hK=>?_
 go_simp
 refine (tmost_any k7 s.n BB.o.2.2.2.2.2.2 H.o.ok.n _).mono ?_
 rw [BB.o.2.1]
 rintro e w3 ⟨rfl,rfl⟩
 refine hK _ _ (Ext.rfl' _) ?_;clear hK K
 repeat ((first|refine aqq fun K hK=>?_|refine akk fun K hK=>?_);go_big_quiet_op;refine hK _ ?_;clear hK K)
 refine acc fun K hK=>?_
 go_simp
 refine (thas_any k7 k2 BB.o.2.2.2.2.2.2 BB.o.2.2.2.2.1 _).mono ?_
 rw [BB.o.2.2.1]
 rintro e w3 ⟨rfl,rfl⟩
 refine hK _ _ (Ext.rfl' _) ?_;clear hK K
 repeat ((first|refine aqq fun K hK=>?_|refine akk fun K hK=>?_);go_big_quiet_op;refine hK _ ?_;clear hK K)
 refine acc fun K hK=>?_
 go_simp
 refine (thas_any k7 s.id BB.o.2.2.2.2.2.2 ⟨H.o.ok.id.1,by have h1:=H.o.ok.id.2;have h2:=H.o.ok.n.2;omega⟩ _).mono ?_
 rw [BB.o.2.2.2.1]
 rintro e w3 ⟨rfl,rfl⟩
 refine hK _ _ (Ext.rfl' _) ?_;clear hK K
 repeat ((first|refine aqq fun K hK=>?_|refine akk fun K hK=>?_);go_big_quiet_op;refine hK _ ?_;clear hK K)
 refine acc fun K hK=>?_
 go_simp
 refine (lnew_ext S.o.sl (fun k hk=>(S.o.lt k hk).1) (fun e he=>mayB_ok (AD.o.2 e he)) AD.o.1).mono ?_
 rintro e w4 ⟨o4,lg,rfl,lv4,x4⟩
 have LV:=hI lv4
 have X4:=hI ((X1.o.tr X2.o).tr x4)
 have X4':=hI (X2.o.tr x4)
 have MB4:=hI (MB.o.ext x4)
 clear gm8 gm9
 have gm9:=fun d os=>Ext.cell (Ext.reg w4 d os) (MB4.o.box.c 9 _ rfl)
 have gm8:=fun d os=>Ext.cell (Ext.reg w4 d os) (MB4.o.box.c 8 _ rfl)
 refine hK _ _ x4 ?_
 clear hK K x4 lv4
 repeat ((first|refine aqq fun K hK=>?_|refine akk fun K hK=>?_);go_big_quiet_op;refine hK _ ?_;clear hK K)
 refine acc fun K hK=>?_
 go_simp
 refine (llen_any LV.o).mono ?_
 rintro e w5 ⟨rfl,rfl⟩
 refine hK _ _ (Ext.rfl' _) ?_;clear hK K
 repeat ((first|refine aqq fun K hK=>?_|refine akk fun K hK=>?_);go_big_quiet_op;refine hK _ ?_;clear hK K)
 refine ra_nil ?_
 refine rt_nil ?_
 go_wp2
 go_ret
 exact ⟨rfl,X4.o⟩
end
section
open Go Go.Sort Go.RowKit
def leaveN (s:NdD):NdD:={ s with v:=none,mi:=false,f:=dropP s.f }
def instdO (s:NdD) (m:MsD) (L:List EnD):Option NdD:=
 if rightB s m L then
  if decide (s.dv≤m.vw)&&decide (s.ls<m.vw) then (if takeB m L then ackO (leaveN (takeS s m L)) m.fr 0 else none)
  else if (m.vw==s.ls)&&(m.vw==s.dv) then ackO { s with hd:=s.ck } m.fr 0
  else some s
 else none
variable {w w4:World} {o o4:Ow} {k x wb jd:Nat} {A A':AdD} {s s':NdD}
theorem ninstd_any (hcl:Cl w o) (hk:32≤k) (h:NodeP w o k x wb jd A s) {m:MsD} {p:Option Addr} {cap:Nat} {L:List EnD} (hsl:SlC 7 w o p L.length cap (L.map enL)) (hb:instdO s m L=some s') :
  Calls Tryz.prog 157 #[ptrN x,msV m p L.length cap] w fun e w'=>e=.returned (.tuple #[])∧∃ o' A',NodeP w' o' k x wb jd A' s'∧Fm (ndC k) o o' w w':=by
 unfold instdO at hb
 split at hb
 case isFalse=>cases hb
 rename_i hr
 have HR:=hI hr
 have HB:=hI hb
 clear hr hb
 obtain ⟨k1,k2,k3,k4,k5,k6,k7,k8,k9,k10,k11,k12⟩:=m
 have A0:=hI (Ext.alloc w (.cells (msA ⟨k1,k2,k3,k4,k5,k6,k7,k8,k9,k10,k11,k12⟩ p L.length cap) 76))
 have MB:=hI (BoxC.loose hcl (msA ⟨k1,k2,k3,k4,k5,k6,k7,k8,k9,k10,k11,k12⟩ p L.length cap) (msL ⟨k1,k2,k3,k4,k5,k6,k7,k8,k9,k10,k11,k12⟩ p L.length cap) 76 rfl)
 have H:=hI (h.ext A0.o)
 have S:=hI (hsl.ext A0.o)
 have M1:=hI (Fm.ext (C:=ndC k) hcl A0.o)
 have HK:=hI hk
 clear hcl h hsl hk
 go_enter Tryz.func157,Tryz.ntmps157
 go_upto_region 1 with fail
 change Code.wp _ _ _ _ (w.alloc (.cells (msA ⟨k1,k2,k3,k4,k5,k6,k7,k8,k9,k10,k11,k12⟩ p L.length cap) 76))
 clear A0
 generalize w.alloc (.cells (msA ⟨k1,k2,k3,k4,k5,k6,k7,k8,k9,k10,k11,k12⟩ p L.length cap) 76)=w1 at *
 generalize w.heap.size=mb at *
 have d0:=MB.o.box.c 0 _ rfl
 have d1:=MB.o.box.c 1 _ rfl
 have d2:=MB.o.box.c 2 _ rfl
 have d3:=MB.o.box.c 3 _ rfl
 have d4:=MB.o.box.c 4 _ rfl
 have d5:=MB.o.box.c 5 _ rfl
 have d6:=MB.o.box.c 6 _ rfl
 have d7:=MB.o.box.c 7 _ rfl
 have d8:=MB.o.box.c 8 _ rfl
 have d9:=MB.o.box.c 9 _ rfl
 have d10:=MB.o.box.c 10 _ rfl
 have d11:=MB.o.box.c 11 _ rfl
 have d12:=MB.o.box.c 12 _ rfl
 go_wp2_with fail
 refine (nright_any M1.o.cl HK.o H.o S.o HR.o).mono ?_
 rintro e w2 ⟨rfl,x2⟩
 replace H:=hI (H.o.ext x2)
 replace S:=hI (S.o.ext x2)
 replace MB:=hI (MB.o.ext x2)
 have M2:=hI (M1.o.tr (Fm.ext M1.o.cl x2) (nd0 HK.o))
 clear d0 d1 d2 d3 d4 d5 d6 d7 d8 d9 d10 d11 d12
 clear x2 M1 HR
 go_upto_region 2 with fail
 by_cases ha:s.dv≤k5
 ·by_cases hc:s.ls<k5
  ·have e2:decide (s.dv≤k5)=true:=decide_eq_true ha
   have e3:decide (s.ls<k5)=true:=decide_eq_true hc
   have HX:Hid ((if takeB ⟨k1,k2,k3,k4,k5,k6,k7,k8,k9,k10,k11,k12⟩ L then ackO (leaveN (takeS s ⟨k1,k2,k3,k4,k5,k6,k7,k8,k9,k10,k11,k12⟩ L)) k2 0 else none)=some s'):=hI (by
    have:=HB.o
    simp only [e2,e3,Bool.and_true,if_true] at this
    exact this)
   clear HB ha hc
   obtain ⟨W3,hW⟩:∃ W3,W3=w2.drew:=⟨_,rfl⟩
   have X3:Hid (Ext w2 W3):=hI (by rw [hW];exact Ext.drew w2)
   replace H:=hI (H.o.ext X3.o)
   replace S:=hI (S.o.ext X3.o)
   replace MB:=hI (MB.o.ext X3.o)
   have g2:=H.o.g 2 _ rfl
   have g11:=H.o.g 11 _ rfl
   have gm4:=fun d os=>Ext.cell (Ext.reg W3 d os) (MB.o.box.c 4 _ rfl)
   refine att [0,1,2,3,4,5,6,7,8,9,10,11,12,13,14,15,16,17] [] ?_
   rw [← hW]
   clear hW
   repeat ((first|refine aqq fun K hK=>?_|refine akk fun K hK=>?_);go_big_quiet_op;refine hK _ ?_;clear hK K)
   refine acc fun K hK=>?_
   go_simp
   refine (dview_any H.o.q.dk).mono ?_
   rintro e w4 ⟨rfl,rfl⟩
   refine hK _ _ (Ext.rfl' _) ?_;clear hK K
   repeat ((first|refine aqq fun K hK=>?_|refine akk fun K hK=>?_);go_big_quiet_op;refine hK _ ?_;clear hK K)
   refine ra_nil ?_
   refine rt_nil ?_
   have M3:=hI (M2.o.tr (Fm.ext M2.o.cl X3.o) (nd0 HK.o))
   clear M2 X3 g2 g11 gm4
   have HTB:Hid (takeB ⟨k1,k2,k3,k4,k5,k6,k7,k8,k9,k10,k11,k12⟩ L=true):=hI (by
    have:=HX.o
    split at this
    ·assumption
    ·cases this)
   have HACK:Hid (ackO (leaveN (takeS s ⟨k1,k2,k3,k4,k5,k6,k7,k8,k9,k10,k11,k12⟩ L)) k2 0=some s'):=hI (by
    have:=HX.o
    rw [HTB.o] at this
    exact this)
   clear HX e2 e3
   have d0:=MB.o.box.c 0 _ rfl
   have d1:=MB.o.box.c 1 _ rfl
   have d2:=MB.o.box.c 2 _ rfl
   have d3:=MB.o.box.c 3 _ rfl
   have d4:=MB.o.box.c 4 _ rfl
   have d5:=MB.o.box.c 5 _ rfl
   have d6:=MB.o.box.c 6 _ rfl
   have d7:=MB.o.box.c 7 _ rfl
   have d8:=MB.o.box.c 8 _ rfl
   have d9:=MB.o.box.c 9 _ rfl
   have d10:=MB.o.box.c 10 _ rfl
   have d11:=MB.o.box.c 11 _ rfl
   have d12:=MB.o.box.c 12 _ rfl
   go_wp2_with fail
   refine (ntake_any' M3.o.cl HK.o H.o S.o HTB.o).mono ?_
   rintro e w4 ⟨rfl,o4,A4,n4,m4⟩
   have H4:=hI n4
   have M4:=hI (M3.o.tr m4 (nd0 HK.o))
   have MB4:=hI (MB.o.fr m4 (by decide) (nd0 HK.o))
   clear d0 d1 d2 d3 d4 d5 d6 d7 d8 d9 d10 d11 d12
   clear n4 m4 H S MB M3
   obtain ⟨s4,hs4⟩:∃ s4,s4=takeS s ⟨k1,k2,k3,k4,k5,k6,k7,k8,k9,k10,k11,k12⟩ L:=⟨_,rfl⟩
   rw [← hs4] at H4 HACK
   clear hs4 HTB
   have c17:=H4.o.c 17 _ rfl
   have c20:=H4.o.c 20 _ rfl
   have fx:=H4.o.box.box.f
   obtain ⟨N5,F5⟩:=NodeP.mod (C:=fun _=>False) (A':={ A4 with v:=none }) (s':={ s4 with v:=none }) HK.o H4.o (Fm.refl M4.o.cl) (fun d hd=>hd.elim) (H4.o.q.set_vt (C:=fun _=>False) HK.o (show VtV _ _ _ none _ none from rfl) (Fm.refl M4.o.cl) (fun d hd=>hd.elim)) 17 (.pointer none) rfl { H4.o.ok with id:=H4.o.ok.id }
   have H5:=hI N5
   have M5:=hI (M4.o.tr F5 (nd0 HK.o))
   have MB5:=hI (MB4.o.fr F5 (by decide) (nd0 HK.o))
   obtain ⟨N6,F6⟩:=NodeP.mod (C:=fun _=>False) (A':={ A4 with v:=none }) (s':={ s4 with v:=none,mi:=false }) HK.o H5.o (Fm.refl M5.o.cl) (fun d hd=>hd.elim) { H5.o.q with dk:=H5.o.q.dk } 20 (.bool false) rfl { H5.o.ok with id:=H5.o.ok.id }
   have H6:=hI N6
   have M6:=hI (M5.o.tr F6 (nd0 HK.o))
   have MB6:=hI (MB5.o.fr F6 (by decide) (nd0 HK.o))
   go_upto_region 5 with fail
   clear N5 F5 N6 F6 H4 H5 M4 M5 MB4 MB5 c17 c20 fx
   generalize (w4.setCell ⟨x,17,none⟩ (.pointer none)).setCell ⟨x,20,none⟩ (.bool false)=w6 at *
   have c16:=H6.o.c 16 _ rfl
   go_wp2_with fail
   refine (pdrop_any M6.o.cl H6.o.q.pf (by have:=HK.o;omega)).mono ?_
   rintro e w7 ⟨rfl,pf7,m7⟩
   obtain ⟨N7,F7⟩:=NodeP.mod0 (A':={ A4 with v:=none }) (s':=leaveN s4) HK.o H6.o m7 (fun d hd=>by unfold two at hd;unfold ndC;omega) (H6.o.q.set_pf HK.o pf7 m7 (fun d hd=>by unfold two at hd;omega)) rfl { H6.o.ok with f:=(by have h:=H6.o.ok.f;exact h),bc:=(by show 0≤(0:Int)∧(0:Int)≤1000000;omega) }
   have NN:=hI N7
   have MM:=hI (M6.o.tr F7 (nd0 HK.o))
   have MB7:=hI (MB6.o.fr F7 (by decide) (nd0 HK.o))
   have d1:=MB7.o.box.c 1 _ rfl
   clear N7 F7 pf7 m7 H6 M6 MB6 c16
   go_wp2_with fail
   refine (nack_any MM.o.cl HK.o NN.o HACK.o).mono ?_
   rintro e w9 ⟨rfl,o9,A9,n9,f9⟩
   have N9:=hI n9
   have F9:=hI (MM.o.tr f9 (nd0 HK.o))
   clear n9 f9
   go_wp2
   refine bodyPost_end (v:=.tuple #[]) (by simp [results,Tryz.results157,go_sem]) rfl ?_
   exact ⟨rfl,o9,A9,N9.o,F9.o⟩
  ·have e2:decide (s.dv≤k5)=true:=decide_eq_true ha
   have e3:decide (s.ls<k5)=false:=decide_eq_false hc
   have HX:Hid ((if (k5==s.ls)&&(k5==s.dv) then ackO { s with hd:=s.ck } k2 0 else some s)=some s'):=hI (by
    have:=HB.o
    simp only [e2,e3,Bool.and_false,Bool.false_eq_true,if_false] at this
    exact this)
   clear HB ha hc
   obtain ⟨W3,hW⟩:∃ W3,W3=w2.drew:=⟨_,rfl⟩
   have X3:Hid (Ext w2 W3):=hI (by rw [hW];exact Ext.drew w2)
   replace H:=hI (H.o.ext X3.o)
   replace S:=hI (S.o.ext X3.o)
   replace MB:=hI (MB.o.ext X3.o)
   have g2:=H.o.g 2 _ rfl
   have g11:=H.o.g 11 _ rfl
   have gm4:=fun d os=>Ext.cell (Ext.reg W3 d os) (MB.o.box.c 4 _ rfl)
   refine att [0,1,2,3,4,5,6,7,8,9,10,11,12,13,14,15,16,17] [] ?_
   rw [← hW]
   clear hW
   repeat ((first|refine aqq fun K hK=>?_|refine akk fun K hK=>?_);go_big_quiet_op;refine hK _ ?_;clear hK K)
   refine acc fun K hK=>?_
   go_simp
   refine (dview_any H.o.q.dk).mono ?_
   rintro e w4 ⟨rfl,rfl⟩
   refine hK _ _ (Ext.rfl' _) ?_;clear hK K
   repeat ((first|refine aqq fun K hK=>?_|refine akk fun K hK=>?_);go_big_quiet_op;refine hK _ ?_;clear hK K)
   refine ra_nil ?_
   refine rt_nil ?_
   have M3:=hI (M2.o.tr (Fm.ext M2.o.cl X3.o) (nd0 HK.o))
   clear M2 X3 g2 g11 gm4
   clear e2 e3
   go_upto_region 7 with fail
   by_cases hp:k5=s.ls
   ·have e4:(k5==s.ls)=true:=by simpa using hp
    by_cases hq:k5=s.dv
    ·have e5:(k5==s.dv)=true:=by simpa using hq
     clear hp hq
     obtain ⟨W5,hW⟩:∃ W5,W5=W3.drew:=⟨_,rfl⟩
     have X5:Hid (Ext W3 W5):=hI (by rw [hW];exact Ext.drew W3)
     replace H:=hI (H.o.ext X5.o)
     replace MB:=hI (MB.o.ext X5.o)
     have g2:=H.o.g 2 _ rfl
     have g11:=H.o.g 11 _ rfl
     have gm4:=fun d os=>Ext.cell (Ext.reg W5 d os) (MB.o.box.c 4 _ rfl)
     refine att [0,1,2,3,4,5,6,7,8,9,10,11,12,13,14,15,16,17] [] ?_
     rw [← hW]
     clear hW
     repeat ((first|refine aqq fun K hK=>?_|refine akk fun K hK=>?_);go_big_quiet_op;refine hK _ ?_;clear hK K)
     refine acc fun K hK=>?_
     go_simp
     refine (dview_any H.o.q.dk).mono ?_
     rintro e w6 ⟨rfl,rfl⟩
     refine hK _ _ (Ext.rfl' _) ?_;clear hK K
     repeat ((first|refine aqq fun K hK=>?_|refine akk fun K hK=>?_);go_big_quiet_op;refine hK _ ?_;clear hK K)
     refine ra_nil ?_
     refine rt_nil ?_
     have MM:=hI (M3.o.tr (Fm.ext M3.o.cl X5.o) (nd0 HK.o))
     clear M3 X5 g2 g11 gm4
     have HACK:Hid (ackO { s with hd:=s.ck } k2 0=some s'):=hI (by
      have:=HX.o
      simp only [e4,e5,Bool.and_true,if_true] at this
      exact this)
     clear HX
     have c4:=H.o.c 4 _ rfl
     have c5:=H.o.c 5 _ rfl
     have fx:=H.o.box.box.f
     obtain ⟨N8,F8⟩:=NodeP.mod (C:=fun _=>False) (A':=A) (s':={ s with hd:=s.ck }) HK.o H.o (Fm.refl MM.o.cl) (fun d hd=>hd.elim) { H.o.q with dk:=H.o.q.dk } 5 (.int .i64 s.ck) rfl { H.o.ok with hd:=H.o.ok.ck }
     have NN:=hI N8
     have MB8:=hI (MB.o.fr F8 (by decide) (nd0 HK.o))
     replace MM:=hI (MM.o.tr F8 (nd0 HK.o))
     go_upto_region 9 with fail
     clear N8 F8 c4 c5 fx H MB
     generalize W5.setCell ⟨x,5,none⟩ (.int .i64 s.ck)=w8 at *
     have d1:=MB8.o.box.c 1 _ rfl
     go_wp2_with fail
     refine (nack_any MM.o.cl HK.o NN.o HACK.o).mono ?_
     rintro e w9 ⟨rfl,o9,A9,n9,f9⟩
     have N9:=hI n9
     have F9:=hI (MM.o.tr f9 (nd0 HK.o))
     clear n9 f9
     go_wp2
     refine bodyPost_end (v:=.tuple #[]) (by simp [results,Tryz.results157,go_sem]) rfl ?_
     exact ⟨rfl,o9,A9,N9.o,F9.o⟩
    ·have e5:(k5==s.dv)=false:=by simpa using hq
     clear hp hq
     obtain ⟨W5,hW⟩:∃ W5,W5=W3.drew:=⟨_,rfl⟩
     have X5:Hid (Ext W3 W5):=hI (by rw [hW];exact Ext.drew W3)
     replace H:=hI (H.o.ext X5.o)
     replace MB:=hI (MB.o.ext X5.o)
     have g2:=H.o.g 2 _ rfl
     have g11:=H.o.g 11 _ rfl
     have gm4:=fun d os=>Ext.cell (Ext.reg W5 d os) (MB.o.box.c 4 _ rfl)
     refine att [0,1,2,3,4,5,6,7,8,9,10,11,12,13,14,15,16,17] [] ?_
     rw [← hW]
     clear hW
     repeat ((first|refine aqq fun K hK=>?_|refine akk fun K hK=>?_);go_big_quiet_op;refine hK _ ?_;clear hK K)
     refine acc fun K hK=>?_
     go_simp
     refine (dview_any H.o.q.dk).mono ?_
     rintro e w6 ⟨rfl,rfl⟩
     refine hK _ _ (Ext.rfl' _) ?_;clear hK K
     repeat ((first|refine aqq fun K hK=>?_|refine akk fun K hK=>?_);go_big_quiet_op;refine hK _ ?_;clear hK K)
     refine ra_nil ?_
     refine rt_nil ?_
     have MM:=hI (M3.o.tr (Fm.ext M3.o.cl X5.o) (nd0 HK.o))
     clear M3 X5 g2 g11 gm4
     have hss:s=s':=by have:=HX.o;simp only [e5,Bool.and_false,Bool.false_eq_true,if_false] at this;exact Option.some.inj this
     have N9:=hI H.o
     rw [hss] at N9
     clear hss
     go_wp2
     refine bodyPost_end (v:=.tuple #[]) (by simp [results,Tryz.results157,go_sem]) rfl ?_
     exact ⟨rfl,_,_,N9.o,MM.o⟩
   ·have e4:(k5==s.ls)=false:=by simpa using hp
    clear hp
    obtain ⟨W5,hW⟩:∃ W5,W5=W3.drew:=⟨_,rfl⟩
    have X5:Hid (Ext W3 W5):=hI (by rw [hW];exact Ext.drew W3)
    replace H:=hI (H.o.ext X5.o)
    replace MB:=hI (MB.o.ext X5.o)
    have g2:=H.o.g 2 _ rfl
    have g11:=H.o.g 11 _ rfl
    have gm4:=fun d os=>Ext.cell (Ext.reg W5 d os) (MB.o.box.c 4 _ rfl)
    refine att [0,1,2,3,4,5,6,7,8,9,10,11,12,13,14,15,16,17] [] ?_
    rw [← hW]
    clear hW
    repeat ((first|refine aqq fun K hK=>?_|refine akk fun K hK=>?_);go_big_quiet_op;refine hK _ ?_;clear hK K)
    refine ra_nil ?_
    refine rt_nil ?_
    have MM:=hI (M3.o.tr (Fm.ext M3.o.cl X5.o) (nd0 HK.o))
    clear M3 X5 g2 g11 gm4
    have hss:s=s':=by have:=HX.o;simp only [e4,Bool.false_and,Bool.false_eq_true,if_false] at this;exact Option.some.inj this
    have N9:=hI H.o
    rw [hss] at N9
    clear hss
    go_wp2
    refine bodyPost_end (v:=.tuple #[]) (by simp [results,Tryz.results157,go_sem]) rfl ?_
    exact ⟨rfl,_,_,N9.o,MM.o⟩
 ·have e2:decide (s.dv≤k5)=false:=decide_eq_false ha
  have HX:Hid ((if (k5==s.ls)&&(k5==s.dv) then ackO { s with hd:=s.ck } k2 0 else some s)=some s'):=hI (by
   have:=HB.o
   simp only [e2,Bool.false_and,Bool.false_eq_true,if_false] at this
   exact this)
  clear HB ha
  obtain ⟨W3,hW⟩:∃ W3,W3=w2.drew:=⟨_,rfl⟩
  have X3:Hid (Ext w2 W3):=hI (by rw [hW];exact Ext.drew w2)
  replace H:=hI (H.o.ext X3.o)
  replace S:=hI (S.o.ext X3.o)
  replace MB:=hI (MB.o.ext X3.o)
  have g2:=H.o.g 2 _ rfl
  have g11:=H.o.g 11 _ rfl
  have gm4:=fun d os=>Ext.cell (Ext.reg W3 d os) (MB.o.box.c 4 _ rfl)
  refine att [0,1,2,3,4,5,6,7,8,9,10,11,12,13,14,15,16,17] [] ?_
  rw [← hW]
  clear hW
  repeat ((first|refine aqq fun K hK=>?_|refine akk fun K hK=>?_);go_big_quiet_op;refine hK _ ?_;clear hK K)
  refine acc fun K hK=>?_
  go_simp
  refine (dview_any H.o.q.dk).mono ?_
  rintro e w4 ⟨rfl,rfl⟩
  refine hK _ _ (Ext.rfl' _) ?_;clear hK K
  repeat ((first|refine aqq fun K hK=>?_|refine akk fun K hK=>?_);go_big_quiet_op;refine hK _ ?_;clear hK K)
  refine ra_nil ?_
  refine rt_nil ?_
  have M3:=hI (M2.o.tr (Fm.ext M2.o.cl X3.o) (nd0 HK.o))
  clear M2 X3 g2 g11 gm4
  clear e2
  go_upto_region 7 with fail
  by_cases hp:k5=s.ls
  ·have e4:(k5==s.ls)=true:=by simpa using hp
   by_cases hq:k5=s.dv
   ·have e5:(k5==s.dv)=true:=by simpa using hq
    clear hp hq
    obtain ⟨W5,hW⟩:∃ W5,W5=W3.drew:=⟨_,rfl⟩
    have X5:Hid (Ext W3 W5):=hI (by rw [hW];exact Ext.drew W3)
    replace H:=hI (H.o.ext X5.o)
    replace MB:=hI (MB.o.ext X5.o)
    have g2:=H.o.g 2 _ rfl
    have g11:=H.o.g 11 _ rfl
    have gm4:=fun d os=>Ext.cell (Ext.reg W5 d os) (MB.o.box.c 4 _ rfl)
    refine att [0,1,2,3,4,5,6,7,8,9,10,11,12,13,14,15,16,17] [] ?_
    rw [← hW]
    clear hW
    repeat ((first|refine aqq fun K hK=>?_|refine akk fun K hK=>?_);go_big_quiet_op;refine hK _ ?_;clear hK K)
    refine acc fun K hK=>?_
    go_simp
    refine (dview_any H.o.q.dk).mono ?_
    rintro e w6 ⟨rfl,rfl⟩
    refine hK _ _ (Ext.rfl' _) ?_;clear hK K
    repeat ((first|refine aqq fun K hK=>?_|refine akk fun K hK=>?_);go_big_quiet_op;refine hK _ ?_;clear hK K)
    refine ra_nil ?_
    refine rt_nil ?_
    have MM:=hI (M3.o.tr (Fm.ext M3.o.cl X5.o) (nd0 HK.o))
    clear M3 X5 g2 g11 gm4
    have HACK:Hid (ackO { s with hd:=s.ck } k2 0=some s'):=hI (by
     have:=HX.o
     simp only [e4,e5,Bool.and_true,if_true] at this
     exact this)
    clear HX
    have c4:=H.o.c 4 _ rfl
    have c5:=H.o.c 5 _ rfl
    have fx:=H.o.box.box.f
    obtain ⟨N8,F8⟩:=NodeP.mod (C:=fun _=>False) (A':=A) (s':={ s with hd:=s.ck }) HK.o H.o (Fm.refl MM.o.cl) (fun d hd=>hd.elim) { H.o.q with dk:=H.o.q.dk } 5 (.int .i64 s.ck) rfl { H.o.ok with hd:=H.o.ok.ck }
    have NN:=hI N8
    have MB8:=hI (MB.o.fr F8 (by decide) (nd0 HK.o))
    replace MM:=hI (MM.o.tr F8 (nd0 HK.o))
    go_upto_region 9 with fail
    clear N8 F8 c4 c5 fx H MB
    generalize W5.setCell ⟨x,5,none⟩ (.int .i64 s.ck)=w8 at *
    have d1:=MB8.o.box.c 1 _ rfl
    go_wp2_with fail
    refine (nack_any MM.o.cl HK.o NN.o HACK.o).mono ?_
    rintro e w9 ⟨rfl,o9,A9,n9,f9⟩
    have N9:=hI n9
    have F9:=hI (MM.o.tr f9 (nd0 HK.o))
    clear n9 f9
    go_wp2
    refine bodyPost_end (v:=.tuple #[]) (by simp [results,Tryz.results157,go_sem]) rfl ?_
    exact ⟨rfl,o9,A9,N9.o,F9.o⟩
   ·have e5:(k5==s.dv)=false:=by simpa using hq
    clear hp hq
    obtain ⟨W5,hW⟩:∃ W5,W5=W3.drew:=⟨_,rfl⟩
    have X5:Hid (Ext W3 W5):=hI (by rw [hW];exact Ext.drew W3)
    replace H:=hI (H.o.ext X5.o)
    replace MB:=hI (MB.o.ext X5.o)
    have g2:=H.o.g 2 _ rfl
    have g11:=H.o.g 11 _ rfl
    have gm4:=fun d os=>Ext.cell (Ext.reg W5 d os) (MB.o.box.c 4 _ rfl)
    refine att [0,1,2,3,4,5,6,7,8,9,10,11,12,13,14,15,16,17] [] ?_
    rw [← hW]
    clear hW
    repeat ((first|refine aqq fun K hK=>?_|refine akk fun K hK=>?_);go_big_quiet_op;refine hK _ ?_;clear hK K)
    refine acc fun K hK=>?_
    go_simp
    refine (dview_any H.o.q.dk).mono ?_
    rintro e w6 ⟨rfl,rfl⟩
    refine hK _ _ (Ext.rfl' _) ?_;clear hK K
    repeat ((first|refine aqq fun K hK=>?_|refine akk fun K hK=>?_);go_big_quiet_op;refine hK _ ?_;clear hK K)
    refine ra_nil ?_
    refine rt_nil ?_
    have MM:=hI (M3.o.tr (Fm.ext M3.o.cl X5.o) (nd0 HK.o))
    clear M3 X5 g2 g11 gm4
    have hss:s=s':=by have:=HX.o;simp only [e5,Bool.and_false,Bool.false_eq_true,if_false] at this;exact Option.some.inj this
    have N9:=hI H.o
    rw [hss] at N9
    clear hss
    go_wp2
    refine bodyPost_end (v:=.tuple #[]) (by simp [results,Tryz.results157,go_sem]) rfl ?_
    exact ⟨rfl,_,_,N9.o,MM.o⟩
  ·have e4:(k5==s.ls)=false:=by simpa using hp
   clear hp
   obtain ⟨W5,hW⟩:∃ W5,W5=W3.drew:=⟨_,rfl⟩
   have X5:Hid (Ext W3 W5):=hI (by rw [hW];exact Ext.drew W3)
   replace H:=hI (H.o.ext X5.o)
   replace MB:=hI (MB.o.ext X5.o)
   have g2:=H.o.g 2 _ rfl
   have g11:=H.o.g 11 _ rfl
   have gm4:=fun d os=>Ext.cell (Ext.reg W5 d os) (MB.o.box.c 4 _ rfl)
   refine att [0,1,2,3,4,5,6,7,8,9,10,11,12,13,14,15,16,17] [] ?_
   rw [← hW]
   clear hW
   repeat ((first|refine aqq fun K hK=>?_|refine akk fun K hK=>?_);go_big_quiet_op;refine hK _ ?_;clear hK K)
   refine ra_nil ?_
   refine rt_nil ?_
   have MM:=hI (M3.o.tr (Fm.ext M3.o.cl X5.o) (nd0 HK.o))
   clear M3 X5 g2 g11 gm4
   have hss:s=s':=by have:=HX.o;simp only [e4,Bool.false_and,Bool.false_eq_true,if_false] at this;exact Option.some.inj this
   have N9:=hI H.o
   rw [hss] at N9
   clear hss
   go_wp2
   refine bodyPost_end (v:=.tuple #[]) (by simp [results,Tryz.results157,go_sem]) rfl ?_
   exact ⟨rfl,_,_,N9.o,MM.o⟩
end
section
open Go Go.Sort Go.RowKit
def voteM (s:NdD) (m:MsD):MsD:=⟨3,0,m.fr,0,m.vw,s.ls,0,0,s.cm,0,0,false⟩
def denyM (s:NdD) (m:MsD):MsD:=⟨2,0,m.fr,0,s.dv,0,0,0,0,0,0,false⟩
def joinN (s:NdD) (m:MsD):NdD:={ s with dv:=m.vw,v:=none,ag:=false,hd:=s.ck,f:=dropP s.f }
def propdO (s:NdD) (m:MsD):Option NdD:=
 if decide (1≤m.vw∧m.vw≤1000000000) then
  if m.fr==decT m.vw s.n then
   if decide (s.dv<m.vw) then sayO (joinN s m) (voteM s m) s.L
   else if decide (m.vw<s.dv) || decide (m.vw≤s.ls) then sayO s (denyM s m) []
   else sayO s (voteM s m) s.L
  else some s
 else none
variable {w w4:World} {o o4:Ow} {k x wb jd:Nat} {A A':AdD} {s s':NdD}
theorem npropd_any (hcl:Cl w o) (hk:32≤k) (h:NodeP w o k x wb jd A s) {m:MsD} {p:Option Addr} {cap:Nat} {L:List EnD} (hsl:SlC 7 w o p L.length cap (L.map enL)) (hb:propdO s m=some s') :
  Calls Tryz.prog 156 #[ptrN x,msV m p L.length cap] w fun e w'=>e=.returned (.tuple #[])∧∃ o' A',NodeP w' o' k x wb jd A' s'∧Fm (ndC k) o o' w w':=by
 unfold propdO at hb
 split at hb
 case isFalse=>cases hb
 rename_i hr
 have HV:=hI (of_decide_eq_true hr)
 have HB:=hI hb
 clear hr hb
 obtain ⟨k1,k2,k3,k4,k5,k6,k7,k8,k9,k10,k11,k12⟩:=m
 simp only at HV HB
 have A0:=hI (Ext.alloc w (.cells (msA ⟨k1,k2,k3,k4,k5,k6,k7,k8,k9,k10,k11,k12⟩ p L.length cap) 76))
 have MB:=hI (BoxC.loose hcl (msA ⟨k1,k2,k3,k4,k5,k6,k7,k8,k9,k10,k11,k12⟩ p L.length cap) (msL ⟨k1,k2,k3,k4,k5,k6,k7,k8,k9,k10,k11,k12⟩ p L.length cap) 76 rfl)
 have H:=hI (h.ext A0.o)
 have S:=hI (hsl.ext A0.o)
 have M1:=hI (Fm.ext (C:=ndC k) hcl A0.o)
 have HK:=hI hk
 clear hcl h hsl hk
 go_enter Tryz.func156,Tryz.ntmps156
 go_upto_region 1 with fail
 change Code.wp _ _ _ _ (w.alloc (.cells (msA ⟨k1,k2,k3,k4,k5,k6,k7,k8,k9,k10,k11,k12⟩ p L.length cap) 76))
 clear A0
 generalize w.alloc (.cells (msA ⟨k1,k2,k3,k4,k5,k6,k7,k8,k9,k10,k11,k12⟩ p L.length cap) 76)=w1 at *
 generalize w.heap.size=mb at *
 have c2:=H.o.c 2 _ rfl
 go_wp2_with fail
 refine (dview_any H.o.q.dk).mono ?_
 rintro e w2 ⟨rfl,rfl⟩
 clear c2
 go_upto_region 2 with fail
 by_cases hf:k2=decT k5 s.n
 ·have e1:(k2 != decT k5 s.n)=false:=by simpa using hf
  have HX:Hid ((if decide (s.dv<k5) then sayO (joinN s ⟨k1,k2,k3,k4,k5,k6,k7,k8,k9,k10,k11,k12⟩) (voteM s ⟨k1,k2,k3,k4,k5,k6,k7,k8,k9,k10,k11,k12⟩) s.L else if decide (k5<s.dv) || decide (k5≤s.ls) then sayO s (denyM s ⟨k1,k2,k3,k4,k5,k6,k7,k8,k9,k10,k11,k12⟩) [] else sayO s (voteM s ⟨k1,k2,k3,k4,k5,k6,k7,k8,k9,k10,k11,k12⟩) s.L)=some s'):=hI (by
   have:=HB.o
   simp only [show (k2==decT k5 s.n)=true by simpa using hf,if_true] at this
   exact this)
  clear HB hf
  obtain ⟨W2,hW⟩:∃ W2,W2=w1.drew:=⟨_,rfl⟩
  have X2:Hid (Ext w1 W2):=hI (by rw [hW];exact Ext.drew w1)
  replace H:=hI (H.o.ext X2.o)
  replace S:=hI (S.o.ext X2.o)
  replace MB:=hI (MB.o.ext X2.o)
  have g1:=H.o.g 1 _ rfl
  have gm1:=fun d os=>Ext.cell (Ext.reg W2 d os) (MB.o.box.c 1 _ rfl)
  have gm4:=fun d os=>Ext.cell (Ext.reg W2 d os) (MB.o.box.c 4 _ rfl)
  refine att [0,1,2,3,4,5,6,7,8,9,10] [] ?_
  rw [← hW]
  clear hW
  repeat ((first|refine aqq fun K hK=>?_|refine akk fun K hK=>?_);go_big_quiet_op;refine hK _ ?_;clear hK K)
  refine acc fun K hK=>?_
  go_simp
  refine (tdec_any k5 s.n ⟨HV.o.1,by have:=HV.o.2;omega⟩ H.o.ok.n _).mono ?_
  rintro e w3 ⟨rfl,rfl⟩
  refine hK _ _ (Ext.rfl' _) ?_;clear hK K
  repeat ((first|refine aqq fun K hK=>?_|refine akk fun K hK=>?_);go_big_quiet_op;refine hK _ ?_;clear hK K)
  refine ra_nil ?_
  refine rt_nil ?_
  have M2:=hI (M1.o.tr (Fm.ext M1.o.cl X2.o) (nd0 HK.o))
  clear M1 X2
  go_upto_region 3 with fail
  have d4:=MB.o.box.c 4 _ rfl
  by_cases hlt:s.dv<k5
  ·have e2:decide (s.dv<k5)=true:=decide_eq_true hlt
   have HSAY:Hid (sayO (joinN s ⟨k1,k2,k3,k4,k5,k6,k7,k8,k9,k10,k11,k12⟩) (voteM s ⟨k1,k2,k3,k4,k5,k6,k7,k8,k9,k10,k11,k12⟩) s.L=some s'):=hI (by
    have:=HX.o
    simp only [e2,if_true] at this
    exact this)
   have HLT:=hI hlt
   clear HX hlt
   go_upto_region 4 with fail
   clear d4
   obtain ⟨W4,hW⟩:∃ W4,W4=W2.drew:=⟨_,rfl⟩
   have X4:Hid (Ext W2 W4):=hI (by rw [hW];exact Ext.drew W2)
   replace H:=hI (H.o.ext X4.o)
   replace S:=hI (S.o.ext X4.o)
   replace MB:=hI (MB.o.ext X4.o)
   have g2:=H.o.g 2 _ rfl
   have gm4:=fun d os=>Ext.cell (Ext.reg W4 d os) (MB.o.box.c 4 _ rfl)
   refine att [0,1,2,3,4,5] [6,7] ?_
   rw [← hW]
   clear hW
   repeat ((first|refine aqq fun K hK=>?_|refine akk fun K hK=>?_);go_big_quiet_op;refine hK _ ?_;clear hK K)
   refine ra_nil ?_
   refine too fun K hK=>?_
   go_simp
   refine (dpromise_any (M2.o.cl.ext X4.o) H.o.q.dk ⟨HLT.o,by have:=HV.o.2;omega⟩).mono ?_
   rintro e w5 ⟨rfl,dk5,m5⟩
   obtain ⟨N5,F5⟩:=NodeP.mod0 (A':=A) (s':={ s with dv:=k5 }) HK.o H.o m5 (fun d hd=>by unfold one at hd;unfold ndC;omega) (H.o.q.set_dk HK.o dk5 m5 (fun d hd=>.inl hd)) rfl { H.o.ok with dv:=(by have:=HV.o;show 0≤k5∧k5≤1000000000;omega) }
   have H5:=hI N5
   have MB5:=hI (MB.o.fr F5 (by decide) (nd0 HK.o))
   have M5:=hI ((M2.o.tr (Fm.ext M2.o.cl X4.o) (nd0 HK.o)).tr F5 (nd0 HK.o))
   clear N5 F5 dk5 m5 H S MB M2 X4 g2 gm4
   refine hK _ _ ?_
   clear hK K
   refine too fun K hK=>?_
   go_simp
   refine hK _ _ ?_
   clear hK K
   refine rt_nil ?_
   have c4:=H5.o.c 4 _ rfl
   have c17:=H5.o.c 17 _ rfl
   have c19:=H5.o.c 19 _ rfl
   have c5:=H5.o.c 5 _ rfl
   have fx:=H5.o.box.box.f
   obtain ⟨N6,F6⟩:=NodeP.mod (C:=fun _=>False) (A':={ A with v:=none }) (s':={ s with dv:=k5,v:=none }) HK.o H5.o (Fm.refl M5.o.cl) (fun d hd=>hd.elim) (H5.o.q.set_vt (C:=fun _=>False) HK.o (show VtV _ _ _ none _ none from rfl) (Fm.refl M5.o.cl) (fun d hd=>hd.elim)) 17 (.pointer none) rfl { H5.o.ok with id:=H5.o.ok.id }
   have H6:=hI N6
   have M6:=hI (M5.o.tr F6 (nd0 HK.o))
   have MB6:=hI (MB5.o.fr F6 (by decide) (nd0 HK.o))
   obtain ⟨N7,F7⟩:=NodeP.mod (C:=fun _=>False) (A':={ A with v:=none }) (s':={ s with dv:=k5,v:=none,ag:=false }) HK.o H6.o (Fm.refl M6.o.cl) (fun d hd=>hd.elim) { H6.o.q with dk:=H6.o.q.dk } 19 (.bool false) rfl { H6.o.ok with id:=H6.o.ok.id }
   have H7:=hI N7
   have M7:=hI (M6.o.tr F7 (nd0 HK.o))
   have MB7:=hI (MB6.o.fr F7 (by decide) (nd0 HK.o))
   obtain ⟨N8,F8⟩:=NodeP.mod (C:=fun _=>False) (A':={ A with v:=none }) (s':={ s with dv:=k5,v:=none,ag:=false,hd:=s.ck }) HK.o H7.o (Fm.refl M7.o.cl) (fun d hd=>hd.elim) { H7.o.q with dk:=H7.o.q.dk } 5 (.int .i64 s.ck) rfl { H7.o.ok with hd:=H7.o.ok.ck }
   have H8:=hI N8
   have M8:=hI (M7.o.tr F8 (nd0 HK.o))
   have MB8:=hI (MB7.o.fr F8 (by decide) (nd0 HK.o))
   clear N6 F6 N7 F7 N8 F8
   go_upto_region 6 with fail
   clear H5 H6 H7 M5 M6 M7 MB5 MB6 MB7 c4 c17 c19 c5 fx
   generalize ((w5.setCell ⟨x,17,none⟩ (.pointer none)).setCell ⟨x,19,none⟩ (.bool false)).setCell ⟨x,5,none⟩ (.int .i64 s.ck)=w8 at *
   have c16:=H8.o.c 16 _ rfl
   go_wp2_with fail
   refine (pdrop_any M8.o.cl H8.o.q.pf (by have:=HK.o;omega)).mono ?_
   rintro e w9 ⟨rfl,pf9,m9⟩
   obtain ⟨N9,F9⟩:=NodeP.mod0 (A':={ A with v:=none }) (s':=joinN s ⟨k1,k2,k3,k4,k5,k6,k7,k8,k9,k10,k11,k12⟩) HK.o H8.o m9 (fun d hd=>by unfold two at hd;unfold ndC;omega) (H8.o.q.set_pf HK.o pf9 m9 (fun d hd=>by unfold two at hd;omega)) rfl { H8.o.ok with bc:=(by show 0≤(0:Int)∧(0:Int)≤1000000;omega) }
   replace H:=hI N9
   replace MB:=hI (MB8.o.fr F9 (by decide) (nd0 HK.o))
   replace M2:=hI (M8.o.tr F9 (nd0 HK.o))
   clear N9 F9 pf9 m9 H8 M8 MB8 c16
   go_upto_region 9 with fail
   obtain ⟨W9,hW⟩:∃ W9,W9=w9.drew:=⟨_,rfl⟩
   have X9:Hid (Ext w9 W9):=hI (by rw [hW];exact Ext.drew w9)
   replace H:=hI (H.o.ext X9.o)
   replace MB:=hI (MB.o.ext X9.o)
   have g11:∀ d os,(grow (redrawn W9 d) os).cell? ⟨x,11,none⟩=some (.int .i64 s.ls):=H.o.g 11 _ rfl
   have g9:=H.o.g 9 _ rfl
   have g10:∀ d os,(grow (redrawn W9 d) os).cell? ⟨x,10,none⟩=some (.int .i64 s.cm):=H.o.g 10 _ rfl
   have gm1:=fun d os=>Ext.cell (Ext.reg W9 d os) (MB.o.box.c 1 _ rfl)
   have gm4:=fun d os=>Ext.cell (Ext.reg W9 d os) (MB.o.box.c 4 _ rfl)
   refine att [0,1,2,3,4,5,6,7,8,9,10,11,12,14,15,16,17,13,18] [19] ?_
   rw [← hW]
   clear hW
   repeat ((first|refine aqq fun K hK=>?_|refine akk fun K hK=>?_);go_big_quiet_op;refine hK _ ?_;clear hK K)
   refine acc fun K hK=>?_
   go_simp
   refine (lfrom0_any (L:=s.L) H.o.q.lg).mono ?_
   rintro e w10 ⟨p10,c10,rfl,o10,x10⟩
   have S10:=hI (SlC.fresh o10 (M2.o.cl.ext X9.o) (Nat.le_refl _))
   have X10:=hI (X9.o.tr x10)
   have H10:=hI (H.o.ext x10)
   refine hK _ _ x10 ?_
   clear hK K o10 x10
   repeat ((first|refine aqq fun K hK=>?_|refine akk fun K hK=>?_);go_big_quiet_op;refine hK _ ?_;clear hK K)
   refine acc fun K hK=>?_
   go_simp
   refine hK _ _ (Ext.rfl' _) ?_;clear hK K
   refine ra_nil ?_
   refine too fun K hK=>?_
   go_simp
   refine (nsayO_any (m:=voteM s ⟨k1,k2,k3,k4,k5,k6,k7,k8,k9,k10,k11,k12⟩) (M2.o.cl.ext X10.o) HK.o H10.o S10.o HSAY.o).mono ?_
   rintro e w12 ⟨rfl,o12,A12,n12,f12⟩
   have N9:=hI n12
   have F9:=hI ((M2.o.tr (Fm.ext M2.o.cl X10.o) (nd0 HK.o)).tr f12 (nd0 HK.o))
   clear n12 f12
   refine hK _ _ ?_
   clear hK K
   refine rt_nil ?_
   refine bodyPost_end (v:=.tuple #[]) (by simp [results,Tryz.results156,go_sem]) rfl ?_
   exact ⟨rfl,o12,A12,N9.o,F9.o⟩
  ·have e2:decide (s.dv<k5)=false:=decide_eq_false hlt
   clear hlt
   go_upto_region 7 with fail
   clear d4
   by_cases hl2:k5<s.dv
   ·have e3:decide (k5<s.dv)=true:=decide_eq_true hl2
    have HSAY:Hid (sayO s (denyM s ⟨k1,k2,k3,k4,k5,k6,k7,k8,k9,k10,k11,k12⟩) []=some s'):=hI (by
     have:=HX.o
     simp only [e2,e3,Bool.true_or,Bool.false_eq_true,if_false,if_true] at this
     exact this)
    clear HX hl2
    obtain ⟨W7,hW⟩:∃ W7,W7=W2.drew:=⟨_,rfl⟩
    have X7:Hid (Ext W2 W7):=hI (by rw [hW];exact Ext.drew W2)
    replace H:=hI (H.o.ext X7.o)
    replace S:=hI (S.o.ext X7.o)
    replace MB:=hI (MB.o.ext X7.o)
    have g11:=H.o.g 11 _ rfl
    have gm4:=fun d os=>Ext.cell (Ext.reg W7 d os) (MB.o.box.c 4 _ rfl)
    refine att [0,1,2,3,4,5,6,7,8,9,10,11,12,13] [] ?_
    rw [← hW]
    clear hW
    repeat ((first|refine aqq fun K hK=>?_|refine akk fun K hK=>?_);go_big_quiet_op;refine hK _ ?_;clear hK K)
    refine ra_nil ?_
    refine rt_nil ?_
    have M7:=hI (M2.o.tr (Fm.ext M2.o.cl X7.o) (nd0 HK.o))
    clear M2 X7 g11 gm4
    have d1:=MB.o.box.c 1 _ rfl
    go_wp2_with fail
    refine (nsayO_any (m:=denyM s ⟨k1,k2,k3,k4,k5,k6,k7,k8,k9,k10,k11,k12⟩) M7.o.cl HK.o H.o (L:=[]) (SlC.empty 7 _ _) HSAY.o).mono ?_
    rintro e w12 ⟨rfl,o12,A12,n12,f12⟩
    have N9:=hI n12
    have F9:=hI (M7.o.tr f12 (nd0 HK.o))
    clear n12 f12
    go_wp2
    refine bodyPost_ret (v:=.tuple #[]) (by simp [results,Tryz.results156,go_sem]) rfl ?_
    exact ⟨rfl,o12,A12,N9.o,F9.o⟩
   ·have e3:decide (k5<s.dv)=false:=decide_eq_false hl2
    clear hl2
    by_cases hl3:k5≤s.ls
    ·have e4:decide (k5≤s.ls)=true:=decide_eq_true hl3
     have HSAY:Hid (sayO s (denyM s ⟨k1,k2,k3,k4,k5,k6,k7,k8,k9,k10,k11,k12⟩) []=some s'):=hI (by
      have:=HX.o
      simp only [e2,e3,e4,Bool.false_or,Bool.false_eq_true,if_false,if_true] at this
      exact this)
     clear HX hl3
     obtain ⟨W7,hW⟩:∃ W7,W7=W2.drew:=⟨_,rfl⟩
     have X7:Hid (Ext W2 W7):=hI (by rw [hW];exact Ext.drew W2)
     replace H:=hI (H.o.ext X7.o)
     replace S:=hI (S.o.ext X7.o)
     replace MB:=hI (MB.o.ext X7.o)
     have g11:=H.o.g 11 _ rfl
     have gm4:=fun d os=>Ext.cell (Ext.reg W7 d os) (MB.o.box.c 4 _ rfl)
     refine att [0,1,2,3,4,5,6,7,8,9,10,11,12,13] [] ?_
     rw [← hW]
     clear hW
     repeat ((first|refine aqq fun K hK=>?_|refine akk fun K hK=>?_);go_big_quiet_op;refine hK _ ?_;clear hK K)
     refine ra_nil ?_
     refine rt_nil ?_
     have M7:=hI (M2.o.tr (Fm.ext M2.o.cl X7.o) (nd0 HK.o))
     clear M2 X7 g11 gm4
     have d1:=MB.o.box.c 1 _ rfl
     go_wp2_with fail
     refine (nsayO_any (m:=denyM s ⟨k1,k2,k3,k4,k5,k6,k7,k8,k9,k10,k11,k12⟩) M7.o.cl HK.o H.o (L:=[]) (SlC.empty 7 _ _) HSAY.o).mono ?_
     rintro e w12 ⟨rfl,o12,A12,n12,f12⟩
     have N9:=hI n12
     have F9:=hI (M7.o.tr f12 (nd0 HK.o))
     clear n12 f12
     go_wp2
     refine bodyPost_ret (v:=.tuple #[]) (by simp [results,Tryz.results156,go_sem]) rfl ?_
     exact ⟨rfl,o12,A12,N9.o,F9.o⟩
    ·have e4:decide (k5≤s.ls)=false:=decide_eq_false hl3
     have HSAY:Hid (sayO s (voteM s ⟨k1,k2,k3,k4,k5,k6,k7,k8,k9,k10,k11,k12⟩) s.L=some s'):=hI (by
      have:=HX.o
      simp only [e2,e3,e4,Bool.false_or,Bool.false_eq_true,if_false] at this
      exact this)
     clear HX hl3
     obtain ⟨W7,hW⟩:∃ W7,W7=W2.drew:=⟨_,rfl⟩
     have X7:Hid (Ext W2 W7):=hI (by rw [hW];exact Ext.drew W2)
     replace H:=hI (H.o.ext X7.o)
     replace S:=hI (S.o.ext X7.o)
     replace MB:=hI (MB.o.ext X7.o)
     have g11:=H.o.g 11 _ rfl
     have gm4:=fun d os=>Ext.cell (Ext.reg W7 d os) (MB.o.box.c 4 _ rfl)
     refine att [0,1,2,3,4,5,6,7,8,9,10,11,12,13] [] ?_
     rw [← hW]
     clear hW
     repeat ((first|refine aqq fun K hK=>?_|refine akk fun K hK=>?_);go_big_quiet_op;refine hK _ ?_;clear hK K)
     refine ra_nil ?_
     refine rt_nil ?_
     have M7:=hI (M2.o.tr (Fm.ext M2.o.cl X7.o) (nd0 HK.o))
     clear M2 X7 g11 gm4
     go_upto_region 9 with fail
     obtain ⟨W9,hW⟩:∃ W9,W9=W7.drew:=⟨_,rfl⟩
     have X9:Hid (Ext W7 W9):=hI (by rw [hW];exact Ext.drew W7)
     replace H:=hI (H.o.ext X9.o)
     replace MB:=hI (MB.o.ext X9.o)
     have g11:∀ d os,(grow (redrawn W9 d) os).cell? ⟨x,11,none⟩=some (.int .i64 s.ls):=H.o.g 11 _ rfl
     have g9:=H.o.g 9 _ rfl
     have g10:∀ d os,(grow (redrawn W9 d) os).cell? ⟨x,10,none⟩=some (.int .i64 s.cm):=H.o.g 10 _ rfl
     have gm1:=fun d os=>Ext.cell (Ext.reg W9 d os) (MB.o.box.c 1 _ rfl)
     have gm4:=fun d os=>Ext.cell (Ext.reg W9 d os) (MB.o.box.c 4 _ rfl)
     refine att [0,1,2,3,4,5,6,7,8,9,10,11,12,14,15,16,17,13,18] [19] ?_
     rw [← hW]
     clear hW
     repeat ((first|refine aqq fun K hK=>?_|refine akk fun K hK=>?_);go_big_quiet_op;refine hK _ ?_;clear hK K)
     refine acc fun K hK=>?_
     go_simp
     refine (lfrom0_any (L:=s.L) H.o.q.lg).mono ?_
     rintro e w10 ⟨p10,c10,rfl,o10,x10⟩
     have S10:=hI (SlC.fresh o10 (M7.o.cl.ext X9.o) (Nat.le_refl _))
     have X10:=hI (X9.o.tr x10)
     have H10:=hI (H.o.ext x10)
     refine hK _ _ x10 ?_
     clear hK K o10 x10
     repeat ((first|refine aqq fun K hK=>?_|refine akk fun K hK=>?_);go_big_quiet_op;refine hK _ ?_;clear hK K)
     refine acc fun K hK=>?_
     go_simp
     refine hK _ _ (Ext.rfl' _) ?_;clear hK K
     refine ra_nil ?_
     refine too fun K hK=>?_
     go_simp
     refine (nsayO_any (m:=voteM s ⟨k1,k2,k3,k4,k5,k6,k7,k8,k9,k10,k11,k12⟩) (M7.o.cl.ext X10.o) HK.o H10.o S10.o HSAY.o).mono ?_
     rintro e w12 ⟨rfl,o12,A12,n12,f12⟩
     have N9:=hI n12
     have F9:=hI ((M7.o.tr (Fm.ext M7.o.cl X10.o) (nd0 HK.o)).tr f12 (nd0 HK.o))
     clear n12 f12
     refine hK _ _ ?_
     clear hK K
     refine rt_nil ?_
     refine bodyPost_end (v:=.tuple #[]) (by simp [results,Tryz.results156,go_sem]) rfl ?_
     exact ⟨rfl,o12,A12,N9.o,F9.o⟩
 ·have e1:(k2 != decT k5 s.n)=true:=by simpa using hf
  have hss:s=s':=by
   have:=HB.o
   simp only [show (k2==decT k5 s.n)=false by simpa using hf,Bool.false_eq_true,if_false] at this
   exact Option.some.inj this
  have H9:=hI H.o
  rw [hss] at H9
  clear HB hf hss
  obtain ⟨W2,hW⟩:∃ W2,W2=w1.drew:=⟨_,rfl⟩
  have X2:Hid (Ext w1 W2):=hI (by rw [hW];exact Ext.drew w1)
  replace H:=hI (H.o.ext X2.o)
  replace S:=hI (S.o.ext X2.o)
  replace MB:=hI (MB.o.ext X2.o)
  have g1:=H.o.g 1 _ rfl
  have gm1:=fun d os=>Ext.cell (Ext.reg W2 d os) (MB.o.box.c 1 _ rfl)
  have gm4:=fun d os=>Ext.cell (Ext.reg W2 d os) (MB.o.box.c 4 _ rfl)
  refine att [0,1,2,3,4,5,6,7,8,9,10] [] ?_
  rw [← hW]
  clear hW
  repeat ((first|refine aqq fun K hK=>?_|refine akk fun K hK=>?_);go_big_quiet_op;refine hK _ ?_;clear hK K)
  refine acc fun K hK=>?_
  go_simp
  refine (tdec_any k5 s.n ⟨HV.o.1,by have:=HV.o.2;omega⟩ H.o.ok.n _).mono ?_
  rintro e w3 ⟨rfl,rfl⟩
  refine hK _ _ (Ext.rfl' _) ?_;clear hK K
  repeat ((first|refine aqq fun K hK=>?_|refine akk fun K hK=>?_);go_big_quiet_op;refine hK _ ?_;clear hK K)
  refine ra_nil ?_
  refine rt_nil ?_
  have M2:=hI (M1.o.tr (Fm.ext M1.o.cl X2.o) (nd0 HK.o))
  go_wp2
  refine bodyPost_ret (v:=.tuple #[]) (by simp [results,Tryz.results156,go_sem]) rfl ?_
  exact ⟨rfl,o,⟨A,H9.o.ext X2.o⟩,M2.o⟩
end
section
open Go Go.Sort Go.RowKit
def hvN (n a m:Nat):Nat:=min (n-a) m
def putB (L M:List EnD) (po cm:Int):Bool:=
 (decide (0≤po∧po≤(L.length:Int))&&M.all mayB)&&(eqL ((L.drop po.toNat).take (hvN L.length po.toNat M.length)) (M.take (hvN L.length po.toNat M.length))&&(decide (M.length≤60)&&decide (0≤cm∧cm≤60)))
def appN (s:NdD) (cm:Int) (L':List EnD):NdD:={ s with L:=L',cm:=mxI s.cm (minI cm (L'.length:Int)),hd:=s.ck }
def appO (s:NdD) (m:MsD) (M:List EnD):Option NdD:=
 if inV s then
  if m.vw==s.ls then
   if m.fr==decT s.ls s.n then
    if putB s.L M m.po m.cm then
     match addsL s.L (M.drop (hvN s.L.length m.po.toNat M.length)) with
     | some L'=>ackO (appN s m.cm L') m.fr m.nm
     | none=>none
    else none
   else some s
  else some s
 else some s
variable {w w4:World} {o o4:Ow} {k x wb jd:Nat} {A A':AdD} {s s':NdD}
theorem inV_ls (h:inV s=true):1≤s.ls:=by
 unfold inV at h
 simp only [Bool.and_eq_true,decide_eq_true_eq] at h
 omega
theorem nappd_any (hcl:Cl w o) (hk:32≤k) (h:NodeP w o k x wb jd A s) {m:MsD} {p:Option Addr} {cap:Nat} {L:List EnD} (hsl:SlC 7 w o p L.length cap (L.map enL)) (hb:appO s m L=some s') :
  Calls Tryz.prog 158 #[ptrN x,msV m p L.length cap] w fun e w'=>e=.returned (.tuple #[])∧∃ o' A',NodeP w' o' k x wb jd A' s'∧Fm (ndC k) o o' w w':=by
 unfold appO at hb
 have HB:=hI hb
 clear hb
 obtain ⟨k1,k2,k3,k4,k5,k6,k7,k8,k9,k10,k11,k12⟩:=m
 simp only at HB
 have A0:=hI (Ext.alloc w (.cells (msA ⟨k1,k2,k3,k4,k5,k6,k7,k8,k9,k10,k11,k12⟩ p L.length cap) 76))
 have MB:=hI (BoxC.loose hcl (msA ⟨k1,k2,k3,k4,k5,k6,k7,k8,k9,k10,k11,k12⟩ p L.length cap) (msL ⟨k1,k2,k3,k4,k5,k6,k7,k8,k9,k10,k11,k12⟩ p L.length cap) 76 rfl)
 have H:=hI (h.ext A0.o)
 have S:=hI (hsl.ext A0.o)
 have M1:=hI (Fm.ext (C:=ndC k) hcl A0.o)
 have HK:=hI hk
 clear hcl h hsl hk
 go_enter Tryz.func158,Tryz.ntmps158
 go_upto_region 1 with fail
 change Code.wp _ _ _ _ (w.alloc (.cells (msA ⟨k1,k2,k3,k4,k5,k6,k7,k8,k9,k10,k11,k12⟩ p L.length cap) 76))
 clear A0
 generalize w.alloc (.cells (msA ⟨k1,k2,k3,k4,k5,k6,k7,k8,k9,k10,k11,k12⟩ p L.length cap) 76)=w1 at *
 generalize w.heap.size=mb at *
 cases hin:inV s
 ·obtain ⟨W2,hW⟩:∃ W2,W2=w1.drew:=⟨_,rfl⟩
  have X2:Hid (Ext w1 W2):=hI (by rw [hW];exact Ext.drew w1)
  refine att [0,1,2,3,4,5,6,7,8,9,10,11,12,13,14,15,16,17,18,19,20,21,22,23,24,25] [] ?_
  rw [← hW]
  clear hW
  repeat ((first|refine aqq fun K hK=>?_|refine akk fun K hK=>?_);go_big_quiet_op;refine hK _ ?_;clear hK K)
  refine acc fun K hK=>?_
  go_simp
  refine (nin_any (H.o.ext X2.o)).mono ?_
  rw [hin]
  rintro e w3 ⟨rfl,x3⟩
  replace H:=hI ((H.o.ext X2.o).ext x3)
  replace S:=hI ((S.o.ext X2.o).ext x3)
  replace MB:=hI ((MB.o.ext X2.o).ext x3)
  have M3:=hI (M1.o.tr (Fm.ext M1.o.cl (X2.o.tr x3)) (nd0 HK.o))
  have g11:∀ d os,(grow (redrawn w3 d) os).cell? ⟨x,11,none⟩=some (.int .i64 s.ls):=H.o.g 11 _ rfl
  have g1:∀ d os,(grow (redrawn w3 d) os).cell? ⟨x,1,none⟩=some (.int .i64 s.n):=H.o.g 1 _ rfl
  have gm1:=fun d os=>Ext.cell (Ext.reg w3 d os) (MB.o.box.c 1 _ rfl)
  have gm4:=fun d os=>Ext.cell (Ext.reg w3 d os) (MB.o.box.c 4 _ rfl)
  refine hK _ _ x3 ?_
  clear hK K x3 M1
  repeat ((first|refine aqq fun K hK=>?_|refine akk fun K hK=>?_);go_big_quiet_op;refine hK _ ?_;clear hK K)
  refine ra_nil ?_
  refine rt_nil ?_
  have hss:s=s':=by have:=HB.o;simp only [hin,Bool.false_eq_true,if_false] at this;exact Option.some.inj this
  have H9:=hI H.o
  rw [hss] at H9
  clear hss
  go_wp2
  refine bodyPost_ret (v:=.tuple #[]) (by simp [results,Tryz.results158,go_sem]) rfl ?_
  exact ⟨rfl,o,⟨A,H9.o⟩,M3.o⟩
 ·have HLS:=hI (inV_ls hin)
  by_cases hp:k5=s.ls
  ·by_cases hq:k2=decT s.ls s.n
   ·have e1:(k5 != s.ls)=false:=by simpa using hp
    have e2:(k2 != decT s.ls s.n)=false:=by simpa using hq
    have f1:(k5==s.ls)=true:=by simpa using hp
    have f2:(k2==decT s.ls s.n)=true:=by simpa using hq
    have HX:Hid ((if putB s.L L k8 k9 then (match addsL s.L (L.drop (hvN s.L.length k8.toNat L.length)) with | some L'=>ackO (appN s k9 L') k2 k10 | none=>none) else none)=some s'):=hI (by
     have:=HB.o
     simp only [hin,f1,f2,if_true] at this
     exact this)
    clear HB hp hq f1 f2
    obtain ⟨W2,hW⟩:∃ W2,W2=w1.drew:=⟨_,rfl⟩
    have X2:Hid (Ext w1 W2):=hI (by rw [hW];exact Ext.drew w1)
    refine att [0,1,2,3,4,5,6,7,8,9,10,11,12,13,14,15,16,17,18,19,20,21,22,23,24,25] [] ?_
    rw [← hW]
    clear hW
    repeat ((first|refine aqq fun K hK=>?_|refine akk fun K hK=>?_);go_big_quiet_op;refine hK _ ?_;clear hK K)
    refine acc fun K hK=>?_
    go_simp
    refine (nin_any (H.o.ext X2.o)).mono ?_
    rw [hin]
    rintro e w3 ⟨rfl,x3⟩
    replace H:=hI ((H.o.ext X2.o).ext x3)
    replace S:=hI ((S.o.ext X2.o).ext x3)
    replace MB:=hI ((MB.o.ext X2.o).ext x3)
    have M3:=hI (M1.o.tr (Fm.ext M1.o.cl (X2.o.tr x3)) (nd0 HK.o))
    have g11:∀ d os,(grow (redrawn w3 d) os).cell? ⟨x,11,none⟩=some (.int .i64 s.ls):=H.o.g 11 _ rfl
    have g1:∀ d os,(grow (redrawn w3 d) os).cell? ⟨x,1,none⟩=some (.int .i64 s.n):=H.o.g 1 _ rfl
    have gm1:=fun d os=>Ext.cell (Ext.reg w3 d os) (MB.o.box.c 1 _ rfl)
    have gm4:=fun d os=>Ext.cell (Ext.reg w3 d os) (MB.o.box.c 4 _ rfl)
    refine hK _ _ x3 ?_
    clear hK K x3 M1
    repeat ((first|refine aqq fun K hK=>?_|refine akk fun K hK=>?_);go_big_quiet_op;refine hK _ ?_;clear hK K)
    refine acc fun K hK=>?_
    go_simp
    refine (tdec_any s.ls s.n ⟨HLS.o,by have:=H.o.ok.ls;omega⟩ H.o.ok.n _).mono ?_
    rintro e w4 ⟨rfl,rfl⟩
    refine hK _ _ (Ext.rfl' _) ?_;clear hK K
    repeat ((first|refine aqq fun K hK=>?_|refine akk fun K hK=>?_);go_big_quiet_op;refine hK _ ?_;clear hK K)
    refine ra_nil ?_
    refine rt_nil ?_
    clear g11 g1 gm1 gm4 e1 e2 X2
    have PB:Hid (putB s.L L k8 k9=true):=hI (by
     have:=HX.o
     split at this
     ·assumption
     ·cases this)
    obtain ⟨L',hL',hack⟩:∃ L',addsL s.L (L.drop (hvN s.L.length k8.toNat L.length))=some L'∧ackO (appN s k9 L') k2 k10=some s':=by
     have:=HX.o
     rw [PB.o] at this
     simp only [if_true] at this
     split at this
     ·rename_i L' h1
      exact ⟨L',h1,this⟩
     ·cases this
    have HA:=hI hL'
    have HACK:=hI hack
    clear hL' hack HX
    have PP:Hid ((0≤k8∧k8≤(s.L.length:Int))∧(∀ e ∈ L,mayB e=true)∧eqL ((s.L.drop k8.toNat).take (hvN s.L.length k8.toNat L.length)) (L.take (hvN s.L.length k8.toNat L.length))=true∧L.length≤60∧0≤k9∧k9≤60):=hI (by
     have:=PB.o
     unfold putB at this
     simp only [Bool.and_eq_true,decide_eq_true_eq,List.all_eq_true] at this
     exact ⟨this.1.1,this.1.2,this.2.1,this.2.2.1,this.2.2.2⟩)
    clear PB
    go_upto_region 2 with fail
    obtain ⟨W4,hW⟩:∃ W4,W4=w3.drew:=⟨_,rfl⟩
    have X4:Hid (Ext w3 W4):=hI (by rw [hW];exact Ext.drew w3)
    replace H:=hI (H.o.ext X4.o)
    replace S:=hI (S.o.ext X4.o)
    replace MB:=hI (MB.o.ext X4.o)
    have g9:=H.o.g 9 _ rfl
    have gm7:=fun d os=>Ext.cell (Ext.reg W4 d os) (MB.o.box.c 7 _ rfl)
    have gm8:=fun d os=>Ext.cell (Ext.reg W4 d os) (MB.o.box.c 8 _ rfl)
    refine att [0,1,2,3,4,5,6,7] [8] ?_
    rw [← hW]
    clear hW
    repeat ((first|refine aqq fun K hK=>?_|refine akk fun K hK=>?_);go_big_quiet_op;refine hK _ ?_;clear hK K)
    refine ra_nil ?_
    refine too fun K hK=>?_
    go_simp
    have PUT:=lput_any (c:=k+2) (a:=k8.toNat) (M3.o.cl.ext X4.o) H.o.q.lg (by have:=HK.o;omega) (by have:=PP.o.1.2;have:=PP.o.1.1;omega) S.o (fun e he=>mayB_ok (PP.o.2.1 e he)) rfl PP.o.2.2.1 HA.o (by have:=PP.o.2.2.2.1;omega)
    rw [show ((k8.toNat:Nat):Int)=k8 by have:=PP.o.1.1;omega] at PUT
    refine PUT.mono ?_
    clear PUT
    rintro e w5 ⟨o5,rfl,lg5,m5⟩
    have HID:Hid (∀ e ∈ L',mayB e=true):=hI (by
     obtain ⟨q1,q2⟩:=addsL_id _ _ _ HA.o
     intro e he
     rw [q1] at he
     rcases List.mem_append.1 he with he | he
     ·exact H.o.ok.L e he
     ·exact q2 e he)
    obtain ⟨N5,F5⟩:=NodeP.mod0 (A':=A) (s':={ s with L:=L' }) HK.o H.o m5 (fun d hd=>by unfold two at hd;unfold ndC;omega) (H.o.q.set_lg HK.o lg5 m5 (fun d hd=>by unfold two at hd;omega)) rfl { H.o.ok with L:=HID.o }
    have H5:=hI N5
    have MB5:=hI (MB.o.fr F5 (by decide) (nd0 HK.o))
    have M5:=hI ((M3.o.tr (Fm.ext M3.o.cl X4.o) (nd0 HK.o)).tr F5 (nd0 HK.o))
    clear N5 F5 lg5 m5 H S MB M3 X4 g9 gm7 gm8
    refine hK _ _ ?_
    clear hK K
    refine rt_nil ?_
    go_upto_region 3 with fail
    obtain ⟨W6,hW⟩:∃ W6,W6=w5.drew:=⟨_,rfl⟩
    have X6:Hid (Ext w5 W6):=hI (by rw [hW];exact Ext.drew w5)
    replace H5:=hI (H5.o.ext X6.o)
    replace MB5:=hI (MB5.o.ext X6.o)
    have g9:=H5.o.g 9 _ rfl
    have g10:∀ d os,(grow (redrawn W6 d) os).cell? ⟨x,10,none⟩=some (.int .i64 s.cm):=H5.o.g 10 _ rfl
    have gm9:=fun d os=>Ext.cell (Ext.reg W6 d os) (MB5.o.box.c 9 _ rfl)
    refine att [0,1,2,3,4,5,6,7,8,9,10,11,12,13,14,15] [16] ?_
    rw [← hW]
    clear hW
    repeat ((first|refine aqq fun K hK=>?_|refine akk fun K hK=>?_);go_big_quiet_op;refine hK _ ?_;clear hK K)
    refine acc fun K hK=>?_
    go_simp
    refine (llen_any H5.o.q.lg).mono ?_
    rintro e w7 ⟨rfl,rfl⟩
    refine hK _ _ (Ext.rfl' _) ?_;clear hK K
    repeat ((first|refine aqq fun K hK=>?_|refine akk fun K hK=>?_);go_big_quiet_op;refine hK _ ?_;clear hK K)
    refine ra_nil ?_
    have c10:W6.cell? ⟨x,10,none⟩=some (.int .i64 s.cm):=H5.o.c 10 _ rfl
    have f10:=H5.o.box.box.f 10
    refine too fun K hK=>?_
    go_simp
    obtain ⟨CM,hCM⟩:∃ CM:Int,CM=mxI s.cm (minI k9 (L'.length:Int)):=⟨_,rfl⟩
    have CMR:Hid (0≤CM∧CM≤60):=hI (by
     have h1:=H5.o.ok.cm
     have h2:=PP.o.2.2.2.2
     have h3:L'.length≤60:=LogV.max H5.o.q.lg
     simp only at h1
     rw [hCM]
     unfold mxI minI
     split <;> (try split) <;> omega)
    have HCM:=hI hCM
    unfold mxI minI at hCM
    rw [← hCM]
    clear hCM
    generalize (if (L'.length:Int)<k9 then (L'.length:Int) else k9)=mnv at *
    obtain ⟨N7,F7⟩:=NodeP.mod (C:=fun _=>False) (A':=A) (s':={ s with L:=L',cm:=CM }) HK.o H5.o (Fm.refl (M5.o.cl.ext X6.o)) (fun d hd=>hd.elim) { H5.o.q with dk:=H5.o.q.dk } 10 (.int .i64 CM) rfl { H5.o.ok with cm:=CMR.o }
    have H7:=hI N7
    have M7:=hI ((M5.o.tr (Fm.ext M5.o.cl X6.o) (nd0 HK.o)).tr F7 (nd0 HK.o))
    have MB7:=hI (MB5.o.fr F7 (by decide) (nd0 HK.o))
    clear N7 F7 c10 f10 g9 g10 gm9 H5 MB5 M5 X6
    refine hK _ _ ?_
    clear hK K
    refine rt_nil ?_
    generalize W6.setCell ⟨x,10,none⟩ (.int .i64 CM)=w7 at *
    go_upto_region 4 with fail
    have c4:w7.cell? ⟨x,4,none⟩=some (.int .i64 s.ck):=H7.o.c 4 _ rfl
    have c5:=H7.o.c 5 _ rfl
    have fx:=H7.o.box.box.f
    obtain ⟨N8,F8⟩:=NodeP.mod (C:=fun _=>False) (A':=A) (s':={ s with L:=L',cm:=CM,hd:=s.ck }) HK.o H7.o (Fm.refl M7.o.cl) (fun d hd=>hd.elim) { H7.o.q with dk:=H7.o.q.dk } 5 (.int .i64 s.ck) rfl { H7.o.ok with hd:=H7.o.ok.ck }
    have H8:=hI N8
    have M8:=hI (M7.o.tr F8 (nd0 HK.o))
    have MB8:=hI (MB7.o.fr F8 (by decide) (nd0 HK.o))
    go_upto_region 5 with fail
    clear N8 F8 c4 c5 fx H7 M7 MB7
    generalize w7.setCell ⟨x,5,none⟩ (.int .i64 s.ck)=w8 at *
    have d1:=MB8.o.box.c 1 _ rfl
    have d10:=MB8.o.box.c 10 _ rfl
    rw [show appN s k9 L'={ s with L:=L',cm:=CM,hd:=s.ck } by rw [HCM.o];rfl] at HACK
    go_wp2_with fail
    refine (nack_any M8.o.cl HK.o H8.o HACK.o).mono ?_
    rintro e w9 ⟨rfl,o9,A9,n9,f9⟩
    have N9:=hI n9
    have F9:=hI (M8.o.tr f9 (nd0 HK.o))
    clear n9 f9
    go_wp2
    refine bodyPost_end (v:=.tuple #[]) (by simp [results,Tryz.results158,go_sem]) rfl ?_
    exact ⟨rfl,o9,A9,N9.o,F9.o⟩
   ·have e1:(k5 != s.ls)=false:=by simpa using hp
    have e2:(k2 != decT s.ls s.n)=true:=by simpa using hq
    have f1:(k5==s.ls)=true:=by simpa using hp
    have f2:(k2==decT s.ls s.n)=false:=by simpa using hq
    clear hp hq
    obtain ⟨W2,hW⟩:∃ W2,W2=w1.drew:=⟨_,rfl⟩
    have X2:Hid (Ext w1 W2):=hI (by rw [hW];exact Ext.drew w1)
    refine att [0,1,2,3,4,5,6,7,8,9,10,11,12,13,14,15,16,17,18,19,20,21,22,23,24,25] [] ?_
    rw [← hW]
    clear hW
    repeat ((first|refine aqq fun K hK=>?_|refine akk fun K hK=>?_);go_big_quiet_op;refine hK _ ?_;clear hK K)
    refine acc fun K hK=>?_
    go_simp
    refine (nin_any (H.o.ext X2.o)).mono ?_
    rw [hin]
    rintro e w3 ⟨rfl,x3⟩
    replace H:=hI ((H.o.ext X2.o).ext x3)
    replace S:=hI ((S.o.ext X2.o).ext x3)
    replace MB:=hI ((MB.o.ext X2.o).ext x3)
    have M3:=hI (M1.o.tr (Fm.ext M1.o.cl (X2.o.tr x3)) (nd0 HK.o))
    have g11:∀ d os,(grow (redrawn w3 d) os).cell? ⟨x,11,none⟩=some (.int .i64 s.ls):=H.o.g 11 _ rfl
    have g1:∀ d os,(grow (redrawn w3 d) os).cell? ⟨x,1,none⟩=some (.int .i64 s.n):=H.o.g 1 _ rfl
    have gm1:=fun d os=>Ext.cell (Ext.reg w3 d os) (MB.o.box.c 1 _ rfl)
    have gm4:=fun d os=>Ext.cell (Ext.reg w3 d os) (MB.o.box.c 4 _ rfl)
    refine hK _ _ x3 ?_
    clear hK K x3 M1
    repeat ((first|refine aqq fun K hK=>?_|refine akk fun K hK=>?_);go_big_quiet_op;refine hK _ ?_;clear hK K)
    refine acc fun K hK=>?_
    go_simp
    refine (tdec_any s.ls s.n ⟨HLS.o,by have:=H.o.ok.ls;omega⟩ H.o.ok.n _).mono ?_
    rintro e w4 ⟨rfl,rfl⟩
    refine hK _ _ (Ext.rfl' _) ?_;clear hK K
    repeat ((first|refine aqq fun K hK=>?_|refine akk fun K hK=>?_);go_big_quiet_op;refine hK _ ?_;clear hK K)
    refine ra_nil ?_
    refine rt_nil ?_
    have hss:s=s':=by have:=HB.o;simp only [hin,f1,f2,Bool.false_eq_true,if_false,if_true] at this;exact Option.some.inj this
    have H9:=hI H.o
    rw [hss] at H9
    clear hss
    go_wp2
    refine bodyPost_ret (v:=.tuple #[]) (by simp [results,Tryz.results158,go_sem]) rfl ?_
    exact ⟨rfl,o,⟨A,H9.o⟩,M3.o⟩
  ·have e1:(k5 != s.ls)=true:=by simpa using hp
   have f1:(k5==s.ls)=false:=by simpa using hp
   clear hp
   obtain ⟨W2,hW⟩:∃ W2,W2=w1.drew:=⟨_,rfl⟩
   have X2:Hid (Ext w1 W2):=hI (by rw [hW];exact Ext.drew w1)
   refine att [0,1,2,3,4,5,6,7,8,9,10,11,12,13,14,15,16,17,18,19,20,21,22,23,24,25] [] ?_
   rw [← hW]
   clear hW
   repeat ((first|refine aqq fun K hK=>?_|refine akk fun K hK=>?_);go_big_quiet_op;refine hK _ ?_;clear hK K)
   refine acc fun K hK=>?_
   go_simp
   refine (nin_any (H.o.ext X2.o)).mono ?_
   rw [hin]
   rintro e w3 ⟨rfl,x3⟩
   replace H:=hI ((H.o.ext X2.o).ext x3)
   replace S:=hI ((S.o.ext X2.o).ext x3)
   replace MB:=hI ((MB.o.ext X2.o).ext x3)
   have M3:=hI (M1.o.tr (Fm.ext M1.o.cl (X2.o.tr x3)) (nd0 HK.o))
   have g11:∀ d os,(grow (redrawn w3 d) os).cell? ⟨x,11,none⟩=some (.int .i64 s.ls):=H.o.g 11 _ rfl
   have g1:∀ d os,(grow (redrawn w3 d) os).cell? ⟨x,1,none⟩=some (.int .i64 s.n):=H.o.g 1 _ rfl
   have gm1:=fun d os=>Ext.cell (Ext.reg w3 d os) (MB.o.box.c 1 _ rfl)
   have gm4:=fun d os=>Ext.cell (Ext.reg w3 d os) (MB.o.box.c 4 _ rfl)
   refine hK _ _ x3 ?_
   clear hK K x3 M1
   repeat ((first|refine aqq fun K hK=>?_|refine akk fun K hK=>?_);go_big_quiet_op;refine hK _ ?_;clear hK K)
   refine ra_nil ?_
   refine rt_nil ?_
   have hss:s=s':=by have:=HB.o;simp only [hin,f1,Bool.false_eq_true,if_false,if_true] at this;exact Option.some.inj this
   have H9:=hI H.o
   rw [hss] at H9
   clear hss
   go_wp2
   refine bodyPost_ret (v:=.tuple #[]) (by simp [results,Tryz.results158,go_sem]) rfl ?_
   exact ⟨rfl,o,⟨A,H9.o⟩,M3.o⟩
end
section
open Go Go.Sort Go.RowKit
def Rc (X:Nat→Prop) (o o':Ow):Prop:=∀ i,¬ X (o i)→o' i=o i
variable {X:Nat→Prop} {w:World} {o o':Ow} {k x wb jd c g n cap:Nat} {p:Option Addr} {A A':AdD} {s s':NdD}
theorem BoxC.rc {vs:List Value} (h:BoxC w o c g vs) (r:Rc X o o') (hc:¬ X c):BoxC w o' c g vs:=⟨(r g (by rw [h.col];exact hc)).trans h.col,h.box⟩
theorem RowC.rc {E:TypeId} {K:Nat} {L:List (List Value)} (h:RowC E K w o c p n cap L) (r:Rc X o o') (hc:¬ X c):RowC E K w o' c p n cap L:=
 ⟨h.row,fun j hj=>(r j (by rw [h.col j hj];exact hc)).trans (h.col j hj)⟩
theorem SlC.rc {K:Nat} {L:List (List Value)} (h:SlC K w o p n cap L) (r:Rc X o o') (hc:¬ X 0):SlC K w o' p n cap L:=
 ⟨h.sl,fun j hj=>⟨(h.lt j hj).1,(r j (by rw [(h.lt j hj).2];exact hc)).trans (h.lt j hj).2⟩⟩
theorem DkV.rc {b j:Nat} {bt vw:Int} (h:DkV w o c b j bt vw) (r:Rc X o o') (hc:¬ X 1):DkV w o' c b j bt vw:=
 ⟨(r b (by rw [h.col];exact hc)).trans h.col,h.lt,h.d0,h.d1,h.c0,h.c1,h.f0,h.f1⟩
theorem LogV.rc {L:List EnD} (h:LogV w o c g L) (r:Rc X o o') (hc:¬ X c) (hc':¬ X (c+1)):LogV w o' c g L:=by
 obtain ⟨p,cap,h⟩:=h
 exact ⟨p,cap,h.box.rc r hc,h.row.rc r hc',h.max,h.ok⟩
theorem PnV.rc {fr bt sq:Int} {L:List EnD} (h:PnV w o c g fr bt sq L) (r:Rc X o o') (hc:¬ X c) (hc':¬ X (c+1)):PnV w o' c g fr bt sq L:=by
 obtain ⟨p,cap,h⟩:=h
 exact ⟨p,cap,h.box.rc r hc,h.row.rc r hc',h.ok,h.le⟩
theorem RdV.rc {L:List TdD} (h:RdV w o c g L) (r:Rc X o o') (hc:¬ X c) (hc':¬ X (c+1)):RdV w o' c g L:=by
 obtain ⟨p,cap,h⟩:=h
 exact ⟨p,cap,h.box.rc r hc,h.row.rc r hc',h.max⟩
theorem TbV.rc {m:Nat} (h:TbV w o c g m) (r:Rc X o o') (hc:¬ X c):TbV w o' c g m:=by
 obtain ⟨b,D,hb,hc',ho⟩:=h
 exact ⟨b,D,hb.rc r hc,(r b (by rw [hc'];exact hc)).trans hc',ho⟩
theorem RowU.rc {K:Nat} {L:List (List Value)} (h:RowU K w o c p n cap L) (r:Rc X o o') (hc:¬ X c):RowU K w o' c p n cap L:=
 h.blk (fun b hb e=>⟨rfl,(r b (by rw [e];exact hc)).trans e⟩) (Nat.le_refl _)
theorem PfV.rc {y:PfD} (h:PfV w o c g y) (r:Rc X o o') (hc:¬ X c) (hc':¬ X (c+1)):PfV w o' c g y:=by
 obtain ⟨p,cap,h⟩:=h
 exact ⟨p,cap,h.box.rc r hc,h.row.rc r hc'⟩
theorem VtV.rc {a:Option Nat} {n:Int} {v:Option (Int × List VoK)} (h:VtV w o c a n v) (r:Rc X o o') (h0:¬ X 0) (hc:¬ X c) (hc':¬ X (c+1)):VtV w o' c a n v:=by
 cases v with
 | none=>exact h
 | some v=>
  obtain ⟨g,e,p,cap,ds,h,e2⟩:=h
  exact ⟨g,e,p,cap,ds,⟨h.box.rc r hc,h.row.rc r hc',fun d hd=>⟨(h.ok d hd).fr,(h.ok d hd).sl.rc r h0,(h.ok d hd).en,(h.ok d hd).le,(h.ok d hd).cm⟩,h.n,h.vw,h.le⟩,e2⟩
theorem QvV.rc {a:Option Nat} {q:Option QuD} (h:QvV w o c a q) (r:Rc X o o') (hc:¬ X c):QvV w o' c a q:=by
 cases q with
 | none=>exact h
 | some q=>
  obtain ⟨g,e,h⟩:=h
  exact ⟨g,e,h.box.rc r hc,h.ok⟩
theorem OutV.rc {ms:List (MsD × List EnD)} (h:OutV w o c p cap ms) (r:Rc X o o') (h0:¬ X 0) (hc:¬ X c):OutV w o' c p cap ms:=by
 obtain ⟨ds,e,rw,a⟩:=h
 exact ⟨ds,e,rw.rc r hc,fun d hd=>⟨(a d hd).ok,(a d hd).sl.rc r h0,(a d hd).en⟩⟩
theorem JnV.rc {me n bt pr:Int} {got:Bool} (h:JnV w o c g me n bt pr got) (r:Rc X o o') (hc:¬ X c):JnV w o' c g me n bt pr got:=by
 obtain ⟨m,p,z,cap,h⟩:=h
 exact ⟨m,p,z,cap,h.rc r hc⟩
def wipe (o:Ow) (d:Nat):Ow:=fun i=>if o i=d then 0 else o i
theorem wipe_none (o:Ow) {d:Nat} (h:d≠0) (i:Nat):wipe o d i≠d:=by
 unfold wipe
 split
 ·omega
 ·assumption
theorem Fm.wipe (h:Cl w o) {d:Nat} (h1:d≠1):Fm (one d) o (wipe o d) w w:=
 ⟨rfl,rfl,rfl,Nat.le_refl _,fun i _=>by
  unfold Go.Proofs.YtjhbmbbmjaabcaaGreat.wipe
  by_cases e:o i=d
  ·rw [if_pos e]
   exact .inr ⟨by omega,e,rfl⟩
  ·rw [if_neg e]
   exact .inl rfl,fun _ _ _ _=>rfl,fun _ _ _ _ _=>rfl,fun _ _ _ _=>rfl,fun i hi=>by
  unfold Go.Proofs.YtjhbmbbmjaabcaaGreat.wipe
  split
  ·rfl
  ·exact h i hi⟩
def adopt (o:Ow) (c d:Nat):Ow:=fun i=>if o i=c then 0 else if o i=d then c else o i
theorem adopt_rc (o:Ow) (c d:Nat):Rc (fun e=>e=c∨e=d) o (adopt o c d):=by
 intro i hi
 unfold adopt
 rw [if_neg (fun e=>hi (.inl e)),if_neg (fun e=>hi (.inr e))]
theorem Fm.adopt {C:Nat→Prop} {w0:World} {o0:Ow} (h:Fm C o0 o w0 w) {c d:Nat} (hC:C c) (h1:1<c∧1<d) (hf:∀ i,i<w0.heap.size→o0 i≠d):Fm C o0 (adopt o c d) w0 w:=
 ⟨h.os,h.tape,h.output,h.size,fun i hi=>by
  have q:=h.col i hi
  have f:=hf i hi
  unfold Go.Proofs.YtjhbmbbmjaabcaaGreat.adopt
  by_cases e:o i=c
  ·rw [if_pos e]
   rcases q with q | ⟨q1,q2,q3⟩
   ·exact .inr ⟨by omega,by rw [← q,e];exact hC,rfl⟩
   ·omega
  ·rw [if_neg e]
   by_cases e2:o i=d
   ·rcases q with q | ⟨q1,q2,q3⟩ <;> omega
   ·rw [if_neg e2]
    exact q,h.blk,h.cel,h.frz,fun i hi=>by
  have:=h.cl i hi
  unfold Go.Proofs.YtjhbmbbmjaabcaaGreat.adopt
  rw [if_neg (by omega),if_neg (by omega)]
  exact this⟩
theorem RowC.adopt {E:TypeId} {K:Nat} {c d:Nat} {L:List (List Value)} (h:RowC E K w o d p n cap L) (hcd:c≠d):RowC E K w (adopt o c d) c p n cap L:=
 ⟨h.row,fun j hj=>by
  have:=h.col j hj
  unfold Go.Proofs.YtjhbmbbmjaabcaaGreat.adopt
  rw [if_neg (by omega),if_pos this]⟩
theorem NodeP.take_aks {w0:World} {o0:Ow} (hk:32≤k) (H:NodeP w o k x wb jd A s) {L:List QnD} (row:RowC 200 3 w o (k+18) p L.length cap (L.map qnL)) (hL:L.length≤1000) (F:Fm (ndC k) o0 o w0 w) (hf:∀ i,i<w0.heap.size→o0 i≠k+18) :
  NodeP (w.setCell ⟨x,32,none⟩ (.slice p L.length cap)) (adopt o (k+15) (k+18)) k x wb jd { A with ap:=p,ac:=cap } { s with ak:=L }∧Fm (ndC k) o0 (adopt o (k+15) (k+18)) w0 (w.setCell ⟨x,32,none⟩ (.slice p L.length cap)):=by
 have F1:=Fm.adopt F (c:=k+15) (d:=k+18) (by unfold ndC;omega) ⟨by omega,by omega⟩ hf
 have r:=adopt_rc o (k+15) (k+18)
 have B1:=H.box.rc r (by omega)
 have q:=H.q
 have row1:=RowC.adopt row (c:=k+15) (by omega)
 have F2:=Fm.put (C:=one k) F1.cl B1 (by omega) rfl 32 (.slice p L.length cap)
 have B2:=B1.put 32 (.slice p L.length cap)
 have Q1:NodeQ w (Go.Proofs.YtjhbmbbmjaabcaaGreat.adopt o (k+15) (k+18)) k wb jd { A with ap:=p,ac:=cap } { s with ak:=L }:=
  ⟨q.dk.rc r (by omega),q.gr.rc r (by omega),q.lg.rc r (by omega) (by omega),q.pn.rc r (by omega) (by omega),q.rd.rc r (by omega) (by omega),q.tb.rc r (by omega),q.pf.rc r (by omega) (by omega),q.vt.rc r (by omega) (by omega) (by omega),q.qu.rc r (by omega),row1,q.ou.rc r (by omega) (by omega),q.jn.rc r (by omega)⟩
 have h1k:¬ one k 0:=by unfold one;omega
 exact ⟨⟨B2,Q1.fr hk F2 h1k (fun d hd=>by unfold one;omega),{ H.ok with ak:=hL }⟩,F1.tr (F2.mono (fun d hd=>by unfold one at hd;unfold ndC;omega)) (nd0 hk)⟩
end
section
open Go Go.Sort Go.RowKit
def freshM (s:NdD) (q:QnD):MsD:=⟨9,0,q.who,0,s.ls,0,0,0,s.cm,q.num,0,false⟩
def getO (s:NdD) (num cm:Int):Option NdD:=
 if decide (0≤(getP s.f num cm).bc∧(getP s.f num cm).bc≤1000000) then some { s with f:=getP s.f num cm } else none
def hasB (a:NdD × List QnD) (q:QnD):Option (NdD × List QnD):=
 match a.1.q with
 | none=>none
 | some qq=>
  if decide (mostQ qq.pr qq.n<q.pr) then (if decide (a.2.length<1000) then some (a.1,a.2++[q]) else none)
  else if q.who==a.1.id then (getO a.1 q.num a.1.cm).map fun s'=>(s',a.2)
  else (sayO a.1 (freshM a.1 q) []).map fun s'=>(s',a.2)
def hasS (s:NdD) (m:MsD) (q:QuD):NdD:=
 { s with q:=some (ackQ q m.fr m.po m.nm),ac:=withT s.ac m.fr,er:=s.er.set m.fr.toNat s.ck,cm:=mxI s.cm (minI (mostQ (ackQ q m.fr m.po m.nm).hv (ackQ q m.fr m.po m.nm).n) (s.L.length:Int)) }
def hasO (s:NdD) (m:MsD):Option NdD:=
 match s.q with
 | none=>none
 | some q=>
  if hasT q.mb m.fr&&(decide (1≤m.fr∧m.fr≤7)&&decide (0≤m.po∧m.po≤60)) then
   if decide ((hasS s m q).cm<(hasS s m q).st) then some (hasS s m q)
   else match foldO hasB s.ak (hasS s m q,[]) with
    | none=>none
    | some r=>if decide (r.2.length≤1000) then some { r.1 with ak:=r.2 } else none
  else none
variable {w w4:World} {o o4:Ow} {k x wb jd:Nat} {A A':AdD} {s s':NdD}
theorem getP_nm (x:PfD) (num cm:Int):(getP x num cm).nm=x.nm:=by
 unfold getP
 split
 ·rfl
 ·split <;> rfl
theorem ngetR_any (hcl:Cl w o) (hk:32≤k) (h:NodeP w o k x wb jd A s) {num cm:Int} (hs:getO s num cm=some s') {p:Option Addr} {n cap:Nat} {L:List (List Value)} (hr:RowC 200 3 w o (k+18) p n cap L) :
  Calls Tryz.prog 159 #[ptrN A.f,.int .i64 num,.int .i64 cm] w fun e w'=>SomeB e∧NodeP w' o k x wb jd A s'∧RowC 200 3 w' o (k+18) p n cap L∧Fm (ndC k) o o w w':=by
 unfold getO at hs
 split at hs
 case isFalse=>cases hs
 rename_i hc
 have hc:=of_decide_eq_true hc
 cases hs
 refine (pget_any (num:=num) (cm:=cm) hcl h.q.pf (by omega)).mono ?_
 rintro e w' ⟨h1,pf,m⟩
 obtain ⟨N,F⟩:=NodeP.mod0 (A':=A) (s':={ s with f:=getP s.f num cm }) hk h m (fun d hd=>by unfold two at hd;unfold ndC;omega) (h.q.set_pf hk pf m (fun d hd=>by unfold two at hd;omega)) rfl { h.ok with f:=(by have:=h.ok.f;rw [getP_nm];exact this),bc:=hc }
 exact ⟨h1,N,hr.fr m (by omega) (by unfold two;omega),F⟩
def sayC (k d:Nat):Prop:=d=k∨d=k+16∨d=k+20
theorem sc0 {k:Nat} (hk:32≤k):¬ sayC k 0:=by unfold sayC;omega
theorem nsayC_any (hcl:Cl w o) (hk:32≤k) (h:NodeP w o k x wb jd A s) {m:MsD} {p:Option Addr} {cap:Nat} {L:List EnD} (hm:MsOk (sayM s m)) (hs:SlC 7 w o p L.length cap (L.map enL)) (hL:∀ e ∈ L,EnOk e) (hl:s.out.length<1000) :
  Calls Tryz.prog 114 #[ptrN x,msV m p L.length cap] w fun e w'=>e=.returned (.tuple #[])∧∃ o' p' c',NodeP w' o' k x wb jd { A with op:=p',oc:=c' } (sayN s m L)∧Fm (sayC k) o o' w w':=by
 have HK:=hI hk
 have HMO:=hI hm
 have HL:=hI hL
 obtain ⟨k1,k2,k3,k4,k5,k6,k7,k8,k9,k10,k11,k12⟩:=m
 have M0:Hid (Fm (fun _=>False) o (dye o w.heap.size (k+20)) w (w.alloc (.cells (msA ⟨k1,k2,k3,k4,k5,k6,k7,k8,k9,k10,k11,k12⟩ p L.length cap) 76))):=hI (Fm.made hcl _ _)
 have MB:=hI (BoxC.made w o (k+20) (msA ⟨k1,k2,k3,k4,k5,k6,k7,k8,k9,k10,k11,k12⟩ p L.length cap) (msL ⟨k1,k2,k3,k4,k5,k6,k7,k8,k9,k10,k11,k12⟩ p L.length cap) 76 rfl)
 have H:=hI (h.fr hk M0.o (fun e=>e) (fun d e=>e.elim))
 have S:=hI (hs.fr M0.o (fun e=>e))
 have HLN:=hI hl
 clear hcl h hm hs hL hl hk
 go_enter Tryz.func114,Tryz.ntmps114
 go_upto_region 1 with fail
 change Code.wp _ _ _ _ (w.alloc (.cells (msA ⟨k1,k2,k3,k4,k5,k6,k7,k8,k9,k10,k11,k12⟩ p L.length cap) 76))
 generalize w.alloc (.cells (msA ⟨k1,k2,k3,k4,k5,k6,k7,k8,k9,k10,k11,k12⟩ p L.length cap) 76)=w1 at *
 generalize w.heap.size=mb at *
 generalize dye o mb (k+20)=o1 at *
 have c0:=H.o.c 0 _ rfl
 have c3:=H.o.c 3 _ rfl
 have b1:=MB.o.box.c 1 _ rfl
 have b3:=MB.o.box.c 3 _ rfl
 have f1:=MB.o.box.f 1
 have f3:=MB.o.box.f 3
 have F1:=hI (Fm.put (C:=one (k+20)) M0.o.cl MB.o (by have:=HK.o;omega) rfl 1 (.int .i64 s.id))
 have F2:=hI (Fm.put (C:=one (k+20)) F1.o.cl (MB.o.put 1 (.int .i64 s.id)) (by have:=HK.o;omega) rfl 3 (.int .i64 s.bt))
 have h20:¬ one (k+20) 0:=by unfold one;omega
 have FF:=hI ((F1.o.tr F2.o h20).tr (Fm.ext F2.o.cl (Ext.drew _)) h20)
 have MB2:=hI ((((MB.o.put 1 (.int .i64 s.id)).put 3 (.int .i64 s.bt))).ext (Ext.drew _))
 go_region
 clear c0 c3 b1 b3 f1 f3 F1 F2
 generalize ((w1.setCell ⟨mb,1,none⟩ (.int .i64 s.id)).setCell ⟨mb,3,none⟩ (.int .i64 s.bt)).drew=w2 at *
 have H2:=hI (H.o.fr HK.o FF.o h20 (fun d hd=>by unfold one at hd;unfold ndI;omega))
 have S2:=hI (S.o.fr FF.o h20)
 have M2:Hid (Fm (sayC k) o o1 w w2):=hI ((M0.o.mono (fun d e=>e.elim)).tr (FF.o.mono (fun d hd=>by unfold one at hd;unfold sayC;omega)) (sc0 HK.o))
 clear H S M0 MB FF h20
 obtain ⟨ds,he,r0,ao⟩:=H2.o.q.ou
 have hlen:s.out.length=ds.length:=by rw [← he];simp
 have R0:=hI r0
 have AO:=hI ao
 have HEQ:=hI he
 have HLEN:=hI hlen
 clear r0 ao he
 obtain ⟨M,hM⟩:∃ M:MsD,M=⟨k1,s.id,k3,s.bt,k5,k6,k7,k8,k9,k10,k11,k12⟩:=⟨_,rfl⟩
 have HMQ:=hI hM
 clear hM
 have d0:=MB2.o.box.c 0 _ rfl
 have d1:=MB2.o.box.c 1 _ rfl
 have d2:=MB2.o.box.c 2 _ rfl
 have d3:=MB2.o.box.c 3 _ rfl
 have d4:=MB2.o.box.c 4 _ rfl
 have d5:=MB2.o.box.c 5 _ rfl
 have d6:=MB2.o.box.c 6 _ rfl
 have d7:=MB2.o.box.c 7 _ rfl
 have d8:=MB2.o.box.c 8 _ rfl
 have d9:=MB2.o.box.c 9 _ rfl
 have d10:=MB2.o.box.c 10 _ rfl
 have d11:=MB2.o.box.c 11 _ rfl
 have d12:=MB2.o.box.c 12 _ rfl
 have A1:=hI (Ext.alloc w2 (.cells (msA ⟨k1,s.id,k3,s.bt,k5,k6,k7,k8,k9,k10,k11,k12⟩ p L.length cap) 76))
 have A2:=hI (A1.o.tr (Ext.drew (w2.alloc (.cells (msA ⟨k1,s.id,k3,s.bt,k5,k6,k7,k8,k9,k10,k11,k12⟩ p L.length cap) 76))))
 have a0:=(MB2.o.ext A1.o).box.c 0 _ rfl
 have a1:=(MB2.o.ext A1.o).box.c 1 _ rfl
 have a2:=(MB2.o.ext A1.o).box.c 2 _ rfl
 have a3:=(MB2.o.ext A1.o).box.c 3 _ rfl
 have a4:=(MB2.o.ext A1.o).box.c 4 _ rfl
 have a5:=(MB2.o.ext A1.o).box.c 5 _ rfl
 have a6:=(MB2.o.ext A1.o).box.c 6 _ rfl
 have a7:=(MB2.o.ext A1.o).box.c 7 _ rfl
 have a8:=(MB2.o.ext A1.o).box.c 8 _ rfl
 have a9:=(MB2.o.ext A1.o).box.c 9 _ rfl
 have a10:=(MB2.o.ext A1.o).box.c 10 _ rfl
 have a11:=(MB2.o.ext A1.o).box.c 11 _ rfl
 have a12:=(MB2.o.ext A1.o).box.c 12 _ rfl
 have c33:=H2.o.c 33 _ rfl
 have b33:=(H2.o.ext A1.o).c 33 _ rfl
 rw [hlen] at c33 b33
 have hl6:ds.length≤1000000:=by have:=HLN.o;omega
 clear hlen
 go_upto_region 2 with fail
 go_region_law (refine step_appC (by rfl) _ _ _ (by rfl) 76 13 120 _ Tryz.underlying98 info_msg (by rfl) (by omega) (M2.o.cl.ext A2.o) (R0.o.ext A2.o) (by rfl) w2.heap.size 1 (msL ⟨k1,s.id,k3,s.bt,k5,k6,k7,k8,k9,k10,k11,k12⟩ p L.length cap) (by rfl) (by rfl) (fun j u hu=>news_at (w:=w2) rfl j u hu) (msL_one _ _ _ _) (by simpa using hl6) (by omega) (by have:=HK.o;omega) (fun d=>d=k+16) rfl ?_;intro p4 c4 o4 w4 r4 f4;have D4:=hI ((H2.o.ext A2.o).box.fr f4 (by have:=HK.o;omega) (by omega));have b4:=D4.o.box.c 33 _ rfl;have f40:=D4.o.box.f 33)
 all_goals
  have OU4:Hid (OutV w4 o4 (k+16) p4 c4 (s.out++[(sayM s ⟨k1,k2,k3,k4,k5,k6,k7,k8,k9,k10,k11,k12⟩,L)])):=hI ⟨ds++[⟨⟨k1,s.id,k3,s.bt,k5,k6,k7,k8,k9,k10,k11,k12⟩,p,cap,L⟩],by rw [← HEQ.o];simp [keyO,sayM],by have:=r4;simpa using this,fun d hd=>by
   rcases List.mem_append.1 hd with hd | hd
   ·exact ((AO.o d hd).ext A2.o).fr f4 (by omega)
   ·simp at hd
    subst hd
    exact ⟨HMO.o,(S2.o.ext A2.o).fr f4 (by omega),HL.o⟩⟩
  have e5:(sayN s ⟨k1,k2,k3,k4,k5,k6,k7,k8,k9,k10,k11,k12⟩ L).out.length=ds.length+1:=by simp [sayN,HLEN.o]
  obtain ⟨N5,M5⟩:=NodeP.mod (A':={ A with op:=p4,oc:=c4 }) (s':=sayN s ⟨k1,k2,k3,k4,k5,k6,k7,k8,k9,k10,k11,k12⟩ L) HK.o (H2.o.ext A2.o) f4 (fun d hd=>by unfold ndC;omega) ((H2.o.ext A2.o).q.set_ou HK.o OU4.o f4 (fun d hd=>.inl hd)) 33 (.slice p4 (ds.length+1) c4) (by rw [← e5];rfl) { H2.o.ok with out:=(by have:=HLN.o;rw [e5,← HLEN.o];omega) }
  have N6:=hI N5
  have P4:=Fm.put (C:=one k) f4.cl D4.o (by have:=HK.o;omega) rfl 33 (.slice p4 (ds.length+1) c4)
  have M6:=hI ((M2.o.tr (Fm.ext M2.o.cl A2.o) (sc0 HK.o)).tr ((f4.mono (fun d hd=>by unfold sayC;omega)).tr (P4.mono (fun d hd=>by unfold one at hd;unfold sayC;omega)) (sc0 HK.o)) (sc0 HK.o))
  refine bodyPost_end (v:=.tuple #[]) (by simp [results,Tryz.results114,go_sem]) rfl ?_
  exact ⟨rfl,o4,p4,c4,N6.o,M6.o⟩
theorem nsayR_any (hcl:Cl w o) (hk:32≤k) (h:NodeP w o k x wb jd A s) {m:MsD} {p:Option Addr} {cap:Nat} {L:List EnD} (hs:SlC 7 w o p L.length cap (L.map enL)) (hm:sayO s m L=some s') {pr:Option Addr} {n cr:Nat} {R:List (List Value)} (hr:RowC 200 3 w o (k+18) pr n cr R) :
  Calls Tryz.prog 114 #[ptrN x,msV m p L.length cap] w fun e w'=>e=.returned (.tuple #[])∧∃ o' p' c',NodeP w' o' k x wb jd { A with op:=p',oc:=c' } s'∧RowC 200 3 w' o' (k+18) pr n cr R∧Fm (ndC k) o o' w w':=by
 unfold sayO at hm
 split at hm
 case isFalse=>cases hm
 rename_i h1
 rw [Bool.and_eq_true,decide_eq_true_eq,mayF_is] at h1
 cases hm
 obtain ⟨h2,h3⟩:=mayM_ok h1.1
 exact (nsayC_any hcl hk h h2 hs h3 h1.2).mono (fun e w' ⟨h1,o',p',c',n,f⟩=>⟨h1,o',p',c',n,hr.fr f (by omega) (by unfold sayC;omega),f.mono (fun d hd=>by unfold sayC at hd;unfold ndC;omega)⟩)
theorem qn_at {w:World} {p:Option Addr} {n cap:Nat} {L:List QnD} (h:SlS 3 w p n cap (L.map qnL)) (k:Nat) (hk:k<n) :
  ∃ b oo q,p=some ⟨b,oo,none⟩∧L[k]?=some q∧w.cell? ⟨b,oo+k * 3,none⟩=some (.int .i64 q.who)∧w.cell? ⟨b,oo+k * 3+1,none⟩=some (.int .i64 q.num)∧w.cell? ⟨b,oo+k * 3+2,none⟩=some (.int .i64 q.pr):=by
 obtain ⟨b,oo,x,hp,hx,-,hc⟩:=h.at k hk
 rw [List.getElem?_map] at hx
 obtain ⟨q,hq,rfl⟩:=Option.map_eq_some_iff.1 hx
 exact ⟨b,oo,q,hp,hq,hc 0 _ rfl,hc 1 _ rfl,hc 2 _ rfl⟩
theorem nhasM_any (hcl:Cl w o) (hk:32≤k) (h:NodeP w o k x wb jd A s) {m:MsD} {p:Option Addr} {cap:Nat} {L:List EnD} (hsl:SlC 7 w o p L.length cap (L.map enL)) (hb:hasO s m=some s') :
  Calls Tryz.prog 183 #[ptrN x,msV m p L.length cap] w fun e w'=>e=.returned (.tuple #[])∧∃ o' A',NodeP w' o' k x wb jd A' s'∧Fm (ndC k) o o' w w':=by
 obtain ⟨k1,k2,k3,k4,k5,k6,k7,k8,k9,k10,k11,k12⟩:=m
 unfold hasO at hb
 simp only at hb
 cases hq:s.q with
 | none=>rw [hq] at hb;cases hb
 | some q=>
 rw [hq] at hb
 simp only at hb
 split at hb
 case isFalse=>cases hb
 rename_i hcc
 simp only [Bool.and_eq_true,decide_eq_true_eq] at hcc
 have HB:=hI hb
 have CC:=hI hcc
 have HQ:=hI hq
 clear hb hcc hq
 obtain ⟨qg,hqg,hQV⟩:∃ qg,A.q=some qg∧QuV w o (k+14) qg q:=by
  have:=h.q.qu
  rw [HQ.o] at this
  exact this
 have QV:=hI (hQV.ext (Ext.alloc w (.cells (msA ⟨k1,k2,k3,k4,k5,k6,k7,k8,k9,k10,k11,k12⟩ p L.length cap) 76)))
 have HQG:=hI hqg
 clear hQV hqg
 have A0:=hI (Ext.alloc w (.cells (msA ⟨k1,k2,k3,k4,k5,k6,k7,k8,k9,k10,k11,k12⟩ p L.length cap) 76))
 have MB:=hI (BoxC.loose hcl (msA ⟨k1,k2,k3,k4,k5,k6,k7,k8,k9,k10,k11,k12⟩ p L.length cap) (msL ⟨k1,k2,k3,k4,k5,k6,k7,k8,k9,k10,k11,k12⟩ p L.length cap) 76 rfl)
 have H:=hI (h.ext A0.o)
 have S:=hI (hsl.ext A0.o)
 have M1:=hI (Fm.ext (C:=ndC k) hcl A0.o)
 have HK:=hI hk
 clear hcl h hsl hk
 go_enter Tryz.func183,Tryz.ntmps183
 go_upto_region 1 with fail
 change Code.wp _ _ _ _ (w.alloc (.cells (msA ⟨k1,k2,k3,k4,k5,k6,k7,k8,k9,k10,k11,k12⟩ p L.length cap) 76))
 clear A0
 generalize w.alloc (.cells (msA ⟨k1,k2,k3,k4,k5,k6,k7,k8,k9,k10,k11,k12⟩ p L.length cap) 76)=w1 at *
 generalize w.heap.size=mb at *
 obtain ⟨W2,hW⟩:∃ W2,W2=w1.drew:=⟨_,rfl⟩
 have X2:Hid (Ext w1 W2):=hI (by rw [hW];exact Ext.drew w1)
 replace H:=hI (H.o.ext X2.o)
 replace S:=hI (S.o.ext X2.o)
 replace MB:=hI (MB.o.ext X2.o)
 replace QV:=hI (QV.o.ext X2.o)
 have g21:∀ d os,(grow (redrawn W2 d) os).cell? ⟨x,21,none⟩=some (ptrN qg):=by have:=H.o.g 21 _ rfl;rw [HQG.o] at this;exact this
 have gm1:=fun d os=>Ext.cell (Ext.reg W2 d os) (MB.o.box.c 1 _ rfl)
 have gm7:=fun d os=>Ext.cell (Ext.reg W2 d os) (MB.o.box.c 7 _ rfl)
 have gm10:=fun d os=>Ext.cell (Ext.reg W2 d os) (MB.o.box.c 10 _ rfl)
 refine att [0,1,2,3,4,5,6,7,8,9] [10,11] ?_
 rw [← hW]
 clear hW
 repeat ((first|refine aqq fun K hK=>?_|refine akk fun K hK=>?_);go_big_quiet_op;refine hK _ ?_;clear hK K)
 refine ra_nil ?_
 refine too fun K hK=>?_
 go_simp
 refine (qack_any (M1.o.cl.ext X2.o) QV.o (by have:=HK.o;omega) CC.o.2.1 CC.o.2.2 CC.o.1).mono ?_
 rintro e w3 ⟨rfl,qv3,m3⟩
 obtain ⟨N3,F3⟩:=NodeP.mod0 (A':=A) (s':={ s with q:=some (ackQ q k2 k8 k10) }) HK.o H.o m3 (fun d hd=>by unfold one at hd;unfold ndC;omega) (H.o.q.set_qu HK.o ⟨qg,HQG.o,qv3⟩ m3 (fun d hd=>.inl hd)) rfl { H.o.ok with id:=H.o.ok.id }
 have H3:=hI N3
 have MB3:=hI (MB.o.fr F3 (by decide) (nd0 HK.o))
 have Q3:=hI qv3
 have M3:=hI ((M1.o.tr (Fm.ext M1.o.cl X2.o) (nd0 HK.o)).tr F3 (nd0 HK.o))
 clear N3 F3 qv3 m3 H S MB QV M1 X2 g21 gm1 gm7 gm10
 refine hK _ _ ?_
 clear hK K
 refine too fun K hK=>?_
 go_simp
 refine hK _ _ ?_
 clear hK K
 refine rt_nil ?_
 obtain ⟨q3,hq3⟩:∃ q3,q3=ackQ q k2 k8 k10:=⟨_,rfl⟩
 rw [← hq3] at H3 Q3
 have HQ3:=hI hq3
 clear hq3
 go_upto_region 2 with fail
 obtain ⟨W4,hW⟩:∃ W4,W4=w3.drew:=⟨_,rfl⟩
 have X4:Hid (Ext w3 W4):=hI (by rw [hW];exact Ext.drew w3)
 replace H3:=hI (H3.o.ext X4.o)
 replace MB3:=hI (MB3.o.ext X4.o)
 replace Q3:=hI (Q3.o.ext X4.o)
 have g23:=H3.o.g 23 _ rfl
 have gm1:=fun d os=>Ext.cell (Ext.reg W4 d os) (MB3.o.box.c 1 _ rfl)
 refine att [0,1,2,3,4,5,6,7,8,9] [10] ?_
 rw [← hW]
 clear hW
 repeat ((first|refine aqq fun K hK=>?_|refine akk fun K hK=>?_);go_big_quiet_op;refine hK _ ?_;clear hK K)
 refine acc fun K hK=>?_
 go_simp
 refine (twith_any s.ac k2 H3.o.ok.ac CC.o.2.1 _).mono ?_
 rintro e w5 ⟨rfl,rfl⟩
 refine hK _ _ (Ext.rfl' _) ?_;clear hK K
 repeat ((first|refine aqq fun K hK=>?_|refine akk fun K hK=>?_);go_big_quiet_op;refine hK _ ?_;clear hK K)
 refine ra_nil ?_
 have c23:=H3.o.c 23 _ rfl
 have f23:=H3.o.box.box.f 23
 refine too fun K hK=>?_
 go_simp
 obtain ⟨N5,F5⟩:=NodeP.mod (C:=fun _=>False) (A':=A) (s':={ s with q:=some q3,ac:=withT s.ac k2 }) HK.o H3.o (Fm.refl (M3.o.cl.ext X4.o)) (fun d hd=>hd.elim) { H3.o.q with dk:=H3.o.q.dk } 23 (.int .i64 (withT s.ac k2)) rfl { H3.o.ok with ac:=(withT_is H3.o.ok.ac CC.o.2.1) }
 have H4:=hI N5
 have MB4:=hI (MB3.o.fr (F5) (by decide) (nd0 HK.o))
 have Q4:=hI (Q3.o.fr (Fm.put (C:=one k) (M3.o.cl.ext X4.o) H3.o.box (by have:=HK.o;omega) rfl 23 (.int .i64 (withT s.ac k2))) (by have:=HK.o;omega) (by unfold one;omega))
 have M4:=hI ((M3.o.tr (Fm.ext M3.o.cl X4.o) (nd0 HK.o)).tr F5 (nd0 HK.o))
 clear N5 F5 c23 f23 g23 gm1 X4 H3 MB3 Q3 M3
 refine hK _ _ ?_
 clear hK K
 refine rt_nil ?_
 generalize W4.setCell ⟨x,23,none⟩ (.int .i64 (withT s.ac k2))=w4 at *
 go_upto_region 3 with fail
 have f1:(0:Int)≤k2:=by have:=CC.o.2.1.1;omega
 have f2:k2<8:=by have:=CC.o.2.1.2;omega
 have hlt:k2.toNat<8:=by omega
 obtain ⟨W6,hW⟩:∃ W6,W6=w4.drew:=⟨_,rfl⟩
 have X6:Hid (Ext w4 W6):=hI (by rw [hW];exact Ext.drew w4)
 replace H4:=hI (H4.o.ext X6.o)
 replace MB4:=hI (MB4.o.ext X6.o)
 replace Q4:=hI (Q4.o.ext X6.o)
 have g4:∀ d os,(grow (redrawn W6 d) os).cell? ⟨x,4,none⟩=some (.int .i64 s.ck):=H4.o.g 4 _ rfl
 have gm1:=fun d os=>Ext.cell (Ext.reg W6 d os) (MB4.o.box.c 1 _ rfl)
 refine att [0,1,2,3,4,5,6,7,8,9] [10] ?_
 rw [← hW]
 clear hW
 repeat ((first|refine aqq fun K hK=>?_|refine akk fun K hK=>?_);go_big_quiet_op;refine hK _ ?_;clear hK K)
 refine ra_nil ?_
 have ce:=H4.o.c (24+k2.toNat) _ (ndL_er hlt)
 have fe:=H4.o.box.box.f (24+k2.toNat)
 refine too fun K hK=>?_
 go_simp
 obtain ⟨N7,F7⟩:=NodeP.mod (C:=fun _=>False) (A':=A) (s':={ s with q:=some q3,ac:=withT s.ac k2,er:=s.er.set k2.toNat s.ck }) HK.o H4.o (Fm.refl (M4.o.cl.ext X6.o)) (fun d hd=>hd.elim) { H4.o.q with dk:=H4.o.q.dk } (24+k2.toNat) (.int .i64 s.ck) (ndL_sete hlt) { H4.o.ok with er:=(fun i=>by have h1:=H4.o.ok.er i;have h2:=H4.o.ok.ck;simp only at h1 h2;rw [E8.set_at _ hlt];split <;> assumption) }
 have H6:=hI N7
 have MB6:=hI (MB4.o.fr F7 (by decide) (nd0 HK.o))
 have Q6:=hI (Q4.o.fr (Fm.put (C:=one k) (M4.o.cl.ext X6.o) H4.o.box (by have:=HK.o;omega) rfl (24+k2.toNat) (.int .i64 s.ck)) (by have:=HK.o;omega) (by unfold one;omega))
 have M6:=hI ((M4.o.tr (Fm.ext M4.o.cl X6.o) (nd0 HK.o)).tr F7 (nd0 HK.o))
 clear N7 F7 ce fe g4 gm1 X6 H4 MB4 Q4 M4 f1 f2 hlt
 refine hK _ _ ?_
 clear hK K
 refine rt_nil ?_
 generalize W6.setCell ⟨x,24+k2.toNat,none⟩ (.int .i64 s.ck)=w6 at *
 go_upto_region 4 with fail
 obtain ⟨W8,hW⟩:∃ W8,W8=w6.drew:=⟨_,rfl⟩
 have X8:Hid (Ext w6 W8):=hI (by rw [hW];exact Ext.drew w6)
 replace H6:=hI (H6.o.ext X8.o)
 replace Q6:=hI (Q6.o.ext X8.o)
 have g10:∀ d os,(grow (redrawn W8 d) os).cell? ⟨x,10,none⟩=some (.int .i64 s.cm):=H6.o.g 10 _ rfl
 have g9:=H6.o.g 9 _ rfl
 have g21:∀ d os,(grow (redrawn W8 d) os).cell? ⟨x,21,none⟩=some (ptrN qg):=by have:=H6.o.g 21 _ rfl;rw [HQG.o] at this;exact this
 refine att [0,1,2,3,4,5,6,7,8,10,11,12,13,9,14,15,16,17,18] [19] ?_
 rw [← hW]
 clear hW
 repeat ((first|refine aqq fun K hK=>?_|refine akk fun K hK=>?_);go_big_quiet_op;refine hK _ ?_;clear hK K)
 refine acc fun K hK=>?_
 go_simp
 refine (qcommit_any Q6.o).mono ?_
 rintro e w9 ⟨rfl,x9⟩
 obtain ⟨QC,hQC⟩:∃ QC,QC=mostQ q3.hv q3.n:=⟨_,rfl⟩
 rw [← hQC]
 have HQC:=hI hQC
 clear hQC
 have H9:=hI (H6.o.ext x9)
 have Q9:=hI (Q6.o.ext x9)
 have M9:=hI (M6.o.tr (Fm.ext M6.o.cl (X8.o.tr x9)) (nd0 HK.o))
 refine hK _ _ x9 ?_
 clear hK K x9 H6 Q6 M6 X8
 repeat ((first|refine aqq fun K hK=>?_|refine akk fun K hK=>?_);go_big_quiet_op;refine hK _ ?_;clear hK K)
 refine acc fun K hK=>?_
 go_simp
 refine (llen_any H9.o.q.lg).mono ?_
 rintro e w10 ⟨rfl,rfl⟩
 refine hK _ _ (Ext.rfl' _) ?_;clear hK K
 repeat ((first|refine aqq fun K hK=>?_|refine akk fun K hK=>?_);go_big_quiet_op;refine hK _ ?_;clear hK K)
 refine ra_nil ?_
 have c10:w9.cell? ⟨x,10,none⟩=some (.int .i64 s.cm):=H9.o.c 10 _ rfl
 have f10:=H9.o.box.box.f 10
 refine too fun K hK=>?_
 go_simp
 obtain ⟨CM,hCM⟩:∃ CM:Int,CM=mxI s.cm (minI QC (s.L.length:Int)):=⟨_,rfl⟩
 have CMR:Hid (0≤CM∧CM≤60):=hI (by
  have h1:=H9.o.ok.cm
  have h3:s.L.length≤60:=LogV.max H9.o.q.lg
  simp only at h1
  rw [hCM]
  unfold mxI minI
  split <;> (try split) <;> omega)
 have HCM:=hI hCM
 unfold mxI minI at hCM
 rw [← hCM]
 clear hCM
 generalize (if (s.L.length:Int)<QC then (s.L.length:Int) else QC)=mnv at *
 obtain ⟨N10,F10⟩:=NodeP.mod (C:=fun _=>False) (A':=A) (s':={ s with q:=some q3,ac:=withT s.ac k2,er:=s.er.set k2.toNat s.ck,cm:=CM }) HK.o H9.o (Fm.refl M9.o.cl) (fun d hd=>hd.elim) { H9.o.q with dk:=H9.o.q.dk } 10 (.int .i64 CM) rfl { H9.o.ok with cm:=CMR.o }
 have H10:=hI N10
 have Q10:=hI (Q9.o.fr (Fm.put (C:=one k) M9.o.cl H9.o.box (by have:=HK.o;omega) rfl 10 (.int .i64 CM)) (by have:=HK.o;omega) (by unfold one;omega))
 have M10:=hI (M9.o.tr F10 (nd0 HK.o))
 clear N10 F10 c10 f10 g10 g9 g21 H9 Q9 M9
 refine hK _ _ ?_
 clear hK K
 refine rt_nil ?_
 generalize w9.setCell ⟨x,10,none⟩ (.int .i64 CM)=w10 at *
 obtain ⟨s10,hs10⟩:∃ s10:NdD,s10=hasS s ⟨k1,k2,k3,k4,k5,k6,k7,k8,k9,k10,k11,k12⟩ q:=⟨_,rfl⟩
 have e10:({ s with q:=some q3,ac:=withT s.ac k2,er:=s.er.set k2.toNat s.ck,cm:=CM }:NdD)=s10:=by
  rw [hs10,HCM.o,HQC.o,HQ3.o]
  rfl
 rw [e10] at H10
 have E10:Hid (s10.q=some q3∧s10.ak=s.ak):=hI (by rw [← e10];exact ⟨rfl,rfl⟩)
 have HX:Hid ((if decide (s10.cm<s10.st) then some s10 else match foldO hasB s10.ak (s10,[]) with | none=>none | some r=>if decide (r.2.length≤1000) then some { r.1 with ak:=r.2 } else none)=some s'):=hI (by
  have:=HB.o
  rw [← hs10] at this
  rw [E10.o.2]
  exact this)
 clear HB e10 hs10 HCM CMR HQC HQ3
 go_upto_region 5 with fail
 by_cases hst:s10.cm<s10.st
 ·have e1:decide (s10.cm<s10.st)=true:=decide_eq_true hst
  have HSS:Hid (s10=s'):=hI (by
   have:=HX.o
   rw [e1] at this
   exact Option.some.inj this)
  clear hst HX
  obtain ⟨W11,hW⟩:∃ W11,W11=w10.drew:=⟨_,rfl⟩
  have X11:Hid (Ext w10 W11):=hI (by rw [hW];exact Ext.drew w10)
  replace H10:=hI (H10.o.ext X11.o)
  replace Q10:=hI (Q10.o.ext X11.o)
  have g10:=H10.o.g 10 _ rfl
  have g22:=H10.o.g 22 _ rfl
  refine att [0,1,2,3,4,5,6,7,8] [] ?_
  rw [← hW]
  clear hW
  repeat ((first|refine aqq fun K hK=>?_|refine akk fun K hK=>?_);go_big_quiet_op;refine hK _ ?_;clear hK K)
  refine ra_nil ?_
  refine rt_nil ?_
  have M11:=hI (M10.o.tr (Fm.ext M10.o.cl X11.o) (nd0 HK.o))
  clear M10 X11 g10 g22
  have H12:=hI H10.o
  rw [HSS.o] at H12
  go_wp2
  refine bodyPost_ret (v:=.tuple #[]) (by simp [results,Tryz.results183,go_sem]) rfl ?_
  first | exact ⟨rfl,o,⟨A,H12.o⟩,M11.o⟩ | exact ⟨rfl,o,A,H12.o,M11.o⟩
 ·have e1:decide (s10.cm<s10.st)=false:=decide_eq_false hst
  obtain ⟨⟨s2,rest⟩,hf,hle,hs2⟩:∃ r,foldO hasB s10.ak (s10,[])=some r∧r.2.length≤1000∧{ r.1 with ak:=r.2 }=s':=by
   have:=HX.o
   rw [e1] at this
   simp only [Bool.false_eq_true,if_false] at this
   cases hf:foldO hasB s10.ak (s10,[]) with
   | none=>rw [hf] at this;cases this
   | some r=>
    rw [hf] at this
    simp only at this
    split at this
    ·rename_i h1
     exact ⟨r,rfl,of_decide_eq_true h1,Option.some.inj this⟩
    ·cases this
  have HF:=hI hf
  have HLE:=hI hle
  have HS2:=hI hs2
  clear hst HX hf hle hs2
  obtain ⟨W11,hW⟩:∃ W11,W11=w10.drew:=⟨_,rfl⟩
  have X11:Hid (Ext w10 W11):=hI (by rw [hW];exact Ext.drew w10)
  replace H10:=hI (H10.o.ext X11.o)
  replace Q10:=hI (Q10.o.ext X11.o)
  have g10:=H10.o.g 10 _ rfl
  have g22:=H10.o.g 22 _ rfl
  refine att [0,1,2,3,4,5,6,7,8] [] ?_
  rw [← hW]
  clear hW
  repeat ((first|refine aqq fun K hK=>?_|refine akk fun K hK=>?_);go_big_quiet_op;refine hK _ ?_;clear hK K)
  refine ra_nil ?_
  refine rt_nil ?_
  have M11:=hI (M10.o.tr (Fm.ext M10.o.cl X11.o) (nd0 HK.o))
  clear M10 X11 g10 g22
  have W0:=Fm.wipe (d:=k+18) M11.o.cl (by have:=HK.o;omega)
  have H12:=hI (H10.o.fr HK.o W0 (by unfold one;omega) (fun d hd=>by unfold one at hd;unfold ndI;omega))
  have M12:=hI (M11.o.tr (W0.mono (fun d hd=>by unfold one at hd;unfold ndC;omega)) (nd0 HK.o))
  have HN:Hid (∀ i,i<W11.heap.size→wipe o (k+18) i≠k+18):=hI (fun i _=>wipe_none o (by omega) i)
  clear W0 H10 Q10 M11
  generalize wipe o (k+18)=oL at *
  have ML:=hI (Fm.refl (C:=ndC k) M12.o.cl)
  have c32:W11.cell? ⟨x,32,none⟩=some (.slice A.ap s10.ak.length A.ac):=H12.o.c 32 _ rfl
  have hlen:s10.ak.length≤9223372036854775807:=Nat.le_trans H12.o.q.aks.row.sl.le H12.o.q.aks.row.sl.max
  go_wp2
  go_loopw [4,72] (fun v i wr=>∃ (j:Nat) (oj:Ow) (Aj:AdD) (sj:NdD) (R:List QnD) (pR:Option Addr) (cR:Nat),j≤s10.ak.length∧i=.int .i64 (j:Int)∧v=.slice pR R.length cR∧NodeP wr oj k x wb jd Aj sj∧RowC 200 3 wr oj (k+18) pR R.length cR (R.map qnL)∧(Aj.ap=A.ap∧Aj.ac=A.ac∧Aj.q=A.q∧sj.ak=s10.ak∧sj.q=some q3)∧foldO hasB (s10.ak.drop j) (sj,R)=some (s2,rest)∧Fm (ndC k) oL oj W11 wr) (fun _ i _=>s10.ak.length-(intOf i).toNat)
  case atStart=>exact ⟨0,oL,A,s10,[],none,0,by omega,rfl,rfl,H12.o,RowC.nil _ _ _ _ _,⟨rfl,rfl,rfl,rfl,E10.o.1⟩,HF.o,ML.o⟩
  case round=>
   obtain ⟨j,oj,Aj,sj,R,pR,cR,hj,rfl,rfl,nj,rj,ej,fj,mj⟩:=hrel
   have NJ:=hI nj
   have RJ:=hI rj
   have EJ:=hI ej
   have FJ:=hI fj
   have MJ:=hI mj
   clear nj rj ej fj mj H12 ML HF c32
   by_cases hlt:j<s10.ak.length
   ·have AKS:=hI NJ.o.q.aks
    rw [EJ.o.1,EJ.o.2.1,EJ.o.2.2.2.1] at AKS
    obtain ⟨b,oo,q,hp,hx,c0,c1,c2⟩:=qn_at AKS.o.row.sl j hlt
    have hdrop:s10.ak.drop j=q::s10.ak.drop (j+1):=by
     rw [List.drop_eq_getElem_cons hlt]
     congr 1
     rw [List.getElem?_eq_getElem hlt] at hx
     exact Option.some.inj hx
    obtain ⟨⟨sk,Rk⟩,hsk,hrk⟩:=foldO_cons (by rw [← hdrop];exact FJ.o)
    have HSK:=hI hsk
    have HRK:=hI hrk
    clear hsk hrk hdrop hx FJ AKS
    rw [hp] at EJ ⊢
    clear hp
    obtain ⟨z1,z2,z3⟩:=q
    simp only at c0 c1 c2
    go_upto_region 11 with fail
    change Code.wp _ _ _ _ (wr.alloc (.cells #[.int .i64 z1,.int .i64 z2,.int .i64 z3] 200))
    have A1:=hI (Ext.alloc wr (.cells #[.int .i64 z1,.int .i64 z2,.int .i64 z3] 200))
    have TB:=hI (BoxC.loose MJ.o.cl #[.int .i64 z1,.int .i64 z2,.int .i64 z3] [.int .i64 z1,.int .i64 z2,.int .i64 z3] 200 rfl)
    replace NJ:=hI (NJ.o.ext A1.o)
    replace RJ:=hI (RJ.o.ext A1.o)
    replace MJ:=hI (MJ.o.tr (Fm.ext MJ.o.cl A1.o) (nd0 HK.o))
    clear A1 c0 c1 c2
    generalize wr.alloc (.cells #[.int .i64 z1,.int .i64 z2,.int .i64 z3] 200)=w5 at *
    generalize wr.heap.size=tb at *
    have QV:Hid (QuV w5 oj (k+14) qg q3):=hI (by
     have:=NJ.o.q.qu
     rw [EJ.o.2.2.1,EJ.o.2.2.2.2,HQG.o] at this
     obtain ⟨g,hg,h⟩:=this
     cases hg
     exact h)
    obtain ⟨W13,hW⟩:∃ W13,W13=w5.drew:=⟨_,rfl⟩
    have X13:Hid (Ext w5 W13):=hI (by rw [hW];exact Ext.drew w5)
    replace NJ:=hI (NJ.o.ext X13.o)
    replace RJ:=hI (RJ.o.ext X13.o)
    replace TB:=hI (TB.o.ext X13.o)
    replace QV:=hI (QV.o.ext X13.o)
    have g21:∀ d os,(grow (redrawn W13 d) os).cell? ⟨x,21,none⟩=some (ptrN qg):=by have:=NJ.o.g 21 _ rfl;rw [EJ.o.2.2.1,HQG.o] at this;exact this
    have q2:=fun d os=>Ext.cell (Ext.reg W13 d os) (TB.o.box.c 2 _ rfl)
    try simp only at q2
    refine att [0,1,2,3,4,5,6,7,8] [] ?_
    rw [← hW]
    clear hW
    repeat ((first|refine aqq fun K hK=>?_|refine akk fun K hK=>?_);go_big_quiet_op;refine hK _ ?_;clear hK K)
    refine acc fun K hK=>?_
    go_simp
    refine (qprobe_any QV.o).mono ?_
    rintro e w14 ⟨rfl,x14⟩
    obtain ⟨QP,hQP⟩:∃ QP,QP=mostQ q3.pr q3.n:=⟨_,rfl⟩
    rw [← hQP]
    have HQP:=hI hQP
    clear hQP
    replace NJ:=hI (NJ.o.ext x14)
    replace RJ:=hI (RJ.o.ext x14)
    replace TB:=hI (TB.o.ext x14)
    replace MJ:=hI (MJ.o.tr (Fm.ext MJ.o.cl (X13.o.tr x14)) (nd0 HK.o))
    refine hK _ _ x14 ?_
    clear hK K x14 X13 g21 q2 QV
    repeat ((first|refine aqq fun K hK=>?_|refine akk fun K hK=>?_);go_big_quiet_op;refine hK _ ?_;clear hK K)
    refine ra_nil ?_
    refine rt_nil ?_
    have HSX:=HSK.o
    unfold hasB at HSX
    simp only [EJ.o.2.2.2.2] at HSX
    rw [← HQP.o] at HSX
    by_cases hpr:QP<z3
    ·have e2:decide (QP<z3)=true:=decide_eq_true hpr
     rw [if_pos e2] at HSX
     split at HSX
     case isFalse=>cases HSX
     rename_i hrl
     have HRL:=hI (of_decide_eq_true hrl)
     obtain ⟨rfl,rfl⟩:=Prod.mk.inj (Option.some.inj HSX)
     clear HSX hrl hpr HSK
     simp only [e2]
     go_upto_region 12 with fail
     have A1:=hI (Ext.alloc w14 (.cells #[.int .i64 z1,.int .i64 z2,.int .i64 z3] 200))
     have d0:=TB.o.box.c 0 _ rfl
     have d1:=TB.o.box.c 1 _ rfl
     have d2:=TB.o.box.c 2 _ rfl
     have hl7:R.length≤1000000:=by have:=HRL.o;omega
     go_wp2_with (at_builtin;refine wpList_appC rfl _ _ 97 rfl 200 3 24 _ Tryz.underlying97 info_qn (by rfl) (by omega) (MJ.o.cl.ext A1.o) (RJ.o.ext A1.o) (by rfl) w14.heap.size 1 (qnL ⟨z1,z2,z3⟩) (by rfl) (by rfl) (fun j u hu=>news_at (w:=w14) rfl j u hu) (by simp [Value.oneCell']) (by simpa using hl7) (by omega) (by have:=HK.o;omega) (fun x=>x=k+18) rfl ?_)
     intro p6 c6 o6 w9 r9 f9
     have N9:=hI ((NJ.o.ext A1.o).fr HK.o f9 (by omega) (fun d hd=>by unfold ndI;omega))
     have R9:=hI r9
     have M9:=hI ((MJ.o.tr (Fm.ext MJ.o.cl A1.o) (nd0 HK.o)).tr (f9.mono (fun d hd=>by unfold ndC;omega)) (nd0 HK.o))
     clear r9 f9 A1 d0 d1 d2
     go_wp2
     go_roundw
     case rel=>exact ⟨j+1,o6,Aj,sj,R++[⟨z1,z2,z3⟩],p6,c6,by omega,by go_num,by simp,N9.o,by simpa using R9.o,EJ.o,HRK.o,M9.o⟩
     case measure=>simp [intOf];omega
    ·have e2:decide (QP<z3)=false:=decide_eq_false hpr
     rw [if_neg (by rw [e2];simp)] at HSX
     clear hpr
     simp only [e2]
     go_upto_region 13 with fail
     by_cases hwho:z1=sj.id
     ·have e3:(z1==sj.id)=true:=by simpa using hwho
      rw [if_pos e3] at HSX
      obtain ⟨s6,hs6,hpp⟩:=Option.map_eq_some_iff.1 HSX
      obtain ⟨rfl,rfl⟩:=Prod.mk.inj hpp
      have HS6:=hI hs6
      clear HSX hs6 hpp hwho HSK
      obtain ⟨W15,hW⟩:∃ W15,W15=w14.drew:=⟨_,rfl⟩
      have X15:Hid (Ext w14 W15):=hI (by rw [hW];exact Ext.drew w14)
      replace NJ:=hI (NJ.o.ext X15.o)
      replace RJ:=hI (RJ.o.ext X15.o)
      replace TB:=hI (TB.o.ext X15.o)
      have g0:∀ d os,(grow (redrawn W15 d) os).cell? ⟨x,0,none⟩=some (.int .i64 sj.id):=NJ.o.g 0 _ rfl
      have q0:=fun d os=>Ext.cell (Ext.reg W15 d os) (TB.o.box.c 0 _ rfl)
      try simp only at q0
      refine att [0,1,2,3,4,5,6,7] [] ?_
      rw [← hW]
      clear hW
      repeat ((first|refine aqq fun K hK=>?_|refine akk fun K hK=>?_);go_big_quiet_op;refine hK _ ?_;clear hK K)
      refine ra_nil ?_
      refine rt_nil ?_
      replace MJ:=hI (MJ.o.tr (Fm.ext MJ.o.cl X15.o) (nd0 HK.o))
      clear X15 g0 q0
      go_upto_region 14 with fail
      obtain ⟨W16,hW⟩:∃ W16,W16=W15.drew:=⟨_,rfl⟩
      have X16:Hid (Ext W15 W16):=hI (by rw [hW];exact Ext.drew W15)
      replace NJ:=hI (NJ.o.ext X16.o)
      replace RJ:=hI (RJ.o.ext X16.o)
      replace TB:=hI (TB.o.ext X16.o)
      have g16:=NJ.o.g 16 _ rfl
      have g10:∀ d os,(grow (redrawn W16 d) os).cell? ⟨x,10,none⟩=some (.int .i64 sj.cm):=NJ.o.g 10 _ rfl
      have q1:=fun d os=>Ext.cell (Ext.reg W16 d os) (TB.o.box.c 1 _ rfl)
      try simp only at q1
      refine att [0,1,2,3,4,5,6,7,8,9] [10] ?_
      rw [← hW]
      clear hW
      repeat ((first|refine aqq fun K hK=>?_|refine akk fun K hK=>?_);go_big_quiet_op;refine hK _ ?_;clear hK K)
      refine ra_nil ?_
      refine too fun K hK=>?_
      go_simp
      refine (ngetR_any (MJ.o.cl.ext X16.o) HK.o NJ.o HS6.o RJ.o).mono ?_
      rintro e w17 ⟨⟨bb,rfl⟩,n17,r17,m17⟩
      have R17:=hI r17
      have N17:=hI n17
      have E17:Hid (Aj.ap=some ⟨b,oo,none⟩∧Aj.ac=A.ac∧Aj.q=A.q∧s6.ak=s10.ak∧s6.q=some q3):=hI (by
       have:=HS6.o
       unfold getO at this
       split at this
       ·cases this
        exact EJ.o
       ·cases this)
      have M17:=hI ((MJ.o.tr (Fm.ext MJ.o.cl X16.o) (nd0 HK.o)).tr m17 (nd0 HK.o))
      clear n17 r17 m17
      refine hK _ _ ?_
      clear hK K
      refine rt_nil ?_
      go_wp2
      go_roundw
      case rel=>exact ⟨j+1,oj,Aj,s6,R,pR,cR,by omega,by go_num,rfl,N17.o,R17.o,E17.o,HRK.o,M17.o⟩
      case measure=>simp [intOf];omega
     ·have e3:(z1==sj.id)=false:=by simpa using hwho
      rw [if_neg (by rw [e3];simp)] at HSX
      obtain ⟨s6,hs6,hpp⟩:=Option.map_eq_some_iff.1 HSX
      obtain ⟨rfl,rfl⟩:=Prod.mk.inj hpp
      have HS6:=hI hs6
      clear HSX hs6 hpp hwho HSK
      obtain ⟨W15,hW⟩:∃ W15,W15=w14.drew:=⟨_,rfl⟩
      have X15:Hid (Ext w14 W15):=hI (by rw [hW];exact Ext.drew w14)
      replace NJ:=hI (NJ.o.ext X15.o)
      replace RJ:=hI (RJ.o.ext X15.o)
      replace TB:=hI (TB.o.ext X15.o)
      have g0:∀ d os,(grow (redrawn W15 d) os).cell? ⟨x,0,none⟩=some (.int .i64 sj.id):=NJ.o.g 0 _ rfl
      have q0:=fun d os=>Ext.cell (Ext.reg W15 d os) (TB.o.box.c 0 _ rfl)
      try simp only at q0
      refine att [0,1,2,3,4,5,6,7] [] ?_
      rw [← hW]
      clear hW
      repeat ((first|refine aqq fun K hK=>?_|refine akk fun K hK=>?_);go_big_quiet_op;refine hK _ ?_;clear hK K)
      refine ra_nil ?_
      refine rt_nil ?_
      replace MJ:=hI (MJ.o.tr (Fm.ext MJ.o.cl X15.o) (nd0 HK.o))
      clear X15 g0 q0
      go_upto_region 10 with fail
      obtain ⟨W16,hW⟩:∃ W16,W16=W15.drew:=⟨_,rfl⟩
      have X16:Hid (Ext W15 W16):=hI (by rw [hW];exact Ext.drew W15)
      replace NJ:=hI (NJ.o.ext X16.o)
      replace RJ:=hI (RJ.o.ext X16.o)
      replace TB:=hI (TB.o.ext X16.o)
      have g11:∀ d os,(grow (redrawn W16 d) os).cell? ⟨x,11,none⟩=some (.int .i64 sj.ls):=NJ.o.g 11 _ rfl
      have g10:∀ d os,(grow (redrawn W16 d) os).cell? ⟨x,10,none⟩=some (.int .i64 sj.cm):=NJ.o.g 10 _ rfl
      have q1:=fun d os=>Ext.cell (Ext.reg W16 d os) (TB.o.box.c 1 _ rfl)
      have q0:=fun d os=>Ext.cell (Ext.reg W16 d os) (TB.o.box.c 0 _ rfl)
      try simp only at q1 q0
      refine att [0,1,2,3,4,5,6,7,8,9,10,11,12,13] [14] ?_
      rw [← hW]
      clear hW
      repeat ((first|refine aqq fun K hK=>?_|refine akk fun K hK=>?_);go_big_quiet_op;refine hK _ ?_;clear hK K)
      refine acc fun K hK=>?_
      go_simp
      refine hK _ _ (Ext.rfl' _) ?_;clear hK K
      refine ra_nil ?_
      refine too fun K hK=>?_
      go_simp
      refine (nsayR_any (m:=freshM sj ⟨z1,z2,z3⟩) (MJ.o.cl.ext X16.o) HK.o NJ.o (L:=[]) (SlC.empty 7 _ _) HS6.o RJ.o).mono ?_
      rintro e w17 ⟨rfl,o17,p17,c17,n17,r17,m17⟩
      have N17:=hI n17
      have R17:=hI r17
      have E17:Hid (s6.ak=s10.ak∧s6.q=some q3):=hI (by rw [sayO_eq HS6.o];exact ⟨EJ.o.2.2.2.1,EJ.o.2.2.2.2⟩)
      have M17:=hI ((MJ.o.tr (Fm.ext MJ.o.cl X16.o) (nd0 HK.o)).tr m17 (nd0 HK.o))
      clear n17 r17 m17
      refine hK _ _ ?_
      clear hK K
      refine rt_nil ?_
      go_wp2
      go_roundw
      case rel=>exact ⟨j+1,o17,{ Aj with op:=p17,oc:=c17 },s6,R,pR,cR,by omega,by go_num,rfl,N17.o,R17.o,⟨EJ.o.1,EJ.o.2.1,EJ.o.2.2.1,E17.o.1,E17.o.2⟩,HRK.o,M17.o⟩
      case measure=>simp [intOf];omega
   ·have e2:(sj,R)=(s2,rest):=by
     have:=FJ.o
     rw [List.drop_of_length_le (by omega)] at this
     exact Option.some.inj this
    obtain ⟨rfl,rfl⟩:=Prod.mk.inj e2
    have c32:=NJ.o.c 32 _ rfl
    have f32:=NJ.o.box.box.f 32
    obtain ⟨N13,F13⟩:=NodeP.take_aks HK.o NJ.o RJ.o HLE.o MJ.o HN.o
    rw [HS2.o] at N13
    have N14:=hI N13
    have F14:=hI (M12.o.tr F13 (nd0 HK.o))
    clear N13 F13
    go_wp2
    refine bodyPost_end (v:=.tuple #[]) (by simp [results,Tryz.results183,go_sem]) rfl ?_
    exact ⟨rfl,adopt oj (k+15) (k+18),⟨_,N14.o⟩,F14.o⟩
end
section
open Go Go.Sort Go.RowKit
def stateM (s:NdD) (m:MsD):MsD:=⟨11,0,m.fr,0,s.ls,0,s.mb,0,s.cm,m.nm,0,true⟩
def datB (fr:Int) (s:NdD) (e:EnD):Option NdD:=if e.fr==fr then addO s e else some s
def askdN (s:NdD) (m:MsD) (q:QuD):NdD:={ s with ak:=s.ak++[⟨m.fr,m.nm,q.la+1⟩] }
def servO (s:NdD) (m:MsD) (L:List EnD):Option NdD:=
 if m.kd==6 then (if m.vw==s.ls then hasO s m else some s)
 else if m.kd==7 then foldO (datB m.fr) L s
 else if m.kd==10 then sayO s (stateM s m) s.L
 else if m.kd==8 then
  if decide (1≤m.fr∧m.fr≤7)&&decide (s.ak.length<64) then
   if (m.vw==s.ls)&&hasT s.mb m.fr then
    match s.q with
    | none=>none
    | some q=>if decide (q.la≤1000000) then some (askdN s m q) else none
   else some s
  else none
 else some s
variable {w w4:World} {o o4:Ow} {k x wb jd:Nat} {A A':AdD} {s s':NdD}
theorem nserv_any (hcl:Cl w o) (hk:32≤k) (h:NodeP w o k x wb jd A s) {m:MsD} {p:Option Addr} {cap:Nat} {L:List EnD} (hsl:SlC 7 w o p L.length cap (L.map enL)) (hb:servO s m L=some s') :
  Calls Tryz.prog 160 #[ptrN x,msV m p L.length cap] w fun e w'=>e=.returned (.tuple #[])∧∃ o' A',NodeP w' o' k x wb jd A' s'∧Fm (ndC k) o o' w w':=by
 unfold servO at hb
 have HB:=hI hb
 clear hb
 obtain ⟨k1,k2,k3,k4,k5,k6,k7,k8,k9,k10,k11,k12⟩:=m
 simp only at HB
 have A0:=hI (Ext.alloc w (.cells (msA ⟨k1,k2,k3,k4,k5,k6,k7,k8,k9,k10,k11,k12⟩ p L.length cap) 76))
 have MB:=hI (BoxC.loose hcl (msA ⟨k1,k2,k3,k4,k5,k6,k7,k8,k9,k10,k11,k12⟩ p L.length cap) (msL ⟨k1,k2,k3,k4,k5,k6,k7,k8,k9,k10,k11,k12⟩ p L.length cap) 76 rfl)
 have H:=hI (h.ext A0.o)
 have S:=hI (hsl.ext A0.o)
 have M1:=hI (Fm.ext (C:=ndC k) hcl A0.o)
 have HK:=hI hk
 clear hcl h hsl hk
 go_enter Tryz.func160,Tryz.ntmps160
 go_upto_region 1 with fail
 change Code.wp _ _ _ _ (w.alloc (.cells (msA ⟨k1,k2,k3,k4,k5,k6,k7,k8,k9,k10,k11,k12⟩ p L.length cap) 76))
 clear A0
 generalize w.alloc (.cells (msA ⟨k1,k2,k3,k4,k5,k6,k7,k8,k9,k10,k11,k12⟩ p L.length cap) 76)=w1 at *
 generalize w.heap.size=mb at *
 have d0:=MB.o.box.c 0 _ rfl
 go_upto_region 2 with fail
 clear d0
 by_cases h6:k1=6
 ·have e6:(k1==6)=true:=by simpa using h6
  go_upto_region 3 with fail
  by_cases hv:k5=s.ls
  ·have ev:(k5==s.ls)=true:=by simpa using hv
   have HX:Hid (hasO s ⟨k1,k2,k3,k4,k5,k6,k7,k8,k9,k10,k11,k12⟩=some s'):=hI (by
    have:=HB.o
    simp only [e6,ev,if_true] at this
    exact this)
   clear HB hv h6
   obtain ⟨W2,hW⟩:∃ W2,W2=w1.drew:=⟨_,rfl⟩
   have X2:Hid (Ext w1 W2):=hI (by rw [hW];exact Ext.drew w1)
   replace H:=hI (H.o.ext X2.o)
   replace S:=hI (S.o.ext X2.o)
   replace MB:=hI (MB.o.ext X2.o)
   have g11:=H.o.g 11 _ rfl
   have gm4:=fun d os=>Ext.cell (Ext.reg W2 d os) (MB.o.box.c 4 _ rfl)
   refine att [0,1,2,3,4,5,6] [] ?_
   rw [← hW]
   clear hW
   repeat ((first|refine aqq fun K hK=>?_|refine akk fun K hK=>?_);go_big_quiet_op;refine hK _ ?_;clear hK K)
   refine ra_nil ?_
   refine rt_nil ?_
   have M2:=hI (M1.o.tr (Fm.ext M1.o.cl X2.o) (nd0 HK.o))
   clear X2 M1 g11 gm4
   have d0:=MB.o.box.c 0 _ rfl
   have d1:=MB.o.box.c 1 _ rfl
   have d2:=MB.o.box.c 2 _ rfl
   have d3:=MB.o.box.c 3 _ rfl
   have d4:=MB.o.box.c 4 _ rfl
   have d5:=MB.o.box.c 5 _ rfl
   have d6:=MB.o.box.c 6 _ rfl
   have d7:=MB.o.box.c 7 _ rfl
   have d8:=MB.o.box.c 8 _ rfl
   have d9:=MB.o.box.c 9 _ rfl
   have d10:=MB.o.box.c 10 _ rfl
   have d11:=MB.o.box.c 11 _ rfl
   have d12:=MB.o.box.c 12 _ rfl
   go_wp2_with fail
   refine (nhasM_any M2.o.cl HK.o H.o S.o HX.o).mono ?_
   rintro e w9 ⟨rfl,o9,A9,n9,f9⟩
   have N9:=hI n9
   have F9:=hI (M2.o.tr f9 (nd0 HK.o))
   clear n9 f9
   go_wp2
   refine bodyPost_end (v:=.tuple #[]) (by simp [results,Tryz.results160,go_sem]) rfl ?_
   exact ⟨rfl,o9,A9,N9.o,F9.o⟩
  ·have ev:(k5==s.ls)=false:=by simpa using hv
   have HSS:Hid (s=s'):=hI (by
    have:=HB.o
    simp only [e6,ev,Bool.false_eq_true,if_false,if_true] at this
    exact Option.some.inj this)
   clear HB hv h6
   obtain ⟨W2,hW⟩:∃ W2,W2=w1.drew:=⟨_,rfl⟩
   have X2:Hid (Ext w1 W2):=hI (by rw [hW];exact Ext.drew w1)
   replace H:=hI (H.o.ext X2.o)
   replace S:=hI (S.o.ext X2.o)
   replace MB:=hI (MB.o.ext X2.o)
   have g11:=H.o.g 11 _ rfl
   have gm4:=fun d os=>Ext.cell (Ext.reg W2 d os) (MB.o.box.c 4 _ rfl)
   refine att [0,1,2,3,4,5,6] [] ?_
   rw [← hW]
   clear hW
   repeat ((first|refine aqq fun K hK=>?_|refine akk fun K hK=>?_);go_big_quiet_op;refine hK _ ?_;clear hK K)
   refine ra_nil ?_
   refine rt_nil ?_
   have M2:=hI (M1.o.tr (Fm.ext M1.o.cl X2.o) (nd0 HK.o))
   clear X2 M1 g11 gm4
   have H9:=hI H.o
   rw [HSS.o] at H9
   go_wp2
   refine bodyPost_end (v:=.tuple #[]) (by simp [results,Tryz.results160,go_sem]) rfl ?_
   first | exact ⟨rfl,o,A,H9.o,M2.o⟩ | exact ⟨rfl,o,⟨A,H9.o⟩,M2.o⟩
 ·have e6:(k1==6)=false:=by simpa using h6
  have HB1:=HB.o
  rw [if_neg (by rw [e6];simp)] at HB1
  replace HB:=hI HB1
  clear HB1 h6
  by_cases h7:k1=7
  ·have e7:(k1==7)=true:=by simpa using h7
   have HX:Hid (foldO (datB k2) L s=some s'):=hI (by
    have:=HB.o
    simp only [e7,if_true] at this
    exact this)
   clear HB h7
   have d8:=MB.o.box.c 8 _ rfl
   have hlen:L.length≤9223372036854775807:=Nat.le_trans S.o.sl.le S.o.sl.max
   go_wp2
   go_loopw [25] (fun i wr=>∃ (j:Nat) (oj:Ow) (Aj:AdD) (sj:NdD),j≤L.length∧i=.int .i64 (j:Int)∧NodeP wr oj k x wb jd Aj sj∧BoxC wr oj 0 mb (msL ⟨k1,k2,k3,k4,k5,k6,k7,k8,k9,k10,k11,k12⟩ p L.length cap)∧SlC 7 wr oj p L.length cap (L.map enL)∧foldO (datB k2) (L.drop j) sj=some s'∧Fm (ndC k) o oj w wr) (fun i _=>L.length-(intOf i).toNat)
   case atStart=>exact ⟨0,o,A,s,by omega,rfl,H.o,MB.o,S.o,HX.o,M1.o⟩
   case round=>
    obtain ⟨j,oj,Aj,sj,hj,rfl,nj,xj,slj,fj,mj⟩:=hrel
    have NJ:=hI nj
    have XJ:=hI xj
    have SJ:=hI slj
    have FJ:=hI fj
    have MJ:=hI mj
    clear nj xj slj fj mj H MB S M1 HX d8
    by_cases hlt:j<L.length
    ·obtain ⟨b,oo,e,hp,hx,c0,c1,c2',c3,c4,c5,c6⟩:=en_at SJ.o.sl j hlt
     have hdrop:L.drop j=e::L.drop (j+1):=by
      rw [List.drop_eq_getElem_cons hlt]
      congr 1
      rw [List.getElem?_eq_getElem hlt] at hx
      exact Option.some.inj hx
     obtain ⟨sk,hsk,hrk⟩:=foldO_cons (by rw [← hdrop];exact FJ.o)
     have HSK:=hI hsk
     have HRK:=hI hrk
     clear hsk hrk hdrop hx FJ
     subst hp
     obtain ⟨f1,f2,f3,f4,f5,f6,dat⟩:=e
     simp only at c0 c1 c2' c3 c4 c5 c6
     go_upto_region 9 with fail
     change Code.wp _ _ _ _ (wr.alloc (.cells (enA ⟨f1,f2,f3,f4,f5,f6,dat⟩) 71))
     have EB:=hI (BoxC.loose MJ.o.cl (enA ⟨f1,f2,f3,f4,f5,f6,dat⟩) (enL ⟨f1,f2,f3,f4,f5,f6,dat⟩) 71 rfl)
     have A1:=hI (Ext.alloc wr (.cells (enA ⟨f1,f2,f3,f4,f5,f6,dat⟩) 71))
     replace NJ:=hI (NJ.o.ext A1.o)
     replace XJ:=hI (XJ.o.ext A1.o)
     replace SJ:=hI (SJ.o.ext A1.o)
     replace MJ:=hI (MJ.o.tr (Fm.ext MJ.o.cl A1.o) (nd0 HK.o))
     clear A1 c0 c1 c2' c3 c4 c5 c6
     generalize wr.alloc (.cells (enA ⟨f1,f2,f3,f4,f5,f6,dat⟩) 71)=w5 at *
     generalize wr.heap.size=eb at *
     have d0:=EB.o.box.c 0 _ rfl
     have d1:=EB.o.box.c 1 _ rfl
     have d2:=EB.o.box.c 2 _ rfl
     have d3:=EB.o.box.c 3 _ rfl
     have d4:=EB.o.box.c 4 _ rfl
     have d5:=EB.o.box.c 5 _ rfl
     have d6:=EB.o.box.c 6 _ rfl
     try simp only at d0 d1 d2 d3 d4 d5 d6
     have m1:=XJ.o.box.c 1 _ rfl
     by_cases hfr:f1=k2
     ·have ef:(f1==k2)=true:=by simpa using hfr
      have HADD:Hid (addO sj ⟨f1,f2,f3,f4,f5,f6,dat⟩=some sk):=hI (by
       have:=HSK.o
       unfold datB at this
       rw [if_pos ef] at this
       exact this)
      clear hfr HSK
      go_wp2_with fail
      refine (nadd_any (e:=⟨f1,f2,f3,f4,f5,f6,dat⟩) MJ.o.cl HK.o NJ.o HADD.o).mono ?_
      rintro e w6 ⟨rfl,o6,A6,n6,m6⟩
      have N6:=hI n6
      have X6:=hI (XJ.o.fr m6 (by decide) (nd0 HK.o))
      have S6:=hI (SJ.o.fr m6 (nd0 HK.o))
      have M6:=hI (MJ.o.tr m6 (nd0 HK.o))
      clear n6 m6
      go_wp2
      go_roundw
      case rel=>exact ⟨j+1,o6,A6,sk,by omega,by go_num,N6.o,X6.o,S6.o,HRK.o,M6.o⟩
      case measure=>simp [intOf];omega
     ·have ef:(f1==k2)=false:=by simpa using hfr
      have HSK2:Hid (sj=sk):=hI (by
       have:=HSK.o
       unfold datB at this
       rw [if_neg (by rw [ef];simp)] at this
       exact Option.some.inj this)
      clear hfr HSK
      go_wp2
      go_roundw
      case rel=>exact ⟨j+1,oj,Aj,sj,by omega,by go_num,NJ.o,XJ.o,SJ.o,by rw [HSK2.o];exact HRK.o,MJ.o⟩
      case measure=>simp [intOf];omega
    ·have HSK2:Hid (sj=s'):=hI (by
      have:=FJ.o
      rw [List.drop_of_length_le (by omega)] at this
      exact Option.some.inj this)
     go_wp2
     refine bodyPost_end (v:=.tuple #[]) (by simp [results,Tryz.results160,go_sem]) rfl ?_
     have N9:=hI NJ.o
     rw [HSK2.o] at N9
     first | exact ⟨rfl,oj,Aj,N9.o,MJ.o⟩ | exact ⟨rfl,oj,⟨Aj,N9.o⟩,MJ.o⟩
  ·have e7:(k1==7)=false:=by simpa using h7
   have HB1:=HB.o
   rw [if_neg (by rw [e7];simp)] at HB1
   replace HB:=hI HB1
   clear HB1 h7
   by_cases h10:k1=10
   ·have e10:(k1==10)=true:=by simpa using h10
    have HSAY:Hid (sayO s (stateM s ⟨k1,k2,k3,k4,k5,k6,k7,k8,k9,k10,k11,k12⟩) s.L=some s'):=hI (by
     have:=HB.o
     simp only [e10,if_true] at this
     exact this)
    clear HB h10
    go_upto_region 13 with fail
    obtain ⟨W9,hW⟩:∃ W9,W9=w1.drew:=⟨_,rfl⟩
    have X9:Hid (Ext w1 W9):=hI (by rw [hW];exact Ext.drew w1)
    replace H:=hI (H.o.ext X9.o)
    replace MB:=hI (MB.o.ext X9.o)
    have g9:=H.o.g 9 _ rfl
    have g11:∀ d os,(grow (redrawn W9 d) os).cell? ⟨x,11,none⟩=some (.int .i64 s.ls):=H.o.g 11 _ rfl
    have g12:∀ d os,(grow (redrawn W9 d) os).cell? ⟨x,12,none⟩=some (.int .i64 s.mb):=H.o.g 12 _ rfl
    have g10:∀ d os,(grow (redrawn W9 d) os).cell? ⟨x,10,none⟩=some (.int .i64 s.cm):=H.o.g 10 _ rfl
    have gm1:=fun d os=>Ext.cell (Ext.reg W9 d os) (MB.o.box.c 1 _ rfl)
    have gm10:=fun d os=>Ext.cell (Ext.reg W9 d os) (MB.o.box.c 10 _ rfl)
    refine att [0,1,2,3,4,5,6,7,8,9,10,11,12,13,14,15,16,18,19,20,21,17,22] [23] ?_
    rw [← hW]
    clear hW
    repeat ((first|refine aqq fun K hK=>?_|refine akk fun K hK=>?_);go_big_quiet_op;refine hK _ ?_;clear hK K)
    refine acc fun K hK=>?_
    go_simp
    refine (lfrom0_any (L:=s.L) H.o.q.lg).mono ?_
    rintro e w10 ⟨p10,c10,rfl,o10,x10⟩
    have S10:=hI (SlC.fresh o10 (M1.o.cl.ext X9.o) (Nat.le_refl _))
    have X10:=hI (X9.o.tr x10)
    have H10:=hI (H.o.ext x10)
    refine hK _ _ x10 ?_
    clear hK K o10 x10
    repeat ((first|refine aqq fun K hK=>?_|refine akk fun K hK=>?_);go_big_quiet_op;refine hK _ ?_;clear hK K)
    refine acc fun K hK=>?_
    go_simp
    refine hK _ _ (Ext.rfl' _) ?_;clear hK K
    refine ra_nil ?_
    refine too fun K hK=>?_
    go_simp
    refine (nsayO_any (m:=stateM s ⟨k1,k2,k3,k4,k5,k6,k7,k8,k9,k10,k11,k12⟩) (M1.o.cl.ext X10.o) HK.o H10.o S10.o HSAY.o).mono ?_
    rintro e w12 ⟨rfl,o12,A12,n12,f12⟩
    have N9:=hI n12
    have F9:=hI ((M1.o.tr (Fm.ext M1.o.cl X10.o) (nd0 HK.o)).tr f12 (nd0 HK.o))
    clear n12 f12
    refine hK _ _ ?_
    clear hK K
    refine rt_nil ?_
    go_wp2
    refine bodyPost_end (v:=.tuple #[]) (by simp [results,Tryz.results160,go_sem]) rfl ?_
    first | exact ⟨rfl,o12,A12,N9.o,F9.o⟩ | exact ⟨rfl,o12,⟨A12,N9.o⟩,F9.o⟩
   ·have e10:(k1==10)=false:=by simpa using h10
    have HB1:=HB.o
    rw [if_neg (by rw [e10];simp)] at HB1
    replace HB:=hI HB1
    clear HB1 h10
    by_cases h8:k1=8
    ·have e8:(k1==8)=true:=by simpa using h8
     have HX:Hid ((if decide (1≤k2∧k2≤7)&&decide (s.ak.length<64) then if (k5==s.ls)&&hasT s.mb k2 then match s.q with | none=>none | some q=>if decide (q.la≤1000000) then some (askdN s ⟨k1,k2,k3,k4,k5,k6,k7,k8,k9,k10,k11,k12⟩ q) else none else some s else none)=some s'):=hI (by
      have:=HB.o
      simp only [e8,if_true] at this
      exact this)
     clear HB h8
     go_upto_region 15 with fail
     have CC:Hid ((1≤k2∧k2≤7)∧s.ak.length<64):=hI (by
      have:=HX.o
      split at this
      ·rename_i h1
       simp only [Bool.and_eq_true,decide_eq_true_eq] at h1
       exact h1
      ·cases this)
     have HX1:=HX.o
     rw [if_pos (by simp only [Bool.and_eq_true,decide_eq_true_eq];exact CC.o)] at HX1
     replace HX:=hI HX1
     clear HX1
     by_cases hv:k5=s.ls
     ·have ev:(k5==s.ls)=true:=by simpa using hv
      clear hv
      cases hh:hasT s.mb k2
      ·have HG:Hid ((k5==s.ls&&hasT s.mb k2)=false):=hI (by rw [hh];simp)
       obtain ⟨W2,hW⟩:∃ W2,W2=w1.drew:=⟨_,rfl⟩
       have X2:Hid (Ext w1 W2):=hI (by rw [hW];exact Ext.drew w1)
       replace H:=hI (H.o.ext X2.o)
       replace MB:=hI (MB.o.ext X2.o)
       have g11:=H.o.g 11 _ rfl
       have g12:=H.o.g 12 _ rfl
       have g32:∀ d os,(grow (redrawn W2 d) os).cell? ⟨x,32,none⟩=some (.slice A.ap s.ak.length A.ac):=H.o.g 32 _ rfl
       have gm1:=fun d os=>Ext.cell (Ext.reg W2 d os) (MB.o.box.c 1 _ rfl)
       have gm4:=fun d os=>Ext.cell (Ext.reg W2 d os) (MB.o.box.c 4 _ rfl)
       refine att [0,1,2,3,4,5,6,7,8,9,10,11,12,13,14,15,16,17,18,19,20,21,22,23] [] ?_
       rw [← hW]
       clear hW
       repeat ((first|refine aqq fun K hK=>?_|refine akk fun K hK=>?_);go_big_quiet_op;refine hK _ ?_;clear hK K)
       refine acc fun K hK=>?_
       go_simp
       refine (thas_any s.mb k2 H.o.ok.mb CC.o.1 _).mono ?_
       rw [hh]
       rintro e w3 ⟨rfl,rfl⟩
       refine hK _ _ (Ext.rfl' _) ?_;clear hK K
       repeat ((first|refine aqq fun K hK=>?_|refine akk fun K hK=>?_);go_big_quiet_op;refine hK _ ?_;clear hK K)
       refine ra_nil ?_
       refine rt_nil ?_
       have M2:=hI (M1.o.tr (Fm.ext M1.o.cl X2.o) (nd0 HK.o))
       clear X2 M1 g11 g12 g32 gm1 gm4
       have hss:s=s':=by
        have:=HX.o
        rw [HG.o] at this
        exact Option.some.inj this
       have H9:=hI H.o
       rw [hss] at H9
       clear hss
       go_wp2
       refine bodyPost_end (v:=.tuple #[]) (by simp [results,Tryz.results160,go_sem]) rfl ?_
       first | exact ⟨rfl,o,A,H9.o,M2.o⟩ | exact ⟨rfl,o,⟨A,H9.o⟩,M2.o⟩
      ·have HX1:=HX.o
       rw [if_pos (by rw [hh,ev];rfl)] at HX1
       cases hq:s.q with
       | none=>rw [hq] at HX1;cases HX1
       | some q=>
       rw [hq] at HX1
       simp only at HX1
       split at HX1
       case isFalse=>cases HX1
       rename_i hla
       have HSS:Hid (askdN s ⟨k1,k2,k3,k4,k5,k6,k7,k8,k9,k10,k11,k12⟩ q=s'):=hI (Option.some.inj HX1)
       have HLA:=hI (of_decide_eq_true hla)
       have HQ:=hI hq
       clear HX HX1 hla hq
       have h64:decide (s.ak.length<64)=true:=decide_eq_true CC.o.2
       have h64i:decide ((s.ak.length:Int)<64)=true:=decide_eq_true (by have:=CC.o.2;omega)
       obtain ⟨qg,hqg,hQV⟩:∃ qg,A.q=some qg∧QuV w1 o (k+14) qg q:=by
        have:=H.o.q.qu
        rw [HQ.o] at this
        exact this
       have QV:=hI (hQV)
       have HQG:=hI hqg
       have hw104:wrap64 (q.la+1)=q.la+1:=by have h1:=HLA.o;have h2:=hQV.ok.la;unfold wrap64;omega
       clear hQV hqg
       obtain ⟨W2,hW⟩:∃ W2,W2=w1.drew:=⟨_,rfl⟩
       have X2:Hid (Ext w1 W2):=hI (by rw [hW];exact Ext.drew w1)
       replace H:=hI (H.o.ext X2.o)
       replace MB:=hI (MB.o.ext X2.o)
       replace QV:=hI (QV.o.ext X2.o)
       have g11:=H.o.g 11 _ rfl
       have g12:=H.o.g 12 _ rfl
       have g32:∀ d os,(grow (redrawn W2 d) os).cell? ⟨x,32,none⟩=some (.slice A.ap s.ak.length A.ac):=H.o.g 32 _ rfl
       have gm1:=fun d os=>Ext.cell (Ext.reg W2 d os) (MB.o.box.c 1 _ rfl)
       have gm4:=fun d os=>Ext.cell (Ext.reg W2 d os) (MB.o.box.c 4 _ rfl)
       refine att [0,1,2,3,4,5,6,7,8,9,10,11,12,13,14,15,16,17,18,19,20,21,22,23] [] ?_
       rw [← hW]
       clear hW
       repeat ((first|refine aqq fun K hK=>?_|refine akk fun K hK=>?_);go_big_quiet_op;refine hK _ ?_;clear hK K)
       refine acc fun K hK=>?_
       go_simp
       refine (thas_any s.mb k2 H.o.ok.mb CC.o.1 _).mono ?_
       rw [hh]
       rintro e w3 ⟨rfl,rfl⟩
       refine hK _ _ (Ext.rfl' _) ?_;clear hK K
       repeat ((first|refine aqq fun K hK=>?_|refine akk fun K hK=>?_);go_big_quiet_op;refine hK _ ?_;clear hK K)
       refine ra_nil ?_
       refine rt_nil ?_
       have M2:=hI (M1.o.tr (Fm.ext M1.o.cl X2.o) (nd0 HK.o))
       clear X2 M1 g11 g12 g32 gm1 gm4
       go_upto_region 16 with fail
       obtain ⟨W5,hW⟩:∃ W5,W5=W2.drew:=⟨_,rfl⟩
       have X5:Hid (Ext W2 W5):=hI (by rw [hW];exact Ext.drew W2)
       replace H:=hI (H.o.ext X5.o)
       replace MB:=hI (MB.o.ext X5.o)
       replace QV:=hI (QV.o.ext X5.o)
       have r32:=fun (qq:Wrap (CL [(⟨x,32,none⟩,.slice A.ap s.ak.length A.ac),(⟨mb,1,none⟩,.int .i64 k2),(⟨mb,10,none⟩,.int .i64 k10),(⟨x,21,none⟩,ptrN qg)]))=>(qq.h.1:qq.w.cell? ⟨x,32,none⟩=some (.slice A.ap s.ak.length A.ac))
       have rm1:=fun (qq:Wrap (CL [(⟨x,32,none⟩,.slice A.ap s.ak.length A.ac),(⟨mb,1,none⟩,.int .i64 k2),(⟨mb,10,none⟩,.int .i64 k10),(⟨x,21,none⟩,ptrN qg)]))=>(qq.h.2.1:qq.w.cell? ⟨mb,1,none⟩=some (.int .i64 k2))
       have rm10:=fun (qq:Wrap (CL [(⟨x,32,none⟩,.slice A.ap s.ak.length A.ac),(⟨mb,1,none⟩,.int .i64 k2),(⟨mb,10,none⟩,.int .i64 k10),(⟨x,21,none⟩,ptrN qg)]))=>(qq.h.2.2.1:qq.w.cell? ⟨mb,10,none⟩=some (.int .i64 k10))
       have r21:=fun (qq:Wrap (CL [(⟨x,32,none⟩,.slice A.ap s.ak.length A.ac),(⟨mb,1,none⟩,.int .i64 k2),(⟨mb,10,none⟩,.int .i64 k10),(⟨x,21,none⟩,ptrN qg)]))=>(qq.h.2.2.2.1:qq.w.cell? ⟨x,21,none⟩=some (ptrN qg))
       refine htt [0,1,2,3,4,5,6,7,8,9,10,11,12,13,14,15,16,17,18,19] 20 (CL [(⟨x,32,none⟩,.slice A.ap s.ak.length A.ac),(⟨mb,1,none⟩,.int .i64 k2),(⟨mb,10,none⟩,.int .i64 k10),(⟨x,21,none⟩,ptrN qg)]) (by rw [← hW];exact ⟨H.o.c 32 _ rfl,MB.o.box.c 1 _ rfl,MB.o.box.c 10 _ rfl,(by have:=H.o.c 21 _ rfl;rw [HQG.o] at this;exact this),trivial⟩) (fun _=>?_)
       rw [← hW]
       clear hW
       repeat ((first|refine hqq fun K hK=>?_;go_big_quiet_op|refine hss fun K hK=>?_;go_big_quiet_op|refine hkk fun K hK=>?_;go_big_quiet_op);refine hK _ ?_;clear hK K)
       have M5:=hI (M2.o.tr (Fm.ext M2.o.cl X5.o) (nd0 HK.o))
       clear M2 X5
       refine hcc fun K hK=>?_
       go_simp
       refine (qlast_any QV.o).mono ?_
       rintro e w6 ⟨rfl,rfl⟩
       refine hK (CL [(⟨x,32,none⟩,.slice A.ap s.ak.length A.ac),(⟨mb,1,none⟩,.int .i64 k2),(⟨mb,10,none⟩,.int .i64 k10),(⟨x,21,none⟩,ptrN qg)]) _ _ (fun _ h=>h) ⟨H.o.c 32 _ rfl,MB.o.box.c 1 _ rfl,MB.o.box.c 10 _ rfl,by have:=H.o.c 21 _ rfl;rw [HQG.o] at this;exact this,trivial⟩ (fun _=>?_)
       clear hK K
       repeat ((first|refine hqq fun K hK=>?_;go_big_quiet_op|refine hss fun K hK=>?_;go_big_quiet_op|refine hkk fun K hK=>?_;go_big_quiet_op);refine hK _ ?_;clear hK K)
       refine hcc fun K hK=>?_
       go_simp
       refine hK (CL [(⟨x,32,none⟩,.slice A.ap s.ak.length A.ac),(⟨mb,1,none⟩,.int .i64 k2),(⟨mb,10,none⟩,.int .i64 k10),(⟨x,21,none⟩,ptrN qg)]) _ _ (fun _ h=>h) ⟨H.o.c 32 _ rfl,MB.o.box.c 1 _ rfl,MB.o.box.c 10 _ rfl,by have:=H.o.c 21 _ rfl;rw [HQG.o] at this;exact this,trivial⟩ (fun _=>?_)
       clear hK K
       repeat ((first|refine hqq fun K hK=>?_;go_big_quiet_op|refine hss fun K hK=>?_;go_big_quiet_op|refine hkk fun K hK=>?_;go_big_quiet_op);refine hK _ ?_;clear hK K)
       refine hcc fun K hK=>?_
       go_simp
       have A13:=hI (Ext.alloc W5 (.cells #[.int .i64 k2,.int .i64 k10,.int .i64 (q.la+1)] 200))
       replace H:=hI (H.o.ext A13.o)
       replace MB:=hI (MB.o.ext A13.o)
       replace M5:=hI (M5.o.tr (Fm.ext M5.o.cl A13.o) (nd0 HK.o))
       refine hK (CL [(⟨x,32,none⟩,.slice A.ap s.ak.length A.ac),(⟨mb,1,none⟩,.int .i64 k2),(⟨mb,10,none⟩,.int .i64 k10),(⟨x,21,none⟩,ptrN qg)]) _ _ (fun _ h=>h) ⟨H.o.c 32 _ rfl,MB.o.box.c 1 _ rfl,MB.o.box.c 10 _ rfl,by have:=H.o.c 21 _ rfl;rw [HQG.o] at this;exact this,trivial⟩ (fun _=>?_)
       clear hK K
       repeat ((first|refine hqq fun K hK=>?_;go_big_quiet_op|refine hss fun K hK=>?_;go_big_quiet_op|refine hkk fun K hK=>?_;go_big_quiet_op);refine hK _ ?_;clear hK K)
       have hl6:s.ak.length≤1000000:=by have:=CC.o.2;omega
       refine hcc fun K hK=>?_
       refine oper_appC (by rfl) _ _ _ (by rfl) 200 3 24 _ Tryz.underlying97 info_qn (by rfl) (by omega) M5.o.cl H.o.q.aks (by rfl) W5.heap.size 1 (qnL ⟨k2,k10,q.la+1⟩) (by rfl) (by rfl) (fun j u hu=>news_at (w:=W5) rfl j u hu) (by simp [Value.oneCell']) hl6 (by omega) (by have:=HK.o;omega) (fun d=>d=k+15) rfl ?_
       intro p14 c14 o14 w14 r14 f14
       have MB14:=hI (MB.o.fr f14 (by decide) (by have:=HK.o;omega))
       have B14:=hI (H.o.box.fr f14 (by have:=HK.o;omega) (by omega))
       have b32:=B14.o.box.c 32 _ rfl
       have f32:=B14.o.box.f 32
       have e15:(s.ak++[(⟨k2,k10,q.la+1⟩:QnD)]).length=s.ak.length+1:=by simp
       obtain ⟨N15,F15⟩:=NodeP.mod (A':={ A with ap:=p14,ac:=c14 }) (s':={ s with ak:=s.ak++[⟨k2,k10,q.la+1⟩] }) HK.o H.o f14 (fun d hd=>by unfold ndC;omega) (H.o.q.set_aks HK.o (by rw [e15];have:=r14;simpa using this) f14 (fun d hd=>.inl hd)) 32 (.slice p14 (s.ak.length+1) c14) (by rw [← e15];rfl) { H.o.ok with ak:=(by rw [e15];have:=CC.o.2;omega) }
       have H15:=hI N15
       have M15:=hI (M5.o.tr F15 (nd0 HK.o))
       refine hK (CL [(⟨x,32,none⟩,.slice A.ap s.ak.length A.ac),(⟨mb,1,none⟩,.int .i64 k2),(⟨mb,10,none⟩,.int .i64 k10),(⟨x,21,none⟩,ptrN qg)]) _ _ (fun _ h=>h) ⟨B14.o.box.c 32 _ rfl,MB14.o.box.c 1 _ rfl,MB14.o.box.c 10 _ rfl,by have:=B14.o.box.c 21 _ rfl;rw [HQG.o] at this;exact this,trivial⟩ (fun _=>?_)
       clear hK K
       go_simp
       repeat ((first|refine hqq fun K hK=>?_;go_big_quiet_op|refine hss fun K hK=>?_;go_big_quiet_op|refine hkk fun K hK=>?_;go_big_quiet_op);refine hK _ ?_;clear hK K)
       refine hll fun K hK=>?_
       go_simp
       refine hK _ _ ?_
       clear hK K b32 f32 e15 N15 F15 r14 f14 H MB M5 MB14 B14 r32 rm1 rm10 r21 A13
       generalize w14.setCell ⟨x,32,none⟩ (.slice p14 (s.ak.length+1) c14)=w15 at *
       have e16:({ s with ak:=s.ak++[⟨k2,k10,q.la+1⟩] }:NdD)=s':=HSS.o
       rw [e16] at H15
       clear e16
       go_wp2
       refine bodyPost_end (v:=.tuple #[]) (by simp [results,Tryz.results160,go_sem]) rfl ?_
       first | exact ⟨rfl,o14,_,H15.o,M15.o⟩ | exact ⟨rfl,o14,⟨_,H15.o⟩,M15.o⟩
     ·have ev:(k5==s.ls)=false:=by simpa using hv
      have HG:Hid ((k5==s.ls&&hasT s.mb k2)=false):=hI (by rw [ev];rfl)
      clear hv
      obtain ⟨W2,hW⟩:∃ W2,W2=w1.drew:=⟨_,rfl⟩
      have X2:Hid (Ext w1 W2):=hI (by rw [hW];exact Ext.drew w1)
      replace H:=hI (H.o.ext X2.o)
      replace MB:=hI (MB.o.ext X2.o)
      have g11:=H.o.g 11 _ rfl
      have g12:=H.o.g 12 _ rfl
      have g32:∀ d os,(grow (redrawn W2 d) os).cell? ⟨x,32,none⟩=some (.slice A.ap s.ak.length A.ac):=H.o.g 32 _ rfl
      have gm1:=fun d os=>Ext.cell (Ext.reg W2 d os) (MB.o.box.c 1 _ rfl)
      have gm4:=fun d os=>Ext.cell (Ext.reg W2 d os) (MB.o.box.c 4 _ rfl)
      refine att [0,1,2,3,4,5,6,7,8,9,10,11,12,13,14,15,16,17,18,19,20,21,22,23] [] ?_
      rw [← hW]
      clear hW
      repeat ((first|refine aqq fun K hK=>?_|refine akk fun K hK=>?_);go_big_quiet_op;refine hK _ ?_;clear hK K)
      refine ra_nil ?_
      refine rt_nil ?_
      have M2:=hI (M1.o.tr (Fm.ext M1.o.cl X2.o) (nd0 HK.o))
      clear X2 M1 g11 g12 g32 gm1 gm4
      have hss:s=s':=by
       have:=HX.o
       rw [HG.o] at this
       exact Option.some.inj this
      have H9:=hI H.o
      rw [hss] at H9
      clear hss
      go_wp2
      refine bodyPost_end (v:=.tuple #[]) (by simp [results,Tryz.results160,go_sem]) rfl ?_
      first | exact ⟨rfl,o,A,H9.o,M2.o⟩ | exact ⟨rfl,o,⟨A,H9.o⟩,M2.o⟩
    ·have e8:(k1==8)=false:=by simpa using h8
     have hss:s=s':=by
      have:=HB.o
      simp only [e8,Bool.false_eq_true,if_false] at this
      exact Option.some.inj this
     have H9:=hI H.o
     rw [hss] at H9
     clear hss h8 HB
     go_wp2
     refine bodyPost_end (v:=.tuple #[]) (by simp [results,Tryz.results160,go_sem]) rfl ?_
     first | exact ⟨rfl,o,A,H9.o,M1.o⟩ | exact ⟨rfl,o,⟨A,H9.o⟩,M1.o⟩
end
section
open Go Go.Sort Go.RowKit
def denyO (s:NdD) (m:MsD):Option NdD:=
 match s.v with
 | none=>some s
 | some _=>if decide (s.dv<m.vw) then (if decide (m.vw≤1000000000) then some { s with dn:=mxI s.dn m.vw,ag:=true } else none) else some s
def voteB (s:NdD) (v:Int × List VoK) (m:MsD) (L:List EnD):Bool:=
 (decide (1≤m.fr∧m.fr≤s.n)&&!(hasT (teamV v.2) m.fr))&&((decide (0≤m.ls∧m.ls<v.1)&&(addsL [] L).isSome)&&(decide (0≤m.cm∧m.cm≤(L.length:Int))&&(decide (L.length≤60)&&decide (v.2.length≤90))))
def voteO (s:NdD) (m:MsD) (L:List EnD):Option NdD:=
 match s.v with
 | none=>some s
 | some v=>if (m.vw==v.1)&&(m.vw==s.dv) then (if voteB s v m L then some { s with v:=some (v.1,v.2++[⟨m.fr,m.ls,L,m.cm⟩]) } else none) else some s
def freshO (s:NdD) (m:MsD):Option NdD:=
 if inV s then
  if m.vw==s.ls then
   if m.fr==decT s.ls s.n then getO s m.nm m.cm else some s
  else some s
 else some s
def hearsO (s:NdD) (m:MsD) (L:List EnD):Option NdD:=
 if m.kd==1 then propdO s m
 else if m.kd==2 then denyO s m
 else if m.kd==3 then voteO s m L
 else if m.kd==4 then instdO s m L
 else if m.kd==5 then appO s m L
 else if m.kd==9 then freshO s m
 else if inV s&&s.mi then servO s m L
 else some s
theorem nget_any' {w:World} {o:Ow} {k x wb jd:Nat} {A:AdD} {s s':NdD} (hcl:Cl w o) (hk:32≤k) (h:NodeP w o k x wb jd A s) {num cm:Int} (hs:getO s num cm=some s') :
  Calls Tryz.prog 159 #[ptrN A.f,.int .i64 num,.int .i64 cm] w fun e w'=>SomeB e∧NodeP w' o k x wb jd A s'∧Fm (ndC k) o o w w':=
 (ngetR_any hcl hk h hs (RowC.nil _ _ _ _ _)).mono (fun e w' ⟨h1,h2,_,h3⟩=>⟨h1,h2,h3⟩)
variable {w w4:World} {o o4:Ow} {k x wb jd:Nat} {A A':AdD} {s s':NdD}
theorem nhears_any (hcl:Cl w o) (hk:32≤k) (h:NodeP w o k x wb jd A s) {m:MsD} {p:Option Addr} {cap:Nat} {L:List EnD} (hsl:SlC 7 w o p L.length cap (L.map enL)) (hb:hearsO s m L=some s') :
  Calls Tryz.prog 116 #[ptrN x,msV m p L.length cap] w fun e w'=>e=.returned (.tuple #[])∧∃ o' A',NodeP w' o' k x wb jd A' s'∧Fm (ndC k) o o' w w':=by
 unfold hearsO at hb
 have HB:=hI hb
 clear hb
 obtain ⟨k1,k2,k3,k4,k5,k6,k7,k8,k9,k10,k11,k12⟩:=m
 simp only at HB
 have A0:=hI (Ext.alloc w (.cells (msA ⟨k1,k2,k3,k4,k5,k6,k7,k8,k9,k10,k11,k12⟩ p L.length cap) 76))
 have MB:=hI (BoxC.loose hcl (msA ⟨k1,k2,k3,k4,k5,k6,k7,k8,k9,k10,k11,k12⟩ p L.length cap) (msL ⟨k1,k2,k3,k4,k5,k6,k7,k8,k9,k10,k11,k12⟩ p L.length cap) 76 rfl)
 have H:=hI (h.ext A0.o)
 have S:=hI (hsl.ext A0.o)
 have M1:=hI (Fm.ext (C:=ndC k) hcl A0.o)
 have HK:=hI hk
 clear hcl h hsl hk
 go_enter Tryz.func116,Tryz.ntmps116
 go_upto_region 1 with fail
 change Code.wp _ _ _ _ (w.alloc (.cells (msA ⟨k1,k2,k3,k4,k5,k6,k7,k8,k9,k10,k11,k12⟩ p L.length cap) 76))
 clear A0
 generalize w.alloc (.cells (msA ⟨k1,k2,k3,k4,k5,k6,k7,k8,k9,k10,k11,k12⟩ p L.length cap) 76)=w1 at *
 generalize w.heap.size=mb at *
 have d0:=MB.o.box.c 0 _ rfl
 go_upto_region 4 with fail
 clear d0
 by_cases h1:k1=1
 ·have e1:(k1==1)=true:=by simpa using h1
  have HB1:=HB.o
  rw [if_pos e1] at HB1
  have HX:=hI HB1
  clear HB HB1 h1
  have d0:=MB.o.box.c 0 _ rfl
  have d1:=MB.o.box.c 1 _ rfl
  have d2:=MB.o.box.c 2 _ rfl
  have d3:=MB.o.box.c 3 _ rfl
  have d4:=MB.o.box.c 4 _ rfl
  have d5:=MB.o.box.c 5 _ rfl
  have d6:=MB.o.box.c 6 _ rfl
  have d7:=MB.o.box.c 7 _ rfl
  have d8:=MB.o.box.c 8 _ rfl
  have d9:=MB.o.box.c 9 _ rfl
  have d10:=MB.o.box.c 10 _ rfl
  have d11:=MB.o.box.c 11 _ rfl
  have d12:=MB.o.box.c 12 _ rfl
  go_wp2_with fail
  refine (npropd_any M1.o.cl HK.o H.o S.o HX.o).mono ?_
  rintro e w9 ⟨rfl,o9,A9,n9,f9⟩
  have N9:=hI n9
  have F9:=hI (M1.o.tr f9 (nd0 HK.o))
  clear n9 f9
  go_wp2
  refine bodyPost_end (v:=.tuple #[]) (by simp [results,Tryz.results116,go_sem]) rfl ?_
  first | exact ⟨rfl,o9,A9,N9.o,F9.o⟩ | exact ⟨rfl,o9,⟨A9,N9.o⟩,F9.o⟩
 ·have e1:(k1==1)=false:=by simpa using h1
  have HB1:=HB.o
  rw [if_neg (by rw [e1];simp)] at HB1
  replace HB:=hI HB1
  clear HB1 h1
  by_cases h2:k1=2
  ·have e2:(k1==2)=true:=by simpa using h2
   have HB1:=HB.o
   rw [if_pos e2] at HB1
   have HX:=hI HB1
   clear HB HB1 h2
   go_upto_region 7 with fail
   cases hv:s.v with
   | none=>
    have HV0:Hid (A.v=none):=hI (by
     have:=H.o.q.vt
     rw [hv] at this
     exact this)
    have HX1:=HX.o
    unfold denyO at HX1
    rw [hv] at HX1
    simp only at HX1
    replace HX:=hI HX1
    clear HX1 hv
    obtain ⟨W2,hW⟩:∃ W2,W2=w1.drew:=⟨_,rfl⟩
    have X2:Hid (Ext w1 W2):=hI (by rw [hW];exact Ext.drew w1)
    replace H:=hI (H.o.ext X2.o)
    replace S:=hI (S.o.ext X2.o)
    replace MB:=hI (MB.o.ext X2.o)
    have g17:∀ d os,(grow (redrawn W2 d) os).cell? ⟨x,17,none⟩=some (.pointer none):=by
     have:=H.o.g 17 _ rfl
     rw [HV0.o] at this
     exact this
    have g2:=H.o.g 2 _ rfl
    have gm4:=fun d os=>Ext.cell (Ext.reg W2 d os) (MB.o.box.c 4 _ rfl)
    refine att [0,1,2,3,4,5,6,7,8,9,10,11,12,13,14] [] ?_
    rw [← hW]
    clear hW
    repeat ((first|refine aqq fun K hK=>?_|refine akk fun K hK=>?_);go_big_quiet_op;refine hK _ ?_;clear hK K)
    refine ra_nil ?_
    refine rt_nil ?_
    replace M1:=hI (M1.o.tr (Fm.ext M1.o.cl X2.o) (nd0 HK.o))
    clear X2 g17 g2 gm4
    have HSS:Hid (s=s'):=hI (by
     exact Option.some.inj HX.o)
    have H9:=hI H.o
    rw [HSS.o] at H9
    go_wp2
    refine bodyPost_end (v:=.tuple #[]) (by simp [results,Tryz.results116,go_sem]) rfl ?_
    first | exact ⟨rfl,o,A,H9.o,M1.o⟩ | exact ⟨rfl,o,⟨A,H9.o⟩,M1.o⟩
   | some v=>
    obtain ⟨vg,hvg⟩:∃ vg,A.v=some vg:=by
     have:=H.o.q.vt
     rw [hv] at this
     obtain ⟨g,hg,-⟩:=this
     exact ⟨g,hg⟩
    have HVG:=hI hvg
    have HSV:=hI hv
    have HX1:=HX.o
    unfold denyO at HX1
    rw [hv] at HX1
    simp only at HX1
    replace HX:=hI HX1
    clear HX1 hv hvg
    by_cases hlt:s.dv<k5
    ·have f1:decide (s.dv<k5)=true:=decide_eq_true hlt
     have HX1:=HX.o
     rw [if_pos f1] at HX1
     split at HX1
     case isFalse=>cases HX1
     rename_i hbd
     have HBD:=hI (And.intro hlt (of_decide_eq_true hbd))
     have HSS:=hI (Option.some.inj HX1)
     clear HX HX1 hbd hlt
     obtain ⟨W2,hW⟩:∃ W2,W2=w1.drew:=⟨_,rfl⟩
     have X2:Hid (Ext w1 W2):=hI (by rw [hW];exact Ext.drew w1)
     replace H:=hI (H.o.ext X2.o)
     replace S:=hI (S.o.ext X2.o)
     replace MB:=hI (MB.o.ext X2.o)
     have g17:∀ d os,(grow (redrawn W2 d) os).cell? ⟨x,17,none⟩=some (ptrN vg):=by
      have:=H.o.g 17 _ rfl
      rw [HVG.o] at this
      exact this
     have g2:=H.o.g 2 _ rfl
     have gm4:=fun d os=>Ext.cell (Ext.reg W2 d os) (MB.o.box.c 4 _ rfl)
     refine att [0,1,2,3,4,5,6,7,8,9,10,11,12,13,14] [] ?_
     rw [← hW]
     clear hW
     repeat ((first|refine aqq fun K hK=>?_|refine akk fun K hK=>?_);go_big_quiet_op;refine hK _ ?_;clear hK K)
     refine acc fun K hK=>?_
     go_simp
     refine (dview_any H.o.q.dk).mono ?_
     rintro e w3 ⟨rfl,rfl⟩
     refine hK _ _ (Ext.rfl' _) ?_;clear hK K
     repeat ((first|refine aqq fun K hK=>?_|refine akk fun K hK=>?_);go_big_quiet_op;refine hK _ ?_;clear hK K)
     refine ra_nil ?_
     refine rt_nil ?_
     replace M1:=hI (M1.o.tr (Fm.ext M1.o.cl X2.o) (nd0 HK.o))
     clear X2 g17 g2 gm4
     go_upto_region 8 with fail
     have c18:=H.o.c 18 _ rfl
     have c19:=H.o.c 19 _ rfl
     have f18:=H.o.box.box.f 18
     have f19:=H.o.box.box.f 19
     have d4:=MB.o.box.c 4 _ rfl
     obtain ⟨DN,hDN⟩:∃ DN,DN=mxI s.dn k5:=⟨_,rfl⟩
     have DNR:Hid (0≤DN∧DN≤1000000000):=hI (by
      have h1:=H.o.ok.dn
      have h2:=HBD.o
      have h3:=H.o.ok.dv
      rw [hDN]
      unfold mxI
      split <;> omega)
     have HDN:=hI hDN
     obtain ⟨N4,F4⟩:=NodeP.mod (C:=fun _=>False) (A':=A) (s':={ s with dn:=DN }) HK.o H.o (Fm.refl M1.o.cl) (fun d hd=>hd.elim) { H.o.q with dk:=H.o.q.dk } 18 (.int .i64 DN) rfl { H.o.ok with dn:=DNR.o }
     have H4:=hI N4
     have M4:=hI (M1.o.tr F4 (nd0 HK.o))
     obtain ⟨N5,F5⟩:=NodeP.mod (C:=fun _=>False) (A':=A) (s':={ s with dn:=DN,ag:=true }) HK.o H4.o (Fm.refl M4.o.cl) (fun d hd=>hd.elim) { H4.o.q with dk:=H4.o.q.dk } 19 (.bool true) rfl { H4.o.ok with id:=H4.o.ok.id }
     have H5:=hI (N5.ext (Ext.drew _))
     have M5:=hI ((M4.o.tr F5 (nd0 HK.o)).tr (Fm.ext F5.cl (Ext.drew _)) (nd0 HK.o))
     clear N4 F4 N5 F5
     unfold mxI at hDN
     go_region
     rw [← hDN]
     clear hDN c18 c19 f18 f19 d4 H M1 H4 M4
     generalize ((W2.setCell ⟨x,18,none⟩ (.int .i64 DN)).setCell ⟨x,19,none⟩ (.bool true)).drew=w5 at *
     generalize (if s.dn<k5 then k5 else s.dn)=mnv at *
     rw [show ({ s with dn:=DN,ag:=true }:NdD)=s' by rw [← HSS.o,HDN.o,← HSV.o]] at H5
     go_wp2
     refine bodyPost_end (v:=.tuple #[]) (by simp [results,Tryz.results116,go_sem]) rfl ?_
     first | exact ⟨rfl,o,A,H5.o,M5.o⟩ | exact ⟨rfl,o,⟨A,H5.o⟩,M5.o⟩
    ·have f1:decide (s.dv<k5)=false:=decide_eq_false hlt
     have HX1:=HX.o
     rw [if_neg (by rw [f1];simp)] at HX1
     replace HX:=hI HX1
     clear HX1 hlt
     obtain ⟨W2,hW⟩:∃ W2,W2=w1.drew:=⟨_,rfl⟩
     have X2:Hid (Ext w1 W2):=hI (by rw [hW];exact Ext.drew w1)
     replace H:=hI (H.o.ext X2.o)
     replace S:=hI (S.o.ext X2.o)
     replace MB:=hI (MB.o.ext X2.o)
     have g17:∀ d os,(grow (redrawn W2 d) os).cell? ⟨x,17,none⟩=some (ptrN vg):=by
      have:=H.o.g 17 _ rfl
      rw [HVG.o] at this
      exact this
     have g2:=H.o.g 2 _ rfl
     have gm4:=fun d os=>Ext.cell (Ext.reg W2 d os) (MB.o.box.c 4 _ rfl)
     refine att [0,1,2,3,4,5,6,7,8,9,10,11,12,13,14] [] ?_
     rw [← hW]
     clear hW
     repeat ((first|refine aqq fun K hK=>?_|refine akk fun K hK=>?_);go_big_quiet_op;refine hK _ ?_;clear hK K)
     refine acc fun K hK=>?_
     go_simp
     refine (dview_any H.o.q.dk).mono ?_
     rintro e w3 ⟨rfl,rfl⟩
     refine hK _ _ (Ext.rfl' _) ?_;clear hK K
     repeat ((first|refine aqq fun K hK=>?_|refine akk fun K hK=>?_);go_big_quiet_op;refine hK _ ?_;clear hK K)
     refine ra_nil ?_
     refine rt_nil ?_
     replace M1:=hI (M1.o.tr (Fm.ext M1.o.cl X2.o) (nd0 HK.o))
     clear X2 g17 g2 gm4
     have HSS:Hid (s=s'):=hI (by
      exact Option.some.inj HX.o)
     have H9:=hI H.o
     rw [HSS.o] at H9
     go_wp2
     refine bodyPost_end (v:=.tuple #[]) (by simp [results,Tryz.results116,go_sem]) rfl ?_
     first | exact ⟨rfl,o,A,H9.o,M1.o⟩ | exact ⟨rfl,o,⟨A,H9.o⟩,M1.o⟩
  ·have e2:(k1==2)=false:=by simpa using h2
   have HB1:=HB.o
   rw [if_neg (by rw [e2];simp)] at HB1
   replace HB:=hI HB1
   clear HB1 h2
   by_cases h3:k1=3
   ·have e3:(k1==3)=true:=by simpa using h3
    have HB1:=HB.o
    rw [if_pos e3] at HB1
    have HX:=hI HB1
    clear HB HB1 h3
    go_upto_region 10 with fail
    cases hv:s.v with
    | none=>
     have HV0:Hid (A.v=none):=hI (by
      have:=H.o.q.vt
      rw [hv] at this
      exact this)
     have HX1:=HX.o
     unfold voteO at HX1
     rw [hv] at HX1
     simp only at HX1
     replace HX:=hI HX1
     clear HX1 hv
     obtain ⟨W2,hW⟩:∃ W2,W2=w1.drew:=⟨_,rfl⟩
     have X2:Hid (Ext w1 W2):=hI (by rw [hW];exact Ext.drew w1)
     replace H:=hI (H.o.ext X2.o)
     replace S:=hI (S.o.ext X2.o)
     replace MB:=hI (MB.o.ext X2.o)
     have g17:∀ d os,(grow (redrawn W2 d) os).cell? ⟨x,17,none⟩=some (.pointer none):=by
      have:=H.o.g 17 _ rfl
      rw [HV0.o] at this
      exact this
     have g2:=H.o.g 2 _ rfl
     have gm4:=fun d os=>Ext.cell (Ext.reg W2 d os) (MB.o.box.c 4 _ rfl)
     refine att [0,1,2,3,4,5,6,7,8,9,10,11,12,13,14,15,16,17,18,19,20,21,22,23,24] [] ?_
     rw [← hW]
     clear hW
     repeat ((first|refine aqq fun K hK=>?_|refine akk fun K hK=>?_);go_big_quiet_op;refine hK _ ?_;clear hK K)
     refine ra_nil ?_
     refine rt_nil ?_
     replace M1:=hI (M1.o.tr (Fm.ext M1.o.cl X2.o) (nd0 HK.o))
     clear X2 g17 g2 gm4
     have HSS:Hid (s=s'):=hI (by
      exact Option.some.inj HX.o)
     have H9:=hI H.o
     rw [HSS.o] at H9
     go_wp2
     refine bodyPost_end (v:=.tuple #[]) (by simp [results,Tryz.results116,go_sem]) rfl ?_
     first | exact ⟨rfl,o,A,H9.o,M1.o⟩ | exact ⟨rfl,o,⟨A,H9.o⟩,M1.o⟩
    | some v=>
     obtain ⟨vg,hvg⟩:∃ vg,A.v=some vg:=by
      have:=H.o.q.vt
      rw [hv] at this
      obtain ⟨g,hg,-⟩:=this
      exact ⟨g,hg⟩
     have HVG:=hI hvg
     have HSV:=hI hv
     have HX1:=HX.o
     unfold voteO at HX1
     rw [hv] at HX1
     simp only at HX1
     replace HX:=hI HX1
     clear HX1 hv hvg
     obtain ⟨vw,vs⟩:=v
     simp only at HX
     by_cases hp:k5=vw
     ·have f1:(k5==vw)=true:=by simpa using hp
      by_cases hq:k5=s.dv
      ·have f2:(k5==s.dv)=true:=by simpa using hq
       have HX1:=HX.o
       rw [if_pos (by rw [f1,f2];rfl)] at HX1
       split at HX1
       case isFalse=>cases HX1
       rename_i hvb
       have HSS:=hI (Option.some.inj HX1)
       have VB:Hid (((1≤k2∧k2≤s.n)∧hasT (teamV vs) k2=false)∧((0≤k6∧k6<vw)∧(addsL [] L).isSome=true)∧(0≤k9∧k9≤(L.length:Int))∧L.length≤60∧vs.length≤90):=hI (by
        have:=hvb
        unfold voteB at this
        simp only [Bool.and_eq_true,decide_eq_true_eq,Bool.not_eq_true'] at this
        exact this)
       clear HX HX1 hvb hp hq
       obtain ⟨W2,hW⟩:∃ W2,W2=w1.drew:=⟨_,rfl⟩
       have X2:Hid (Ext w1 W2):=hI (by rw [hW];exact Ext.drew w1)
       replace H:=hI (H.o.ext X2.o)
       replace S:=hI (S.o.ext X2.o)
       replace MB:=hI (MB.o.ext X2.o)
       have g17:∀ d os,(grow (redrawn W2 d) os).cell? ⟨x,17,none⟩=some (ptrN vg):=by
        have:=H.o.g 17 _ rfl
        rw [HVG.o] at this
        exact this
       have g2:=H.o.g 2 _ rfl
       have gm4:=fun d os=>Ext.cell (Ext.reg W2 d os) (MB.o.box.c 4 _ rfl)
       refine att [0,1,2,3,4,5,6,7,8,9,10,11,12,13,14,15,16,17,18,19,20,21,22,23,24] [] ?_
       rw [← hW]
       clear hW
       repeat ((first|refine aqq fun K hK=>?_|refine akk fun K hK=>?_);go_big_quiet_op;refine hK _ ?_;clear hK K)
       refine acc fun K hK=>?_
       go_simp
       refine (vview_any (H.o.vs HSV.o HVG.o)).mono ?_
       rintro e w7 ⟨rfl,rfl⟩
       refine hK _ _ (Ext.rfl' _) ?_;clear hK K
       repeat ((first|refine aqq fun K hK=>?_|refine akk fun K hK=>?_);go_big_quiet_op;refine hK _ ?_;clear hK K)
       refine acc fun K hK=>?_
       go_simp
       refine (dview_any H.o.q.dk).mono ?_
       rintro e w3 ⟨rfl,rfl⟩
       refine hK _ _ (Ext.rfl' _) ?_;clear hK K
       repeat ((first|refine aqq fun K hK=>?_|refine akk fun K hK=>?_);go_big_quiet_op;refine hK _ ?_;clear hK K)
       refine ra_nil ?_
       refine rt_nil ?_
       replace M1:=hI (M1.o.tr (Fm.ext M1.o.cl X2.o) (nd0 HK.o))
       clear X2 g17 g2 gm4
       go_upto_region 11 with fail
       obtain ⟨W4,hW⟩:∃ W4,W4=W2.drew:=⟨_,rfl⟩
       have X4:Hid (Ext W2 W4):=hI (by rw [hW];exact Ext.drew W2)
       replace H:=hI (H.o.ext X4.o)
       replace S:=hI (S.o.ext X4.o)
       replace MB:=hI (MB.o.ext X4.o)
       have g17:∀ d os,(grow (redrawn W4 d) os).cell? ⟨x,17,none⟩=some (ptrN vg):=by
        have:=H.o.g 17 _ rfl
        rw [HVG.o] at this
        exact this
       have gm1:=fun d os=>Ext.cell (Ext.reg W4 d os) (MB.o.box.c 1 _ rfl)
       have gm5:=fun d os=>Ext.cell (Ext.reg W4 d os) (MB.o.box.c 5 _ rfl)
       have gm8:=fun d os=>Ext.cell (Ext.reg W4 d os) (MB.o.box.c 8 _ rfl)
       have gm9:=fun d os=>Ext.cell (Ext.reg W4 d os) (MB.o.box.c 9 _ rfl)
       refine att [0,1,2,3,4,5,6,7,8,9,10,11,12] [13] ?_
       rw [← hW]
       clear hW
       repeat ((first|refine aqq fun K hK=>?_|refine akk fun K hK=>?_);go_big_quiet_op;refine hK _ ?_;clear hK K)
       refine acc fun K hK=>?_
       go_simp
       refine hK _ _ (Ext.rfl' _) ?_;clear hK K
       refine ra_nil ?_
       refine too fun K hK=>?_
       go_simp
       have AS:=addsL_self VB.o.2.1.2
       refine (vadd_any (M1.o.cl.ext X4.o) (H.o.vs HSV.o HVG.o) (by have:=HK.o;omega) ⟨⟨VB.o.1.1.1,by have h1:=VB.o.1.1.2;have h2:=H.o.ok.n.2;omega⟩,VB.o.1.1.2⟩ VB.o.1.2 VB.o.2.1.1 S.o (fun e he=>mayB_ok (AS.2 e he)) AS.1 VB.o.2.2.1 VB.o.2.2.2.1 VB.o.2.2.2.2).mono ?_
       clear AS
       rintro e w5 ⟨o5,rfl,vs5,m5⟩
       obtain ⟨N5,F5⟩:=NodeP.mod0 (A':=A) (s':={ s with v:=some (vw,vs++[⟨k2,k6,L,k9⟩]) }) HK.o H.o m5 (fun d hd=>by unfold two at hd;unfold ndC;omega) (by
        have:=H.o.q.set_vt (yv:=some vg) (xv:=some (vw,vs++[⟨k2,k6,L,k9⟩])) HK.o ⟨vg,rfl,vs5⟩ m5 (fun d hd=>by unfold two at hd;omega)
        rw [show ({ A with v:=some vg }:AdD)=A by rw [← HVG.o]] at this
        exact this) rfl { H.o.ok with id:=H.o.ok.id }
       have H5:=hI N5
       have M5:=hI ((M1.o.tr (Fm.ext M1.o.cl X4.o) (nd0 HK.o)).tr F5 (nd0 HK.o))
       rw [HSS.o] at H5
       clear N5 F5 vs5 m5
       refine hK _ _ ?_
       clear hK K
       refine rt_nil ?_
       go_wp2
       refine bodyPost_end (v:=.tuple #[]) (by simp [results,Tryz.results116,go_sem]) rfl ?_
       first | exact ⟨rfl,o5,A,H5.o,M5.o⟩ | exact ⟨rfl,o5,⟨A,H5.o⟩,M5.o⟩
      ·have f2:(k5==s.dv)=false:=by simpa using hq
       have HX1:=HX.o
       rw [if_neg (by rw [f2];simp)] at HX1
       replace HX:=hI HX1
       clear HX1 hp hq
       obtain ⟨W2,hW⟩:∃ W2,W2=w1.drew:=⟨_,rfl⟩
       have X2:Hid (Ext w1 W2):=hI (by rw [hW];exact Ext.drew w1)
       replace H:=hI (H.o.ext X2.o)
       replace S:=hI (S.o.ext X2.o)
       replace MB:=hI (MB.o.ext X2.o)
       have g17:∀ d os,(grow (redrawn W2 d) os).cell? ⟨x,17,none⟩=some (ptrN vg):=by
        have:=H.o.g 17 _ rfl
        rw [HVG.o] at this
        exact this
       have g2:=H.o.g 2 _ rfl
       have gm4:=fun d os=>Ext.cell (Ext.reg W2 d os) (MB.o.box.c 4 _ rfl)
       refine att [0,1,2,3,4,5,6,7,8,9,10,11,12,13,14,15,16,17,18,19,20,21,22,23,24] [] ?_
       rw [← hW]
       clear hW
       repeat ((first|refine aqq fun K hK=>?_|refine akk fun K hK=>?_);go_big_quiet_op;refine hK _ ?_;clear hK K)
       refine acc fun K hK=>?_
       go_simp
       refine (vview_any (H.o.vs HSV.o HVG.o)).mono ?_
       rintro e w7 ⟨rfl,rfl⟩
       refine hK _ _ (Ext.rfl' _) ?_;clear hK K
       repeat ((first|refine aqq fun K hK=>?_|refine akk fun K hK=>?_);go_big_quiet_op;refine hK _ ?_;clear hK K)
       refine acc fun K hK=>?_
       go_simp
       refine (dview_any H.o.q.dk).mono ?_
       rintro e w3 ⟨rfl,rfl⟩
       refine hK _ _ (Ext.rfl' _) ?_;clear hK K
       repeat ((first|refine aqq fun K hK=>?_|refine akk fun K hK=>?_);go_big_quiet_op;refine hK _ ?_;clear hK K)
       refine ra_nil ?_
       refine rt_nil ?_
       replace M1:=hI (M1.o.tr (Fm.ext M1.o.cl X2.o) (nd0 HK.o))
       clear X2 g17 g2 gm4
       have HSS:Hid (s=s'):=hI (by
        exact Option.some.inj HX.o)
       have H9:=hI H.o
       rw [HSS.o] at H9
       go_wp2
       refine bodyPost_end (v:=.tuple #[]) (by simp [results,Tryz.results116,go_sem]) rfl ?_
       first | exact ⟨rfl,o,A,H9.o,M1.o⟩ | exact ⟨rfl,o,⟨A,H9.o⟩,M1.o⟩
     ·have f1:(k5==vw)=false:=by simpa using hp
      have HX1:=HX.o
      rw [if_neg (by rw [f1];simp)] at HX1
      replace HX:=hI HX1
      clear HX1 hp
      obtain ⟨W2,hW⟩:∃ W2,W2=w1.drew:=⟨_,rfl⟩
      have X2:Hid (Ext w1 W2):=hI (by rw [hW];exact Ext.drew w1)
      replace H:=hI (H.o.ext X2.o)
      replace S:=hI (S.o.ext X2.o)
      replace MB:=hI (MB.o.ext X2.o)
      have g17:∀ d os,(grow (redrawn W2 d) os).cell? ⟨x,17,none⟩=some (ptrN vg):=by
       have:=H.o.g 17 _ rfl
       rw [HVG.o] at this
       exact this
      have g2:=H.o.g 2 _ rfl
      have gm4:=fun d os=>Ext.cell (Ext.reg W2 d os) (MB.o.box.c 4 _ rfl)
      refine att [0,1,2,3,4,5,6,7,8,9,10,11,12,13,14,15,16,17,18,19,20,21,22,23,24] [] ?_
      rw [← hW]
      clear hW
      repeat ((first|refine aqq fun K hK=>?_|refine akk fun K hK=>?_);go_big_quiet_op;refine hK _ ?_;clear hK K)
      refine acc fun K hK=>?_
      go_simp
      refine (vview_any (H.o.vs HSV.o HVG.o)).mono ?_
      rintro e w7 ⟨rfl,rfl⟩
      refine hK _ _ (Ext.rfl' _) ?_;clear hK K
      repeat ((first|refine aqq fun K hK=>?_|refine akk fun K hK=>?_);go_big_quiet_op;refine hK _ ?_;clear hK K)
      refine ra_nil ?_
      refine rt_nil ?_
      replace M1:=hI (M1.o.tr (Fm.ext M1.o.cl X2.o) (nd0 HK.o))
      clear X2 g17 g2 gm4
      have HSS:Hid (s=s'):=hI (by
       exact Option.some.inj HX.o)
      have H9:=hI H.o
      rw [HSS.o] at H9
      go_wp2
      refine bodyPost_end (v:=.tuple #[]) (by simp [results,Tryz.results116,go_sem]) rfl ?_
      first | exact ⟨rfl,o,A,H9.o,M1.o⟩ | exact ⟨rfl,o,⟨A,H9.o⟩,M1.o⟩
   ·have e3:(k1==3)=false:=by simpa using h3
    have HB1:=HB.o
    rw [if_neg (by rw [e3];simp)] at HB1
    replace HB:=hI HB1
    clear HB1 h3
    by_cases h4:k1=4
    ·have e4:(k1==4)=true:=by simpa using h4
     have HB1:=HB.o
     rw [if_pos e4] at HB1
     have HX:=hI HB1
     clear HB HB1 h4
     have d0:=MB.o.box.c 0 _ rfl
     have d1:=MB.o.box.c 1 _ rfl
     have d2:=MB.o.box.c 2 _ rfl
     have d3:=MB.o.box.c 3 _ rfl
     have d4:=MB.o.box.c 4 _ rfl
     have d5:=MB.o.box.c 5 _ rfl
     have d6:=MB.o.box.c 6 _ rfl
     have d7:=MB.o.box.c 7 _ rfl
     have d8:=MB.o.box.c 8 _ rfl
     have d9:=MB.o.box.c 9 _ rfl
     have d10:=MB.o.box.c 10 _ rfl
     have d11:=MB.o.box.c 11 _ rfl
     have d12:=MB.o.box.c 12 _ rfl
     go_wp2_with fail
     refine (ninstd_any M1.o.cl HK.o H.o S.o HX.o).mono ?_
     rintro e w9 ⟨rfl,o9,A9,n9,f9⟩
     have N9:=hI n9
     have F9:=hI (M1.o.tr f9 (nd0 HK.o))
     clear n9 f9
     go_wp2
     refine bodyPost_end (v:=.tuple #[]) (by simp [results,Tryz.results116,go_sem]) rfl ?_
     first | exact ⟨rfl,o9,A9,N9.o,F9.o⟩ | exact ⟨rfl,o9,⟨A9,N9.o⟩,F9.o⟩
    ·have e4:(k1==4)=false:=by simpa using h4
     have HB1:=HB.o
     rw [if_neg (by rw [e4];simp)] at HB1
     replace HB:=hI HB1
     clear HB1 h4
     by_cases h5:k1=5
     ·have e5:(k1==5)=true:=by simpa using h5
      have HB1:=HB.o
      rw [if_pos e5] at HB1
      have HX:=hI HB1
      clear HB HB1 h5
      have d0:=MB.o.box.c 0 _ rfl
      have d1:=MB.o.box.c 1 _ rfl
      have d2:=MB.o.box.c 2 _ rfl
      have d3:=MB.o.box.c 3 _ rfl
      have d4:=MB.o.box.c 4 _ rfl
      have d5:=MB.o.box.c 5 _ rfl
      have d6:=MB.o.box.c 6 _ rfl
      have d7:=MB.o.box.c 7 _ rfl
      have d8:=MB.o.box.c 8 _ rfl
      have d9:=MB.o.box.c 9 _ rfl
      have d10:=MB.o.box.c 10 _ rfl
      have d11:=MB.o.box.c 11 _ rfl
      have d12:=MB.o.box.c 12 _ rfl
      go_wp2_with fail
      refine (nappd_any M1.o.cl HK.o H.o S.o HX.o).mono ?_
      rintro e w9 ⟨rfl,o9,A9,n9,f9⟩
      have N9:=hI n9
      have F9:=hI (M1.o.tr f9 (nd0 HK.o))
      clear n9 f9
      go_wp2
      refine bodyPost_end (v:=.tuple #[]) (by simp [results,Tryz.results116,go_sem]) rfl ?_
      first | exact ⟨rfl,o9,A9,N9.o,F9.o⟩ | exact ⟨rfl,o9,⟨A9,N9.o⟩,F9.o⟩
     ·have e5:(k1==5)=false:=by simpa using h5
      have HB1:=HB.o
      rw [if_neg (by rw [e5];simp)] at HB1
      replace HB:=hI HB1
      clear HB1 h5
      by_cases h9:k1=9
      ·have e9:(k1==9)=true:=by simpa using h9
       have HB1:=HB.o
       rw [if_pos e9] at HB1
       have HX:=hI HB1
       clear HB HB1 h9
       go_upto_region 17 with fail
       have HX1:=HX.o
       unfold freshO at HX1
       cases hin:inV s
       ·rw [if_neg (by rw [hin];simp)] at HX1
        replace HX:=hI HX1
        clear HX1
        obtain ⟨W2,hW⟩:∃ W2,W2=w1.drew:=⟨_,rfl⟩
        have X2:Hid (Ext w1 W2):=hI (by rw [hW];exact Ext.drew w1)
        refine att [0,1,2,3,4,5,6,7,8,9,10,11,12,13,14,15,16,17,18,19,20,21,22,23,24] [] ?_
        rw [← hW]
        clear hW
        repeat ((first|refine aqq fun K hK=>?_|refine akk fun K hK=>?_);go_big_quiet_op;refine hK _ ?_;clear hK K)
        refine acc fun K hK=>?_
        go_simp
        refine (nin_any (H.o.ext X2.o)).mono ?_
        rw [hin]
        rintro e w3 ⟨rfl,x3⟩
        replace H:=hI ((H.o.ext X2.o).ext x3)
        replace S:=hI ((S.o.ext X2.o).ext x3)
        replace MB:=hI ((MB.o.ext X2.o).ext x3)
        replace M1:=hI (M1.o.tr (Fm.ext M1.o.cl (X2.o.tr x3)) (nd0 HK.o))
        have g11:∀ d os,(grow (redrawn w3 d) os).cell? ⟨x,11,none⟩=some (.int .i64 s.ls):=H.o.g 11 _ rfl
        have g1:∀ d os,(grow (redrawn w3 d) os).cell? ⟨x,1,none⟩=some (.int .i64 s.n):=H.o.g 1 _ rfl
        have gm1:=fun d os=>Ext.cell (Ext.reg w3 d os) (MB.o.box.c 1 _ rfl)
        have gm4:=fun d os=>Ext.cell (Ext.reg w3 d os) (MB.o.box.c 4 _ rfl)
        refine hK _ _ x3 ?_
        clear hK K x3 X2
        repeat ((first|refine aqq fun K hK=>?_|refine akk fun K hK=>?_);go_big_quiet_op;refine hK _ ?_;clear hK K)
        refine ra_nil ?_
        refine rt_nil ?_
        clear g11 g1 gm1 gm4
        have HSS:Hid (s=s'):=hI (by
         exact Option.some.inj HX.o)
        have H9:=hI H.o
        rw [HSS.o] at H9
        go_wp2
        refine bodyPost_end (v:=.tuple #[]) (by simp [results,Tryz.results116,go_sem]) rfl ?_
        first | exact ⟨rfl,o,A,H9.o,M1.o⟩ | exact ⟨rfl,o,⟨A,H9.o⟩,M1.o⟩
       ·rw [if_pos hin] at HX1
        have HLS:=hI (inV_ls hin)
        simp only at HX1
        by_cases hp:k5=s.ls
        ·have f1:(k5==s.ls)=true:=by simpa using hp
         rw [if_pos f1] at HX1
         by_cases hq:k2=decT s.ls s.n
         ·have f2:(k2==decT s.ls s.n)=true:=by simpa using hq
          rw [if_pos f2] at HX1
          replace HX:=hI HX1
          clear HX1 hp hq
          obtain ⟨W2,hW⟩:∃ W2,W2=w1.drew:=⟨_,rfl⟩
          have X2:Hid (Ext w1 W2):=hI (by rw [hW];exact Ext.drew w1)
          refine att [0,1,2,3,4,5,6,7,8,9,10,11,12,13,14,15,16,17,18,19,20,21,22,23,24] [] ?_
          rw [← hW]
          clear hW
          repeat ((first|refine aqq fun K hK=>?_|refine akk fun K hK=>?_);go_big_quiet_op;refine hK _ ?_;clear hK K)
          refine acc fun K hK=>?_
          go_simp
          refine (nin_any (H.o.ext X2.o)).mono ?_
          rw [hin]
          rintro e w3 ⟨rfl,x3⟩
          replace H:=hI ((H.o.ext X2.o).ext x3)
          replace S:=hI ((S.o.ext X2.o).ext x3)
          replace MB:=hI ((MB.o.ext X2.o).ext x3)
          replace M1:=hI (M1.o.tr (Fm.ext M1.o.cl (X2.o.tr x3)) (nd0 HK.o))
          have g11:∀ d os,(grow (redrawn w3 d) os).cell? ⟨x,11,none⟩=some (.int .i64 s.ls):=H.o.g 11 _ rfl
          have g1:∀ d os,(grow (redrawn w3 d) os).cell? ⟨x,1,none⟩=some (.int .i64 s.n):=H.o.g 1 _ rfl
          have gm1:=fun d os=>Ext.cell (Ext.reg w3 d os) (MB.o.box.c 1 _ rfl)
          have gm4:=fun d os=>Ext.cell (Ext.reg w3 d os) (MB.o.box.c 4 _ rfl)
          refine hK _ _ x3 ?_
          clear hK K x3 X2
          repeat ((first|refine aqq fun K hK=>?_|refine akk fun K hK=>?_);go_big_quiet_op;refine hK _ ?_;clear hK K)
          refine acc fun K hK=>?_
          go_simp
          refine (tdec_any s.ls s.n ⟨HLS.o,by have:=H.o.ok.ls;omega⟩ H.o.ok.n _).mono ?_
          rintro e w4 ⟨rfl,rfl⟩
          refine hK _ _ (Ext.rfl' _) ?_;clear hK K
          repeat ((first|refine aqq fun K hK=>?_|refine akk fun K hK=>?_);go_big_quiet_op;refine hK _ ?_;clear hK K)
          refine ra_nil ?_
          refine rt_nil ?_
          clear g11 g1 gm1 gm4
          go_upto_region 18 with fail
          obtain ⟨W5,hW⟩:∃ W5,W5=w3.drew:=⟨_,rfl⟩
          have X5:Hid (Ext w3 W5):=hI (by rw [hW];exact Ext.drew w3)
          replace H:=hI (H.o.ext X5.o)
          replace S:=hI (S.o.ext X5.o)
          replace MB:=hI (MB.o.ext X5.o)
          have g16:=H.o.g 16 _ rfl
          have gm10:=fun d os=>Ext.cell (Ext.reg W5 d os) (MB.o.box.c 10 _ rfl)
          have gm9:=fun d os=>Ext.cell (Ext.reg W5 d os) (MB.o.box.c 9 _ rfl)
          refine att [0,1,2,3,4,5,6,7] [8] ?_
          rw [← hW]
          clear hW
          repeat ((first|refine aqq fun K hK=>?_|refine akk fun K hK=>?_);go_big_quiet_op;refine hK _ ?_;clear hK K)
          refine ra_nil ?_
          refine too fun K hK=>?_
          go_simp
          refine (nget_any' (M1.o.cl.ext X5.o) HK.o H.o HX.o).mono ?_
          rintro e w6 ⟨⟨bb,rfl⟩,n6,m6⟩
          have N6:=hI n6
          have M6:=hI ((M1.o.tr (Fm.ext M1.o.cl X5.o) (nd0 HK.o)).tr m6 (nd0 HK.o))
          clear n6 m6
          refine hK _ _ ?_
          clear hK K
          refine rt_nil ?_
          go_wp2
          refine bodyPost_end (v:=.tuple #[]) (by simp [results,Tryz.results116,go_sem]) rfl ?_
          first | exact ⟨rfl,o,A,N6.o,M6.o⟩ | exact ⟨rfl,o,⟨A,N6.o⟩,M6.o⟩
         ·have f2:(k2==decT s.ls s.n)=false:=by simpa using hq
          rw [if_neg (by rw [f2];simp)] at HX1
          replace HX:=hI HX1
          clear HX1 hp hq
          obtain ⟨W2,hW⟩:∃ W2,W2=w1.drew:=⟨_,rfl⟩
          have X2:Hid (Ext w1 W2):=hI (by rw [hW];exact Ext.drew w1)
          refine att [0,1,2,3,4,5,6,7,8,9,10,11,12,13,14,15,16,17,18,19,20,21,22,23,24] [] ?_
          rw [← hW]
          clear hW
          repeat ((first|refine aqq fun K hK=>?_|refine akk fun K hK=>?_);go_big_quiet_op;refine hK _ ?_;clear hK K)
          refine acc fun K hK=>?_
          go_simp
          refine (nin_any (H.o.ext X2.o)).mono ?_
          rw [hin]
          rintro e w3 ⟨rfl,x3⟩
          replace H:=hI ((H.o.ext X2.o).ext x3)
          replace S:=hI ((S.o.ext X2.o).ext x3)
          replace MB:=hI ((MB.o.ext X2.o).ext x3)
          replace M1:=hI (M1.o.tr (Fm.ext M1.o.cl (X2.o.tr x3)) (nd0 HK.o))
          have g11:∀ d os,(grow (redrawn w3 d) os).cell? ⟨x,11,none⟩=some (.int .i64 s.ls):=H.o.g 11 _ rfl
          have g1:∀ d os,(grow (redrawn w3 d) os).cell? ⟨x,1,none⟩=some (.int .i64 s.n):=H.o.g 1 _ rfl
          have gm1:=fun d os=>Ext.cell (Ext.reg w3 d os) (MB.o.box.c 1 _ rfl)
          have gm4:=fun d os=>Ext.cell (Ext.reg w3 d os) (MB.o.box.c 4 _ rfl)
          refine hK _ _ x3 ?_
          clear hK K x3 X2
          repeat ((first|refine aqq fun K hK=>?_|refine akk fun K hK=>?_);go_big_quiet_op;refine hK _ ?_;clear hK K)
          refine acc fun K hK=>?_
          go_simp
          refine (tdec_any s.ls s.n ⟨HLS.o,by have:=H.o.ok.ls;omega⟩ H.o.ok.n _).mono ?_
          rintro e w4 ⟨rfl,rfl⟩
          refine hK _ _ (Ext.rfl' _) ?_;clear hK K
          repeat ((first|refine aqq fun K hK=>?_|refine akk fun K hK=>?_);go_big_quiet_op;refine hK _ ?_;clear hK K)
          refine ra_nil ?_
          refine rt_nil ?_
          clear g11 g1 gm1 gm4
          have HSS:Hid (s=s'):=hI (by
           exact Option.some.inj HX.o)
          have H9:=hI H.o
          rw [HSS.o] at H9
          go_wp2
          refine bodyPost_end (v:=.tuple #[]) (by simp [results,Tryz.results116,go_sem]) rfl ?_
          first | exact ⟨rfl,o,A,H9.o,M1.o⟩ | exact ⟨rfl,o,⟨A,H9.o⟩,M1.o⟩
        ·have f1:(k5==s.ls)=false:=by simpa using hp
         rw [if_neg (by rw [f1];simp)] at HX1
         replace HX:=hI HX1
         clear HX1 hp
         obtain ⟨W2,hW⟩:∃ W2,W2=w1.drew:=⟨_,rfl⟩
         have X2:Hid (Ext w1 W2):=hI (by rw [hW];exact Ext.drew w1)
         refine att [0,1,2,3,4,5,6,7,8,9,10,11,12,13,14,15,16,17,18,19,20,21,22,23,24] [] ?_
         rw [← hW]
         clear hW
         repeat ((first|refine aqq fun K hK=>?_|refine akk fun K hK=>?_);go_big_quiet_op;refine hK _ ?_;clear hK K)
         refine acc fun K hK=>?_
         go_simp
         refine (nin_any (H.o.ext X2.o)).mono ?_
         rw [hin]
         rintro e w3 ⟨rfl,x3⟩
         replace H:=hI ((H.o.ext X2.o).ext x3)
         replace S:=hI ((S.o.ext X2.o).ext x3)
         replace MB:=hI ((MB.o.ext X2.o).ext x3)
         replace M1:=hI (M1.o.tr (Fm.ext M1.o.cl (X2.o.tr x3)) (nd0 HK.o))
         have g11:∀ d os,(grow (redrawn w3 d) os).cell? ⟨x,11,none⟩=some (.int .i64 s.ls):=H.o.g 11 _ rfl
         have g1:∀ d os,(grow (redrawn w3 d) os).cell? ⟨x,1,none⟩=some (.int .i64 s.n):=H.o.g 1 _ rfl
         have gm1:=fun d os=>Ext.cell (Ext.reg w3 d os) (MB.o.box.c 1 _ rfl)
         have gm4:=fun d os=>Ext.cell (Ext.reg w3 d os) (MB.o.box.c 4 _ rfl)
         refine hK _ _ x3 ?_
         clear hK K x3 X2
         repeat ((first|refine aqq fun K hK=>?_|refine akk fun K hK=>?_);go_big_quiet_op;refine hK _ ?_;clear hK K)
         refine ra_nil ?_
         refine rt_nil ?_
         clear g11 g1 gm1 gm4
         have HSS:Hid (s=s'):=hI (by
          exact Option.some.inj HX.o)
         have H9:=hI H.o
         rw [HSS.o] at H9
         go_wp2
         refine bodyPost_end (v:=.tuple #[]) (by simp [results,Tryz.results116,go_sem]) rfl ?_
         first | exact ⟨rfl,o,A,H9.o,M1.o⟩ | exact ⟨rfl,o,⟨A,H9.o⟩,M1.o⟩
      ·have e9:(k1==9)=false:=by simpa using h9
       have HB1:=HB.o
       rw [if_neg (by rw [e9];simp)] at HB1
       replace HB:=hI HB1
       clear HB1 h9
       have HX:=HB
       clear HB
       go_wp2_with fail
       refine (ndecides_any H.o).mono ?_
       cases hde:inV s&&s.mi
       ·rintro e w2 ⟨rfl,x2⟩
        replace H:=hI (H.o.ext x2)
        replace M1:=hI (M1.o.tr (Fm.ext M1.o.cl x2) (nd0 HK.o))
        have HX1:=HX.o
        rw [if_neg (by rw [hde];simp)] at HX1
        replace HX:=hI HX1
        clear HX1 x2 hde
        have HSS:Hid (s=s'):=hI (by
         exact Option.some.inj HX.o)
        have H9:=hI H.o
        rw [HSS.o] at H9
        go_wp2
        refine bodyPost_end (v:=.tuple #[]) (by simp [results,Tryz.results116,go_sem]) rfl ?_
        first | exact ⟨rfl,o,A,H9.o,M1.o⟩ | exact ⟨rfl,o,⟨A,H9.o⟩,M1.o⟩
       ·rintro e w2 ⟨rfl,x2⟩
        replace H:=hI (H.o.ext x2)
        replace S:=hI (S.o.ext x2)
        replace MB:=hI (MB.o.ext x2)
        replace M1:=hI (M1.o.tr (Fm.ext M1.o.cl x2) (nd0 HK.o))
        have HX1:=HX.o
        rw [if_pos hde] at HX1
        replace HX:=hI HX1
        clear HX1 x2 hde
        have d0:=MB.o.box.c 0 _ rfl
        have d1:=MB.o.box.c 1 _ rfl
        have d2:=MB.o.box.c 2 _ rfl
        have d3:=MB.o.box.c 3 _ rfl
        have d4:=MB.o.box.c 4 _ rfl
        have d5:=MB.o.box.c 5 _ rfl
        have d6:=MB.o.box.c 6 _ rfl
        have d7:=MB.o.box.c 7 _ rfl
        have d8:=MB.o.box.c 8 _ rfl
        have d9:=MB.o.box.c 9 _ rfl
        have d10:=MB.o.box.c 10 _ rfl
        have d11:=MB.o.box.c 11 _ rfl
        have d12:=MB.o.box.c 12 _ rfl
        go_wp2_with fail
        refine (nserv_any M1.o.cl HK.o H.o S.o HX.o).mono ?_
        rintro e w9 ⟨rfl,o9,A9,n9,f9⟩
        have N9:=hI n9
        have F9:=hI (M1.o.tr f9 (nd0 HK.o))
        clear n9 f9
        go_wp2
        refine bodyPost_end (v:=.tuple #[]) (by simp [results,Tryz.results116,go_sem]) rfl ?_
        first | exact ⟨rfl,o9,A9,N9.o,F9.o⟩ | exact ⟨rfl,o9,⟨A9,N9.o⟩,F9.o⟩
end
section
open Go Go.Sort Go.RowKit
def jnM (me bt tw:Int):MsD:=⟨10,me,tw,bt,0,0,0,0,0,bt,0,false⟩
def jnK (me bt:Int) (k:Nat):List (MsD × List EnD):=((List.range' 1 k).filter fun (i:Nat)=>!((i:Int)==me)).map fun (i:Nat)=>(jnM me bt (i:Int),[])
theorem jnK_succ (me bt:Int) (k:Nat):jnK me bt (k+1)=jnK me bt k++(if (k:Int)+1=me then [] else [(jnM me bt ((k:Int)+1),[])]):=by
 have e:((1+1 * k:Nat):Int)=(k:Int)+1:=by omega
 unfold jnK
 rw [List.range'_concat,List.filter_append,List.map_append]
 congr 1
 by_cases h:(k:Int)+1=me
 ·rw [if_pos h,List.filter_cons_of_neg (by rw [e];simp [h])]
  rfl
 ·rw [if_neg h,List.filter_cons_of_pos (by rw [e];simpa using h)]
  simp only [List.filter_nil,List.map_cons,List.map_nil,e]
theorem jnK_le (me bt:Int):∀ k:Nat,(jnK me bt k).length≤k
 | 0=>Nat.le_refl 0
 | k+1=>by
  have:=jnK_le me bt k
  rw [jnK_succ,List.length_append]
  split <;> simp <;> omega
theorem jnM_ok {me bt tw:Int} (hm:I64 me) (ht:I64 tw) (hb:I64 bt):MsOk (jnM me bt tw):=by
 unfold MsOk jnM
 simp only
 unfold I64 at *
 omega
theorem jbs_msg (m:MsD) (p:Option Addr) (n cap:Nat) (w:World):(Instr.buildSlice 98 1 #[(0,.agg (msA m p n cap))]).run Tryz.prog w=.ok (.slice (some ⟨w.heap.size,0,none⟩) 1 1) (w.alloc (.cells (msA m p n cap) 76)):=by kernel_rfl
theorem oper_bs {w:World} {op:Oper} {a:Act} {K:Act→World→Prop} {Q:Exit→Act→World→Prop} (x:Operand) (ho:op.op=.buildSlice 98 1 #[(0,x)]) (m:MsD) (p:Option Addr) (n cap:Nat) (hx:a.eval x=.agg (msA m p n cap))
  (h:K (a.put op.dst (.slice (some ⟨w.heap.size,0,none⟩) 1 1)) (w.alloc (.cells (msA m p n cap) 76))):Oper.wp Tryz.prog op a w K Q:=by
 have e:(execOp a.eval op).run Tryz.prog w=.ok (.value (.slice (some ⟨w.heap.size,0,none⟩) 1 1)) (w.alloc (.cells (msA m p n cap) 76)):=by
  simp [execOp,ho,hx,jbs_msg]
 unfold Oper.wp
 rw [e]
 exact h
variable {w:World} {o:Ow} {cj c g:Nat} {me n bt pr:Int} {got:Bool}
theorem jask_any (hcl:Cl w o) (h1:1<c) (h2:1<cj) (hne:cj≠c) (J:JnV w o cj g me n bt pr got) (hm:1≤me∧me≤n) (hn:3≤n∧n≤7) (hb:1≤bt∧bt≤1099511627776) :
  Calls Tryz.prog 103 #[ptrN g] w fun e w'=>∃ o' p cap,e=.returned (.slice p (jnK me bt n.toNat).length cap)∧OutV w' o' c p cap (jnK me bt n.toNat)∧Fm (one c) o o' w w':=by
 obtain ⟨m0,p0,z0,cap0,J⟩:=J
 have HJ:=hI J
 have HN:=hI (And.intro hm (And.intro hn hb))
 have H1:=hI (And.intro h1 (And.intro h2 hne))
 have HC:=hI hcl
 obtain ⟨N,hN⟩:∃ N:Nat,n=(N:Int):=⟨n.toNat,by omega⟩
 subst hN
 simp only [Int.toNat_natCast]
 clear hcl h1 h2 hne J hm hn hb
 go_enter Tryz.func103,Tryz.ntmps103
 go_wp2_with fail
 go_loopw [3,4] (fun l i wr=>∃ (k:Nat) (o':Ow) (p:Option Addr) (cap:Nat),k≤N∧i=.int .i64 ((k:Int)+1)∧l=.slice p (jnK me bt k).length cap∧Hid (OutV wr o' c p cap (jnK me bt k))∧Hid (Fm (one c) o o' w wr)) (fun _ i _=>N+1-(intOf i).toNat)
 case atStart=>exact ⟨0,o,none,0,by omega,rfl,rfl,hI (OutV.none _ _ _),hI (Fm.refl HC.o)⟩
 case round=>
  obtain ⟨k,o',p,cap,hk,rfl,rfl,OU,FM⟩:=hrel
  have J2:=hI (HJ.o.fr FM.o (by have:=H1.o;omega) (by unfold one;exact H1.o.2.2))
  have c0:=J2.o.box.c 0 _ rfl
  have c1:=J2.o.box.c 1 _ rfl
  have c2:=J2.o.box.c 2 _ rfl
  by_cases hlt:k<N
  ·have hx:((k:Int)+1)≤(N:Int):=by omega
   have h7:N≤7:=by have:=HN.o;omega
   have HS:=hI (jnK_succ me bt k)
   by_cases he:(k:Int)+1=me
   ·have e1:((k:Int)+1 != me)=false:=by simpa using he
    have HS2:Hid (jnK me bt (k+1)=jnK me bt k):=hI (by rw [HS.o,if_pos he,List.append_nil])
    clear HS he
    go_wp2
    go_roundw
    case rel=>exact ⟨k+1,o',p,cap,by omega,by go_num,by rw [HS2.o],by rw [HS2.o];exact OU,FM⟩
    case measure=>simp [intOf];omega
   ·have e1:((k:Int)+1 != me)=true:=by simpa using he
    have HS2:Hid (jnK me bt (k+1)=jnK me bt k++[(jnM me bt ((k:Int)+1),[])]):=hI (by rw [HS.o,if_neg he])
    have HL2:Hid ((jnK me bt (k+1)).length=(jnK me bt k).length+1):=hI (by rw [HS2.o];simp)
    have hl6:(jnK me bt k).length≤1000000:=by have:=jnK_le me bt k;have:=HN.o;omega
    clear HS he
    obtain ⟨ds,hq,r0,ao⟩:=OU.o
    have R0:Hid (RowC 76 13 wr o' c p (jnK me bt k).length cap (ds.map msgL)):=hI (by rw [← hq];simpa using r0)
    have AO:=hI ao
    have HQ:=hI hq
    have HLD:Hid (ds.length=(jnK me bt k).length):=hI (by rw [← hq];simp)
    clear hq r0 ao OU
    go_upto_region 8 with fail
    obtain ⟨W5,hW⟩:∃ W5,W5=wr.drew:=⟨_,rfl⟩
    have X5:Hid (Ext wr W5):=hI (by rw [hW];exact Ext.drew wr)
    replace J2:=hI (J2.o.ext X5.o)
    have j0:=fun (qq:Wrap (CL [(⟨g,0,none⟩,.int .i64 me),(⟨g,2,none⟩,.int .i64 bt)]))=>(qq.h.1:qq.w.cell? ⟨g,0,none⟩=some (.int .i64 me))
    have j2:=fun (qq:Wrap (CL [(⟨g,0,none⟩,.int .i64 me),(⟨g,2,none⟩,.int .i64 bt)]))=>(qq.h.2.1:qq.w.cell? ⟨g,2,none⟩=some (.int .i64 bt))
    clear c0 c1 c2
    refine gtt [0,1,2,3,4,5,6,7,8,9,10,11,12,13,14,15,16,17] (CL [(⟨g,0,none⟩,.int .i64 me),(⟨g,2,none⟩,.int .i64 bt)]) (by rw [← hW];exact ⟨J2.o.box.c 0 _ rfl,J2.o.box.c 2 _ rfl,trivial⟩) (fun _=>?_)
    rw [← hW]
    clear hW
    repeat ((first|refine gqq fun K hK=>?_|refine gkk fun K hK=>?_);go_big_quiet_op;refine hK _ ?_;clear hK K)
    refine gcc fun K hK=>?_
    go_simp
    refine hK (CL [(⟨g,0,none⟩,.int .i64 me),(⟨g,2,none⟩,.int .i64 bt)]) _ _ (fun _ h=>h) ⟨J2.o.box.c 0 _ rfl,J2.o.box.c 2 _ rfl,trivial⟩ (fun _=>?_)
    clear hK K
    repeat ((first|refine gqq fun K hK=>?_|refine gkk fun K hK=>?_);go_big_quiet_op;refine hK _ ?_;clear hK K)
    have A1:=hI (Ext.alloc W5 (.cells (msA (jnM me bt ((k:Int)+1)) none 0 0) 76))
    have A2:=hI (X5.o.tr A1.o)
    replace J2:=hI (J2.o.ext A1.o)
    refine gcc fun K hK=>?_
    refine oper_bs _ (by rfl) (jnM me bt ((k:Int)+1)) none 0 0 (by rfl) ?_
    refine hK (CL [(⟨g,0,none⟩,.int .i64 me),(⟨g,2,none⟩,.int .i64 bt)]) _ _ (fun _ h=>h) ⟨J2.o.box.c 0 _ rfl,J2.o.box.c 2 _ rfl,trivial⟩ (fun _=>?_)
    clear hK K
    repeat ((first|refine gqq fun K hK=>?_|refine gkk fun K hK=>?_);go_big_quiet_op;refine hK _ ?_;clear hK K)
    refine gcc fun K hK=>?_
    refine oper_appC (by rfl) _ _ _ (by rfl) 76 13 120 _ Tryz.underlying98 info_msg (by rfl) (by omega) (FM.o.cl.ext A2.o) (R0.o.ext A2.o) (by rfl) W5.heap.size 1 (msL (jnM me bt ((k:Int)+1)) none 0 0) (by rfl) (by rfl) (fun j u hu=>news_at (w:=W5) rfl j u hu) (msL_one _ _ _ _) hl6 (by omega) (by have:=H1.o;omega) (fun d=>d=c) rfl ?_
    intro p4 c4 o4 w4 r4 f4
    have J4:=hI (J2.o.fr f4 (by have:=H1.o;omega) (by have:=H1.o;omega))
    refine hK (CL [(⟨g,0,none⟩,.int .i64 me),(⟨g,2,none⟩,.int .i64 bt)]) _ _ (fun _ h=>h) ⟨J4.o.box.c 0 _ rfl,J4.o.box.c 2 _ rfl,trivial⟩ (fun _=>?_)
    clear hK K
    go_simp
    repeat ((first|refine gqq fun K hK=>?_|refine gkk fun K hK=>?_);go_big_quiet_op;refine hK _ ?_;clear hK K)
    refine rg_nil ?_
    have OU4:Hid (OutV w4 o4 c p4 c4 (jnK me bt (k+1))):=hI ⟨ds++[⟨jnM me bt ((k:Int)+1),none,0,[]⟩],by rw [HS2.o,← HQ.o];simp [keyO],by rw [List.map_append,List.length_append,HLD.o];exact r4,fun d hd=>by
     rcases List.mem_append.1 hd with hd | hd
     ·exact ((AO.o d hd).ext A2.o).fr f4 (by have:=H1.o;omega)
     ·simp at hd
      subst hd
      exact ⟨jnM_ok (by have:=HN.o;unfold I64;omega) (by have:=HN.o;unfold I64;omega) (by have:=HN.o;unfold I64;omega),SlC.empty _ _ _,fun e he=>by cases he⟩⟩
    have FM4:=hI ((FM.o.tr (Fm.ext FM.o.cl A2.o) (by unfold one;have:=H1.o;omega)).tr f4 (by unfold one;have:=H1.o;omega))
    clear r4 f4 R0 AO J2 J4 A1 A2 X5 j0 j2
    go_wp2
    go_roundw
    case rel=>exact ⟨k+1,o4,p4,c4,by omega,by go_num,by rw [HL2.o],OU4,FM4⟩
    case measure=>simp [intOf];omega
  ·have hkN:k=N:=by omega
   have hx:¬ ((k:Int)+1)≤(N:Int):=by omega
   have HK:=hI hkN
   clear hkN hlt
   go_wp2
   go_ret
   have hkN:=HK.o
   subst hkN
   exact ⟨o',p,cap,rfl,OU.o,FM.o⟩
end
section
open Go Go.Sort Go.RowKit
variable {w w4:World} {o o4:Ow} {k x wb jd:Nat} {A A':AdD} {s s':NdD}
def joinsN (s:NdD):NdD:={ s with out:=jnK s.id s.bt s.n.toNat }
def tickO (s:NdD):Option (List (MsD × List EnD) × NdD):=
 if decide (s.ck<1000000) then (if s.kn then midO { s with ck:=s.ck+1 } else some (joinsN { s with ck:=s.ck+1 })).bind didO else none
theorem ntickJ_any (hcl:Cl w o) (hk:32≤k) (h:NodeP w o k x wb jd A s) {ms:List (MsD × List EnD)} (hkn:s.kn=false) (hck:s.ck<1000000) (hdid:didO (joinsN { s with ck:=s.ck+1 })=some (ms,s')) :
  Calls Tryz.prog 84 #[ptrN x] w fun e w'=>∃ o' A' p cap,e=.returned (.slice p ms.length cap)∧OutV w' o' (k+16) p cap ms∧NodeP w' o' k x wb jd A' s'∧Fm (ndC k) o o' w w':=by
 have c4:=h.c 4 _ rfl
 have f4:=h.box.box.f 4
 have hw1:wrap64 (s.ck+1)=s.ck+1:=by have:=h.ok.ck;unfold wrap64;omega
 have HK:=hI hk
 obtain ⟨N1,F1⟩:=NodeP.mod (C:=fun _=>False) (A':=A) (s':={ s with ck:=s.ck+1 }) hk h (Fm.refl hcl) (fun d hd=>hd.elim) { h.q with dk:=h.q.dk } 4 (.int .i64 (s.ck+1)) rfl { h.ok with ck:=⟨show 0≤s.ck+1 by have:=h.ok.ck;omega,show s.ck+1≤1000000 by omega⟩ }
 have H:=hI N1
 have M1:=hI F1
 have c8:(w.setCell ⟨x,4,none⟩ (.int .i64 (s.ck+1))).cell? ⟨x,8,none⟩=some (.bool false):=by
  have:=N1.c 8 _ rfl
  rw [show ({ s with ck:=s.ck+1 }:NdD).kn=false from hkn] at this
  exact this
 have HD:=hI hdid
 clear hkn hdid N1 F1 hcl h hck hk
 go_enter Tryz.func84,Tryz.ntmps84
 go_upto_region 5 with fail
 clear c4 f4 c8 hw1
 generalize w.setCell ⟨x,4,none⟩ (.int .i64 (s.ck+1))=w1 at *
 obtain ⟨s1,hs1⟩:∃ s1:NdD,s1={ s with ck:=s.ck+1 }:=⟨_,rfl⟩
 rw [← hs1] at H HD
 clear hs1
 have c7:=H.o.c 7 _ rfl
 go_wp2_with fail
 refine (jask_any (c:=k+16) M1.o.cl (by omega) (by omega) (by omega) H.o.q.jn H.o.ok.id H.o.ok.n ⟨H.o.ok.bt.1,by have:=H.o.ok.bt.2;omega⟩).mono ?_
 rintro e w2 ⟨o2,p2,cap2,rfl,ou2,m2⟩
 have hC:∀ d,one (k+16) d→ndC k d∧d≠k:=fun d hd=>by unfold one at hd;unfold ndC;omega
 have D2:=hI (H.o.box.fr m2 (by have:=HK.o;omega) (fun e=>(hC _ e).2 rfl))
 have b33:=D2.o.box.c 33 _ rfl
 have f33:=D2.o.box.f 33
 obtain ⟨N3,F3⟩:=NodeP.mod (A':={ A with op:=p2,oc:=cap2 }) (s':=joinsN s1) HK.o H.o m2 hC (H.o.q.set_ou HK.o ou2 m2 (fun d hd=>.inl hd)) 33 (.slice p2 (jnK s1.id s1.bt s1.n.toNat).length cap2) rfl { H.o.ok with out:=(by show (jnK s1.id s1.bt s1.n.toNat).length≤1000;have:=jnK_le s1.id s1.bt s1.n.toNat;have:=H.o.ok.n;omega) }
 have NN:=hI N3
 have MM:=hI (M1.o.tr F3 (nd0 HK.o))
 clear N3 F3 hC ou2 m2 H M1 c7
 go_upto_region 14 with fail
 clear b33 f33 D2
 generalize w2.setCell ⟨x,33,none⟩ (.slice p2 (jnK s1.id s1.bt s1.n.toNat).length cap2)=w3 at *
 go_wp2_with fail
 refine (ndid_any MM.o.cl HK.o NN.o HD.o).mono ?_
 rintro e w90 ⟨o90,A90,p90,c90,rfl,ou90,n90,m90⟩
 have OU90:=hI ou90
 have N90:=hI n90
 have M90:=hI (MM.o.tr m90 (nd0 HK.o))
 clear ou90 n90 m90
 go_wp2
 go_ret
 exact ⟨o90,A90,p90,c90,rfl,OU90.o,N90.o,M90.o⟩
theorem ntickK_any (hcl:Cl w o) (hk:32≤k) (h:NodeP w o k x wb jd A s) {ms:List (MsD × List EnD)} {s2:NdD} (hkn:s.kn=true) (hck:s.ck<1000000) (hmid:midO { s with ck:=s.ck+1 }=some s2) (hdid:didO s2=some (ms,s')) :
  Calls Tryz.prog 84 #[ptrN x] w fun e w'=>∃ o' A' p cap,e=.returned (.slice p ms.length cap)∧OutV w' o' (k+16) p cap ms∧NodeP w' o' k x wb jd A' s'∧Fm (ndC k) o o' w w':=by
 have c4:=h.c 4 _ rfl
 have f4:=h.box.box.f 4
 have hw1:wrap64 (s.ck+1)=s.ck+1:=by have:=h.ok.ck;unfold wrap64;omega
 have HK:=hI hk
 obtain ⟨N1,F1⟩:=NodeP.mod (C:=fun _=>False) (A':=A) (s':={ s with ck:=s.ck+1 }) hk h (Fm.refl hcl) (fun d hd=>hd.elim) { h.q with dk:=h.q.dk } 4 (.int .i64 (s.ck+1)) rfl { h.ok with ck:=⟨show 0≤s.ck+1 by have:=h.ok.ck;omega,show s.ck+1≤1000000 by omega⟩ }
 have H:=hI N1
 have M1:=hI F1
 have c8:(w.setCell ⟨x,4,none⟩ (.int .i64 (s.ck+1))).cell? ⟨x,8,none⟩=some (.bool true):=by
  have:=N1.c 8 _ rfl
  rw [show ({ s with ck:=s.ck+1 }:NdD).kn=true from hkn] at this
  exact this
 have HM:=hI hmid
 have HD:=hI hdid
 clear hkn hmid hdid N1 F1 hcl h hck hk
 go_enter Tryz.func84,Tryz.ntmps84
 go_upto_region 6 with fail
 clear c4 f4 c8 hw1
 generalize w.setCell ⟨x,4,none⟩ (.int .i64 (s.ck+1))=w1 at *
 obtain ⟨s1,hs1⟩:∃ s1:NdD,s1={ s with ck:=s.ck+1 }:=⟨_,rfl⟩
 rw [← hs1] at H HM
 clear hs1
 cases hv:s1.v with
 | none=>
  have HM2:Hid ((if inV s1&&s1.mi then decO s1 else if lateN s1 then propO s1 else if inV s1 then askO s1 else some s1)=some s2):=hI (by
   have:=HM.o
   unfold midO at this
   rw [hv] at this
   exact this)
  have HV0:Hid (A.v=none):=hI (by
   have:=H.o.q.vt
   rw [hv] at this
   exact this)
  clear hv HM
  obtain ⟨W6,hW⟩:∃ W6,W6=w1.drew:=⟨_,rfl⟩
  have X6:Hid (Ext w1 W6):=hI (by rw [hW];exact Ext.drew w1)
  replace H:=hI (H.o.ext X6.o)
  have g17:∀ d os,(grow (redrawn W6 d) os).cell? ⟨x,17,none⟩=some (.pointer none):=by
   have:=H.o.g 17 _ rfl
   rw [HV0.o] at this
   exact this
  refine att [0,1,2,3,4,5,6,7,8,9,11,12,13,14,10,15,16,17,18] [] ?_
  rw [← hW]
  clear hW
  repeat ((first|refine aqq fun K hK=>?_|refine akk fun K hK=>?_);go_big_quiet_op;refine hK _ ?_;clear hK K)
  refine ra_nil ?_
  refine rt_nil ?_
  have NC:=H
  have MC:=hI (M1.o.tr (Fm.ext M1.o.cl X6.o) (nd0 HK.o))
  clear H M1 X6 g17
  go_wp2_with fail
  refine (ndecides_any NC.o).mono ?_
  cases hde:inV s1&&s1.mi
  ·rintro e w21 ⟨rfl,x21⟩
   have HX2:Hid ((if lateN s1 then propO s1 else if inV s1 then askO s1 else some s1)=some s2):=hI (by have:=HM2.o;rw [hde] at this;exact this)
   replace NC:=hI (NC.o.ext x21)
   replace MC:=hI (MC.o.tr (Fm.ext MC.o.cl x21) (nd0 HK.o))
   clear x21 hde HM2
   go_wp2_with fail
   refine (nlate_any NC.o).mono ?_
   cases hla:lateN s1
   ·rintro e w22 ⟨rfl,x22⟩
    have HX3:Hid ((if inV s1 then askO s1 else some s1)=some s2):=hI (by have:=HX2.o;rw [hla] at this;exact this)
    replace NC:=hI (NC.o.ext x22)
    replace MC:=hI (MC.o.tr (Fm.ext MC.o.cl x22) (nd0 HK.o))
    clear x22 hla HX2
    go_wp2_with fail
    refine (nin_any NC.o).mono ?_
    cases hin:inV s1
    ·rintro e w23 ⟨rfl,x23⟩
     have hx4:s1=s2:=by have:=HX3.o;rw [hin] at this;exact Option.some.inj this
     have NN:=hI (NC.o.ext x23)
     rw [hx4] at NN
     have MM:=hI (MC.o.tr (Fm.ext MC.o.cl x23) (nd0 HK.o))
     clear x23 hin HX3 hx4
     go_wp2_with fail
     refine (ndid_any MM.o.cl HK.o NN.o HD.o).mono ?_
     rintro e w90 ⟨o90,A90,p90,c90,rfl,ou90,n90,m90⟩
     have OU90:=hI ou90
     have N90:=hI n90
     have M90:=hI (MM.o.tr m90 (nd0 HK.o))
     clear ou90 n90 m90
     go_wp2
     go_ret
     exact ⟨o90,A90,p90,c90,rfl,OU90.o,N90.o,M90.o⟩
    ·rintro e w23 ⟨rfl,x23⟩
     have HX:Hid (askO s1=some s2):=hI (by have:=HX3.o;rw [hin] at this;exact this)
     replace NC:=hI (NC.o.ext x23)
     replace MC:=hI (MC.o.tr (Fm.ext MC.o.cl x23) (nd0 HK.o))
     clear x23 hin HX3
     go_wp2_with fail
     refine (nask_any MC.o.cl HK.o NC.o HX.o).mono ?_
     rintro e w80 ⟨rfl,o80,A80,n80,m80⟩
     have NN:=hI n80
     have MM:=hI (MC.o.tr m80 (nd0 HK.o))
     clear n80 m80
     go_wp2_with fail
     refine (ndid_any MM.o.cl HK.o NN.o HD.o).mono ?_
     rintro e w90 ⟨o90,A90,p90,c90,rfl,ou90,n90,m90⟩
     have OU90:=hI ou90
     have N90:=hI n90
     have M90:=hI (MM.o.tr m90 (nd0 HK.o))
     clear ou90 n90 m90
     go_wp2
     go_ret
     exact ⟨o90,A90,p90,c90,rfl,OU90.o,N90.o,M90.o⟩
   ·rintro e w22 ⟨rfl,x22⟩
    have HX:Hid (propO s1=some s2):=hI (by have:=HX2.o;rw [hla] at this;exact this)
    replace NC:=hI (NC.o.ext x22)
    replace MC:=hI (MC.o.tr (Fm.ext MC.o.cl x22) (nd0 HK.o))
    clear x22 hla HX2
    go_wp2_with fail
    refine (nprop_any MC.o.cl HK.o NC.o HX.o).mono ?_
    rintro e w80 ⟨rfl,o80,A80,n80,m80⟩
    have NN:=hI n80
    have MM:=hI (MC.o.tr m80 (nd0 HK.o))
    clear n80 m80
    go_wp2_with fail
    refine (ndid_any MM.o.cl HK.o NN.o HD.o).mono ?_
    rintro e w90 ⟨o90,A90,p90,c90,rfl,ou90,n90,m90⟩
    have OU90:=hI ou90
    have N90:=hI n90
    have M90:=hI (MM.o.tr m90 (nd0 HK.o))
    clear ou90 n90 m90
    go_wp2
    go_ret
    exact ⟨o90,A90,p90,c90,rfl,OU90.o,N90.o,M90.o⟩
  ·rintro e w21 ⟨rfl,x21⟩
   have HX:Hid (decO s1=some s2):=hI (by have:=HM2.o;rw [hde] at this;exact this)
   replace NC:=hI (NC.o.ext x21)
   replace MC:=hI (MC.o.tr (Fm.ext MC.o.cl x21) (nd0 HK.o))
   clear x21 hde HM2
   go_wp2_with fail
   refine (ndec_any MC.o.cl HK.o NC.o HX.o).mono ?_
   rintro e w80 ⟨rfl,o80,A80,n80,m80⟩
   have NN:=hI n80
   have MM:=hI (MC.o.tr m80 (nd0 HK.o))
   clear n80 m80
   go_wp2_with fail
   refine (ndid_any MM.o.cl HK.o NN.o HD.o).mono ?_
   rintro e w90 ⟨o90,A90,p90,c90,rfl,ou90,n90,m90⟩
   have OU90:=hI ou90
   have N90:=hI n90
   have M90:=hI (MM.o.tr m90 (nd0 HK.o))
   clear ou90 n90 m90
   go_wp2
   go_ret
   exact ⟨o90,A90,p90,c90,rfl,OU90.o,N90.o,M90.o⟩
 | some v=>
  obtain ⟨vw,vs⟩:=v
  obtain ⟨vg,hvg⟩:∃ vg,A.v=some vg:=by
   have:=H.o.q.vt
   rw [hv] at this
   obtain ⟨g,hg,-⟩:=this
   exact ⟨g,hg⟩
  have HVG:=hI hvg
  have HSV:=hI hv
  clear hvg
  by_cases he:vw=s1.dv
  ·have HM2:Hid (gathO s1=some s2):=hI (by
    have:=HM.o
    unfold midO at this
    rw [hv] at this
    simp only [decide_eq_true he,if_true] at this
    exact this)
   have he1:(vw==s1.dv)=true:=by simpa using he
   clear hv HM he
   obtain ⟨W6,hW⟩:∃ W6,W6=w1.drew:=⟨_,rfl⟩
   have X6:Hid (Ext w1 W6):=hI (by rw [hW];exact Ext.drew w1)
   replace H:=hI (H.o.ext X6.o)
   have g17:∀ d os,(grow (redrawn W6 d) os).cell? ⟨x,17,none⟩=some (ptrN vg):=by
    have:=H.o.g 17 _ rfl
    rw [HVG.o] at this
    exact this
   have g2:=H.o.g 2 _ rfl
   refine att [0,1,2,3,4,5,6,7,8,9,11,12,13,14,10,15,16,17,18] [] ?_
   rw [← hW]
   clear hW
   repeat ((first|refine aqq fun K hK=>?_|refine akk fun K hK=>?_);go_big_quiet_op;refine hK _ ?_;clear hK K)
   refine acc fun K hK=>?_
   go_simp
   refine (vview_any (H.o.vs HSV.o HVG.o)).mono ?_
   rintro e w7 ⟨rfl,rfl⟩
   refine hK _ _ (Ext.rfl' _) ?_;clear hK K
   repeat ((first|refine aqq fun K hK=>?_|refine akk fun K hK=>?_);go_big_quiet_op;refine hK _ ?_;clear hK K)
   refine acc fun K hK=>?_
   go_simp
   refine (dview_any H.o.q.dk).mono ?_
   rintro e w8 ⟨rfl,rfl⟩
   refine hK _ _ (Ext.rfl' _) ?_;clear hK K
   repeat ((first|refine aqq fun K hK=>?_|refine akk fun K hK=>?_);go_big_quiet_op;refine hK _ ?_;clear hK K)
   refine ra_nil ?_
   refine rt_nil ?_
   have NC:=H
   have MC:=hI (M1.o.tr (Fm.ext M1.o.cl X6.o) (nd0 HK.o))
   clear H M1 X6 g17 g2
   have HX:=HM2
   clear HM2
   go_wp2_with fail
   refine (ngath_any MC.o.cl HK.o NC.o HX.o).mono ?_
   rintro e w80 ⟨rfl,o80,A80,n80,m80⟩
   have NN:=hI n80
   have MM:=hI (MC.o.tr m80 (nd0 HK.o))
   clear n80 m80
   go_wp2_with fail
   refine (ndid_any MM.o.cl HK.o NN.o HD.o).mono ?_
   rintro e w90 ⟨o90,A90,p90,c90,rfl,ou90,n90,m90⟩
   have OU90:=hI ou90
   have N90:=hI n90
   have M90:=hI (MM.o.tr m90 (nd0 HK.o))
   clear ou90 n90 m90
   go_wp2
   go_ret
   exact ⟨o90,A90,p90,c90,rfl,OU90.o,N90.o,M90.o⟩
  ·have HM2:Hid ((if inV s1&&s1.mi then decO s1 else if lateN s1 then propO s1 else if inV s1 then askO s1 else some s1)=some s2):=hI (by
    have:=HM.o
    unfold midO at this
    rw [hv] at this
    simp only [decide_eq_false he,Bool.false_eq_true,if_false] at this
    exact this)
   have he1:(vw==s1.dv)=false:=by simpa using he
   clear hv HM he
   obtain ⟨W6,hW⟩:∃ W6,W6=w1.drew:=⟨_,rfl⟩
   have X6:Hid (Ext w1 W6):=hI (by rw [hW];exact Ext.drew w1)
   replace H:=hI (H.o.ext X6.o)
   have g17:∀ d os,(grow (redrawn W6 d) os).cell? ⟨x,17,none⟩=some (ptrN vg):=by
    have:=H.o.g 17 _ rfl
    rw [HVG.o] at this
    exact this
   have g2:=H.o.g 2 _ rfl
   refine att [0,1,2,3,4,5,6,7,8,9,11,12,13,14,10,15,16,17,18] [] ?_
   rw [← hW]
   clear hW
   repeat ((first|refine aqq fun K hK=>?_|refine akk fun K hK=>?_);go_big_quiet_op;refine hK _ ?_;clear hK K)
   refine acc fun K hK=>?_
   go_simp
   refine (vview_any (H.o.vs HSV.o HVG.o)).mono ?_
   rintro e w7 ⟨rfl,rfl⟩
   refine hK _ _ (Ext.rfl' _) ?_;clear hK K
   repeat ((first|refine aqq fun K hK=>?_|refine akk fun K hK=>?_);go_big_quiet_op;refine hK _ ?_;clear hK K)
   refine acc fun K hK=>?_
   go_simp
   refine (dview_any H.o.q.dk).mono ?_
   rintro e w8 ⟨rfl,rfl⟩
   refine hK _ _ (Ext.rfl' _) ?_;clear hK K
   repeat ((first|refine aqq fun K hK=>?_|refine akk fun K hK=>?_);go_big_quiet_op;refine hK _ ?_;clear hK K)
   refine ra_nil ?_
   refine rt_nil ?_
   have NC:=H
   have MC:=hI (M1.o.tr (Fm.ext M1.o.cl X6.o) (nd0 HK.o))
   clear H M1 X6 g17 g2
   go_wp2_with fail
   refine (ndecides_any NC.o).mono ?_
   cases hde:inV s1&&s1.mi
   ·rintro e w21 ⟨rfl,x21⟩
    have HX2:Hid ((if lateN s1 then propO s1 else if inV s1 then askO s1 else some s1)=some s2):=hI (by have:=HM2.o;rw [hde] at this;exact this)
    replace NC:=hI (NC.o.ext x21)
    replace MC:=hI (MC.o.tr (Fm.ext MC.o.cl x21) (nd0 HK.o))
    clear x21 hde HM2
    go_wp2_with fail
    refine (nlate_any NC.o).mono ?_
    cases hla:lateN s1
    ·rintro e w22 ⟨rfl,x22⟩
     have HX3:Hid ((if inV s1 then askO s1 else some s1)=some s2):=hI (by have:=HX2.o;rw [hla] at this;exact this)
     replace NC:=hI (NC.o.ext x22)
     replace MC:=hI (MC.o.tr (Fm.ext MC.o.cl x22) (nd0 HK.o))
     clear x22 hla HX2
     go_wp2_with fail
     refine (nin_any NC.o).mono ?_
     cases hin:inV s1
     ·rintro e w23 ⟨rfl,x23⟩
      have hx4:s1=s2:=by have:=HX3.o;rw [hin] at this;exact Option.some.inj this
      have NN:=hI (NC.o.ext x23)
      rw [hx4] at NN
      have MM:=hI (MC.o.tr (Fm.ext MC.o.cl x23) (nd0 HK.o))
      clear x23 hin HX3 hx4
      go_wp2_with fail
      refine (ndid_any MM.o.cl HK.o NN.o HD.o).mono ?_
      rintro e w90 ⟨o90,A90,p90,c90,rfl,ou90,n90,m90⟩
      have OU90:=hI ou90
      have N90:=hI n90
      have M90:=hI (MM.o.tr m90 (nd0 HK.o))
      clear ou90 n90 m90
      go_wp2
      go_ret
      exact ⟨o90,A90,p90,c90,rfl,OU90.o,N90.o,M90.o⟩
     ·rintro e w23 ⟨rfl,x23⟩
      have HX:Hid (askO s1=some s2):=hI (by have:=HX3.o;rw [hin] at this;exact this)
      replace NC:=hI (NC.o.ext x23)
      replace MC:=hI (MC.o.tr (Fm.ext MC.o.cl x23) (nd0 HK.o))
      clear x23 hin HX3
      go_wp2_with fail
      refine (nask_any MC.o.cl HK.o NC.o HX.o).mono ?_
      rintro e w80 ⟨rfl,o80,A80,n80,m80⟩
      have NN:=hI n80
      have MM:=hI (MC.o.tr m80 (nd0 HK.o))
      clear n80 m80
      go_wp2_with fail
      refine (ndid_any MM.o.cl HK.o NN.o HD.o).mono ?_
      rintro e w90 ⟨o90,A90,p90,c90,rfl,ou90,n90,m90⟩
      have OU90:=hI ou90
      have N90:=hI n90
      have M90:=hI (MM.o.tr m90 (nd0 HK.o))
      clear ou90 n90 m90
      go_wp2
      go_ret
      exact ⟨o90,A90,p90,c90,rfl,OU90.o,N90.o,M90.o⟩
    ·rintro e w22 ⟨rfl,x22⟩
     have HX:Hid (propO s1=some s2):=hI (by have:=HX2.o;rw [hla] at this;exact this)
     replace NC:=hI (NC.o.ext x22)
     replace MC:=hI (MC.o.tr (Fm.ext MC.o.cl x22) (nd0 HK.o))
     clear x22 hla HX2
     go_wp2_with fail
     refine (nprop_any MC.o.cl HK.o NC.o HX.o).mono ?_
     rintro e w80 ⟨rfl,o80,A80,n80,m80⟩
     have NN:=hI n80
     have MM:=hI (MC.o.tr m80 (nd0 HK.o))
     clear n80 m80
     go_wp2_with fail
     refine (ndid_any MM.o.cl HK.o NN.o HD.o).mono ?_
     rintro e w90 ⟨o90,A90,p90,c90,rfl,ou90,n90,m90⟩
     have OU90:=hI ou90
     have N90:=hI n90
     have M90:=hI (MM.o.tr m90 (nd0 HK.o))
     clear ou90 n90 m90
     go_wp2
     go_ret
     exact ⟨o90,A90,p90,c90,rfl,OU90.o,N90.o,M90.o⟩
   ·rintro e w21 ⟨rfl,x21⟩
    have HX:Hid (decO s1=some s2):=hI (by have:=HM2.o;rw [hde] at this;exact this)
    replace NC:=hI (NC.o.ext x21)
    replace MC:=hI (MC.o.tr (Fm.ext MC.o.cl x21) (nd0 HK.o))
    clear x21 hde HM2
    go_wp2_with fail
    refine (ndec_any MC.o.cl HK.o NC.o HX.o).mono ?_
    rintro e w80 ⟨rfl,o80,A80,n80,m80⟩
    have NN:=hI n80
    have MM:=hI (MC.o.tr m80 (nd0 HK.o))
    clear n80 m80
    go_wp2_with fail
    refine (ndid_any MM.o.cl HK.o NN.o HD.o).mono ?_
    rintro e w90 ⟨o90,A90,p90,c90,rfl,ou90,n90,m90⟩
    have OU90:=hI ou90
    have N90:=hI n90
    have M90:=hI (MM.o.tr m90 (nd0 HK.o))
    clear ou90 n90 m90
    go_wp2
    go_ret
    exact ⟨o90,A90,p90,c90,rfl,OU90.o,N90.o,M90.o⟩
theorem ntick_any (hcl:Cl w o) (hk:32≤k) (h:NodeP w o k x wb jd A s) {ms:List (MsD × List EnD)} (hs:tickO s=some (ms,s')) :
  Calls Tryz.prog 84 #[ptrN x] w fun e w'=>∃ o' A' p cap,e=.returned (.slice p ms.length cap)∧OutV w' o' (k+16) p cap ms∧NodeP w' o' k x wb jd A' s'∧Fm (ndC k) o o' w w':=by
 unfold tickO at hs
 split at hs
 case isFalse=>cases hs
 rename_i hc
 have hck:=of_decide_eq_true hc
 obtain ⟨s2,hmid,hdid⟩:=Option.bind_eq_some_iff.1 hs
 by_cases hkn:s.kn=true
 ·rw [if_pos hkn] at hmid
  exact ntickK_any hcl hk h hkn hck hmid hdid
 ·rw [if_neg hkn] at hmid
  cases hmid
  exact ntickJ_any hcl hk h (Bool.eq_false_iff.2 hkn) hck hdid
end
section
open Go Go.Sort Go.RowKit
theorem addsL_le:∀ (M L R:List EnD),addsL L M=some R→L.length≤60→R.length≤60
 | [],L,R,h,hl=>by
  cases h
  exact hl
 | e::M,L,R,h,hl=>by
  obtain ⟨L',h1,h2⟩:=adds_cons h
  refine addsL_le M L' R h2 ?_
  unfold addL at h1
  split at h1
  ·rename_i hc
   simp only [Bool.and_eq_true,decide_eq_true_eq] at hc
   cases h1
   simp only [List.length_append,List.length_cons,List.length_nil]
   omega
  ·cases h1
theorem jown_any {w:World} {m:MsD} {p:Option Addr} {cap:Nat} {L:List EnD} (hs:SlS 7 w p L.length cap (L.map enL)) (hl:L.length≤1000000) :
  Calls Tryz.prog 180 #[msV m p L.length cap] w fun e w'=>∃ p' cap',e=.returned (msV m p' L.length cap')∧Ext w w':=by
 obtain ⟨k1,k2,k3,k4,k5,k6,k7,k8,k9,k10,k11,k12⟩:=m
 have X1:=hI (Ext.alloc w (.cells (msA ⟨k1,k2,k3,k4,k5,k6,k7,k8,k9,k10,k11,k12⟩ p L.length cap) 76))
 have B1:=hI (BoxV.new w w.heap.size (msA ⟨k1,k2,k3,k4,k5,k6,k7,k8,k9,k10,k11,k12⟩ p L.length cap) (msL ⟨k1,k2,k3,k4,k5,k6,k7,k8,k9,k10,k11,k12⟩ p L.length cap) 76 _ rfl (Nat.le_refl _) rfl)
 obtain ⟨w1,hw1⟩:∃ w1,w1=w.alloc (.cells (msA ⟨k1,k2,k3,k4,k5,k6,k7,k8,k9,k10,k11,k12⟩ p L.length cap) 76):=⟨_,rfl⟩
 have hs1:w1.heap.size=w.heap.size+1:=by rw [hw1];simp
 have X2:=hI (Ext.alloc w1 (.cells (msA zeroM none 0 0) 76))
 have B2:=hI (BoxV.new w1 w.heap.size (msA zeroM none 0 0) (msL zeroM none 0 0) 76 (w.heap.size+1) (by omega) (by omega) rfl)
 rw [← hw1] at X1 B1
 replace B1:=hI (B1.o.ext X2.o)
 have S:=hI (hs.ext (X1.o.tr X2.o))
 have XX:=hI (X1.o.tr X2.o)
 have HL:=hI hl
 have HW:=hI hw1
 clear hw1 hs1 hs hl X1 X2
 go_enter Tryz.func180,Tryz.ntmps180
 go_upto_region 1 with fail
 change Code.wp _ _ _ _ ((w.alloc (.cells (msA ⟨k1,k2,k3,k4,k5,k6,k7,k8,k9,k10,k11,k12⟩ p L.length cap) 76)).alloc (.cells (msA zeroM none 0 0) 76))
 rw [← HW.o]
 clear HW
 generalize w1.alloc (.cells (msA zeroM none 0 0) 76)=w2 at *
 have a8:=B1.o.c 8 _ rfl
 go_wp2_with fail
 refine (eclone_any S.o (en_one L) HL.o).mono ?_
 rintro e w3 ⟨p3,c3,rfl,ow3,x3⟩
 replace B1:=hI (B1.o.ext x3)
 replace B2:=hI (B2.o.ext x3)
 replace XX:=hI (XX.o.tr x3)
 clear ow3 x3 a8 S
 have a8:=B1.o.c 8 _ rfl
 have af:=B1.o.f 8
 have B4:=hI (B1.o.put 8 (.slice p3 L.length c3))
 have G4:Hid (w3.grownBy (w3.setCell ⟨w.heap.size,8,none⟩ (.slice p3 L.length c3)) (some w.heap.size)):=hI (grown_put (grown_refl w3 (some w.heap.size)) 8 _)
 have C4:=hI (B2.o.other G4.o (by simp))
 have X4:Hid (Ext w (w3.setCell ⟨w.heap.size,8,none⟩ (.slice p3 L.length c3))):=hI (fillV_below XX.o (Nat.le_refl _) [.slice p3 L.length c3] 8)
 go_upto_region 2 with fail
 clear a8 af B1 B2 G4 XX
 generalize w3.setCell ⟨w.heap.size,8,none⟩ (.slice p3 L.length c3)=w4 at *
 have a0:=B4.o.c 0 _ rfl
 have a1:=B4.o.c 1 _ rfl
 have a2:=B4.o.c 2 _ rfl
 have a3:=B4.o.c 3 _ rfl
 have a4:=B4.o.c 4 _ rfl
 have a5:=B4.o.c 5 _ rfl
 have a6:=B4.o.c 6 _ rfl
 have a7:=B4.o.c 7 _ rfl
 have a8:=B4.o.c 8 _ rfl
 have a9:=B4.o.c 9 _ rfl
 have a10:=B4.o.c 10 _ rfl
 have a11:=B4.o.c 11 _ rfl
 have a12:=B4.o.c 12 _ rfl
 have b0:=C4.o.c 0 _ rfl
 have b1:=C4.o.c 1 _ rfl
 have b2:=C4.o.c 2 _ rfl
 have b3:=C4.o.c 3 _ rfl
 have b4:=C4.o.c 4 _ rfl
 have b5:=C4.o.c 5 _ rfl
 have b6:=C4.o.c 6 _ rfl
 have b7:=C4.o.c 7 _ rfl
 have b8:=C4.o.c 8 _ rfl
 have b9:=C4.o.c 9 _ rfl
 have b10:=C4.o.c 10 _ rfl
 have b11:=C4.o.c 11 _ rfl
 have b12:=C4.o.c 12 _ rfl
 try simp only at a0 a1 a2 a3 a4 a5 a6 a7 a8 a9 a10 a11 a12 b0 b1 b2 b3 b4 b5 b6 b7 b8 b9 b10 b11 b12
 have bf:=C4.o.f
 go_wp2
 change bodyPost _ _ _ Exit.ret _ (fillV w4 (w.heap.size+1) 0 (msL ⟨k1,k2,k3,k4,k5,k6,k7,k8,k9,k10,k11,k12⟩ p3 L.length c3))
 have FB:=hI (C4.o.fill (vs:=msL ⟨k1,k2,k3,k4,k5,k6,k7,k8,k9,k10,k11,k12⟩ p3 L.length c3) (Nat.le_refl _))
 have FX:=hI (fillV_below X4.o (Nat.le_succ _) (msL ⟨k1,k2,k3,k4,k5,k6,k7,k8,k9,k10,k11,k12⟩ p3 L.length c3) 0)
 generalize fillV w4 (w.heap.size+1) 0 (msL ⟨k1,k2,k3,k4,k5,k6,k7,k8,k9,k10,k11,k12⟩ p3 L.length c3)=w9 at *
 have f0:=FB.o.c 0 _ rfl
 have f1:=FB.o.c 1 _ rfl
 have f2:=FB.o.c 2 _ rfl
 have f3:=FB.o.c 3 _ rfl
 have f4:=FB.o.c 4 _ rfl
 have f5:=FB.o.c 5 _ rfl
 have f6:=FB.o.c 6 _ rfl
 have f7:=FB.o.c 7 _ rfl
 have f8:=FB.o.c 8 _ rfl
 have f9:=FB.o.c 9 _ rfl
 have f10:=FB.o.c 10 _ rfl
 have f11:=FB.o.c 11 _ rfl
 have f12:=FB.o.c 12 _ rfl
 exact bodyPost_ret (v:=msV ⟨k1,k2,k3,k4,k5,k6,k7,k8,k9,k10,k11,k12⟩ p3 L.length c3) (by simp [results,Tryz.results180,go_sem,f0,f1,f2,f3,f4,f5,f6,f7,f8,f9,f10,f11,f12]) rfl ⟨p3,c3,rfl,FX.o⟩
def jmB (me n bt pr:Int) (m:MsD) (L:List EnD):Bool:=
 (m.to==me&&(m.ye&&(m.nm==bt&&(decide (1≤pr)&&decide (pr≤m.vw)))))&&((decide (m.fr=decT m.vw n)&&(mostT m.mb n&&hasT m.mb m.fr))&&((addsL [] L).isSome&&(decide (m.cm≤(L.length:Int))&&(decide (1≤m.fr∧m.fr≤7)&&(decide (1≤m.vw∧m.vw≤1000000000)&&decide (0≤m.mb∧m.mb<128))))))
section
variable {w:World} {o:Ow} {cj g z0 cap0:Nat} {me n bt pr:Int} {m0:MsD} {p0:Option Addr} {got:Bool}
theorem jmay_no {m:MsD} {p:Option Addr} {cap k:Nat} (hk:m.kd≠11) :
  Calls Tryz.prog 179 #[ptrN g,msV m p k cap] w fun e w'=>e=.returned (.bool false)∧Ext w w':=by
 obtain ⟨k1,k2,k3,k4,k5,k6,k7,k8,k9,k10,k11,k12⟩:=m
 simp only at hk
 have e0:(k1 != 11)=true:=by simpa using hk
 have X1:=hI (Ext.alloc w (.cells (msA ⟨k1,k2,k3,k4,k5,k6,k7,k8,k9,k10,k11,k12⟩ p k cap) 76))
 have B1:=hI (BoxV.new w w.heap.size (msA ⟨k1,k2,k3,k4,k5,k6,k7,k8,k9,k10,k11,k12⟩ p k cap) (msL ⟨k1,k2,k3,k4,k5,k6,k7,k8,k9,k10,k11,k12⟩ p k cap) 76 _ rfl (Nat.le_refl _) rfl)
 clear hk
 go_enter Tryz.func179,Tryz.ntmps179
 go_upto_region 1 with fail
 change Code.wp _ _ _ _ (w.alloc (.cells (msA ⟨k1,k2,k3,k4,k5,k6,k7,k8,k9,k10,k11,k12⟩ p k cap) 76))
 generalize w.alloc (.cells (msA ⟨k1,k2,k3,k4,k5,k6,k7,k8,k9,k10,k11,k12⟩ p k cap) 76)=w1 at *
 generalize w.heap.size=mb at *
 obtain ⟨W2,hW⟩:∃ W2,W2=w1.drew:=⟨_,rfl⟩
 have X2:Hid (Ext w1 W2):=hI (by rw [hW];exact Ext.drew w1)
 replace B1:=hI (B1.o.ext X2.o)
 have gm0:=fun d os=>Ext.cell (Ext.reg W2 d os) (B1.o.c 0 _ rfl)
 refine att [0,1,2,3,4,5,6,7,8,9,10,11,12,13,14,15,16,17,18,19,20,21,22,23,24,25,26,27,28,29,30,31,32,33,34,35,36,37,38,39,40,41,42,43,44,45,46,47] [] ?_
 rw [← hW]
 clear hW
 repeat ((first|refine aqq fun K hK=>?_|refine akk fun K hK=>?_);go_big_quiet_op;refine hK _ ?_;clear hK K)
 refine ra_nil ?_
 refine rt_nil ?_
 have XX:=hI (X1.o.tr X2.o)
 go_wp2
 go_ret
 exact ⟨rfl,XX.o⟩
theorem jmay_yes (J:BoxC w o cj g (jnL me n bt pr m0 p0 z0 cap0 got)) (hn:3≤n∧n≤7) {m:MsD} {p:Option Addr} {cap:Nat} {L:List EnD} (hcl:Cl w o) (hsl:SlC 7 w o p L.length cap (L.map enL)) (hk:m.kd=11) (hb:jmB me n bt pr m L=true) :
  Calls Tryz.prog 179 #[ptrN g,msV m p L.length cap] w fun e w'=>e=.returned (.bool true)∧Ext w w':=by
 unfold jmB at hb
 simp only [Bool.and_eq_true,decide_eq_true_eq,beq_iff_eq] at hb
 obtain ⟨⟨a1,a2,a3,a0,a4⟩,⟨b1,b2,b4⟩,b5,b6,b7,b8,b9⟩:=hb
 obtain ⟨k1,k2,k3,k4,k5,k6,k7,k8,k9,k10,k11,k12⟩:=m
 simp only at a1 a2 a3 a0 a4 b1 b2 b4 b5 b6 b7 b8 b9 hk
 have X1:Hid (Ext w (w.alloc (.cells (msA ⟨k1,k2,k3,k4,k5,k6,k7,k8,k9,k10,k11,k12⟩ p L.length cap) 76))):=hI (Ext.alloc w _)
 have AD:=hI (addsL_self b5)
 have BB:=hI (And.intro b2 (And.intro b4 (And.intro b7 (And.intro b8 (And.intro b9 hn)))))
 have e0:(k1 != 11)=false:=by simpa using hk
 have e1:(k3 != me)=false:=by simpa using a1
 have e2:=hI a2
 have e3:(k10 != bt)=false:=by simpa using a3
 have e4:decide (k5<pr)=false:=decide_eq_false (by omega)
 have e8:¬ pr<1:=by omega
 have e5:(k2 != decT k5 n)=false:=by simpa using b1
 have e7:((L.length:Int)==(L.length:Int))=true:=beq_self_eq_true _
 have e6:decide (k9≤(L.length:Int))=true:=decide_eq_true b6
 clear a1 a2 a3 a0 a4 b1 b2 b4 b5 b6 b7 b8 b9 hk hn
 have MB:=hI (BoxC.loose hcl (msA ⟨k1,k2,k3,k4,k5,k6,k7,k8,k9,k10,k11,k12⟩ p L.length cap) (msL ⟨k1,k2,k3,k4,k5,k6,k7,k8,k9,k10,k11,k12⟩ p L.length cap) 76 rfl)
 have S:=hI (hsl.ext X1.o)
 have HJ:=hI (J.ext X1.o)
 clear hcl hsl J
 go_enter Tryz.func179,Tryz.ntmps179
 go_upto_region 1 with fail
 change Code.wp _ _ _ _ (w.alloc (.cells (msA ⟨k1,k2,k3,k4,k5,k6,k7,k8,k9,k10,k11,k12⟩ p L.length cap) 76))
 obtain ⟨mb,hmb⟩:∃ mb,mb=w.heap.size:=⟨_,rfl⟩
 rw [← hmb] at MB ⊢
 clear hmb
 generalize w.alloc (.cells (msA ⟨k1,k2,k3,k4,k5,k6,k7,k8,k9,k10,k11,k12⟩ p L.length cap) 76)=w1 at *
 obtain ⟨W2,hW⟩:∃ W2,W2=w1.drew:=⟨_,rfl⟩
 have X2:Hid (Ext w1 W2):=hI (by rw [hW];exact Ext.drew w1)
 replace HJ:=hI (HJ.o.ext X2.o)
 replace S:=hI (S.o.ext X2.o)
 replace MB:=hI (MB.o.ext X2.o)
 have gj0:=fun d os=>Ext.cell (Ext.reg W2 d os) (HJ.o.box.c 0 _ rfl)
 have gj1:=fun d os=>Ext.cell (Ext.reg W2 d os) (HJ.o.box.c 1 _ rfl)
 have gj2:=fun d os=>Ext.cell (Ext.reg W2 d os) (HJ.o.box.c 2 _ rfl)
 have gj3:=fun d os=>Ext.cell (Ext.reg W2 d os) (HJ.o.box.c 3 _ rfl)
 have gm0:=fun d os=>Ext.cell (Ext.reg W2 d os) (MB.o.box.c 0 _ rfl)
 have gm1:=fun d os=>Ext.cell (Ext.reg W2 d os) (MB.o.box.c 1 _ rfl)
 have gm2:=fun d os=>Ext.cell (Ext.reg W2 d os) (MB.o.box.c 2 _ rfl)
 have gm4:=fun d os=>Ext.cell (Ext.reg W2 d os) (MB.o.box.c 4 _ rfl)
 have gm10:=fun d os=>Ext.cell (Ext.reg W2 d os) (MB.o.box.c 10 _ rfl)
 have gm12:∀ d os,(grow (redrawn W2 d) os).cell? ⟨mb,12,none⟩=some (.bool true):=fun d os=>(Ext.cell (Ext.reg W2 d os) (MB.o.box.c 12 _ rfl)).trans (by rw [e2.out])
 refine att [0,1,2,3,4,5,6,7,8,9,10,11,12,13,14,15,16,17,18,19,20,21,22,23,24,25,26,27,28,29,30,31,32,33,34,35,36,37,38,39,40,41,42,43,44,45,46,47] [] ?_
 rw [← hW]
 clear hW
 repeat ((first|refine aqq fun K hK=>?_|refine akk fun K hK=>?_);go_big_quiet_op;refine hK _ ?_;clear hK K)
 refine acc fun K hK=>?_
 go_simp
 refine (tdec_any k5 n ⟨BB.o.2.2.2.1.1,by have:=BB.o.2.2.2.1.2;omega⟩ BB.o.2.2.2.2.2 _).mono ?_
 rintro e w3 ⟨rfl,rfl⟩
 refine hK _ _ (Ext.rfl' _) ?_;clear hK K
 repeat ((first|refine aqq fun K hK=>?_|refine akk fun K hK=>?_);go_big_quiet_op;refine hK _ ?_;clear hK K)
 refine ra_nil ?_
 refine rt_nil ?_
 clear gj0 gj1 gj2 gj3 gm0 gm1 gm2 gm4 gm10 gm12
 have m6:=MB.o.box.c 6 _ rfl
 go_upto_region 4 with fail
 clear m6
 obtain ⟨W4,hW⟩:∃ W4,W4=W2.drew:=⟨_,rfl⟩
 have X4:Hid (Ext W2 W4):=hI (by rw [hW];exact Ext.drew W2)
 replace HJ:=hI (HJ.o.ext X4.o)
 replace S:=hI (S.o.ext X4.o)
 replace MB:=hI (MB.o.ext X4.o)
 have gj1:=fun d os=>Ext.cell (Ext.reg W4 d os) (HJ.o.box.c 1 _ rfl)
 have gm1:=fun d os=>Ext.cell (Ext.reg W4 d os) (MB.o.box.c 1 _ rfl)
 have gm8:=fun d os=>Ext.cell (Ext.reg W4 d os) (MB.o.box.c 8 _ rfl)
 have gm9:=fun d os=>Ext.cell (Ext.reg W4 d os) (MB.o.box.c 9 _ rfl)
 refine att [0,1,2,3,4,5,6,7,8,9,10,11,12,13,14,17,18,19,15,16,20,21,22,23,24,25,26,27,28,29,30] [] ?_
 rw [← hW]
 clear hW
 repeat ((first|refine aqq fun K hK=>?_|refine akk fun K hK=>?_);go_big_quiet_op;refine hK _ ?_;clear hK K)
 refine acc fun K hK=>?_
 go_simp
 refine (tmost_any k7 n BB.o.2.2.2.2.1 BB.o.2.2.2.2.2 _).mono ?_
 rw [BB.o.1]
 rintro e w3 ⟨rfl,rfl⟩
 refine hK _ _ (Ext.rfl' _) ?_;clear hK K
 repeat ((first|refine aqq fun K hK=>?_|refine akk fun K hK=>?_);go_big_quiet_op;refine hK _ ?_;clear hK K)
 refine acc fun K hK=>?_
 go_simp
 refine (thas_any k7 k2 BB.o.2.2.2.2.1 BB.o.2.2.1 _).mono ?_
 rw [BB.o.2.1]
 rintro e w3 ⟨rfl,rfl⟩
 refine hK _ _ (Ext.rfl' _) ?_;clear hK K
 repeat ((first|refine aqq fun K hK=>?_|refine akk fun K hK=>?_);go_big_quiet_op;refine hK _ ?_;clear hK K)
 refine acc fun K hK=>?_
 go_simp
 refine (lnew_ext S.o.sl (fun k hk=>(S.o.lt k hk).1) (fun e he=>mayB_ok (AD.o.2 e he)) AD.o.1).mono ?_
 rintro e w4 ⟨o4,lg,rfl,lv4,x4⟩
 have LV:=hI lv4
 have X5:=hI (((X1.o.tr X2.o).tr X4.o).tr x4)
 have MB4:=hI (MB.o.ext x4)
 clear gm8 gm9
 have gm9:=fun d os=>Ext.cell (Ext.reg w4 d os) (MB4.o.box.c 9 _ rfl)
 have gm8:=fun d os=>Ext.cell (Ext.reg w4 d os) (MB4.o.box.c 8 _ rfl)
 refine hK _ _ x4 ?_
 clear hK K x4 lv4
 repeat ((first|refine aqq fun K hK=>?_|refine akk fun K hK=>?_);go_big_quiet_op;refine hK _ ?_;clear hK K)
 refine acc fun K hK=>?_
 go_simp
 refine (llen_any LV.o).mono ?_
 rintro e w5 ⟨rfl,rfl⟩
 refine hK _ _ (Ext.rfl' _) ?_;clear hK K
 repeat ((first|refine aqq fun K hK=>?_|refine akk fun K hK=>?_);go_big_quiet_op;refine hK _ ?_;clear hK K)
 refine ra_nil ?_
 refine rt_nil ?_
 go_wp2
 go_ret
 exact ⟨rfl,X5.o⟩
theorem jhear_no (J:BoxC w o cj g (jnL me n bt pr m0 p0 z0 cap0 false)) {m:MsD} {p:Option Addr} {cap k:Nat} (hk:m.kd≠11) :
  Calls Tryz.prog 153 #[ptrN g,msV m p k cap] w fun e w'=>e=.returned (.bool false)∧Ext w w':=by
 have X1:=hI (Ext.alloc w (.cells (msA m p k cap) 76))
 have B1:=hI (BoxV.new w w.heap.size (msA m p k cap) (msL m p k cap) 76 _ rfl (Nat.le_refl _) rfl)
 obtain ⟨k1,k2,k3,k4,k5,k6,k7,k8,k9,k10,k11,k12⟩:=m
 have HK:=hI hk
 have HJ:=hI (J.ext X1.o)
 clear hk J
 go_enter Tryz.func153,Tryz.ntmps153
 go_upto_region 1 with fail
 change Code.wp _ _ _ _ (w.alloc (.cells (msA ⟨k1,k2,k3,k4,k5,k6,k7,k8,k9,k10,k11,k12⟩ p k cap) 76))
 generalize w.alloc (.cells (msA ⟨k1,k2,k3,k4,k5,k6,k7,k8,k9,k10,k11,k12⟩ p k cap) 76)=w1 at *
 generalize w.heap.size=mb at *
 have j17:=HJ.o.box.c 17 _ rfl
 have d0:=B1.o.c 0 _ rfl
 have d1:=B1.o.c 1 _ rfl
 have d2:=B1.o.c 2 _ rfl
 have d3:=B1.o.c 3 _ rfl
 have d4:=B1.o.c 4 _ rfl
 have d5:=B1.o.c 5 _ rfl
 have d6:=B1.o.c 6 _ rfl
 have d7:=B1.o.c 7 _ rfl
 have d8:=B1.o.c 8 _ rfl
 have d9:=B1.o.c 9 _ rfl
 have d10:=B1.o.c 10 _ rfl
 have d11:=B1.o.c 11 _ rfl
 have d12:=B1.o.c 12 _ rfl
 go_wp2_with fail
 refine (jmay_no (m:=⟨k1,k2,k3,k4,k5,k6,k7,k8,k9,k10,k11,k12⟩) (p:=p) (k:=k) (cap:=cap) (g:=g) HK.o).mono ?_
 rintro e w2 ⟨rfl,x2⟩
 have XX:=hI (X1.o.tr x2)
 clear x2
 go_wp2
 go_ret
 exact ⟨rfl,XX.o⟩
theorem BoxC.word (J:BoxC w o cj g (jnL me n bt pr m0 p0 z0 cap0 got)) (m:MsD) (p:Option Addr) (z cap:Nat):BoxC ((fillV w g 4 (msL m p z cap)).setCell ⟨g,17,none⟩ (.bool true)) o cj g (jnL me n bt pr m p z cap true):=
 ((((((((((((((J.put 4 (.int .i64 m.kd)).put 5 (.int .i64 m.fr)).put 6 (.int .i64 m.to)).put 7 (.int .i64 m.bt)).put 8 (.int .i64 m.vw)).put 9 (.int .i64 m.ls)).put 10 (.int .i64 m.mb)).put 11 (.int .i64 m.po)).put 12 (.slice p z cap)).put 13 (.int .i64 m.cm)).put 14 (.int .i64 m.nm)).put 15 (.int .i64 m.ck)).put 16 (.bool m.ye)).put 17 (.bool true))
theorem jhear_yes (J:BoxC w o cj g (jnL me n bt pr m0 p0 z0 cap0 false)) (hc:1<cj) (hn:3≤n∧n≤7) {m:MsD} {p:Option Addr} {cap:Nat} {L:List EnD} (hcl:Cl w o) (hsl:SlC 7 w o p L.length cap (L.map enL)) (hk:m.kd=11) (hb:jmB me n bt pr m L=true) :
  Calls Tryz.prog 153 #[ptrN g,msV m p L.length cap] w fun e w'=>e=.returned (.bool true)∧JnV w' o cj g me n bt pr true∧Fm (one cj) o o w w':=by
 have X1:=hI (Ext.alloc w (.cells (msA m p L.length cap) 76))
 have HL:Hid (L.length≤1000000):=hI (by
  have h1:=hb
  unfold jmB at h1
  simp only [Bool.and_eq_true] at h1
  have h2:=addsL_self h1.2.2.1
  have h3:=addsL_le _ _ _ h2.1 (by simp)
  omega)
 have B1:=hI (BoxV.new w w.heap.size (msA m p L.length cap) (msL m p L.length cap) 76 _ rfl (Nat.le_refl _) rfl)
 obtain ⟨k1,k2,k3,k4,k5,k6,k7,k8,k9,k10,k11,k12⟩:=m
 have HK:=hI hk
 have HB:=hI hb
 have HN:=hI hn
 have H1:=hI hc
 have HJ:=hI (J.ext X1.o)
 have S:=hI (hsl.ext X1.o)
 have HC:=hI (hcl.ext X1.o)
 have FM:=hI (Fm.ext (C:=one cj) hcl X1.o)
 clear hk hb hn J hsl hcl X1 hc
 go_enter Tryz.func153,Tryz.ntmps153
 go_upto_region 1 with fail
 change Code.wp _ _ _ _ (w.alloc (.cells (msA ⟨k1,k2,k3,k4,k5,k6,k7,k8,k9,k10,k11,k12⟩ p L.length cap) 76))
 generalize w.alloc (.cells (msA ⟨k1,k2,k3,k4,k5,k6,k7,k8,k9,k10,k11,k12⟩ p L.length cap) 76)=w1 at *
 generalize w.heap.size=mb at *
 have j17:=HJ.o.box.c 17 _ rfl
 have d0:=B1.o.c 0 _ rfl
 have d1:=B1.o.c 1 _ rfl
 have d2:=B1.o.c 2 _ rfl
 have d3:=B1.o.c 3 _ rfl
 have d4:=B1.o.c 4 _ rfl
 have d5:=B1.o.c 5 _ rfl
 have d6:=B1.o.c 6 _ rfl
 have d7:=B1.o.c 7 _ rfl
 have d8:=B1.o.c 8 _ rfl
 have d9:=B1.o.c 9 _ rfl
 have d10:=B1.o.c 10 _ rfl
 have d11:=B1.o.c 11 _ rfl
 have d12:=B1.o.c 12 _ rfl
 go_wp2_with fail
 refine (jmay_yes (m:=⟨k1,k2,k3,k4,k5,k6,k7,k8,k9,k10,k11,k12⟩) HJ.o HN.o HC.o S.o HK.o HB.o).mono ?_
 rintro e w2 ⟨rfl,x2⟩
 replace B1:=hI (B1.o.ext x2)
 replace HJ:=hI (HJ.o.ext x2)
 replace S:=hI (S.o.ext x2)
 replace HC:=hI (HC.o.ext x2)
 replace FM:=hI (FM.o.tr (Fm.ext FM.o.cl x2) (by unfold one;have:=H1.o;omega))
 clear x2 j17 d0 d1 d2 d3 d4 d5 d6 d7 d8 d9 d10 d11 d12
 have d0:=B1.o.c 0 _ rfl
 have d1:=B1.o.c 1 _ rfl
 have d2:=B1.o.c 2 _ rfl
 have d3:=B1.o.c 3 _ rfl
 have d4:=B1.o.c 4 _ rfl
 have d5:=B1.o.c 5 _ rfl
 have d6:=B1.o.c 6 _ rfl
 have d7:=B1.o.c 7 _ rfl
 have d8:=B1.o.c 8 _ rfl
 have d9:=B1.o.c 9 _ rfl
 have d10:=B1.o.c 10 _ rfl
 have d11:=B1.o.c 11 _ rfl
 have d12:=B1.o.c 12 _ rfl
 go_wp2_with fail
 refine (jown_any (m:=⟨k1,k2,k3,k4,k5,k6,k7,k8,k9,k10,k11,k12⟩) S.o.sl HL.o).mono ?_
 rintro e w3 ⟨p3,c3,rfl,x3⟩
 replace HJ:=hI (HJ.o.ext x3)
 replace FM:=hI (FM.o.tr (Fm.ext FM.o.cl x3) (by unfold one;have:=H1.o;omega))
 clear x3 d0 d1 d2 d3 d4 d5 d6 d7 d8 d9 d10 d11 d12
 have j4:=HJ.o.box.c 4 _ rfl
 have j5:=HJ.o.box.c 5 _ rfl
 have j6:=HJ.o.box.c 6 _ rfl
 have j7:=HJ.o.box.c 7 _ rfl
 have j8:=HJ.o.box.c 8 _ rfl
 have j9:=HJ.o.box.c 9 _ rfl
 have j10:=HJ.o.box.c 10 _ rfl
 have j11:=HJ.o.box.c 11 _ rfl
 have j12:=HJ.o.box.c 12 _ rfl
 have j13:=HJ.o.box.c 13 _ rfl
 have j14:=HJ.o.box.c 14 _ rfl
 have j15:=HJ.o.box.c 15 _ rfl
 have j16:=HJ.o.box.c 16 _ rfl
 have j17:=HJ.o.box.c 17 _ rfl
 have jf:=HJ.o.box.f
 go_upto_region 4 with fail
 change Code.wp _ _ _ _ ((fillV w3 g 4 (msL ⟨k1,k2,k3,k4,k5,k6,k7,k8,k9,k10,k11,k12⟩ p3 L.length c3)).setCell ⟨g,17,none⟩ (.bool true))
 have JW:=hI (HJ.o.word ⟨k1,k2,k3,k4,k5,k6,k7,k8,k9,k10,k11,k12⟩ p3 L.length c3)
 have FW:Hid (Fm (one cj) o o w3 ((fillV w3 g 4 (msL ⟨k1,k2,k3,k4,k5,k6,k7,k8,k9,k10,k11,k12⟩ p3 L.length c3)).setCell ⟨g,17,none⟩ (.bool true))):=hI (Fm.grown FM.o.cl (grown_put (fillV_grown g _ 4 w3 w3 (grown_refl _ _)) 17 _) (fun k hk=>by cases hk;rw [HJ.o.col];exact ⟨by have:=H1.o;omega,rfl⟩))
 have FF:=hI (FM.o.tr FW.o (by unfold one;have:=H1.o;omega))
 clear FW FM HJ j4 j5 j6 j7 j8 j9 j10 j11 j12 j13 j14 j15 j16 j17 jf
 generalize (fillV w3 g 4 (msL ⟨k1,k2,k3,k4,k5,k6,k7,k8,k9,k10,k11,k12⟩ p3 L.length c3)).setCell ⟨g,17,none⟩ (.bool true)=w4 at *
 go_wp2
 go_ret
 exact ⟨rfl,⟨_,_,_,_,JW.o⟩,FF.o⟩
end
end
section
open Go Go.Sort Go.RowKit
def knowN (s:NdD) (m:MsD) (L:List EnD):NdD:={ takeS { s with jg:=true } m L with kn:=true }
def stateO (s:NdD) (m:MsD) (L:List EnD):Option NdD:=
 if s.jg then none
 else if m.kd==11 then
  (if jmB s.id s.n s.bt s.jp m L&&takeB m L then (if hasT m.mb s.id then ackO (knowN s m L) m.fr 0 else some (knowN s m L)) else none)
 else some s
variable {w w4:World} {o o4:Ow} {k x wb jd:Nat} {A A':AdD} {s s':NdD}
theorem nstate_any (hcl:Cl w o) (hk:32≤k) (h:NodeP w o k x wb jd A s) {m:MsD} {p:Option Addr} {cap:Nat} {L:List EnD} (hsl:SlC 7 w o p L.length cap (L.map enL)) (hb:stateO s m L=some s') :
  Calls Tryz.prog 115 #[ptrN x,msV m p L.length cap] w fun e w'=>e=.returned (.tuple #[])∧∃ o' A',NodeP w' o' k x wb jd A' s'∧Fm (ndC k) o o' w w':=by
 unfold stateO at hb
 split at hb
 case isTrue=>cases hb
 rename_i hjg
 have HJG:=hI (Bool.eq_false_iff.2 hjg)
 obtain ⟨k1,k2,k3,k4,k5,k6,k7,k8,k9,k10,k11,k12⟩:=m
 simp only at hb
 have HB:=hI hb
 clear hb hjg
 have A0:=hI (Ext.alloc w (.cells (msA ⟨k1,k2,k3,k4,k5,k6,k7,k8,k9,k10,k11,k12⟩ p L.length cap) 76))
 have MB:=hI (BoxC.loose hcl (msA ⟨k1,k2,k3,k4,k5,k6,k7,k8,k9,k10,k11,k12⟩ p L.length cap) (msL ⟨k1,k2,k3,k4,k5,k6,k7,k8,k9,k10,k11,k12⟩ p L.length cap) 76 rfl)
 have H:=hI (h.ext A0.o)
 have S:=hI (hsl.ext A0.o)
 have M1:=hI (Fm.ext (C:=ndC k) hcl A0.o)
 have HK:=hI hk
 clear hcl h hsl hk
 go_enter Tryz.func115,Tryz.ntmps115
 go_upto_region 1 with fail
 change Code.wp _ _ _ _ (w.alloc (.cells (msA ⟨k1,k2,k3,k4,k5,k6,k7,k8,k9,k10,k11,k12⟩ p L.length cap) 76))
 clear A0
 generalize w.alloc (.cells (msA ⟨k1,k2,k3,k4,k5,k6,k7,k8,k9,k10,k11,k12⟩ p L.length cap) 76)=w1 at *
 generalize w.heap.size=mb at *
 have e11:∀ (b:Bool),s.jg=b→b=false:=fun b e=>by rw [← e];exact HJG.o
 obtain ⟨m0,p0,z0,cap0,jb⟩:=H.o.q.jn
 rw [HJG.o] at jb
 have HJ:=hI jb
 clear jb e11
 obtain ⟨W2,hW⟩:∃ W2,W2=w1.drew:=⟨_,rfl⟩
 have X2:Hid (Ext w1 W2):=hI (by rw [hW];exact Ext.drew w1)
 replace H:=hI (H.o.ext X2.o)
 replace S:=hI (S.o.ext X2.o)
 replace MB:=hI (MB.o.ext X2.o)
 replace HJ:=hI (HJ.o.ext X2.o)
 have g7:=H.o.g 7 _ rfl
 have gm0:=fun d os=>Ext.cell (Ext.reg W2 d os) (MB.o.box.c 0 _ rfl)
 have gm1:=fun d os=>Ext.cell (Ext.reg W2 d os) (MB.o.box.c 1 _ rfl)
 have gm2:=fun d os=>Ext.cell (Ext.reg W2 d os) (MB.o.box.c 2 _ rfl)
 have gm3:=fun d os=>Ext.cell (Ext.reg W2 d os) (MB.o.box.c 3 _ rfl)
 have gm4:=fun d os=>Ext.cell (Ext.reg W2 d os) (MB.o.box.c 4 _ rfl)
 have gm5:=fun d os=>Ext.cell (Ext.reg W2 d os) (MB.o.box.c 5 _ rfl)
 have gm6:=fun d os=>Ext.cell (Ext.reg W2 d os) (MB.o.box.c 6 _ rfl)
 have gm7:=fun d os=>Ext.cell (Ext.reg W2 d os) (MB.o.box.c 7 _ rfl)
 have gm8:=fun d os=>Ext.cell (Ext.reg W2 d os) (MB.o.box.c 8 _ rfl)
 have gm9:=fun d os=>Ext.cell (Ext.reg W2 d os) (MB.o.box.c 9 _ rfl)
 have gm10:=fun d os=>Ext.cell (Ext.reg W2 d os) (MB.o.box.c 10 _ rfl)
 have gm11:=fun d os=>Ext.cell (Ext.reg W2 d os) (MB.o.box.c 11 _ rfl)
 have gm12:=fun d os=>Ext.cell (Ext.reg W2 d os) (MB.o.box.c 12 _ rfl)
 refine att [0,4,1,2,3] [5,6] ?_
 rw [← hW]
 clear hW
 repeat ((first|refine aqq fun K hK=>?_|refine akk fun K hK=>?_);go_big_quiet_op;refine hK _ ?_;clear hK K)
 have M2:=hI (M1.o.tr (Fm.ext M1.o.cl X2.o) (nd0 HK.o))
 clear X2 M1
 refine ra_nil ?_
 by_cases h11:k1=11
 ·have HX:Hid ((if jmB s.id s.n s.bt s.jp ⟨k1,k2,k3,k4,k5,k6,k7,k8,k9,k10,k11,k12⟩ L&&takeB ⟨k1,k2,k3,k4,k5,k6,k7,k8,k9,k10,k11,k12⟩ L then (if hasT k7 s.id then ackO (knowN s ⟨k1,k2,k3,k4,k5,k6,k7,k8,k9,k10,k11,k12⟩ L) k2 0 else some (knowN s ⟨k1,k2,k3,k4,k5,k6,k7,k8,k9,k10,k11,k12⟩ L)) else none)=some s'):=hI (by
   have:=HB.o
   rw [if_pos (by simpa using h11)] at this
   exact this)
  have HK11:Hid ((⟨k1,k2,k3,k4,k5,k6,k7,k8,k9,k10,k11,k12⟩:MsD).kd=11):=hI h11
  clear h11 HB
  obtain ⟨hjm,htb,hrest⟩:jmB s.id s.n s.bt s.jp ⟨k1,k2,k3,k4,k5,k6,k7,k8,k9,k10,k11,k12⟩ L=true∧takeB ⟨k1,k2,k3,k4,k5,k6,k7,k8,k9,k10,k11,k12⟩ L=true∧(if hasT k7 s.id then ackO (knowN s ⟨k1,k2,k3,k4,k5,k6,k7,k8,k9,k10,k11,k12⟩ L) k2 0 else some (knowN s ⟨k1,k2,k3,k4,k5,k6,k7,k8,k9,k10,k11,k12⟩ L))=some s':=by
   have h1:=HX.o
   split at h1
   ·rename_i h2
    rw [Bool.and_eq_true] at h2
    exact ⟨h2.1,h2.2,h1⟩
   ·cases h1
  have HJM:=hI hjm
  have HTB:=hI htb
  have HR:=hI hrest
  clear hjm htb hrest HX
  refine too fun K hK=>?_
  go_simp
  refine (jhear_yes (m:=⟨k1,k2,k3,k4,k5,k6,k7,k8,k9,k10,k11,k12⟩) HJ.o (by omega) H.o.ok.n M2.o.cl S.o HK11.o HJM.o).mono ?_
  rintro e w3 ⟨rfl,jn3,m3⟩
  obtain ⟨N3,F3⟩:=NodeP.mod0 (A':=A) (s':={ s with jg:=true }) HK.o H.o m3 (fun d hd=>by unfold one at hd;unfold ndC;omega) (H.o.q.set_jn HK.o jn3 m3 (fun d hd=>.inl hd)) rfl { H.o.ok with id:=H.o.ok.id }
  have H3:=hI N3
  have S3:=hI (S.o.fr m3 (by unfold one;omega))
  have MB3:=hI (MB.o.fr m3 (by decide) (by unfold one;omega))
  have M3:=hI (M2.o.tr F3 (nd0 HK.o))
  clear N3 F3 jn3 m3 H S MB M2 HJ HJM g7 gm0 gm1 gm2 gm3 gm4 gm5 gm6 gm7 gm8 gm9 gm10 gm11 gm12
  refine hK _ _ ?_
  clear hK K
  refine too fun K hK=>?_
  go_simp
  refine hK _ _ ?_
  clear hK K
  refine rt_nil ?_
  obtain ⟨s3,hs3⟩:∃ s3:NdD,s3={ s with jg:=true }:=⟨_,rfl⟩
  have E3:Hid (s3.id=s.id∧knowN s ⟨k1,k2,k3,k4,k5,k6,k7,k8,k9,k10,k11,k12⟩ L={ takeS s3 ⟨k1,k2,k3,k4,k5,k6,k7,k8,k9,k10,k11,k12⟩ L with kn:=true }):=hI (by rw [hs3];exact ⟨rfl,rfl⟩)
  rw [← hs3] at H3
  clear hs3
  have d0:=MB3.o.box.c 0 _ rfl
  have d1:=MB3.o.box.c 1 _ rfl
  have d2:=MB3.o.box.c 2 _ rfl
  have d3:=MB3.o.box.c 3 _ rfl
  have d4:=MB3.o.box.c 4 _ rfl
  have d5:=MB3.o.box.c 5 _ rfl
  have d6:=MB3.o.box.c 6 _ rfl
  have d7:=MB3.o.box.c 7 _ rfl
  have d8:=MB3.o.box.c 8 _ rfl
  have d9:=MB3.o.box.c 9 _ rfl
  have d10:=MB3.o.box.c 10 _ rfl
  have d11:=MB3.o.box.c 11 _ rfl
  have d12:=MB3.o.box.c 12 _ rfl
  go_wp2_with fail
  refine (ntake_any' M3.o.cl HK.o H3.o S3.o HTB.o).mono ?_
  rintro e w4 ⟨rfl,o4,A4,n4,m4⟩
  have H4:=hI n4
  have M4:=hI (M3.o.tr m4 (nd0 HK.o))
  have MB4:=hI (MB3.o.fr m4 (by decide) (nd0 HK.o))
  clear d0 d1 d2 d3 d4 d5 d6 d7 d8 d9 d10 d11 d12
  clear n4 m4 H3 S3 MB3 M3 HTB
  obtain ⟨s4,hs4⟩:∃ s4,s4=takeS s3 ⟨k1,k2,k3,k4,k5,k6,k7,k8,k9,k10,k11,k12⟩ L:=⟨_,rfl⟩
  rw [← hs4] at H4
  have E4:Hid (s4.mb=k7∧s4.id=s.id∧knowN s ⟨k1,k2,k3,k4,k5,k6,k7,k8,k9,k10,k11,k12⟩ L={ s4 with kn:=true }):=hI (by rw [hs4];exact ⟨rfl,E3.o.1,E3.o.2⟩)
  clear hs4 E3
  have c8:=H4.o.c 8 _ rfl
  have f8:=H4.o.box.box.f 8
  obtain ⟨N5,F5⟩:=NodeP.mod (C:=fun _=>False) (A':=A4) (s':={ s4 with kn:=true }) HK.o H4.o (Fm.refl M4.o.cl) (fun d hd=>hd.elim) { H4.o.q with dk:=H4.o.q.dk } 8 (.bool true) rfl { H4.o.ok with id:=H4.o.ok.id }
  have H5:=hI N5
  have M5:=hI (M4.o.tr F5 (nd0 HK.o))
  have MB5:=hI (MB4.o.fr F5 (by decide) (nd0 HK.o))
  go_upto_region 4 with fail
  clear N5 F5 H4 M4 MB4 c8 f8
  generalize w4.setCell ⟨x,8,none⟩ (.bool true)=w5 at *
  obtain ⟨s5,hs5⟩:∃ s5:NdD,s5={ s4 with kn:=true }:=⟨_,rfl⟩
  rw [← hs5] at H5
  have E5:Hid (s5.mb=k7∧s5.id=s.id∧knowN s ⟨k1,k2,k3,k4,k5,k6,k7,k8,k9,k10,k11,k12⟩ L=s5):=hI (by rw [hs5];exact E4.o)
  clear hs5 E4
  obtain ⟨W6,hW⟩:∃ W6,W6=w5.drew:=⟨_,rfl⟩
  have X6:Hid (Ext w5 W6):=hI (by rw [hW];exact Ext.drew w5)
  replace H5:=hI (H5.o.ext X6.o)
  replace MB5:=hI (MB5.o.ext X6.o)
  have g12:∀ d os,(grow (redrawn W6 d) os).cell? ⟨x,12,none⟩=some (.int .i64 s5.mb):=H5.o.g 12 _ rfl
  have g0:∀ d os,(grow (redrawn W6 d) os).cell? ⟨x,0,none⟩=some (.int .i64 s5.id):=H5.o.g 0 _ rfl
  refine att [0,1,2,3,4,5,6,7,8] [] ?_
  rw [← hW]
  clear hW
  repeat ((first|refine aqq fun K hK=>?_|refine akk fun K hK=>?_);go_big_quiet_op;refine hK _ ?_;clear hK K)
  refine acc fun K hK=>?_
  go_simp
  refine (thas_any s5.mb s5.id H5.o.ok.mb ⟨H5.o.ok.id.1,by have h1:=H5.o.ok.id.2;have h2:=H5.o.ok.n.2;omega⟩ _).mono ?_
  rw [E5.o.1,E5.o.2.1]
  rintro e w7 ⟨rfl,rfl⟩
  refine hK _ _ (Ext.rfl' _) ?_;clear hK K
  refine ra_nil ?_
  refine rt_nil ?_
  have M6:=hI (M5.o.tr (Fm.ext M5.o.cl X6.o) (nd0 HK.o))
  clear M5 X6 g12 g0
  cases hh:hasT k7 s.id
  ·have hss:s5=s':=by
    have:=HR.o
    rw [hh,E5.o.2.2] at this
    exact Option.some.inj this
   have N9:=hI H5.o
   rw [hss] at N9
   clear hss hh
   go_wp2
   refine bodyPost_end (v:=.tuple #[]) (by simp [results,Tryz.results115,go_sem]) rfl ?_
   exact ⟨rfl,_,_,N9.o,M6.o⟩
  ·have HACK:Hid (ackO s5 k2 0=some s'):=hI (by
    have:=HR.o
    rw [hh,E5.o.2.2] at this
    exact this)
   clear hh
   have d1:=MB5.o.box.c 1 _ rfl
   go_wp2_with fail
   refine (nack_any M6.o.cl HK.o H5.o HACK.o).mono ?_
   rintro e w9 ⟨rfl,o9,A9,n9,f9⟩
   have N9:=hI n9
   have F9:=hI (M6.o.tr f9 (nd0 HK.o))
   clear n9 f9
   go_wp2
   refine bodyPost_end (v:=.tuple #[]) (by simp [results,Tryz.results115,go_sem]) rfl ?_
   exact ⟨rfl,o9,A9,N9.o,F9.o⟩
 ·have hss:s=s':=by
   have:=HB.o
   rw [if_neg (by simpa using h11)] at this
   exact Option.some.inj this
  have HK11:Hid ((⟨k1,k2,k3,k4,k5,k6,k7,k8,k9,k10,k11,k12⟩:MsD).kd≠11):=hI h11
  clear h11 HB
  refine too fun K hK=>?_
  go_simp
  refine (jhear_no (m:=⟨k1,k2,k3,k4,k5,k6,k7,k8,k9,k10,k11,k12⟩) (p:=p) (k:=L.length) (cap:=cap) HJ.o HK11.o).mono ?_
  rintro e w3 ⟨rfl,x3⟩
  have N9:=hI (H.o.ext x3)
  rw [hss] at N9
  have M9:=hI (M2.o.tr (Fm.ext M2.o.cl x3) (nd0 HK.o))
  clear hss x3 H S MB M2 HJ g7 gm0 gm1 gm2 gm3 gm4 gm5 gm6 gm7 gm8 gm9 gm10 gm11 gm12
  refine hK _ _ ?_
  clear hK K
  refine too fun K hK=>?_
  go_simp
  refine hK _ _ ?_
  clear hK K
  refine rt_nil ?_
  go_wp2
  refine bodyPost_ret (v:=.tuple #[]) (by simp [results,Tryz.results115,go_sem]) rfl ?_
  first | exact ⟨rfl,o,A,N9.o,M9.o⟩ | exact ⟨rfl,o,⟨A,N9.o⟩,M9.o⟩
end
section
open Go Go.Sort Go.RowKit
def hearO (s:NdD):(MsD × List EnD) ⊕ Int→Option (List (MsD × List EnD) × NdD)
 | .inr c=>if c==0 then none else some ([],s)
 | .inl (m,L)=>if decide (m.kd≠12)&&decide (1≤m.fr∧m.fr≤7) then (if s.kn then hearsO { s with bs:=s.bs.set m.fr.toNat m.bt } m L else stateO { s with bs:=s.bs.set m.fr.toNat m.bt } m L).bind didO else none
variable {w w4:World} {o o4:Ow} {k x wb jd:Nat} {A A':AdD} {s s':NdD}
theorem nHear_any (hcl:Cl w o) (hk:32≤k) (h:NodeP w o k x wb jd A s) {p:Option Addr} {n cap:Nat} {b:List UInt8} (hb:SlP w p n cap b) (hn:n≤6000) {R:(MsD × List EnD) ⊕ Int} (hR:hearR s.id s.bs.at b=R) {ms:List (MsD × List EnD)} (hs:hearO s R=some (ms,s')) :
  Calls Tryz.prog 87 #[ptrN x,.slice p n cap] w fun e w'=>∃ o' A' p cap,e=.returned (.slice p ms.length cap)∧OutV w' o' (k+16) p cap ms∧NodeP w' o' k x wb jd A' s'∧Fm (ndC k) o o' w w':=by
 have HE:=hear_any h.q.gr.box hb hn
 rw [hR] at HE
 have HEAR:=hI HE
 have H:=hI h
 have HK:=hI hk
 have HC:=hI hcl
 have HS:=hI hs
 have c6:=h.c 6 _ rfl
 clear HE h hk hcl hs hR hb
 go_enter Tryz.func87,Tryz.ntmps87
 go_wp2_with fail
 refine HEAR.o.mono ?_
 cases R with
 | inr c=>
  rintro e w2 ⟨rfl,b2,gr2⟩
  have m2:=Fm.grown (C:=one (k+1)) HC.o gr2 (fun g hg=>by cases hg;rw [H.o.q.gr.col];exact ⟨by have:=HK.o;omega,rfl⟩)
  have HX:Hid (c≠0∧ms=[]∧s=s'):=hI (by
   have:=HS.o
   unfold hearO at this
   simp only at this
   split at this
   ·cases this
   ·rename_i h1
    cases this
    exact ⟨fun e=>h1 (by simp [e]),rfl,rfl⟩)
  have hc0:(c != 0)=true:=by simpa using HX.o.1
  have hc1:(c==0)=false:=by simpa using HX.o.1
  have H2:=hI ((NodeP.mod0 (A':=A) (s':=s) HK.o H.o m2 (fun d hd=>by unfold one at hd;unfold ndC;omega) (H.o.q.set_gr (xbs:=s.bs) HK.o ⟨H.o.q.gr.col,b2⟩ m2 (fun d hd=>.inl hd)) rfl H.o.ok).1)
  clear b2 gr2 c6 HS HEAR
  go_wp2
  go_ret
  obtain ⟨-,rfl,rfl⟩:=HX.o
  exact ⟨o,A,none,0,rfl,OutV.none _ _ _,H2.o.ext (Ext.alloc w2 _),(m2.mono (fun d hd=>by unfold one at hd;unfold ndC;omega)).tr (Fm.ext m2.cl (Ext.alloc w2 _)) (nd0 HK.o)⟩
 | inl mL=>
  obtain ⟨m,L⟩:=mL
  rintro e w2 ⟨p2,cap2,rfl,ow2,en2,mok2,b2,gr2⟩
  have m2:=Fm.grown (C:=one (k+1)) HC.o gr2 (fun g hg=>by cases hg;rw [H.o.q.gr.col];exact ⟨by have:=HK.o;omega,rfl⟩)
  have HX1:=HS.o
  unfold hearO at HX1
  simp only at HX1
  split at HX1
  case isFalse=>cases HX1
  rename_i hcc
  simp only [Bool.and_eq_true,decide_eq_true_eq] at hcc
  have HCC:=hI hcc
  have HX:=hI HX1
  obtain ⟨s3,hs3⟩:∃ s3:NdD,s3={ s with bs:=s.bs.set m.fr.toNat m.bt }:=⟨_,rfl⟩
  have S2:=hI (SlC.fresh ow2 HC.o (Nat.le_refl _))
  obtain ⟨N2,F2⟩:=NodeP.mod0 (A':=A) (s':={ s with bs:=s.bs.set m.fr.toNat m.bt }) HK.o H.o m2 (fun d hd=>by unfold one at hd;unfold ndC;omega) (H.o.q.set_gr HK.o ⟨H.o.q.gr.col,by rw [← E8.upd s.bs (by have:=HCC.o.2;omega)];exact b2⟩ m2 (fun d hd=>.inl hd)) rfl { H.o.ok with id:=H.o.ok.id }
  rw [← hs3] at N2 HX
  have KN:Hid (s.kn=s3.kn):=hI (by rw [hs3])
  have NJ:=hI N2
  have MJ:=hI F2
  clear N2 F2 b2 gr2 m2 ow2 en2 mok2 HS HX1 hcc hs3 c6 HEAR H HC
  obtain ⟨s4,hhe,hdid⟩:=Option.bind_eq_some_iff.1 HX.o
  have HHE:=hI hhe
  have HD:=hI hdid
  clear hhe hdid HX
  obtain ⟨k1,k2,k3,k4,k5,k6,k7,k8,k9,k10,k11,k12⟩:=m
  simp only at HCC
  go_upto_region 7 with fail
  change Code.wp _ _ _ _ (w2.alloc (.cells (msA ⟨k1,k2,k3,k4,k5,k6,k7,k8,k9,k10,k11,k12⟩ p2 L.length cap2) 76))
  have A1:=hI (Ext.alloc w2 (.cells (msA ⟨k1,k2,k3,k4,k5,k6,k7,k8,k9,k10,k11,k12⟩ p2 L.length cap2) 76))
  have MB:=hI (BoxC.loose MJ.o.cl (msA ⟨k1,k2,k3,k4,k5,k6,k7,k8,k9,k10,k11,k12⟩ p2 L.length cap2) (msL ⟨k1,k2,k3,k4,k5,k6,k7,k8,k9,k10,k11,k12⟩ p2 L.length cap2) 76 rfl)
  replace NJ:=hI (NJ.o.ext A1.o)
  replace S2:=hI (S2.o.ext A1.o)
  replace MJ:=hI (MJ.o.tr (Fm.ext MJ.o.cl A1.o) (nd0 HK.o))
  clear A1
  generalize w2.alloc (.cells (msA ⟨k1,k2,k3,k4,k5,k6,k7,k8,k9,k10,k11,k12⟩ p2 L.length cap2) 76)=w3 at *
  generalize w2.heap.size=mb at *
  have e12:(k1==12)=false:=by have:=HCC.o.1;simpa using this
  have c8:=NJ.o.c 8 _ rfl
  have d0:=MB.o.box.c 0 _ rfl
  have d1:=MB.o.box.c 1 _ rfl
  have d2:=MB.o.box.c 2 _ rfl
  have d3:=MB.o.box.c 3 _ rfl
  have d4:=MB.o.box.c 4 _ rfl
  have d5:=MB.o.box.c 5 _ rfl
  have d6:=MB.o.box.c 6 _ rfl
  have d7:=MB.o.box.c 7 _ rfl
  have d8:=MB.o.box.c 8 _ rfl
  have d9:=MB.o.box.c 9 _ rfl
  have d10:=MB.o.box.c 10 _ rfl
  have d11:=MB.o.box.c 11 _ rfl
  have d12:=MB.o.box.c 12 _ rfl
  cases hkn:s3.kn
  ·rw [hkn] at c8
   have HST:Hid (stateO s3 ⟨k1,k2,k3,k4,k5,k6,k7,k8,k9,k10,k11,k12⟩ L=some s4):=hI (by
    have:=HHE.o
    rw [KN.o,hkn] at this
    exact this)
   clear hkn HHE
   go_wp2_with fail
   refine (nstate_any MJ.o.cl HK.o NJ.o S2.o HST.o).mono ?_
   rintro e w5 ⟨rfl,o5,A5,n5,m5⟩
   have NN:=hI n5
   have MM5:=hI (MJ.o.tr m5 (nd0 HK.o))
   clear n5 m5 d0 d1 d2 d3 d4 d5 d6 d7 d8 d9 d10 d11 d12 c8
   go_wp2_with fail
   refine (ndid_any MM5.o.cl HK.o NN.o HD.o).mono ?_
   rintro e w90 ⟨o90,A90,p90,c90,rfl,ou90,n90,m90⟩
   have OU90:=hI ou90
   have N90:=hI n90
   have M90:=hI (MM5.o.tr m90 (nd0 HK.o))
   clear ou90 n90 m90
   go_wp2
   go_ret
   exact ⟨o90,A90,p90,c90,rfl,OU90.o,N90.o,M90.o⟩
  ·rw [hkn] at c8
   have HHS:Hid (hearsO s3 ⟨k1,k2,k3,k4,k5,k6,k7,k8,k9,k10,k11,k12⟩ L=some s4):=hI (by
    have:=HHE.o
    rw [KN.o,hkn] at this
    exact this)
   clear hkn HHE
   go_wp2_with fail
   refine (nhears_any MJ.o.cl HK.o NJ.o S2.o HHS.o).mono ?_
   rintro e w5 ⟨rfl,o5,A5,n5,m5⟩
   have NN:=hI n5
   have MM5:=hI (MJ.o.tr m5 (nd0 HK.o))
   clear n5 m5 d0 d1 d2 d3 d4 d5 d6 d7 d8 d9 d10 d11 d12 c8
   go_wp2_with fail
   refine (ndid_any MM5.o.cl HK.o NN.o HD.o).mono ?_
   rintro e w90 ⟨o90,A90,p90,c90,rfl,ou90,n90,m90⟩
   have OU90:=hI ou90
   have N90:=hI n90
   have M90:=hI (MM5.o.tr m90 (nd0 HK.o))
   clear ou90 n90 m90
   go_wp2
   go_ret
   exact ⟨o90,A90,p90,c90,rfl,OU90.o,N90.o,M90.o⟩
end
section
open Go Go.Sort Go.RowKit
def newN (id n bt dv:Int):NdD:={ id:=id,n:=n,bt:=bt,ck:=0,hd:=0,bs:=E8.all 0,kn:=bt==1,L:=[],cm:=0,ls:=0,mb:=0,sq:=0,P:=[],T:=[],tm:=0,f:=newP (bt * 1048576),v:=none,dn:=0,ag:=false,mi:=false,q:=none,st:=0,ac:=0,er:=E8.all 0,ak:=[],out:=[],dv:=dv,jp:=dv,jg:=false }
abbrev mkL (id n bt:Int) (wb jd:Nat) (kn:Bool) (g l p r t:Nat) (J F:Value):List Value:=[.int .i64 id,.int .i64 n,.pointer (some ⟨wb,jd,none⟩),.int .i64 bt,.int .i64 0,.int .i64 0,ptrN g,J,.bool kn,ptrN l,.int .i64 0,.int .i64 0,.int .i64 0,ptrN p,ptrN r,ptrN t,F,.pointer none,.int .i64 0,.bool false,.bool false,.pointer none,.int .i64 0,.int .i64 0,.int .i64 0,.int .i64 0,.int .i64 0,.int .i64 0,.int .i64 0,.int .i64 0,.int .i64 0,.int .i64 0,.slice none 0 0,.slice none 0 0]
abbrev mkA (id n bt:Int) (wb jd:Nat) (kn:Bool) (g l p r t:Nat) (J F:Value):Array Value:=#[.int .i64 id,.int .i64 n,.pointer (some ⟨wb,jd,none⟩),.int .i64 bt,.int .i64 0,.int .i64 0,ptrN g,J,.bool kn,ptrN l,.int .i64 0,.int .i64 0,.int .i64 0,ptrN p,ptrN r,ptrN t,F,.pointer none,.int .i64 0,.bool false,.bool false,.pointer none,.int .i64 0,.int .i64 0,.int .i64 0,.int .i64 0,.int .i64 0,.int .i64 0,.int .i64 0,.int .i64 0,.int .i64 0,.int .i64 0,.slice none 0 0,.slice none 0 0]
theorem E8.all_at (v:Int) (i:Nat):(E8.all v).at i=if i<8 then v else 0:=by
 by_cases h:i<8
 ·rw [if_pos h]
  rcases lt8 h with rfl | rfl | rfl | rfl | rfl | rfl | rfl | rfl <;> rfl
 ·rw [if_neg h]
  obtain ⟨m,rfl⟩:∃ m,i=m+8:=⟨i-8,by omega⟩
  rfl
theorem newN_ok {id n bt dv:Int} (hid:1≤id∧id≤n) (hn:3≤n∧n≤7) (hb:1≤bt∧bt≤1000) (hdv:0≤dv∧dv≤1000000000):NdOk (newN id n bt dv):=by
 have z0:0≤(0:Int)∧(0:Int)≤1000000:=by omega
 exact ⟨hid,hn,hb,z0,z0,(by show 0≤(0:Int)∧(0:Int)≤60;omega),(by show 0≤(0:Int)∧(0:Int)≤1000000000;omega),(by show isT 0;unfold isT;omega),z0,(by show 0≤(0:Int)∧(0:Int)≤1000000000;omega),(by show 0≤(0:Int)∧(0:Int)≤60;omega),(by show isT 0;unfold isT;omega),(fun i=>by show 0≤(E8.all 0).at i∧(E8.all 0).at i≤1000000;rw [E8.all_at];split <;> omega),hdv,(fun e he=>by cases he),(fun e he=>by cases he),(Nat.zero_le _),(Nat.zero_le _),(Nat.zero_le _),(Nat.zero_le _),(by show 0≤(bt * 1048576:Int)∧(bt * 1048576:Int)≤1099511626776;omega),z0⟩
theorem isI_yes' {z:Int} (h:1≤z∧z≤7):isI z=true:=by simp [isI,h]
theorem decT1 {n:Int} (hn:3≤n∧n≤7):decT 1 n=1:=by
 have:n=3∨n=4∨n=5∨n=6∨n=7:=by omega
 rcases this with rfl | rfl | rfl | rfl | rfl <;> decide
variable {w w4:World} {o o4:Ow} {k x wb jd:Nat} {A A':AdD} {s s':NdD}
theorem nmake_any (hcl:Cl w o) (hk:32≤k) {id n bt dv:Int} (hid:1≤id∧id≤n) (hn:3≤n∧n≤7) (hb:0≤bt∧bt<1000) (hdv:0≤dv∧dv≤1000000000) (hd:DkV w o (k+13) wb jd bt dv) :
  Calls Tryz.prog 101 #[.int .i64 id,.int .i64 n,.pointer (some ⟨wb,jd,none⟩)] w fun e w'=>∃ o' x A',e=.returned (.tuple #[ptrN x,.int .i64 0])∧NodeP w' o' k x wb jd A' (newN id n (bt+1) dv)∧Fm (ndC k) o o' w w':=by
 have HK:=hI hk
 have IDS:=hI (And.intro hid (And.intro hn (And.intro hb hdv)))
 have HC:=hI hcl
 have D:=hI hd
 have e1:(decT 1 n==0)=false:=by rw [decT1 hn];rfl
 have e2:decide (id<1)=false:=decide_eq_false (by omega)
 have e3:decide (n<id)=false:=decide_eq_false (by omega)
 have e4:(bt+1==0)=false:=by simp;omega
 have IS:=isI_yes' (z:=id) ⟨hid.1,by omega⟩
 have IDI:Hid (isId id):=hI ⟨hid.1,by omega⟩
 clear hcl hk hid hn hb hdv hd
 go_enter Tryz.func101,Tryz.ntmps101
 go_wp2_with fail
 refine (tdec_any 1 n (by omega) IDS.o.2.1 _).mono ?_
 rintro e w0 ⟨rfl,rfl⟩
 go_wp2_with fail
 refine (dstart_any HC.o D.o ⟨IDS.o.2.2.1.1,by have:=IDS.o.2.2.1.2;omega⟩).mono ?_
 rintro e w1 ⟨rfl,dk1,m1⟩
 have D1:=hI dk1
 have M1:=hI (m1.mono (C':=ndC k) (fun d hd=>by unfold one at hd;unfold ndC;omega))
 clear dk1 m1 D HC
 go_wp2_with fail
 refine (gnew_any id w1).mono ?_
 rintro e w2 ⟨hg,-,x2⟩
 obtain ⟨rfl,bg⟩:=hg IS
 obtain ⟨g,hgg⟩:∃ g,g=w1.heap.size:=⟨_,rfl⟩
 rw [← hgg] at bg ⊢
 have G2:Hid (BoxC w2 (dye o g (k+1)) (k+1) g (grL id (E8.all 0).at zP)):=hI ⟨dye_same _ _ _,bg.base (Nat.zero_le _)⟩
 have F2:=(Fm.ext (C:=fun _=>False) M1.o.cl x2).paint (k+1) (b:=g) (by omega) (by have:=bg.hi;omega)
 have M2:=hI (M1.o.tr (F2.mono (C':=ndC k) (fun d e=>e.elim)) (nd0 HK.o))
 have D2:=hI (D1.o.fr F2 (fun e=>e))
 clear F2 hgg bg hg x2 M1 D1
 generalize dye o g (k+1)=o2 at *
 go_wp2_with fail
 refine (lnew_any (c:=k+2) (M:=[]) (L:=[]) M2.o.cl (by have:=HK.o;omega) (SlC.empty 7 _ _) (fun e he=>by cases he) rfl).mono ?_
 rintro e w3 ⟨o3,l,rfl,lg,-,F3⟩
 have M3:=hI (M2.o.tr (F3.mono (C':=ndC k) (fun d e=>by unfold two at e;unfold ndC;omega)) (nd0 HK.o))
 have D3:=hI (D2.o.fr F3 (by unfold two;have:=HK.o;omega))
 have G3:=hI (G2.o.fr F3 (by have:=HK.o;omega) (by unfold two;have:=HK.o;omega))
 have L3:=hI lg
 clear F3 lg M2 D2 G2
 go_wp2_with fail
 refine (nnewp_any M3.o.cl (k+4) (fun _=>False) IDI.o (by have:=IDS.o.2.2.1;omega)).mono ?_
 rintro e w4 ⟨o4,rfl,pn,F4⟩
 generalize w3.heap.size=p at *
 have M4:=hI (M3.o.tr (F4.mono (C':=ndC k) (fun d e=>e.elim)) (nd0 HK.o))
 have D4:=hI (D3.o.fr F4 (fun e=>e))
 have G4:=hI (G3.o.fr F4 (by have:=HK.o;omega) (fun e=>e))
 have L4:=hI (L3.o.fr F4 (by have:=HK.o;omega) (fun e=>e) (fun e=>e))
 have Q4:=hI pn
 clear F4 pn M3 D3 G3 L3
 go_wp2_with fail
 refine (rnew_any M4.o.cl (k+6) (fun _=>False)).mono ?_
 rintro e w5 ⟨o5,rfl,rd,F5⟩
 generalize w4.heap.size=r at *
 have M5:=hI (M4.o.tr (F5.mono (C':=ndC k) (fun d e=>e.elim)) (nd0 HK.o))
 have D5:=hI (D4.o.fr F5 (fun e=>e))
 have G5:=hI (G4.o.fr F5 (by have:=HK.o;omega) (fun e=>e))
 have L5:=hI (L4.o.fr F5 (by have:=HK.o;omega) (fun e=>e) (fun e=>e))
 have Q5:=hI (Q4.o.fr' F5 (by have:=HK.o;omega) (fun e=>e) (fun e=>e))
 have R5:=hI rd
 clear F5 rd M4 D4 G4 L4 Q4
 go_wp2_with fail
 refine (tnew_any M5.o.cl (k+8) (fun _=>False)).mono ?_
 rintro e w7 ⟨o7,t,rfl,tb,F7⟩
 have M7:=hI (M5.o.tr (F7.mono (C':=ndC k) (fun d e=>e.elim)) (nd0 HK.o))
 have D7:=hI (D5.o.fr F7 (fun e=>e))
 have G7:=hI (G5.o.fr F7 (by have:=HK.o;omega) (fun e=>e))
 have L7:=hI (L5.o.fr F7 (by have:=HK.o;omega) (fun e=>e) (fun e=>e))
 have Q7:=hI (Q5.o.fr' F7 (by have:=HK.o;omega) (fun e=>e) (fun e=>e))
 have R7:=hI (R5.o.fr F7 (by have:=HK.o;omega) (fun e=>e) (fun e=>e))
 have T7:=hI tb
 clear F7 tb M5 D5 G5 L5 Q5 R5
 go_upto_region 7 with fail
 change Code.wp _ _ _ _ (w7.alloc (.cells (mkA id n (bt+1) wb jd (bt+1==1) g l p r t (.pointer none) (.pointer none)) 100))
 have F8:=hI (Fm.made (C:=fun _=>False) M7.o.cl (.cells (mkA id n (bt+1) wb jd (bt+1==1) g l p r t (.pointer none) (.pointer none)) 100) k)
 have X8:=hI (BoxC.made w7 o7 k (mkA id n (bt+1) wb jd (bt+1==1) g l p r t (.pointer none) (.pointer none)) (mkL id n (bt+1) wb jd (bt+1==1) g l p r t (.pointer none) (.pointer none)) 100 rfl)
 have M8:=hI (M7.o.tr (F8.o.mono (C':=ndC k) (fun d e=>e.elim)) (nd0 HK.o))
 have D8:=hI (D7.o.fr F8.o (fun e=>e))
 have G8:=hI (G7.o.fr F8.o (by have:=HK.o;omega) (fun e=>e))
 have L8:=hI (L7.o.fr F8.o (by have:=HK.o;omega) (fun e=>e) (fun e=>e))
 have Q8:=hI (Q7.o.fr' F8.o (by have:=HK.o;omega) (fun e=>e) (fun e=>e))
 have R8:=hI (R7.o.fr F8.o (by have:=HK.o;omega) (fun e=>e) (fun e=>e))
 have T8:=hI (T7.o.fr F8.o (by have:=HK.o;omega) (fun e=>e))
 clear D7 G7 L7 Q7 R7 T7
 clear F8
 generalize w7.alloc (.cells (mkA id n (bt+1) wb jd (bt+1==1) g l p r t (.pointer none) (.pointer none)) 100)=w8 at *
 generalize w7.heap.size=x at *
 generalize dye o7 x k=o8 at *
 go_wp2_with fail
 refine (dview_any D8.o).mono ?_
 rintro e w9 ⟨rfl,rfl⟩
 go_wp2_with fail
 refine (jnew_any M8.o.cl (k+17) (fun _=>False) IDS.o.2.1 IDS.o.1 (by have:=IDS.o.2.2.1;omega) (by have:=IDS.o.2.2.2;omega)).mono ?_
 rintro e w9 ⟨o9,rfl,j9,F9⟩
 generalize w8.heap.size=j at *
 have J9:=hI j9
 have M9:=hI (M8.o.tr (F9.mono (C':=ndC k) (fun d e=>e.elim)) (nd0 HK.o))
 have D9:=hI (D8.o.fr F9 (fun e=>e))
 have G9:=hI (G8.o.fr F9 (by have:=HK.o;omega) (fun e=>e))
 have L9:=hI (L8.o.fr F9 (by have:=HK.o;omega) (fun e=>e) (fun e=>e))
 have Q9:=hI (Q8.o.fr' F9 (by have:=HK.o;omega) (fun e=>e) (fun e=>e))
 have R9:=hI (R8.o.fr F9 (by have:=HK.o;omega) (fun e=>e) (fun e=>e))
 have T9:=hI (T8.o.fr F9 (by have:=HK.o;omega) (fun e=>e))
 have X9:=hI (X8.o.fr F9 (by have:=HK.o;omega) (fun e=>e))
 clear D8 G8 L8 Q8 R8 T8 X8
 clear F9 j9
 have c7:=X9.o.box.c 7 _ rfl
 have f7:=X9.o.box.f 7
 have P10:=hI (Fm.put (C:=one k) M9.o.cl X9.o (by have:=HK.o;omega) rfl 7 (ptrN j))
 have X10:=hI (X9.o.put 7 (ptrN j))
 have h1k:¬ one k 0:=by unfold one;have:=HK.o;omega
 have D10:=hI (D9.o.fr P10.o (by unfold one;have:=HK.o;omega))
 have G10:=hI (G9.o.fr P10.o (by have:=HK.o;omega) (by unfold one;have:=HK.o;omega))
 have L10:=hI (L9.o.fr P10.o (by have:=HK.o;omega) (by unfold one;have:=HK.o;omega) (by unfold one;have:=HK.o;omega))
 have Q10:=hI (Q9.o.fr' P10.o (by have:=HK.o;omega) (by unfold one;have:=HK.o;omega) (by unfold one;have:=HK.o;omega))
 have R10:=hI (R9.o.fr P10.o (by have:=HK.o;omega) (by unfold one;have:=HK.o;omega) (by unfold one;have:=HK.o;omega))
 have T10:=hI (T9.o.fr P10.o (by have:=HK.o;omega) (by unfold one;have:=HK.o;omega))
 have J10:=hI (J9.o.fr P10.o (by have:=HK.o;omega) (by unfold one;have:=HK.o;omega))
 clear D9 G9 L9 Q9 R9 T9 J9
 have M10:=hI (M9.o.tr (P10.o.mono (C':=ndC k) (fun d hd=>by unfold one at hd;unfold ndC;omega)) (nd0 HK.o))
 go_upto_region 8 with fail
 clear c7 f7 P10 X9 M9
 generalize w9.setCell ⟨x,7,none⟩ (ptrN j)=w10 at *
 have hmul:wrap64 ((bt+1) * 1048576)=(bt+1) * 1048576:=by have:=IDS.o.2.2.1;unfold wrap64;omega
 go_wp2_with fail
 refine (pnew_any M10.o.cl (k+9) (fun _=>False) ((bt+1) * 1048576)).mono ?_
 rintro e w11 ⟨o11,rfl,f11',F11⟩
 generalize w10.heap.size=f at *
 have PF11:=hI f11'
 have M11:=hI (M10.o.tr (F11.mono (C':=ndC k) (fun d e=>e.elim)) (nd0 HK.o))
 have D11:=hI (D10.o.fr F11 (fun e=>e))
 have G11:=hI (G10.o.fr F11 (by have:=HK.o;omega) (fun e=>e))
 have L11:=hI (L10.o.fr F11 (by have:=HK.o;omega) (fun e=>e) (fun e=>e))
 have Q11:=hI (Q10.o.fr' F11 (by have:=HK.o;omega) (fun e=>e) (fun e=>e))
 have R11:=hI (R10.o.fr F11 (by have:=HK.o;omega) (fun e=>e) (fun e=>e))
 have T11:=hI (T10.o.fr F11 (by have:=HK.o;omega) (fun e=>e))
 have J11:=hI (J10.o.fr F11 (by have:=HK.o;omega) (fun e=>e))
 have X11:=hI (X10.o.fr F11 (by have:=HK.o;omega) (fun e=>e))
 clear D10 G10 L10 Q10 R10 T10 J10 X10
 clear F11 f11'
 have c16:=X11.o.box.c 16 _ rfl
 have f16:=X11.o.box.f 16
 have P12:=hI (Fm.put (C:=one k) M11.o.cl X11.o (by have:=HK.o;omega) rfl 16 (ptrN f))
 have X12:=hI (X11.o.put 16 (ptrN f))
 have D12:=hI (D11.o.fr P12.o (by unfold one;have:=HK.o;omega))
 have G12:=hI (G11.o.fr P12.o (by have:=HK.o;omega) (by unfold one;have:=HK.o;omega))
 have L12:=hI (L11.o.fr P12.o (by have:=HK.o;omega) (by unfold one;have:=HK.o;omega) (by unfold one;have:=HK.o;omega))
 have Q12:=hI (Q11.o.fr' P12.o (by have:=HK.o;omega) (by unfold one;have:=HK.o;omega) (by unfold one;have:=HK.o;omega))
 have R12:=hI (R11.o.fr P12.o (by have:=HK.o;omega) (by unfold one;have:=HK.o;omega) (by unfold one;have:=HK.o;omega))
 have T12:=hI (T11.o.fr P12.o (by have:=HK.o;omega) (by unfold one;have:=HK.o;omega))
 have J12:=hI (J11.o.fr P12.o (by have:=HK.o;omega) (by unfold one;have:=HK.o;omega))
 have PF12:=hI (PF11.o.fr P12.o (by have:=HK.o;omega) (by unfold one;have:=HK.o;omega) (by unfold one;have:=HK.o;omega))
 clear D11 G11 L11 Q11 R11 T11 J11 PF11
 have M12:=hI (M11.o.tr (P12.o.mono (C':=ndC k) (fun d hd=>by unfold one at hd;unfold ndC;omega)) (nd0 HK.o))
 go_wp2
 go_ret2
 refine ⟨o11,x,⟨g,j,l,p,r,t,f,none,none,none,0,none,0⟩,rfl,⟨X12.o,⟨D12.o,G12.o,L12.o,Q12.o,R12.o,T12.o,PF12.o,rfl,rfl,RowC.nil _ _ _ _ _,OutV.none _ _ _,J12.o⟩,newN_ok IDS.o.1 IDS.o.2.1 (by have:=IDS.o.2.2.1;omega) IDS.o.2.2.2⟩,M12.o⟩
end
end Go.Proofs.YtjhbmbbmjaabcaaGreat
